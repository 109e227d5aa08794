/- Steps to pointsMake_card. -/
import Derived.Test.YtckjndkmmfmjjaaGreatDoorPureC
import Derived.Lib.LaidIn
import Derived.Shelf.SlSortCmp.WholeK
import Derived.Lib.ItoaNum
import Derived.Lib.UnsafeStr
set_option linter.all false
open Go.IntKind (i64)
set_option maxRecDepth 100000
set_option maxHeartbeats 32000000
namespace Go.Pure
open Go
def lQ:List Int->Prop
 |[]=>True|[_]=>True|a::b::r=>a<b∧lQ (b::r)
variable{a:Int}
def pW{r:List Int}(h:lQ (a::r)):lQ r∧∀x∈r,a<x:=by
 induction r generalizing a with
 |nil=>exact⟨trivial,λx hx=>absurd hx cF⟩
 |cons b r ih=>
  obtain⟨h1,h2⟩:=h;refine⟨h2,λx hx=>?_⟩;rcases bN.1 hx with rfl|hx
  exact h1;have:=(ih h2).2 x hx;omega
def mg:List Int->Int->Nat
 |[],_=>0|a::r,v=>if a<v then mg r v+1 else 0
def Ad:∀(l:List Int) (v:Int),mg l v<=l.length
 |[],_=>aZ _|a::r,v=>by have:=Ad r v;rw[mg];split<;>simp<;>omega
variable{v:Int}
def r9{r:List Int}(h:¬a<v):mg (a::r) v=0:=by rw[mg,aV h]
def tC{r:List Int}(h:a<v):mg (a::r) v=mg r v+1:=by rw[mg,aW h]
def mN(E:List Int)(v:Int):Nat:=2*mg E v+(if v∈E then 1 else 0)
def agj{r:List Int}(h:lQ (a::r))(hv:v<=a):v∈a::r↔v=a:=by
 refine⟨λhm=>?_,λhm=>hm▸bE ..⟩;rcases bN.1 hm with rfl|hm
 rfl;have:=(pW h).2 v hm;omega
def AP{r:List Int}(h:lQ (a::r))(hv:v<a):mN (a::r) v=0:=by unfold mN;rw[r9 ab,aV (by rw[agj h ab];omega)]
def Ky{r:List Int}:mN (a::r) a=1:=by unfold mN;rw[r9 ab,aW (bE ..)]
def Kz{r:List Int}(hv:a<v):mN (a::r) v=mN r v+2:=by unfold mN;rw[tC hv];by_cases hm:v∈r;rw[aW hm,aW (bw _ hm)];omega;rw[aV hm,aV (by rw[bN];rintro(h|h);omega;exact hm h)];omega
def l6(u:Int)(mid:Int->Int->Int):List Int->List Int
 |[]=>[]|[a]=>[a,a+u]|a::b::r=>a::mid a b::l6 u mid (b::r)
def jN(u:Int)(mid:Int->Int->Int):List Int->List Int
 |[]=>[0]|a::r=>(a-u)::l6 u mid (a::r)
def Np(P:List Int)(v:Int):Nat:=
 if mg P v=P.length then mg P v-1 else if P[mg P v]?=some v∨mg P v%2=0 then mg P v else mg P v-1
def KA{u:Int}{mid:Int->Int->Int}(hu:0<u):∀{a:Int} {r:List Int} {v:Int},lQ (a::r)->(∀x y,x<y->x∈a::r->y∈a::r->x<mid x y∧mid x y<y)->
  mN (a::r) v=(if mg (l6 u mid (a::r)) v=(l6 u mid (a::r)).length then mg (l6 u mid (a::r)) v else if(l6 u mid (a::r))[mg (l6 u mid (a::r)) v]?=some v∨(mg (l6 u mid (a::r)) v+1)%2=0 then mg (l6 u mid (a::r)) v+1 else mg (l6 u mid (a::r)) v)
 |a,[],v,h,_=>by
  rw[l6];rcases eZ a v with h1|h1|h1
  rw[Kz h1,tC h1];by_cases h2:a+u<v;rw[tC h2];simp[mN,mg];rw[r9 h2];simp[mN,mg];subst h1;rw[Ky,r9 ab];simp;rw[AP h h1,r9 ab];simp;omega
 |a,b::r,v,h,hm=>by
  obtain⟨lr,hr⟩:=h;have ih:=KA (u:=u) (mid:=mid) hu (a:=b) (r:=r) (v:=v) hr (λx y G1 hx hy=>hm x y G1 (bw _ hx) (bw _ hy));obtain⟨m1,m2⟩:=hm a b lr (bE ..) (bw _ (bE ..));rw[show l6 u mid (a::b::r)=a::mid a b::l6 u mid (b::r)from rfl];rcases eZ a v with h1|h1|h1
  ·rw[Kz h1,tC h1];by_cases h2:mid a b<v
   ·rw[tC h2,ih];have:=Ad (l6 u mid (b::r)) v;generalize l6 u mid (b::r)=T at *
    simp only[bu,c7];generalize mg T v=c at *
    rw[show(c+1+1+1)%2=(c+1)%2 by omega];by_cases hc:c=T.length;rw[aW hc,aW (show c+1+1=T.length+1+1 by omega)];rw[aV hc,aV (show ¬c+1+1=T.length+1+1 by omega)];by_cases h3:T[c]?=some v∨(c+1)%2=0;rw[aW h3,aW h3];rw[aV h3,aV h3]
   rw[r9 h2,AP hr ab];simp
  subst h1;rw[Ky,r9 ab];simp;rw[AP (show lQ (a::b::r)from⟨lr,hr⟩) h1,r9 ab];simp;omega
variable{u:Int}{mid:Int->Int->Int}{E:List Int}
def RW(hu:0<u)(h:lQ E)(hm:∀x y,x<y->x∈E->y∈E->x<mid x y∧mid x y<y):Np (jN u mid E) v=mN E v:=by
 cases E with
 |nil=>
  show Np [0] v=0;unfold Np;by_cases h1:0<v;rw[tC h1];simp[mg];rw[r9 h1];simp
 |cons a r=>
  have ht:=KA hu h hm (v:=v);rw[jN,Np];by_cases h1:a-u<v
  ·rw[tC h1];rw[ht];have:=Ad (l6 u mid (a::r)) v;generalize l6 u mid (a::r)=T at *
   simp only[bu,c7,gC];generalize mg T v=c at *
   by_cases hc:c=T.length;rw[aW ab,aW hc];rw[aV ab,aV hc]
  rw[r9 h1,AP h ab];simp
def Ao(u:Int)(mid:Int->Int->Int):∀(a:Int) (r:List Int),(l6 u mid (a::r)).length=2*r.length+2
 |_,[]=>rfl|a,b::r=>by rw[show l6 u mid (a::b::r)=a::mid a b::l6 u mid (b::r)from rfl];simp only[bu];rw[Ao u mid b r];omega
def Y5(u:Int)(mid:Int->Int->Int)(h:lQ E):mN E v<(jN u mid E).length:=by
 cases E with
 |nil=>simp[jN,mN,mg]
 |cons a r=>
  rw[jN,bu,Ao];unfold mN;have h1:=Ad (a::r) v;simp only[bu]at h1;by_cases hm:v∈a::r
  ·rw[aW hm];have:mg (a::r) v≠r.length+1:=by
    intro hc;have key:∀(l:List Int),mg l v=l.length->∀x∈l,x<v:=by
     intro l;induction l with
     |nil=>intro _ x hx;exact absurd hx cF
     |cons y s ih=>
      intro hl x hx;by_cases hy:y<v
      ·rw[tC hy]at hl;rcases bN.1 hx with rfl|hx
       exact hy;exact ih (by simpa using hl) x hx
      rw[r9 hy]at hl;simp at hl
    have:=key (a::r) (by simpa using hc) v hm;omega
   omega
  rw[aV hm];omega
abbrev TX:=List UInt8
def uf(a b:TX):Prop:=Op.bytesLess a b=true
instance(a b:TX):Decidable (uf a b):=inferInstanceAs (Decidable (_=true))
def pd(a:TX):¬uf a a:=by unfold uf;rw[wV];decide
def s7{a b c:TX}(h1:uf a b)(h2:uf b c):uf a c:=zi a b c h1 h2
def CE(a b:TX):uf a b∨a=b∨uf b a:=by have h:=BP a b;unfold uf;cases h1:Op.bytesLess a b;cases h2:Op.bytesLess b a;right;left;rw[h1,h2]at h;by_cases e:a=b;exact e;simp[e]at h;exact .inr (.inr rfl);exact .inl rfl
def C9{a b:TX}(h:uf a b):¬uf b a:=λh2=>pd a (s7 h h2)
def CF{a b:TX}(h:¬uf a b):b=a∨uf b a:=by
 rcases CE a b with h1|h1|h1
 exact absurd h1 h;exact .inl h1.symm;exact .inr h1
def lF(a:TX):TX:=a++[0]
def Hv:∀(a v:TX),uf v (lF a)↔ ¬uf a v
 |[],[]=>by unfold uf lF;decide
 |[],x::s=>by
  unfold uf lF;rw[show([]:TX)++[0]=[0]from rfl,oE];have h1:¬x<0:=λh=>by have:=eG.1 h;simp at this
  have h2:Op.bytesLess s []=false:=by cases s<;>rfl
  simp[h1,h2,Op.bytesLess]
 |y::r,[]=>by unfold uf lF;simp[Op.bytesLess]
 |y::r,x::s=>by
  have ih:=Hv r s;unfold uf lF at ih⊢;rw[dQ,oE,oE];rcases OV x y with⟨h1,h2,h3⟩|h|⟨h1,h2,h3⟩
  simp[h1,h2,h3,ij h3];subst h;have hi:¬x<x:=λh=>(by have:=eG.1 h;omega);simp only[hi,decide_false,Bool.false_or,beq_self_eq_true,Bool.true_and];exact ih;simp[h1,h2,h3,ij h3]
def lt_next(a:TX):uf a (lF a):=(Hv a a).2 (pd a)
def mD:List TX->Prop
 |[]=>True|[_]=>True|a::b::r=>uf a b∧mD (b::r)
def pX{a:TX}{r:List TX}(h:mD (a::r)):mD r∧∀x∈r,uf a x:=by
 induction r generalizing a with
 |nil=>exact⟨trivial,λx hx=>absurd hx cF⟩
 |cons b r ih=>
  obtain⟨h1,h2⟩:=h;refine⟨h2,λx hx=>?_⟩;rcases bN.1 hx with rfl|hx
  exact h1;exact s7 h1 ((ih h2).2 x hx)
def yJ:List TX->TX->Nat
 |[],_=>0|a::r,v=>if uf v a then 0 else yJ r v+1
def Tw:∀(l:List TX) (v:TX),yJ l v<=l.length
 |[],_=>aZ _|a::r,v=>by have:=Tw r v;rw[yJ];split<;>simp<;>omega
def qv:TX->List TX->List TX
 |_,[]=>[]|a,v::r=>if a=v then lF v::qv (lF v) r else v::lF v::qv (lF v) r
def jZ(E:List TX):List TX:=[]::qv [] E
def FL:∀{E:List TX} {a:TX},mD E->(∀e∈E,¬uf e a)->mD (a::qv a E)
 |[],_,_,_=>trivial
 |v::r,a,hr,h=>by
  obtain⟨kP,hv⟩:=pX hr;have ih:=FL (E:=r) (a:=lF v) kP λe he h1=>by rw[Hv]at h1;exact h1 (hv e he)
  have Jm:=h v (bE ..);rw[qv];by_cases e:a=v;subst e;rw[aW rfl];exact⟨lt_next a,ih⟩
  ·rw[aV e];refine⟨?_,lt_next v,ih⟩;rcases CF Jm with h1|h1
   exact absurd h1 e;exact h1
def Mx(a:TX):¬uf a []:=by unfold uf;cases a<;>simp[Op.bytesLess]
def tM{E:List TX}(h:mD E):mD (jZ E):=FL h λe _=>Mx e
def EK:∀{E:List TX} {a:TX},∀e∈E,e∈a::qv a E∧lF e∈qv a E
 |[],_,e,he=>absurd he cF
 |v::r,a,e,he=>by
  rw[qv];rcases bN.1 he with rfl|he
  by_cases h:a=e;subst h;rw[aW rfl];exact⟨bE ..,bE ..⟩;rw[aV h];exact⟨bw _ (bE ..),bw _ (bE ..)⟩;obtain⟨h1,h2⟩:=EK (E:=r) (a:=lF v) e he;by_cases h:a=v;rw[aW h];exact⟨bw _ h1,bw _ h2⟩;rw[aV h];exact⟨bw _ (bw _ h1),bw _ (bw _ h2)⟩
def Ie:∀{E:List TX} {a:TX},∀p∈qv a E,p∈E∨∃e∈E,p=lF e
 |[],_,p,hp=>absurd hp cF
 |v::r,a,p,hp=>by
  have key:p=v∨p=lF v∨p∈qv (lF v) r:=by
   rw[qv]at hp;by_cases h:a=v
   ·rw[aW h]at hp;rcases bN.1 hp with h|h
    exact .inr (.inl h);exact .inr (.inr h)
   ·rw[aV h]at hp;rcases bN.1 hp with h|h
    exact .inl h
    ·rcases bN.1 h with h|h
     exact .inr (.inl h);exact .inr (.inr h)
  rcases key with h|h|h
  exact .inl (h▸bE ..);exact .inr ⟨v,bE ..,h⟩
  ·rcases Ie (E:=r) (a:=lF v) p h with h|⟨e,he,h⟩
   exact .inl (bw _ h);exact .inr ⟨e,bw _ he,h⟩
def vP(E:List TX)(v:TX):Nat:=yJ (jZ E) v-1
def Y6(E:List TX)(v:TX):yJ (jZ E) v=vP E v+1:=by
 have:1<=yJ (jZ E) v:=by rw[jZ,yJ,aV (Mx v)];omega
 unfold vP;omega
def iY:iD->Int
 |.mk k _ _ _ _ _=>k
def lX(V:ByteArray->Bool):iD->Int
 |.mk k y c e t l=>if(kJ V (.mk k y c e t l) 0 1).2≠0 then(kJ V (.mk k y c e t l) 0 1).2 else if k=5 then 8 else if k=3 then(if 0<s6 (c.natAbs:Int) e 1 9∨e< -6 then 3 else 0)else 0
mutual
def kG(V:ByteArray->Bool):iJ->Nat->Int
 |.mk k a b _ _ kids,d=>
  if 4<d then 4 else if k=1 then 0 else if k=2 then lX V a
  else if 3<=k∧k<=6 then(if lX V a≠0 then lX V a else if iY a=3∨iY a=4 then 0 else 9)
  else if k=7 then(if lX V a≠0 then lX V a else if lX V b≠0 then lX V b else if(iY a=3∨iY a=4)∧iY a=iY b then 0 else 9)
  else if k=8∨k=9 then(if kids.length<1∨20<kids.length then 5 else pe V kids (d+1))
  else 1
def pe(V:ByteArray->Bool):List iJ->Nat->Int
 |[],_=>0|t::r,d=>if kG V t d≠0 then kG V t d else pe V r d
end
mutual
def tY:iJ->Int->Bool
 |.mk k a _ _ _ kids,ty=>if k=1 then true else if k=8∨k=9 then uF kids ty else decide (ty=6∨iY a=1∨(if iY a=2∨iY a=3∨iY a=4 then iY a else 0)=ty)
def uF:List iJ->Int->Bool
 |[],_=>true|t::r,ty=>tY t ty&&uF r ty
end
mutual
def jt(kd:Int):iJ->List iD
 |.mk k a b _ _ kids=>(if k=8∨k=9 then uj kd kids else [])++((if(2<=k∧k<=7)∧iY a=kd then [a]else [])++(if k=7∧iY b=kd then [b]else []))
def uj(kd:Int):List iJ->List iD
 |[]=>[]|t::r=>jt kd t++uj kd r
end
def AQ(V:ByteArray->Bool)(k:Int)(a b:iD)(oa ob:Bool)(kids:List iJ)(d:Nat):kG V (.mk k a b oa ob kids) d=
  if 4<d then 4 else if k=1 then 0 else if k=2 then lX V a
  else if 3<=k∧k<=6 then(if lX V a≠0 then lX V a else if iY a=3∨iY a=4 then 0 else 9)
  else if k=7 then(if lX V a≠0 then lX V a else if lX V b≠0 then lX V b else if(iY a=3∨iY a=4)∧iY a=iY b then 0 else 9)
  else if k=8∨k=9 then(if kids.length<1∨20<kids.length then 5 else pe V kids (d+1))
  else 1:=kG.eq_def V (.mk k a b oa ob kids) d
def OW(k:Int)(a b:iD)(oa ob:Bool)(kids:List iJ)(ty:Int):tY (.mk k a b oa ob kids) ty=
  if k=1 then true else if k=8∨k=9 then uF kids ty else decide (ty=6∨iY a=1∨(if iY a=2∨iY a=3∨iY a=4 then iY a else 0)=ty):=tY.eq_def (.mk k a b oa ob kids) ty
def uM(kd k:Int)(a b:iD)(oa ob:Bool)(kids:List iJ):jt kd (.mk k a b oa ob kids)=
  (if k=8∨k=9 then uj kd kids else [])++((if(2<=k∧k<=7)∧iY a=kd then [a]else [])++(if k=7∧iY b=kd then [b]else [])):=jt.eq_def kd (.mk k a b oa ob kids)
def FM{kd:Int}:∀{l:List iJ} {a:iD},a∈uj kd l↔ ∃t∈l,a∈jt kd t
 |[],a=>by simp[uj]|t::r,a=>by simp[uj,FM (l:=r)]
def ow:iD->Int
 |.mk _ _ c e _ _=>iR c e
def nN:iD->TX
 |.mk _ _ _ _ t _=>t.toList
end Go.Pure
namespace Go.Pure
def mA(c e:Int):Int×Int:=
 if h:c≠0∧c.tmod 10=0 then mA (c.tdiv 10) (e+1)else(c,e)
termination_by c.natAbs
decreasing_by have h1:=Int.natAbs_tdiv c 10;rw[h1];exact Nat.div_lt_self ab af
variable{c e:Int}
def vl(h:¬(c≠0∧c.tmod 10=0)):mA c e=(c,e):=by rw[mA,dif_neg h]
def vm(h:c≠0∧c.tmod 10=0):mA c e=mA (c.tdiv 10) (e+1):=by rw[mA,dif_pos h]
def OX(h:c.tmod 10=0):c=c.tdiv 10*10:=by have:=Int.mul_tdiv_add_tmod c 10;omega
def Hw:∀(n:Nat) (c e:Int),c.natAbs<=n-> -40<=e->iR (mA c e).1 (mA c e).2=iR c e∧(mA c e).1.natAbs<=c.natAbs∧e<=(mA c e).2∧((mA c e).1=0↔c=0)∧((mA c e).1≠0->(mA c e).1.tmod 10≠0)∧(c=0->(mA c e).2=e):=by
 intro n;induction n with
 |zero=>
  intro c e h he;have:c=0:=ab
  subst this;rw[vl aa];exact⟨rfl,aZ _,fK _,Iff.rfl,λh=>absurd rfl h,λ_=>rfl⟩
 |succ n ih=>
  intro c e h he;by_cases hc:c≠0∧c.tmod 10=0
  ·rw[vm hc];have OY:=OX hc.2;generalize c.tdiv 10=q at *
   obtain⟨a1,a2,a3,a4,a5,_⟩:=ih q (e+1) ab ab;refine⟨?_,by omega,by omega,by omega,a5,λh=>absurd h hc.1⟩;rw[a1,OY];unfold iR;rw[show(e+1+40).toNat=(e+40).toNat+1 by omega,Int.pow_succ,cO,ez (10^(e+40).toNat)]
  rw[vl hc];refine⟨rfl,aZ _,fK _,Iff.rfl,λh0 h1=>hc ⟨h0,h1⟩,λ_=>rfl⟩
def RX(he: -40<=e)(h:(iR c e).natAbs<10^81)(h0:c≠0):e<=40:=by refine Int.le_of_not_gt λoJ=>?_;unfold iR at h;rw[dI,fo]at h;have h1:(10:Nat)^81<=(10:Int).natAbs^(e+40).toNat:=cf af ab;have h2:1*(10:Int).natAbs^(e+40).toNat<=c.natAbs*(10:Int).natAbs^(e+40).toNat:=bg _ ab;omega
def FN(hc: -999999999999999999<=c∧c<=999999999999999999)(he: -40<=e)(h:(iR c e).natAbs<10^81)(h0:c≠0):iZ (mA c e).1 (mA c e).2=0∧iR (mA c e).1 (mA c e).2=iR c e∧(mA c e).2<=40:=by obtain⟨a1,a2,a3,a4,a5,_⟩:=Hw c.natAbs c e (aZ _) he;have hn:(mA c e).1≠0:=λh=>h0 (a4.1 h);have QO:=RX (c:=(mA c e).1) (e:=(mA c e).2) ab (by rw[a1];exact h) hn;refine⟨?_,a1,QO⟩;unfold iZ;rw[aV ab,aV (by simp[hn]),aV (λh=>a5 hn h.2)]
def BA(n exp:Int):Nat->Int->Int
 |0,e=>e|k+1,e=>if(n*((10^(exp-e).toNat:Nat):Int)).natAbs<=999999999999999999 then e else BA n exp k (e+1)
def My{n exp:Int}(hn:n.natAbs<=999999999999999999):∀(k:Nat) (e:Int),e+k=exp->e<=BA n exp k e∧BA n exp k e<=exp∧(n*((10^(exp-BA n exp k e).toNat:Nat):Int)).natAbs<=999999999999999999∧
  ∀e',e<=e'->e'<BA n exp k e->¬(n*((10^(exp-e').toNat:Nat):Int)).natAbs<=999999999999999999
 |0,e,h=>by
  have:e=exp:=ab
  subst this;refine⟨fK _,fK _,?_,λe' h1 h2=>by rw[BA]at h2;omega⟩;rw[BA,show e-e=0 by omega];simpa using hn
 |k+1,e,h=>by rw[BA];by_cases hf:(n*((10^(exp-e).toNat:Nat):Int)).natAbs<=999999999999999999;rw[aW hf];exact⟨fK _,by omega,hf,λe' h1 h2=>ab⟩;rw[aV hf];obtain⟨a1,a2,a3,a4⟩:=My (exp:=exp) hn k (e+1) ab;refine⟨by omega,a2,a3,λe' h1 h2=>?_⟩;by_cases he:e'=e;subst he;exact hf;exact a4 e' ab h2
def BB(n exp:Int):Int×Int:=mA (n*((10^(exp-BA n exp (exp+40).toNat (-40)).toNat:Nat):Int)) (BA n exp (exp+40).toNat (-40))
variable{exp:Int}
def Da{n:Int}(hn:n.natAbs<=999999999999999999)(he: -40<=exp)(h:(iR n exp).natAbs<10^81)(h0:n≠0):iZ (BB n exp).1 (BB n exp).2=0∧iR (BB n exp).1 (BB n exp).2=iR n exp∧(BB n exp).2<=40:=by
 obtain⟨a1,a2,a3,_⟩:=My (exp:=exp) hn (exp+40).toNat (-40) ab;unfold BB;generalize BA n exp (exp+40).toNat (-40)=e at *
 have hd:iR (n*((10^(exp-e).toNat:Nat):Int)) e=iR n exp:=by rw[rq (m:=e) (c:=n) (e:=exp) ab ab];rfl
 have hp:(0:Int)<((10^(exp-e).toNat:Nat):Int):=by have:=dt (n:=(exp-e).toNat) (show 0<10 by decide);omega
 obtain⟨b1,b2,b3⟩:=FN (c:=n*((10^(exp-e).toNat:Nat):Int)) (e:=e) ab a1 (by rw[hd];exact h) (λhz=>by
  rcases Int.mul_eq_zero.1 hz with hz|hz
  exact h0 hz;omega)
 exact⟨b1,by rw[b2,hd],b3⟩
end Go.Pure
namespace Go.Pure
open Go
def lA(k:Int):Int×Int:=if k=0 then(0,0)else mA k (-40)
def KB{c:Int}(h0:c≠0)(h:c.tmod 10≠0):∀(n:Nat) (m:Int),mA (c*10^n) m=(c,m+n)
 |0,m=>by rw[Int.pow_zero,Int.mul_one,vl (λq=>h q.2)];simp
 |n+1,m=>by
  have e:c*10^(n+1)=c*10^n*10:=by rw[Int.pow_succ,cO]
  have hp:(0:Int)<10^n:=gA af;have hn:c*10^n*10≠0:=fG (fG h0 (fZ hp)) af;rw[e,vm ⟨hn,Int.mul_tmod_left _ _⟩,Int.mul_tdiv_cancel _ af,KB h0 h n (m+1)];congr 1;push_cast;omega
variable{c e:Int}
def Gr(h:iZ c e=0):lA (iR c e)=(c,e):=by obtain⟨⟨_,_,h1,_⟩,h2,h3⟩:=jT h;unfold lA iR;by_cases h0:c=0;rw[h0,gP,aW rfl,h2 h0];have hp:(0:Int)<10^(e+40).toNat:=gA af;rw[aV (fG h0 (fZ hp)),KB h0 (h3 h0)];congr 1;omega
variable{k:Int}
def Tx(h:iZ c e=0)(hk:iR c e=k):lA k=(c,e):=hk▸Gr h
def DU(n exp:Int):Int×Int:=if n=0 then(0,0)else BB n exp
variable{exp:Int}
def KC{n:Int}(hn:n.natAbs<=999999999999999999)(he: -40<=exp)(h:(iR n exp).natAbs<10^81):DU n exp=lA (iR n exp):=by unfold DU;by_cases h0:n=0;subst h0;rw[aW rfl];unfold iR lA;rw[gP,aW rfl];rw[aV h0];obtain⟨a1,a2,_⟩:=Da hn he h h0;have:=Tx a1 a2;rw[this]
def kn(k:Int):iD:=.mk 3 false (lA k).1 (lA k).2 ⟨#[]⟩ []
def CG(h:iZ c e=0):kn (iR c e)=.mk 3 false c e ⟨#[]⟩ []:=by unfold kn;rw[Gr h]
def mh:Int:=10^40
def pf(a b:Int):Int:=(a+b)/2
def SmallK(k:Int):Prop:= ∃m:Int,k=m*10^34∧m.natAbs<=1000000000000000
def DV:∀{l r:List Int},lQ l->lQ r->(∀x,x∈l↔x∈r)->l=r
 |[],[],_,_,_=>rfl|[],b::r,_,_,h=>absurd ((h b).2 (bE ..)) cF|a::l,[],_,_,h=>absurd ((h a).1 (bE ..)) cF
 |a::l,b::r,hl,hr,h=>by
  obtain⟨sx,Jj⟩:=pW hl;obtain⟨nV,nh⟩:=pW hr;have lr:a=b:=by
   rcases bN.1 ((h a).1 (bE ..))with e|e
   exact e
   ·rcases bN.1 ((h b).2 (bE ..))with f|f
    exact f.symm;have:=Jj b f;have:=nh a e;omega
  subst lr;rw[DV sx nV λx=>?_];refine⟨λhx=>?_,λhx=>?_⟩
  ·rcases bN.1 ((h x).1 (bw _ hx))with rfl|e
   have:=Jj x hx;omega;exact e
  ·rcases bN.1 ((h x).2 (bw _ hx))with rfl|e
   have:=nh x hx;omega;exact e
def wW:∀{l r:List TX},mD l->mD r->(∀x,x∈l↔x∈r)->l=r
 |[],[],_,_,_=>rfl|[],b::r,_,_,h=>absurd ((h b).2 (bE ..)) cF|a::l,[],_,_,h=>absurd ((h a).1 (bE ..)) cF
 |a::l,b::r,hl,hr,h=>by
  obtain⟨sx,Jj⟩:=pX hl;obtain⟨nV,nh⟩:=pX hr;have lr:a=b:=by
   rcases bN.1 ((h a).1 (bE ..))with e|e
   exact e
   ·rcases bN.1 ((h b).2 (bE ..))with f|f
    exact f.symm;exact absurd (nh a e) (C9 (Jj b f))
  subst lr;rw[wW sx nV λx=>?_];refine⟨λhx=>?_,λhx=>?_⟩
  ·rcases bN.1 ((h x).1 (bw _ hx))with rfl|e
   exact absurd (Jj x hx) (pd x);exact e
  ·rcases bN.1 ((h x).2 (bw _ hx))with rfl|e
   exact absurd (nh x hx) (pd x);exact e
def ky{α:Type}(lt:α->α->Bool):List α->α->List α
 |[],v=>[v]|a::r,v=>if lt a v then a::ky lt r v else if lt v a then v::a::r else a::r
def Ty:∀{l:List Int} {v:Int},lQ l->lQ (ky (λa b=>decide (a<b)) l v)∧∀x,x∈ky (λa b=>decide (a<b)) l v↔x=v∨x∈l
 |[],v,_=>⟨trivial,λx=>by simp[ky]⟩
 |a::r,v,h=>by
  obtain⟨h1,h2⟩:=pW h;have cons:∀{a:Int} {l:List Int},lQ l->(∀x∈l,a<x)->lQ (a::l):=fun{a l} hl hx=>by
   cases l with
   |nil=>trivial|cons b l=>exact⟨hx b (bE ..),hl⟩
  rw[ky];rcases eZ a v with q|q|q
  ·obtain⟨i1,i2⟩:=Ty (v:=v) h1;rw[aW (bU q)];refine⟨cons i1 λx hx=>?_,λx=>?_⟩
   ·rcases(i2 x).1 hx with rfl|hx
    exact q;exact h2 x hx
   rw[bN,bN,i2];exact⟨λq=>by rcases q with q|q|q<;>simp[q],λq=>by rcases q with q|q|q<;>simp[q]⟩
  subst q;rw[aV aa,aV aa];exact⟨h,λx=>aa⟩;rw[aV ad,aW (bU q)];refine⟨⟨q,h⟩,λx=>aa⟩
def Gs:∀{l:List TX} {v:TX},mD l->mD (ky (λa b=>Op.bytesLess a b) l v)∧∀x,x∈ky (λa b=>Op.bytesLess a b) l v↔x=v∨x∈l
 |[],v,_=>⟨trivial,λx=>by simp[ky]⟩
 |a::r,v,h=>by
  obtain⟨h1,h2⟩:=pX h;have cons:∀{a:TX} {l:List TX},mD l->(∀x∈l,uf a x)->mD (a::l):=fun{a l} hl hx=>by
   cases l with
   |nil=>trivial|cons b l=>exact⟨hx b (bE ..),hl⟩
  rw[ky];rcases CE a v with q|q|q
  ·obtain⟨i1,i2⟩:=Gs (v:=v) h1;rw[aW (show Op.bytesLess a v=true from q)];refine⟨cons i1 λx hx=>?_,λx=>?_⟩
   ·rcases(i2 x).1 hx with rfl|hx
    exact q;exact h2 x hx
   rw[bN,bN,i2];exact⟨λq=>by rcases q with q|q|q<;>simp[q],λq=>by rcases q with q|q|q<;>simp[q]⟩
  subst q;rw[aV (show ¬Op.bytesLess a a=true from pd a),aV (show ¬Op.bytesLess a a=true from pd a)];exact⟨h,λx=>aa⟩;rw[aV (show ¬Op.bytesLess a v=true from λq2=>C9 q q2),aW (show Op.bytesLess v a=true from q)];exact⟨⟨q,h⟩,λx=>aa⟩
def Ig{u:Int}{mid:Int->Int->Int}:∀{a:Int} {r:List Int} {j:Nat},(l6 u mid (a::r))[2*j]?=(a::r)[j]?
 |a,[],0=>rfl|a,[],j+1=>by rw[show 2*(j+1)=2*j+1+1 by omega];simp[l6]|a,b::r,0=>rfl|a,b::r,j+1=>by rw[show 2*(j+1)=2*j+1+1 by omega,show l6 u mid (a::b::r)=a::mid a b::l6 u mid (b::r)from rfl,c7,c7,c7];exact Ig
variable{u:Int}{mid:Int->Int->Int}{E:List Int}{j:Nat}
def Ap:(jN u mid E)[2*j+1]?=E[j]? :=by
 cases E with
 |nil=>simp[jN]|cons a r=>rw[jN,c7];exact Ig
def mZ(u:Int)(mid:Int->Int->Int)(E:List Int):(jN u mid E).length=2*E.length+1:=by
 cases E with
 |nil=>rfl|cons a r=>rw[jN,bu,Ao,bu];omega
def uk:∀{E:List Int} {v e:Int} {j:Nat},lQ E->E[j]?=some e->(e<v↔j<mg E v)
 |[],_,_,_,_,h=>by simp at h|a::r,v,e,0,_,h=>by simp at h;subst h;rw[mg];by_cases q:a<v;rw[aW q];exact⟨λ_=>ab,λ_=>q⟩;rw[aV q];exact⟨λh=>absurd h q,λh=>ab⟩
 |a::r,v,e,j+1,hr,h=>by
  obtain⟨kP,ha⟩:=pW hr;have h':r[j]?=some e:=by simpa using h
  have:=ha e (aY h');rw[mg];by_cases q:a<v;rw[aW q,uk kP h'];omega;rw[aV q];omega
variable{v:Int}
def acb(h:lQ E):v∈E↔E[mg E v]?=some v:=by
 refine⟨λhm=>?_,aY⟩;obtain⟨j,hj⟩:=bt hm;have h1:¬j<mg E v:=λq=>by have:=(uk h hj).2 q;omega
 have h2:mg E v<=j:=ab
 by_cases e:mg E v=j;rw[e];exact hj
 ·exfalso;have iI:mg E v<E.length:=by
   have:=(aR.1 hj).1;omega
  obtain⟨x,hx⟩:∃x,E[mg E v]?=some x:=⟨_,aS iI⟩;have h3:x<v:=by
   have hp:∀{E:List Int} {i j:Nat} {a b:Int},lQ E->E[i]?=some a->E[j]?=some b->i<j->a<b:=by
    intro E;induction E with
    |nil=>intro i j a b _ h;simp at h
    |cons c r ih=>
     intro i j a b hr h1 h2 zN;obtain⟨kP,hc⟩:=pW hr;match i,j,zN with
     |0,j+1,_=>simp at h1 h2;subst h1;exact hc b (aY h2)|i+1,j+1,zN=>exact ih kP (by simpa using h1) (by simpa using h2) ab
   exact hp h hx hj ab
  have:=(uk h hx).1 h3;omega
def nY(P:List Int)(v:Int)(i:Nat):Bool:=
 if i%2=1 then decide (P.getD i 0=v)else decide ((i=0∨P.getD (i-1) 0<v)∧(i+1=P.length∨v<P.getD (i+1) 0))
def F3(P:List Int)(v:Int):Nat->Nat
 |0=>0|k+1=>if nY P v k then k else F3 P v k
variable{i:Nat}
def getD_some{α:Type}{l:List α}{a d:α}(h:l[i]?=some a):l.getD i d=a:=by rw[dE,h];rfl
def Vl(h:lQ E)(hi:i<(jN u mid E).length):nY (jN u mid E) v i=true↔mN E v=i:=by
 have hl:=mZ u mid E;have hc:=Ad E v;have hm:=acb (v:=v) h;have ho:∀j,(jN u mid E)[2*j+1]?=E[j]? :=λj=>Ap;rw[hl]at hi;unfold nY mN;rw[hl];generalize jN u mid E=P at *
 have hg:∀j,j<E.length->∃e,E[j]?=some e∧P.getD (2*j+1) 0=e:=λj hj=>⟨_,aS hj,getD_some (by rw[ho,aS hj])⟩;by_cases BC:i%2=1
 ·rw[aW BC];obtain⟨j,rfl⟩:∃j,i=2*j+1:=⟨i/2,by omega⟩;obtain⟨e,he,hp⟩:=hg j ab;rw[hp];constructor
  ·intro q;have q:=aU q;subst q;have rH:e∈E:=aY he;rw[aW rH];have h1:¬j<mg E e:=λq=>(by have:=(uk h he).2 q;omega);have h2:=hm.1 rH;have h3:mg E e<E.length:=(aR.1 h2).1;by_cases hx:mg E e=j;omega
   ·exfalso;obtain⟨r1,r2⟩:=aR.1 he;have iI:mg E e<j:=ab;have UM:∀{E:List Int} {i j:Nat} {a b:Int},lQ E->E[i]?=some a->E[j]?=some b->i<j->a<b:=by
     intro E;induction E with
     |nil=>intro i j a b _ h;simp at h
     |cons c r ih=>
      intro i j a b hr h1 h2 zN;obtain⟨kP,hc⟩:=pW hr;match i,j,zN with
      |0,j+1,_=>simp at h1 h2;subst h1;exact hc b (aY h2)|i+1,j+1,zN=>exact ih kP (by simpa using h1) (by simpa using h2) ab
    have:=UM h h2 he iI;omega
  intro q;split at q;rename_i rH;have hj:mg E v=j:=ab;have:=hm.1 rH;rw[hj,he]at this;exact bU (cE this);omega
 ·rw[aV BC];obtain⟨j,rfl⟩:∃j,i=2*j:=⟨i/2,by omega⟩;have ad3:0<j->∃e,E[j-1]?=some e∧P.getD (2*j-1) 0=e:=λhj=>by
   obtain⟨e,h1,h2⟩:=hg (j-1) ab;rw[show 2*(j-1)+1=2*j-1 by omega]at h2;exact⟨e,h1,h2⟩
  constructor
  ·intro q;obtain⟨q1,q2⟩:=aU q;have vD:j<=mg E v:=by
    by_cases hj:j=0;omega;obtain⟨e,h1,h2⟩:=ad3 ab;rw[h2]at q1;have:=(uk (v:=v) h h1).1 ab;omega
   by_cases hj:j=E.length
   ·have hcj:mg E v=j:=ab;have hni:¬v∈E:=λrH=>by
     have:=(aR.1 (hm.1 rH)).1;omega
    rw[aV hni];omega
   ·obtain⟨e,h1,h2⟩:=hg j ab;rw[h2]at q2;have hve:v<e:=ab;have OZ:¬j<mg E v:=λk=>(by have:=(uk (v:=v) h h1).2 k;omega);have hcj:mg E v=j:=ab;have hni:¬v∈E:=λrH=>by
     have:=hm.1 rH;rw[hcj,h1]at this;have:=cE this;omega
    rw[aV hni];omega
  intro q;have hni:¬v∈E:=λrH=>(by rw[aW rH]at q;omega);rw[aV hni]at q;have hcj:mg E v=j:=ab;refine bU ⟨?_,?_⟩;by_cases hj:j=0;left;omega;right;obtain⟨e,h1,h2⟩:=ad3 ab;rw[h2];exact(uk (v:=v) h h1).2 ab;by_cases hj:j=E.length;left;omega;right;obtain⟨e,h1,h2⟩:=hg j ab;rw[h2];have k1:¬e<v:=λk=>(by have:=(uk (v:=v) h h1).1 k;omega);have k2:e≠v:=λk=>hni (by rw[<-k];exact aY h1);omega
def RY(h:lQ E):F3 (jN u mid E) v (jN u mid E).length=mN E v:=by
 have key:∀k,k<=(jN u mid E).length->F3 (jN u mid E) v k=if mN E v<k then mN E v else 0:=by
  intro k;induction k with
  |zero=>intro _;rfl
  |succ k ih=>
   intro hk;rw[F3,ih ab];have hc:=Vl (u:=u) (mid:=mid) (v:=v) h (i:=k) ab;by_cases hq:mN E v=k;rw[aW (hc.2 hq),aW ab,hq];rw[aV (λq=>hq (hc.1 q))];by_cases h1:mN E v<k;rw[aW h1,aW ab];rw[aV h1,aV ab]
 rw[key _ (aZ _),aW (Y5 u mid h)]
def wI:List TX->TX->Nat
 |[],_=>0|a::r,v=>if Op.bytesLess a v then wI r v+1 else 0
def Mz:∀(l:List TX) (v:TX),wI l v<=l.length
 |[],_=>aZ _|a::r,v=>by have:=Mz r v;rw[wI];split<;>simp<;>omega
def Xh(P:List TX)(v:TX):Nat:=if wI P v=P.length∨P[wI P v]? ≠some v then wI P v-1 else wI P v
def Tz:∀{P:List TX} {v:TX},mD P->yJ P v=if P[wI P v]?=some v then wI P v+1 else wI P v
 |[],v,_=>by simp[yJ,wI]
 |a::r,v,h=>by
  obtain⟨hr,ha⟩:=pX h;rw[yJ,wI];rcases CE a v with q|q|q
  rw[aV (C9 q),aW (show Op.bytesLess a v=true from q),c7,Tz hr];split<;>rfl
  ·subst q;have hc:yJ r a=0:=by
    cases r with
    |nil=>rfl|cons b s=>rw[yJ,aW (ha b (bE ..))]
   rw[aV (pd a),aV (show ¬Op.bytesLess a a=true from pd a),hc];simp
  rw[aW q,aV (show ¬Op.bytesLess a v=true from C9 q)];have:(a::r)[0]? ≠some v:=(by simp;rintro rfl;exact pd _ q);rw[aV this]
def P8{E:List TX}{v:TX}(h:mD E):Xh (jZ E) v=vP E v:=by have h1:=Tz (v:=v) (tM h);have h2:=Mz (jZ E) v;unfold Xh vP;rw[h1];by_cases q:(jZ E)[wI (jZ E) v]?=some v;have iI:=(aR.1 q).1;rw[aW q,aV (by rintro(k|k);omega;exact k q)];omega;rw[aV q,aW (.inr q)]
def xe(P:List TX)(v:TX):Nat->Nat
 |0=>0|k+1=>if Op.bytesLess v (P.getD k [])then xe P v k else k
def O0:∀{P:List TX} {v p:TX} {i:Nat},mD P->P[i]?=some p->(uf v p↔yJ P v<=i)
 |[],_,_,_,_,h=>by simp at h|a::r,v,p,0,_,h=>by simp at h;subst h;rw[yJ];by_cases q:uf v a;rw[aW q];exact⟨λ_=>aZ _,λ_=>q⟩;rw[aV q];exact⟨λh=>absurd h q,λh=>ab⟩
 |a::r,v,p,i+1,hr,h=>by
  obtain⟨kP,ha⟩:=pX hr;have h':r[i]?=some p:=by simpa using h
  rw[yJ];by_cases q:uf v a;rw[aW q];exact⟨λ_=>ab,λ_=>s7 q (ha p (aY h'))⟩;rw[aV q,O0 kP h'];omega
def P9{E:List TX}{v:TX}(h:mD E):xe (jZ E) v (jZ E).length=vP E v:=by
 have hr:=tM h;have hc:=Y6 E v;have hl:=Tw (jZ E) v;have key:∀k,k<=(jZ E).length->xe (jZ E) v k=min (k-1) (vP E v):=by
  intro k;induction k with
  |zero=>intro _;simp[xe]
  |succ k ih=>
   intro hk;rw[xe,ih ab];have hg:(jZ E)[k]?=some ((jZ E)[k]'(by omega)):=aS ab;have hi:=O0 (v:=v) hr hg;rw[getD_some hg];by_cases q:uf v ((jZ E)[k]'(by omega));rw[aW (show Op.bytesLess v _=true from q)];have:=hi.1 q;omega;rw[aV (show ¬Op.bytesLess v _=true from q)];have:¬yJ (jZ E) v<=k:=λk=>q (hi.2 k);omega
 rw[key _ (aZ _)];omega
def qJ{α:Type}(eq:α->α->Bool):α->List α->List α
 |_,[]=>[]|p,x::r=>if eq x p then qJ eq x r else x::qJ eq x r
def nG{α:Type}(eq:α->α->Bool):List α->List α
 |[]=>[]|a::r=>a::qJ eq a r
section
variable{α β:Type}{eq:α->α->Bool}{key:α->β}{lt:β->β->Prop}
def KD(htr:∀a b c,lt a b->lt b c->lt a c)(Rv:∀a b,lt a b∨a=b∨lt b a):∀{r:List α} {p:α},(∀x∈p::r,∀y∈p::r,eq x y=true↔key x=key y)->(p::r).Pairwise (λx y=>¬lt (key y) (key x))->
  (∀x∈qJ eq p r,lt (key p) (key x)∧x∈r)∧((qJ eq p r).map key).Pairwise lt∧∀b,(b=key p∨b∈(qJ eq p r).map key)↔(b=key p∨b∈r.map key)
 |[],p,_,_=>by simp[qJ]
 |x::r,p,he,hs=>by
  obtain⟨h1,h2⟩:=fT.1 hs;have mw:∀a∈x::r,∀b∈x::r,eq a b=true↔key a=key b:=λa ha b hb=>he a (bw _ ha) b (bw _ hb);obtain⟨i1,i2,i3⟩:=KD htr Rv (r:=r) (p:=x) mw h2;have hxp:=he x (bw _ (bE ..)) p (bE ..);rw[qJ];by_cases q:eq x p=true;have hk:key x=key p:=hxp.1 q;rw[aW q];refine⟨λy hy=>⟨hk▸(i1 y hy).1,bw _ (i1 y hy).2⟩,i2,λb=>?_⟩;rw[<-hk,i3 b,dx,bN];exact⟨λh=>by rcases h with h|h<;>simp[h],λh=>by rcases h with h|h|h<;>simp[h]⟩
  ·have js:key x≠key p:=λe=>q (hxp.2 e);have iI:lt (key p) (key x):=by
    rcases Rv (key p) (key x)with h|h|h
    exact h;exact absurd h.symm js;exact absurd h (h1 x (bE ..))
   rw[aV q];refine⟨λy hy=>?_,?_,λb=>?_⟩
   ·rcases bN.1 hy with rfl|hy
    exact⟨iI,bE ..⟩;exact⟨htr _ _ _ iI (i1 y hy).1,bw _ (i1 y hy).2⟩
   rw[dx,fT];refine⟨λb hb=>?_,i2⟩;obtain⟨y,hy,rfl⟩:=cH.1 hb;exact(i1 y hy).1;rw[dx,dx,bN,bN,i3 b]
def FO(htr:∀a b c,lt a b->lt b c->lt a c)(Rv:∀a b,lt a b∨a=b∨lt b a){l:List α}(he:∀x∈l,∀y∈l,eq x y=true↔key x=key y)(hs:l.Pairwise (λx y=>¬lt (key y) (key x))):
  ((nG eq l).map key).Pairwise lt∧(∀b,b∈(nG eq l).map key↔b∈l.map key)∧∀x∈nG eq l,x∈l:=by
 cases l with
 |nil=>simp[nG]
 |cons a r=>
  obtain⟨h1,h2,h3⟩:=KD htr Rv he hs;rw[nG];refine⟨?_,λb=>?_,λx hx=>?_⟩;rw[dx,fT];refine⟨λb hb=>?_,h2⟩;obtain⟨y,hy,rfl⟩:=cH.1 hb;exact(h1 y hy).1;rw[dx,dx,bN,bN];exact h3 b
  ·rcases bN.1 hx with rfl|hx
   exact bE ..;exact bw _ (h1 x hx).2
end
def O1:∀{l:List Int},l.Pairwise (· < ·)->lQ l
 |[],_=>trivial|[_],_=>trivial|a::b::r,h=>⟨(fT.1 h).1 b (bE ..),O1 (fT.1 h).2⟩
def KE:∀{l:List TX},l.Pairwise uf->mD l
 |[],_=>trivial|[_],_=>trivial|a::b::r,h=>⟨(fT.1 h).1 b (bE ..),KE (fT.1 h).2⟩
def ku(l:List Int):List Int:=l.foldl (ky λa b=>decide (a<b)) []
def ko(l:List TX):List TX:=l.foldl (ky λa b=>Op.bytesLess a b) []
def O2:∀(l:List Int) {acc:List Int},lQ acc->lQ (l.foldl (ky λa b=>decide (a<b)) acc)∧∀x,x∈l.foldl (ky λa b=>decide (a<b)) acc↔x∈l∨x∈acc
 |[],acc,h=>⟨h,λx=>aa⟩
 |a::r,acc,h=>by obtain⟨h1,h2⟩:=Ty (v:=a) h;obtain⟨h3,h4⟩:=O2 r h1;refine⟨h3,λx=>?_⟩;rw[ix,h4,h2,bN];exact⟨λq=>by rcases q with q|q|q<;>simp[q],λq=>by rcases q with(q|q)|q<;>simp[q]⟩
def O3:∀(l:List TX) {acc:List TX},mD acc->mD (l.foldl (ky λa b=>Op.bytesLess a b) acc)∧∀x,x∈l.foldl (ky λa b=>Op.bytesLess a b) acc↔x∈l∨x∈acc
 |[],acc,h=>⟨h,λx=>aa⟩
 |a::r,acc,h=>by obtain⟨h1,h2⟩:=Gs (v:=a) h;obtain⟨h3,h4⟩:=O3 r h1;refine⟨h3,λx=>?_⟩;rw[ix,h4,h2,bN];exact⟨λq=>by rcases q with q|q|q<;>simp[q],λq=>by rcases q with(q|q)|q<;>simp[q]⟩
def si(l:List Int):lQ (ku l)∧∀x,x∈ku l↔x∈l:=by obtain⟨h1,h2⟩:=O2 l (acc:=[]) trivial;exact⟨h1,λx=>(h2 x).trans aa⟩
def qP(l:List TX):mD (ko l)∧∀x,x∈ko l↔x∈l:=by obtain⟨h1,h2⟩:=O3 l (acc:=[]) trivial;exact⟨h1,λx=>(h2 x).trans aa⟩
def Y7{l r:List Int}(h:lQ r)(hm:∀x,x∈r↔x∈l):ku l=r:=DV (si l).1 h λx=>((si l).2 x).trans (hm x).symm
def Y8{l r:List TX}(h:mD r)(hm:∀x,x∈r↔x∈l):ko l=r:=wW (qP l).1 h λx=>((qP l).2 x).trans (hm x).symm
def Vm(E:List TX):List TX:=E.foldl (λo e=>ky (λa b=>Op.bytesLess a b) (ky (λa b=>Op.bytesLess a b) o e) (lF e)) [[]]
def O4:∀(E:List TX) {o:List TX},mD o->mD (E.foldl (λo e=>ky (λa b=>Op.bytesLess a b) (ky (λa b=>Op.bytesLess a b) o e) (lF e)) o)∧∀x,x∈E.foldl (λo e=>ky (λa b=>Op.bytesLess a b) (ky (λa b=>Op.bytesLess a b) o e) (lF e)) o↔(x∈E∨∃e∈E,x=lF e)∨x∈o
 |[],o,h=>⟨h,λx=>aa⟩
 |e::E,o,h=>by
  obtain⟨h1,h2⟩:=Gs (v:=e) h;obtain⟨h3,h4⟩:=Gs (v:=lF e) h1;obtain⟨h5,h6⟩:=O4 E h3;refine⟨h5,λx=>?_⟩;rw[ix,h6,h4,h2];constructor;rintro((q|⟨e',mw,rfl⟩)|rfl|rfl|q);exact .inl (.inl (bw _ q));exact .inl (.inr ⟨e',bw _ mw,rfl⟩);exact .inl (.inr ⟨e,bE ..,rfl⟩);exact .inl (.inl (bE ..));exact .inr q
  ·rintro((q|⟨e',mw,rfl⟩)|q)
   ·rcases bN.1 q with rfl|q
    exact .inr (.inr (.inl rfl));exact .inl (.inl q)
   ·rcases bN.1 mw with rfl|mw
    exact .inr (.inl rfl);exact .inl (.inr ⟨e',mw,rfl⟩)
   exact .inr (.inr (.inr q))
def Qa{E:List TX}(h:mD E):Vm E=jZ E:=by
 obtain⟨h1,h2⟩:=O4 E (o:=[[]]) trivial;refine wW h1 (tM h) λx=>?_;rw[show Vm E=E.foldl (λo e=>ky (λa b=>Op.bytesLess a b) (ky (λa b=>Op.bytesLess a b) o e) (lF e)) [[]]from rfl]at *
 rw[h2];constructor
 ·rintro((q|⟨e,he,rfl⟩)|q);exact(EK x q).1;exact bw _ (EK e he).2
  ·have q:x=[]:=by simpa using q
   subst q;exact bE ..
 ·intro q;rcases bN.1 (show x∈[]::qv [] E from q)with q|q
  exact .inr (by simp[q]);exact .inl (Ie x q)
def oC(k:Int):Prop:= ∃m:Int,k=m*10^34∧m.natAbs<=2000000000000000
def SmallK.two(h:SmallK k):oC k:=by obtain⟨m,h1,h2⟩:=h;exact⟨m,h1,by omega⟩
def nM:SmallK mh:=⟨1000000,by unfold mh;decide+kernel,by decide⟩
def RZ:SmallK (-mh):=⟨-1000000,by unfold mh;decide+kernel,by decide⟩
def O5:iR 1 0=mh:=by unfold iR mh;decide+kernel
def O6:iR (-1) 0= -mh:=by unfold iR mh;decide+kernel
variable{a:Int}
def SmallK.add{b:Int}(ha:SmallK a)(hb:SmallK b):oC (a+b):=by obtain⟨m,h1,h2⟩:=ha;obtain⟨n,h3,h4⟩:=hb;exact⟨m+n,by rw[h1,h3,Int.add_mul],by omega⟩
def oC.lt(h:oC k):k.natAbs<10^81:=by
 obtain⟨m,h1,h2⟩:=h;have h3:(2000000000000000:Nat)*10^34<10^81:=by decide+kernel
 rw[h1,dI,fo];exact bO (bg _ h2) h3
variable{N:Nat}
def Ih{M:Int}(hj:34<=j)(h:u*10^j=M*10^34)(hM:M.natAbs<=N):u.natAbs<=N:=by obtain⟨i,rfl⟩:∃i,j=i+34:=⟨j-34,by omega⟩;rw[gY,<-cO]at h;have h:=eR (fZ (gA af)) h;rw[<-h,dI,fo]at hM;have hp:0<(10:Int).natAbs^i:=dt af;exact b8 (gj _ hp) hM
def Ii(h:oC k):∃c e,lA k=(c,e)∧iZ c e=0∧iR c e=k∧ -6<=e∧e<=40∧c.natAbs<=2000000000000000:=by
 obtain⟨m,h1,h2⟩:=h;by_cases h0:m=0;subst h0;rw[gP]at h1;subst h1;exact⟨0,0,rfl,by decide,by decide+kernel,by decide,by decide,by decide⟩
 ·have hm:iR m (-6)=k:=by rw[h1];rfl
  have alV:=oC.lt ⟨m,h1,h2⟩;obtain⟨a1,a2,a3⟩:=Da (n:=m) (exp:= -6) ab af (by rw[hm];exact alV) h0;rw[hm]at a2;have hd:=Tx a1 a2;generalize BB m (-6)=r at *
  obtain⟨c,e⟩:=r;dsimp only at *
  obtain⟨⟨_,_,b1,_⟩,b2,b3⟩:=jT a1;have hp:(0:Int)<10^34:=gA af;have Ez:k≠0:=by rw[h1];exact fG h0 (fZ hp)
  have xG:c≠0:=λq=>Ez (by rw[<-a2,q];unfold iR;rw[gP]);have ud:c*10^(e+40).toNat=m*10^34:=by rw[<-h1];exact a2
  have he: -6<=e:=by refine cj λq=>?_;obtain⟨i,hi⟩:∃i,34=i+1+(e+40).toNat:=⟨33-(e+40).toNat,by omega⟩;rw[hi,gY,<-cO]at ud;have ud:=eR (fZ (gA af)) ud;rw[Int.pow_succ,<-cO]at ud;exact b3 xG (by rw[ud];exact Int.mul_tmod_left _ _)
  exact⟨c,e,hd,a1,a2,he,a3,Ih ab ud h2⟩
def EM(h:iZ c e=0)(hk:oC (iR c e)): -6<=e∧c.natAbs<=2000000000000000:=by obtain⟨c',e',h1,_,_,h4,_,h6⟩:=Ii hk;rw[Gr h]at h1;cases h1;exact⟨h4,h6⟩
def Ij{m:Int}(h:iZ c e=0)(hk:oC (iR c e))(hm: -6<=m)(hme:m<=e):(pK c e m).natAbs<=2000000000000000:=by obtain⟨M,h1,h2⟩:=hk;rw[rq ab hme]at h1;exact Ih ab h1 h2
variable{f:Int}
def KF{d:Int}(h1:iZ c e=0)(h2:iZ d f=0)(k1:SmallK (iR c e))(k2:SmallK (iR d f)):(pK c e (min e f)).natAbs+(pK d f (min e f)).natAbs<=999999999999999999∧(iR c e+iR d f).natAbs<10^81:=by have e1:=(EM h1 k1.two).1;have e2:=(EM h2 k2.two).1;have u1:=Ij (m:=min e f) h1 k1.two ab ab;have u2:=Ij (m:=min e f) h2 k2.two ab ab;exact⟨by omega,(SmallK.add k1 k2).lt⟩
def Vn(he: -39<=e):iR (c*5) (e+ -1)=iR c e/2:=by
 have h:iR (c*5) (e+ -1)*2=iR c e:=by unfold iR;rw[show(e+40).toNat=(e+ -1+40).toNat+1 by omega,Int.pow_succ];generalize(10:Int)^(e+ -1+40).toNat=p;simp only[cO];congr 1;omega
 rw[<-h,Int.mul_ediv_cancel _ af]
def R3(h:iZ c e=0)(hk:oC (iR c e)):(c*5).natAbs<=999999999999999999∧(-40<=e+ -1∧e+ -1<=40)∧(iR (c*5) (e+ -1)).natAbs<10^81∧iR (c*5) (e+ -1)=iR c e/2:=by
 obtain⟨a1,a2⟩:=EM h hk;have a:=(jT h).1;have hh:=Vn (c:=c) (e:=e) ab;refine⟨by omega,⟨by omega,by omega⟩,?_,hh⟩;rw[hh];have:=hk.lt;generalize iR c e=k at *
 generalize 10^81=N at *
 omega
def xQ(V:ByteArray->Bool)(k:Int)(y:Bool)(c e:Int)(t:ByteArray)(l:List iD):lX V (.mk k y c e t l)=if(kJ V (.mk k y c e t l) 0 1).2≠0 then(kJ V (.mk k y c e t l) 0 1).2 else if k=5 then 8 else if k=3 then(if 0<s6 (c.natAbs:Int) e 1 9∨e< -6 then 3 else 0)else 0:=rfl
variable{V:ByteArray->Bool}
def R4{y:Bool}{t:ByteArray}{l:List iD}(hk:k=3)(h:lX V (.mk k y c e t l)=0):iZ c e=0∧SmallK (iR c e):=by subst hk;rw[xQ]at h;by_cases h1:(kJ V (.mk 3 y c e t l) 0 1).2=0;rw[aV (dM h1),aV af,aW rfl]at h;have hw:=xP h1;have hb:=(jT hw).1;refine⟨hw,?_⟩;by_cases h2:0<s6 (c.natAbs:Int) e 1 9∨e< -6;rw[aW h2]at h;cases h;rw[vM ab af]at h2;have he: -6<=e:=ab;have hle:¬iR 1 9<iR (c.natAbs:Int) e:=λq=>h2 (.inl (by unfold pC;rw[aV ab,aW q];decide));have h9:iR 1 9=1000000000000000*10^34:=(by unfold iR;decide+kernel);rw[h9]at hle;unfold iR at hle⊢;obtain⟨i,hi⟩:∃i,(e+40).toNat=i+34:=⟨(e+6).toNat,by omega⟩;rw[hi,gY,<-cO]at hle⊢;refine⟨c*10^i,rfl,?_⟩;have hp:(0:Int)<10^34:=gA af;have hle:=Int.le_of_mul_le_mul_right (Int.not_lt.1 hle) hp;rw[dI,fo];have e1:((c.natAbs*(10:Int).natAbs^i:Nat):Int)=(c.natAbs:Int)*10^i:=(by rw[dJ,gH];rfl);omega;rw[aW h1]at h;exact absurd h h1
def qI(x:Int)(g:Nat):Int:=if x<0 then -((x.natAbs/g:Nat):Int)else((x.natAbs/g:Nat):Int)
def DW(x:Int)(g:Nat):(qI x g).natAbs=x.natAbs/g:=by unfold qI;generalize x.natAbs/g=q;split<;>omega
def Hb{x:Int}{g:Nat}(h:g∣x.natAbs):qI x g*(g:Int)=x:=by
 have h1:x.natAbs/g*g=x.natAbs:=Nat.div_mul_cancel h;have h2:((x.natAbs/g:Nat):Int)*(g:Int)=(x.natAbs:Int):=by rw[<-dJ,h1]
 unfold qI;split;rw[Int.neg_mul,h2];omega;rw[h2];omega
def X7{x:Int}{g:Nat}(h:g∣x.natAbs)(hg:0<g):decide (qI x g<0)=decide (x<0):=by
 by_cases hx:x<0
 ·rw[bU hx];refine bU ?_;have h1:0<x.natAbs/g:=fY (gS ab h) hg;unfold qI;rw[aW hx];generalize x.natAbs/g=q at *
  omega
 rw[bA hx];refine bA ?_;unfold qI;rw[aV hx];generalize x.natAbs/g=q;omega
def gI(x:Int)(y:Nat):Nat:=Nat.gcd x.natAbs y
def CH(x:Int)(y:Nat):gI x y∣x.natAbs:=Nat.gcd_dvd_left _ _
def xg(x:Int)(y:Nat):gI x y∣y:=Nat.gcd_dvd_right _ _
variable{y:Nat}
def xV(x:Int)(h:0<y):0<gI x y:=Nat.gcd_pos_of_pos_right _ h
def X8(x:Int):gI x 1=1:=Nat.gcd_one_right _
def kT(c e:Int):Int:=c*10^e.toNat
def kY(e:Int):Nat:=10^(-e).toNat
def sj(e:Int):0<kY e:=dt af
def MA(h: -40<=e):kT c e*10^40=iR c e*(kY e:Int):=by unfold kT kY iR;rw[gH,show((10:Nat):Int)=10 from rfl,cO,cO,<-gY,<-gY];congr 2;omega
def N9(a:Int)(b:Nat)(x:Int)(y:Nat):Int:=if b=y then pC a x else pC (a*(y:Int)) (x*(b:Int))
variable{b:Nat}
def TA{x:Int}(hb:0<b):N9 a b x y=pC (a*(y:Int)) (x*(b:Int)):=by unfold N9;split;rename_i h;subst h;rw[rp ab];rfl
def Y9{d:Int}(he: -40<=e)(hf: -40<=f):
  N9 (qI (kT c e) (gI (kT c e) (kY e))) (kY e/gI (kT c e) (kY e)) (qI (kT d f) (gI (kT d f) (kY f))) (kY f/gI (kT d f) (kY f))=pC (iR c e) (iR d f):=by
 have p1:=xV (kT c e) (sj e);have p2:=xV (kT d f) (sj f);have l1:=Hb (CH (kT c e) (kY e));have l2:=Hb (CH (kT d f) (kY f));have r1:=Nat.div_mul_cancel (xg (kT c e) (kY e));have r2:=Nat.div_mul_cancel (xg (kT d f) (kY f));have q1:0<kY e/gI (kT c e) (kY e):=fY (gS (sj e) (xg _ _)) p1;have t1:=MA (c:=c) he;have t2:=MA (c:=d) hf;have bp1:=sj e;have bp2:=sj f;rw[TA q1];generalize qI (kT c e) (gI (kT c e) (kY e))=a at *
 generalize qI (kT d f) (gI (kT d f) (kY f))=x,kY e/gI (kT c e) (kY e)=b at *
 generalize kY f/gI (kT d f) (kY f)=y,gI (kT c e) (kY e)=g at *
 generalize gI (kT d f) (kY f)=h,kT c e=N at *
 generalize kT d f=M,kY e=D,kY f=E,iR c e=u,iR d f=v at *
 subst l1 l2 r1 r2;have k1:(0:Int)<((g*h:Nat):Int):=by have:=fD p1 p2;omega
 have k2:(0:Int)<(10:Int)^40:=gA af;have k3:(0:Int)<(((b*g)*(y*h):Nat):Int):=by have:=fD bp1 bp2;omega
 rw[<-rp (a:=a*(y:Int)) k1,<-rp (a:=a*(y:Int)*((g*h:Nat):Int)) k2,<-rp (a:=u) (b:=v) k3];have e1:a*(y:Int)*((g*h:Nat):Int)*10^40=u*(((b*g)*(y*h):Nat):Int):=by
  have:a*(y:Int)*((g*h:Nat):Int)*10^40=(a*(g:Int)*10^40)*((y*h:Nat):Int):=by push_cast;simp only[cO,ez,eQ]
  rw[this,t1];push_cast;simp only[cO]
 have e2:x*(b:Int)*((g*h:Nat):Int)*10^40=v*(((b*g)*(y*h):Nat):Int):=by
  have:x*(b:Int)*((g*h:Nat):Int)*10^40=(x*(h:Int)*10^40)*((b*g:Nat):Int):=by push_cast;simp only[cO,ez,eQ]
  rw[this,t2];push_cast;simp only[cO,ez,eQ]
 rw[e1,e2]
def pg(x:Int)(y:Nat):Int:=qI x (gI x y)
def oO(x:Int)(y:Nat):Nat:=y/gI x y
def Gt(x:Int)(hy:0<y):pg x y*(gI x y:Int)=x∧oO x y*gI x y=y∧0<oO x y∧0<gI x y:=
 ⟨Hb (CH x y),Nat.div_mul_cancel (xg x y),fY (gS hy (xg x y)) (xV x hy),xV x hy⟩
def QP(x:Int)(hy:0<y):Nat.Coprime (pg x y).natAbs (oO x y):=by unfold pg oO;rw[DW];exact Nat.coprime_div_gcd_div_gcd (xV x hy)
def agk{x z:Int}{w:Nat}(hy:0<y)(hw:0<w)(h:x*(w:Int)=z*(y:Int)):pg x y=pg z w∧oO x y=oO z w:=by
 obtain⟨a1,a2,a3,a4⟩:=Gt x hy;obtain⟨b1,b2,b3,b4⟩:=Gt z hw;have c1:=QP x hy;have c2:=QP z hw;generalize pg x y=a at *
 generalize oO x y=b,gI x y=g,pg z w=a',oO z w=b',gI z w=g' at *
 subst a1 b1 a2 b2;have hg:((g:Int)*(g':Int))≠0:=fG ab ab;have h2:a*(b':Int)=a'*(b:Int):=by
  refine eR hg ?_;rw[dJ,dJ]at h;have e1:a*(b':Int)*((g:Int)*(g':Int))=a*(g:Int)*((b':Int)*(g':Int)):=by simp only[cO,ez,eQ]
  have e2:a'*(b:Int)*((g:Int)*(g':Int))=a'*(g':Int)*((b:Int)*(g:Int)):=by simp only[cO,ez,eQ]
  rw[e1,e2];exact h
 have h3:a.natAbs*b'=a'.natAbs*b:=by have:=aT Int.natAbs h2;rw[dI,dI,bM,bM]at this;exact this
 have d1:b∣b':=(Nat.Coprime.symm c1).dvd_of_dvd_mul_left (h3▸Nat.dvd_mul_left b a'.natAbs);have d2:b'∣b:=(Nat.Coprime.symm c2).dvd_of_dvd_mul_left (h3▸Nat.dvd_mul_left b' a.natAbs);have hb:b=b':=Nat.dvd_antisymm d1 d2;subst hb;exact⟨eR ab h2,rfl⟩
def sa:Nat:=10^40
def yl:0<sa:=by unfold sa;exact dt af
def Ae:((sa:Nat):Int)=10^40:=by unfold sa;rw[gH];rfl
def acd:((sa:Nat):Int)=mh:=Ae
def nO(K:Int):Int:=pg K sa
def ni(K:Int):Nat:=oO K sa
def sb(K:Int):0<ni K:=(Gt K yl).2.2.1
def DX(K:Int):nO K*(sa:Int)=K*(ni K:Int):=by
 obtain⟨h1,h2,_,_⟩:=Gt K yl;unfold nO ni;generalize pg K sa=a at *
 generalize oO K sa=b,gI K sa=g at *
 rw[<-h1,<-h2,dJ];simp only[cO,ez,eQ]
def KG{x K:Int}(hy:0<y)(h:x*(sa:Int)=K*(y:Int)):pg x y=nO K∧oO x y=ni K:=agk hy yl h
def TF(h: -40<=e):pg (kT c e) (kY e)=nO (iR c e)∧oO (kT c e) (kY e)=ni (iR c e):=KG (sj e) (by rw[Ae];exact MA h)
def TG(K L:Int):pg (nO K*(ni L:Int)+nO L*(ni K:Int)) (ni K*ni L)=nO (K+L)∧oO (nO K*(ni L:Int)+nO L*(ni K:Int)) (ni K*ni L)=ni (K+L):=by
 refine KG (fD (sb K) (sb L)) ?_;have h1:=DX K;have h2:=DX L;generalize nO K=a at *
 generalize nO L=b,ni K=u,ni L=v at *
 rw[dJ,Int.add_mul,Int.add_mul];have e1:a*(v:Int)*(sa:Int)=K*((u:Int)*(v:Int)):=by rw[cO,ez (v:Int),<-cO,h1,cO]
 have e2:b*(u:Int)*(sa:Int)=L*((u:Int)*(v:Int)):=by rw[cO,ez (u:Int) (sa:Int),<-cO,h2,cO,ez (v:Int)]
 rw[e1,e2]
def TH(K L:Int):pg (nO K*(ni L:Int)-nO L*(ni K:Int)) (ni K*ni L)=nO (K-L)∧oO (nO K*(ni L:Int)-nO L*(ni K:Int)) (ni K*ni L)=ni (K-L):=by
 refine KG (fD (sb K) (sb L)) ?_;have h1:=DX K;have h2:=DX L;generalize nO K=a at *
 generalize nO L=b,ni K=u,ni L=v at *
 rw[dJ,Int.sub_mul,Int.sub_mul];have e1:a*(v:Int)*(sa:Int)=K*((u:Int)*(v:Int)):=by rw[cO,ez (v:Int),<-cO,h1,cO]
 have e2:b*(u:Int)*(sa:Int)=L*((u:Int)*(v:Int)):=by rw[cO,ez (u:Int) (sa:Int),<-cO,h2,cO,ez (v:Int)]
 rw[e1,e2]
def TI{K L M:Int}(h:K*L=M*(sa:Int)):pg (nO K*nO L) (ni K*ni L)=nO M∧oO (nO K*nO L) (ni K*ni L)=ni M:=by
 refine KG (fD (sb K) (sb L)) ?_;have h1:=DX K;have h2:=DX L;generalize nO K=a at *
 generalize nO L=b,ni K=u,ni L=v at *
 have hD:((sa:Nat):Int)≠0:=by have:=yl;omega
 refine eR hD ?_;have e1:a*b*(sa:Int)*(sa:Int)=(a*(sa:Int))*(b*(sa:Int)):=by simp only[cO,ez,eQ]
 have e2:M*((u*v:Nat):Int)*(sa:Int)=(M*(sa:Int))*((u:Int)*(v:Int)):=by rw[dJ];simp only[cO,ez,eQ]
 rw[e1,e2,h1,h2,<-h];simp only[cO,ez,eQ]
def Vo(q:Int):nO (q*(sa:Int))=q∧ni (q*(sa:Int))=1:=by obtain⟨h1,h2⟩:=KG (x:=q) (K:=q*(sa:Int)) (y:=1) af aa;rw[<-h1,<-h2];unfold pg oO;rw[X8];refine⟨?_,fe _⟩;have:=Hb (x:=q) (g:=1) (Nat.one_dvd _);simpa using this
def tZ:Int:=5*10^39
def O7:pg 1 2=nO tZ∧oO 1 2=ni tZ:=KG af (by rw[Ae];unfold tZ;decide+kernel)
def O8:pg 1 2=1∧oO 1 2=2:=af
def wJ(K:Int):Prop:= ∃m:Int,K=m*10^33∧m.natAbs<=20000000000000000
def oC.fit(h:oC k):wJ k:=by obtain⟨m,h1,h2⟩:=h;exact⟨m*10,by rw[h1,cO];rfl,by omega⟩
def oC.half(h:oC k):wJ (k/2)∧k*tZ=k/2*(sa:Int):=by
 obtain⟨m,h1,h2⟩:=h;have e:k=m*5*10^33*2:=by rw[h1,cO,cO];rfl
 have e2:k/2=m*5*10^33:=by rw[e,Int.mul_ediv_cancel _ af]
 refine⟨⟨m*5,e2,by omega⟩,?_⟩;rw[e2,Ae,e];unfold tZ;rw[cO (m*5*10^33)];rfl
def wJ.aib{K:Int}(h:wJ K):(nO K).natAbs<=20000000000000000∧ni K<=10000000:=by
 obtain⟨m,h1,h2⟩:=h;have hd:(10:Nat)^33∣gI K sa:=by refine Nat.dvd_gcd ?_ ?_;rw[h1,dI,fo];exact Nat.dvd_mul_left _ _;unfold sa;exact Nat.pow_dvd_pow 10 af
 have hp:=xV K yl;have hle:=gS hp hd;unfold nO ni pg oO;rw[DW];constructor;refine b8 (Nat.div_le_div_left hle (dt af)) ?_;rw[h1,dI,fo,show((10:Int).natAbs)=10 from rfl,Nat.mul_div_cancel _ (dt af)];exact h2;refine b8 (Nat.div_le_div_left hle (dt af)) ?_;unfold sa;decide+kernel
def pj(m:Int)(i:Nat):Int:=m*10^(33-i)
def Hx{m:Int}(hi:i<=33):pj m i*10^i=m*10^33:=by unfold pj;rw[cO,<-gY,show 33-i+i=33 by omega]
def Vp{m:Int}(hm:m.natAbs<=20000000000000000):∃i0,i0<=33∧(pj m i0).natAbs<=999999999999999999∧∀i,i<i0->¬(pj m i).natAbs<=999999999999999999:=by
 have key:∀j,j<=33->∃i0,33-j<=i0∧i0<=33∧(pj m i0).natAbs<=999999999999999999∧∀i,33-j<=i->i<i0->¬(pj m i).natAbs<=999999999999999999:=by
  intro j;induction j with
  |zero=>
   intro _;refine⟨33,by omega,by omega,?_,λi h1 h2=>ab⟩;unfold pj;rw[dA,Int.pow_zero,Int.mul_one];omega
  |succ j ih=>
   intro hj;by_cases q:(pj m (33-(j+1))).natAbs<=999999999999999999;exact⟨33-(j+1),by omega,by omega,q,λi h1 h2=>ab⟩;obtain⟨i0,h1,h2,h3,h4⟩:=ih ab;refine⟨i0,by omega,h2,h3,λi g1 g2=>?_⟩;by_cases e:i=33-(j+1);subst e;exact q;exact h4 i ab g2
 obtain⟨i0,_,h2,h3,h4⟩:=key 33 ab;exact⟨i0,h2,h3,λi hi=>h4 i ab hi⟩
def Ik{c:Int}(h0:c≠0):∀(n:Nat) (m:Int),mA (c*10^n) m=mA c (m+n)
 |0,m=>aa
 |n+1,m=>by
  have e:c*10^(n+1)=c*10^n*10:=by rw[Int.pow_succ,cO]
  have hp:(0:Int)<10^n:=gA af;have hn:c*10^n*10≠0:=fG (fG h0 (fZ hp)) af;rw[e,vm ⟨hn,Int.mul_tmod_left _ _⟩,Int.mul_tdiv_cancel _ af,Ik h0 n (m+1)];congr 1;push_cast;omega
def Za{m:Int}(hi:i<=33):lA (m*10^33)=if pj m i=0 then(0,0)else mA (pj m i) ((i:Int)-40):=by rw[<-Hx (m:=m) hi];unfold lA;have hp:(0:Int)<10^i:=gA af;by_cases h:pj m i=0;rw[aW h,h,gP,aW rfl];rw[aV h,aV (fG h (fZ hp)),Ik h,show(-40:Int)+(i:Int)=(i:Int)-40 by omega]
def Vq{m:Int}(hm:m.natAbs<=20000000000000000)(hi:i<=33)(h:(pj m i).natAbs<=999999999999999999)(h0:pj m i≠0):(mA (pj m i) ((i:Int)-40)).2<=40:=by
 refine(FN ab ab ?_ h0).2.2;have e:iR (pj m i) ((i:Int)-40)=m*10^33:=by unfold iR;rw[show((i:Int)-40+40).toNat=i by omega];exact Hx hi
 have h3:(20000000000000000:Nat)*10^33<10^81:=by decide+kernel
 rw[e,dI,fo];exact bO (bg _ hm) h3
def TJ{m:Int}(hi:i<=33):pg (nO (m*10^33)*((10^(40-i):Nat):Int)) (ni (m*10^33))=pj m i∧oO (nO (m*10^33)*((10^(40-i):Nat):Int)) (ni (m*10^33))=1:=by
 obtain⟨w1,w2⟩:=Vo (pj m i);have hr:=KG (x:=nO (m*10^33)*((10^(40-i):Nat):Int)) (K:=pj m i*(sa:Int)) (sb (m*10^33)) (by
  have h1:=DX (m*10^33);generalize nO (m*10^33)=a at *
  generalize ni (m*10^33)=b at *
  rw[<-Hx (m:=m) hi]at h1;generalize pj m i=q at *
  have e1:a*((10^(40-i):Nat):Int)*(sa:Int)=a*(sa:Int)*((10^(40-i):Nat):Int):=by simp only[cO,ez,eQ]
  have e2:(10:Int)^i*((10^(40-i):Nat):Int)=(sa:Int):=by rw[gH,show((10:Nat):Int)=10 from rfl,<-gY,show i+(40-i)=40 by omega,Ae]
  rw[e1,h1,<-e2];simp only[cO,ez,eQ])
 exact⟨hr.1.trans w1,hr.2.trans w2⟩
def mc:iD->Prop
 |.mk k _ c e t _=>(k=1∨k=2∨k=3∨k=4)∧(k=3->iZ c e=0∧SmallK (iR c e))∧(k=4->t.size<=1000)
def Db:∀{v:iD},lX V v=0->mc v
 |.mk k y c e t l,h=>by
  refine⟨?_,λh3=>R4 h3 h,λh4=>?_⟩;rotate_left;subst h4;rw[xQ]at h;by_cases h1:(kJ V (.mk 4 y c e t l) 0 1).2=0;rw[uY,aV af,aV af,aV af,aW rfl]at h1;by_cases hs:1000<t.size;rw[aW hs]at h1;cases h1;omega;rw[aW h1]at h;exact absurd h h1;rw[xQ]at h;by_cases h1:(kJ V (.mk k y c e t l) 0 1).2=0
  ·rw[aV (dM h1)]at h;rw[uY,aV af]at h1;by_cases h5:k=5;rw[aW h5]at h;cases h;by_cases h12:k=1∨k=2;omega;rw[aV h12]at h1;by_cases h3:k=3;omega;rw[aV h3]at h1;by_cases h4:k=4;omega;rw[aV h4,aV h5]at h1;cases h1
  rw[aW h1]at h;exact absurd h h1
def lp:Nat->iJ->Prop
 |0,_=>False|n+1,.mk k a b _ _ kids=>(1<=k∧k<=9)∧(2<=k∧k<=7->mc a)∧(k=7->mc b)∧(8<=k->kids.length<=20∧∀x∈kids,lp n x)
def FP{V:ByteArray->Bool}{d:Nat}:∀{l:List iJ},pe V l d=0->∀x∈l,kG V x d=0
 |[],_,x,hx=>absurd hx cF
 |t::r,hW,x,hx=>by
  rw[pe]at hW;have TK:kG V t d=0:=by split at hW;rename_i h;exact absurd hW h;rename_i h;exact Decidable.byContradiction h
  rw[aV (by rw[TK];decide)]at hW;rcases bN.1 hx with rfl|hx
  exact TK;exact FP hW x hx
def nH{V:ByteArray->Bool}:∀(n:Nat) {t:iJ} {d:Nat},kG V t d=0->d+n=5->lp n t
 |0,t,d,h,hd=>by obtain⟨k,a,b,oa,ob,kids⟩:=t;rw[AQ,aW (show 4<d by omega)]at h;cases h
 |n+1,.mk k a b oa ob kids,d,hW,hd=>by
  rw[AQ]at hW;by_cases h4:4<d;rw[aW h4]at hW;cases hW;rw[aV h4]at hW;by_cases h1:k=1;exact⟨by omega,λh=>ab,λh=>ab,λh=>ab⟩;rw[aV h1]at hW;by_cases h2:k=2;rw[aW h2]at hW;exact⟨by omega,λ_=>Db hW,λh=>ab,λh=>ab⟩;rw[aV h2]at hW;by_cases h36:3<=k∧k<=6
  ·rw[aW h36]at hW;have hv:lX V a=0:=by
    by_cases hv:lX V a=0;exact hv;rw[aW hv]at hW;exact hW
   exact⟨by omega,λ_=>Db hv,λh=>ab,λh=>ab⟩
  rw[aV h36]at hW;by_cases h7:k=7
  ·rw[aW h7]at hW;have hv:lX V a=0:=by
    by_cases hv:lX V a=0;exact hv;rw[aW hv]at hW;exact hW
   rw[aV (dM hv)]at hW;have hw:lX V b=0:=(by by_cases hw:lX V b=0;exact hw;rw[aW hw]at hW;exact hW);exact⟨by omega,λ_=>Db hv,λ_=>Db hw,λh=>ab⟩
  rw[aV h7]at hW;by_cases uG:k=8∨k=9;rw[aW uG]at hW;by_cases hl:kids.length<1∨20<kids.length;rw[aW hl]at hW;cases hW;rw[aV hl]at hW;exact⟨by omega,λh=>ab,λh=>ab,λ_=>⟨by omega,λx hx=>nH n (FP hW x hx) ab⟩⟩;rw[aV uG]at hW;cases hW
def noV:iD:=.mk 0 false 0 0 ⟨#[]⟩ []
mutual
def sH:iJ->iJ
 |.mk k a b oa ob kids=>.mk k (if 2<=k∧k<=7 then mo a else noV) (if k=7 then mo b else noV) (if k=7 then oa else false) (if k=7 then ob else false) (if 8<=k then vQ kids else [])
def vQ:List iJ->List iJ
 |[]=>[]|t::r=>sH t::vQ r
end
def xX:∀l,vQ l=l.map sH
 |[]=>rfl|t::r=>by rw[vQ,xX r];rfl
def Hy(k:Int)(a b:iD)(oa ob:Bool)(kids:List iJ):sH (.mk k a b oa ob kids)=.mk k (if 2<=k∧k<=7 then mo a else noV) (if k=7 then mo b else noV) (if k=7 then oa else false) (if k=7 then ob else false) (if 8<=k then kids.map sH else []):=by rw[sH,xX]
def Il:∀{v:iD},mc v->mc (mo v)∧iY (mo v)=iY v
 |.mk k y c e t l,⟨h1,h2,h4⟩=>by rw[mo];refine⟨⟨h1,λh3=>?_,λh5=>?_⟩,rfl⟩;rw[aW h3,aW h3];exact h2 h3;rw[aW h5];exact h4 h5
def Vr{y:Bool}{t:ByteArray}{l:List iD}(h:k=3)(hw:iZ c e=0):mo (.mk k y c e t l)=kn (ow (.mk k y c e t l)):=by subst h;rw[mo,aV af,aW rfl,aW rfl,aV af,aV af];exact(CG hw).symm
def km(s:TX):iD:=.mk 4 false 0 0 (qD s) []
def Af(t:ByteArray):qD t.toList=t:=Hu (lZ _)
def R5{y:Bool}{t:ByteArray}{l:List iD}(h:k=4):mo (.mk k y c e t l)=km (nN (.mk k y c e t l)):=by subst h;rw[mo,aV af,aV af,aV af,aW rfl,aV af];show _=iD.mk 4 false 0 0 (qD t.toList) [];rw[Af]
def Ca:∀{n:Nat} {t:iJ},lp n t->lp n (sH t)
 |n+1,.mk k a b oa ob kids,h=>by obtain⟨h1,h2,h3,h4⟩:=h;rw[Hy];refine⟨h1,λq=>?_,λq=>?_,λq=>?_⟩;rw[aW q];exact(Il (h2 q)).1;rw[aW q];exact(Il (h3 q)).1;rw[aW q];refine⟨by rw[dm];exact(h4 q).1,λx hx=>?_⟩;obtain⟨y,hy,rfl⟩:=cH.1 hx;exact Ca ((h4 q).2 y hy)
def jF(t:iJ):List Int:=(jt 3 t).map ow
def jj(t:iJ):List TX:=(jt 4 t).map nN
def qw(kd:Int):∀l:List iJ,uj kd l=l.flatMap (jt kd)
 |[]=>rfl|t::r=>by rw[uj,qw kd r];rfl
def Vs:∀{v:iD},iY v=3->ow (mo v)=ow v
 |.mk k y c e t l,h=>by simp only[iY]at h;subst h;rw[mo,aW rfl,aW rfl];rfl
def R6:∀{v:iD},iY v=4->nN (mo v)=nN v
 |.mk k y c e t l,h=>by simp only[iY]at h;subst h;rw[mo,aW rfl];rfl
def Cb:∀v:iD,iY (mo v)=iY v
 |.mk k y c e t l=>by rw[mo];rfl
def Im{kd:Int}(xY:kd=3∨kd=4):∀{n:Nat} {t:iJ},lp n t->jt kd (sH t)=(jt kd t).map mo
 |n+1,.mk k a b oa ob kids,h=>by
  obtain⟨h1,h2,h3,h4⟩:=h;rw[Hy,uM,uM];by_cases h8:8<=k
  ·have uG:k=8∨k=9:=ab
   rw[aW uG,aW uG,aW h8,aV (show ¬(2<=k∧k<=7) by omega),aV (show ¬k=7 by omega),aV (show ¬((2<=k∧k<=7)∧iY noV=kd) by omega),aV (show ¬(k=7∧iY noV=kd) by omega),aV (show ¬((2<=k∧k<=7)∧iY a=kd) by omega),aV (show ¬(k=7∧iY b=kd) by omega)];rw[cG,cG,cG,qw,qw];have ih:∀x∈kids,jt kd (sH x)=(jt kd x).map mo:=λx hx=>Im xY ((h4 h8).2 x hx);generalize kids=l at ih;induction l with
   |nil=>rfl
   |cons y s ihs=>
    rw[dx,fv,fv,eU,ih y (bE ..),ihs λx hx=>ih x (bw _ hx)]
  rw[aV (show ¬(k=8∨k=9) by omega),aV (show ¬(k=8∨k=9) by omega),dX,dX,eU];congr 1;by_cases q:2<=k∧k<=7;rw[aW q,Cb];by_cases q2:iY a=kd;rw[aW ⟨q,q2⟩,aW ⟨q,q2⟩];rfl;rw[aV (λz=>q2 z.2),aV (λz=>q2 z.2)];rfl;rw[aV (λz=>q z.1),aV (λz=>q z.1)];rfl;by_cases q:k=7;rw[aW q,Cb];by_cases q2:iY b=kd;rw[aW ⟨q,q2⟩,aW ⟨q,q2⟩];rfl;rw[aV (λz=>q2 z.2),aV (λz=>q2 z.2)];rfl;rw[aV (λz=>q z.1),aV (λz=>q z.1)];rfl
def mT{kd:Int}:∀{n:Nat} {t:iJ},lp n t->∀a∈jt kd t,mc a∧iY a=kd
 |n+1,.mk k a b oa ob kids,h,x,hx=>by
  obtain⟨h1,h2,h3,h4⟩:=h;rw[uM]at hx;rcases bC.1 hx with q|q
  by_cases uG:k=8∨k=9;rw[aW uG]at q;obtain⟨t,ht,hm⟩:=FM.1 q;exact mT ((h4 ab).2 t ht) x hm;rw[aV uG]at q;exact absurd q cF
  ·rcases bC.1 q with q|q
   by_cases CI:(2<=k∧k<=7)∧iY a=kd;rw[aW CI]at q;have q:x=a:=(by simpa using q);subst q;exact⟨h2 CI.1,CI.2⟩;rw[aV CI]at q;exact absurd q cF;by_cases h7:k=7∧iY b=kd;rw[aW h7]at q;have q:x=b:=(by simpa using q);subst q;exact⟨h3 h7.1,h7.2⟩;rw[aV h7]at q;exact absurd q cF
section
variable{P:Program}{o:Oper}{ρ:Operand->PV}{H:PH}
variable{len size off:Nat}
def aic(j:Nat){t e:TypeId}{x y:Operand}{k:IntKind}{i:Int}(ho:o.op=.indexAddr t x y)(ht:P.underlying t=some (.array len e))(hs:kZ P e=some size)(hx:ρ x=.ptr b off)(hi:ρ y=.g (.int k i))(hj:i=(j:Int))(iI:j<len):PO P o ρ H (.ptr b (off+j*size)) H:=
 jr λc ρr hr oH=>by
  have h1:=oH x (by simp[ho,Op.operands]);have h2:=oH y (by simp[ho,Op.operands]);rw[hx]at h1;rw[hi]at h2;have e2:=k6 h2;subst hj;generalize hv:ρr x=v at h1;cases h1 with
  |ptr _ _ kh hb=>
   have IL:0<=(j:Int)∧(j:Int)<(len:Int):=⟨by omega,by omega⟩;refine⟨.pointer (some ⟨kh,off+j*size,none⟩),?_,.ptr _ _ _ hb⟩;simp only[execOp,ho,hv,e2];simp[Instr.indexAt,Instr.sureAddr,asIntOf,run_underlying ht,IL,run_sizeOf hs,add_eq];exact λh=>absurd iI ab
def KH(j:Nat){t e:TypeId}{x y:Operand}{k:IntKind}{i:Int}(ho:o.op=.indexAddr t x y)(ht:P.underlying t=some (.array len e))(hs:kZ P e=some size)(hx:ρ x=.mV b off)(hi:ρ y=.g (.int k i))(hj:i=(j:Int))(iI:j<len):PO P o ρ H (.mV b (off+j*size)) H:=
 jr λc ρr hr oH=>by have h1:=oH x (by simp[ho,Op.operands]);have h2:=oH y (by simp[ho,Op.operands]);rw[hx]at h1;rw[hi]at h2;have e2:=k6 h2;subst hj;generalize hv:ρr x=v at h1;cases h1;have IL:0<=(j:Int)∧(j:Int)<(len:Int):=⟨by omega,by omega⟩;refine⟨.pointer (some ⟨b,off+j*size,none⟩),?_,.mV _ _⟩;simp only[execOp,ho,hv,e2];simp[Instr.indexAt,Instr.sureAddr,asIntOf,run_underlying ht,IL,run_sizeOf hs,add_eq];exact λh=>absurd iI ab
end
section
variable{P:Program}{N:Nat}{Q:Exit->Env->PH->Prop}{env:Env}{H:PH}
end
section
variable{P:Program}{N:Nat}{Q:Exit->Env->PH->Prop}{env:Env}{H:PH}
def R7{c c2:Ctx}{B:List (List PV)}{cs:List GV}{Tk:List (TypeId×Nat)}{M:List MO}{nt nm:Nat}(hr:Rel P c H)(hE:kI c c2)(nh:Rel P c2 ⟨B++[cs.map PV.g],Tk,M⟩)(hb:H.bx.length<=B.length){v:Value}(h:RV c2 (.ptr B.length 0) v):RV (c2.cut B.length nt nm) (.pat cs) v:=by
 cases h with
 |ptr _ _ kh hs=>
 obtain⟨jJ,kl,oc,hv⟩:=tH nh hs (show(B++[cs.map PV.g])[B.length]?=some (cs.map PV.g) by simp);rw[dm]at kl;have ki:kh∈c2.σ:=aY hs;obtain⟨n,hn,Je⟩:=hE.sig;have q7:c.w.heap.size<=kh:=by rw[hn,a7 (by rw[hr.len];exact hb)]at hs;exact Je kh (aY hs)
 have zw:∀p,¬c2.hid kh p:=λp hp=>by rw[hE.hid]at hp;have:=hr.nu kh p hp;omega
 have alW:kh∉c2.σ.take B.length:=by intro hm;obtain⟨i,hi⟩:=bt hm;rw[bq]at hi;split at hi;rename_i iI;obtain⟨l1,e1⟩:=aR.1 hi;obtain⟨l2,e2⟩:=aR.1 hs;exact(List.pairwise_iff_getElem.1 nh.nd) i B.length l1 l2 iI (e1.trans e2.symm);cases hi
 refine .pat cs ⟨kh,0,none⟩ (λk=>jJ.getD k undef) rfl (λk hk=>⟨?_,⟨zw _,alW,λt ht lv e=>?_,λt ht lv e=>?_⟩,?_⟩) (λj g hj=>?_);have:=oc k ab;show c2.w.cell? ((⟨kh,0,none⟩:Addr).add k)=_;rw[add_eq _ _ rfl,bc];exact this;exact absurd (e▸ki) (nh.st t (cC ht) lv);exact absurd (e▸ki) (nh.ms t (cC ht) lv);exact(hv k (.g (cs[k]'hk)) (by rw[bj,aS hk];rfl)).2
 ·have h1:=(hv j (.g g) (by rw[bj,hj];rfl)).1;cases h1 with
  |g _ _ h=>exact h.cut
def ace{x y:Code}(E:List (Nat×PV))(t:Nat)(cs:List GV)(H':PH)(hf:Vd H H' E=true)(h1:PW P N x (Next (λenv' H1=>qX env' (iL E)∧env' t=.ptr H'.bx.length 0∧kW P H1 ⟨H'.bx++[cs.map PV.g],H'.tk,H'.mu⟩) Q) env H)
  (h2:PW P N y Q (qE (iL E) (some t) (.pat cs)) H'):PW P N (.seq x y) Q env H:=by
 intro c a hr he;refine wp_seq (wp_mono (h1 c a hr he) ?_);rintro e a' w' ⟨c',env',H1,q,rfl,kP,hE,mw⟩;cases e<;>simp only[Next]at q<;>simp only[Exit.then];case normal=>
  obtain⟨q1,q2,q3⟩:=q;have OL:=q3 c' kP;have hd:lq P ⟨H'.bx++[cs.map PV.g],H'.tk,H'.mu⟩ H':=lq.mk [cs.map PV.g] [] [] aa;have S3:=hf;unfold Vd at hf;simp only[bI]at hf;obtain⟨f1,f2,f3,f4,f5⟩:=hf;have hle:=q1.er mw;have aeO:Rel P (c'.cut H'.bx.length H'.tk.length H'.mu.length) H':=OL.cut ⟨_,rfl⟩ ⟨[],by simp⟩ ⟨[],by simp⟩ (qq f5);have hEc:kI c (c'.cut H'.bx.length H'.tk.length H'.mu.length):=hE.cut (by rw[hr.len];exact bz f1) (by have:=aT List.length hr.tk;simp at this;have:=bz f2;omega) (by rw[hr.nq];exact bz f3);have hs:=mw.slot t;rw[q2]at hs;have hp:=R7 (nt:=H'.tk.length) (nm:=H'.mu.length) hr hE OL (bz f1) hs;have hER:ER (c'.cut H'.bx.length H'.tk.length H'.mu.length) N (qE (iL E) (some t) (.pat cs)) a':=by
   refine⟨hle.defers,hle.size,λu=>?_⟩;simp only[qE];cases hu:Nat.beq u t with
   |true=>rw[cr,bl hu];exact hp|false=>rw[de];exact(hle.slot u).cut (B6 f4 u)
  have:=h2 _ a' aeO hER;exact wp_mono this λ_ _ _ h=>QR.mono hEc (λ_ _ _ h=>h) h
 all_goals exact⟨c',env',H1,q,rfl,kP,hE,mw⟩
end
section
variable{P:Program}{o:Oper}{ρ:Operand->PV}{H:PH}
variable{size m:Nat}
def Xi{e:Nat}(h1:(P.info? e).map (·.size)=some size)(h2:kZ P e=some m):size=m:=by unfold kZ at h2;rw[h2]at h1;exact(cE h1).symm
variable{n off len:Nat}{es:List GV}
def TL{c:Ctx}(hr:Rel P c H){id e:Nat}{v:Value}(h:RV c (.qm id n off len) v)(hm:H.mu[id]?=some (.arr n e es)):
  ∃(t:oZ) (cap:Nat),c.μ[id]?=some t∧t.gen=n∧t.live=true∧(P.info? e).map (·.size)=some t.size∧v=.slice (some ⟨t.g,off*t.size,none⟩) len cap∧len<=cap∧cap<=maxLen∧off+len<=es.length:=by
 cases h with
 |qm _ _ _ _ g xw cap t ht hn h1 h2 hv=>
  obtain⟨a1,a2,a3,a4⟩:=hr.mu id t _ ht hm;obtain⟨lv,rfl,rfl,l2⟩:=hv a1.symm;exact⟨t,cap,ht,a1,lv,a3,rfl,h1,h2,by omega⟩
variable{t:oZ}
def agm{c:Ctx}{id cap:Nat}(ht:c.μ[id]?=some t)(hn:n<=t.gen)(lv:t.live=true)(h1:len<=cap)(hm:cap<=maxLen)(h2:off+len<=t.len):RV c (.qm id n off len) (.slice (some ⟨t.g,off*t.size,none⟩) len cap):=
 .qm id n off len t.g _ cap t ht hn h1 hm λ_=>⟨lv,rfl,rfl,h2⟩
variable{w:World}
def Jy{t e:Nat}(ht:P.underlying t=some (.slice e))(hs:kZ P e=some m)(a:Addr)(len cap:Nat)(lo hi mx:Option Value)(L U M:Nat)(hb:(Instr.sliceBounds true len cap lo hi mx).run P w=.ok (L,U,M) w):
  (Instr.sliceAt t (.slice (some a) len cap) lo hi mx).run P w=.ok (.slice (if M=L then some a else some (a.add (L*m))) (U-L) (M-L)) w:=by
 simp[Instr.sliceAt,Instr.slice,run_underlying ht,hb,run_sizeOf hs]
variable{e':Nat}
def KI(L U:Nat){t e:Nat}{x:Operand}{lo hi:Option Operand}{id:Nat}{l h:Option (IntKind×Int)}(ho:o.op=.slice t x lo hi none)(ht:P.underlying t=some (.slice e))(hs:kZ P e=some m)(lY:ρ x=.lK id n)
  (hl:oL ρ lo=some l) (hh:oL ρ hi=some h) (hm:H.mu[id]?=some (.arr n e' es)) (he:kZ P e'=some m) (hL:nS l=L) (hU:oo es.length h=U) (h1:L<=U) (h2:U<=es.length) (h3:L<es.length):PO P o ρ H (.qm id n L (U-L)) H:=
 jr λc ρr hr oH=>by
  have e1:=oH x (by simp[ho,Op.operands]);rw[lY]at e1;have el:=oq (ρr:=ρr) hl λy hy=>oH y (by subst hy;simp[ho,Op.operands]);have eh:=oq (ρr:=ρr) hh λy hy=>oH y (by subst hy;simp[ho,Op.operands]);generalize hv:ρr x=v at e1;cases e1 with
  |lK _ _ _ tk g1 g2 g3 g4=>
   obtain⟨a1,a2,a3,a4⟩:=hr.mu id tk _ g1 hm;have kl:=Xi a3 he;rcases a4 with⟨_,q⟩|⟨lv,cur,b1,b2,b3,b4,b5,b6⟩
   rw[q]at h3;simp at h3;rcases g4 a1.symm with⟨_,rfl⟩|⟨q,_⟩
   rotate_left;rw[lv]at q;cases q;rw[a2]at hv;have hb:=B7 (P:=P) (w:=c.w) (len:=es.length) (cap:=tk.cap) l h none (λ_=>rfl) hL hU rfl h1 ab (aZ _);have kX:=Jy (w:=c.w) ht hs ⟨tk.g,0,none⟩ es.length tk.cap _ _ _ L U tk.cap hb;rw[aV (show ¬tk.cap=L by omega),add_eq _ _ rfl,bc,<-kl]at kX;refine⟨_,?_,agm g1 g2 lv (show U-L<=tk.cap-L by omega) ab ab⟩;simp only[Option.map_none]at kX;simp only[execOp,ho,hv,el,eh,Option.map_none];simp[kX]
def Io(i:Nat){x y:Operand}{t e:Nat}{id:Nat}{k:IntKind}{z:Int}(ho:o.op=.indexAddr t x y)(ht:P.underlying t=some (.slice e))(hs:kZ P e=some m)(lY:ρ x=.qm id n off len)(hi:ρ y=.g (.int k z))(hm:H.mu[id]?=some (.arr n e' es))(he:kZ P e'=some m)(hz:z=i)(iI:i<len):
  PO P o ρ H (.kE id n (off+i) 0) H:=
 jr λc ρr hr hx=>by
  have h1:=hx x (by simp[ho,Op.operands]);have h2:=hx y (by simp[ho,Op.operands]);rw[lY]at h1;rw[hi,hz]at h2;have h2:=k6 h2;obtain⟨tk,cap,g1,g2,lv,g3,hv,g4,g5,g6⟩:=TL hr h1 hm;have kl:=Xi g3 he;refine⟨.pointer (some ((⟨tk.g,off*tk.size,none⟩:Addr).add (i*m))),?_,.kE id n (off+i) 0 _ tk g1 ab (oT _ _ rfl) (λ_=>by rw[add_eq _ _ rfl,kl,bB];simp)⟩;have IL:0<=(i:Int)∧(i:Int)<(len:Int):=ab
  simp only[execOp,ho,hv,h2];simp[Instr.indexAt,asIntOf,run_underlying ht,iI,run_sizeOf hs]
def Zb{x:Operand}{t e:TypeId}{id:Nat}(ho:o.op=.call {callee:=.builtin .len,args:= #[x],argTypes:= #[t]})(ht:P.underlying t=some (.slice e))(lY:ρ x=.qm id n off len):
  PO P o ρ H (.g (.int .i64 len)) H:=
 jr λc ρr hr hx=>by have h1:=hx x (by simp[ho,Op.operands,Call.operands]);rw[lY]at h1;generalize hv:ρr x=v at h1;cases h1;refine⟨.int .i64 len,?_,.g _ _ (.int _ _)⟩;simp[execOp,ho,resolve,invoke,builtin,hv,Builtin.len_,run_underlying ht];rfl
variable{us:List Value}
def Rel.Vt{c:Ctx}(hr:Rel P c H){id e:Nat}{gs:List GV}(ht:c.μ[id]?=some t)(hm:H.mu[id]?=some (.arr n e es))(lv:t.live=true)(hl:us.length=gs.length*t.size)(mK:off+gs.length<=es.length)(MV:∀x∈gs,x.cells.length=t.size)
  (hg:∀(i:Nat) (x:GV) (j:Nat) (g:GV) (v:Value),gs[i]?=some x->x.cells[j]?=some g->us[i*t.size+j]?=some v->RG c.w c.jq g v∧v.oneCell'=true):
  ∃cur,c.w.heap[t.g]?=some (.cells cur e (0,0))∧off*t.size+us.length<=cur.size∧
   ∃c',c'.w=c.w.setRow t.g (cur.toList.take (off*t.size)++us++cur.toList.drop (off*t.size+us.length)).toArray∧Rel P c' ⟨H.bx,H.tk,H.mu.set id (.arr n e (putAt es off gs))⟩∧kI c c':=by
 obtain⟨a1,a2,a3,a4⟩:=hr.mu id t _ ht hm;rcases a4 with⟨kj,_⟩|⟨_,cur,b1,b2,b3,b4,b5,b6⟩
 rw[lv]at kj;cases kj
 ·have tN:(off+gs.length)*t.size<=t.cap*t.size:=bg _ ab;rw[bB]at tN;have hfc:off*t.size+us.length<=cur.size:=ab
  refine⟨cur,b1,hfc,?_⟩;generalize q7:(cur.toList.take (off*t.size)++us++cur.toList.drop (off*t.size+us.length)).toArray=new;have Vc:new.size=cur.size:=by rw[<-q7];simp;omega
  have:=hr.FZ ht (t':=t) (o':=.arr n e (putAt es off gs)) rfl (.inl rfl) (w':=c.w.setRow t.g new) rfl ⟨rfl,λ_=>by first|exact aZ _|exact fc _⟩ rfl aa (λb hb h=>setRow_other c.w t.g b _ (h lv)) (λ_=>.inl ⟨lv,rfl⟩) (λhE=>?_);exact⟨_,rfl,this.1,this.2⟩
  ·refine⟨a1,by rw[sG mK];exact a2,a3,.inr ⟨lv,new,setRow_heap c.w t.g cur new e (0,0) b1,by rw[Vc];exact b2,by rw[sG mK];exact b3,b4,?_,?_⟩⟩
   ·intro x hx;unfold putAt at hx;simp only[bC]at hx;rcases hx with(hx|hx)|hx
    exact b5 x (cC hx);exact MV x hx;exact b5 x (fj hx)
   ·intro i x j g v hx AF hv;rw[<-q7]at hv;simp only[dV]at hv;unfold putAt at hx;have sv:(cur.toList.take (off*t.size)).length=off*t.size:=ad;have Co:(es.take off).length=off:=ad;have yP:es[i]?=some x->cur.toList[i*t.size+j]?=some v->RG c.w c.jq g v∧v.oneCell'=true:=λhk hv=>b6 i x j g v hk AF (by simpa using hv);have hjs:x.cells.length=t.size->j<t.size:=λq=>(by have:=(aR.1 AF).1;omega);by_cases h1:i<off
    ·rw[bV,a8 (by rw[Co];exact h1)]at hx;have BL:es[i]?=some x:=(by rw[bq,aW h1]at hx;exact hx);have hj:=hjs (b5 x (aY BL));have iI:i*t.size+j<off*t.size:=by
      have h3:(i+1)*t.size<=off*t.size:=bg _ h1;rw[bB]at h3;omega
     rw[bV,a8 (by rw[sv];exact iI)]at hv;rw[bq,aW iI]at hv;exact⟨(yP BL hv).1.mono hE.kF,(yP BL hv).2⟩
    have sC:off*t.size<=i*t.size:=bg _ ab;by_cases h2:i<off+gs.length;rw[bV,a7 (by rw[Co];omega),a8 (by rw[Co];omega),Co]at hx;have hj:=hjs (MV x (aY hx));have h4:(i-off)*t.size=i*t.size-off*t.size:=Nat.sub_mul _ _ _;have h5:(i-off+1)*t.size<=gs.length*t.size:=bg _ ab;rw[bB]at h5;rw[bV,a7 (by rw[sv];omega),a8 (by rw[sv,hl];omega),sv,show i*t.size+j-off*t.size=(i-off)*t.size+j by omega]at hv;exact⟨(hg _ x j g v hx AF hv).1.mono hE.kF,(hg _ x j g v hx AF hv).2⟩;rw[a7 (by simp[Co];omega)]at hx;have l2:(es.take off++gs).length=off+gs.length:=(by simp[Co]);rw[l2,bD,show off+gs.length+(i-(off+gs.length))=i by omega]at hx;have hj:=hjs (b5 x (aY hx));have h5:(off+gs.length)*t.size<=i*t.size:=bg _ ab;rw[bB]at h5;rw[a7 (by simp[sv,hl];omega)]at hv;have l3:(cur.toList.take (off*t.size)++us).length=off*t.size+us.length:=(by simp[sv]);rw[l3,bD,hl,show off*t.size+gs.length*t.size+(i*t.size+j-(off*t.size+gs.length*t.size))=i*t.size+j by omega]at hv;exact⟨(yP hx (by simpa using hv)).1.mono hE.kF,(yP hx (by simpa using hv)).2⟩
variable{z:Value}
def R8{x:Operand}{t e:Nat}{id:Nat}(ho:o.op=.call {callee:=.builtin .clear,args:=⟨[x]⟩,argTypes:=⟨[t]⟩})(ht:P.underlying t=some (.slice e))(hz:my P e=some z)(uc:z.cells.toList.all (·.oneCell')=true)(sP:z.cells.size=m)(jX:0<m)(he:kZ P e'=some m)(lY:ρ x=.qm id n off len)
  (hm:H.mu[id]?=some (.arr n e' es)) (hlen:0<len):
  PO P o ρ H (.tuple []) ⟨H.bx,H.tk,H.mu.set id (.arr n e' (putAt es off (List.replicate len (.agg (z.cells.toList.map mB)))))⟩:=by
 intro c ρr hr hx;have h1:=hx x (by simp[ho,Op.operands,Call.operands]);rw[lY]at h1;obtain⟨tk,cap,g1,g2,lv,g3,hv,g4,g5,g6⟩:=TL hr h1 hm;have kl:=Xi g3 he;have hlu:(Builtin.zeroCells z.cells len).toList.length=len*tk.size:=by simp[Builtin.zeroCells,sP,kl]
 have jE:∀v∈(Builtin.zeroCells z.cells len).toList,v.oneCell'=true:=λv XV=>by simp only[Builtin.zeroCells,gN,cH]at XV;obtain⟨i,_,rfl⟩:=XV;have hi:i%z.cells.size<z.cells.size:=bL _ ab;rw[ig z.cells _ hi];exact cY.1 uc _ aa
 obtain⟨cur,c1,c2,c',w',r1,r2⟩:=hr.Vt g1 hm lv (us:=(Builtin.zeroCells z.cells len).toList) (gs:=List.replicate len (.agg (z.cells.toList.map mB))) (off:=off) (by rw[hlu];simp) (by simpa using g6) (λx hx=>by rw[(fS.1 hx).2];simp[GV.cells,sP,kl]) (λi x j g v hx hg hv=>by
  rw[eJ]at hx;split at hx
  ·cases hx;have ki:=aY hv;refine⟨?_,jE v ki⟩;simp only[GV.cells,bj,bh]at hg;obtain⟨u,hu,rfl⟩:=hg;have hj:j<tk.size:=(by have:=(aR.1 hu).1;simp at this;omega);simp only[Builtin.zeroCells,gN,bj,bh]at hv;obtain⟨q,hq,rfl⟩:=hv;have qH:q=i*tk.size+j:=by
    have XH:=(aR.1 hq);obtain⟨q1,q2⟩:=XH;simpa using q2.symm
   subst qH;have IN:(i*tk.size+j)%z.cells.size=j:=(by rw[sP,<-kl,bG,Nat.mul_add_mod,bn hj]);rw[IN,ig z.cells j ab];have Nq:z.cells[j]'(by omega)=u:=(by have:=(aR.1 hu).2;simpa using this);rw[Nq];exact o9 _ _ u
  cases hx)
 have lT:=run_storeCells_at P tk.g (off*tk.size) e' (Builtin.zeroCells z.cells len).toList 0 cur c.w c1 (by simpa using c2) jE;simp only[b9]at lT;have kX:(execOp ρr o).run P c.w=.ok (.value (.tuple #[])) c'.w:=by
  rw[w'];cases len with
  |zero=>omega|succ k=>simp[execOp,ho,resolve,invoke,builtin,hv,Builtin.clear_,run_underlying ht,qL hz,lT]
 unfold kU;rw[kX];exact⟨c',rfl,r1,r2,.tuple [] #[] rfl aa⟩
end
section
variable{P:Program}{c:Ctx}{H:PH}
variable{size:Nat}
def Rel.Zc(hr:Rel P c H){e:Nat}(hs:kZ P e=some size):
  Rel P ⟨c.σ,c.τ,c.μ++[⟨false,0,size,0,0,0⟩],c.hid,c.w⟩ ⟨H.bx,H.tk,H.mu++[.arr 0 e []]⟩∧kI c ⟨c.σ,c.τ,c.μ++[⟨false,0,size,0,0,0⟩],c.hid,c.w⟩:=
 hr.Rb (Ext.refl c.w) (t:=⟨false,0,size,0,0,0⟩) (o:=.arr 0 e []) (λh=>by cases h) ⟨rfl,rfl,hs,.inl ⟨rfl,rfl⟩⟩
variable{t:oZ}
def RV.agn{v:Value}{id:Nat}(h:RV c .iM v)(ht:c.μ[id]?=some t)(lv:t.live=false):RV c (.lK id 0) v:=by
 cases h with
 |iM=>exact .lK id 0 _ t ht (bm _) rfl (λ_=>.inr ⟨lv,rfl⟩)
end
section
variable{P:Program}{N:Nat}{Q:Exit->Env->PH->Prop}{env:Env}{H:PH}
variable{code:Code}{size:Nat}
def R9(b off e:Nat){cs:List PV}(hs:kZ P e=some size)(hb:H.bx[b]?=some cs)(hk:cs[off]?=some .iM)
  (h:PW P N code Q env ⟨H.bx.set b (cs.set off (.lK H.mu.length 0)),H.tk,H.mu++[.arr 0 e []]⟩):PW P N code Q env H:=by
 intro c a hr he;obtain⟨r1,e1⟩:=hr.Zc hs;have hlen:c.μ.length=H.mu.length:=hr.nq;have q7:(c.μ++[(⟨false,0,size,0,0,0⟩:oZ)])[H.mu.length]?=some ⟨false,0,size,0,0,0⟩:=by rw[<-hlen];simp
 have r2:Rel P ⟨c.σ,c.τ,c.μ++[⟨false,0,size,0,0,0⟩],c.hid,c.w⟩ ⟨H.bx.set b (cs.set off (.lK H.mu.length 0)),H.tk,H.mu++[.arr 0 e []]⟩:=by refine{r1 with len:=by simpa using r1.len,bx:= ?_};intro i kh ds hi pO;by_cases eb:i=b;subst eb;rw[bZ (aR.1 hb).1]at pO;cases pO;obtain⟨jJ,T,a1,a2,a3⟩:=r1.bx i kh cs hi hb;refine⟨jJ,T,a1,by simpa using a2,λj p v hp hv=>?_⟩;by_cases ej:j=off;subst ej;rw[bZ (aR.1 hk).1]at hp;cases hp;have:=a3 j _ v hk hv;exact⟨RV.agn this.1 q7 rfl,this.2⟩;rw[bP (λe=>ej e.symm)]at hp;exact a3 j p v hp hv;rw[bP (λe=>eb e.symm)]at pO;exact r1.bx i kh ds hi pO
 refine wp_mono (h ⟨c.σ,c.τ,c.μ++[⟨false,0,size,0,0,0⟩],c.hid,c.w⟩ a r2 (he.mono e1)) ?_;rintro x a' w' ⟨c',env',H',q,rfl,kP,rX,mw⟩;exact⟨c',env',H',q,rfl,kP,e1.trans rX,mw⟩
end
end Go.Pure
namespace Go.Pure
open Go Go.RowKit
def ae4:GV->Option Value
 |.int k n=>some (.int k n)|.bool b=>some (.bool b)|.str s=>some (.string s)|_=>none
def Rw:List GV->Option (List Value)
 |[]=>some []
 |g::r=>match ae4 g,Rw r with
  |some u,some l=>some (u::l)|_,_=>none
def acf{c:Ctx}{g:GV}{v u:Value}(h:RV c (.g g) v)(hl:ae4 g=some u):v=u:=by
 cases g<;>simp only[ae4]at hl<;>first|(cases hl;done)|skip
 cases hl;exact k6 h;cases hl;exact yf h;cases hl;exact za h
def O9{c:Ctx}:∀{gs:List GV} {us:List Value} {vs:List Value},Rw gs=some us->gs.length=vs.length->(∀(i:Nat) (p:PV) (v:Value),(gs.map PV.g)[i]?=some p->vs[i]?=some v->RV c p v)->vs=us
 |[],us,vs,h,hl,_=>by cases h;exact df hl.symm|g::r,us,[],h,hl,_=>by cases hl
 |g::r,us,v::vs,h,hl,hv=>by unfold Rw at h;split at h;rename_i u l h1 h2;cases h;have e1:v=u:=acf (hv 0 (.g g) v rfl rfl) h1;have e2:=O9 (c:=c) h2 (by simpa using hl) (λi p w hp hw=>hv (i+1) p w (by simpa using hp) (by simpa using hw));rw[e1,e2];cases h
variable{P:Program}{us:List Value}
def Zd{f:FuncId}{gs:List GV}{v:PV}{ru:Value}(hu:Rw gs=some us)(hr:∀c:Ctx,RV c v ru)
  (h:∀c:Ctx,GL c->Calls P f us.toArray c.w λe w'=>e=.returned ru∧Below c.w.heap.size c.w w'∧(xv->c.w.drawn<=w'.drawn)):PC P f (gs.map .g) ⟨[],[],[]⟩ v ⟨[],[],[]⟩:=by
 intro c vs aa0 ha;obtain⟨hl,hv⟩:=ha;obtain⟨l⟩:=vs;have e:l=us:=O9 (c:=c) hu (by simpa using hl) (λi p v hp pr=>hv i p v hp (by simpa using pr));subst e;refine(h c aa0.gl).mono λe w' ⟨he,hb,hd⟩=>?_;obtain⟨r1,r2⟩:=aa0.grow ⟨hb.os,⟨hb.tape,hd⟩,hb.output,hb.size,hb.block⟩;exact⟨ru,⟨c.σ,c.τ,c.μ,c.hid,w'⟩,he,rfl,r1,r2,hr _⟩
end Go.Pure
namespace Go.Pure
open Go
section
variable{P:Program}{o:Oper}{ρ:Operand->PV}{H:PH}
variable{off:Nat}
def Nr{t:TypeId}{x:Operand}{g:Nat}{u v:Value}(ho:o.op=.load t x)(h1:qY P t=some true)(h2:kZ P t=some 2)(lY:ρ x=.mV g off)(hu:∀β,Jl (om β) g off=some u)(hv:∀β,Jl (om β) g (off+1)=some v)(ou:u.oneCell'=true)(ov:v.oneCell'=true):PO P o ρ H (.g (.agg [mB u,mB v])) H:=
 jr λc ρr hr oH=>by
  have kf:=oH x (by simp[ho,Op.operands]);rw[lY]at kf;generalize El:ρr x=w at kf;cases kf;obtain⟨⟨β,_,gl⟩,_⟩:=hr.gl;obtain⟨vs,hm,GW⟩:=Cw (hu β);obtain⟨Td,Oh,alX⟩:=Cw (hv β);have c0:=(gl _ hm off u GW).1;have c1:=(gl _ Oh (off+1) v alX).1;have hl:=pt (w:=c.w) h1 h2 ⟨g,off,none⟩ (λj=>if j=0 then u else v) (λj hj=>by
   rw[add_eq _ _ rfl];match j,hj with
   |0,_=>exact c0
   |1,_=>exact c1)
  refine⟨_,by simp only[execOp,ho,El,Instr.loadAt,Instr.sureAddr];simp[hl];rfl,.g _ _ (.agg _ _ aa ?_ ?_)⟩;intro z hz;simp at hz;obtain⟨j,hj,rfl⟩:=hz;split<;>assumption
  ·intro i g' z hi hz;match i,hi,hz with
   |0,hi,hz=>simp at hi hz;subst hi;subst hz;exact o9 _ _ u|1,hi,hz=>simp at hi hz;subst hi;subst hz;exact o9 _ _ v
end
end Go.Pure
namespace Go.Pure
open Go Go.Proofs Go.Shelf Go.Sort
structure Xj(P:Program)(g:FuncId)(cmp:GV->GV->Int)(Q:GV->Prop):Prop where
 pc:∀x y,Q x->Q y->PC P g [.g (.agg x.cells),.g (.agg y.cells)] ⟨[],[],[]⟩ (.g (.int .i64 (cmp x y))) ⟨[],[],[]⟩
 enters:∀args w,(callFunc g args).run P w=.ok (.enter g args) w
 irr:∀x,Q x->¬cmp x x<0
 tr:∀x y z,Q x->Q y->Q z->cmp x y<0->cmp y z<0->cmp x z<0
 ntr:∀x y z,Q x->Q y->Q z->¬cmp x y<0->¬cmp y z<0->¬cmp x z<0
def yy(c:Ctx)(k:Nat)(Q:GV->Prop):Type:={p:GV×List Value // Q p.1∧p.1.cells.length=k∧p.2.length=k∧(∀v∈p.2,v.oneCell'=true)∧∀(j:Nat) (g:GV) (v:Value),p.1.cells[j]?=some g->p.2[j]?=some v->RG c.w c.jq g v}
def yy.enc{c:Ctx}{k:Nat}{Q:GV->Prop}(x:yy c k Q):List Value:=x.1.2
section
variable{α:Type}[Inhabited α]
variable{w:World}{kh off m b:Nat}{os:Array Obj}
def AS{enc:α->List Value}{k:Nat}{dk:Array α}(hb:b<w.heap.size)(js:b≠kh):(sortWorldK enc k w kh off m dk os).heap[b]?=w.heap[b]? :=by show((w.heap.modify kh (onCells (putCells id off (flatK enc k dk))))++os)[b]?=_;rw[fm (by simpa using hb),Array.getElem?_modify,aV (λe=>js e.symm)]
def IV{enc:α->List Value}{k:Nat}{dk:Array α}{cur:Array Value}{e:TypeId}{fr:Nat×Nat}(hb:w.heap[kh]?=some (.cells cur e fr)):(sortWorldK enc k w kh off m dk os).heap[kh]?=some (.cells (putCells id off (flatK enc k dk) cur) e fr):=by have iI:kh<w.heap.size:=(dw.1 hb).1;show((w.heap.modify kh (onCells (putCells id off (flatK enc k dk))))++os)[kh]?=_;rw[fm (by simpa using iI),Array.getElem?_modify,aW rfl,hb];rfl
def zj{enc:α->List Value}{k:Nat}{dk:Array α}:w.heap.size<=(sortWorldK enc k w kh off m dk os).heap.size:=size_sortWorldK_c enc k w kh off m dk os
end
variable{w:World}
def grown_of{w':World}(h1:w'.os=w.os)(h2:w'.tape=w.tape)(h3:w'.output=w.output)(h4:w.drawn<=w'.drawn)(h5:w.heap.size<=w'.heap.size)(h6:∀b,b<w.heap.size->w'.heap[b]?=w.heap[b]?):∃q os,w'=grow (w.drewN q) os:=by refine⟨w'.drawn-w.drawn,w'.heap.extract w.heap.size w'.heap.size,?_⟩;obtain⟨heap,tape,drawn,os,output⟩:=w;obtain⟨ajI,aov,ana,os',alB⟩:=w';simp only at h1 h2 h3 h4 h5 h6;subst h1;subst h2;subst h3;simp only[grow,World.drewN];congr 1;apply Array.ext_getElem?;intro i;by_cases hi:i<heap.size;rw[fm hi,h6 i hi];rw[gB ab];by_cases hj:i<ajI.size;rw[dr hj,dr ad];simp[show heap.size+(i-heap.size)=i by omega];rw[Array.getElem?_eq_none ab,Array.getElem?_eq_none ad];omega
variable{t:oZ}
def KJ{c:Ctx}(ht:t∈c.μ)(lv:t.live=true){W:World}(hold:∀b,b<c.w.heap.size->b≠t.g->W.heap[b]?=c.w.heap[b]?):∀(a:Addr) (v:Value),a.spot=none->c.jq a.block a.off->c.w.cell? a=some v->W.cell? a=some v:=by intro a v _ lT hc;have iI:=World.block_lt_of_cell? c.w a hc;exact(World.cell?_of_block (hold a.block iI (λe=>lT.2.2.2 t ht lv e.symm))).trans hc
variable{P:Program}{cmp:GV->GV->Int}{H:PH}
def Ze{g:FuncId}{Q:GV->Prop}(hd:xv)(hc:Xj P g cmp Q){c:Ctx}(hr:Rel P c H)(ht:t∈c.μ)(lv:t.live=true){k:Nat}[Inhabited (yy c k Q)](size:Nat):
  CmpLays P g #[] (yy.enc (c:=c) (k:=k) (Q:=Q)) k (λx y=>cmp x.1.1 y.1.1) t.g 0 size c.w:=by
 intro m os dk _ x y;have hold:∀b,b<c.w.heap.size->b≠t.g->(sortWorldK yy.enc k c.w t.g 0 m dk os).heap[b]?=c.w.heap[b]? :=λb hb js=>AS hb js;have kl:c.w.heap.size<=(sortWorldK yy.enc k c.w t.g 0 m dk os).heap.size:=zj;generalize hW:sortWorldK yy.enc k c.w t.g 0 m dk os=W at *
 have Ez:=KJ ht lv hold;let c0:Ctx:=⟨[],[],[],⟨λb p=>¬c.jq b p∧b<W.heap.size,c.hid.d⟩,W⟩;have lT:∀b p,c.jq b p->c0.jq b p:=λb p h=>⟨λq=>q.1 h,by simp[c0],by simp[c0],by simp[c0]⟩;have hkp:yN c.w c0.w c.jq c0.jq:=λa v h1 h2 h3=>⟨Ez a v h1 h2 h3,lT _ _ h2⟩;have aa0:Rel P c0 ⟨[],[],[]⟩:={
  len:=rfl
  bx:=λi b cs h _=>by simp[c0]at h
  tk:=rfl
  tb:=λt h=>by simp[c0]at h
  nd:=gL
  td:=λi j t t' h=>by simp[c0]at h
  st:=λt h=>by simp[c0]at h
  nu:=λb p h=>h.2
  tG:=λt h=>by simp[c0]at h
  pB:=λb h=>by simp[c0]at h
  dead:=λt h=>by simp[c0]at h
  nq:=rfl
  mu:=λi t o h _=>by simp[c0]at h
  mlt:=λt h=>by simp[c0]at h
  md:=λi j t t' h=>by simp[c0]at h
  ms:=λt h=>by simp[c0]at h
  mt:=λt h=>by simp[c0]at h
  sW:=λt h=>by simp[c0]at h
  gl:=hr.gl.kF hkp}
 have aid:∀z:yy c k Q,RV c0 (.g (.agg z.1.1.cells)) (.agg z.enc.toArray):=λz=>by obtain⟨q1,q2,q3,q4,q5⟩:=z.2;refine .g _ _ (.agg _ _ (by rw[ga];exact q2.trans q3.symm) (λv hv=>q4 v (by simpa[yy.enc]using hv)) λi g' v hg hv=>?_);exact(q5 i g' v hg (by simpa[yy.enc]using hv)).mono hkp
 have zZ:=hc.pc x.1.1 y.1.1 x.2.1 y.2.1 c0 #[.agg x.enc.toArray,.agg y.enc.toArray] aa0 ⟨rfl,λi p v hp hv=>by
  match i,hp,hv with
  |0,hp,hv=>simp at hp hv;subst hp;subst hv;exact aid x|1,hp,hv=>simp at hp hv;subst hp;subst hv;exact aid y
  |i+2,hp,_=>simp at hp⟩
 refine Calls.mono zZ ?_;rintro e w' ⟨rv,c',rfl,rfl,kP,hE,hv⟩;refine⟨?_,grown_of hE.os hE.tape.1 hE.output (hE.tape.2 hd) hE.size λb hb=>hE.frame b hb (by simp[c0]) (by simp[c0]) (by simp[c0])⟩;rw[k6 hv]
section
variable{P:Program}{ρ:Ren}
variable{n:Nat}
def Zf(hd:xv)(L:SlLaysF0.n6 P ρ){g:FuncId}{Q:GV->Prop}(hc:Xj P g cmp Q){e:TypeId}{k:Nat}(aE:∀w,(isAgg (ρ.t 24)).run P w=.ok true w)(zE:∀w,(Go.sizeOf (ρ.t 24)).run P w=.ok k w)(hi:(P.info? e).map (·.size)=some k)(es:List GV)
  (hQ:∀x∈es,Q x) (js:es≠[]) (kl:es.length<4611686018427387904):
  Ds P (ρ.f 6) [.lK 0 n,.g (.raw (.func (.func g) #[] #[]))] ⟨[],[],[.arr n e es]⟩ (λv H'=>v=.tuple []∧∃o8:List GV,o8.Perm es∧(∀(i j:Nat) (x y:GV),i<j->o8[i]?=some x->o8[j]?=some y->¬cmp y x<0)∧H'=⟨[],[],[.arr n e o8]⟩):=by
 intro c vs hr ha;obtain⟨hl,hv⟩:=ha;obtain⟨v0,v1,rfl⟩:∃v0 v1,vs= #[v0,v1]:=by
  obtain⟨l⟩:=vs;match l,hl with
  |[a,b],_=>exact⟨a,b,rfl⟩
 have h0:=hv 0 _ v0 rfl rfl;have h1:=hv 1 _ v1 rfl rfl;cases h1 with
 |g _ _ h1=>
 cases h1;cases h0 with
 |lK _ _ _ t ht hn h1 ox=>
 obtain⟨e1,e2,e3,e4⟩:=hr.mu 0 t _ ht rfl;rcases e4 with⟨_,e4⟩|⟨lv,cur,b1,b2,b3,b4,b5,b6⟩
 exact absurd e4 js;have hk:t.size=k:=cE (e3.symm.trans hi);rw[hk]at b2 b5 b6;rcases ox e1.symm with⟨_,rfl⟩|⟨q,_⟩
 rotate_left;rw[lv]at q;cases q;rw[e2];have su:t∈c.μ:=aY ht;have ug:∀i j,i<es.length->j<k->i*k+j<cur.size:=λi j hi hj=>by have h1:(i+1)*k<=t.cap*k:=bg k ab;rw[b2];rw[bB,c8]at h1;omega
 have elem:∀i,i<es.length->∃p:yy c k Q,es[i]?=some p.1.1∧∀j,j<k->p.enc[j]?=cur[i*k+j]? :=λi hi=>by
  have hx:es[i]?=some (es[i]'hi):=aS hi;have ny:∀j,j<k->((List.range k).map λj=>cur.getD (i*k+j) undef)[j]?=cur[i*k+j]? :=λj hj=>by have:=ug i j hi hj;rw[bj,List.getElem?_range hj];simp[bF,this]
  refine⟨⟨(es[i]'hi,(List.range k).map λj=>cur.getD (i*k+j) undef),hQ _ (aY hx),b5 _ (aY hx),by simp,λv hv=>?_,λj g' v hg hv=>?_⟩,hx,ny⟩;obtain⟨j,hj,rfl⟩:=cH.1 hv;have hj:=fR.1 hj;have iI:=ug i j hi hj;have oc:(es[i]'hi).cells[j]?=some ((es[i]'hi).cells[j]'(by rw[b5 _ (aY hx)];exact hj)):=aS _;have:=(b6 i _ j _ (cur[i*k+j]'iI) hx oc (dr iI)).2;simpa[bF,iI]using this
  ·have hj:j<k:=by
    have:=(aR.1 hg).1;rw[b5 _ (aY hx)]at this;exact this
   exact(b6 i _ j g' v hx hg (by rw[<-ny j hj];exact hv)).1
 have jX:0<es.length:=gR.2 js;obtain⟨f,hf⟩:∃f:Fin es.length->yy c k Q,∀i:Fin es.length,es[i.val]?=some (f i).1.1∧∀j,j<k->(f i).enc[j]?=cur[i.val*k+j]? :=
  ⟨λi=>Classical.choose (elem i.val i.isLt),λi=>Classical.choose_spec (elem i.val i.isLt)⟩
 haveI:Inhabited (yy c k Q):=⟨f ⟨0,jX⟩⟩;let d:Array (yy c k Q):=Array.ofFn f;have pO:d.size=es.length:=by simp[d]
 have hdg:∀i (hi:i<es.length),d[i]! =f ⟨i,hi⟩:=λi hi=>by rw[ig d i (by rw[pO];exact hi)];simp[d]
 have ae5:∀x:yy c k Q,x.enc.length=k:=λx=>x.2.2.2.1;have iI:t.g<c.w.heap.size:=(dw.1 b1).1;have hH:HoldsK yy.enc k c.w t.g 0 d:=by
  intro j hj;rw[size_flatK,pO]at hj;have Ez:0<k:=Nat.pos_of_ne_zero λq=>by rw[q,dZ]at hj;omega
  have hq:j/k<es.length:=(bK Ez).2 hj;have hm:j%k<k:=bL _ Ez;have hjj:j/k*k+j%k=j:=by rw[bG];exact eX j k
  have h2:=(hf ⟨j/k,hq⟩).2 (j%k) hm;have qC:=ug (j/k) (j%k) hq hm;rw[hjj]at h2 qC;rw[get_flatK _ _ _ _ (by rw[pO];exact hj),hdg _ hq];refine⟨?_,?_⟩
  ·show c.w.cell? ⟨t.g,0+j,none⟩=_;unfold World.cell?;simp only[b1,bc];have h3:(f ⟨j/k,hq⟩).enc[j%k]?=some ((f ⟨j/k,hq⟩).enc[j%k]!):=by
    rw[ig _ _ (by rw[ae5];exact hm)];exact aS _
   rw[<-h2];exact h3
  unfold World.frozen?;simp[b1]
 have hO:SWO (ltOf λx y:yy c k Q=>cmp x.1.1 y.1.1):=by refine⟨λx=>?_,λx y z h1 h2=>?_,λx y z h1 h2=>?_⟩;exact bA (hc.irr _ x.2.1);exact bU (hc.tr _ _ _ x.2.1 y.2.1 z.2.1 (aU h1) (aU h2));exact bA (hc.ntr _ _ _ x.2.1 y.2.1 z.2.1 (aX h1) (aX h2))
 have sv:=Ze (k:=k) hd hc hr su lv d.size;have hs:=AnyQ.slices_SortFunc L k aE zE yy.enc ae5 (λx v hv=>x.2.2.2.2.1 v hv) (λx y:yy c k Q=>cmp x.1.1 y.1.1) hO g #[] t.g 0 t.cap d c.w hc.enters sv hH iI (by rw[pO];exact kl);rw[pO]at hs;refine hs.mono ?_;rintro ev w' ⟨rfl,d',m,os,hp,Ip,rfl⟩;obtain⟨p1,p2,p3⟩:=hp;have hold:∀b,b<c.w.heap.size->b≠t.g->(sortWorldK yy.enc k c.w t.g 0 m d' os).heap[b]?=c.w.heap[b]? :=λb hb js=>AS hb js;have Vu:=IV (enc:=yy.enc (c:=c) (k:=k) (Q:=Q)) (k:=k) (off:=0) (m:=m) (dk:=d') (os:=os) b1;have ae6:c.w.heap.size<=(sortWorldK yy.enc k c.w t.g 0 m d' os).heap.size:=zj;have hos:(sortWorldK yy.enc k c.w t.g 0 m d' os).os=c.w.os:=rfl;have htp:(sortWorldK yy.enc k c.w t.g 0 m d' os).tape=c.w.tape:=rfl;have hou:(sortWorldK yy.enc k c.w t.g 0 m d' os).output=c.w.output:=rfl;have Jn:c.w.drawn<=(sortWorldK yy.enc k c.w t.g 0 m d' os).drawn:=gp _ _;generalize sortWorldK yy.enc k c.w t.g 0 m d' os=W at *
 have aif:d'.size=es.length:=p1.trans pO;have Ez:=KJ su lv hold;have hkp:yN c.w W c.jq c.jq:=λa v h1 h2 h3=>⟨Ez a v h1 h2 h3,h2⟩;have aih:c.μ=[t]:=by
  have h2:=hr.nq;match ud:c.μ,h2,ht with
  |[u],_,ht=>simp at ht;rw[ht]
 have Tp:c.σ=[]:=df hr.len;have lR:c.τ=[]:=by have:=hr.tk;simpa using this
 have hE:kI c ⟨c.σ,c.τ,c.μ,c.hid,W⟩:={
  os:=hos
  tape:=⟨htp,λ_=>Jn⟩
  output:=hou
  size:=ae6
  hid:=rfl
  sig:=⟨[],by simp,by simp⟩
  tok:=λid t h=>⟨t,h,rfl,rfl,.inl rfl⟩
  mu:=λid t h=>⟨t,h,rfl,.inl rfl⟩
  sA:=λt h lv=>.inl ⟨t,h,lv,rfl⟩
  pq:=λt h lv=>.inl ⟨t,h,lv,rfl⟩
  kF:=hkp
  frame:=λb hb _ _ hm=>hold b hb λe=>hm t su lv e.symm}
 have aii:(d'.toList.map λx=>x.1.1).length=es.length:=by simp[aif]
 have Xk:∀i x,(d'.toList.map λx=>x.1.1)[i]?=some x->∃p:yy c k Q,d'[i]?=some p∧d'[i]! =p∧p.1.1=x:=λi x hx=>by
  rw[bj]at hx;obtain⟨p,hp,rfl⟩:=bh.1 hx;have kD:d'[i]?=some p:=by simpa using hp
  exact⟨p,kD,by rw[getElem!_def,kD],rfl⟩
 refine⟨.tuple [],⟨[],[],[.arr n e (d'.toList.map λx=>x.1.1)]⟩,.tuple #[],⟨c.σ,c.τ,c.μ,c.hid,W⟩,⟨rfl,_,?_,?_,rfl⟩,rfl,rfl,?_,hE,.tuple _ _ rfl aa⟩
 ·have he:(d.toList.map λx=>x.1.1)=es:=by
   apply eE;intro i;by_cases hi:i<es.length;rw[bj];have h3:d.toList[i]?=some (f ⟨i,hi⟩):=(by simp[d,hi]);rw[h3,(hf ⟨i,hi⟩).1];rfl;rw[dp (by simp[pO];omega),dp ab]
  have kf:(d'.extract 0 es.length).toList=d'.toList:=by rw[<-aif];simp
  have BL:(d.extract 0 es.length).toList=d.toList:=by rw[<-pO];simp
  rw[kf,BL]at p3;rw[<-he];exact p3.map _
 intro i j x y zN hx hy;obtain⟨p,hp,kD,rfl⟩:=Xk i x hx;obtain⟨q,hq,qH,rfl⟩:=Xk j y hy;have:=Ip i j (bm _) zN (by have:=(dw.1 hq).1;omega);rw[kD,qH]at this;exact aX this
 ·have hM:yO P ⟨c.σ,c.τ,c.μ,c.hid,W⟩ t (.arr n e (d'.toList.map λx=>x.1.1)):=by
   refine⟨e1,by rw[aii];exact e2,e3,.inr ⟨lv,_,Vu,by simp[putCells,b2,hk],by rw[aii];exact b3,b4,λx hx=>?_,λi x j g' v hx hg hv=>?_⟩⟩;obtain⟨p,_,rfl⟩:=cH.1 hx;rw[hk];exact p.2.2.1
   ·rw[hk]at hv;obtain⟨p,hp,kD,rfl⟩:=Xk i x hx;have hi:i<d'.size:=(dw.1 hp).1;have hj:j<k:=(by have:=(aR.1 hg).1;rw[p.2.2.1]at this;exact this);have qC:=ug i j ab hj;have MZ:i*k+j<d'.size*k:=by
     have h1:(i+1)*k<=d'.size*k:=bg k ab;rw[bB,c8]at h1;omega
    have hpv:p.enc[j]?=some v:=(by unfold putCells at hv;rw[Array.getElem?_mapIdx,dr qC]at hv;simp only[eS,bm,true_and,bc,size_flatK,MZ,gF,gD,id_eq,cg]at hv;rw[get_flatK _ _ _ _ MZ]at hv;have hdv:(i*k+j)/k=i:=(by rw[bG,Nat.mul_add_div ab,cZ hj,b9]);have hmd:(i*k+j)%k=j:=(by rw[bG,Nat.mul_add_mod,bn hj]);rw[hdv,hmd,kD]at hv;rw[<-hv,ig _ _ (by rw[ae5];exact hj)];exact aS _);refine⟨(p.2.2.2.2.2 j g' v hg hpv).mono hkp,p.2.2.2.2.1 v (aY hpv)⟩
  exact{
   len:=by rw[Tp];rfl
   bx:=λi b cs h _=>by simp[Tp]at h
   tk:=by simp[lR]
   tb:=λt h=>by simp[lR]at h
   nd:=by simp[Tp]
   td:=λi j t t' h=>by simp[lR]at h
   st:=λt h=>by simp[lR]at h
   nu:=λb p h=>bX (hr.nu b p h) ae6
   tG:=λt h=>by simp[lR]at h
   pB:=λb h=>by simp[Tp]at h
   dead:=λt h=>by simp[lR]at h
   nq:=by simp[aih]
   mu:=λi u o h ho=>by
    simp only[aih]at h;match i,h,ho with
    |0,h,ho=>simp at h ho;subst h;subst ho;exact hM|i+1,h,ho=>simp at h
   mlt:=λu h lv=>bX (hr.mlt u h lv) ae6
   md:=hr.md
   ms:=hr.ms
   mt:=hr.mt
   sW:=hr.sW
   gl:=hr.gl.kF hkp}
end
end Go.Pure
namespace Go.Pure
open Go
def Vv(fz:Nat->Option Value)(fs:Nat->Option Nat)(Kx:List Nat)(l:List Oper):Option (Nat×List NV×Oper):=match DT fz fs l l 0 with
 |some ss0=>match ss0.filter (λs=>nv Kx s.x)with
  |s::ss=>match CB s.at_ l 0 with
   |some (d,D)=>bif (s::ss).all (λs=>IU s.at_ D.after.toList)then some (d,s::ss,D)else none|none=>none
  |[]=>none
 |none=>none
section
variable{P:Program}{N:Nat}
variable{fz:Nat->Option Value}{fs:Nat->Option Nat}{l:List Oper}{d:Nat}{ss:List NV}{D:Oper}
def MB(hz:∀t z,fz t=some z->my P t=some z)(hs:∀t n,fs t=some n->kZ P t=some n){Kx K:List Nat}(h:Vv fz fs Kx l=some (d,ss,D))(hk:Gn K ss=true):
  l[d]?=some D∧∀s∈ss,Gm P l D K s:=by
 unfold Vv at h;split at h
 ·rename_i oA hb;split at h
  ·rename_i s0 ss0 hf;split at h
   ·rename_i d0 D0 ht;cases hc:((s0::ss0).all λs=>IU s.at_ D0.after.toList)with
    |false=>rw[hc]at h;cases h
    |true=>
     rw[hc,cr]at h;cases h;refine⟨B8 (λk=>by rw[bc]) ht,λs HY=>?_⟩;have hm:s∈oA:=(by have:s∈oA.filter (λs=>nv Kx s.x):=(by rw[hf];exact HY);exact(dK.1 this).1);obtain⟨h1,h2,h3,h4⟩:=EE (λk=>by rw[bc]) hb s hm;obtain⟨e,e1,e2,e3⟩:=Ms (cY.1 hc s HY);exact⟨Mt hk s HY,h1,⟨e,by simpa using e1,e2,e3⟩,hz _ _ h2,h3,hs _ _ h4⟩
   cases h
  cases h
 cases h
variable{l':List Oper}{env:Env}{H:PH}
def Gu{id:Nat}{Q:Exit->Env->PH->Prop}(hz:∀t z,fz t=some z->my P t=some z)(hs:∀t n,fs t=some n->kZ P t=some n)(Kx K:List Nat)
  (hb:Vv fz fs Kx l=some (d,ss,D)) (hl:N7 (lV d ss D l)=some l') (hk:Gn K ss=true) (hm:P.follows .mixedOrders=true) (hd:uI P K l'=true)
  (h:ju P N l'.toArray K (λenv H=>Q .normal env H) l' env H):PW P N (.region id l.toArray true) Q env H:=by
 rw[Gp]at hl;cases hl;obtain⟨h1,h2⟩:=MB hz hs hb hk;exact FK K h1 h2 hm hd h
end
section
variable{P:Program}{N:Nat}{K:List Nat}{T:Tr}{F:Nat->Option Ins}
variable{all:List Oper}{c0:Ctx}{S:Nat->Prop}{i:Nat}{o:Oper}{z:Value}{w:World}
def Vw(hT:qZ P N all K T)(hF:rO P all K T F)(hO:Ordered P K all)(hS:lf all S)(hc:Comes all S i o){t:TypeId}{x:Tmp}
  (pQ:o.op=.store t (.tmp x) (.const z)) (hg:o.guard=none) (pO:o.dst=none) (ki:40000+x∈K) {ia:Nat} {ao:Oper} (Vi:all[ia]?=some ao) (N6:ao.op=.alloc t) (Nn:ao.dst=some x) (hSa:S ia)
  (hzero:my P t=some z) (jE:z.cells.toList.all (·.oneCell')=true) (wY:kZ P t=some z.cells.size) {a:Act} (hI:Inv P N all K T F c0 S a w):Inv P N all K T F c0 (λk=>S k∨k=i) a w:=by
 have h:=zK (Z:=λa' w'=>Inv P N all K T F c0 (λk=>S k∨k=i) a' w') (Q:=λ_ _ _=>False) hT hF hO hS hI hc (λa' w' h=>h);have hw:Region.wanted o (yielded all.toArray a.tmps)=true:=by unfold Region.wanted;rw[hg]
 rw[aW hw]at h;have h1:=h.resolve_right fun⟨_,_,_,hx⟩=>hx;obtain⟨c,m,L,D',_,_,_,EC,_,_,_,Bh,_,XF,_,_,_⟩:=hI;have oK:ve K ao=some x:=by unfold ve;simp only[N6,Nn];rw[vG.2 ki];rfl
 have lr:sB K o=some x:=by unfold sB;simp only[pQ];rw[vG.2 ki];rfl
 obtain⟨i1,u1,a1,b1,t1,y1,iI,e1,e2,e3,e4,_,_,_,e5,e6,e7⟩:=(hO.float _ ki).ex;obtain⟨kh,ajJ⟩:∃b,(x,b)∈L:=by
  rcases XF _ _ x Vi oK hSa with hh|⟨u,o',hu,qd,Cl⟩
  exact hh
  ·exfalso;have CA:i=u1:=by
    rcases e7 i _ hc.at_ (DB lr).2.2 with hh|hh
    ·have:=hc.at_
     rw[hh,e1]at this;cases this;rw[(w7 e5).2.2.2.2]at lr;cases lr
    exact hh
   rcases e7 u o' hu (DB qd).2.2 with rfl|rfl
   rw[e1]at hu;cases hu;rw[(w7 e5).2.2.2.2]at qd;cases qd;exact hc.out (CA▸Cl)
 have hp:=Bh _ ajJ;obtain⟨jJ,t',r1,r2,r3,r4⟩:=hp.row;have kp:t'=t:=by have q1:=r4 _ _ Vi oK;rw[N6]at q1;cases q1;rfl
 subst kp;simp only at r1;have hv:=r3 _ hzero;subst hv;rw[EC]at r1;have Jf:a.eval (.tmp x)=.pointer (some ⟨kh,0,none⟩):=hp.slot;have DP:∀v∈z.cells.toList,v.oneCell'=true:=λv hv=>cY.1 jE v hv;have lT:=run_storeCells_at P kh 0 t' z.cells.toList 0 z.cells w r1 aa DP;have q7:(z.cells.toList.take 0++z.cells.toList++z.cells.toList.drop (0+z.cells.size)).toArray=z.cells:=by rw[gX aa];simp
 have F2:w.setRow kh z.cells=w:=setRow_self w _ _ t' (0,0) r1;have kX:(execOp a.eval o).run P w=.ok .skip w:=by simp only[b9,fA]at lT;rw[q7,F2]at lT;simp[execOp,pQ,Jf,show a.eval (.const z)=z from rfl,Instr.storeAt,Instr.sureAddr,storeVar,run_sizeOf wY,lT]
 unfold Oper.wp at h1;rw[kX]at h1;simp only[Oper.upon,pO]at h1;exact h1
variable{l l1 LL:List Oper}{d1 d2 e:Nat}{oA uO:List NV}{D1 D2 E:Oper}
variable{l:List Oper}{d:Nat}{ss:List NV}{D:Oper}
def ad7(hd:d<l.length)(hS:∀k,S k->k<l.length){r:Nat}(hr:r<=ss.length):∀i,SR d ss.length S r i->i<(lV d ss D l).length:=λi hi=>by
 rw[rS hd];rcases hi with⟨k,rfl,hk⟩|⟨h1,h2⟩
 ·have:=hS k hk;rcases dG k d with h|h
  rw[DS h];omega;rw[wB h];omega
 omega
def X9(hd:d<l.length)(hS:∀k,k<l.length->S k):∀i,i<(lV d ss D l).length->SR d ss.length S ss.length i:=λi hi=>by
 rw[rS hd]at hi;rcases OQ d ss.length i with h|⟨j,rfl⟩
 exact .inr h
 ·refine .inl ⟨j,rfl,hS j ?_⟩;rcases dG j d with h|h
  omega;rw[wB h]at hi;omega
def TN(hD:l[d]?=some D)(hb:∀(k:Nat) (y:Oper),(lV d ss D l)[k]?=some y->∀e∈y.after,Region.binds .any e=true->e.on<k):
  ∀(k:Nat) (y:Oper),l[k]?=some y->∀e∈y.after,Region.binds .any e=true->e.on<k:=by
 intro k y hy e he AT;have h1:=hb _ _ (qj (ss:=ss) hD hy) (Tq d ss.length e) (by simp only[FJ];rw[List.mem_toArray];exact fi _ (cH.2 ⟨e,by simpa using he,rfl⟩)) (by rw[<-AT];exact qu rfl);simp only[Tq]at h1;rcases dG e.on d with q1|q1<;>rcases dG k d with q2|q2<;>simp only[DS,wB, *]at h1<;>omega
variable{Q:Exit->Act->World->Prop}
def Jz(sx:lV d1 oA D1 l=l1)(M1:AM d1 oA.length e=d2)(Jo:lV d2 uO D2 l1=LL)(hT:qZ P N LL K T)(hF:rO P LL K T F)(hO:Ordered P K LL)(Ns:l[d1]?=some D1)(hE:l[e]?=some E)(js:e≠d1)(FQ:l1[d2]?=some D2)
  (KL:∀s∈oA,Gm P l D1 K s) (Oa:∀s∈uO,Gm P l1 D2 K s)
  (hQ:∀a w,(∃c,c.w=w∧Rel P c (T.H LL.length)∧kI c0 c∧ER c N (T.E LL.length) a)->Q .normal a w):
  ∀(fuel:Nat) (listed:Array Bool) (a:Act) (w:World) (r1 r2:Nat),listed.size=l.length->Pure.left listed l.length<=fuel->lf l (lh listed)->(lh listed d1∧r1=oA.length∨¬lh listed d1∧r1=0)->(lh listed e∧r2=uO.length∨¬lh listed e∧r2=0)->
   Inv P N LL K T F c0 (SR d2 uO.length (SR d1 oA.length (lh listed) r1) r2) a w->wpAny P .any l.toArray Q fuel listed a w:=by
 have hd:=(aR.1 Ns).1;have aij:=(aR.1 FQ).1;have JE:FJ d1 oA.length [] E=D2:=by have h1:=qj (ss:=oA) Ns hE;rw[aV js,sx,M1,FQ]at h1;exact(cE h1).symm
 have alY:∀(listed:Array Bool) (r1:Nat),(lh listed d1∧r1=oA.length∨¬lh listed d1∧r1=0)->r1<=oA.length:=λ_ _ h=>by rcases h with⟨_,h⟩|⟨_,h⟩<;>omega
 have fin:∀(listed:Array Bool) (a:Act) (w:World) (r1 r2:Nat),listed.size=l.length->(lh listed d1∧r1=oA.length∨¬lh listed d1∧r1=0)->(lh listed e∧r2=uO.length∨¬lh listed e∧r2=0)->
   Inv P N LL K T F c0 (SR d2 uO.length (SR d1 oA.length (lh listed) r1) r2) a w->(∀i,i<l.length->lh listed i)->Q .normal a w:=by
  intro listed a w r1 r2 kl nV nh hI lM;have aa1:r1=oA.length:=by rcases nV with⟨_,h⟩|⟨h,_⟩;exact h;exact absurd (lM d1 hd) h
  have alZ:r2=uO.length:=by rcases nh with⟨_,h⟩|⟨h,_⟩;exact h;exact absurd (lM e (aR.1 hE).1) h
  subst aa1 alZ;have k1:∀i,SR d1 oA.length (lh listed) oA.length i->i<l1.length:=by rw[<-sx];exact ad7 hd (λk hk=>by have:=JY hk;omega) (aZ _)
  have k2:∀i,i<l1.length->SR d1 oA.length (lh listed) oA.length i:=by rw[<-sx];exact X9 hd lM
  refine hQ a w (Gc hT hF hO (λi hi=>?_) (λi hi=>?_) hI);rw[<-Jo];exact ad7 aij k1 (aZ _) i hi;rw[<-Jo]at hi;exact X9 aij k2 i hi
 intro fuel;induction fuel with
 |zero=>
  intro listed a w r1 r2 kl hf hS nV nh hI;have lM:∀i,i<l.length->lh listed i:=by intro i hi;refine cj λhn=>?_;have ki:i∈(List.range l.length).filter λi=> !listed.getD i false:=(by simp only[dK,fR];exact⟨hi,by simpa[lh]using hn⟩);have h0:(List.range l.length).filter (λi=> !listed.getD i false)=[]:=df (by unfold Pure.left at hf;omega);rw[h0]at ki;cases ki
  refine⟨?_,fin listed a w r1 r2 kl nV nh hI lM⟩;refine eF.2 λi hi=>?_;obtain⟨o,hc⟩:=th kl hi;exact hc.out (lM i (aR.1 hc.at_).1)
 |succ fuel ih=>
  intro listed a w r1 r2 kl hf hS nV nh hI;have nw:∀(k:Nat) (y:Oper),l[k]?=some y->∀e∈y.after,Region.binds .any e=true->e.on<k:=by refine TN (ss:=oA) Ns ?_;rw[sx];refine TN (ss:=uO) FQ ?_;rw[Jo];exact λk y hy e he hb=>hO.back k y hy e he hb
  have ED:Region.ready .any l.toArray listed=[]->∀i,i<l.length->lh listed i:=by
   intro h0 i;induction i using Nat.strongRecOn with
   |_ i ih=>
    intro hi;refine cj λhn=>?_;have hc:Comes l (lh listed) i l[i]:=⟨aS hi,hn,λe he hb=>by have:=nw i _ (aS hi) e he hb;exact ih e.on this ab⟩;have:i∈Region.ready .any l.toArray listed:=by
     unfold Region.ready;rw[dK];refine⟨by simpa using hi,?_⟩;simp only[bI];refine⟨?_,?_⟩;have hn:=hc.out;simp only[lh,bF]at hn⊢;rw[dr ab]at hn⊢;simpa using hn
     ·have e0:(l.toArray)[i]?=some l[i]:=aa;rw[e0];simp only[eS,Option.getD_some];refine fN.2 λe he=>?_;cases hb:Region.binds .any e with
      |false=>simp
      |true=>
       have:=hc.pre e he hb;simp only[lh]at this;simp[this]
    rw[h0]at this;cases this
  refine⟨λh0=>fin listed a w r1 r2 kl nV nh hI (ED h0),λj hj=>?_⟩;obtain⟨o,hc⟩:=th kl hj;have iI:=(aR.1 hc.at_).1;have pQ:(l.toArray)[j]?=some o:=by simpa using hc.at_
  have lG:lh (listed.setIfInBounds j true)=λk=>lh listed k∨k=j:=funext λk=>propext (Mk ab);have Xg:Pure.left (listed.setIfInBounds j true) l.length<=fuel:=by have:=Ho (n:=l.length) (by omega:j<listed.size) iI hc.out;omega
  have ae1:lf l (lh (listed.setIfInBounds j true)):=by
   rw[lG];intro k y hy hk e he hb;rcases hk with hk|rfl
   exact .inl (hS k y hy hk e he hb);rw[hc.at_]at hy;cases hy;exact .inl (hc.pre e he hb)
  have cl1:∀r,r<=oA.length->(lh listed d1->r=oA.length)->(0<r->∀e∈D1.after,Region.binds .any e=true->lh listed e.on)->lf l1 (SR d1 oA.length (lh listed) r):=λr a1 a2 a3=>by rw[<-sx];exact uL Ns hS a1 a2 a3
  have Rx:∀r,r<=oA.length->(SR d1 oA.length (lh listed) r d2↔lh listed e):=λr hr=>by rw[<-M1];exact uh hr
  have cl2:∀{S1:Nat->Prop} (r:Nat),lf l1 S1->r<=uO.length->(S1 d2->r=uO.length)->(0<r->∀e∈D2.after,Region.binds .any e=true->S1 e.on)->lf LL (SR d2 uO.length S1 r):=λr a0 a1 a2 a3=>by rw[<-Jo];exact uL FQ a0 a1 a2 a3
  obtain⟨Ya,Yb,q1,q2,q3,q4,q5,q6,uA,sv⟩:∃Ya Yb,Ya<=oA.length∧Yb<=uO.length∧(j=d1->Ya=oA.length)∧(j=e->Yb=uO.length)∧
    (lh (listed.setIfInBounds j true) d1∧Ya=oA.length∨¬lh (listed.setIfInBounds j true) d1∧Ya=0)∧(lh (listed.setIfInBounds j true) e∧Yb=uO.length∨¬lh (listed.setIfInBounds j true) e∧Yb=0)∧
    Inv P N LL K T F c0 (SR d2 uO.length (SR d1 oA.length (lh listed) Ya) Yb) a w∧lf LL (SR d2 uO.length (SR d1 oA.length (lh listed) Ya) Yb):=by
   have al0:lh listed d1->∀e∈D1.after,Region.binds .any e=true->lh listed e.on:=λh e he hb=>hS d1 D1 Ns h e he hb;by_cases ej:j=d1
   ·subst ej;have hD':o=D1:=cE (hc.at_.symm.trans Ns);subst hD';have h0:r1=0:=(by rcases nV with⟨h,_⟩|⟨_,h⟩;exact absurd h hc.out;exact h);subst h0;have F4:r2<=uO.length:=(by rcases nh with⟨_,h⟩|⟨_,h⟩<;>omega);have cc:∀r,r<=oA.length->lf l1 (SR j oA.length (lh listed) r):=λr hr=>cl1 r hr (λh=>absurd h hc.out) (λ_=>hc.pre);have dd:∀r,r<=oA.length->lf LL (SR d2 uO.length (SR j oA.length (lh listed) r) r2):=λr hr=>by
     refine cl2 r2 (cc r hr) F4 (λh=>?_) (λhp e' mw Au=>?_)
     ·have:=(Rx r hr).1 h;rcases nh with⟨_,h⟩|⟨h,_⟩
      exact h;exact absurd this h
     have hle:lh listed e:=(by rcases nh with⟨h,_⟩|⟨_,h⟩;exact h;omega);exact cc r hr d2 D2 FQ ((Rx r hr).2 hle) e' mw Au
    have al1:∀r,r<=oA.length->Inv P N LL K T F c0 (SR d2 uO.length (SR j oA.length (lh listed) r) r2) a w:=by
     intro r;induction r with
     |zero=>exact λ_=>hI
     |succ r ihr=>
      intro hr;have hI0:=ihr ab;have hs:oA[r]?=some (oA[r]'(by omega)):=aS ab;generalize oA[r]'(by omega)=s at hs;have nT:=KL s (aY hs);have ail:=Kv Ns hc hs;rw[sx]at ail;have hx:j+r≠d2:=(by rw[<-M1];rcases QM (d:=j) (m:=oA.length) (j:=e)with h|h<;>omega);have aim:=vh (ss:=uO) FQ ail F4 (λh=>absurd h hx);rw[Jo]at aim;obtain⟨ao,Vi,N6,Nn⟩:=nT.made;have ain:=qj (ss:=oA) Ns Vi;rw[sx]at ain;have aio:=qj (ss:=uO) FQ ain;rw[Jo]at aio;obtain⟨eg,heg,hbg,hon⟩:=nT.ah6;have hSa:lh listed s.at_:=hon▸hc.pre eg heg hbg
      have:=Vw hT hF hO (dd r ab) aim (t:=s.t) (x:=s.x) (z:=s.z) rfl rfl rfl nT.mem aio N6 Nn ((uh F4).2 ((uh ab).2 hSa)) nT.zero nT.one nT.size hI0;rw[Ku,Ts]at this;exact this
    have hee:lh (listed.setIfInBounds j true) e↔lh listed e:=(by rw[lG];exact⟨λh=>h.elim id λh=>absurd h js,.inl⟩);refine⟨oA.length,r2,aZ _,F4,λ_=>rfl,λh=>absurd h.symm js,.inl ⟨by rw[lG];exact .inr rfl,rfl⟩,?_,al1 _ (aZ _),dd _ (aZ _)⟩;rcases nh with⟨h,h'⟩|⟨h,h'⟩
    exact .inl ⟨hee.2 h,h'⟩;exact .inr ⟨λq=>h (hee.1 q),h'⟩
   ·have Oz:lh (listed.setIfInBounds j true) d1↔lh listed d1:=by
     rw[lG];exact⟨λh=>h.elim id λh=>absurd h.symm ej,.inl⟩
    have aa1:lh (listed.setIfInBounds j true) d1∧r1=oA.length∨¬lh (listed.setIfInBounds j true) d1∧r1=0:=by
     rcases nV with⟨h,h'⟩|⟨h,h'⟩
     exact .inl ⟨Oz.2 h,h'⟩;exact .inr ⟨λq=>h (Oz.1 q),h'⟩
    have I8:=alY listed r1 nV;have cc:lf l1 (SR d1 oA.length (lh listed) r1):=cl1 r1 I8 (λh=>by rcases nV with⟨_,h'⟩|⟨h',_⟩;exact h';exact absurd h h') (λhp=>al0 (by rcases nV with⟨h',_⟩|⟨_,h'⟩;exact h';omega));by_cases ee:j=e;subst ee;have h0:r2=0:=(by rcases nh with⟨h,_⟩|⟨_,h⟩;exact absurd h hc.out;exact h);subst h0;have TO:=vh (ss:=oA) Ns hc I8 (λh=>absurd h ej);rw[aV ej,sx,M1]at TO;have ho:o=E:=cE (hc.at_.symm.trans hE);rw[ho,JE]at TO;have hm:=Ht (l:=l1) (d:=d2) (ss:=uO) (D:=D2) (by rw[Jo];exact hT) (by rw[Jo];exact hF) (by rw[Jo];exact hO) FQ cc TO Oa (by rw[Jo];exact hI) uO.length (aZ _);rw[Jo]at hm;refine⟨r1,uO.length,I8,aZ _,λh=>absurd h ej,λ_=>rfl,aa1,.inl ⟨by rw[lG];exact .inr rfl,rfl⟩,hm,cl2 _ cc (aZ _) (λ_=>rfl) (λ_=>TO.pre)⟩
    ·have hee:lh (listed.setIfInBounds j true) e↔lh listed e:=by
      rw[lG];exact⟨λh=>h.elim id λh=>absurd h.symm ee,.inl⟩
     have F4:r2<=uO.length:=(by rcases nh with⟨_,h⟩|⟨_,h⟩<;>omega);refine⟨r1,r2,I8,F4,λh=>absurd h ej,λh=>absurd h ee,aa1,?_,hI,cl2 r2 cc F4 (λh=>?_) (λhp e' mw Au=>?_)⟩
     ·rcases nh with⟨h,h'⟩|⟨h,h'⟩
      exact .inl ⟨hee.2 h,h'⟩;exact .inr ⟨λq=>h (hee.1 q),h'⟩
     ·have:=(Rx r1 I8).1 h;rcases nh with⟨_,h⟩|⟨h,_⟩
      exact h;exact absurd this h
     have hle:lh listed e:=(by rcases nh with⟨h,_⟩|⟨_,h⟩;exact h;omega);exact cc d2 D2 FQ ((Rx r1 I8).2 hle) e' mw Au
  have mM:=vh (ss:=oA) Ns hc q1 q3;rw[sx]at mM;have rh:=vh (ss:=uO) FQ mM q2 (λh=>q4 (XZ (h.trans M1.symm)));rw[Jo]at rh;have tT:=zK (Q:=Q) hT hF hO sv uA rh (Z:=wpAny P .any l.toArray Q fuel (listed.setIfInBounds j true)) (by intro a' w' hI2;rw[Ku,Ku,<-lG]at hI2;exact ih _ a' w' Ya Yb (by simpa using kl) Xg ae1 q5 q6 hI2);have KM:=λx o=>EB (ss:=uO) FQ x o a.tmps;have yu:=λx o=>EB (ss:=oA) Ns x o a.tmps;rw[Jo]at KM;rw[sx]at yu;rw[KM,yu]at tT;unfold wpOp;rw[pQ];exact tT
variable{env:Env}{H:PH}
def Nt{id:Nat}{Q:Exit->Env->PH->Prop}(K:List Nat)(sx:lV d1 oA D1 l=l1)(M1:AM d1 oA.length e=d2)(Jo:lV d2 uO D2 l1=LL)(Ns:l[d1]?=some D1)(hE:l[e]?=some E)(js:e≠d1)(FQ:l1[d2]?=some D2)
  (KL:∀s∈oA,Gm P l D1 K s) (Oa:∀s∈uO,Gm P l1 D2 K s) (hm:P.follows .mixedOrders=true) (hd:uI P K LL=true) (h:ju P N LL.toArray K (λenv H=>Q .normal env H) LL env H):
  PW P N (.region id l.toArray true) Q env H:=by
 obtain⟨T,e1,e2,e3,e4⟩:=G0 LL 0 env H aa h;have hT:qZ P N LL K T:=⟨λi o ho=>(e4 i o (bm _) ho).1,λi o ho=>(e4 i o (bm _) ho).2.1,λi o ho=>(e4 i o (bm _) ho).2.2⟩;have hO:=yB hd;obtain⟨F,hF⟩:=CY P LL K T;intro c a hr he;refine wp_region_any hm ?_;have hg:=hr.grow (Ext.drew c.w);have none:∀i,¬lh (Array.replicate l.toArray.size false) i:=by intro i h;simp only[lh,bF]at h;by_cases hi:i<l.length<;>simp[hi]at h
 have ajK:∀i,¬SR d1 oA.length (lh (Array.replicate l.toArray.size false)) 0 i:=by rintro i (⟨k,_,hk⟩|⟨h1,h2⟩);exact none k hk;omega
 have By:∀i,¬SR d2 uO.length (SR d1 oA.length (lh (Array.replicate l.toArray.size false)) 0) 0 i:=by rintro i (⟨k,_,hk⟩|⟨h1,h2⟩);exact ajK k hk;omega
 refine Jz (c0:=c) sx M1 Jo hT hF hO Ns hE js FQ KL Oa ?_ _ _ a _ 0 0 aa ?_ (λj o _ hj=>absurd hj (none j)) (.inr ⟨none d1,rfl⟩) (.inr ⟨none e,rfl⟩) ?_;rintro a' w' ⟨c',rfl,kP,hE,mw⟩;simp only[bc]at e3;exact⟨c',_,_,e3,rfl,kP,hE,mw⟩;unfold Pure.left;refine b8 (List.length_filter_le _ _) aa;refine⟨⟨c.σ,c.τ,c.μ,c.hid,c.w.drew⟩,0,[],[],bm _,λj o hj _ _=>⟨λh=>absurd h (By j),λh=>ab⟩,⟨λj o _ _ h=>ab,gL,λj=>⟨λh=>(by cases h),λh=>absurd h.2.1 (By j)⟩⟩,rfl,by rw[eV,nZ];exact e2▸hg.1,(zJ _).symm,hg.2,by simp,by simp,λj o d _ _ hj=>absurd hj (By j),he.defers,he.size,λt=>.inr ⟨λi o _ hs=>absurd hs (By i),?_⟩⟩;rw[e1];exact(he.slot t).mono hg.2
variable{l':List Oper}{fz:Nat->Option Value}{fs:Nat->Option Nat}
def Pa{id:Nat}{Q:Exit->Env->PH->Prop}(hz:∀t z,fz t=some z->my P t=some z)(hs:∀t n,fs t=some n->kZ P t=some n)(al2 al3:List Nat)(e:Nat)(K:List Nat){d1 d2:Nat}{oA uO:List NV}{D1 D2:Oper}
  (ri:Vv fz fs al2 l=some (d1,oA,D1)) (G2:Vv fz fs al3 (lV d1 oA D1 l)=some (d2,uO,D2)) (he:AM d1 oA.length e=d2) (js:Nat.beq e d1=false) (hl:N7 (lV d2 uO D2 (lV d1 oA D1 l))=some l') (Iq:Gn K oA=true) (n9:Gn K uO=true)
  (hm:P.follows .mixedOrders=true) (hd:uI P K l'=true)
  (h:ju P N l'.toArray K (λenv H=>Q .normal env H) l' env H):PW P N (.region id l.toArray true) Q env H:=by
 rw[Gp]at hl;cases hl;obtain⟨h1,h2⟩:=MB hz hs ri Iq;obtain⟨h3,h4⟩:=MB hz hs G2 n9;have h3':=h3;rw[<-he]at h3';obtain⟨E,hE,_⟩:=Kt h1 h3';exact Nt K rfl he rfl h1 hE (λq=>by subst q;simp at js) h3 h2 h4 hm hd h
end
section
variable{P:Program}{N:Nat}
variable{o:Oper}{w:World}{K:Act->World->Prop}{Q:Exit->Act->World->Prop}
def Oper.Pb{a:Act}{Q':Exit->Act->World->Prop}(hq:∀e a w,e≠ .normal->Q e a w->Q' e a w)(h1:o.wp P a w K Q):o.wp P a w K Q':=by
 unfold Oper.wp at *
 generalize(execOp a.eval o).run P w=r at *
 cases r with
 |ok n w'=>
  cases n<;>simp only[Oper.upon]at h1⊢ <;>
   first
    |exact h1
    |exact Calls.mono h1 (λe w'' he=>by cases e;exact he;exact hq _ _ _ aa he;obtain⟨a,w,h⟩:=he;exact⟨a,w,hq _ _ _ aa h⟩)
 |halt x w'=>cases x<;>simp only[Oper.upon]at h1⊢ <;>first|exact h1|exact hq _ _ _ aa h1
def Ir{md:Region.Mode}{ops:Array Oper}{Q:Exit->Act->World->Prop}:∀(f:Nat) (L:Array Bool) (a:Act) (w:World),wpAny P md ops Q f L a w->wpAny P md ops Q (f+1) L a w
 |0,_,_,_,h=>⟨λ_=>h.2,λi hi=>by rw[h.1]at hi;cases hi⟩|f+1,_,_,_,h=>⟨h.1,λi hi=>wpOp_mono (λa w=>Ir f _ a w) (h.2 i hi)⟩
variable{ops:Array Oper}{L:Array Bool}
def Pc{md:Region.Mode}{f:Nat}(k:Nat){a:Act}(h:wpAny P md ops Q f L a w):wpAny P md ops Q (k+f) L a w:=by
 induction k with
 |zero=>rw[bc];exact h|succ k ih=>rw[Nat.succ_add];exact Ir _ _ _ _ ih
def Ry(n:Nat)(o:Oper):Bool:=match o.guard with|none=>true|some (g,_)=>Nat.blt g n
def Gv(n:Nat)(o:Oper):Bool:=(List.range n).all λi=>o.after.toList.any λe=>Region.binds .any e&&Nat.beq e.on i
def zB(o:Oper):Bool:=match o.guard with|none=>true|some _=>false
def Pd(n:Nat)(o:Oper):List Nat:=o.after.toList.filterMap λe=>if Region.binds .any e&&Nat.ble n e.on then some e.on else none
def Xl(pre:List Oper)(x y z:Oper):Bool:=
 pre.all (Ry pre.length)&&(zB x&&zB y&&zB z)&&(Gv pre.length x&&Gv pre.length y&&Gv pre.length z)&&
 (Pd pre.length x==[]&&Pd pre.length y==[pre.length]&&Pd pre.length z==[])
variable{n i:Nat}
def Pe(h:Gv n o=true)(hi:i<n):∃e∈o.after,Region.binds .any e=true∧e.on=i:=by have h1:=cY.1 h i (fR.2 hi);obtain⟨e,he,h2⟩:=List.any_eq_true.1 h1;rw[bI]at h2;exact⟨e,by simpa using he,h2.1,bl h2.2⟩
def CJ{l:List Nat}(h:Pd n o=l){e:Edge}(he:e∈o.after)(hb:Region.binds .any e=true)(hn:n<=e.on):e.on∈l:=by subst h;unfold Pd;refine fQ.2 ⟨e,by simpa using he,?_⟩;rw[hb,eu hn];rfl
variable{m:Nat}
def Zg{l:List Nat}(h:Pd n o=l)(hm:m∈l):∃e∈o.after,Region.binds .any e=true∧e.on=m:=by subst h;unfold Pd at hm;obtain⟨e,he,h1⟩:=fQ.1 hm;split at h1;rename_i h2;rw[bI]at h2;cases h1;exact⟨e,by simpa using he,h2.1,rfl⟩;cases h1
def Vx{a:Act}(ho:ops[i]?=some o)(hg:zB o=true):wpOp P ops Q i K a w=(o.wp P a w K Q∨(o.asks P a w∧LetsOut Q)):=by
 have hn:o.guard=none:=by unfold zB at hg;split at hg;assumption;cases hg
 unfold wpOp;rw[ho];simp only[Region.wanted,hn,gF]
variable{env:Env}{H:PH}
def ad8{c:Ctx}{H':PH}{v:PV}{a:Act}(Ek:PO P o env.eval H v H')(hd:∀t,o.dst=some t->t<N)(hr:Rel P c H)(he:ER c N env a)
  (h:∀c' a',Rel P c' H'->kI c c'->ER c' N (qE env o.dst v) a'->K a' c'.w):o.wp P a c.w K Q:=by
 refine(Ek c a.eval hr (λx _=>he.eval x)).wp ?_;rintro rv w' ⟨c',rfl,kP,hE,hv⟩;exact h c' _ kP hE ((he.mono hE).put hd hv)
variable{pre:List Oper}{x y z:Oper}
def Dc(i:Nat)(hi:i<pre.length):(pre++[x,y,z]).toArray[i]?=pre.toArray[i]? :=by simp[a8 hi]
def QQ:(pre++[x,y,z]).toArray[pre.length]?=some x:=aa
def QS:(pre++[x,y,z]).toArray[pre.length+1]?=some y:=by simp only[dV];rw[a7 ab];simp
def KN:(pre++[x,y,z]).toArray[pre.length+2]?=some z:=by simp only[dV];rw[a7 ab];simp
def Sa(h:(pre++[x,y,z]).toArray[i]?=some o):(i<pre.length∧pre.toArray[i]?=some o)∨(i=pre.length∧o=x)∨(i=pre.length+1∧o=y)∨(i=pre.length+2∧o=z):=by
 by_cases hi:i<pre.length;exact .inl ⟨hi,by rw[<-Dc (x:=x) (y:=y) (z:=z) i hi];exact h⟩
 ·refine .inr ?_;simp only[dV]at h;rw[a7 ab]at h;obtain⟨k,hk⟩:∃k,i=pre.length+k:=⟨i-pre.length,by omega⟩;subst hk;rw[ew]at h;match k,h with
  |0,h=>cases h;exact .inl ⟨rfl,rfl⟩|1,h=>cases h;exact .inr (.inl ⟨rfl,rfl⟩)|2,h=>cases h;exact .inr (.inr ⟨rfl,rfl⟩)|k+3,h=>simp at h
structure zR(n:Nat)(L:Array Bool)(p q r:Bool)(M:Array Bool):Prop where
 size:M.size=n+3
 low:∀i,i<n->M.getD i false=L.getD i false
 x:M.getD n false=p
 y:M.getD (n+1) false=q
 z:M.getD (n+2) false=r
variable{M:Array Bool}
def mE(h:i<M.size):M.getD i true=M.getD i false:=by simp[bF,h]
variable{j:Nat}
def tD(h:i<M.size):(M.setIfInBounds i true).getD j false=if i=j then true else M.getD j false:=by by_cases e:i=j;subst e;simp[h];rw[getD_set_ne false e,aV e]
variable{p r:Bool}
def zR.set{q:Bool}(h:zR n L p q r M)(hs:L.size=n)(hi:i<n):zR n (L.setIfInBounds i true) p q r (M.setIfInBounds i true):=by have kl:=h.size;refine⟨by simpa using h.size,λj hj=>?_,?_,?_,?_⟩;rw[tD ab,tD ab,h.low j hj];rw[getD_set_ne false ab,h.x];rw[getD_set_ne false ab,h.y];rw[getD_set_ne false ab,h.z]
def zR.aip{q:Bool}(h:zR n L p q r M):zR n L true q r (M.setIfInBounds n true):=by have kl:=h.size;refine⟨by simpa using h.size,λj hj=>?_,?_,?_,?_⟩;rw[getD_set_ne false ab,h.low j hj];rw[tD ab,aW rfl];rw[getD_set_ne false ab,h.y];rw[getD_set_ne false ab,h.z]
def zR.aiq{q:Bool}(h:zR n L p q r M):zR n L p true r (M.setIfInBounds (n+1) true):=by have kl:=h.size;refine⟨by simpa using h.size,λj hj=>?_,?_,?_,?_⟩;rw[getD_set_ne false ab,h.low j hj];rw[getD_set_ne false ab,h.x];rw[tD ab,aW rfl];rw[getD_set_ne false ab,h.z]
def zR.ae7{q:Bool}(h:zR n L p q r M):zR n L p q true (M.setIfInBounds (n+2) true):=by have kl:=h.size;refine⟨by simpa using h.size,λj hj=>?_,?_,?_,?_⟩;rw[getD_set_ne false ab,h.low j hj];rw[getD_set_ne false ab,h.x];rw[getD_set_ne false ab,h.y];rw[tD ab,aW rfl]
structure zk(pre:List Oper)(x y z:Oper):Prop where
 grd:∀o∈pre,Ry pre.length o=true
 gx:zB x=true
 gy:zB y=true
 gz:zB z=true
 cx:Gv pre.length x=true
 cy:Gv pre.length y=true
 cz:Gv pre.length z=true
 ux:Pd pre.length x=[]
 uy:Pd pre.length y=[pre.length]
 uz:Pd pre.length z=[]
def acg(h:Xl pre x y z=true):zk pre x y z:=by simp only[Xl,bI,cY,bQ]at h;exact⟨h.1.1.1,h.1.1.2.1.1,h.1.1.2.1.2,h.1.1.2.2,h.1.2.1.1,h.1.2.1.2,h.1.2.2,h.2.1.1,h.2.1.2,h.2.2⟩
def ry(ht:zk pre x y z)(nw:∀(k:Nat) (y:Oper),pre[k]?=some y->∀e∈y.after,Region.binds .any e=true->e.on<k){q:Bool}(hs:L.size=pre.length)(hM:zR pre.length L p q r M)(h:i∈Region.ready .any (pre++[x,y,z]).toArray M):
  (i<pre.length∧i∈Region.ready .any pre.toArray L)∨((∀j,j<pre.length->L.getD j false=true)∧((i=pre.length∧p=false)∨(i=pre.length+1∧q=false∧p=true)∨(i=pre.length+2∧r=false))):=by
 obtain⟨h0,o,ho,h1⟩:=mem_ready.1 h;have kl:=hM.size;have cov:∀o:Oper,Gv pre.length o=true->(∀e∈o.after,Region.binds .any e=true->M.getD e.on false=true)->∀j,j<pre.length->L.getD j false=true:=by intro o hc h1 j hj;obtain⟨e,he,hb,rfl⟩:=Pe hc hj;rw[<-hM.low _ hj];exact h1 e he hb
 rcases Sa ho with⟨hi,zG⟩|⟨rfl,rfl⟩|⟨rfl,rfl⟩|⟨rfl,rfl⟩
 ·have hl:L.getD i true=false:=by rw[mE ab,<-hM.low i hi,<-mE ab];exact h0
  refine .inl ⟨hi,mem_ready.2 ⟨hl,o,zG,λe he hb=>?_⟩⟩;have h2:=h1 e he hb;have h3:=nw i o (by simpa using zG) e he hb;rw[<-hM.low _ ab];exact h2
 exact .inr ⟨cov _ ht.cx h1,.inl ⟨rfl,by rw[<-hM.x,<-mE ab];exact h0⟩⟩;refine .inr ⟨cov _ ht.cy h1,.inr (.inl ⟨rfl,by rw[<-hM.y,<-mE ab];exact h0,?_⟩)⟩;obtain⟨e,he,hb,e1⟩:=Zg ht.uy (db.2 rfl);rw[<-hM.x,<-e1];exact h1 e he hb;exact .inr ⟨cov _ ht.cz h1,.inr (.inr ⟨rfl,by rw[<-hM.z,<-mE ab];exact h0⟩)⟩
def Qb{q:Bool}(hs:L.size=pre.length)(nw:∀(k:Nat) (y:Oper),pre[k]?=some y->∀e∈y.after,Region.binds .any e=true->e.on<k)(hM:zR pre.length L p q r M)(h:i∈Region.ready .any pre.toArray L):i∈Region.ready .any (pre++[x,y,z]).toArray M:=by
 obtain⟨h0,o,ho,h1⟩:=mem_ready.1 h;have hi:i<pre.length:=by simpa using(dw.1 ho).1
 have kl:=hM.size;refine mem_ready.2 ⟨?_,o,by rw[Dc i hi];exact ho,λe he hb=>?_⟩;rw[mE ab,hM.low i hi,<-mE ab];exact h0;have h3:=nw i o (by simpa using ho) e he hb;rw[hM.low _ ab];exact h1 e he hb
def EO(ht:zk pre x y z){q:Bool}(hM:zR pre.length L p q r M)(lM:∀j,j<pre.length->L.getD j false=true)(hz:r=false):pre.length+2∈Region.ready .any (pre++[x,y,z]).toArray M:=by have kl:=hM.size;refine mem_ready.2 ⟨by rw[mE ab,hM.z,hz],z,KN,λe he hb=>?_⟩;by_cases q1:e.on<pre.length;rw[hM.low _ q1];exact lM _ q1;have:=CJ ht.uz he hb ab;cases this
def Sb(ht:zk pre x y z){q:Bool}(hM:zR pre.length L p q r M)(lM:∀j,j<pre.length->L.getD j false=true)(hz:p=false):pre.length∈Region.ready .any (pre++[x,y,z]).toArray M:=by have kl:=hM.size;refine mem_ready.2 ⟨by rw[mE ab,hM.x,hz],x,QQ,λe he hb=>?_⟩;by_cases q1:e.on<pre.length;rw[hM.low _ q1];exact lM _ q1;have:=CJ ht.ux he hb ab;cases this
def Sc(ht:zk pre x y z){q:Bool}(hM:zR pre.length L p q r M)(lM:∀j,j<pre.length->L.getD j false=true)(hp:p=true)(hz:q=false):pre.length+1∈Region.ready .any (pre++[x,y,z]).toArray M:=by have kl:=hM.size;refine mem_ready.2 ⟨by rw[mE ab,hM.y,hz],y,QS,λe he hb=>?_⟩;by_cases q1:e.on<pre.length;rw[hM.low _ q1];exact lM _ q1;have:=CJ ht.uy he hb ab;rw[db]at this;rw[this,hM.x,hp]
def nj(P:Program)(Q:Exit->Act->World->Prop)(o:Oper)(K:Act->World->Prop)(a:Act)(w:World):Prop:=o.wp P a w K Q∨(o.asks P a w∧LetsOut Q)
def rI{a:Act}(ho:ops[i]?=some o)(hg:zB o=true)(h:nj P Q o K a w):wpOp P ops Q i K a w:=by rw[Vx ho hg];exact h
def Zh(ht:zk pre x y z)(nw:∀(k:Nat) (y:Oper),pre[k]?=some y->∀e∈y.after,Region.binds .any e=true->e.on<k)(hs:L.size=pre.length)(lM:∀j,j<pre.length->L.getD j false=true){a:Act}
  (h1:nj P Q x (λa w=>nj P Q y (λa w=>nj P Q z (λa w=>Q .normal a w) a w) a w∧nj P Q z (λa w=>nj P Q y (λa w=>Q .normal a w) a w) a w) a w)
  (h2:nj P Q z (λa w=>nj P Q x (λa w=>nj P Q y (λa w=>Q .normal a w) a w) a w) a w) (hM:zR pre.length L false false false M):wpAny P .any (pre++[x,y,z]).toArray Q 3 M a w:=by
 have nor:∀i,i∉Region.ready .any pre.toArray L:=λi hi=>by
  obtain⟨h0,o,ho,_⟩:=mem_ready.1 hi;have hi:i<pre.length:=by simpa using(dw.1 ho).1
  rw[mE ab,lM i hi]at h0;cases h0
 have z0:∀{M a w},zR pre.length L true true true M->Q .normal a w->wpAny P .any (pre++[x,y,z]).toArray Q 0 M a w:=by
  intro M a w hM hq;refine⟨eF.2 λi hi=>?_,hq⟩;rcases ry ht nw hs hM hi with⟨_,h⟩|⟨_,⟨_,h⟩|⟨_,h,_⟩|⟨_,h⟩⟩
  exact nor i h;all_goals cases h
 have zy:∀{M a w},zR pre.length L true false true M->nj P Q y (λa w=>Q .normal a w) a w->wpAny P .any (pre++[x,y,z]).toArray Q 1 M a w:=by
  intro M a w hM hq;refine⟨λh=>?_,λi hi=>?_⟩;have:=Sc ht hM lM rfl rfl;rw[h]at this;cases this
  ·rcases ry ht nw hs hM hi with⟨_,h⟩|⟨_,⟨_,h⟩|⟨rfl,_,_⟩|⟨_,h⟩⟩
   exact absurd h (nor i);cases h;exact wpOp_mono (λa w h=>z0 hM.aiq h) (rI QS ht.gy hq);cases h
 have zz:∀{M a w},zR pre.length L true true false M->nj P Q z (λa w=>Q .normal a w) a w->wpAny P .any (pre++[x,y,z]).toArray Q 1 M a w:=by
  intro M a w hM hq;refine⟨λh=>?_,λi hi=>?_⟩;have:=EO ht hM lM rfl;rw[h]at this;cases this
  ·rcases ry ht nw hs hM hi with⟨_,h⟩|⟨_,⟨_,h⟩|⟨_,h,_⟩|⟨rfl,_⟩⟩
   exact absurd h (nor i);cases h;cases h;exact wpOp_mono (λa w h=>z0 hM.ae7 h) (rI KN ht.gz hq)
 have zx:∀{M a w},zR pre.length L false false true M->nj P Q x (λa w=>nj P Q y (λa w=>Q .normal a w) a w) a w->wpAny P .any (pre++[x,y,z]).toArray Q 2 M a w:=by
  intro M a w hM hq;refine⟨λh=>?_,λi hi=>?_⟩;have:=Sb ht hM lM rfl;rw[h]at this;cases this
  ·rcases ry ht nw hs hM hi with⟨_,h⟩|⟨_,⟨rfl,_⟩|⟨_,_,h⟩|⟨_,h⟩⟩
   exact absurd h (nor i);exact wpOp_mono (λa w h=>zy hM.aip h) (rI QQ ht.gx hq);cases h;cases h
 have zyz:∀{M a w},zR pre.length L true false false M->nj P Q y (λa w=>nj P Q z (λa w=>Q .normal a w) a w) a w∧nj P Q z (λa w=>nj P Q y (λa w=>Q .normal a w) a w) a w->wpAny P .any (pre++[x,y,z]).toArray Q 2 M a w:=by
  intro M a w hM hq;refine⟨λh=>?_,λi hi=>?_⟩;have:=EO ht hM lM rfl;rw[h]at this;cases this
  ·rcases ry ht nw hs hM hi with⟨_,h⟩|⟨_,⟨_,h⟩|⟨rfl,_,_⟩|⟨rfl,_⟩⟩
   exact absurd h (nor i);cases h;exact wpOp_mono (λa w h=>zz hM.aiq h) (rI QS ht.gy hq.1);exact wpOp_mono (λa w h=>zy hM.ae7 h) (rI KN ht.gz hq.2)
 refine⟨λh=>?_,λi hi=>?_⟩;have:=EO ht hM lM rfl;rw[h]at this;cases this
 ·rcases ry ht nw hs hM hi with⟨_,h⟩|⟨_,⟨rfl,_⟩|⟨_,_,h⟩|⟨rfl,_⟩⟩
  exact absurd h (nor i);exact wpOp_mono (λa w h=>zyz hM.aip h) (rI QQ ht.gx h1);cases h;exact wpOp_mono (λa w h=>zx hM.ae7 h) (rI KN ht.gz h2)
variable{all:List Oper}
def BQ(nw:∀(k:Nat) (y:Oper),all[k]?=some y->∀e∈y.after,Region.binds .any e=true->e.on<k){listed:Array Bool}(kl:listed.size=all.length)(h:Region.ready .any all.toArray listed=[]):∀i,i<all.length->listed.getD i false=true:=by
 intro i;induction i using Nat.strongRecOn with
 |_ i ih=>
  intro hi;refine cj λhn=>?_;have:i∈Region.ready .any all.toArray listed:=by refine mem_ready.2 ⟨?_,all[i],by simp[hi],λe he hb=>?_⟩;rw[mE ab];simpa using hn;have iI:=nw i all[i] (aS hi) e he hb;exact ih e.on iI ab
  rw[h]at this;cases this
def Xm(P:Program)(Q:Exit->Act->World->Prop)(x y z:Oper):Exit->Act->World->Prop:=λe a w=>e=.normal∧
 nj P Q x (λa w=>nj P Q y (λa w=>nj P Q z (λa w=>Q .normal a w) a w) a w∧nj P Q z (λa w=>nj P Q y (λa w=>Q .normal a w) a w) a w) a w∧
 nj P Q z (λa w=>nj P Q x (λa w=>nj P Q y (λa w=>Q .normal a w) a w) a w) a w
def Zi(ht:zk pre x y z)(hi:i<pre.length){a:Act}(h:wpOp P pre.toArray (Xm P Q x y z) i K a w):wpOp P (pre++[x,y,z]).toArray Q i K a w:=by
 unfold wpOp at *
 rw[Dc i hi];have ho:pre.toArray[i]?=some pre[i]:=by simp[hi]
 rw[ho]at h⊢;simp only at h⊢;have hg:=ht.grd pre[i] (bJ hi);have hw:Region.wanted pre[i] (yielded (pre++[x,y,z]).toArray a.tmps)=Region.wanted pre[i] (yielded pre.toArray a.tmps):=by unfold Region.wanted;unfold Ry at hg;split;rfl;rename_i j want e;rw[e]at hg;simp only at hg;have hj:j<pre.length:=(by simpa[fh]using hg);unfold yielded;rw[Dc j hj]
 rw[hw];split;rename_i h1;rw[aW h1]at h;refine h.imp (Oper.Pb λe a w he hq=>absurd hq.1 he) ?_;rintro⟨_,_,_,h2,_⟩;cases h2;rename_i h1;rw[aV h1]at h;exact h
def Sd(ht:zk pre x y z)(nw:∀(k:Nat) (y:Oper),pre[k]?=some y->∀e∈y.after,Region.binds .any e=true->e.on<k):∀(fuel:Nat) (L M:Array Bool) (a:Act) (w:World),L.size=pre.length->zR pre.length L false false false M->wpAny P .any pre.toArray (Xm P Q x y z) fuel L a w->wpAny P .any (pre++[x,y,z]).toArray Q (fuel+3) M a w:=by
 have F1:∀(fuel:Nat) (L M:Array Bool) (a:Act) (w:World),L.size=pre.length->zR pre.length L false false false M->Region.ready .any pre.toArray L=[]->Xm P Q x y z .normal a w->wpAny P .any (pre++[x,y,z]).toArray Q (fuel+3) M a w:=by intro fuel L M a w hs hM hr hq;have lM:=BQ nw hs hr;exact Pc fuel (Zh ht nw hs lM hq.2.1 hq.2.2 hM)
 intro fuel;induction fuel with
 |zero=>exact λL M a w hs hM h=>F1 0 L M a w hs hM h.1 h.2
 |succ fuel ih=>
  intro L M a w hs hM h;by_cases hr:Region.ready .any pre.toArray L=[];exact F1 _ L M a w hs hM hr (h.1 hr)
  ·rw[show fuel+1+3=(fuel+3)+1 by omega];refine⟨λh0=>?_,λi hi=>?_⟩;obtain⟨i,hi⟩:=List.exists_mem_of_ne_nil _ hr;have:=Qb (x:=x) (y:=y) (z:=z) hs nw hM hi;rw[h0]at this;cases this
   ·rcases ry ht nw hs hM hi with⟨iI,h1⟩|⟨lM,_⟩
    exact wpOp_mono (λa w h=>ih _ _ a w (by simpa using hs) (hM.set hs iI) h) (Zi ht iI (h.2 i h1));exfalso;refine hr (eF.2 λi hi=>?_);obtain⟨h0,o,ho,_⟩:=mem_ready.1 hi;have hi:i<pre.length:=(by simpa using(dw.1 ho).1);rw[mE ab,lM i hi]at h0;cases h0
def Se{u:Oper}(hg:∀o∈pre,Ry pre.length o=true)(hu:zB u=true)(hc:Gv pre.length u=true)(OZ:Pd pre.length u=[])(nw:∀(k:Nat) (y:Oper),pre[k]?=some y->∀e∈y.after,Region.binds .any e=true->e.on<k):
  ∀(fuel:Nat) (L M:Array Bool) (a:Act) (w:World),L.size=pre.length->M.size=pre.length+1->(∀i,i<pre.length->M.getD i false=L.getD i false)->M.getD pre.length false=false->
   wpAny P .any pre.toArray (λe a w=>e=.normal∧nj P Q u (λa w=>Q .normal a w) a w) fuel L a w->wpAny P .any (pre++[u]).toArray Q (fuel+1) M a w:=by
 have get:∀i,i<pre.length->(pre++[u]).toArray[i]?=pre.toArray[i]? :=λi hi=>by simp[a8 hi]
 have ae8:(pre++[u]).toArray[pre.length]?=some u:=aa
 have cas:∀(L M:Array Bool) (i:Nat),L.size=pre.length->M.size=pre.length+1->(∀i,i<pre.length->M.getD i false=L.getD i false)->i∈Region.ready .any (pre++[u]).toArray M->(i<pre.length∧i∈Region.ready .any pre.toArray L)∨(i=pre.length∧M.getD pre.length false=false∧∀j,j<pre.length->L.getD j false=true):=by
  intro L M i hs kl vD h;obtain⟨h0,o,ho,h1⟩:=mem_ready.1 h;have BG:i<pre.length+1:=by simpa using(dw.1 ho).1
  by_cases hi:i<pre.length;rw[get i hi]at ho;refine .inl ⟨hi,mem_ready.2 ⟨by rw[mE ab,<-vD i hi,<-mE ab];exact h0,o,ho,λe he hb=>?_⟩⟩;have h3:=nw i o (by simpa using ho) e he hb;rw[<-vD _ ab];exact h1 e he hb
  ·have e1:i=pre.length:=ab
   subst e1;rw[ae8]at ho;cases ho;refine .inr ⟨rfl,by rw[<-mE ab];exact h0,λj hj=>?_⟩;obtain⟨e,he,hb,rfl⟩:=Pe hc hj;rw[<-vD _ hj];exact h1 e he hb
 have F1:∀(L M:Array Bool) (a:Act) (w:World),L.size=pre.length->M.size=pre.length+1->(∀i,i<pre.length->M.getD i false=L.getD i false)->M.getD pre.length false=false->Region.ready .any pre.toArray L=[]->nj P Q u (λa w=>Q .normal a w) a w->wpAny P .any (pre++[u]).toArray Q 1 M a w:=by
  intro L M a w hs kl vD hz hr hq;have lM:=BQ nw hs hr;refine⟨λh=>?_,λi hi=>?_⟩
  ·have:pre.length∈Region.ready .any (pre++[u]).toArray M:=mem_ready.2 ⟨by rw[mE ab];exact hz,u,ae8,λe he hb=>by
    by_cases q1:e.on<pre.length;rw[vD _ q1];exact lM _ q1;have:=CJ OZ he hb ab;cases this⟩
   rw[h]at this;cases this
  ·rcases cas L M i hs kl vD hi with⟨_,h⟩|⟨rfl,_,_⟩
   rw[hr]at h;cases h;refine wpOp_mono (λa w h=>⟨eF.2 λj hj=>?_,h⟩) (rI ae8 hu hq);obtain⟨h0,o,ho,h1⟩:=mem_ready.1 hj;have pS:j<pre.length+1:=(by simpa using(dw.1 ho).1);rw[mE (by simpa using by omega),tD ab]at h0;split at h0;cases h0;rw[vD j ab,lM j ab]at h0;cases h0
 intro fuel;induction fuel with
 |zero=>exact λL M a w hs kl vD hz h=>F1 L M a w hs kl vD hz h.1 h.2.2
 |succ fuel ih=>
  intro L M a w hs kl vD hz h;by_cases hr:Region.ready .any pre.toArray L=[];exact Pc (fuel+1) (F1 L M a w hs kl vD hz hr (h.1 hr).2)
  ·refine⟨λh0=>?_,λi hi=>?_⟩
   ·obtain⟨i,hi⟩:=List.exists_mem_of_ne_nil _ hr;obtain⟨k0,o,ho,h1⟩:=mem_ready.1 hi;have hi:i<pre.length:=(by simpa using(dw.1 ho).1);have:i∈Region.ready .any (pre++[u]).toArray M:=mem_ready.2 ⟨by rw[mE ab,vD i hi,<-mE ab];exact k0,o,by rw[get i hi];exact ho,λe he hb=>by
     have h3:=nw i o (by simpa using ho) e he hb;rw[vD _ ab];exact h1 e he hb⟩
    rw[h0]at this;cases this
   ·rcases cas L M i hs kl vD hi with⟨iI,h1⟩|⟨_,_,lM⟩
    ·have h2:=h.2 i h1;have ho:pre.toArray[i]?=some pre[i]:=(by simp[iI]);unfold wpOp at *
     rw[get i iI,ho];rw[ho]at h2;simp only at h2⊢;have hg:=hg pre[i] (bJ iI);have hw:Region.wanted pre[i] (yielded (pre++[u]).toArray a.tmps)=Region.wanted pre[i] (yielded pre.toArray a.tmps):=(by unfold Region.wanted;unfold Ry at hg;split;rfl;rename_i j want e;rw[e]at hg;simp only at hg;have hj:j<pre.length:=(by simpa[fh]using hg);unfold yielded;rw[get j hj]);have next:∀a w,wpAny P .any pre.toArray (λe a w=>e=.normal∧nj P Q u (λa w=>Q .normal a w) a w) fuel (L.setIfInBounds i true) a w->wpAny P .any (pre++[u]).toArray Q (fuel+1) (M.setIfInBounds i true) a w:=λa w h=>
      ih _ _ a w (by simpa using hs) (by simpa using kl) (λj hj=>by rw[tD ab,tD ab,vD j hj]) (by rw[getD_set_ne false ab,hz]) h
     rw[hw];split
     ·rename_i q1;rw[aW q1]at h2;refine h2.imp (λh=>Oper.wp_mono next (Oper.Pb (λe a w he hq=>absurd hq.1 he) h)) ?_;rintro⟨_,_,_,h2,_⟩;cases h2
     ·rename_i q1;rw[aV q1]at h2;exact next _ _ h2
    exfalso;refine hr (eF.2 λi hi=>?_);obtain⟨h0,o,ho,_⟩:=mem_ready.1 hi;have hi:i<pre.length:=(by simpa using(dw.1 ho).1);rw[mE ab,lM i hi]at h0;cases h0
variable{c0:Ctx}
def vR{Q:Exit->Env->PH->Prop}(hg:zB o=true){K:Env->PH->Prop}{R:Act->World->Prop}(h:jQ P N #[] K [o] env H){c:Ctx}{a:Act}(hr:Rel P c H)(hE:kI c0 c)(he:ER c N env a)
  (hR:∀c a env H,Rel P c H->kI c0 c->ER c N env a->K env H->R a c.w):nj P (QR P c0 N Q) o R a c.w:=by
 obtain⟨hd,h⟩:=h;have hn:o.guard=none:=by unfold zB at hg;split at hg;assumption;cases hg
 simp only[gd,hn]at h;obtain⟨v,H',Ek,hk⟩:=h;exact .inl (ad8 Ek hd hr he λc' a' kP rX mw=>hR c' a' _ _ kP (hE.trans rX) mw hk)
def Zj{Q1:Exit->Act->World->Prop}(hg:zB o=true){K:Env->PH->Prop}{R:Act->World->Prop}(h:jQ P N #[] K [o] env H){c:Ctx}{a:Act}(hr:Rel P c H)(hE:kI c0 c)(he:ER c N env a)
  (hR:∀c a env H,Rel P c H->kI c0 c->ER c N env a->K env H->R a c.w):nj P Q1 o R a c.w:=by
 obtain⟨hd,h⟩:=h;have hn:o.guard=none:=by unfold zB at hg;split at hg;assumption;cases hg
 simp only[gd,hn]at h;obtain⟨v,H',Ek,hk⟩:=h;exact .inl (ad8 Ek hd hr he λc' a' kP rX mw=>hR c' a' _ _ kP (hE.trans rX) mw hk)
def KO(P:Program)(K:List Nat)(pre:List Oper)(u x y z:Oper):Bool:=uI P K pre&&Xl (pre++[u]) x y z&&(pre.all (Ry pre.length)&&zB u&&Gv pre.length u&&Pd pre.length u==[])
variable{l:List Oper}
def Pf{id:Nat}{u:Oper}{Q:Exit->Env->PH->Prop}(K:List Nat)(hl:pre++[u]++[x,y,z]=l)(hm:P.follows .mixedOrders=true)(hd:KO P K pre u x y z=true)
  (h:ju P N pre.toArray K (λenv H=>jQ P N #[] (λenv H=>jQ P N #[] (λenv H=>jQ P N #[] (λenv H=>jQ P N #[] (λenv H=>Q .normal env H) [z] env H) [y] env H∧jQ P N #[] (λenv H=>jQ P N #[] (λenv H=>Q .normal env H) [y] env H) [z] env H) [x] env H∧
   jQ P N #[] (λenv H=>jQ P N #[] (λenv H=>jQ P N #[] (λenv H=>Q .normal env H) [y] env H) [x] env H) [z] env H) [u] env H) pre env H):
  PW P N (.region id l.toArray true) Q env H:=by
 subst hl;simp only[KO,bI,cY,bQ]at hd;obtain⟨⟨hd,ht⟩,⟨⟨Yc,Yd⟩,hcu⟩,OZ⟩:=hd;have ht:=acg ht;obtain⟨T,e1,e2,e3,e4⟩:=G0 pre 0 env H aa h;have hT:qZ P N pre K T:=⟨λi o ho=>(e4 i o (bm _) ho).1,λi o ho=>(e4 i o (bm _) ho).2.1,λi o ho=>(e4 i o (bm _) ho).2.2⟩;have hO:=yB hd;obtain⟨F,hF⟩:=CY P pre K T;intro c a hr he;refine wp_region_any hm ?_;have hg:=hr.grow (Ext.drew c.w);have none:∀i,¬lh (Array.replicate pre.toArray.size false) i:=by intro i h;simp only[lh,bF]at h;by_cases hi:i<pre.length<;>simp[hi]at h
 have KP:∀n j:Nat,(Array.replicate n false).getD j false=false:=by intro n j;rw[bF];by_cases hj:j<n<;>simp[hj]
 have nw:∀(k:Nat) (y:Oper),(pre++[u])[k]?=some y->∀e∈y.after,Region.binds .any e=true->e.on<k:=by
  intro k y hy e he hb;by_cases hk:k<pre.length;rw[a8 hk]at hy;exact hO.back k y hy e he hb
  ·rw[a7 ab]at hy;have n9:k-pre.length=0:=by
    have:=(aR.1 hy).1;simp at this;omega
   rw[n9]at hy;cases hy;refine cj λhn=>?_;have:=CJ OZ he hb ab;cases this
 rw[show((pre++[u]++[x,y,z]).toArray).size=(pre.length+1)+3 by simp];have sx:(pre++[u]).length=pre.length+1:=aa
 refine Sd ht nw (pre.length+1) (Array.replicate (pre++[u]).length false) _ a _ aa ⟨by simp,λi _=>by rw[KP,KP],KP _ _,KP _ _,KP _ _⟩ ?_;refine Se Yc Yd hcu OZ hO.back pre.length (Array.replicate pre.toArray.size false) _ a _ aa aa (λi _=>by rw[KP,KP]) (KP _ _) ?_;refine yR (c0:=c) hT hF hO ?_ _ _ a _ aa ?_ (λj o _ hj=>absurd hj (none j)) ?_;rintro a' w' ⟨c',rfl,kP,hE,mw⟩;simp only[bc]at e3;have fin:∀c2 a2 Ga H2,Rel P c2 H2->kI c c2->ER c2 N Ga a2->Q .normal Ga H2->QR P c N Q .normal a2 c2.w:=λc2 a2 Ga H2 q1 q2 q3 q4=>⟨c2,_,_,q4,rfl,q1,q2,q3⟩;refine⟨rfl,Zj Yd e3 kP hE mw λc1 a1 air H1 r1 r2 r3 e3=>⟨rfl,vR ht.gx e3.1 r1 r2 r3 λc1 a1 air H1 r1 r2 r3 r4=>⟨?_,?_⟩,?_⟩⟩;exact vR ht.gy r4.1 r1 r2 r3 λ_ _ _ _ s1 s2 s3 s4=>vR ht.gz s4 s1 s2 s3 fin;exact vR ht.gz r4.2 r1 r2 r3 λ_ _ _ _ s1 s2 s3 s4=>vR ht.gy s4 s1 s2 s3 fin;exact vR ht.gz e3.2 r1 r2 r3 λ_ _ _ _ s1 s2 s3 s4=>vR ht.gx s4 s1 s2 s3 λ_ _ _ _ s1 s2 s3 s4=>vR ht.gy s4 s1 s2 s3 fin;unfold left;refine b8 (List.length_filter_le _ _) aa;refine⟨⟨c.σ,c.τ,c.μ,c.hid,c.w.drew⟩,0,[],[],bm _,λj o hj _ _=>⟨λh=>absurd h (none j),λh=>ab⟩,⟨λj o _ _ h=>ab,gL,λj=>⟨λh=>(by cases h),λh=>absurd h.2.1 (none j)⟩⟩,rfl,by rw[eV,nZ];exact e2▸hg.1,(zJ _).symm,hg.2,by simp,by simp,λj o d _ _ hj=>absurd hj (none j),he.defers,he.size,λt=>.inr ⟨λi o _ hs=>absurd hs (none i),?_⟩⟩;rw[e1];exact(he.slot t).mono hg.2
def thr:List Oper->Option (Oper×Oper×Oper)
 |x::l=>match l with
  |y::l=>match l with
   |z::l=>match l with
    |[]=>some (x,y,z)|_::_=>none
   |[]=>none
  |[]=>none
 |[]=>none
def agq(h:thr l=some (x,y,z)): [x,y,z]=l:=by
 unfold thr at h;repeat' split at h
 all_goals first|(cases h;done)|skip
 rw[cg,eL,eL]at h;rw[h.1,h.2.1,h.2.2]
def KQ(n:Nat)(l:List Oper):Option (List Oper×(Oper×(Oper×Oper×Oper))):=match n,l with
 |0,[]=>none
 |0,u::l=>match thr l with
  |some q=>some ([],(u,q))|none=>none
 |_+1,[]=>none
 |n+1,a::l=>match KQ n l with
  |some (p,q)=>some (a::p,q)|none=>none
def TP{u:Oper}(n:Nat):∀{l:List Oper} {pre:List Oper},KQ n l=some (pre,(u,(x,y,z)))->pre++[u]++[x,y,z]=l:=by
 induction n with
 |zero=>
  intro l pre h;cases l with
  |nil=>simp only[KQ]at h;cases h
  |cons a l=>
   simp only[KQ]at h;split at h;rename_i q hq;simp only[cg,eL]at h;obtain⟨h1,h2,h3⟩:=h;subst h1 h2;subst h3;rw[dX,List.singleton_append,agq hq];cases h
 |succ n ih=>
  intro l pre h;cases l with
  |nil=>simp only[KQ]at h;cases h
  |cons a l=>
   simp only[KQ]at h;split at h;rename_i p q hq;simp only[cg,eL]at h;obtain⟨h1,h2⟩:=h;subst h1 h2;rw[dQ,dQ,ih hq];cases h
variable{K0:List Nat}
def yW{id:Nat}{u:Oper}{Q:Exit->Env->PH->Prop}(calls tx:Bool){K:List Nat}(n:Nat)(hl:KQ n l=some (pre,(u,(x,y,z))))(_h0:N0 H.bx lits=some K0)(_ha:DH pre env (isNil H.mu) calls tx K0=some K)(hm:P.follows .mixedOrders=true)(K1:List Nat)
  (hd:KO P (K1++K) pre u x y z=true) (h:ju P N pre.toArray (K1++K) (λenv H=>jQ P N #[] (λenv H=>jQ P N #[] (λenv H=>jQ P N #[] (λenv H=>jQ P N #[] (λenv H=>Q .normal env H) [z] env H) [y] env H∧jQ P N #[] (λenv H=>jQ P N #[] (λenv H=>Q .normal env H) [y] env H) [z] env H) [x] env H∧
   jQ P N #[] (λenv H=>jQ P N #[] (λenv H=>jQ P N #[] (λenv H=>Q .normal env H) [y] env H) [x] env H) [z] env H) [u] env H) pre env H):PW P N (.region id l.toArray true) Q env H:=Pf (K1++K) (TP n hl) hm hd h
def DY{id:Nat}{u:Oper}{Q:Exit->Env->PH->Prop}{C:Code}(E':Env)(H':PH)(calls tx:Bool){K:List Nat}(n:Nat)(hl:KQ n l=some (pre,(u,(x,y,z))))(_h0:N0 H.bx lits=some K0)(_ha:DH pre env (isNil H.mu) calls tx K0=some K)(hm:P.follows .mixedOrders=true)(K1:List Nat)
  (hd:KO P (K1++K) pre u x y z=true) (h:ju P N pre.toArray (K1++K) (λenv H=>jQ P N #[] (λenv H=>jQ P N #[] (λenv H=>jQ P N #[] (λenv H=>jQ P N #[] (λenv H=>qX env E'∧kW P H H') [z] env H) [y] env H∧jQ P N #[] (λenv H=>jQ P N #[] (λenv H=>qX env E'∧kW P H H') [y] env H) [z] env H) [x] env H∧
   jQ P N #[] (λenv H=>jQ P N #[] (λenv H=>jQ P N #[] (λenv H=>qX env E'∧kW P H H') [y] env H) [x] env H) [z] env H) [u] env H) pre env H) (k:PW P N C Q E' H'):PW P N (.region id l.toArray true) (Next (PW P N C Q) Q) env H:=
 Mg (Pf (Q:=λe env H=>e=.normal∧qX env E'∧kW P H H') (K1++K) (TP n hl) hm hd (by simpa only[true_and]using h)) λe env H he=>by obtain⟨rfl,h1,h2⟩:=he;exact ja h1 h2 k
end
def KR{u:Int}{mid:Int->Int->Int}:∀{a:Int} {r:List Int} {j:Nat} {x y:Int},(a::r)[j]?=some x->(a::r)[j+1]?=some y->(l6 u mid (a::r))[2*j+1]?=some (mid x y)
 |a,[],j,x,y,_,h2=>by simp at h2|a,b::r,0,x,y,h1,h2=>by simp at h1 h2;subst h1 h2;rfl|a,b::r,j+1,x,y,h1,h2=>by rw[show 2*(j+1)+1=2*j+1+1+1 by omega,show l6 u mid (a::b::r)=a::mid a b::l6 u mid (b::r)from rfl,c7,c7];exact KR (by simpa using h1) (by simpa using h2)
def KS{u:Int}{mid:Int->Int->Int}:∀{a:Int} {r:List Int} {x:Int},(a::r)[r.length]?=some x->(l6 u mid (a::r))[2*r.length+1]?=some (x+u)
 |a,[],x,h=>by simp at h;subst h;rfl|a,b::r,x,h=>by rw[bu,show 2*(r.length+1)+1=2*r.length+1+1+1 by omega,show l6 u mid (a::b::r)=a::mid a b::l6 u mid (b::r)from rfl,c7,c7];exact KS (by simpa using h)
variable{u:Int}{mid:Int->Int->Int}{E:List Int}
def DZ{x:Int}(h:E[0]?=some x):(jN u mid E)[0]?=some (x-u):=by
 cases E with
 |nil=>simp at h|cons a r=>simp at h;subst h;rfl
variable{j:Nat}
def FR{x y:Int}(h1:E[j]?=some x)(h2:E[j+1]?=some y):(jN u mid E)[2*(j+1)]?=some (mid x y):=by
 cases E with
 |nil=>simp at h1|cons a r=>rw[jN,show 2*(j+1)=2*j+1+1 by omega,c7];exact KR h1 h2
def D3{x:Int}(hj:j+1=E.length)(h:E[j]?=some x):(jN u mid E)[2*(j+1)]?=some (x+u):=by
 cases E with
 |nil=>simp at h
 |cons a r=>
  have:j=r.length:=by simpa using hj
  subst this;rw[jN,show 2*(r.length+1)=2*r.length+1+1 by omega,c7];exact KS h
variable{i:Nat}
def mI{α:Type}{l:List α}{a:α}(h:l[i]?=some a):l.take (i+1)=l.take i++[a]:=by obtain⟨h1,h2⟩:=aR.1 h;rw[b7 h1,h2]
def uP(E:List Int):List GV:=iD.gs ((jN mh pf E).map kn)
def wK(E:List Int):(uP E).length=2*E.length+1:=by unfold uP;rw[iD.jd,dm,dm,mZ]
variable{k:Int}
def sk(h:(jN mh pf E)[i]?=some k):(uP E)[i]?=some (kn k).g:=by unfold uP;rw[iD.jd,bj,bj,h];rfl
def Rz(E:List TX):Bool:=E.any λe=>decide (1000<=e.length)
def KT{E:List TX}{e:TX}(h:e∈E)(hl:1000<=e.length):Rz E=true:=List.any_eq_true.2 ⟨e,h,bU hl⟩
def Is{E:List TX}(h:∀e∈E,e.length<1000):Rz E=false:=by rw[eD];intro q;obtain⟨e,h1,h2⟩:=List.any_eq_true.1 q;have:=h e h1;have:=aU h2;omega
def KU(a:TX):(iD.mk 4 false 0 0 (qD a++⟨#[0]⟩) [])=km (lF a):=by unfold km lF;rw[<-Y3];rfl
def kB(V:ByteArray->Bool)(kd:Int):List iJ->Int
 |[]=>0|t::r=>if kG V t 1≠0 then kG V t 1 else if tY t kd=true then kB V kd r else 9
def nU{V:ByteArray->Bool}{kd:Int}:∀{l:List iJ},kB V kd l=0->∀t∈l,kG V t 1=0∧tY t kd=true
 |[],_,t,ht=>absurd ht cF
 |x::r,h,t,ht=>by
  rw[kB]at h;by_cases h1:kG V x 1=0
  ·rw[aV (dM h1)]at h;by_cases h2:tY x kd=true
   ·rw[aW h2]at h;rcases bN.1 ht with rfl|ht
    exact⟨h1,h2⟩;exact nU h t ht
   rw[aV h2]at h;cases h
  rw[aW h1]at h;exact absurd h h1
def rU(b:Bool):iD:=.mk 2 b 0 0 ⟨#[]⟩ []
def kN(V:ByteArray->Bool)(kd:Int)(l:List iJ):List GV×Int:=
 if kd<2∨4<kd then([],1)else if 20<l.length then([],5)else if kB V kd l≠0 then([],kB V kd l)
 else if kd=2 then([(rU false).g,(rU true).g],0)
 else if kd=3 then(uP (ku (l.flatMap jF)),0)
 else if Rz (ko (l.flatMap jj))=true then([],4)else(iD.gs ((jZ (ko (l.flatMap jj))).map km),0)
variable{n:Nat}
def vn{t:iJ}(h:lp n t):∀k∈jF t,(∃c e,iZ c e=0∧iR c e=k)∧SmallK k:=λk hk=>by obtain⟨a,ha,rfl⟩:=cH.1 hk;obtain⟨h1,h2⟩:=mT h a ha;obtain⟨k,y,c,e,t,l⟩:=a;obtain⟨_,h3,_⟩:=h1;obtain⟨h4,h5⟩:=h3 h2;exact⟨⟨c,e,h4,rfl⟩,h5⟩
def vo{t:iJ}(h:lp n t):∀s∈jj t,s.length<=1000:=λs hs=>by obtain⟨a,ha,rfl⟩:=cH.1 hs;obtain⟨h1,h2⟩:=mT h a ha;obtain⟨k,y,c,e,t,l⟩:=a;obtain⟨_,_,h3⟩:=h1;have:=h3 h2;have h5:=sZ t.toList;rw[Af]at h5;show t.toList.length<=1000;omega
def Aq{kd:Int}:∀{n:Nat} {t:iJ},lp n t->(jt kd t).length<=2*20^n
 |n+1,.mk k a b oa ob kids,h=>by
  obtain⟨h1,h2,h3,h4⟩:=h;have hp:1<=20^n:=Nat.one_le_pow _ _ af;rw[uM,bd,bd];have e1:(if(2<=k∧k<=7)∧iY a=kd then [a]else []).length<=1:=by split<;>simp
  have e2:(if k=7∧iY b=kd then [b]else []).length<=1:=by split<;>simp
  rw[cW];by_cases uG:k=8∨k=9
  ·rw[aW uG,aV ab,aV ab,qw];obtain⟨hl,hk⟩:=h4 ab;have ih:∀x∈kids,(jt kd x).length<=2*20^n:=λx hx=>Aq (hk x hx);have:∀(ks:List iJ),(∀x∈ks,(jt kd x).length<=2*20^n)->(ks.flatMap (jt kd)).length<=ks.length*(2*20^n):=λks=>by
    induction ks with
    |nil=>simp
    |cons y s ihs=>
     intro hy;rw[fv,bd,bu,bB,c8];have a1:=hy y (bE ..);have a2:=ihs λx hx=>hy x (bw _ hx);omega
   have h5:=this kids ih;have h6:kids.length*(2*20^n)<=20*(2*20^n):=bg _ hl;simp only[bH,b9];omega
  rw[aV uG];simp only[bH,bc];omega
def Cc{α:Type}{f:iJ->List α}{N:Nat}:∀{l:List iJ},(∀t∈l,(f t).length<=N)->(l.flatMap f).length<=l.length*N
 |[],_=>aa
 |t::r,h=>by rw[fv,bd,bu,bB,c8];have a1:=h t (bE ..);have a2:=Cc (l:=r) λx hx=>h x (bw _ hx);omega
def pU{l:List iJ}(hl:l.length<=20)(h:∀t∈l,lp 4 t):(l.flatMap jF).length<=6400000:=by
 have:=Cc (f:=jF) (N:=2*20^4) (l:=l) λt ht=>by unfold jF;rw[dm];exact Aq (h t ht)
 have h2:l.length*(2*20^4)<=20*(2*20^4):=bg _ hl;omega
def oN{l:List iJ}(hl:l.length<=20)(h:∀t∈l,lp 4 t):(l.flatMap jj).length<=6400000:=by
 have:=Cc (f:=jj) (N:=2*20^4) (l:=l) λt ht=>by unfold jj;rw[dm];exact Aq (h t ht)
 have h2:l.length*(2*20^4)<=20*(2*20^4):=bg _ hl;omega
def Cd(l r:List Int):ku (l++r)=r.foldl (ky λa b=>decide (a<b)) (ku l):=fw ..
def Ce(l r:List TX):ko (l++r)=r.foldl (ky λa b=>Op.bytesLess a b) (ko l):=fw ..
def oy{α β:Type}{f:α->List β}{l:List α}(h:i<l.length):(l.take (i+1)).flatMap f=(l.take i).flatMap f++f l[i]:=by rw[b7 h,eI];simp
def sI(E:List TX)(i:Nat):List TX:=Vm (E.take i)
def Sf{E:List TX}(h:i<E.length):sI E (i+1)=ky (λa b=>Op.bytesLess a b) (ky (λa b=>Op.bytesLess a b) (sI E i) E[i]) (lF E[i]):=by unfold sI Vm;rw[b7 h,fw];rfl
def TQ:pg 1 1=nO mh∧oO 1 1=ni mh:=KG af (by rw[acd];simp)
def SmallK.fit{k:Int}(h:SmallK k):wJ k:=h.two.fit
variable{a:Int}
def SmallK.sub{b:Int}(ha:SmallK a)(hb:SmallK b):oC (a-b):=by obtain⟨m,h1,h2⟩:=ha;obtain⟨n,h3,h4⟩:=hb;exact⟨m-n,by rw[h1,h3,Int.sub_mul],by omega⟩
def Vy:wJ tZ:=⟨5000000,by unfold tZ;decide+kernel,by decide⟩
def KV{u:Int}{mid:Int->Int->Int}{k:Int}:∀{a:Int} {r:List Int},k∈l6 u mid (a::r)->k∈a::r∨(∃x∈a::r,k=x+u)∨∃x∈a::r,∃y∈a::r,k=mid x y
 |a,[],h=>by
  rcases bN.1 h with h|h
  exact .inl (by simp[h]);exact .inr (.inl ⟨a,bE ..,by simpa using h⟩)
 |a,b::r,h=>by
  rw[show l6 u mid (a::b::r)=a::mid a b::l6 u mid (b::r)from rfl]at h;rcases bN.1 h with h|h
  exact .inl (by simp[h])
  ·rcases bN.1 h with h|h
   exact .inr (.inr ⟨a,bE ..,b,bw _ (bE ..),h⟩)
   ·rcases KV h with h|⟨x,hx,h⟩|⟨x,hx,y,hy,h⟩
    exact .inl (bw _ h);exact .inr (.inl ⟨x,bw _ hx,h⟩);exact .inr (.inr ⟨x,bw _ hx,y,bw _ hy,h⟩)
def wJ.ok(h:wJ k):∃c e,iZ c e=0∧iR c e=k:=by
 obtain⟨m,h1,h2⟩:=h;by_cases h0:m=0;subst h0;rw[gP]at h1;subst h1;exact⟨0,0,by decide,by decide+kernel⟩
 ·have hm:iR m (-7)=k:=by rw[h1];rfl
  have h3:(20000000000000000:Nat)*10^33<10^81:=by decide+kernel
  have hk:(iR m (-7)).natAbs<10^81:=by rw[hm,h1,dI,fo];exact bO (bg _ h2) h3
  obtain⟨a1,a2,_⟩:=Da (n:=m) (exp:= -7) ab af hk h0;exact⟨_,_,a1,a2.trans hm⟩
def Zk:wJ 0:=⟨0,by rw[gP],by decide⟩
def Sg(h:∀k∈E,SmallK k):∀k∈jN mh pf E,wJ k:=λk hk=>by
 cases E with
 |nil=>
  have:k=0:=by simpa[jN]using hk
  subst this;exact Zk
 |cons a r=>
  rcases bN.1 hk with hk|hk
  rw[hk];exact(SmallK.sub (h a (bE ..)) nM).fit
  ·rcases KV hk with hk|⟨x,hx,hk⟩|⟨x,hx,y,hy,hk⟩
   exact(h k hk).fit;rw[hk];exact(SmallK.add (h x hx) nM).fit;rw[hk];unfold pf;exact(SmallK.add (h x hx) (h y hy)).half.1
def Qc(h:∀k∈E,SmallK k):∀x y,x<y->x∈E->y∈E->x<pf x y∧pf x y<y:=λx y G1 hx hy=>by
 obtain⟨m,h1,_⟩:=h x hx;obtain⟨n,h2,_⟩:=h y hy;have hp:(2:Int)<=10^34:=by decide+kernel
 have hmn:m<n:=by rw[h1,h2]at G1;exact Int.lt_of_mul_lt_mul_right G1 ab
 have h3:(m+1)*10^34<=n*10^34:=Int.mul_le_mul_of_nonneg_right ab ab;rw[Int.add_mul,Int.one_mul]at h3;unfold pf;rw[<-h1,<-h2]at h3;generalize(10:Int)^34=p at *
 omega
def Vz:iD->Bool
 |.mk _ y _ _ _ _=>y
def qx(V:ByteArray->Bool)(kd:Int)(l:List iJ)(v:iD):Int×Int:=
 if(kN V kd l).2≠0 then(0,(kN V kd l).2)else if(kJ V v 0 1).2≠0 then(0,(kJ V v 0 1).2)else if iY v≠kd then(0,9)
 else if kd=2 then(if Vz v=true then 1 else 0,0)else if kd=3 then(mN (ku (l.flatMap jF)) (ow v),0)else(vP (ko (l.flatMap jj)) (nN v),0)
def MC(h:∀k∈E,SmallK k)(hi:i<(jN mh pf E).length):∃k,(jN mh pf E)[i]?=some k∧(uP E)[i]?=some (kn k).g∧∃c e,iZ c e=0∧iR c e=k:=by have hg:(jN mh pf E)[i]?=some (jN mh pf E)[i]:=aS hi;exact⟨_,hg,sk hg,(Sg h _ (bJ hi)).ok⟩
variable{V:ByteArray->Bool}{kd:Int}
def EP{l:List iJ}(h:kB V kd l=0):∀k∈ku (l.flatMap jF),(∃c e,iZ c e=0∧iR c e=k)∧SmallK k:=λk hk=>by have hk:=((si _).2 k).1 hk;obtain⟨t,ht,hk⟩:=dS.1 hk;exact vn (nH 4 (nU h t ht).1 rfl) k hk
def KW{l:List iJ}(h:kB V kd l=0):∀s∈ko (l.flatMap jj),s.length<=1000:=λs hs=>by have hs:=((qP _).2 s).1 hs;obtain⟨t,ht,hs⟩:=dS.1 hs;exact vo (nH 4 (nU h t ht).1 rfl) s hs
def KX:∀{E:List TX} {a:TX} {n:Nat},(∀e∈E,e.length<=n)->∀s∈qv a E,s.length<=n+1
 |[],_,_,_,s,hs=>absurd hs cF
 |v::r,a,n,h,s,hs=>by
  have hv:=h v (bE ..);have KY:(lF v).length<=n+1:=by unfold lF;simp;omega
  have ih:=KX (E:=r) (a:=lF v) (n:=n) λe he=>h e (bw _ he);rw[qv]at hs;split at hs
  ·rcases bN.1 hs with hs|hs
   rw[hs];exact KY;exact ih s hs
  ·rcases bN.1 hs with hs|hs
   rw[hs];omega
   ·rcases bN.1 hs with hs|hs
    rw[hs];exact KY;exact ih s hs
def FT{E:List TX}(h:∀e∈E,e.length<=n):∀s∈jZ E,s.length<=n+1:=λs hs=>by
 rcases bN.1 hs with hs|hs
 rw[hs];exact bm _;exact KX h s hs
def wL:∀(E:List TX) (a:TX),(qv a E).length<=2*E.length
 |[],_=>by simp[qv]|v::r,a=>by have ih:=wL r (lF v);rw[qv];split<;>simp<;>omega
end Go.Pure
namespace Go.Pure
variable{B d x1 x0:Nat}
def Qd{V:Nat}(h2:B<=2*d)(hd:d<B)(kf:x1<d)(sJ:x0<B)(hV:V=(B*B-1)/d):
  (V*x1+x0)/B*d<=x1*B+x0∧x1*B+x0<(V*x1+x0)/B*d+d+B:=by
 have BR:0<d:=ab
 have hB0:0<B:=ab
 have hBB:1<=B*B:=fD hB0 hB0;have e1:=eX (B*B-1) d;have e2:=bL (B*B-1) BR;rw[<-hV]at e1;generalize(B*B-1)%d=e at e1 e2;have t1:=eX (V*x1+x0) B;have t2:=bL (V*x1+x0) hB0;generalize(V*x1+x0)/B=q at t1⊢;generalize(V*x1+x0)%B=t0 at t1 t2;have m1:d*(B*q)+d*t0=d*(V*x1)+d*x0:=by rw[<-cn,<-cn,t1]
 have m2:d*(V*x1)+(1+e)*x1=B*B*x1:=by rw[<-cN,<-bB];congr 1;omega
 have m3:x0*(B-d)+d*x0=x0*B:=by rw[bG d x0,<-cn];congr 1;omega
 have key:(x1*B+x0)*B=q*d*B+((1+e)*x1+x0*(B-d)+d*t0):=by
  have k1:(x1*B+x0)*B=B*B*x1+x0*B:=by rw[bB,cN,bG x1]
  have k2:q*d*B=d*(B*q):=by rw[bG q d,cN,bG q B]
  rw[k1,k2];omega
 refine⟨Nat.le_of_mul_le_mul_right (c:=B) ab hB0,fL (a:=B) ?_⟩;rw[key,ep (q*d) d B,bB (q*d)];have u1:(1+e)*x1<=d*(d-1):=dy ab ab;have u2:x0*(B-d)<=(B-1)*(B-d):=bg _ ab;have u3:d*t0<=d*(B-1):=ch _ ab;have u4:(B-1)*(B-d)+d*(B-1)=(B-1)*B:=by rw[bG d,<-cn];congr 1;omega
 have u5:d*(d-1)<d*B:=Nat.mul_lt_mul_of_pos_left ab BR;have u6:(B-1)*B<=B*B:=bg _ ab;have u7:(d+B)*B=d*B+B*B:=bB _ _ _;omega
variable{v1 v2 u2:Nat}
def It{W vr h ur g r:Nat}(hr:h=g*v1+r)(hur:ur<W)(hg:r*B+u2<g*v2):(h*B+u2)*W+ur<g*((v1*B+v2)*W+vr):=by
 have e1:h*B=g*v1*B+r*B:=by rw[hr,bB]
 have e2:g*(v1*B+v2)=g*v1*B+g*v2:=by rw[cn,cN]
 have h1:h*B+u2+1<=g*(v1*B+v2):=ab
 have h2:=bg W h1;rw[bB,c8]at h2;have e3:g*((v1*B+v2)*W+vr)=g*(v1*B+v2)*W+g*vr:=by rw[cn,cN]
 omega
def Sh{g r:Nat}(hg:g<=B)(vI:v2<B)(hr:B<=r):g*v2<=r*B+u2:=by have h1:g*v2<=B*v2:=bg _ hg;have h2:B*v2<=B*B:=ch _ ab;have h3:B*B<=r*B:=bg _ hr;omega
def Ye{u v q:Nat}(h1:q*v<=u)(h2:u<q*v+v):u/v=q:=by
 have hv:0<v:=ab
 refine Nat.le_antisymm ?_ ?_;refine gJ ((bK hv).2 ?_);rw[Nat.succ_mul];exact h2;exact(fa hv).2 h1
def agr{u v q:Nat}(h1:q*v<=u)(h2:u<q*v+v):u%v=u-q*v:=by have:=eX u v;rw[Ye h1 h2,bG]at this;omega
end Go.Pure
namespace Go.Pure
open Go
def lz(y:Nat):Nat:=64-Lib.bitLen y
def nB(y:Nat):Nat:=y*2^lz y
def yK(y:Nat):Nat:=(WB*WB-1)/nB y-WB
def Yf:WB=2^64:=af
variable{y:Nat}
def xZ(h0:y≠0)(h:y<WB):1<=Lib.bitLen y∧Lib.bitLen y<=64∧2^(Lib.bitLen y-1)<=y∧y<2^Lib.bitLen y:=by obtain⟨a,b,c⟩:=Lib.bitLenAux_bounds 64 y h h0;exact⟨a,Lib.bitLen_le y 64 (aZ _) h,b,c⟩
def D4(h0:y≠0)(h:y<WB):WB<=2*nB y∧nB y<WB∧lz y<=63∧2^lz y*2^(64-lz y)=WB:=by
 obtain⟨a,b,c,d⟩:=xZ h0 h;have e1:lz y+Lib.bitLen y=64:=by unfold lz;omega
 unfold nB;have p1:2^(Lib.bitLen y-1)*2^lz y<=y*2^lz y:=bg _ c;have p2:y*2^lz y<2^Lib.bitLen y*2^lz y:=gE d (dt af);rw[<-fp]at p1 p2;rw[show Lib.bitLen y-1+lz y=63 by omega]at p1;rw[show Lib.bitLen y+lz y=64 by omega]at p2;refine⟨?_,p2,by omega,?_⟩
 ·have:WB=2*2^63:=af
  omega
 rw[<-fp,show lz y+(64-lz y)=64 by omega]
def ach(h0:y≠0)(h:y<WB):yK y<WB∧yK y+WB=(WB*WB-1)/nB y:=by
 obtain⟨a,b,_,_⟩:=D4 h0 h;have jX:0<nB y:=by
  have:0<WB:=af
  omega
 have h1:WB<=(WB*WB-1)/nB y:=by
  refine(fa jX).2 ?_;have:WB*nB y<=WB*(WB-1):=ch _ ab;have e:WB*(WB-1)=WB*WB-WB:=af
  have:WB*WB-WB<=WB*WB-1:=af
  omega
 have h2:(WB*WB-1)/nB y<2*WB:=by
  refine(bK jX).2 ?_;have:WB*WB<=2*WB*nB y:=by rw[bG 2 WB,cN];exact ch _ a
  have:0<WB*WB:=af
  omega
 unfold yK;omega
variable{x1 x0:Nat}
def ajL(h0:y≠0)(h:y<WB)(kf:x1<y)(sJ:x0<WB):
  x1*2^lz y+x0/2^(64-lz y)<nB y∧x0/2^(64-lz y)<2^lz y∧(x1*2^lz y+x0/2^(64-lz y))*WB+x0*2^lz y%WB=(x1*WB+x0)*2^lz y∧x1*2^lz y<WB:=by
 obtain⟨a,b,c,d⟩:=D4 h0 h;have h1:x0/2^(64-lz y)<2^lz y:=(bK (dt af)).2 (by rw[d];exact sJ);have h2:(x1+1)*2^lz y<=y*2^lz y:=bg _ kf;rw[bB,c8]at h2;have h3:x0*2^lz y/WB=x0/2^(64-lz y):=by
  conv=>lhs;rw[<-d,bG x0]
  exact Nat.mul_div_mul_left _ _ (dt af)
 have h4:=cT (x0*2^lz y) WB;rw[h3]at h4;have h5:x1*2^lz y*WB=x1*WB*2^lz y:=by rw[cN,bG (2^lz y),<-cN]
 unfold nB at b⊢;generalize 2^lz y=u at *
 generalize x0/2^(64-lz y)=v,y*u=w at *
 refine⟨by omega,h1,?_,by omega⟩;rw[bB,bB,h5,bG v WB];omega
variable{m X1 X0 d:Nat}
def Qe(Pg:X0<WB)(hX1:X1<d)(hd:d<WB)(h2:WB<=2*d)(hm:m+WB=(WB*WB-1)/d):
  let g:=m*X1/WB+X1+(m*X1%WB+X0+0)/WB
  g<WB∧g=(m*X1+X0)/WB+X1∧g*d<=X1*WB+X0∧X1*WB+X0<g*d+d+WB∧(m*X1%WB+X0+0)/WB<=1:=by
 intro g;have hg:g=(m*X1+X0)/WB+X1:=by
  have h1:=cT (m*X1) WB;have e:(m*X1+X0)/WB=(m*X1%WB+X0+WB*(m*X1/WB))/WB:=by congr 1;omega
  rw[cL _ _ af]at e;show m*X1/WB+X1+(m*X1%WB+X0+0)/WB=_;rw[e,b9];omega
 have hV:=Qd (B:=WB) (d:=d) (x1:=X1) (x0:=X0) (V:=m+WB) h2 hd hX1 Pg hm;have e2:((m+WB)*X1+X0)/WB=(m*X1+X0)/WB+X1:=by rw[bB,show m*X1+WB*X1+X0=m*X1+X0+WB*X1 by omega,cL _ _ af]
 rw[e2,<-hg]at hV;refine⟨?_,hg,hV.1,hV.2,?_⟩
 ·have BR:0<d:=ab
  refine fL (a:=d) ?_;have:(X1+1)*WB<=d*WB:=bg _ hX1;rw[bB,c8]at this;rw[bG WB d];omega
 ·have:=bL (m*X1) (show 0<WB by decide);have h3:m*X1%WB+X0+0<2*WB:=ab
  have:=(bK (show 0<WB by decide)).2 h3;omega
def Si{g:Nat}(Pg:X0<WB)(hX1:X1<d)(hd:d<WB)(h1:g*d<=X1*WB+X0)(h2:X1*WB+X0<g*d+d+WB):
  let r0:=(X0+WB-d*g%WB-0)%WB
  let b:=if X0<d*g%WB+0 then 1 else 0
  let r1:=(X1+WB-d*g/WB-b)%WB
  r1*WB+r0=X1*WB+X0-g*d∧r1<=1∧r0<WB:=by
 intro r0 b r1;have m0:=cT (d*g) WB;have m1:=bL (d*g) (show 0<WB by decide);rw[bG g d]at h1 h2⊢;have zP:r0=(X0+WB-d*g%WB)%WB:=rfl;have hb:b=if X0<d*g%WB then 1 else 0:=rfl
 have nV:r1=(X1+WB-d*g/WB-b)%WB:=rfl;generalize d*g%WB=l at *
 generalize d*g/WB=h at *
 generalize d*g=p at *
 clear_value r0 b r1
 have hw:WB=18446744073709551616:=rfl;generalize WB=W at *
 subst hw;have hh:h<=X1:=ab
 by_cases hc:X0<l
 ·rw[aW hc]at hb;subst hb;rw[show X0+18446744073709551616-l=X0+18446744073709551616-l from rfl,bn ab]at zP;have hh2:h+1<=X1:=ab
  rw[show X1+18446744073709551616-h-1=X1-h-1+18446744073709551616 by omega,ie,bn ab]at nV;omega
 rw[aV hc]at hb;subst hb;rw[show X0+18446744073709551616-l=X0-l+18446744073709551616 by omega,ie,bn ab]at zP;rw[show X1+18446744073709551616-h-0=X1-h+18446744073709551616 by omega,ie,bn ab]at nV;omega
abbrev HB:Nat:=4294967296
structure BD(H u2 v1 v2 g r:Nat):Prop where
 h:H=g*v1+r
 q:(H*HB+u2)/(v1*HB+v2)<=g
 b:g<=HB+1
variable{u2 v1 v2:Nat}
def BD.start{H:Nat}(hH:H<v1*HB+v2)(lI:2147483648<=v1)(ah2:v1<HB)(vI:v2<HB)(hu:u2<HB):BD H u2 v1 v2 (H/v1) (H%v1):=by
 refine⟨by rw[bG];exact(eX H v1).symm,?_,?_⟩
 ·refine gJ ((bK ab).2 ?_);have h1:=eX H v1;have h2:=bL H (show 0<v1 by omega);generalize H/v1=g at *
  generalize H%v1=r at *
  rw[bG (g.succ),show(v1*HB+v2)*g.succ=(v1*HB+v2)*g+(v1*HB+v2)from Nat.mul_succ _ _];have e1:(v1*HB+v2)*g=v1*g*HB+v2*g:=by rw[bB,gU]
  have e2:(r+1)*HB<=v1*HB:=bg _ h2;rw[e1];have e3:H*HB=v1*g*HB+r*HB:=by rw[<-h1,bB]
  rw[bB,c8]at e2;generalize HB=B at *
  omega
 ·have:H<(HB+2)*v1:=by
   have:(v1+1)*HB<=(HB+2)*v1:=(by unfold HB;omega);rw[bB,c8]at this;omega
  have:=(bK (show 0<v1 by omega)).2 this;omega
def BD.over{H g r:Nat}(hI:BD H u2 v1 v2 g r)(hH:H<v1*HB+v2)(hu:u2<HB)(hc:HB<=g∨r*HB+u2<g*v2):1<=g∧BD H u2 v1 v2 (g-1) (r+v1):=by
 have hv:0<v1*HB+v2:=ab
 have iI:(H*HB+u2)/(v1*HB+v2)<g:=by
  rcases hc with hc|hc
  ·refine bX ((bK hv).2 ?_) hc;have:(H+1)*HB<=(v1*HB+v2)*HB:=bg _ hH;rw[bB,c8]at this;rw[bG HB];generalize HB=B at *
   omega
  refine(bK hv).2 ?_;have:=It (B:=HB) (W:=1) (v1:=v1) (v2:=v2) (vr:=0) (h:=H) (u2:=u2) (ur:=0) (g:=g) (r:=r) hI.h af hc;simpa using this
 have hg:1<=g:=bO (bm _) iI;refine⟨hg,⟨?_,by omega,by have:=hI.b;omega⟩⟩;have e:g*v1=(g-1)*v1+v1:=by conv=>lhs;rw[show g=g-1+1 by omega,bB,c8]
 have:=hI.h;omega
def BD.done{H g r:Nat}(hI:BD H u2 v1 v2 g r)(lI:1<=v1)(hc:g*v2<=r*HB+u2):(H*HB+u2)/(v1*HB+v2)=g:=by
 refine Nat.le_antisymm hI.q ((fa (by have:1*HB<=v1*HB:=bg _ lI;unfold HB at *;omega)).2 ?_);have e1:H*HB=g*v1*HB+r*HB:=by rw[hI.h,bB]
 have e2:g*(v1*HB+v2)=g*v1*HB+g*v2:=by rw[cn,cN]
 omega
def Zl(h0:y≠0)(h:y<WB):WB-1-nB y<nB y∧((WB-1-nB y)*WB+(WB-1))/nB y=yK y:=by
 obtain⟨a,b,_,_⟩:=D4 h0 h;refine⟨by omega,?_⟩;unfold yK;have e:(WB-1-nB y)*WB+(WB-1)=WB*WB-1-nB y*WB:=by
  rw[Nat.mul_sub_right_distrib];have h1:nB y*WB<=(WB-1)*WB:=bg _ ab;have h2:(WB-1)*WB+(WB-1)=WB*WB-1:=af
  omega
 rw[e,Nat.sub_mul_div]
end Go.Pure
namespace Go.Pure
open Go Go.RowKit
section
variable{P:Program}{o:Oper}{ρ:Operand->PV}{H:PH}
def Zm{x:Operand}{t:TypeId}{k:IntKind}{n:Int}(ho:o.op=.unOp .xor t x)(lY:ρ x=.g (.int k n)):PO P o ρ H (.g (.int k (k.wrap (BitVec.ofInt k.bits (if k.signed=true then -1 else k.max) ^^^ BitVec.ofInt k.bits n).toNat))) H:=
 jr λc ρr hr hx=>by have h1:=hx x (by simp[ho,Op.operands]);rw[lY]at h1;exact⟨_,by simp[execOp,ho,k6 h1,Op.unary,Op.intBits],.g _ _ (.int _ _)⟩
end
section
variable{P:Program}{N:Nat}{Q:Exit->Env->PH->Prop}{env:Env}{H:PH}
end
end Go.Pure
namespace Go.Pure
open Go
def qk{l:List Nat}{k x:Nat}(h:l[k]?=some x):val (l.drop k)=x+WB*val (l.drop (k+1)):=by have hk:=(aR.1 h).1;rw[bY hk,val];rw[aS hk]at h;rw[cE h]
def ES(D x X:Nat)(hD:0<D):(x+WB*X)/D=(x+WB*(X%D))/D+WB*(X/D)∧(x+WB*X)%D=(x+WB*(X%D))%D:=by
 have h1:=cT X D;have e:x+WB*X=x+WB*(X%D)+D*(WB*(X/D)):=by
  have e2:WB*X=WB*(X%D)+D*(WB*(X/D)):=by rw[Nat.mul_left_comm D,<-cn,h1]
  rw[e2,ep]
 refine⟨?_,?_⟩;rw[e,cL _ _ hD];rw[e,dc]
def x7{D x R:Nat}(hx:x<WB)(hR:R<D):(x+WB*R)/D<WB:=by refine(bK (bO (bm _) hR)).2 ?_;have h1:WB*(R+1)<=WB*D:=ch _ hR;rw[cn,cU]at h1;exact bX (by rw[eK];exact Nat.add_lt_add_left hx _) h1
def Hc(D:Nat)(ws l:List Nat)(k:Nat):List Nat:=ws.take k++(iQ (l.length-k) (val (l.drop k)/D)++ws.drop l.length)
variable{ws:List Nat}
def Sj{D k:Nat}{l:List Nat}(h:k<=l.length)(hw:l.length<=ws.length):(Hc D ws l k).length=ws.length:=by unfold Hc;rw[bd,bd,bW,eY,iN];omega
def KZ(D:Nat){l:List Nat}(_h:l.length<=ws.length):Hc D ws l l.length=ws:=by unfold Hc;rw[dA];simp[iQ]
def Zn(D:Nat)(ws l:List Nat):Hc D ws l 0=iH ws 0 (iQ l.length (val l/D)):=by unfold Hc iH;rw[iN];simp
def Ph{D k x:Nat}{l:List Nat}(hD:0<D)(hx:x<WB)(h:l[k]?=some x)(hw:l.length<=ws.length):(Hc D ws l (k+1)).set k ((x+WB*(val (l.drop (k+1))%D))/D)=Hc D ws l k:=by
 have hk:=(aR.1 h).1;have hs:=(ES D x (val (l.drop (k+1))) hD).1;have hd:=x7 (x:=x) hx (bL (val (l.drop (k+1))) hD);obtain⟨q,hq⟩:∃q,q=(x+WB*(val (l.drop (k+1))%D))/D:=⟨_,rfl⟩;have hqw:q<WB:=by rw[hq];exact hd
 have e:(ws.take k).length=k:=by simp;omega
 have hwk:ws.take (k+1)=ws.take k++[ws[k]'(by omega)]:=b7 ab;unfold Hc;rw[qk h,hs,<-hq,show l.length-k=(l.length-(k+1))+1 by omega,iQ,dc,bn hqw,cL _ _ af,cZ hqw,bc];rw[hwk,bV,dW _ _ ab,e,dA];rfl
def Iu{D k x:Nat}{l:List Nat}(hD:0<D)(h:l[k]?=some x):val (l.drop k)%D=(x+WB*(val (l.drop (k+1))%D))%D:=by rw[qk h];exact(ES D x _ hD).2
section
variable{P:Program}
def POx(P:Program)(o:Oper)(ρ:Operand->PV)(H:PH)(R:PV->PH->Prop):Prop:=
 ∀(c:Ctx) (ρr:Operand->Value),Rel P c H->(∀x∈o.op.operands.toList,RV c (ρ x) (ρr x))->
  kU P ρr o c.w λrv w'=>∃v H' c',R v H'∧c'.w=w'∧Rel P c' H'∧kI c c'∧RV c' v rv
variable{code:Code}{N:Nat}{H:PH}{R:PV->PH->Prop}
def ET{f:FuncId}{fn:Func}{rs:List ResultVar}{args:List PV}(hf:P.funcs[f]?=some fn)(hb:fn.body=some code)(hn:fn.ntmps=N)
  (vF:fn.results=rs.toArray) (hl:args.length<=N) (h:PW P N code (λe env H2=>∃v H',R v H'∧JF P rs H v H' e env H2) (JG args) H):Ds P f args H R:=by
 intro c vs hr ha;refine calls_of_wp hf hb (wp_mono (h (c.wd []) _ (hr.wd []) (Hl hn hl ha)) ?_);rintro e a w' ⟨c',env',H2,⟨v,H',hR,NX⟩,rfl,kP,hE,mw⟩;have GU:a.defers=[]:=mw.defers.trans (aT Hid.d hE.hid);obtain⟨v',e1,rv,c'',e2,e3,e4,e5,e6⟩:=Em hr vF NX kP hE mw.size mw.slot;rcases NX.1 with rfl|rfl
 exact⟨GU,v',e1,v,H',rv,c'',hR,e2,e3,e4,e5,e6⟩;exact⟨GU,v',e1,v,H',rv,c'',hR,e2,e3,e4,e5,e6⟩
def Cf{all:Array Oper}{Q1 Q:Exit->Act->World->Prop}{l':List Oper}(hq:∀e a w,Q1 e a w->e=.normal∧wpList P all Q l' a w):∀{l:List Oper} {a:Act} {w:World},wpList P all Q1 l a w->wpList P all Q (l++l') a w
 |[],_,_,h=>(hq _ _ _ h).2
 |o::rest,a,w,h=>by
  show wpList P all Q (o::(rest++l')) a w;unfold wpList at h⊢;split
  ·rename_i hw;rw[aW hw]at h;refine h.imp ?_ ?_
   ·intro h;have h1:=Oper.wp_mono (Q:=Q1) (λa w h=>Cf hq (l:=rest) (a:=a) (w:=w) h) h;unfold Oper.wp at *
    generalize(execOp a.eval o).run P w=r at *
    cases r with
    |ok n w'=>
     cases n<;>simp only[Oper.upon]at h1⊢ <;>
      first
       |exact h1
       |exact Calls.mono h1 (λe w'' he=>by cases e;exact he;exact absurd (hq _ _ _ he).1 aa;obtain⟨a,w,h⟩:=he;exact absurd (hq _ _ _ h).1 aa)
    |halt x w'=>cases x<;>simp only[Oper.upon]at h1⊢ <;>first|exact h1|exact absurd (hq _ _ _ h1).1 aa
   rintro⟨h1,a,w,h2⟩;exact absurd (hq _ _ _ h2).1 aa
  rename_i hw;rw[aV hw]at h;exact Cf hq h
variable{N:Nat}{Q:Exit->Env->PH->Prop}{env:Env}{H:PH}
variable{o:Oper}
def pY{id:Nat}{l1 l2:List Oper}(hg:o.guard=none)(hd:∀t,o.dst=some t->t<N)
  (h:jQ P N (l1++o::l2).toArray (λenv H=>∃R,POx P o env.eval H R∧∀v H',R v H'->jQ P N (l1++o::l2).toArray (λenv H=>Q .normal env H) l2 (qE env o.dst v) H') l1 env H):
  PW P N (.region id (l1++o::l2).toArray false) Q env H:=by
 intro c a hr he;refine wp_region_lit ?_;have h1:=mX l1 env H h c a hr he;refine Cf ?_ h1;rintro e a1 w1 ⟨c1,air,H1,⟨rfl,R,hp,hk⟩,rfl,nV,qT,he1⟩;refine⟨rfl,?_⟩;unfold wpList;have hw:Region.wanted o (yielded (l1++o::l2).toArray a1.tmps)=true:=by unfold Region.wanted;rw[hg]
 rw[aW hw];refine .inl ((hp c1 a1.eval nV (λx _=>he1.eval x)).wp ?_);rintro rv w' ⟨v,H',c2,hR,rfl,nh,JE,hv⟩;have h2:=mX l2 _ _ (hk v H' hR) c2 (a1.put o.dst rv) nh ((he1.mono JE).put hd hv);refine mX.rN ?_ h2;rintro e a w ⟨c3,al4,H3,⟨rfl,q⟩,hw3,OL,hE3,he3⟩;exact⟨c3,al4,H3,q,hw3,OL,(qT.trans JE).trans hE3,he3⟩
variable{ps:List PV}
def xi(ks:List Bool){ρ:Operand->PV}{f:Operand}{args:Array Operand}{ts:Array TypeId}{id:FuncId}(ho:o.op=.call {callee:=.value f,args:=args,argTypes:=ts})
  (hf:ρ f=.g (.raw (.func (.func id) #[] #[]))) (he:nI P id=true) (ha:od ρ ks args.toList=ps) (hp:Ds P id ps H R):POx P o ρ H R:=by
 intro c ρr hr hx;have tI:∀x,x=f∨x∈args.toList->x∈o.op.operands.toList:=by
  intro x hx;simp[ho,Op.operands,Call.operands];rcases hx with rfl|hx
  exact .inl rfl;exact .inr (by simpa using hx)
 have xx:=hx f (tI f (.inl rfl));rw[hf]at xx;have S3:=Bc xx;have kX:(execOp ρr o).run P c.w=.ok (.enter id (args.map ρr)) c.w:=by simp[execOp,ho,resolve,S3,Deferred.ofValue,invoke,qn he]
 unfold kU;rw[kX];refine(hp c _ hr ⟨by rw[<-ha,nz];simp,λi p u kD hu=>?_⟩).mono ?_;simp only[ff,bh]at hu;obtain⟨x,kf,rfl⟩:=hu;rw[<-ha]at kD;exact uK ks args.toList (λz hz=>hx z (tI z (.inr hz))) i p x kD (by simpa using kf);rintro e w' ⟨v,H',rv,c',hR,rfl,rfl,kP,hE,pr⟩;exact⟨rv,rfl,v,H',c',hR,rfl,kP,hE,pr⟩
def K2{id:FuncId}{qs:List PV}{H0:PH}(hp:Ds P id ps H0 R)(I J L:List Nat)(hn:(nodupB I&&nodupB J&&nodupB L)=true)(hb:tl I J L H.bx I=some H0.bx)(ht:tW H.tk J=some H0.tk)(hm:tX H.mu L=some H0.mu)
  (ha:pa (posOf I) (posOf J) (posOf L) qs=ps):Ds P id qs H λv' H'=>∃v H1,R v H1∧v'=rF (jw I H.bx.length) (jw J H.tk.length) (jw L H.mu.length) v∧H'=back I J L H H1:=by
 simp only[bI]at hn;obtain⟨b1,b2⟩:=yC hb;obtain⟨t1,t2⟩:=yD ht;obtain⟨m1,m2⟩:=yE hm;exact Kb hp (mS hn.1.1) (mS hn.1.2) (mS hn.2) b1 b2 t1 t2 m1 m2 ha
def Ds.mono{f:FuncId}{args:List PV}{R R':PV->PH->Prop}(h:Ds P f args H R)(hR:∀a b,R a b->R' a b):Ds P f args H R':=
 λc vs hr ha=>(h c vs hr ha).mono λ_ _ ⟨a,b,rv,c',lr,h1⟩=>⟨a,b,rv,c',hR a b lr,h1⟩
end
section
variable{P:Program}{o:Oper}{ρ:Operand->PV}{H:PH}
def Hd(w:World)(t u ty e:TypeId)(i:TypeInfo)(z:Value){k:IntKind}(ht:P.underlying t=some (.slice e))(hu:P.underlying u=some (.int k))(hi:P.info? e=some i)(hz:i.zero=some z)(hs:i.size=1)(n:Nat)(h0:0<n)(hn:n<=1000000)(hb:i.bytes<=1000):
  (Builtin.append_ #[t,u] ty #[.slice none 0 0,.int .i64 n]).run P w=.ok (.slice (some ⟨w.heap.size,0,none⟩) n (grownCap w n 0 e)) (w.drew.alloc (.cells (Builtin.zeroCells z.cells n++Builtin.zeroCells z.cells (grownCap w n 0 e-n)) e)):=by
 have VA:n≠0:=ab
 have hw:i64.wrap (n:Int)=(n:Int):=by simp[IntKind.wrap,IntKind.bits,IntKind.signed];omega
 have h1:¬((n:Int)<0):=ab
 have hnb:n*i.bytes<=1000000*1000:=dy hn hb;have h2:¬(281474976710656<(n:Int)*(i.bytes:Int)):=by rw[<-dJ];omega
 have QI:¬(9223372036854775807<(n:Int)):=ab
 have h48:¬(281474976710656<Builtin.nextslicecap n 0*i.bytes):=by rw[nextslicecap_zero h0];omega
 simp[Builtin.append_,run_underlying ht,run_underlying hu,sizeOf,typeInfo,zeroValue,hi,hz,asInt,asIntOf,hw,h1,h2,hs,VA,QI,h48,Question.forced,run_firstCells_none,newRow,grownCap]
variable{z:Value}
def BS(hz:z.oneCell'=true)(n:Nat):Builtin.zeroCells z.cells n=Array.replicate n z:=by rw[cells_one hz];apply Array.ext;simp[Builtin.zeroCells];intro i h1 h2;simp[Builtin.zeroCells,Nat.mod_one]
variable{m n:Nat}
def Nu{x y:Operand}{t u e:TypeId}{k:IntKind}(ho:o.op=.call {callee:=.builtin .append,args:=⟨[x,y]⟩,argTypes:=⟨[t,u]⟩})(ht:P.underlying t=some (.slice e))(hu:P.underlying u=some (.int k))(hs:kZ P e=some 1)(hz:my P e=some z)(uc:z.oneCell'=true)
  (yv:sF P e=some m) (hm:m<=1000) (lY:ρ x=.iM) (Jk:ρ y=.g (.int .i64 n)) (h0:1<=n) (hn:n<=1000000):
  POx P o ρ H λv H'=>∃C,n<=C∧C<=maxLen∧v=.vw H.mu.length 0 0 n C∧H'=⟨H.bx,H.tk,H.mu++[.arr 0 e (List.replicate C (mB z))]⟩:=by
 intro c ρr hr hx;have h1:=hx x (by simp[ho,Op.operands,Call.operands]);have h2:=hx y (by simp[ho,Op.operands,Call.operands]);rw[lY]at h1;rw[Jk]at h2;have q2:=k6 h2;generalize hv:ρr x=v at h1;cases h1;obtain⟨i,hi,kl⟩:∃i,P.info? e=some i∧i.size=1:=by
  unfold kZ at hs;cases hu:P.info? e with
  |none=>rw[hu]at hs;cases hs|some i=>rw[hu]at hs;exact⟨i,rfl,by simpa using hs⟩
 have QH:i.zero=some z:=by unfold my at hz;rw[hi]at hz;simpa using hz
 have hib:i.bytes=m:=by unfold sF at yv;rw[hi]at yv;simpa using yv
 have aeb:=Hd c.w t u o.type e i z ht hu hi QH kl n ab hn ab;have sC:n<=grownCap c.w n 0 e:=grownCap_ge c.w n 0 e;have se:grownCap c.w n 0 e<=maxLen:=grownCap_le_maxLen c.w n 0 e ai;generalize grownCap c.w n 0 e=C at *
 have mC:Builtin.zeroCells z.cells n++Builtin.zeroCells z.cells (C-n)=Array.replicate C z:=by rw[BS uc,BS uc,Array.replicate_append_replicate,show n+(C-n)=C by omega]
 rw[mC]at aeb;have kX:(execOp ρr o).run P c.w=.ok (.value (.slice (some ⟨c.w.heap.size,0,none⟩) n C)) (c.w.drew.alloc (.cells (Array.replicate C z) e)):=by simp[execOp,ho,resolve,invoke,builtin,hv,q2,aeb]
 unfold kU;rw[kX];have mM:(mB z).cells=[mB z]:=(o9 c.w c.jq z).cells_one uc;obtain⟨r1,r2⟩:=hr.Rb (Ext.trans (Ext.drew c.w) (Ext.alloc c.w.drew (.cells (Array.replicate C z) e))) (t:=⟨true,c.w.heap.size,1,0,C,C⟩) (o:=.arr 0 e (List.replicate C (mB z))) (λ_=>⟨aZ _,by simp⟩)
  ⟨rfl,by simp,hs,.inr ⟨rfl,_,Go.heap_alloc_new c.w.drew _,by simp,by simp,se,λx hx=>by rw[(fS.1 hx).2,mM];rfl,λk x j g v hx hg hv=>by rw[eJ]at hx;split at hx;cases hx;rw[mM]at hg;have hj:j=0:=(by have:=(aR.1 hg).1;simpa using this);subst hj;simp at hg;subst hg;rw[Array.getElem?_replicate]at hv;split at hv;cases hv;exact⟨o9 _ _ z,uc⟩;cases hv;cases hx⟩⟩
 refine⟨_,_,_,⟨C,sC,se,rfl,rfl⟩,rfl,r1,r2,?_⟩;refine adV (t:=⟨true,c.w.heap.size,1,0,C,C⟩) ?_ (aZ _) rfl rfl sC se aa;show(c.μ++[_])[H.mu.length]?=_;rw[<-hr.nq];simp
end
def sM:List Nat->List Nat->Nat->List Nat
 |x::xs,y::ys,c=>(x+WB-y-c)%WB::sM xs ys (if x<y+c then 1 else 0)|_,_,_=>[]
def sn:List Nat->List Nat->Nat->Nat
 |x::xs,y::ys,c=>sn xs ys (if x<y+c then 1 else 0)|_,_,c=>c
def wM:∀{x y:List Nat} {c:Nat},x.length=y.length->(sM x y c).length=x.length
 |[],[],_,_=>rfl|[],_::_,_,h=>by cases h|_::_,[],_,h=>by cases h|x::xs,y::ys,c,h=>by simp[sM,wM (x:=xs) (y:=ys) (by simpa using h)]
def CK:∀(x y:List Nat) (c:Nat),okW (sM x y c)
 |x::xs,y::ys,c=>iS.2 ⟨bL _ af,CK xs ys _⟩|[],_,_=>by simp[sM,okW]|_::_,[],_=>by simp[sM,okW]
def Gw:∀(x y:List Nat) (c:Nat),c<=1->sn x y c<=1
 |x::xs,y::ys,c,_=>Gw xs ys _ (by split<;>omega)|[],_,c,h=>by simpa[sn]using h|_::_,[],c,h=>by simpa[sn]using h
def MD:∀{x y:List Nat} {c:Nat},x.length=y.length->okW x->okW y->c<=1->val (sM x y c)+val y+c=val x+WB^x.length*sn x y c
 |[],[],c,_,_,_,_=>by simp[sM,sn,val]|[],_::_,_,h,_,_,_=>by cases h|_::_,[],_,h,_,_,_=>by cases h
 |x::xs,y::ys,c,h,hx,hy,hc=>by
  obtain⟨a1,a2⟩:=iS.1 hx;obtain⟨b1,b2⟩:=iS.1 hy;have ih:=MD (x:=xs) (y:=ys) (c:=if x<y+c then 1 else 0) (by simpa using h) a2 b2 (by split<;>omega);simp only[sM,sn,val,bu,cW];rw[bG (WB^xs.length),cN];generalize WB^xs.length*sn xs ys (if x<y+c then 1 else 0)=P at *
  generalize val (sM xs ys (if x<y+c then 1 else 0))=Q,val xs=R,val ys=T at *
  by_cases hl:x<y+c
  ·rw[aW hl]at ih;unfold WB at *
   omega
  ·rw[aV hl]at ih;unfold WB at *
   omega
def sq:List Nat->List Nat->Nat->List Nat
 |x::xs,y::ys,c=>(x+y+c)%WB::sq xs ys ((x+y+c)/WB)|_,_,_=>[]
def um:List Nat->List Nat->Nat->Nat
 |x::xs,y::ys,c=>um xs ys ((x+y+c)/WB)|_,_,c=>c
def wO:∀{x y:List Nat} {c:Nat},x.length=y.length->(sq x y c).length=x.length
 |[],[],_,_=>rfl|[],_::_,_,h=>by cases h|_::_,[],_,h=>by cases h|x::xs,y::ys,c,h=>by simp[sq,wO (x:=xs) (y:=ys) (by simpa using h)]
def TS:∀(x y:List Nat) (c:Nat),okW (sq x y c)
 |x::xs,y::ys,c=>iS.2 ⟨bL _ af,TS xs ys _⟩|[],_,_=>by simp[sq,okW]|_::_,[],_=>by simp[sq,okW]
def ME:∀{x y:List Nat} {c:Nat},okW x->okW y->c<=1->um x y c<=1
 |x::xs,y::ys,c,hx,hy,hc=>by obtain⟨a1,a2⟩:=iS.1 hx;obtain⟨b1,b2⟩:=iS.1 hy;rw[um];exact ME (x:=xs) (y:=ys) a2 b2 (by unfold WB at *;omega)
 |[],_,c,_,_,h=>by simpa[um]using h|_::_,[],c,_,_,h=>by simpa[um]using h
def TU:∀{x y:List Nat} {c:Nat},x.length=y.length->val (sq x y c)+WB^x.length*um x y c=val x+val y+c
 |[],[],c,_=>by simp[sq,um,val]|[],_::_,_,h=>by cases h|_::_,[],_,h=>by cases h
 |x::xs,y::ys,c,h=>by
  have ih:=TU (x:=xs) (y:=ys) (c:=(x+y+c)/WB) (by simpa using h);have e:=cT (x+y+c) WB;simp only[sq,um,val,bu,cW];rw[bG (WB^xs.length),cN];generalize(x+y+c)%WB=r at *
  generalize(x+y+c)/WB=q at *
  generalize WB^xs.length*um xs ys q=P,val (sq xs ys q)=Q,val xs=R,val ys=T at *
  unfold WB at *
  omega
def Pj:∀{x y:List Nat} {c i a b:Nat},x[i]?=some a->y[i]?=some b->sM (x.take (i+1)) (y.take (i+1)) c=sM (x.take i) (y.take i) c++[(a+WB-b-sn (x.take i) (y.take i) c)%WB]∧sn (x.take (i+1)) (y.take (i+1)) c=if a<b+sn (x.take i) (y.take i) c then 1 else 0
 |a::x,b::y,c,0,_,_,h1,h2=>by simp at h1 h2;subst h1;subst h2;simp[sM,sn]|a::x,b::y,c,i+1,_,_,h1,h2=>by have ih:=Pj (x:=x) (y:=y) (c:=if a<b+c then 1 else 0) (i:=i) (by simpa using h1) (by simpa using h2);simp only[eH,sM,sn]at ih⊢;rw[ih.1,ih.2];exact⟨rfl,rfl⟩|[],_,_,_,_,_,h,_=>by simp at h|_::_,[],_,_,_,_,_,h=>by simp at h
def Pk:∀{x y:List Nat} {c i a b:Nat},x[i]?=some a->y[i]?=some b->sq (x.take (i+1)) (y.take (i+1)) c=sq (x.take i) (y.take i) c++[(a+b+um (x.take i) (y.take i) c)%WB]∧um (x.take (i+1)) (y.take (i+1)) c=(a+b+um (x.take i) (y.take i) c)/WB
 |a::x,b::y,c,0,_,_,h1,h2=>by simp at h1 h2;subst h1;subst h2;simp[sq,um]|a::x,b::y,c,i+1,_,_,h1,h2=>by have ih:=Pk (x:=x) (y:=y) (c:=(a+b+c)/WB) (i:=i) (by simpa using h1) (by simpa using h2);simp only[eH,sq,um]at ih⊢;rw[ih.1,ih.2];exact⟨rfl,rfl⟩|[],_,_,_,_,_,h,_=>by simp at h|_::_,[],_,_,_,_,_,h=>by simp at h
end Go.Pure