/- Steps to pointsMake_card. -/
import Derived.Test.YtckjndkmmfmjjaaGreatDoorPureA
import Derived.ProofKit
import Derived.OpenVars
import Derived.Laws.IdiomStrings
import Derived.Laws.BytesArg
set_option linter.all false
set_option maxRecDepth 100000
set_option maxHeartbeats 32000000
namespace Go.Pure
open Go
section
variable{P:Program}{N:Nat}{all:Array Oper}{K:List Nat}{Z:Env->PH->Prop}{rest:List Oper}{env:Env}{H H':PH}{v:PV}{d:Option Tmp}{op:Op}{ty:TypeId}{pos:String}{qG:Array Edge}{g:Option (Nat×Bool)}{o:Oper}
def JZ(h:Z env H):ju P N all K Z [] env H:=h
def Tb{o:Oper}(h:yQ (sB K o)=true):l7 K o=o.dst:=by unfold l7;rw[Av h]
def Ax(hg:gd all ⟨d,op,ty,pos,qG,g⟩ env=some true)(hd:tf N d=true)(h:lS P K ⟨d,op,ty,pos,qG,g⟩ env H v H')(k:ju P N all K Z rest (qE env d v) H')(hx:yQ (sB K ⟨d,op,ty,pos,qG,g⟩)=true:=by rfl):
  ju P N all K Z (⟨d,op,ty,pos,qG,g⟩::rest) env H:=by
 refine⟨Dv hd,?_⟩;rw[hg];exact⟨v,H',h,by rw[Tb hx];exact k⟩
def XI(h:∀H1,PO P o env.eval H1 v H1)(hk:oV P o.op=0:=by rfl):lS P K o env H v H:=.inl ⟨zI (P:=P) (by rw[hk];decide),w6 (P:=P) (by rw[hk];decide),.inl ⟨HV hk,rfl,λH1 _=>h H1⟩⟩
def afS(h:∀H1,PO P o env.eval H1 v H1)(hk:zH K o=true:=by rfl):lS P K o env H v H:=.inl ⟨(Bf hk).1,(Bf hk).2,.inl ⟨B3 hk,rfl,λH1 _=>h H1⟩⟩
def XJ(h:PO P o env.eval H v H')(hq:pR K H H':=by first|exact pR.refl _ _|(repeat(first|exact trivial|refine And.intro rfl ?_|refine And.intro trivial ?_)))(hk:oV P o.op=2:=by rfl)(hf:JL K o=true:=by rfl):lS P K o env H v H':=.inl ⟨(wZ hf).1,(wZ hf).2.1,.inr (.inr (.inl ⟨Hm hf hk,h,hq⟩))⟩
def XK(h:PO P o env.eval H v H')(hq:rA K H H')(hk:oV P o.op=3:=by rfl)(hf:JL K o=true:=by rfl):lS P K o env H v H':=.inl ⟨(wZ hf).1,(wZ hf).2.1,.inr (.inr (.inr (.inl ⟨Hm hf hk,h,hq⟩)))⟩
def Qz(h:PO P o env.eval H v H')(hq:rA K H H':=by repeat(first|exact trivial|refine And.intro rfl ?_|refine And.intro trivial ?_))(hs:JK K o=true:=by rfl)(hf:zH K o=false:=by rfl):lS P K o env H v H':=.inl ⟨(Qw hs).1,(Qw hs).2,.inr (.inr (.inr (.inl ⟨YP hs hf,h,hq⟩)))⟩
def J0(h:∀H1,rA K H H1->PO P o env.eval H1 v H1)(hk:oV P o.op=0:=by rfl):lS P K o env H v H:=.inl ⟨zI (P:=P) (by rw[hk];decide),w6 (P:=P) (by rw[hk];decide),.inl ⟨HV hk,rfl,h⟩⟩
def J1(h:∀H1,pR K H H1->PO P o env.eval H1 v H1)(hk:oV P o.op=1:=by rfl)(hf:zH K o=false:=by rfl):lS P K o env H v H:=.inl ⟨zI (P:=P) (by rw[hk];decide),w6 (P:=P) (by rw[hk];decide),.inr (.inl ⟨Hm (UN hk hf) hk,rfl,h⟩)⟩
def afT(h:∀H1,PO P o env.eval H1 v H1)(hk:oV P o.op=1:=by rfl):lS P K o env H v H:=by
 cases hf:zH K o with
 |true=>exact afS h hf|false=>exact J1 (λH1 _=>h H1) hk hf
def YS{b:Nat}(hk:oV P o.op=1)(hK:cond (zH K o) (nv K (20000+b)) (nv K b)=true)(Fw:Nat.ble 10000 b=false)(h:∀H1,H.bx[b]?=H1.bx[b]? ->PO P o env.eval H1 v H1):lS P K o env H v H:=by
 cases hf:zH K o with
 |true=>
  rw[hf,cr]at hK;exact .inl ⟨(Bf hf).1,(Bf hf).2,.inl ⟨B3 hf,rfl,λH1 hq=>h H1 (hq.fix b hK Fw)⟩⟩
 |false=>
  rw[hf,de]at hK;exact J1 (λH1 hq=>h H1 (hq.at b (nQ.1 hK) Fw)) hk hf
variable{ρ:Operand->PV}{off n:Nat}{cs:List PV}
def YT{t:TypeId}{x:Operand}{b:Nat}(ho:o.op=.load t x)(h1:qY P t=some true)(h2:kZ P t=some n)(hp:ρ x=.ptr b off)(hb:H.bx[b]?=some cs)(hn:Nat.ble (off+n) cs.length=true):
  PO P o ρ H (.agg ((cs.drop off).take n)) H:=GQ ho h1 h2 hp hb (bz hn)
def YU{t:TypeId}{x:Operand}{cs:List GV}(ho:o.op=.load t x)(h1:qY P t=some true)(h2:kZ P t=some n)(hp:ρ x=.pat cs)(hn:Nat.ble n cs.length=true):
  PO P o ρ H (.g (.agg (cs.take n))) H:=GS ho h1 h2 hp (bz hn)
variable{y:Operand}{ds:List PV}
def UU{t:TypeId}{x:Operand}{b:Nat}(ho:o.op=.store t x y)(hs:kZ P t=some n)(hp:ρ x=.ptr b off)(hc:kc (ρ y)=some cs)(hn:Nat.beq cs.length n=true)
  (hb:H.bx[b]?=some ds) (hl:Nat.ble (off+n) ds.length=true):PO P o ρ H mW ⟨H.bx.set b (qF ds off cs),H.tk,H.mu⟩:=
 YN ho hs hp hc (bl hn) hb (bz hl)
variable{b:Bool}
def CZ{env:Env}{d:Tmp}{c:Bool}(h:env d=.g (.bool b))(e:b=c):qE env (some d) (.g (.bool c))=env:=by
 subst e;funext t;simp only[qE];cases hb:Nat.beq t d with
 |true=>rw[bl hb,cr,h]|false=>rfl
variable{Z:Env->PH->Prop}{dj:Tmp}
def P5(hb:env dj=.g (.bool b))(h1:b=true->jQ P N all Z rest (qE env (some dj) (.g (.bool true))) H)(h2:b=false->jQ P N all Z rest (qE env (some dj) (.g (.bool false))) H):
  jQ P N all Z rest env H:=by
 cases b with
 |true=>have:=h1 rfl;rwa[CZ hb rfl]at this|false=>have:=h2 rfl;rwa[CZ hb rfl]at this
def M4(hb:env dj=.g (.bool b))(h1:b=true->ju P N all K Z rest (qE env (some dj) (.g (.bool true))) H)(h2:b=false->ju P N all K Z rest (qE env (some dj) (.g (.bool false))) H):
  ju P N all K Z rest env H:=by
 cases b with
 |true=>have:=h1 rfl;rwa[CZ hb rfl]at this|false=>have:=h2 rfl;rwa[CZ hb rfl]at this
def adH(all:Array Oper):List Oper->Option Tmp
 |o::_=>match o.guard with|some (j,_)=>(all.toList[j]?).bind (·.dst)|none=>none
 |[]=>none
def HZ(_hj:adH all rest=some dj)(hb:env dj=.g (.bool b))(h1:b=true->jQ P N all Z rest (qE env (some dj) (.g (.bool true))) H)(h2:b=false->jQ P N all Z rest (qE env (some dj) (.g (.bool false))) H):
  jQ P N all Z rest env H:=P5 hb h1 h2
def Fx(_hj:adH all rest=some dj)(hb:env dj=.g (.bool b))(h1:b=true->ju P N all K Z rest (qE env (some dj) (.g (.bool true))) H)(h2:b=false->ju P N all K Z rest (qE env (some dj) (.g (.bool false))) H):
  ju P N all K Z rest env H:=M4 hb h1 h2
def J2{x:Operand}{t e:Code}{Q:Exit->Env->PH->Prop}(hx:env.eval x=.g (.bool true))(h:PW P N t Q env H):PW P N (.cond x t e) Q env H:=F9 hx (λ_=>h) (λh=>by cases h)
def J3{x:Operand}{t e:Code}{Q:Exit->Env->PH->Prop}(hx:env.eval x=.g (.bool false))(h:PW P N e Q env H):PW P N (.cond x t e) Q env H:=F9 hx (λh=>by cases h) (λ_=>h)
def isG:PV->Bool|.g _=>true|_=>false
def Rk:List PV->Bool|[]=>true|p::r=>isG p&&Rk r
def Es:∀{ps:List PV},Rk ps=true->∃as:List GV,ps=as.map .g
 |[],_=>⟨[],rfl⟩
 |p::r,h=>by
  simp only[Rk,bI]at h;obtain⟨as,rfl⟩:=Es h.2;cases p with
  |g x=>exact⟨x::as,rfl⟩|_=>simp[isG]at h
def Gd:PV->Bool|.g _=>true|.tuple cs=>Rk cs|_=>false
def M5{v:PV}(h:Gd v=true):Mh v:=by unfold Gd at h;split at h;trivial;obtain⟨as,rfl⟩:=Es h;intro p hp;obtain⟨x,_,rfl⟩:=cH.1 hp;exact⟨x,rfl⟩;cases h
def M6(ρ:Operand->PV):List Operand->List PV
 |[]=>[]|x::r=>pack (ρ x)::M6 ρ r
def OD(ρ:Operand->PV):∀l:List Operand,M6 ρ l=l.map λx=>pack (ρ x)
 |[]=>rfl|x::r=>by rw[M6,OD ρ r];rfl
def J4{ρ:Operand->PV}{f:Operand}{args:Array Operand}{ts:Array TypeId}{id:FuncId}{ps:List PV}{v:PV}(ho:o.op=.call {callee:=.value f,args:=args,argTypes:=ts})
  (hf:ρ f=.g (.raw (.func (.func id) #[] #[]))) (he:nI P id=true) (hp:PC P id ps ⟨[],[],[]⟩ v ⟨[],[],[]⟩) (ha:M6 ρ args.toList=ps) (hps:Rk ps=true) (hv:Gd v=true):PO P o ρ H v H:=by
 obtain⟨as,rfl⟩:=Es hps;exact MW ho hf he (by rw[HR,<-OD];exact ha) (M5 hv) hp
variable{rs:List ResultVar}{ps:List PV}{e:Exit}{H2:PH}{k:IntKind}{a:Int}
def Tc{b:Int}(hs:tS P env H2 rs=some ps)(hv:IJ ps=.g (.int k a))(ha:a=b)(he:e=.normal∨e=.ret:=by first|exact .inl rfl|exact .inr rfl):
  JF P rs ⟨[],[],[]⟩ (.g (.int k b)) ⟨[],[],[]⟩ e env H2:=CW hs (ha▸hv) (.g _) he
def OE{a:Bool}(hs:tS P env H2 rs=some ps)(hv:IJ ps=.g (.bool a))(ha:a=b)(he:e=.normal∨e=.ret:=by first|exact .inl rfl|exact .inr rfl):
  JF P rs ⟨[],[],[]⟩ (.g (.bool b)) ⟨[],[],[]⟩ e env H2:=CW hs (ha▸hv) (.g _) he
def adI{a b:GV}(hs:tS P env H2 rs=some ps)(hv:IJ ps=.g a)(ha:a=b)(he:e=.normal∨e=.ret:=by first|exact .inl rfl|exact .inr rfl):
  JF P rs ⟨[],[],[]⟩ (.g b) ⟨[],[],[]⟩ e env H2:=CW hs (ha▸hv) (.g _) he
end
def Cm(P:Program)(t:TypeId):Option (List (Nat×Nat)):=
 match P.underlying t with
 |some (.struct fs)=>fs.toList.mapM λf=>(kZ P f.type).map λn=>(f.offset,n)
 |_=>none
def q8(pl:Nat->Option (Nat×Nat)):List PV->List (Nat×PV)->Option (List PV)
 |cells,[]=>some cells
 |cells,(i,p)::r=>
  match pl i,kc p with
  |some (off,n),some cs=>bif Nat.beq cs.length n&&Nat.ble (off+n) cells.length then q8 pl (qF cells off cs) r else none|_,_=>none
def J5(c:Ctx)(cs:List PV)(vs:Array Value):Prop:=
 vs.size=cs.length∧∀(j:Nat) (p:PV) (v:Value),cs[j]?=some p->vs[j]?=some v->RV c p v∧v.oneCell'=true
def J6(f:Nat):∀(l:List Value) (k:Nat) (cells:Array Value),((l.zipIdx k).foldl (λcs (x:Value×Nat)=>cs.setIfInBounds (f+x.2) x.1) cells).size=cells.size∧
  ∀i:Nat,i<cells.size->((l.zipIdx k).foldl (λcs (x:Value×Nat)=>cs.setIfInBounds (f+x.2) x.1) cells)[i]?=if f+k<=i∧i<f+k+l.length then l[i-(f+k)]? else cells[i]?
 |[],k,cells=>by simp;omega
 |v::l,k,cells=>by obtain⟨h1,h2⟩:=J6 f l (k+1) (cells.setIfInBounds (f+k) v);simp only[List.zipIdx_cons,ix];refine⟨by rw[h1];simp,λi hi=>?_⟩;rw[h2 i (by simpa using hi)];by_cases e:i=f+k;subst e;have:¬(f+(k+1)<=f+k∧f+k<f+(k+1)+l.length):=ab;rw[aV this,aW aa];simp[hi];by_cases h:f+(k+1)<=i∧i<f+(k+1)+l.length;rw[aW h,aW ad];have:i-(f+k)=(i-(f+(k+1)))+1:=ab;rw[this,c7];rw[aV h,aV ad];have e':¬f+k=i:=λx=>e x.symm;simp[e']
variable{c:Ctx}{cs ds:List PV}{off:Nat}
def UW{vs:Array Value}(h:J5 c cs vs){u:Array Value}(hd:J5 c ds u)(hl:off+ds.length<=cs.length):
  J5 c (qF cs off ds) (u.zipIdx.foldl (λcs (x:Value×Nat)=>cs.setIfInBounds (off+x.2) x.1) vs):=by
 have key:=J6 off u.toList 0 vs;have e:u.zipIdx.foldl (λcs (x:Value×Nat)=>cs.setIfInBounds (off+x.2) x.1) vs=(u.toList.zipIdx 0).foldl (λcs (x:Value×Nat)=>cs.setIfInBounds (off+x.2) x.1) vs:=by rw[<-Array.foldl_toList];simp
 rw[e];have Jf:(qF cs off ds).length=cs.length:=by simp[qF];omega
 refine⟨by rw[key.1,h.1,Jf],λj p v hp hv=>?_⟩;have hj:j<vs.size:=by rw[h.1,<-Jf];exact(aR.1 hp).1
 rw[key.2 j hj]at hv;simp only[b9,fA]at hv;unfold qF at hp;by_cases h1:j<off;rw[aV ab]at hv;rw[bV,a8 ad,bq,aW h1]at hp;exact h.2 j p v hp hv;by_cases h2:j<off+ds.length;rw[aW (by rw[hd.1];omega)]at hv;rw[bV,a7 ad,a8 ad]at hp;have l1:(List.take off cs).length=off:=ad;rw[l1]at hp;exact hd.2 (j-off) p v hp (by simpa using hv);rw[aV (by rw[hd.1];omega)]at hv;rw[a7 ad]at hp;have l1:(List.take off cs++ds).length=off+ds.length:=ad;rw[l1,bD,show off+ds.length+(j-(off+ds.length))=j by omega]at hp;exact h.2 j p v hp hv
def Cn{c:Ctx}{pl:Nat->Option (Nat×Nat)}:∀(ps:List (Nat×PV)) (us:List (Nat×Value)) (cs:List PV) (vs:Array Value) (cs':List PV),J5 c cs vs->ps.length=us.length->
  (∀(k:Nat) (x:Nat×PV) (y:Nat×Value),ps[k]?=some x->us[k]?=some y->x.1=y.1∧RV c x.2 y.2)->q8 pl cs ps=some cs'->∃Td,Instr.fill pl vs us=some Td∧J5 c cs' Td
 |[],[],cs,vs,cs',h,_,_,hf=>by simp[q8]at hf;subst hf;exact⟨vs,rfl,h⟩
 |(i,p)::ps,(i',v)::us,cs,vs,cs',h,hl,hr,hf=>by
  obtain⟨e,hv⟩:=hr 0 _ _ rfl rfl;simp only at e hv;subst e;unfold q8 at hf;split at hf
  ·rename_i off n ds p8 pO;cases hb:(Nat.beq ds.length n&&Nat.ble (off+n) cs.length)with
   |false=>rw[hb]at hf;cases hf
   |true=>
    rw[hb,cr]at hf;simp only[bI]at hb;have e1:=bl hb.1;have e2:=bz hb.2;obtain⟨f1,f2⟩:=pN hv pO;have hd:J5 c ds v.cells:=⟨f1.symm,f2⟩;have hs:=UW h hd (off:=off) ab;obtain⟨Td,g1,g2⟩:=Cn ps us _ _ cs' hs (by simpa using hl) (λk x y hx hy=>hr (k+1) x y (by simpa using hx) (by simpa using hy)) hf;refine⟨Td,?_,g2⟩;unfold Instr.fill;simp only[p8];have oW:(decide (v.cells.size≠n)||decide (off+v.cells.size>vs.size))=false:=(by simp only[Bool.or_eq_false_iff,cP];rw[h.1,<-f1];omega);have:(v.cells.size≠n||off+v.cells.size>vs.size)=false:=oW;rw[this];simpa using g1
  cases hf
 |[],_::_,_,_,_,_,hl,_,_=>by simp at hl|_::_,[],_,_,_,_,hl,_,_=>by simp at hl
def OF{P:Program}{α β:Type}{f:α->Sem β}{g:α->Option β}{w:World}(h:∀a b,g a=some b->(f a).run P w=.ok b w):∀(l:List α) (bs:List β),l.mapM g=some bs->(l.mapM f).run P w=.ok bs w
 |[],bs,hb=>by simp at hb;subst hb;simp
 |a::l,bs,hb=>by simp only[List.mapM_cons,Option.bind_eq_bind,Option.bind_eq_some_iff]at hb;obtain⟨b,ri,bs',G2,hb3⟩:=hb;simp at hb3;subst hb3;simp only[List.mapM_cons,Sem.run_bind,h a b ri,Result.andThen_ok,OF h l bs' G2,Sem.run_pure]
section
variable{P:Program}{o:Oper}{ρ:Operand->PV}{H:PH}
def sD(ρ:Operand->PV):List (Nat×Operand)->List (Nat×PV)
 |[]=>[]|(i,x)::r=>(i,ρ x)::sD ρ r
def qe(ρ:Operand->PV):∀l,sD ρ l=l.map λx=>(x.1,ρ x.2)
 |[]=>rfl|(i,x)::r=>by rw[sD,qe ρ r];rfl
def pls(l:List (Nat×Nat))(i:Nat):Option (Nat×Nat):=l[i]?
variable{z:Value}
def Te(c:Ctx)(h1:z.cells.toList.all (·.oneCell')=true):J5 c (z.cells.toList.map tu) z.cells:=by refine⟨by simp,λj p v hp hv=>?_⟩;simp only[bj,bh]at hp;obtain⟨u,hu,rfl⟩:=hp;rw[fC,hv]at hu;cases hu;exact⟨Ar _ _,cY.1 h1 v (by rw[gK];exact fP hv)⟩
def J5.agg{c:Ctx}{cs:List PV}{vs:Array Value}(h:J5 c cs vs):RV c (.agg cs) (.agg vs):=by
 refine .agg _ _ h.1.symm (λv hv=>?_) λi p v hp hv=>(h.2 i p v hp hv).1;obtain⟨j,hj,rfl⟩:=List.mem_iff_getElem.1 hv;have wT:j<vs.size:=by simpa using hj
 exact(h.2 j (cs[j]'(by rw[<-h.1];exact wT)) _ (aS _) (by simp[wT])).2
def YV{t:TypeId}{parts:Array (Nat×Operand)}{pl:List (Nat×Nat)}(ho:o.op=.build t parts)(hz:my P t=some z)(h1:z.cells.toList.all (·.oneCell')=true)(hp:Cm P t=some pl)
  (hf:q8 (pls pl) (z.cells.toList.map tu) (sD ρ parts.toList)=some cs):PO P o ρ H (.agg cs) H:=
 jr λc ρr hr hx=>by
  obtain⟨Td,g1,g2⟩:=Cn (c:=c) (sD ρ parts.toList) ((parts.map λx=>(x.1,ρr x.2)).toList) _ _ cs (Te c h1) (by simp[qe]) (by intro k x y kf pD;simp only[qe,bj,bh,gN]at kf pD;obtain⟨q,hq,rfl⟩:=kf;obtain⟨q',qH,rfl⟩:=pD;rw[hq]at qH;cases qH;refine⟨rfl,hx q.2 ?_⟩;simp only[ho,Op.operands,cH];exact⟨q,aY hq,rfl⟩) hf;refine⟨.agg Td,?_,g2.agg⟩;unfold Cm at hp;split at hp
  ·rename_i fs hu;have p8:=OF (P:=P) (w:=c.w) (f:=λf:Field=>do pure (f.offset,<-sizeOf f.type)) (λf b hb=>by
    simp only[bh]at hb;obtain⟨n,hn,rfl⟩:=hb;simp[run_sizeOf hn]) _ _ hp
   have g1':Instr.fill (λi=>(pl.toArray)[i]?) z.cells (parts.map λx=>(x.1,ρr x.2)).toList=some Td:=(by have:(λi=>(pl.toArray)[i]?)=pls pl:=funext λi=>(by simp[pls]);rw[this];exact g1);simp only[execOp,ho,Instr.build,Sem.run_bind,qL hz,Result.andThen_ok,run_underlying hu];have e:(fs.mapM λf=>(do pure (f.offset,<-sizeOf f.type):Sem (Nat×Nat))).run P c.w=.ok pl.toArray c.w:=(by rw[<-Array.toArray_toList (xs:=fs),List.mapM_toArray];simp only[Sem.run_map,p8,Result.andThen_ok]);simp only[e,Result.andThen_ok,g1',Sem.run_pure]
  cases hp
end
section
variable{P:Program}{o:Oper}{ρ:Operand->PV}{H:PH}
variable{y:Operand}{k:IntKind}{a:Int}
def afU{x:Operand}{ts:Array TypeId}{b:Int}(ho:o.op=.call {callee:=.builtin .min,args:= #[x,y],argTypes:=ts})(ha:ρ x=.g (.int k a))(hb:ρ y=.g (.int k b)):PO P o ρ H (.g (.int k (if b<a then b else a))) H:=
 jr λc ρr hr hx=>by have h1:=hx x (by simp[ho,Op.operands,Call.operands]);have h2:=hx y (by simp[ho,Op.operands,Call.operands]);rw[ha]at h1;rw[hb]at h2;exact⟨.int k (if b<a then b else a),by simp[execOp,ho,resolve,invoke,builtin,Builtin.min_,k6 h1,k6 h2,Builtin.min2],.g _ _ (.int _ _)⟩
def afV{x:Operand}{ts:Array TypeId}{b:Int}(ho:o.op=.call {callee:=.builtin .max,args:= #[x,y],argTypes:=ts})(ha:ρ x=.g (.int k a))(hb:ρ y=.g (.int k b)):PO P o ρ H (.g (.int k (if a<b then b else a))) H:=
 jr λc ρr hr hx=>by have h1:=hx x (by simp[ho,Op.operands,Call.operands]);have h2:=hx y (by simp[ho,Op.operands,Call.operands]);rw[ha]at h1;rw[hb]at h2;exact⟨.int k (if a<b then b else a),by simp[execOp,ho,resolve,invoke,builtin,Builtin.max_,k6 h1,k6 h2,Builtin.max2],.g _ _ (.int _ _)⟩
end
def vH:IntKind->IntKind->Bool
 |.i8,.i8|.i16,.i16|.i32,.i32|.i64,.i64|.u8,.u8|.u16,.u16|.u32,.u32|.u64,.u64=>true
 |_,_=>false
def xD{a b:IntKind}(h:vH a b=true):a=b:=by cases a<;>cases b<;>first|rfl|cases h
def M7(P:Program):List Field->Option (List Nat)
 |[]=>some []
 |f::r=>match P.underlying f.type,M7 P r with
  |some (.int _),some l=>bif f.name== "_" then none else some (f.offset::l)|_,_=>none
def UX(P:Program)(t:TypeId):Option (List Nat):=
 match P.underlying t with
 |some (.struct fs)=>bif P.stoodInHeld t||P.eqGuardType P.depth t then none else M7 P fs.toList
 |_=>none
def UY(cs ds:List PV):List Nat->Option Bool
 |[]=>some true
 |k::r=>match cs[k]?,ds[k]? with
  |some (.g (.int k1 a)),some (.g (.int k2 b))=>bif vH k1 k2 then(match UY cs ds r with
   |some e=>some ((a==b)&&e)
   |none=>none)else none
  |_,_=>none
def DE{P:Program}{w:World}{c:Ctx}{cs ds:List PV}{xs ys:Array Value}(h1:J5 c cs xs)(h2:J5 c ds ys):∀(fs:List Field) (l:List Nat) (e:Bool),M7 P fs=some l->UY cs ds l=some e->(Op.eqFields 9999 xs ys fs).run P w=.ok e w
 |[],l,e,hl,he=>by simp only[M7,cg]at hl;subst hl;simp only[UY,cg]at he;subst he;rfl
 |f::fs,l,e,hl,he=>by
  simp only[M7]at hl;split at hl
  ·rename_i k l' hu XE;cases hn:f.name== "_" with
   |true=>rw[hn]at hl;cases hl
   |false=>
    rw[hn]at hl;simp only[de,cg]at hl;subst hl;simp only[UY]at he;split at he
    ·rename_i k1 a k2 b ha hb;cases hk:vH k1 k2 with
     |false=>rw[hk]at he;cases he
     |true=>
      rw[hk,cr]at he;have ek:=xD hk;subst ek;split at he
      ·rename_i e' mw;cases he;have ag:qY P f.type=some false:=(by simp[qY,hu]);have adK:∀{cs:List PV} {xs:Array Value} {k:IntKind} {a:Int},J5 c cs xs->cs[f.offset]?=some (.g (.int k a))->(part f.type xs f.offset).run P w=.ok (.int k a) w:=by
        intro cs xs k a h ha;have iI:f.offset<xs.size:=(by rw[h.1];exact(aR.1 ha).1);have hx:=h.2 f.offset _ xs[f.offset] ha (by simp[iI]);have lY:=k6 hx.1;simp only[part,Sem.run_bind,As ag,Result.andThen_ok,dB,en,dr iI,lY,Sem.run_pure]
       have js:f.name≠ "_" :=by simpa using hn
       have ih:=DE (w:=w) h1 h2 fs l' e' XE mw;have hq:=run_equalIn_int (P:=P) w 9998 f.type k1 k a b hu;simp only[Op.eqFields,js,fV,not_false_eq_true,gF,Sem.run_bind,adK h1 ha,adK h2 hb,Result.andThen_ok,hq];cases a==b with
       |true=>simpa using ih|false=>simp
      cases he
    cases he
  cases hl
structure DF where
 ag:Nat->Option Bool
 sz:Nat->Option Nat
 fd:Nat->Nat->Option (Nat×Nat)
 el:Nat->Option Nat
 bo:Nat->Bool
 st:Nat->Bool
 zr:Nat->Option (List PV)
 pl:Nat->Option (List (Nat×Nat))
 ef:Nat->Option (List Nat)
structure Bu(P:Program)(T:DF):Prop where
 ag:∀t b,T.ag t=some b->qY P t=some b
 sz:∀t n,T.sz t=some n->kZ P t=some n
 fd:∀t k d ft,T.fd t k=some (d,ft)->vE P t k=some (d,ft)
 el:∀t e,T.el t=some e->P.underlying t=some (.slice e)
 bo:∀t,T.bo t=true->P.underlying t=some .bool
 st:∀t,T.st t=true->P.underlying t=some .string
 zr:∀t cs,T.zr t=some cs->∃z,my P t=some z∧z.cells.toList.all (·.oneCell')=true∧cs=z.cells.toList.map tu
 pl:∀t p,T.pl t=some p->Cm P t=some p
 ef:∀t l,T.ef t=some l->UX P t=some l
def aeR(T:DF)(op:BinOp)(t:Nat)(a b:PV):Option PV:=
 match a,b with
 |.g (.int k x),.g (.int k' y)=>bif vH k k' then(match Rc op k x y with|some g=>some (.g g)|none=>none)else none
 |.g (.str x),.g (.str y)=>match Re op x y with|some g=>some (.g g)|none=>none
 |.g (.bool x),.g (.bool y)=>bif T.bo t then(match op with|.eql=>some (.g (.bool (x==y)))|.neq=>some (.g (.bool (x !=y)))|_=>none)else none
 |.g (.agg xs),.g (.agg ys)=>match T.ef t with
  |some l=>match op with
   |.eql=>match UY (xs.map .g) (ys.map .g) l with|some e=>some (.g (.bool e))|none=>none
   |.neq=>match UY (xs.map .g) (ys.map .g) l with|some e=>some (.g (.bool (!e)))|none=>none
   |_=>none
  |none=>none
 |.agg xs,.agg ys=>match T.ef t with
  |some l=>match op with
   |.eql=>match UY xs ys l with|some e=>some (.g (.bool e))|none=>none
   |.neq=>match UY xs ys l with|some e=>some (.g (.bool (!e)))|none=>none
   |_=>none
  |none=>none
 |_,_=>none
def unP(op:UnOp)(a:PV):Option PV:=
 match op,a with
 |.not,.g (.bool b)=>some (.g (.bool (!b)))|.neg,.g (.int k n)=>some (.g (.int k (k.wrap (0-n))))|_,_=>none
def force:PV->Option PV
 |.g x=>some (.g x)|.own es id=>some (.own es id)|.ptr b off=>some (.ptr b off)|.jx=>some .jx|.iM=>some .iM|.pat cs=>some (.pat cs)|.mU f a b=>some (.mU f a b)|.agg cs=>some (.agg cs)|.tuple cs=>some (.tuple cs)|.lit es=>some (.lit es)|.lK id n=>some (.lK id n)|.kE id n i off=>some (.kE id n i off)|.mp id=>some (.mp id)|.vw id n off len cap=>some (.vw id n off len cap)|.qm id n off len=>some (.qm id n off len)|.mV g off=>some (.mV g off)|.kv g off=>some (.kv g off)|.rz t p=>some (.rz t p)|.any=>some .any
def force_eq(p:PV):force p=some p:=by cases p<;>rfl
def aaN:List Nat->Nat->Option Nat
 |[],n=>some n|k::r,n=>bif Nat.beq n k then some k else aaN r n
def Tf(n:Nat):∀l:List Nat,aaN l n=some n
 |[]=>rfl
 |k::r=>by
  unfold aaN;cases h:Nat.beq n k with
  |true=>rw[cr,bl h]|false=>exact Tf n r
def tJ(n:Nat):Option Nat:=aaN [0,1,2,3,4,5,6,7,8,9,10,11,12,13,14,15,16,17,18,19,20,21,22,23,24,25,26,27,28,29,30,31] n
def rY(n:Nat):tJ n=some n:=Tf n _
def Bi:List PV->Option (List PV)
 |[]=>some []
 |a::r=>match Bi r with
  |some r'=>some (a::r')|none=>none
def Ay:∀l:List PV,Bi l=some l
 |[]=>rfl|a::r=>by simp[Bi,Ay r]
def G3:List (List PV)->Option (List (List PV))
 |[]=>some []
 |a::r=>match G3 r with
  |some r'=>some (a::r')|none=>none
def Et:∀l:List (List PV),G3 l=some l
 |[]=>rfl|a::r=>by simp[G3,Et r]
def Rl:PV->Option PV
 |.g x=>some (.g x)
 |.own es id=>match tJ id with|some k7=>some (.own es k7)|none=>none
 |.ptr b off=>match tJ b with
  |some b'=>match tJ off with|some NZ=>some (.ptr b' NZ)|none=>none
  |none=>none
 |.jx=>some .jx|.iM=>some .iM|.pat cs=>some (.pat cs)|.mU f a b=>some (.mU f a b)
 |.agg cs=>match Bi cs with|some cs'=>some (.agg cs')|none=>none
 |.tuple cs=>match Bi cs with|some cs'=>some (.tuple cs')|none=>none
 |.lit es=>some (.lit es)
 |.lK id n=>match tJ id with|some k7=>some (.lK k7 n)|none=>none
 |.kE id n i off=>match tJ id with
  |some k7=>match tJ off with|some NZ=>some (.kE k7 n i NZ)|none=>none
  |none=>none
 |.mp id=>match tJ id with|some k7=>some (.mp k7)|none=>none
 |.vw id n off len cap=>match tJ id with|some k7=>some (.vw k7 n off len cap)|none=>none
 |.qm id n off len=>match tJ id with|some k7=>some (.qm k7 n off len)|none=>none
 |.mV g off=>some (.mV g off)|.kv g off=>some (.kv g off)|.rz t p=>some (.rz t p)|.any=>some .any
def Ge(p:PV):Rl p=some p:=by cases p<;>simp[Rl,rY,Ay]
def w8:PV->Option (List PV)
 |.g (.agg cs)=>some (cs.map .g)|.agg cs=>some cs|_=>none
def Rm(T:DF)(o:Op)(ρ:Operand->PV):Option PV:=
 match o with
 |.move x|.assign x=>force (ρ x)
 |.pick c a b=>match ρ c with
  |.g (.bool true)=>force (ρ a)|.g (.bool false)=>force (ρ b)|_=>none
 |.fieldAddr s x k=>match T.fd s k with
  |some (d,_)=>match ρ x with
   |.ptr b off=>some (.ptr b (off+d))|.pat cs=>some (.pat (cs.drop d))|.kE id n i off=>some (.kE id n i (off+d))|_=>none
  |none=>none
 |.field s x k=>match T.fd s k with
  |some (d,ft)=>match T.ag ft with
   |some false=>match w8 (ρ x)with
    |some cs=>cs[d]?|none=>none
   |_=>none
  |none=>none
 |.binOp op t x y _=>aeR T op t (ρ x) (ρ y)|.unOp op _ x=>unP op (ρ x)
 |.build t parts=>match T.zr t with
  |some zs=>match T.pl t with
   |some pl=>match q8 (pls pl) zs (sD ρ parts.toList)with
    |some cs=>some (.agg cs)|none=>none
   |none=>none
  |none=>none
 |.extract x i=>match ρ x with
  |.tuple ps=>ps[i]?|_=>none
 |.call {callee:=.builtin .len,args:=⟨[x]⟩,argTypes:=⟨[t]⟩}=>
  match T.el t with
  |some _=>match elems (ρ x)with
   |some es=>some (.g (.int .i64 es.length))|none=>none
  |none=>match ρ x with
   |.g (.str s)=>bif T.st t then some (.g (.int .i64 s.size))else none|_=>none
 |.call {callee:=.builtin .min,args:=⟨[x,y]⟩,argTypes:=_}=>match ρ x,ρ y with
  |.g (.int k a),.g (.int k' b)=>bif vH k k' then some (.g (.int k (if b<a then b else a)))else none|_,_=>none
 |.call {callee:=.builtin .max,args:=⟨[x,y]⟩,argTypes:=_}=>match ρ x,ρ y with
  |.g (.int k a),.g (.int k' b)=>bif vH k k' then some (.g (.int k (if a<b then b else a)))else none|_,_=>none
 |.load t x=>match ρ x with
  |.pat cs=>match T.ag t with
   |some false=>match cs with
    |g::_=>some (.g g)|[]=>none
   |some true=>match T.sz t with
    |some n=>bif Nat.ble n cs.length then some (.g (.agg (cs.take n)))else none|none=>none
   |none=>none
  |_=>none
 |_=>none
def UZ (T:DF)(o:Op)(ρ:Operand->PV)(H:PH):Option (Nat×PV):=
  match o with
  |.load t x=>match ρ x with
    |.ptr b off=>match H.bx[b]? with
      |some cs=>match T.ag t with
        |some false=>match cs[off]? with
          |some p=>match force p with
            |some q=>some (b,q)|none=>none
          |none=>none
        |some true=>match T.sz t with
          |some n=>bif Nat.ble (off+n) cs.length then some (b,.agg ((cs.drop off).take n))else none|none=>none
        |none=>none
      |none=>none
    |_=>none
  |_=>none
def U0(T:DF)(o:Op)(ρ:Operand->PV):Option (List PV):=
 match o with
 |.box _ x=>kc (ρ x)|.alloc t=>T.zr t|_=>none
def Hp:PH->Nat->List PV->Option PH
 |⟨bx,tk,mu⟩,b,cs=>match Bi cs with
  |some cs'=>match G3 (bx.set b cs')with
   |some bx'=>some ⟨bx',tk,mu⟩|none=>none
  |none=>none
def An(H:PH)(b:Nat)(cs:List PV):Hp H b cs=some ⟨H.bx.set b cs,H.tk,H.mu⟩:=by simp[Hp,Ay,Et]
def Gf (T:DF)(o:Op)(ρ:Operand->PV)(H:PH):Option PH:=
  match o with
  |.store t x y=>match ρ x with
    |.ptr b off=>match T.sz t with
      |some n=>match kc (ρ y)with
        |some cs=>match H.bx[b]? with
          |some ds=>bif Nat.beq cs.length n&&Nat.ble (off+n) ds.length then Hp H b (qF ds off cs)else none|none=>none
        |none=>none
      |none=>none
    |_=>none
  |_=>none
section
variable{P:Program}{T:DF}(hT:Bu P T){o:Oper}{ρ:Operand->PV}{H:PH}{v:PV}
include hT
omit hT in
def J7{op:BinOp}{t u:TypeId}{x y:Operand}{xs ys:List PV}{l:List Nat}{e:Bool}(ho:o.op=.binOp op t x y u)(pQ:op=.eql∨op=.neq)(hf:UX P t=some l)(ha:w8 (ρ x)=some xs)(hb:w8 (ρ y)=some ys)(he:UY xs ys l=some e):
  PO P o ρ H (.g (.bool (if op=.eql then e else !e))) H:=
 jr λc ρr hr hx=>by
  have cellsOf:∀{p:PV} {v:Value} {cs:List PV},RV c p v->w8 p=some cs->∃vs,v=.agg vs∧J5 c cs vs:=by
   intro p v cs h hc;unfold w8 at hc;split at hc
   ·rename_i gs;cases hc;obtain⟨e1,e2⟩:=pN h (cs:=gs.map .g) rfl;cases h with
    |g _ _ hg=>cases hg;exact⟨_,rfl,e1.symm,e2⟩
   cases hc;obtain⟨e1,e2⟩:=pN h (cs:=cs) rfl;cases h;exact⟨_,rfl,e1.symm,e2⟩;cases hc
  obtain⟨us,e1,r1⟩:=cellsOf (hx x (by simp[ho,Op.operands])) ha;obtain⟨ws,e2,r2⟩:=cellsOf (hx y (by simp[ho,Op.operands])) hb;unfold UX at hf;split at hf
  ·rename_i fs hu;cases hs:(P.stoodInHeld t||P.eqGuardType P.depth t)with
   |true=>rw[hs]at hf;cases hf
   |false=>
    rw[hs,de]at hf;simp only[Bool.or_eq_false_iff]at hs;have hfs:P.fieldsOf t=fs:=(by simp[Program.fieldsOf,hu]);have kX:(Op.equalIn 10000 t (.agg us) (.agg ws)).run P c.w=.ok e c.w:=(by have:=run_equalIn_struct (P:=P) c.w 9999 t us ws (by rw[hfs];exact hu) hs.1;rw[this,hfs];exact DE r1 r2 fs.toList l e hf he);refine⟨.bool (if op=.eql then e else !e),?_,.g _ _ (.bool _)⟩;simp only[execOp,ho,e1,e2,Sem.run_bind,run_eqGuard_agg c.w op t x y us ws hs.2,Result.andThen_ok];rcases pQ with rfl|rfl
    rw[run_eql_struct,kX];rfl;rw[run_neq_struct,kX];rfl
  cases hf
variable{y:Operand}
def abW{op:BinOp}{t u:TypeId}{x:Operand}(ho:o.op=.binOp op t x y u)(h:aeR T op t (ρ x) (ρ y)=some v):PO P o ρ H v H:=by
 unfold aeR at h;split at h
 ·rename_i k a k' b ha hb;cases hk:vH k k' with
  |false=>rw[hk]at h;cases h
  |true=>
   rw[hk,cr]at h;have e:=xD hk;subst e;split at h;rename_i g hg;cases h;exact afC ho ha hb hg;cases h
 rename_i a b ha hb;split at h;rename_i g hg;cases h;exact afD ho ha hb hg;cases h
 ·rename_i a b ha hb;cases hk:T.bo t with
  |false=>rw[hk]at h;cases h
  |true=>
   rw[hk,cr]at h;split at h;cases h;exact afE ho (hT.bo t hk) ha hb;cases h;exact afF ho (hT.bo t hk) ha hb;cases h
 rename_i xs ys ha hb;split at h;rename_i l hl;split at h;split at h;rename_i e he;cases h;exact J7 ho (.inl rfl) (hT.ef _ _ hl) (by rw[ha];rfl) (by rw[hb];rfl) he;cases h;split at h;rename_i e he;cases h;exact J7 ho (.inr rfl) (hT.ef _ _ hl) (by rw[ha];rfl) (by rw[hb];rfl) he;cases h;cases h;cases h;rename_i xs ys ha hb;split at h;rename_i l hl;split at h;split at h;rename_i e he;cases h;exact J7 ho (.inl rfl) (hT.ef _ _ hl) (by rw[ha];rfl) (by rw[hb];rfl) he;cases h;split at h;rename_i e he;cases h;exact J7 ho (.inr rfl) (hT.ef _ _ hl) (by rw[ha];rfl) (by rw[hb];rfl) he;cases h;cases h;cases h;cases h
def Ml(h:Rm T o.op ρ=some v):PO P o ρ H v H:=by
 unfold Rm at h;split at h;rename_i x ho;rw[force_eq]at h;cases h;exact abP ho;rename_i x ho;rw[force_eq]at h;cases h;exact UJ ho;rename_i c a b ho;split at h;rename_i hc;rw[force_eq]at h;cases h;have:=S2 (P:=P) (H:=H) ho hc;rwa[aW rfl]at this;rename_i hc;rw[force_eq]at h;cases h;have:=S2 (P:=P) (H:=H) ho hc;rwa[aV aa]at this;cases h;rename_i s x k ho;split at h;rename_i d ft hf;split at h;rename_i b off hp;cases h;exact Fp ho (hT.fd _ _ _ _ hf) hp;rename_i cs hp;cases h;exact Fq ho (hT.fd _ _ _ _ hf) hp;rename_i id n i off hp;cases h;exact Eh ho (hT.fd _ _ _ _ hf) hp;cases h;cases h
 ·rename_i s x k ho;split at h;rename_i d ft hf;split at h;rename_i Tg;split at h;rename_i cs kR;unfold w8 at kR;split at kR;rename_i gs hg;cases kR;exact On ho (hT.fd _ _ _ _ hf) (hT.ag _ _ Tg) (by rw[hg];rfl) ⟨gs,.inl hg⟩ h;rename_i gs hg;cases kR;exact On ho (hT.fd _ _ _ _ hf) (hT.ag _ _ Tg) (by rw[hg];rfl) ⟨[],.inr ⟨_,hg⟩⟩ h;cases kR;cases h;cases h;cases h
 rename_i op t x y u ho;exact abW hT ho h;rename_i op t x ho;unfold unP at h;split at h;rename_i b hb;cases h;exact afG ho hb;rename_i k n hb;cases h;exact afH ho hb;cases h
 ·rename_i t parts ho;split at h;rename_i zs hz;split at h;rename_i pl p8;split at h;rename_i cs kR;cases h;obtain⟨z,h1,h2,rfl⟩:=hT.zr t zs hz;exact YV ho h1 h2 (hT.pl t pl p8) kR;cases h;cases h;cases h
 rename_i x i ho;split at h;rename_i ps hp;exact RQ ho hp h;cases h
 ·rename_i x t ho;split at h;rename_i e he;split at h;rename_i es G4;cases h;exact afI ho (hT.el t e he) G4;cases h
  ·split at h
   ·rename_i s hs;cases hk:T.st t with
    |false=>rw[hk]at h;cases h|true=>rw[hk,cr]at h;cases h;exact abQ ho (hT.st t hk) hs
   cases h
 ·rename_i x y ts ho;split at h
  ·rename_i k a k' b ha hb;cases hk:vH k k' with
   |false=>rw[hk]at h;cases h
   |true=>
    rw[hk,cr]at h;cases h;have e:=xD hk;subst e;exact afU ho ha hb
  cases h
 ·rename_i x y ts ho;split at h
  ·rename_i k a k' b ha hb;cases hk:vH k k' with
   |false=>rw[hk]at h;cases h
   |true=>
    rw[hk,cr]at h;cases h;have e:=xD hk;subst e;exact afV ho ha hb
  cases h
 ·rename_i t x ho;split at h
  ·rename_i cs hp;split at h;rename_i Tg;split at h;rename_i g r;cases h;exact GR ho (hT.ag _ _ Tg) hp rfl;cases h
   ·rename_i Tg;split at h
    ·rename_i n hn;cases hk:Nat.ble n cs.length with
     |false=>rw[hk]at h;cases h|true=>rw[hk,cr]at h;cases h;exact YU ho (hT.ag _ _ Tg) (hT.sz _ _ hn) hp hk
    cases h
   cases h
  cases h
 cases h
variable{H1:PH}
def Th{b:Nat}(h:UZ T o.op ρ H=some (b,v))(hb:H.bx[b]?=H1.bx[b]?):PO P o ρ H1 v H1:=by
 unfold UZ at h;split at h
 ·rename_i t x ho;split at h
  ·rename_i b' off hp;split at h
   ·rename_i cs kR;split at h;rename_i Tg;split at h;rename_i p hpp;rw[force_eq]at h;cases h;exact GP ho (hT.ag _ _ Tg) hp (hb▸kR) hpp;cases h
    ·rename_i Tg;split at h
     ·rename_i n hn;cases hk:Nat.ble (off+n) cs.length with
      |false=>rw[hk]at h;cases h|true=>rw[hk,cr]at h;cases h;exact YT ho (hT.ag _ _ Tg) (hT.sz _ _ hn) hp (hb▸kR) hk
     cases h
    cases h
   cases h
  cases h
 cases h
def Ti(h:U0 T o.op ρ=some cs):PO P o ρ H (.ptr H.bx.length 0) ⟨H.bx++[cs],H.tk,H.mu⟩:=by unfold U0 at h;split at h;rename_i t x ho;exact afB ho h;rename_i t ho;obtain⟨z,h1,h2,rfl⟩:=hT.zr t cs h;exact YM ho h1 h2;cases h
variable{H':PH}
def Tj(h:Gf T o.op ρ H=some H'):PO P o ρ H mW H':=by
 unfold Gf at h;split at h
 ·rename_i t x y ho;split at h
  ·rename_i b off hp;split at h
   ·rename_i n hn;split at h
    ·rename_i cs kR;split at h
     ·rename_i ds pO;cases hk:(Nat.beq cs.length n&&Nat.ble (off+n) ds.length)with
      |false=>rw[hk]at h;cases h
      |true=>
       rw[hk,cr,An]at h;cases h;simp only[bI]at hk;exact UU ho (hT.sz _ _ hn) hp kR hk.1 pO hk.2
     cases h
    cases h
   cases h
  cases h
 cases h
end
variable{P:Program}{ρ:Operand->PV}
def U1{T:DF}{o:Op}{v:PV}(h:Rm T o ρ=some v):oV P o=0∨oV P o=1:=by unfold Rm at h;split at h<;>first|exact .inl rfl|exact .inr rfl|cases h
def G5:PH->List PV->Option (PV×PH)
 |⟨bx,tk,mu⟩,cs=>match tJ bx.length with
  |some n=>match Bi cs with
   |some cs'=>match G3 (bx++[cs'])with
    |some bx'=>some (.ptr n 0,⟨bx',tk,mu⟩)|none=>none
   |none=>none
  |none=>none
def Eu(H:PH)(cs:List PV):G5 H cs=some (.ptr H.bx.length 0,⟨H.bx++[cs],H.tk,H.mu⟩):=by simp[G5,rY,Ay,Et]
def pop(T:DF)(o:Op)(ρ:Operand->PV)(H:PH):Option (PV×PH):=
 match Rm T o ρ with
 |some v=>match Rl v with|some v=>some (v,H)|none=>none
 |none=>match UZ T o ρ H with
  |some (_,v)=>match Rl v with|some v=>some (v,H)|none=>none
  |none=>match U0 T o ρ with
   |some cs=>G5 H cs
   |none=>match Gf T o ρ H with
    |some H'=>some (mW,H')|none=>none
def I3(K:List Nat)(n:Nat):Bool:=K.all λk=>Nat.ble 30000 k||(cond (Nat.ble 20000 k) (Nat.blt (k-20000) n) (Nat.ble 10000 k||Nat.blt k n))
def aaO(K:List Nat)(o:Op)(ρ:Operand->PV):Bool:=match o with
 |.store _ x _=>match ρ x with
  |.ptr b _=> !nv K (20000+b)|_=>false
 |_=>false
def aeS(T:DF)(K:List Nat)(d:Option Tmp)(o:Op)(ρ:Operand->PV)(H:PH):Option (PV×PH):=
 match Rm T o ρ with
 |some v=>match Rl v with|some v=>some (v,H)|none=>none
 |none=>match UZ T o ρ H with
  |some (b,v)=>bif cond (frD K d) (nv K (20000+b)) (nv K b)&& !Nat.ble 10000 b then(match Rl v with|some v=>some (v,H)|none=>none)else none
  |none=>match U0 T o ρ with
   |some cs=>bif I3 K H.bx.length then G5 H cs else none
   |none=>match Gf T o ρ H with
    |some H'=>bif aaO K o ρ then some (mW,H')else none|none=>none
section
variable{P:Program}{T:DF}(hT:Bu P T){N:Nat}{all:Array Oper}{K:List Nat}{Z:Env->PH->Prop}{o:Oper}{env:Env}{H H':PH}{v:PV}
include hT
def afW(h:pop T o.op ρ H=some (v,H')):PO P o ρ H v H':=by unfold pop at h;split at h;rename_i u hu;simp only[Ge]at h;cases h;exact Ml hT hu;split at h;rename_i b u hu;simp only[Ge]at h;cases h;exact Th hT hu rfl;split at h;rename_i cs kR;rw[Eu]at h;cases h;exact Ti hT kR;split at h;rename_i H1 h1;cases h;exact Tj hT h1;cases h
omit hT in
def Tl{K:List Nat}{cs:List PV}{tk:List (TypeId×Nat)}(h:I3 K H.bx.length=true):pR K H ⟨H.bx++[cs],tk,H.mu⟩:=by
 unfold I3 at h;induction K with
 |nil=>trivial
 |cons k K ih=>
  simp only[List.all_cons,bI]at h;refine⟨?_,ih h.2⟩;have h1:=h.1;unfold Ck;cases h3:Nat.ble 30000 k with
  |true=>exact trivial
  |false=>
   rw[h3,Bool.false_or]at h1;cases h2:Nat.ble 20000 k with
   |true=>
    rw[h2,cr]at h1;have h1:k-20000<H.bx.length:=(by simpa[fh]using h1);simp only[cr,de];exact(a8 h1).symm
   |false=>
    rw[h2,de]at h1;cases hb:Nat.ble 10000 k with
    |true=>simp
    |false=>
     have h1:k<H.bx.length:=(by rw[hb]at h1;simpa[fh]using h1);simp only[de];exact(a8 h1).symm
omit hT in
def abX{ρ:Operand->PV}{op:Op}(h:Gf T op ρ H=some H'):H.mu=H'.mu:=by
 unfold Gf at h;repeat' split at h
 all_goals first
  |cases h;done
  |skip
 rename_i hh;rw[An]at h;revert h;cases(Nat.beq _ _&&Nat.ble _ _)<;>intro h<;>cases h;rfl
omit hT in
def abY{ρ:Operand->PV}{op:Op}(h:Gf T op ρ H=some H')(hs:aaO K op ρ=true):rA K H H':=by
 unfold Gf at h;split at h
 ·rename_i t x y;split at h
  ·rename_i b off hp;unfold aaO at hs;simp only[hp]at hs;refine rA.ady (b:=b) (abX (T:=T) (ρ:=ρ) (op:=.store t x y) (by unfold Gf;simp only[hp];exact h)) ?_ (by simpa using hs);split at h;split at h;split at h;rename_i hh;rw[An]at h;revert h;cases(Nat.beq _ _&&Nat.ble _ _)<;>intro h<;>cases h;intro j hj;simp only;rw[bP (λe=>hj e.symm)];cases h;cases h;cases h
  cases h
 cases h
def abZ(oK:yQ (ve K o)=true)(lr:yQ (sB K o)=true)(h:aeS T K o.dst o.op env.eval H=some (v,H')):lS P K o env H v H':=by
 have pl:zH K o=false∧JK K o=false->JL K o=true:=λhf=>by unfold JL;rw[oK,lr,hf.1,hf.2];rfl
 unfold aeS at h;split at h
 ·rename_i u hu;simp only[Ge]at h;cases h;rcases U1 hu with hk|hk
  exact XI (λH1=>Ml hT hu) hk;exact afT (λH1=>Ml hT hu) hk
 ·split at h
  ·rename_i b u hu;cases hk:(cond (frD K o.dst) (nv K (20000+b)) (nv K b)&& !Nat.ble 10000 b)with
   |false=>rw[hk]at h;cases h
   |true=>
    rw[hk,cr]at h;simp only[Ge]at h;cases h;simp only[bI,c9]at hk;have ajB:∃t x,o.op=.load t x:=(by unfold UZ at hu;split at hu;rename_i ho;exact⟨_,_,ho⟩;cases hu);obtain⟨t,x,ho⟩:=ajB;have hfr:zH K o=frD K o.dst:=(by unfold zH;rw[ho]);exact YS (b:=b) (by rw[ho];rfl) (by rw[hfr];exact hk.1) hk.2 λH1 hq=>Th hT hu hq
  ·split at h
   ·rename_i cs kR;cases hk:I3 K H.bx.length with
    |false=>rw[hk]at h;cases h
    |true=>
     rw[hk,cr,Eu]at h;cases h;have M8:oV P o.op=2∧zH K o=false∧JK K o=false:=(by unfold U0 at kR;unfold zH JK;split at kR;rename_i ho;rw[ho];exact⟨rfl,rfl,rfl⟩;rename_i ho;rw[ho];exact⟨rfl,rfl,rfl⟩;cases kR);exact XJ (Ti hT kR) (Tl hk) M8.1 (pl M8.2)
   ·split at h
    ·rename_i H1 h1;cases hk:aaO K o.op env.eval with
     |false=>rw[hk]at h;cases h
     |true=>
      rw[hk,cr]at h;cases h;have M8:oV P o.op=3∧zH K o=false∧JK K o=false:=(by unfold Gf at h1;unfold zH JK;split at h1;rename_i ho;rw[ho];exact⟨rfl,rfl,rfl⟩;cases h1);exact XK (Tj hT h1) (abY h1 hk) M8.1 (pl M8.2)
    cases h
omit hT
def ahP(T:DF)(K:List Nat)(o:Op)(ρ:Operand->PV)(H:PH):Option (PV×PH):=match o with
 |.store t (.tmp _) y=>match T.sz t with
  |some n=>match kc (ρ y)with
   |some cs=>bif Nat.beq cs.length n&&I3 K H.bx.length then G5 H cs else none|none=>none
  |none=>none
 |_=>none
def aeT(T:DF)(o:Op):Bool:=match o with
 |.alloc t=>match T.zr t with
  |some cs=>match T.sz t with|some n=>Nat.beq cs.length n|none=>false
  |none=>false
 |_=>false
def Rn(T:DF)(K:List Nat)(o:Oper)(env:Env)(H:PH):Option (Option Tmp×PV×PH):=
 match sB K o with
 |some x=>match ahP T K o.op env.eval H with
  |some (v,H')=>some (some x,v,H')|none=>none
 |none=>match ve K o with
  |some d=>bif aeT T o.op then some (some d,.any,H)else none
  |none=>match aeS T K o.dst o.op env.eval H with
   |some (v,H')=>some (o.dst,v,H')|none=>none
include hT in
def YW{d':Option Tmp}(h:Rn T K o env H=some (d',v,H')):d'=l7 K o∧lS P K o env H v H':=by
 unfold Rn at h;split at h
 ·rename_i x lr;split at h
  ·rename_i v1 H1 hp;cases h;refine⟨by unfold l7;rw[lr],.inr (.inr ?_)⟩;unfold ahP at hp;split at hp
   ·rename_i t x' y ho;have hx:x'=x:=by
     unfold sB at lr;rw[ho]at lr;simp only at lr;cases hf:XB K x' with
     |false=>rw[hf]at lr;cases lr|true=>rw[hf]at lr;cases lr;rfl
    subst hx;split at hp
    ·rename_i n hn;split at hp
     ·rename_i cs kR;cases hk:(Nat.beq cs.length n&&I3 K H.bx.length)with
      |false=>rw[hk]at hp;cases hp
      |true=>
       rw[hk,cr,Eu]at hp;cases hp;rw[bI]at hk;have e:=bl hk.1;subst e;exact⟨x',t,y,cs,lr,ho,hT.sz _ _ hn,kR,rfl,rfl,Tl hk.2⟩
     cases hp
    cases hp
   cases hp
  cases h
 ·rename_i lr;split at h
  ·rename_i d oK;cases hk:aeT T o.op with
   |false=>rw[hk]at h;cases h
   |true=>
    rw[hk,cr]at h;cases h;have Oz:o.dst=some d:=by
     unfold ve at oK;split at oK
     ·split at oK
      ·rename_i d' hd;cases hf:XB K d' with
       |false=>rw[hf]at oK;cases oK|true=>rw[hf]at oK;cases oK;exact hd
      cases oK
     cases oK
    refine⟨by unfold l7;rw[lr];exact Oz.symm,.inr (.inl ?_)⟩;unfold aeT at hk;split at hk;rename_i t ho;split at hk;rename_i cs kR;split at hk;rename_i n hn;obtain⟨z,z1,z2,rfl⟩:=hT.zr t cs kR;have e:=bl hk;simp only[dm,fA]at e;subst e;exact⟨d,t,z,oK,ho,z1,hT.sz _ _ hn,rfl,rfl⟩;cases hk;cases hk;cases hk
  rename_i oK;split at h;rename_i v1 H1 hp;cases h;exact⟨by unfold l7;rw[lr],abZ hT (by rw[oK];rfl) (by rw[lr];rfl) hp⟩;cases h
def Gg(T:DF)(N:Nat)(all:Array Oper):Nat->List Oper->Env->PH->Option (List Oper×Env×PH)
 |0,l,env,H=>some (l,env,H)|_+1,[],env,H=>some ([],env,H)
 |n+1,⟨d,op,ty,pos,qG,gg⟩::r,env,H=>
  bif tf N d then
   match gd all ⟨d,op,ty,pos,qG,gg⟩ env with
   |some true=>match pop T op env.eval H with
    |some (v,H')=>Gg T N all n r (qE env d v) H'|none=>some (⟨d,op,ty,pos,qG,gg⟩::r,env,H)
   |some false=>Gg T N all n r (qE env d mW) H|none=>some (⟨d,op,ty,pos,qG,gg⟩::r,env,H)
  else none
def Gh(T:DF)(N:Nat)(all:Array Oper)(K:List Nat):Nat->List Oper->Env->PH->Option (List Oper×Env×PH)
 |0,l,env,H=>some (l,env,H)|_+1,[],env,H=>some ([],env,H)
 |n+1,⟨d,op,ty,pos,qG,gg⟩::r,env,H=>
  bif tf N d then
   match gd all ⟨d,op,ty,pos,qG,gg⟩ env with
   |some true=>match Rn T K ⟨d,op,ty,pos,qG,gg⟩ env H with
    |some (d',v,H')=>Gh T N all K n r (qE env d' v) H'|none=>some (⟨d,op,ty,pos,qG,gg⟩::r,env,H)
   |some false=>bif yQ (sB K ⟨d,op,ty,pos,qG,gg⟩)then Gh T N all K n r (qE env d mW) H else none|none=>some (⟨d,op,ty,pos,qG,gg⟩::r,env,H)
  else none
def aaP(T:DF)(N:Nat)(all:Array Oper):List Oper->Env->PH->Bool
 |[],_,_=>false|o::_,env,H=>bif tf N o.dst then(match gd all o env with|some true=>(match pop T o.op env.eval H with|some _=>true|none=>false)|some false=>true|none=>false)else false
def aaQ(T:DF)(N:Nat)(all:Array Oper)(K:List Nat):List Oper->Env->PH->Bool
 |[],_,_=>false|o::_,env,H=>bif tf N o.dst then(match gd all o env with|some true=>(match Rn T K o env H with|some _=>true|none=>false)|some false=>true|none=>false)else false
include hT
def Ev:∀(n:Nat) (l:List Oper) (env:Env) (H:PH) (l':List Oper) (env':Env) (H':PH),Gg T N all n l env H=some (l',env',H')->jQ P N all Z l' env' H'->jQ P N all Z l env H
 |0,l,env,H,l',env',H',e,h=>by simp only[Gg,cg,eL]at e;obtain⟨rfl,rfl,rfl⟩:=e;exact h
 |n+1,[],env,H,l',env',H',e,h=>by simp only[Gg,cg,eL]at e;obtain⟨rfl,rfl,rfl⟩:=e;exact h
 |n+1,⟨d,op,ty,pos,qG,gg⟩::r,env,H,l',env',H',e,h=>by
  unfold Gg at e;cases hd:tf N d with
  |false=>rw[hd]at e;cases e
  |true=>
   rw[hd]at e;simp only[cr]at e;split at e;rename_i hg;split at e;rename_i v H1 hp;refine⟨Dv hd,?_⟩;rw[hg];exact⟨v,H1,afW hT (o:=⟨d,op,ty,pos,qG,gg⟩) hp,Ev n r _ _ _ _ _ e h⟩;simp only[cg,eL]at e;obtain⟨rfl,rfl,rfl⟩:=e;exact h;rename_i hg;refine⟨Dv hd,?_⟩;rw[hg];exact Ev n r _ _ _ _ _ e h;simp only[cg,eL]at e;obtain⟨rfl,rfl,rfl⟩:=e;exact h
def Ew:∀(n:Nat) (l:List Oper) (env:Env) (H:PH) (l':List Oper) (env':Env) (H':PH),Gh T N all K n l env H=some (l',env',H')->ju P N all K Z l' env' H'->ju P N all K Z l env H
 |0,l,env,H,l',env',H',e,h=>by simp only[Gh,cg,eL]at e;obtain⟨rfl,rfl,rfl⟩:=e;exact h
 |n+1,[],env,H,l',env',H',e,h=>by simp only[Gh,cg,eL]at e;obtain⟨rfl,rfl,rfl⟩:=e;exact h
 |n+1,⟨d,op,ty,pos,qG,gg⟩::r,env,H,l',env',H',e,h=>by
  unfold Gh at e;cases hd:tf N d with
  |false=>rw[hd]at e;cases e
  |true=>
   rw[hd]at e;simp only[cr]at e;split at e;rename_i hg;split at e;rename_i d' v H1 hp;obtain⟨Ep,hc⟩:=YW hT hp;refine⟨Dv hd,?_⟩;rw[hg];exact⟨v,H1,hc,by rw[<-Ep];exact Ew n r _ _ _ _ _ e h⟩;simp only[cg,eL]at e;obtain⟨rfl,rfl,rfl⟩:=e;exact h
   ·rename_i hg;cases lr:yQ (sB K ⟨d,op,ty,pos,qG,gg⟩)with
    |false=>rw[lr]at e;cases e
    |true=>
     rw[lr,cr]at e;refine⟨Dv hd,?_⟩;rw[hg];show ju P N all K Z r (qE env (l7 K _) mW) H;rw[Tb lr];exact Ew n r _ _ _ _ _ e h
   simp only[cg,eL]at e;obtain⟨rfl,rfl,rfl⟩:=e;exact h
variable{l l':List Oper}{env':Env}
def Mm(n:Nat)(_hc:aaP T N all l env H=true)(h:Gg T N all n l env H=some (l',env',H'))(k:jQ P N all Z l' env' H'):jQ P N all Z l env H:=
 Ev hT n l env H l' env' H' h k
def Mn(n:Nat)(_hc:aaQ T N all K l env H=true)(h:Gh T N all K n l env H=some (l',env',H'))(k:ju P N all K Z l' env' H'):ju P N all K Z l env H:=
 Ew hT n l env H l' env' H' h k
omit hT
def rootOf(all:List Oper):Nat->Tmp->Option (Option Tmp)
 |0,_=>none
 |n+1,t=>match all.find? (λo=>match o.dst with|some d=>Nat.beq d t|none=>false)with
  |none=>some (some t)
  |some o=>match o.op with
   |.fieldAddr _ (.tmp u) _=>rootOf all n u|.nilCheck (.tmp u)=>rootOf all n u|.move (.tmp u)=>rootOf all n u|.indexAddr _ _ _=>some none|_=>none
def codeOf(all:List Oper)(env:Env)(x:Operand):Nat:=match x with
 |.tmp t=>match rootOf all 12 t with
  |some (some r)=>match env r with
   |.ptr b _=>b+2|.pat _=>1|_=>0
  |some none=>1|none=>0
 |_=>0
def ajC(d:Nat)(o:Oper):Bool:=(match o.dst with|some d'=>Nat.beq d' d|none=>false)||(match o.op with|.store _ (.tmp x) _=>Nat.beq x d|_=>false)
def OG(all:List Oper):List Oper->Option (List Nat)
 |[]=>some []
 |o::r=>match OG all r with
  |some l=>match o.op with
   |.alloc _=>match o.dst with
    |some d=>bif Rh d (all.filter (ajC d))then some (d::l)else some l|none=>some l
   |_=>some l
  |none=>none
def tw(all:List Oper)(env:Env)(fl:List Nat):List Oper->List Nat
 |[]=>[]
 |o::r=>match o.op with
  |.store _ x _=>bif (match x with|.tmp d=>nv fl d|_=>false)then tw all env fl r else codeOf all env x::tw all env fl r|_=>tw all env fl r
def fixed(K:List Nat)(st:List Nat):List Nat:=K.filter λb=> !Nat.ble 10000 b&& !nv st (b+2)
def Ex(all:List Oper)(env:Env)(calls adL:Bool)(fx:List Nat):List Oper->Option (List Nat)
 |[]=>some []
 |o::r=>match Ex all env calls adL fx r with
  |some l=>match o.op with
   |.load _ x=>match o.dst with
    |some d=>bif adL then(match codeOf all env x with
     |0=>some l|1=>some ((30000+d)::l)
     |c+2=>bif nv fx c then some ((30000+d)::l)else some l)else some l
    |none=>some l
   |.call c=>match c.callee with
    |.value _=>match o.dst with
     |some d=>bif calls then some ((30000+d)::l)else some l|none=>some l
    |_=>some l
   |_=>some l
  |none=>none
def lits:List Nat:=[0,1,2,3,4,5,6,7,8,9,10,11,12,13,14,15,16,17,18,19,20,21,22,23,24,25,26,27,28,29,30,31]
def ajD:List Nat:=[20000,20001,20002,20003,20004,20005,20006,20007,20008,20009,20010,20011,20012,20013,20014,20015,20016,20017,20018,20019,20020,20021,20022,20023,20024,20025,20026,20027,20028,20029,20030,20031]
def N0:List (List PV)->List Nat->Option (List Nat)
 |_::r,k::l=>match N0 r l with|some l=>some (k::l)|none=>none
 |_,_=>some []
def adM(p:Nat->Bool):List Nat->List Nat->Option (List Nat)
 |[],l=>some l
 |k::r,l=>match adM p r l with|some l=>bif p k then some (k::l)else some l|none=>none
def Xb:List Nat->List Nat->Option (List Nat)
 |[],l=>some l
 |k::r,l=>match Xb r l with|some l=>some (k::l)|none=>none
def isNil{α:Type}:List α->Bool|[]=>true|_=>false
def ahQ:List Nat->List Nat->Option (List Nat)
 |[],l=>some l
 |d::r,l=>match ahQ r l with|some l=>some ((40000+d)::l)|none=>none
def DH(all:List Oper)(env:Env)(plain calls tx:Bool)(K0:List Nat):Option (List Nat):=
 match(bif tx then OG all all else some [])with
 |none=>none
 |some fl=>
  match ahQ fl K0 with
  |none=>none
  |some K1=>
   bif isNil (tw all env fl all)&& !calls then some K1 else
   bif plain&& !(nv (tw all env fl all) 0||nv (tw all env fl all) 1)then
    match Ex all env calls true (fixed K0 (tw all env fl all)) all with
    |some l1=>match adM (λk=>nv (fixed K0 (tw all env fl all)) (k-20000)) ajD l1 with
     |some l=>Xb K1 l|none=>none
    |none=>none
   else match Ex all env calls false [] all with
    |some l=>Xb K1 l|none=>none
def DI{id:Nat}{l:List Oper}{Q:Exit->Env->PH->Prop}(calls tx:Bool)(K0:List Nat){K:List Nat}(_ha:DH l env (isNil H.mu) calls tx K0=some K)(hm:P.follows .mixedOrders=true)(hd:uI P K l=true)(h:ju P N l.toArray K (λenv H=>Q .normal env H) l env H):
  PW P N (.region id l.toArray true) Q env H:=Ta K hm hd h
def P6{id:Nat}{Q:Exit->Env->PH->Prop}(calls tx:Bool){K0 K:List Nat}(_h0:N0 H.bx lits=some K0)(_ha:DH l env (isNil H.mu) calls tx K0=some K)(hm:P.follows .mixedOrders=true)(hd:uI P K l=true)(h:ju P N l.toArray K (λenv H=>Q .normal env H) l env H):
  PW P N (.region id l.toArray true) Q env H:=Ta K hm hd h
end
section
variable{P:Program}{N:Nat}{Q:Exit->Env->PH->Prop}{env:Env}{H:PH}
def DJ{body:Code}(h:PW P N body (Next (λ_ _=>False) Q) env H):PW P N (.loop body) Q env H:=by intro c a hr he;refine wp_loop_once (wp_mono (h c a hr he) ?_);rintro e a' w' ⟨c',env',H',q,rfl,kP,hE,mw⟩;cases e<;>simp only[Next]at q<;>simp only[Exit.then];all_goals first|exact q.elim|exact⟨c',env',H',q,rfl,kP,hE,mw⟩
def iL:List (Nat×PV)->Env
 |[],_=>.any|(k,p)::r,t=>bif Nat.beq t k then p else iL r t
def qX.YX{l:List (Nat×PV)}(h:∀x∈l,∀(c:Ctx) (v:Value),RV c (env x.1) v->RV c x.2 v):qX env (iL l):=by
 intro t c v hv;induction l with
 |nil=>exact .any v
 |cons x r ih=>
  obtain⟨k,p⟩:=x;simp only[iL];cases e:Nat.beq t k with
  |true=>
   rw[cr];have e':=bl e;subst e';exact h _ bE c v hv
  |false=>rw[de];exact ih λx hx=>h x (bw _ hx)
def iE(env:Env):List (Nat×PV)->Prop
 |[]=>True|(k,p)::r=>(env k=p∨pack (env k)=p)∧iE env r
def iE.le:∀{l:List (Nat×PV)},iE env l->qX env (iL l):=by
 intro l h;refine qX.YX ?_;induction l with
 |nil=>simp
 |cons x r ih=>
  intro y hy c v hv;rcases bN.1 hy with rfl|hy
  ·rcases h.1 with e|e
   rw[<-e];exact hv;rw[<-e];exact ye hv
  exact ih h.2 y hy c v hv
def kW.refl(H:PH):kW P H H:=λ_ h=>h
variable{H H':PH}
def kW.of_eq(h:H=H'):kW P H H':=h▸kW.refl H
end
end Go.Pure
namespace Go.Pure
open Go Go.ChangeShapes Go.WideShapes Go.RowKit
inductive GT(P:Program):TypeId->GV->Prop where
 |int (t:TypeId) (k:IntKind) (n:Int) (h:P.underlying t=some (.int k)) (hw:(Lit.int k n).wf=true):GT P t (.int k n)
 |bool (t:TypeId) (b:Bool) (h:P.underlying t=some .bool):GT P t (.bool b)
 |str (t:TypeId) (s:ByteArray) (h:P.underlying t=some .string) (hs:s.size<=maxLen):GT P t (.str s)
 |sl (t e:TypeId) (es:List GV) (h:P.underlying t=some (.slice e)) (hl:es.length<=maxLen) (he:∀x∈es,GT P e x):GT P t (.sl es)
 |agg (t:TypeId) (fs:Array Field) (xs:List GV) (h:P.underlying t=some (.struct fs)) (hl:xs.length=fs.size) (hx:∀(i:Nat) (f:Field) (x:GV),fs[i]?=some f->xs[i]?=some x->GT P f.type x):
   GT P t (.agg (xs.flatMap GV.cells))
inductive DG{H:Type}:DataW H->GV->Prop where
 |int (k:IntKind) (n:Int):DG (.lit (.int k n)) (.int k n)
 |bool (b:Bool):DG (.lit (.bool b)) (.bool b)
 |str (s:ByteArray):DG (.lit (.string s.data.toList)) (.str s)
 |nil:DG .nil (.sl [])
 |sl (ds sp:List (DataW H)) (es:List GV) (hl:ds.length=es.length) (h:∀(i:Nat) (d:DataW H) (x:GV),ds[i]?=some d->es[i]?=some x->DG d x):DG (.slice ds sp) (.sl es)
 |agg (ds:List (DataW H)) (xs:List GV) (hl:ds.length=xs.length) (h:∀(i:Nat) (d:DataW H) (x:GV),ds[i]?=some d->xs[i]?=some x->DG d x):DG (.agg ds) (.agg (xs.flatMap GV.cells))
def M9(P:Program):List Field->Nat->Option Nat
 |[],n=>some n|f::r,n=>bif f.offset==n then M9 P r (n+P.cellsOf f.type)else none
def J8(P:Program)(set:List Nat):Bool:=set.all λt=>
 match P.underlying t with
 |some (.int _)|some .bool|some .string=>P.cellsOf t==1
 |some (.slice e)=>P.cellsOf t==1&&(set.contains e&&Nat.ble 1 (P.cellsOf e))
 |some (.struct fs)=>M9 P fs.toList 0==some (P.cellsOf t)&&fs.toList.all λf=>set.contains f.type
 |_=>false
def Ey(w:World)(gs:List GV)(vs:List Value):Prop:=
 gs.length=vs.length∧∀(i:Nat) (g:GV) (v:Value),gs[i]?=some g->vs[i]?=some v->RG w (λ_ _=>True) g v∧v.oneCell'=true
variable{w:World}
def Ey.append{a b:List GV}{us vs:List Value}(h1:Ey w a us)(h2:Ey w b vs):Ey w (a++b) (us++vs):=by refine⟨by simp[h1.1,h2.1],λi g v hg hv=>?_⟩;by_cases hi:i<a.length;rw[a8 hi]at hg;rw[a8 (by rw[<-h1.1];exact hi)]at hv;exact h1.2 i g v hg hv;rw[a7 ab]at hg;rw[a7 (by rw[<-h1.1];omega),<-h1.1]at hv;exact h2.2 _ g v hg hv
variable{v:Value}
def Ey.one{g:GV}(h:RG w (λ_ _=>True) g v)(h1:v.oneCell'=true):Ey w [g] [v]:=by
 refine⟨rfl,λi g' v' hg hv=>?_⟩;cases i with
 |zero=>simp at hg hv;subst hg;subst hv;exact⟨h,h1⟩|succ i=>simp at hg
section
variable{H:Type}{enc:TypeId×Value->H}{P:Program}{w:World}{base:Nat}{spare:Nat->Bool}{held:Bool}
def Fy(a:Addr)(m n:Nat):(a.add m).add n=a.add (m+n):=by
 unfold Addr.add;split
 ·subst_vars;simp
 ·split
  ·subst_vars;simp_all
  simp_all[ep]
variable{n:Nat}
def RT{α:Type}[Inhabited α]{Q:Nat->α->Prop}(h:∀i,i<n->∃x,Q i x):∃F:Nat->α,∀i,i<n->Q i (F i):=by refine⟨λi=>if hi:i<n then Classical.choose (h i hi)else default,λi hi=>?_⟩;simp only[hi,dif_pos];exact Classical.choose_spec (h i hi)
def tiled{cs:List Value}{m:Nat}(kR:cs.length=m):∀(l:List Field) (n0:Nat) (xs:List (DataW H×List MemPlace)),M9 P l n0=some m->xs.length=l.length->
  (∀(i:Nat) (f:Field) (x:DataW H×List MemPlace),l[i]?=some f->xs[i]?=some x->∃g,DG x.1 g∧GT P f.type g∧Ey w g.cells ((cs.drop f.offset).take (P.cellsOf f.type))∧((cs.drop f.offset).take (P.cellsOf f.type)).length=P.cellsOf f.type)->
  ∃gs:List GV,gs.length=l.length∧(∀(i:Nat) (d:DataW H) (x:GV),(xs.map (·.1))[i]?=some d->gs[i]?=some x->DG d x)∧
   (∀(i:Nat) (f:Field) (x:GV),l[i]?=some f->gs[i]?=some x->GT P f.type x)∧Ey w (gs.flatMap GV.cells) (cs.drop n0)
 |[],n0,xs,ht,hl,_=>by simp only[M9,cg]at ht;refine⟨[],rfl,by simp,by simp,?_⟩;rw[gX ab];exact⟨rfl,by simp⟩|f::r,n0,[],ht,hl,_=>by simp at hl
 |f::r,n0,x::xs,ht,hl,h=>by
  simp only[M9]at ht;cases hb:f.offset==n0 with
  |false=>rw[hb]at ht;cases ht
  |true=>
   rw[hb]at ht;have alG:f.offset=n0:=(by simpa using hb);obtain⟨gs,e1,e2,e3,e4⟩:=tiled kR r _ xs ht (by simpa using hl) (λi f' x' h1 h2=>h (i+1) f' x' (by simpa using h1) (by simpa using h2));obtain⟨g,g1,g2,g3,g4⟩:=h 0 f x rfl rfl;refine⟨g::gs,by simp[e1],?_,?_,?_⟩
   ·intro i d y hd hy;cases i with
    |zero=>simp at hd hy;subst hd;subst hy;exact g1|succ i=>exact e2 i d y (by simpa using hd) (by simpa using hy)
   ·intro i f' y hd hy;cases i with
    |zero=>simp at hd hy;subst hd;subst hy;exact g2|succ i=>exact e3 i f' y (by simpa using hd) (by simpa using hy)
   rw[alG]at g3;have:=g3.append e4;rw[<-gr,cA]at this;simpa using this
def QA {set:List Nat}(lG:J8 P set=true):∀(fuel:Nat) (t:TypeId) (cs:List Value) (x:DataW H×List MemPlace),t∈set->DataW.trod enc P w base spare held fuel t cs=some x->
    ∃g,DG x.1 g∧GT P t g∧Ey w g.cells cs∧cs.length=P.cellsOf t
  |0,t,cs,x,_,h=>by simp[DataW.trod]at h
  |fuel+1,t,cs,x,ki,h=>by
    have hp:=cY.1 lG t ki;cases hu:P.underlying t with
    |none=>rw[hu]at hp;cases hp
    |some d=>
      rw[hu]at hp;cases d with
      |int k=>
        obtain⟨n,rfl,rfl,hw⟩:=DataW.trod_int hu h;exact⟨.int k n,.int k n,.int t k n hu hw,Ey.one (.int k n) rfl,by simpa using(bQ.1 hp).symm⟩
      |bool=>
        obtain⟨b,rfl,rfl⟩:=DataW.trod_bool hu h;exact⟨.bool b,.bool b,.bool t b hu,Ey.one (.bool b) rfl,by simpa using(bQ.1 hp).symm⟩
      |string=>
        obtain⟨s,rfl,rfl,hs⟩:=DataW.trod_string hu h;exact⟨.str s,.str s,.str t s hu hs,Ey.one (.str s) rfl,by simpa using(bQ.1 hp).symm⟩
      |slice e=>
        simp only[bI]at hp;have he:e∈set:=(by simpa using hp.2.1);have jX:0<P.cellsOf e:=bz hp.2.2;rcases DataW.trod_slice hu h with⟨rfl,rfl⟩|⟨a,len,cap,elems,rest,n,hn,rfl,rfl,hb,hl,hm,hlen,Co,_,_⟩
        · exact⟨.sl [],.nil,.sl t e [] hu aa aa,Ey.one .nil rfl,by simpa using(bQ.1 hp.1).symm⟩
        · obtain rfl:fuel=n:=ab
          have hE:∀i,i<len->∃(g:GV) (y:DataW H×List MemPlace) (cs':List Value),elems[i]?=some y∧w.cells? base (a.add (i*P.cellsOf e)) (P.cellsOf e)=some cs'∧DG y.1 g∧GT P e g∧Ey w g.cells cs':=by intro i hi;have h1:=Co i hi;have h2:elems[i]?=some (elems[i]'(by omega)):=aS _;rw[h2,Option.bind_eq_some_iff]at h1;obtain⟨cs',hc,ht⟩:=h1;obtain⟨g,g1,g2,g3,_⟩:=QA lG fuel e cs' _ he ht;exact⟨g,_,cs',h2,hc,g1,g2,g3⟩
          have hF:∃F:Nat->GV,∀i,i<len->∃(y:DataW H×List MemPlace) (cs':List Value),elems[i]?=some y∧w.cells? base (a.add (i*P.cellsOf e)) (P.cellsOf e)=some cs'∧DG y.1 (F i)∧GT P e (F i)∧Ey w (F i).cells cs':=
            RT hE
          obtain⟨F,hF⟩:=hF
          refine⟨.sl ((List.range len).map F),?_,?_,?_,by simpa using(bQ.1 hp.1).symm⟩
          · refine .sl _ _ _ (by simp[hlen]) λi d x hd hx=>?_
            simp only[bj,bh]at hd hx
            obtain⟨y,hy,rfl⟩:=hd
            obtain⟨i',lk,rfl⟩:=hx
            obtain⟨iI,rfl⟩:=aR.1 lk
            rw[eT]
            have vy:i<len:=by simpa using iI
            obtain⟨y',cs',e1,_,e3,_⟩:=hF i vy
            rw[hy]at e1
            cases e1
            exact e3
          · refine .sl t e _ hu ad λx hx=>?_
            simp only[cH,fR]at hx
            obtain⟨i,hi,rfl⟩:=hx
            obtain⟨_,_,_,_,_,e4,_⟩:=hF i hi
            exact e4
          · -- the slice itself
            have mC:∀(A:Addr) (n:Nat) (cs':List Value),w.cells? base A n=some cs'->cs'.length=n∧∀j (hj:j<n),w.cell? (A.add j)=some (cs'[j]?.getD undef):=by intro A n cs' hc;obtain⟨_,sv,hat⟩:=World.cells?_some hc;refine⟨sv,λj hj=>?_⟩;have wT:j<cs'.length:=(by rw[sv];exact hj);rw[hat j hj,aS wT];rfl
            have kl:∀i,i<len->(F i).cells.length=P.cellsOf e:=by intro i hi;obtain⟨_,cs',_,e2,_,_,e5⟩:=hF i hi;rw[e5.1,(mC _ _ _ e2).1]
            have Bt:0<len->a.spot=none:=by
              intro h0;obtain⟨_,cs',_,e2,_,_,_⟩:=hF 0 h0;have:=(mC _ _ _ e2).2 0 jX;simp only[gO]at this;have e3:(a.add 0).add 0=a:=rfl;rw[e3]at this;unfold World.cell? at this;split at this
              · split at this
                · cases this
                · rename_i hs;cases hsp:a.spot with
                  |none=>rfl|some _=>rw[hsp]at hs;simp at hs
              · cases this
            have jE:Ey w [GV.sl ((List.range len).map F)] [Value.slice (some a) len cap]:=by
              refine Ey.one ?_ rfl;have Xc:((List.range len).map F).length=len:=aa;have:=RG.sl (w:=w) (S:=λ_ _=>True) ((List.range len).map F) a cap (P.cellsOf e) (λk=>(w.cell? (a.add k)).getD undef) (λjs=>Bt (Nat.pos_of_ne_zero λh0=>js (by rw[h0];rfl))) (by rw[Xc];exact hl) hm ?_ ?_ ?_
              · rw[Xc]at this;exact this
              · intro i x hx
                simp only[bj,bh]at hx
                obtain⟨i',lk,rfl⟩:=hx
                obtain⟨iI,rfl⟩:=aR.1 lk
                rw[eT]
                exact kl i (by simpa using iI)
              · intro k hk
                rw[Xc]at hk
                have jX:0<P.cellsOf e:=Nat.pos_of_ne_zero λh0=>by rw[h0]at hk;omega
                have hdiv:k/P.cellsOf e<len:=eW (by rw[bG];exact hk)
                have IN:k%P.cellsOf e<P.cellsOf e:=bL _ jX
                obtain⟨y,cs',e1,e2,_,_,e5⟩:=hF _ hdiv
                have e6:=(mC _ _ _ e2).2 _ IN
                have e7:(a.add (k/P.cellsOf e*P.cellsOf e)).add (k%P.cellsOf e)=a.add k:=by rw[Fy];congr 1;rw[bG];exact eX k _
                rw[e7]at e6
                refine⟨by rw[e6];rfl,trivial,?_⟩
                rw[e6]
                have hj:k%P.cellsOf e<cs'.length:=by rw[(mC _ _ _ e2).1];exact IN
                have sO:k%P.cellsOf e<(F (k/P.cellsOf e)).cells.length:=by rw[e5.1];exact hj
                have:=(e5.2 _ _ cs'[k%P.cellsOf e] (aS sO) (aS hj)).2
                simpa[hj]using this
              · intro i x j g hx hg
                simp only[bj,bh]at hx
                obtain⟨i',lk,rfl⟩:=hx
                obtain⟨iI,rfl⟩:=aR.1 lk
                rw[eT]at hg
                have vy:i<len:=by simpa using iI
                obtain⟨y,cs',e1,e2,_,_,e5⟩:=hF i vy
                have hj:j<P.cellsOf e:=by rw[<-kl i vy];exact(aR.1 hg).1
                have e6:=(mC _ _ _ e2).2 j hj
                rw[Fy]at e6
                show RG w _ g ((w.cell? (a.add (i*P.cellsOf e+j))).getD undef)
                rw[e6]
                have wT:j<cs'.length:=by rw[(mC _ _ _ e2).1];exact hj
                have:=(e5.2 j g cs'[j] hg (aS wT)).1
                simpa[wT]using this
            exact jE
      |struct fs=>
        simp only[bI]at hp;obtain⟨xs,n,hn,rfl,hlen,Na,hf⟩:=DataW.trod_struct hu h;obtain rfl:fuel=n:=ab;obtain⟨gs,e1,e2,e3,e4⟩:=tiled (w:=w) (P:=P) (cs:=cs) hlen fs.toList 0 xs (by simpa using hp.1) (by simpa using Na) (λi f x hi hx=>by have hfi:fs[i]?=some f:=(by simpa using hi);have hms:f.type∈set:=(by have:=cY.1 hp.2 f (aY hi);simpa using this);have h1:=hf i f hfi;rw[hx]at h1;obtain⟨g,g1,g2,g3,g4⟩:=QA lG fuel f.type _ _ hms h1;exact⟨g,g1,g2,g3,g4⟩);refine⟨.agg (gs.flatMap GV.cells),.agg _ _ (by simp[e1,Na]) e2,.agg t fs gs hu (by simpa using e1) (λi f x hi hx=>e3 i f x (by simpa using hi) hx),by simpa[GV.cells]using e4,hlen⟩
      |_=>simp at hp
end
section
variable{H:Type}{enc:TypeId×Value->H}{P:Program}{w:World}
def Ey.J9{g:GV}(h:Ey w [g] [v]):RG w (λ_ _=>True) g v:=(h.2 0 g v rfl rfl).1
def YY{set:List Nat}(lG:J8 P set=true){t:TypeId}(ki:t∈set){r:Reach}{b0:Nat}{d:DataW H}{ps:List MemPlace}{spare:Nat->Bool}{held:Bool}{base:Nat}
  (tK:Value.okWide P w r b0 t v) (hd:DataW.Trod enc P w base spare held t v d ps):∃g,DG d g∧GT P t g∧RG w (λ_ _=>True) g v:=by
 obtain⟨fuel,hf⟩:=hd;obtain⟨g,h1,h2,h3,h4⟩:=QA lG fuel t _ _ ki hf;refine⟨g,h1,h2,?_⟩;cases h2 with
 |int _ k n hu hw=>obtain⟨m,rfl⟩:=okWide_int hu tK;exact h3.J9
 |bool _ b hu=>obtain⟨m,rfl⟩:=okWide_bool hu tK;exact h3.J9
 |str _ s hu hs=>
  have:∃s',v=.string s':=by simp only[Value.okWide,hu,Cell.okWide]at tK;cases v<;>simp_all[Cell.ok]
  obtain⟨s',rfl⟩:=this;exact h3.J9
 |sl _ e es hu hl he=>
  have:∃a n m,v=.slice a n m:=by simp only[Value.okWide,hu,Cell.okWide]at tK;cases v<;>simp_all[Cell.ok]
  obtain⟨a,n,m,rfl⟩:=this;exact h3.J9
 |agg _ fs xs hu hl hx=>
  obtain⟨cs,rfl,_⟩:=okWide_struct hu tK;refine .agg _ cs (by simpa[GV.cells,Value.cells]using h3.1) (λv hv=>?_) (λi g v hg hv=>?_);obtain⟨i,hi⟩:=bt hv;have iI:=(aR.1 hi).1;have h5:i<(GV.agg (xs.flatMap GV.cells)).cells.length:=(by rw[h3.1];exact iI);exact(h3.2 i _ v (aS h5) hi).2;exact(h3.2 i g v hg (by simpa[Value.cells]using hv)).1
def H4{set:List Nat}(lG:J8 P set=true){r:Reach}{b0:Nat}{spare:Nat->Bool}{held:Bool}{base:Nat}:∀(ts:List TypeId) (vs:List Value) (ds:List (DataW H)) (ps:List MemPlace),
  (∀t∈ts,t∈set)->(∀(j:Nat) t v,ts[j]?=some t->vs[j]?=some v->Value.okWide P w r b0 t v)->DataW.TrodAll enc P w base spare held ts vs ds ps->
  ∃gs:List GV,gs.length=vs.length∧gs.length=ts.length∧gs.length=ds.length∧(∀(i:Nat) (d:DataW H) (g:GV),ds[i]?=some d->gs[i]?=some g->DG d g)∧
   (∀(i:Nat) (t:TypeId) (g:GV),ts[i]?=some t->gs[i]?=some g->GT P t g)∧(∀(i:Nat) (g:GV) (v:Value),gs[i]?=some g->vs[i]?=some v->RG w (λ_ _=>True) g v)
 |[],vs,ds,ps,_,_,h=>by obtain⟨rfl,rfl,rfl⟩:=trodAll_nil h;exact⟨[],by simp⟩
 |t::ts,vs,ds,ps,hm,hv,h=>by
  obtain⟨v,vs1,d,ds1,a,b,rfl,rfl,rfl,h1,h2⟩:=trodAll_cons h;obtain⟨gs,e1,e2,e3,e4,e5,e6⟩:=H4 lG ts vs1 ds1 b (λt ht=>hm t (by simp[ht])) (λj t v ht pr=>hv (j+1) t v (by simpa using ht) (by simpa using pr)) h2;obtain⟨g,g1,g2,g3⟩:=YY lG (hm t aa) (hv 0 t v rfl rfl) h1;refine⟨g::gs,by simp[e1],by simp[e2],by simp[e3],?_,?_,?_⟩
  ·intro i x y hx hy;cases i with
   |zero=>simp at hx hy;subst hx;subst hy;exact g1|succ i=>exact e4 i x y (by simpa using hx) (by simpa using hy)
  ·intro i x y hx hy;cases i with
   |zero=>simp at hx hy;subst hx;subst hy;exact g2|succ i=>exact e5 i x y (by simpa using hx) (by simpa using hy)
  ·intro i x y hx hy;cases i with
   |zero=>simp at hx hy;subst hx;subst hy;exact g3|succ i=>exact e6 i x y (by simpa using hx) (by simpa using hy)
def BH(hl:laidOutB P=true){W W':World}{sp:Nat->Bool}:∀(ts:List TypeId) (vs:List Value) (ds:List (DataW H)) (ps:List MemPlace),
  (∀t∈ts,P.readableRec t=true∧t<P.types.size)->(∀p∈ps,W.sameAt W' p)->(∀p∈ps,sp p.block=true)->
  DataW.TrodAll enc P W 0 (λ_=>true) true ts vs ds ps->DataW.TrodAll enc P W' 0 sp true ts vs ds ps
 |[],vs,ds,ps,_,_,_,h=>by obtain⟨rfl,rfl,rfl⟩:=trodAll_nil h;exact h
 |t::ts,vs,ds,ps,hr,hs,hp,h=>by
  obtain⟨v,vs1,d,ds1,a,b,rfl,rfl,rfl,h1,h2⟩:=trodAll_cons h;exact⟨a,b,WideElems.Trod_stays hl (hr t aa).1 (hr t aa).2 h1 (λp kD=>hs p (by simp[kD])) (λp kD=>hp p (by simp[kD])),
   BH hl ts vs1 ds1 b (λt ht=>hr t (by simp[ht])) (λp kD=>hs p (by simp[kD])) (λp kD=>hp p (by simp[kD])) h2,rfl⟩
variable{w':World}
def kI.below{c':Ctx}(h:kI ⟨[],[],[],⟨λ_ _=>False,[]⟩,w⟩ c')(hw:c'.w=w'):Below w.heap.size w w':=by subst hw;exact⟨h.os,h.tape.1,h.output,h.size,λk hk=>h.frame k hk aa aa aa⟩
def ab0(P:Program)(w:World)(hg:(∃β,Xv β∧∀x∈om β,∀(k:Nat) (v:Value),x.2[k]?=some v->w.cell? ⟨x.1,k,none⟩=some v)∧∀w':World,(∀(a:Addr) (v:Value),a.spot=none->w.cell? a=some v->w'.cell? a=some v)->gq w'):Rel P ⟨[],[],[],⟨λ_ _=>False,[]⟩,w⟩ ⟨[],[],[]⟩:=
 ⟨rfl,by simp,rfl,by simp,by simp,by simp,by simp,by simp,by simp,by simp,by simp,rfl,by simp,by simp,by simp,by simp,by simp,by simp,⟨hg.1.imp λ_ hg=>⟨hg.1,λx hx k v hv=>⟨hg.2 x hx k v hv,by simp[Ctx.jq]⟩⟩,λw' h=>hg.2 w' λa v hs hc=>h a v hs (by simp[Ctx.jq]) hc⟩⟩
variable{f:FuncId}
def Nb{set:List Nat}{fn:Func}{s:ChangeSpec}{B:TypeId}(lG:J8 P set=true)(hts:(fn.params.toList.all λt=>set.contains t&&(P.readableRec t&&decide (t<P.types.size)))=true)
  (hl:laidOutB P=true) (adN:s.vars=[]) (N3:fn.resultTypes= #[B]) (hB:P.underlying B=some .bool)
  (hfn:∀ds:List (DataW H),ds.length=fn.params.size->s.fn H ds={results:=[.lit (.bool true)],args:=ds,vars:=[]})
  (W:World) (base:Nat) (args:Array Value) (ds gs:List (DataW H)) (before:List MemPlace)
  (tK:∀(j:Nat) t v,fn.params[j]?=some t->args[j]?=some v->Value.okWide P W .any base t v)
  (hW:DataW.Whole enc P fn.params.toList s.vars false W args.toList ds gs before)
  (hpc:∀xs:List GV,xs.length=fn.params.size->xs.length=ds.length->(∀(i:Nat) (d:DataW H) (g:GV),ds[i]?=some d->xs[i]?=some g->DG d g)->
   (∀(i:Nat) (t:TypeId) (g:GV),fn.params[i]?=some t->xs[i]?=some g->GT P t g)->PC P f (xs.map .g) ⟨[],[],[]⟩ (.g (.bool true)) ⟨[],[],[]⟩)
  (pE:(∃β,Xv β∧∀x∈om β,∀(k:Nat) (v:Value),x.2[k]?=some v->W.cell? ⟨x.1,k,none⟩=some v)∧∀w':World,(∀(a:Addr) (v:Value),a.spot=none->W.cell? a=some v->w'.cell? a=some v)->gq w':=by refine⟨⟨λ_=>undef,trivial,?_⟩,λ_ _=>trivial⟩;intro x hx;exact absurd hx (by simp[om])):
  Calls P f args W λe W'=>∃v,e=.returned v∧s.post enc P fn false true false false W args v W'∧W'.os=W.os:=by
 have hW':=hW;obtain⟨p,q,hA,hV,hbe,zL,hnd⟩:=hW;rw[adN]at hV;obtain⟨rfl,rfl⟩:=trodVars_none hV;have lM:=cY.1 hts;have ki:∀t∈fn.params.toList,t∈set:=λt ht=>by have:=lM t ht;simp only[bI]at this;simpa using this.1
 have hrd:∀t∈fn.params.toList,P.readableRec t=true∧t<P.types.size:=λt ht=>by have:=lM t ht;simp only[bI,cX]at this;exact this.2
 obtain⟨xs,e1,e2,e3,e4,e5,e6⟩:=H4 lG fn.params.toList args.toList ds p ki (λj t v ht hv=>tK j t v (by simpa using ht) (by simpa using hv)) hA;have hc:=hpc xs (by simpa using e2) e3 e4 (λi t g ht hg=>e5 i t g (by simpa using ht) hg) ⟨[],[],[],⟨λ_ _=>False,[]⟩,W⟩ args (ab0 P W pE)
  ⟨by simpa using e1,λi pv v hp hv=>by simp only[bj,bh]at hp;obtain⟨g,hg,rfl⟩:=hp;refine .g _ _ ((e6 i g v hg (by simpa using hv)).mono ?_);intro a v _ _ oc;exact⟨oc,by simp[Ctx.jq]⟩⟩
 refine hc.mono λe W1 ⟨rv,c',he,hw,hr,hE,hv⟩=>?_;subst he;have hb:Below W.heap.size W W1:=hE.below hw;cases hv with
 |g x v hx=>
 cases hx;have iI:∀x∈before,x.block<W.heap.size:=λx hx=>hW'.lt x hx;have QB:p=before:=by rw[hbe];simp
 subst QB;refine⟨_,rfl,⟨ds,[],p,[],p,[],hW',?_,?_,?_,Below.frame hb _,λh=>by cases h⟩,hb.os⟩;rw[N3,cG,hfn ds (by rw[<-e3];simpa using e2)];exact⟨[],[],shut_bool hB _,rfl,rfl⟩;rw[cG,hfn ds (by rw[<-e3];simpa using e2)];exact BH hl _ _ _ _ hrd (λx hx=>hb.same (iI x hx)) (λx hx=>by simpa using iI x hx) hA;rw[adN,cG,hfn ds (by rw[<-e3];simpa using e2)];rfl
end
end Go.Pure
namespace Go.Pure
open Go
section
variable{P:Program}{t:TypeId}{g:GV}
variable{k:IntKind}
def GT.Cp(hu:P.underlying t=some (.int k))(h:GT P t g):∃n,g=.int k n∧(Lit.int k n).wf=true:=by
 cases h with
 |int _ k' n nr hw=>rw[hu]at nr;cases nr;exact⟨n,rfl,hw⟩|bool _ b nr=>rw[hu]at nr;cases nr|str _ s nr=>rw[hu]at nr;cases nr|sl _ e es nr=>rw[hu]at nr;cases nr|agg _ fs xs nr=>rw[hu]at nr;cases nr
def GT.Hq(hu:P.underlying t=some .bool)(h:GT P t g):∃b,g=.bool b:=by
 cases h with
 |int _ k' n nr hw=>rw[hu]at nr;cases nr|bool _ b nr=>exact⟨b,rfl⟩|str _ s nr=>rw[hu]at nr;cases nr|sl _ e es nr=>rw[hu]at nr;cases nr|agg _ fs xs nr=>rw[hu]at nr;cases nr
def GT.ab1(hu:P.underlying t=some .string)(h:GT P t g):∃s,g=.str s∧s.size<=maxLen:=by
 cases h with
 |int _ k' n nr hw=>rw[hu]at nr;cases nr|bool _ b nr=>rw[hu]at nr;cases nr|str _ s nr hs=>exact⟨s,rfl,hs⟩|sl _ e es nr=>rw[hu]at nr;cases nr|agg _ fs xs nr=>rw[hu]at nr;cases nr
def GT.QC{e:TypeId}(hu:P.underlying t=some (.slice e))(h:GT P t g):∃es,g=.sl es∧es.length<=maxLen∧∀x∈es,GT P e x:=by
 cases h with
 |int _ k' n nr hw=>rw[hu]at nr;cases nr|bool _ b nr=>rw[hu]at nr;cases nr|str _ s nr=>rw[hu]at nr;cases nr|sl _ e' es nr hl he=>rw[hu]at nr;cases nr;exact⟨es,rfl,hl,he⟩|agg _ fs xs nr=>rw[hu]at nr;cases nr
def GT.ab2{fs:Array Field}(hu:P.underlying t=some (.struct fs))(h:GT P t g):∃xs:List GV,g=.agg (xs.flatMap GV.cells)∧xs.length=fs.size∧∀(i:Nat) (f:Field) (x:GV),fs[i]?=some f->xs[i]?=some x->GT P f.type x:=by
 cases h with
 |int _ k' n nr hw=>rw[hu]at nr;cases nr|bool _ b nr=>rw[hu]at nr;cases nr|str _ s nr=>rw[hu]at nr;cases nr|sl _ e es nr=>rw[hu]at nr;cases nr|agg _ fs' xs nr hl hx=>rw[hu]at nr;cases nr;exact⟨xs,rfl,hl,hx⟩
end
variable{w:World}{S:Nat->Nat->Prop}{v:Value}
def RG.cells_one{g:GV}(h:RG w S g v)(h1:v.oneCell'=true):g.cells=[g]:=by
 cases h with
 |agg=>cases h1|_=>rfl
def group(b:Bool)(size:Nat):Nat->List GV->List GV
 |0,_=>[]|n+1,gs=>bif b then .agg (gs.take size)::group b size n (gs.drop size)else(match gs with|g::r=>g::group b size n r|[]=>[])
def sE{size:Nat}:∀(n:Nat) (gs:List GV) (b:Bool),(b=false->size=1)->gs.length=n*size->(group b size n gs).length=n
 |0,_,_,_,_=>rfl|n+1,gs,true,hb,hl=>by simp only[group,cr,bu,Nat.add_right_cancel_iff];exact sE n _ true hb (by simp[hl,bB])
 |n+1,gs,false,hb,hl=>by
  have h1:=hb rfl;subst h1;cases gs with
  |nil=>simp at hl|cons g r=>simp only[group,de,bu,Nat.add_right_cancel_iff];exact sE n r false hb (by simp at hl;omega)
def xF{size:Nat}:∀(n:Nat) (gs:List GV) (b:Bool),(b=false->size=1∧∀g∈gs,g.cells=[g])->gs.length=n*size->
  ∀(i:Nat) (e:GV),(group b size n gs)[i]?=some e->e.cells.length=size∧∀j g,e.cells[j]?=some g->gs[i*size+j]?=some g
 |0,_,_,_,_,i,e,h=>by simp[group]at h
 |n+1,gs,true,hb,hl,i,e,h=>by
  simp only[group,cr]at h;cases i with
  |zero=>
   simp at h;subst h;refine⟨by simp[GV.cells,hl,bB],λj g hj=>?_⟩;simp only[GV.cells,bq]at hj;split at hj;simpa using hj;cases hj
  |succ i=>
   obtain⟨h1,h2⟩:=xF (size:=size) n (gs.drop size) true aa (by simp[hl,bB]) i e (by simpa using h);refine⟨h1,λj g hj=>?_⟩;have:=h2 j g hj;rw[bD]at this;rw[<-this];congr 1;rw[bB];omega
 |n+1,gs,false,hb,hl,i,e,h=>by
  obtain⟨h1,hc⟩:=hb rfl;subst h1;cases gs with
  |nil=>simp at hl
  |cons g r=>
   simp only[group,de]at h;cases i with
   |zero=>
    simp at h;subst h;rw[hc g aa];refine⟨rfl,λj g' hj=>?_⟩;cases j with
    |zero=>simpa using hj|succ j=>simp at hj
   |succ i=>
    obtain⟨h1,h2⟩:=xF n r false (λ_=>⟨rfl,λg' sX=>hc g' (by simp[sX])⟩) (by simp at hl;omega) i e (by simpa using h);refine⟨h1,λj g' hj=>?_⟩;have:=h2 j g' hj;rw[show(i+1)*1+j=(i*1+j)+1 by omega,c7];exact this
section
variable{P:Program}{o:Oper}{ρ:Operand->PV}{H:PH}
variable{kh size cap:Nat}{cur:Array Value}{es:List GV}
def Ka{e:TypeId}(hb:w.heap[kh]?=some (.cells cur e (0,0)))
  (hs:∀(i:Nat) (x:GV),es[i]?=some x->x.cells.length=size) (hc:es.length<=cap) (hm:cap<=maxLen) (_hl:es.length*size<=cur.size) (hS:∀p,p<es.length*size->S kh p)
  (h1:∀k,k<es.length*size->∃v,cur[k]?=some v∧v.oneCell'=true)
  (h:∀(i:Nat) (x:GV) (j:Nat) (g:GV) (v:Value),es[i]?=some x->x.cells[j]?=some g->cur[i*size+j]?=some v->RG w S g v):
  RG w S (.sl es) (.slice (some ⟨kh,0,none⟩) es.length cap):=by
 refine .sl es ⟨kh,0,none⟩ cap size (λk=>cur[k]?.getD undef) (λ_=>rfl) hc hm hs (λk hk=>?_) (λi x j g hx hg=>?_);obtain⟨v,hv,lI⟩:=h1 k hk;rw[add_eq _ _ rfl];simp only[bc];refine⟨?_,hS k hk,by rw[hv];exact lI⟩;rw[cell_of_row w kh k cur e (0,0) hb,hv];rfl
 ·have hi:=(aR.1 hx).1;have hj:j<size:=by rw[<-hs i x hx];exact(aR.1 hg).1
  have iI:i*size+j<es.length*size:=by
   calc i*size+j<i*size+size:=ab
    _=(i+1)*size:=by rw[bB,c8]
    _<=es.length*size:=bg _ hi
  obtain⟨v,hv,_⟩:=h1 _ iI;show RG w S g (cur[i*size+j]?.getD undef);rw[hv];exact h i x j g v hx hg hv
variable{c:Ctx}{w':World}
def H5(hr:Rel P c H)(h:c.w.heap.size<=kh)(p:Nat):Ctx.jq ⟨c.σ,c.τ,c.μ,c.hid,w'⟩ kh p:=by refine⟨λhh=>?_,λhm=>?_,λt ht lv e=>?_,λt ht lv e=>?_⟩;have:=hr.nu _ _ hh;omega;have:=hr.pB _ hm;omega;have:=hr.Bd ht lv;omega;have:=hr.mlt t ht lv;omega
def rD(z:Value):Nat->List PV
 |0=>[]|n+1=>z.cells.toList.map tu++rD z n
def rj(z:Value)(n:Nat):(rD z n).length=n*z.cells.size:=by
 induction n with
 |zero=>simp[rD]|succ n ih=>simp[rD,ih,bB,eK]
def H6{z:Value}(jX:0<z.cells.size):∀(n j:Nat),j<n*z.cells.size->(rD z n)[j]?=(z.cells.toList.map tu)[j%z.cells.size]?
 |0,j,h=>by simp at h|n+1,j,h=>by unfold rD;by_cases hj:j<z.cells.size;rw[a8 (by simpa using hj),bn hj];rw[a7 (by simpa using hj)];simp only[dm,fA];rw[H6 jX n _ (by rw[bB]at h;omega),<-Nat.mod_eq_sub_mod ab]
variable{z:Value}
def Hr(c:Ctx)(h1:z.cells.toList.all (·.oneCell')=true)(jX:0<z.cells.size)(n:Nat):
  J5 c (rD z n) ((Array.range (n*z.cells.size)).map (z.cells[· %z.cells.size]!)):=by
 refine⟨by simp[rj],λj p v hp hv=>?_⟩;have hj:j<n*z.cells.size:=by rw[<-rj];exact(aR.1 hp).1
 rw[H6 jX n j hj]at hp;have IN:j%z.cells.size<z.cells.size:=bL _ jX;simp[hj]at hv;refine(Te c h1).2 (j%z.cells.size) p v hp ?_;rw[<-hv];simp[IN]
def BI{t n e size:Nat}{parts:Array (Nat×Operand)}{z:Value}{b:Bool}{cs:List PV}{gs:List GV}(ho:o.op=.buildSlice t n parts)(he:P.underlying t=some (.slice e))(hs:kZ P e=some size)(_ha:qY P e=some b)
  (hz:my P e=some z) (uc:z.cells.toList.all (·.oneCell')=true) (sP:Nat.beq z.cells.size size=true) (jX:Nat.ble 1 size=true) (hb:(b||Nat.beq size 1)=true) (hn:Nat.ble (n*size) 16777216=true)
  (zY:q8 (λi=>some (i*size,size)) (rD z n) (sD ρ parts.toList)=some cs) (hg:yz cs=some gs):PO P o ρ H (.g (.sl (group b size n gs))) H:=by
 intro c ρr hr hx;have sP:=bl sP;have jX:=bz jX;have hn:=bz hn;subst sP;obtain⟨vs,lI,vI⟩:=Cn (c:=c) (sD ρ parts.toList) ((parts.map fun(i,x)=>(i,ρr x)).toList) (rD z n) _ cs (Hr c uc jX n) (by simp[qe]) (by intro k x y kf hy;rw[qe]at kf;simp only[bj,bh,gN]at kf hy;obtain⟨q,hq,rfl⟩:=kf;obtain⟨q',qH,rfl⟩:=hy;rw[hq]at qH;cases qH;exact⟨rfl,hx q.2 (by rw[ho];simpa[Op.operands]using⟨q.1,by simpa using aY hq⟩)⟩) zY;have lI:Instr.fill (λi=>some (i*z.cells.size,z.cells.size)) ((Array.range (n*z.cells.size)).map (z.cells[· %z.cells.size]!)) (List.map (λx=>(x.1,ρr x.2)) parts.toList)=some vs:=by simpa using lI
 have kX:(execOp ρr o).run P c.w=.ok (.value (.slice (some ⟨c.w.heap.size,0,none⟩) n n)) (c.w.alloc (.cells vs e)):=by
  have js:¬(n*z.cells.size>2^24):=by simp only[Nat.reducePow];omega
  by_cases h0:n*z.cells.size=0
  ·obtain rfl:n=0:=by
    rcases Nat.mul_eq_zero.1 h0 with h|h
    exact h;omega
   have e0:∀f:Nat->Value,(Array.range (0*z.cells.size)).map f= #[]:=λf=>aa;rw[e0]at lI;have e1:Array.map (λ_:Nat=>(default:Value)) (Array.range 0)= #[]:=aa;simp[execOp,ho,Instr.buildSlice,run_underlying he,run_sizeOf hs,newRow,newObj,e1,lI,Sem.run]
  simp[execOp,ho,Instr.buildSlice,run_underlying he,run_sizeOf hs,js,h0,qL hz,newRow,newObj,lI,Sem.run]
 unfold kU;rw[kX];obtain⟨kP,hE⟩:=hr.grow (Ext.alloc c.w (.cells vs e));have mC:gs.length=vs.size:=by rw[(qM (c:=c) hg).1,vI.1]
 have kR:∀(k:Nat) (g:GV) (v:Value),gs[k]?=some g->vs[k]?=some v->RG c.w c.jq g v∧v.oneCell'=true:=by
  intro k g v DK zM;have iI:k<cs.length:=by rw[<-(qM (c:=c) hg).1];exact(aR.1 DK).1
  obtain⟨r1,r2⟩:=vI.2 k cs[k] v (aS iI) zM;exact⟨(qM (c:=c) hg).2 k g cs[k] DK (aS iI) v r1,r2⟩
 have zA:vs.size=n*z.cells.size:=by
  rw[vI.1];have:∀(ps:List (Nat×PV)) (l l':List PV),q8 (λi=>some (i*z.cells.size,z.cells.size)) l ps=some l'->l'.length=l.length:=by
   intro ps;induction ps with
   |nil=>intro l l' h;simp[q8]at h;rw[h]
   |cons p ps ih=>
    obtain⟨i,p⟩:=p;intro l l' h;unfold q8 at h;split at h
    ·rename_i off n' ds p8 pO;cases hb:(Nat.beq ds.length n'&&Nat.ble (off+n') l.length)with
     |false=>rw[hb]at h;cases h
     |true=>
      rw[hb,cr]at h;rw[ih _ _ h];simp only[bI]at hb;have e1:=bl hb.1;have e2:=bz hb.2;simp[qF];omega
    cases h
  rw[this _ _ _ zY,rj]
 have jE:b=false->z.cells.size=1∧∀g∈gs,g.cells=[g]:=λe=>by
  subst e;refine⟨bl (by simpa using hb),λg sX=>?_⟩;obtain⟨k,hk⟩:=bt sX;have iI:k<vs.size:=by rw[<-mC];exact(aR.1 hk).1
  obtain⟨r1,r2⟩:=kR k g vs[k] hk (by simp[iI]);exact r1.cells_one r2
 have hlen:(group b z.cells.size n gs).length=n:=sE n gs b (λe=>(jE e).1) (by rw[mC,zA]);have ny:=xF n gs b jE (by rw[mC,zA]);refine⟨_,rfl,kP,hE,.g _ _ ?_⟩;have:=Ka (w:=c.w.alloc (.cells vs e)) (S:=Ctx.jq ⟨c.σ,c.τ,c.μ,c.hid,c.w.alloc (.cells vs e)⟩) (es:=group b z.cells.size n gs) (size:=z.cells.size) (cap:=n) (Go.heap_alloc_new c.w _) (λi x hx=>(ny i x hx).1) ab (by have:n<=n*z.cells.size:=gj _ jX;simp only[maxLen];omega) (by rw[hlen,zA];exact aZ _) (λp _=>H5 hr (aZ _) p) (λk hk=>?_) (λi x j g v hx sX hv=>?_);rw[hlen]at this;exact this
 ·rw[hlen,<-zA]at hk;refine⟨vs[k],by simp[hk],?_⟩;have yt:k<gs.length:=by rw[mC];exact hk
  exact(kR k gs[k] vs[k] (aS yt) (by simp[hk])).2
 exact(kR _ g v ((ny i x hx).2 j g sX) hv).1.mono hE.kF
end
mutual
def rF(ι κ ν:Nat->Option Nat):PV->PV
 |.g x=>.g x
 |.own es id=>match κ id with|some k7=>.own es k7|none=>.g (.sl es)
 |.ptr b off=>match ι b with|some b'=>.ptr b' off|none=>.any
 |.jx=>.jx|.iM=>.iM|.pat cs=>.pat cs|.mU f a b=>.mU f (pa ι κ ν a) (pa ι κ ν b)|.agg cs=>.agg (pa ι κ ν cs)|.tuple cs=>.tuple (pa ι κ ν cs)|.lit es=>.lit es
 |.lK id n=>match ν id with|some k7=>.lK k7 n|none=>.any
 |.kE id n i off=>match ν id with|some k7=>.kE k7 n i off|none=>.any
 |.mp id=>match ν id with|some k7=>.mp k7|none=>.any
 |.mV g off=>.mV g off|.kv g off=>.kv g off|.rz t p=>.rz t (rF ι κ ν p)
 |.vw id n off len cap=>match ν id with|some k7=>.vw k7 n off len cap|none=>.any
 |.qm id n off len=>match ν id with|some k7=>.qm k7 n off len|none=>.any
 |.any=>.any
def pa(ι κ ν:Nat->Option Nat):List PV->List PV
 |[]=>[]|p::r=>rF ι κ ν p::pa ι κ ν r
end
def pL(ι κ ν:Nat->Option Nat):∀l,pa ι κ ν l=l.map (rF ι κ ν)
 |[]=>by simp[pa]|p::r=>by simp[pa,pL ι κ ν r]
variable{c:Ctx}{p:PV}
def QD{c1:Ctx}{ι κ ν:Nat->Option Nat}(hw:c1.w=c.w)(lT:∀b p,c.jq b p->c1.jq b p)
  (hι:∀b b' kh,ι b=some b'->c.σ[b]?=some kh->c1.σ[b']?=some kh) (hκ:∀i i' t,κ i=some i'->c.τ[i]?=some t->c1.τ[i']?=some t) (hν:∀i i' t,ν i=some i'->c.μ[i]?=some t->c1.μ[i']?=some t) (h:RV c p v):RV c1 (rF ι κ ν p) v:=by
 have hk:yN c.w c1.w c.jq c1.jq:=λa v _ hs hc=>⟨by rw[hw];exact hc,lT _ _ hs⟩;induction h with
 |g x v h=>simp only[rF];exact .g x v (h.mono hk)
 |own es id v t h ht hs hl hv=>
  simp only[rF];split;rename_i k7 e;exact .own es k7 v t (h.mono hk) (hκ id k7 t e ht) hs hl hv;exact .g _ _ (h.mono hk)
 |ptr b off kh h=>
  simp only[rF];split;rename_i b' e;exact .ptr b' off kh (hι b b' kh e h);exact .any _
 |jx=>simp only[rF];exact .jx|iM=>simp only[rF];exact .iM
 |pat cs a f ha hf h=>
  simp only[rF];exact .pat cs a f ha (λk yt=>⟨by rw[hw];exact(hf k yt).1,lT _ _ (hf k yt).2.1,(hf k yt).2.2⟩) (λj g hj=>(h j g hj).mono hk)
 |mU fn ps qs us vs hp hq _ _ h1 h2=>
  simp only[rF,pL];refine .mU fn _ _ us vs (by simpa using hp) (by simpa using hq) (λi p v kD hv=>?_) (λi p v kD hv=>?_);simp only[bj,bh]at kD;obtain⟨q,qH,rfl⟩:=kD;exact h1 i q v qH hv;simp only[bj,bh]at kD;obtain⟨q,qH,rfl⟩:=kD;exact h2 i q v qH hv
 |agg cs vs hl h1 _ ih=>
  simp only[rF,pL];refine .agg _ vs (by simpa using hl) h1 λi p v kD hv=>?_;simp only[bj,bh]at kD;obtain⟨q,qH,rfl⟩:=kD;exact ih i q v qH hv
 |tuple cs vs hl _ ih=>
  simp only[rF,pL];refine .tuple _ vs (by simpa using hl) λi p v kD hv=>?_;simp only[bj,bh]at kD;obtain⟨q,qH,rfl⟩:=kD;exact ih i q v qH hv
 |lit es a h=>simp only[rF];exact .lit es a (h.mono hk)
 |lK id n v t ht hn h1 hv=>
  simp only[rF];split;rename_i k7 e;exact .lK k7 n v t (hν id k7 t e ht) hn h1 hv;exact .any _
 |kE id n i off v t ht hn h1 hv=>
  simp only[rF];split;rename_i k7 e;exact .kE k7 n i off v t (hν id k7 t e ht) hn h1 hv;exact .any _
 |mp id v t ht h1 hv=>
  simp only[rF];split;rename_i k7 e;exact .mp k7 v t (hν id k7 t e ht) h1 hv;exact .any _
 |vw id n off len cap g t ht hn h1 h2 hv=>
  simp only[rF];split;rename_i k7 e;exact .vw k7 n off len cap g t (hν id k7 t e ht) hn h1 h2 hv;exact .any _
 |qm id n off len g xw cap t ht hn h1 h2 hv=>
  simp only[rF];split;rename_i k7 e;exact .qm k7 n off len g xw cap t (hν id k7 t e ht) hn h1 h2 hv;exact .any _
 |mV g off=>simp only[rF];exact .mV g off|kv g off v h hs h1=>simp only[rF];exact .kv g off v (by rw[hw];exact h) (lT _ _ hs) h1|rz t p v _ ih=>simp only[rF];exact .rz t _ v ih|any v=>simp only[rF];exact .any v
def posOf:List Nat->Nat->Option Nat
 |[],_=>none
 |i::I,b=>bif Nat.beq b i then some 0 else match posOf I b with|some k=>some (k+1)|none=>none
def rl:∀{I:List Nat} {b k:Nat},posOf I b=some k->I[k]?=some b
 |[],_,_,h=>by cases h
 |i::I,b,k,h=>by
  unfold posOf at h;cases e:Nat.beq b i with
  |true=>rw[e,cr]at h;cases h;simp[bl e]
  |false=>
   rw[e,de]at h;split at h;rename_i k' hk;cases h;simpa using rl hk;cases h
def jw(I:List Nat)(n i:Nat):Option Nat:=match I[i]? with|some b=>some b|none=>some (n+(i-I.length))
def nJ{α:Type}:List α->List Nat->List α->List α
 |l,i::I,x::xs=>nJ (l.set i x) I xs|l,_,_=>l
def je{α:Type}:∀(l:List α) (I:List Nat) (xs:List α),(nJ l I xs).length=l.length
 |l,i::I,x::xs=>by rw[nJ,je];simp|l,[],_=>by simp[nJ]|l,_::_,[]=>by simp[nJ]
def mP{α:Type}:∀(l:List α) (I:List Nat) (xs:List α) (k:Nat),k∉I->(nJ l I xs)[k]?=l[k]?
 |l,i::I,x::xs,k,h=>by rw[nJ,mP _ I xs k (λhm=>h (by simp[hm])),bP (λe=>h (by simp[e]))]|l,[],_,_,_=>by simp[nJ]|l,_::_,[],_,_=>by simp[nJ]
def nR{α:Type}:∀(l:List α) (I:List Nat) (xs:List α),I.Nodup->(∀i∈I,i<l.length)->∀(j k:Nat) (x:α),I[j]?=some k->xs[j]?=some x->(nJ l I xs)[k]?=some x
 |l,i::I,x::xs,hn,hl,j,k,y,hj,hx=>by
  rw[nJ];have Je:=List.nodup_cons.1 hn;cases j with
  |zero=>
   simp at hj hx;subst hj;subst hx;rw[mP _ _ _ _ Je.1];simp[hl i aa]
  |succ j=>exact nR _ I xs Je.2 (λi' hi=>by simpa using hl i' (by simp[hi])) j k y (by simpa using hj) (by simpa using hx)
 |l,[],_,_,_,j,k,x,hj,_=>by simp at hj|l,_::_,[],_,_,j,k,x,_,hx=>by simp at hx
def back(I J L:List Nat)(H H1:PH):PH:=
  ⟨nJ H.bx I ((H1.bx.take I.length).map (pa (jw I H.bx.length) (jw J H.tk.length) (jw L H.mu.length)))++(H1.bx.drop I.length).map (pa (jw I H.bx.length) (jw J H.tk.length) (jw L H.mu.length)),
   nJ H.tk J (H1.tk.take J.length)++H1.tk.drop J.length,nJ H.mu L (H1.mu.take L.length)++H1.mu.drop L.length⟩
variable{I:List Nat}
def nX{α:Type}[Inhabited α]{l:List α}(h:∀i∈I,i<l.length)(j i:Nat)(hj:I[j]?=some i):(I.map (l[·]!))[j]?=l[i]? :=by have hi:=h i (aY hj);simp[hj,hi]
variable{i:Nat}
def uU{α:Type}{l:List α}(h:l.Nodup){j:Nat}(hi:i<l.length)(hj:j<l.length)(e:l[i]=l[j]):i=j:=
 (List.getElem?_inj hi h).1 (by rw[aS hi,aS hj,e])
instance:Inhabited Tok:=⟨⟨false,0,0,0,0,0⟩⟩
instance:Inhabited oZ:=⟨⟨false,0,0,0,0,0⟩⟩
variable{P:Program}{f:FuncId}{args Ro:List PV}{H0 H:PH}{J L:List Nat}
def Kb{R:PV->PH->Prop}(hp:Ds P f args H0 R)(hI:I.Nodup)(hJ:J.Nodup)(hL:L.Nodup)(hIl:H0.bx.length=I.length)
  (uA:∀(j i:Nat),I[j]?=some i->∃cs,H.bx[i]?=some cs∧H0.bx[j]?=some (pa (posOf I) (posOf J) (posOf L) cs))
  (hJl:H0.tk.length=J.length) (hJ':∀(j i:Nat),J[j]?=some i->∃x,H.tk[i]?=some x∧H0.tk[j]?=some x)
  (hLl:H0.mu.length=L.length) (XL:∀(j i:Nat),L[j]?=some i->∃x,H.mu[i]?=some x∧H0.mu[j]?=some x) (ha:pa (posOf I) (posOf J) (posOf L) Ro=args):
  Ds P f Ro H λv' H'=>∃v H1,R v H1∧v'=rF (jw I H.bx.length) (jw J H.tk.length) (jw L H.mu.length) v∧H'=back I J L H H1:=by
 intro c vs hr I1;have U2:∀i∈I,i<c.σ.length:=λi hi=>by obtain⟨j,hj⟩:=bt hi;obtain⟨cs,h1,_⟩:=uA j i hj;rw[hr.len];exact(aR.1 h1).1
 have OH:c.τ.length=H.tk.length:=by rw[<-hr.tk];simp
 have XM:∀i∈J,i<c.τ.length:=λi hi=>by obtain⟨j,hj⟩:=bt hi;obtain⟨x,h1,_⟩:=hJ' j i hj;rw[OH];exact(aR.1 h1).1
 have DL:c.μ.length=H.mu.length:=hr.nq;have Tm:∀i∈L,i<c.μ.length:=λi hi=>by obtain⟨j,hj⟩:=bt hi;obtain⟨x,h1,_⟩:=XL j i hj;rw[DL];exact(aR.1 h1).1
 generalize U3:L.map (c.μ[·]!)=Cq;have H7:∀(j i:Nat),L[j]?=some i->Cq[j]?=c.μ[i]? :=λj i hj=>U3▸nX Tm j i hj;have Kc:Cq.length=L.length:=by rw[<-U3];simp
 have DM:∀t∈Cq,t∈c.μ:=λb hb=>by
  obtain⟨j,hj⟩:=bt hb;have iI:j<L.length:=by rw[<-Kc];exact(aR.1 hj).1
  rw[H7 j L[j] (aS iI)]at hj;exact aY hj
 have aaR:∀t∈c.μ,∀t'∈c.μ,t.live=true->t'.live=true->t.g=t'.g->t=t':=by intro t ht t' kp lv kj e;obtain⟨i,hi⟩:=bt ht;obtain⟨j,hj⟩:=bt kp;have zN:i=j:=hr.md i j t t' hi hj lv kj e;subst zN;rw[hi]at hj;exact cE hj
 generalize N4:I.map (c.σ[·]!)=H8;generalize U4:J.map (c.τ[·]!)=Cr;have QE:∀(j i:Nat),I[j]?=some i->H8[j]?=c.σ[i]? :=λj i hj=>N4▸nX U2 j i hj;have Jg:∀(j i:Nat),J[j]?=some i->Cr[j]?=c.τ[i]? :=λj i hj=>U4▸nX XM j i hj;have Fz:H8.length=I.length:=by rw[<-N4];simp
 have QF:Cr.length=J.length:=by rw[<-U4];simp
 have Nc:∀b∈H8,b∈c.σ:=λb hb=>by
  obtain⟨j,hj⟩:=bt hb;have iI:j<I.length:=by rw[<-Fz];exact(aR.1 hj).1
  rw[QE j I[j] (aS iI)]at hj;exact aY hj
 have BJ:∀t∈Cr,t∈c.τ:=λb hb=>by
  obtain⟨j,hj⟩:=bt hb;have iI:j<J.length:=by rw[<-QF];exact(aR.1 hj).1
  rw[Jg j J[j] (aS iI)]at hj;exact aY hj
 have aaS:∀t∈c.τ,∀t'∈c.τ,t.live=true->t'.live=true->t.g=t'.g->t=t':=by intro t ht t' kp lv kj e;obtain⟨i,hi⟩:=bt ht;obtain⟨j,hj⟩:=bt kp;have zN:i=j:=hr.td i j t t' hi hj lv kj e;subst zN;rw[hi]at hj;exact cE hj
 generalize xG:(⟨H8,Cr,Cq,⟨λb p=>c.hid b p∨(b∈c.σ∧b∉H8)∨(∃t∈c.τ,t∉Cr∧t.live=true∧t.g=b∧¬p<t.hw*t.size)∨∃t∈c.μ,t∉Cq∧t.live=true∧t.g=b,c.hid.d⟩,c.w⟩:Ctx)=c0;have s0:c0.σ=H8:=by rw[<-xG]
 have t0:c0.τ=Cr:=by rw[<-xG]
 have m0:c0.μ=Cq:=by rw[<-xG]
 have w0:c0.w=c.w:=by rw[<-xG]
 have h0:∀b p,c0.hid b p↔(c.hid b p∨(b∈c.σ∧b∉H8)∨(∃t∈c.τ,t∉Cr∧t.live=true∧t.g=b∧¬p<t.hw*t.size)∨∃t∈c.μ,t∉Cq∧t.live=true∧t.g=b):=λb p=>by rw[<-xG]
 have QG:∀b p,c.jq b p->c0.jq b p:=by rintro b p ⟨q1,q2,q3,q4⟩;refine⟨?_,λhb=>q2 (Nc b (s0▸hb)),λt ht lv=>q3 t (BJ t (t0▸ht)) lv,λt ht lv=>q4 t (DM t (m0▸ht)) lv⟩;rw[h0];rintro(h|⟨h,_⟩|⟨t,ht,_,lv,e,hn⟩|⟨t,ht,_,lv,e⟩);exact q1 h;exact q2 h;exact hn (q3 t ht lv e);exact q4 t ht lv e
 have rv0:∀p v,RV c p v->RV c0 (rF (posOf I) (posOf J) (posOf L) p) v:=λp v h=>QD w0 QG
  (λb b' kh e hb=>by rw[s0,QE b' b (rl e)];exact hb) (λi i' t e ht=>by rw[t0,Jg i' i (rl e)];exact ht) (λi i' t e ht=>by rw[m0,H7 i' i (rl e)];exact ht) h
 have aeU:∀t o,yO P c t o->yO P c0 t o:=by
  intro t o h;have hg:∀g v,RG c.w c.jq g v->RG c0.w c0.jq g v:=λg v h=>h.mono λa u _ hs hc=>⟨by rw[w0];exact hc,QG _ _ hs⟩;cases o with
  |gone n=>exact h
  |arr n e es=>
   obtain⟨a1,a2,a3,a4⟩:=h;refine⟨a1,a2,a3,a4.imp id ?_⟩;rintro⟨lv,cur,b1,b2,b3,b4,b5,b6⟩;exact⟨lv,cur,by rw[w0];exact b1,b2,b3,b4,b5,λi x j g v hx sX hv=>⟨hg _ _ (b6 i x j g v hx sX hv).1,(b6 i x j g v hx sX hv).2⟩⟩
  |map es=>
   obtain⟨a1,lv,n5,o8,hp,b1,b2,b3⟩:=h;exact⟨a1,lv,n5,o8,hp,by rw[w0];exact b1,b2,λi k v n hk hn=>⟨hg _ _ (b3 i k v n hk hn).1,hg _ _ (b3 i k v n hk hn).2.1,(b3 i k v n hk hn).2.2⟩⟩
  |iter n s pos=>exact⟨h.1,h.2.1,by rw[w0];exact h.2.2⟩
 have aeV:Rel P c0 H0:=by
  refine⟨by rw[s0,Fz,hIl],?_,?_,?_,?_,?_,?_,?_,?_,?_,λt ht=>hr.dead t (BJ t (t0▸ht)),by rw[m0,Kc,hLl],?_,λt ht lv=>by rw[w0];exact hr.mlt t (DM t (m0▸ht)) lv,?_,λt ht lv hb=>hr.ms t (DM t (m0▸ht)) lv (Nc _ (s0▸hb)),λt ht lv t' kp kj=>hr.mt t (DM t (m0▸ht)) lv t' (BJ t' (t0▸kp)) kj,?_,hr.gl.Cj w0 QG⟩;intro j b cs hb kR;rw[s0]at hb;have iI:j<I.length:=(by rw[<-Fz];exact(aR.1 hb).1);have hj:=aS iI;rw[QE j _ hj]at hb;obtain⟨cs',k1,k2⟩:=uA j _ hj;rw[k2]at kR;cases kR;obtain⟨jJ,T,e1,e2,e3⟩:=hr.bx _ b cs' hb k1;rw[w0];refine⟨jJ,T,e1,by rw[pL];simpa using e2,λk p u hk hu=>?_⟩;rw[pL]at hk;simp only[bj,bh]at hk;obtain⟨q,hq,rfl⟩:=hk;exact⟨rv0 _ _ (e3 k q u hq hu).1,(e3 k q u hq hu).2⟩;rw[t0];refine eE λj=>?_;by_cases iI:j<J.length;have hj:=aS iI;obtain⟨x,k1,k2⟩:=hJ' j _ hj;rw[k2,bj,Jg j _ hj,<-bj,hr.tk];exact k1;rw[dp (by simp[QF];omega),dp ab];intro t ht lv;rw[w0];exact hr.tb t (BJ t (t0▸ht)) lv;rw[s0,<-N4];refine List.pairwise_map.2 (List.Pairwise.imp_of_mem ?_ hI);intro i i' hi lk js e;have l1:=U2 i hi;have l2:=U2 i' lk;simp only[ig,l1,l2]at e;exact js (uU hr.nd l1 l2 e);intro i j t t' hi hj lv kj e;rw[t0]at hi hj;have li:i<J.length:=(by rw[<-QF];exact(aR.1 hi).1);have lj:j<J.length:=(by rw[<-QF];exact(aR.1 hj).1);rw[Jg i _ (aS li)]at hi;rw[Jg j _ (aS lj)]at hj;exact uU hJ li lj (hr.td _ _ t t' hi hj lv kj e);intro t ht lv hb;exact hr.st t (BJ t (t0▸ht)) lv (Nc _ (s0▸hb))
  ·intro b p h;rw[w0];rcases(h0 b p).1 h with h|⟨h,_⟩|⟨t,ht,_,lv,e,_⟩|⟨t,ht,_,lv,e⟩
   exact hr.nu b p h;exact hr.pB b h;exact e▸hr.Bd ht lv;exact e▸hr.mlt t ht lv
  ·intro t ht lv p h;have kp:=BJ t (t0▸ht);rcases(h0 _ p).1 h with h|⟨h,_⟩|⟨t',yS,sw,kj,e,_⟩|⟨t',yS,sw,kj,e⟩
   exact hr.tG t kp lv p h;exact hr.st t kp lv h;exact sw (aaS t' yS t kp kj lv e▸(t0▸ht));exact hr.mt t' yS kj t kp lv e
  intro b hb;rw[w0];exact hr.pB b (Nc b (s0▸hb));intro j t o hj ho;rw[m0]at hj;have iI:j<L.length:=(by rw[<-Kc];exact(aR.1 hj).1);have wT:=aS iI;rw[H7 j _ wT]at hj;obtain⟨x,k1,k2⟩:=XL j _ wT;rw[k2]at ho;cases ho;exact aeU t o (hr.mu _ t o hj k1);intro i j t t' hi hj lv kj e;rw[m0]at hi hj;have li:i<L.length:=(by rw[<-Kc];exact(aR.1 hi).1);have lj:j<L.length:=(by rw[<-Kc];exact(aR.1 hj).1);rw[H7 i _ (aS li)]at hi;rw[H7 j _ (aS lj)]at hj;exact uU hL li lj (hr.md _ _ t t' hi hj lv kj e)
  ·intro t ht lv p h;have kp:=DM t (m0▸ht);rcases(h0 _ p).1 h with h|⟨h,_⟩|⟨t',yS,sw,kj,e,_⟩|⟨t',yS,sw,kj,e⟩
   exact hr.sW t kp lv p h;exact hr.ms t kp lv h;exact hr.mt t kp lv t' yS kj e.symm;exact sw (aaR t' yS t kp kj lv e▸(m0▸ht))
 have ajE:Xw c0 args vs:=by rw[<-ha,pL];refine⟨by simpa using I1.1,λi p u kD hu=>?_⟩;simp only[bj,bh]at kD;obtain⟨q,hq,rfl⟩:=kD;exact rv0 q u (I1.2 i q u hq hu)
 have zZ:=hp c0 vs aeV ajE;rw[w0]at zZ;refine zZ.mono λe w' ⟨v,H1,rv,c1,hR,he,yu,nV,qT,lI⟩=>?_;subst he;subst yu;obtain⟨n,hn,U5⟩:=qT.sig;rw[s0]at hn;rw[w0]at U5;have aos:c1.σ.drop I.length=n:=by rw[hn,<-Fz];simp
 have ahR:J.length<=c1.τ.length:=by
  by_cases hz:J.length=0;omega
  ·have hj:J.length-1<Cr.length:=ab
   obtain⟨t',kp,_⟩:=qT.tok (J.length-1) Cr[J.length-1] (by rw[t0];exact aS hj);have:=(aR.1 kp).1;omega
 generalize Rp:nJ c.τ J (c1.τ.take J.length)++c1.τ.drop J.length=G6;have Bj:∀t∈G6,t∈c1.τ∨(t∈c.τ∧(t.live=true->t∉Cr)):=by
  intro t ht;rw[<-Rp,bC]at ht;rcases ht with ht|ht
  obtain⟨k,hk⟩:=bt ht;by_cases Cs:k∈J;obtain⟨j,hj⟩:=bt Cs;have yT:j<J.length:=(aR.1 hj).1;have pS:j<c1.τ.length:=ab;have:(c1.τ.take J.length)[j]?=some c1.τ[j]:=(by rw[bq,aW yT];exact aS pS);rw[nR c.τ J _ hJ XM j k _ hj this]at hk;cases hk;exact .inl (bJ pS);rw[mP _ _ _ _ Cs]at hk;refine .inr ⟨aY hk,λlv hm=>Cs ?_⟩;obtain⟨j,hj⟩:=bt hm;have yT:j<J.length:=(by rw[<-QF];exact(aR.1 hj).1);have wT:=aS yT;rw[Jg j _ wT]at hj;have:=hr.td _ _ t t hk hj lv lv rfl;rw[this];exact bJ yT;exact .inl (fj ht)
 have aqW:L.length<=c1.μ.length:=by
  by_cases hz:L.length=0;omega
  ·have hj:L.length-1<Cq.length:=ab
   obtain⟨t',kp,_⟩:=qT.mu (L.length-1) Cq[L.length-1] (by rw[m0];exact aS hj);have:=(aR.1 kp).1;omega
 generalize Kd:nJ c.μ L (c1.μ.take L.length)++c1.μ.drop L.length=rk;have DN:∀t∈rk,t∈c1.μ∨(t∈c.μ∧(t.live=true->t∉Cq)):=by
  intro t ht;rw[<-Kd,bC]at ht;rcases ht with ht|ht
  obtain⟨k,hk⟩:=bt ht;by_cases Cs:k∈L;obtain⟨j,hj⟩:=bt Cs;have yT:j<L.length:=(aR.1 hj).1;have pS:j<c1.μ.length:=ab;have:(c1.μ.take L.length)[j]?=some c1.μ[j]:=(by rw[bq,aW yT];exact aS pS);rw[nR c.μ L _ hL Tm j k _ hj this]at hk;cases hk;exact .inl (bJ pS);rw[mP _ _ _ _ Cs]at hk;refine .inr ⟨aY hk,λlv hm=>Cs ?_⟩;obtain⟨j,hj⟩:=bt hm;have yT:j<L.length:=(by rw[<-Kc];exact(aR.1 hj).1);have wT:=aS yT;rw[H7 j _ wT]at hj;have:=hr.md _ _ t t hk hj lv lv rfl;rw[this];exact bJ yT;exact .inl (fj ht)
 have zw:c1.hid=c0.hid:=qT.hid;have st1:∀b p,c1.jq b p->Ctx.jq ⟨c.σ++n,G6,rk,c.hid,c1.w⟩ b p:=by
  rintro b p ⟨q1,q2,q3,q4⟩;rw[zw,h0]at q1;rw[hn]at q2;refine⟨λh=>q1 (.inl h),λhb=>?_,λt ht lv e=>?_,λt ht lv e=>?_⟩
  ·rcases bC.1 hb with hb|hb
   by_cases h2:b∈H8;exact q2 (fi _ h2);exact q1 (.inr (.inl ⟨hb,h2⟩));exact q2 (ed _ hb)
  ·rcases Bj t ht with ht|⟨h1,h2⟩
   exact q3 t ht lv e;exact cj λiI=>q1 (.inr (.inr (.inl ⟨t,h1,h2 lv,lv,e,iI⟩)))
  ·rcases DN t ht with ht|⟨h1,h2⟩
   exact q4 t ht lv e;exact q1 (.inr (.inr (.inr ⟨t,h1,h2 lv,lv,e⟩)))
 have Ke:∀b,b<c.w.heap.size->b∉H8->(∀t∈Cr,t.live=true->t.g≠b)->(∀t∈Cq,t.live=true->t.g≠b)->c1.w.heap[b]?=c.w.heap[b]? :=λb h1 h2 h3 h4=>by have:=qT.frame b (by rw[w0];exact h1) (by rw[s0];exact h2) (by rw[t0];exact h3) (by rw[m0];exact h4);rwa[w0]at this
 have aaT:kI c ⟨c.σ++n,G6,rk,c.hid,c1.w⟩:=by
  refine⟨by rw[<-w0];exact qT.os,by rw[<-w0];exact qT.tape,by rw[<-w0];exact qT.output,by rw[<-w0];exact qT.size,rfl,⟨n,rfl,U5⟩,?_,?_,?_,?_,?_,?_⟩;intro id t ht;by_cases hm:id∈J;obtain⟨j,hj⟩:=bt hm;have yT:j<J.length:=(aR.1 hj).1;obtain⟨t',e1,e2,e3,e4⟩:=qT.tok j t (by rw[t0,Jg j id hj];exact ht);refine⟨t',?_,e2,e3,e4⟩;show G6[id]?=some t';rw[<-Rp,a8 (by rw[je];exact(aR.1 ht).1)];exact nR c.τ J _ hJ XM j id t' hj (by rw[bq,aW yT];exact e1);refine⟨t,?_,rfl,rfl,.inl rfl⟩;show G6[id]?=some t;rw[<-Rp,a8 (by rw[je];exact(aR.1 ht).1),mP _ _ _ _ hm];exact ht;intro id t ht;by_cases hm:id∈L;obtain⟨j,hj⟩:=bt hm;have yT:j<L.length:=(aR.1 hj).1;obtain⟨t',e1,e2,e3⟩:=qT.mu j t (by rw[m0,H7 j id hj];exact ht);refine⟨t',?_,e2,e3⟩;show rk[id]?=some t';rw[<-Kd,a8 (by rw[je];exact(aR.1 ht).1)];exact nR c.μ L _ hL Tm j id t' hj (by rw[bq,aW yT];exact e1);refine⟨t,?_,rfl,.inl rfl⟩;show rk[id]?=some t;rw[<-Kd,a8 (by rw[je];exact(aR.1 ht).1),mP _ _ _ _ hm];exact ht
  ·intro t ht lv;rcases DN t ht with ht|⟨ht,_⟩
   ·rcases qT.sA t ht lv with⟨t1,h1,Jh,e⟩|h1
    exact .inl ⟨t1,DM t1 (m0▸h1),Jh,e⟩;rw[w0]at h1;exact .inr h1
   exact .inl ⟨t,ht,lv,rfl⟩
  ·intro t ht lv;rcases Bj t ht with ht|⟨ht,_⟩
   ·rcases qT.pq t ht lv with⟨t1,h1,Jh,e⟩|h1
    exact .inl ⟨t1,BJ t1 (t0▸h1),Jh,e⟩;rw[w0]at h1;exact .inr h1
   exact .inl ⟨t,ht,lv,rfl⟩
  intro a u Bt hs oc;obtain⟨k1,k2⟩:=qT.kF a u Bt (QG _ _ hs) (by rw[w0];exact oc);exact⟨k1,st1 _ _ k2⟩;intro b h1 h2 h3 h4;exact Ke b h1 (λhm=>h2 (Nc b hm)) (λt ht lv=>h3 t (BJ t ht) lv) (λt ht lv=>h4 t (DM t ht) lv)
 have rv1:∀p u,RV c1 p u->RV ⟨c.σ++n,G6,rk,c.hid,c1.w⟩ (rF (jw I H.bx.length) (jw J H.tk.length) (jw L H.mu.length) p) u:=by intro p u h;refine QD (c:=c1) (c1:=⟨c.σ++n,G6,rk,c.hid,c1.w⟩) rfl st1 (λb b' kh e hb=>?_) (λi i' t e ht=>?_) (λi i' t e ht=>?_) h;show(c.σ++n)[b']?=some kh;rw[hn]at hb;unfold jw at e;split at e;rename_i x hx;cases e;rw[a8 (by rw[Fz];exact(aR.1 hx).1),QE b _ hx]at hb;rw[a8 (U2 _ (aY hx))];exact hb;rename_i hx;cases e;have sC:I.length<=b:=fW.1 hx;rw[a7 (by rw[Fz];exact sC),Fz]at hb;rw[a7 (by rw[hr.len];omega),hr.len,show H.bx.length+(b-I.length)-H.bx.length=b-I.length by omega];exact hb;show G6[i']?=some t;rw[<-Rp];unfold jw at e;split at e;rename_i x hx;cases e;have hil:i<J.length:=(aR.1 hx).1;rw[a8 (by rw[je];exact XM _ (aY hx))];exact nR c.τ J _ hJ XM i _ t hx (by rw[bq,aW hil];exact ht);rename_i hx;cases e;have sC:J.length<=i:=fW.1 hx;rw[a7 (by rw[je,OH];omega),je,OH,bD,show J.length+(H.tk.length+(i-J.length)-H.tk.length)=i by omega];exact ht;show rk[i']?=some t;rw[<-Kd];unfold jw at e;split at e;rename_i x hx;cases e;have hil:i<L.length:=(aR.1 hx).1;rw[a8 (by rw[je];exact Tm _ (aY hx))];exact nR c.μ L _ hL Tm i _ t hx (by rw[bq,aW hil];exact ht);rename_i hx;cases e;have sC:L.length<=i:=fW.1 hx;rw[a7 (by rw[je,DL];omega),je,DL,bD,show L.length+(H.mu.length+(i-L.length)-H.mu.length)=i by omega];exact ht
 have sx:c1.σ.length=H1.bx.length:=nV.len;have rG:n.length=H1.bx.length-I.length:=by rw[<-sx,hn,bd,Fz];omega
 have Nd:∀b∈c.σ,b<c.w.heap.size:=hr.pB;have alH:∀t∈c.τ,t.live=true->t∉Cr->c1.w.heap[t.g]?=c.w.heap[t.g]? :=λt ht lv hnt=>
  Ke t.g (hr.Bd ht lv) (λhm=>hr.st t ht lv (Nc _ hm)) (λt' kp kj e=>hnt (aaS t' (BJ t' kp) t ht kj lv e▸kp)) (λt' kp kj e=>hr.mt t' (DM t' kp) kj t ht lv e)
 have ajF:∀t∈c.μ,t.live=true->t∉Cq->c1.w.heap[t.g]?=c.w.heap[t.g]? :=λt ht lv hnt=>
  Ke t.g (hr.mlt t ht lv) (λhm=>hr.ms t ht lv (Nc _ hm)) (λt' kp kj e=>hr.mt t ht lv t' (BJ t' kp) kj e.symm) (λt' kp kj e=>hnt (aaR t' (DM t' kp) t ht kj lv e▸kp))
 have ajG:∀t∈c1.μ,t.live=true->t.g∉c.σ:=by
  intro t ht lv hm;rcases qT.sA t ht lv with⟨t1,h1,Jh,e⟩|h1
  exact hr.ms t1 (DM t1 (m0▸h1)) Jh (e▸hm);rw[w0]at h1;have:=Nd _ hm;omega
 have alI:∀t∈c1.τ,t.live=true->t.g∉c.σ:=by
  intro t ht lv hm;rcases qT.pq t ht lv with⟨t1,h1,Jh,e⟩|h1
  exact hr.st t1 (BJ t1 (t0▸h1)) Jh (e▸hm);rw[w0]at h1;have:=Nd _ hm;omega
 refine⟨_,_,rv,⟨c.σ++n,G6,rk,c.hid,c1.w⟩,⟨v,H1,hR,rfl,rfl⟩,rfl,rfl,?_,aaT,rv1 _ _ lI⟩;refine⟨?_,?_,?_,?_,?_,?_,?_,?_,?_,?_,?_,?_,?_,?_,?_,?_,?_,?_,hr.gl.kF aaT.kF⟩;show(c.σ++n).length=_;simp[back,je,hr.len,rG]
 ·intro i b cs hb kR;replace hb:(c.σ++n)[i]?=some b:=hb;show ∃(jJ:Array Value) (T:TypeId),c1.w.heap[b]?=some (.cells jJ T (0,0))∧_;simp only[back]at kR;by_cases hi:i<c.σ.length
  ·rw[a8 hi]at hb;rw[a8 (by rw[je,<-hr.len];exact hi)]at kR;by_cases hm:i∈I
   ·obtain⟨j,hj⟩:=bt hm;have yT:j<I.length:=(aR.1 hj).1;have pS:j<H1.bx.length:=(by rw[<-sx,hn,bd,Fz];omega);have hat:((H1.bx.take I.length).map (pa (jw I H.bx.length) (jw J H.tk.length) (jw L H.mu.length)))[j]?=some (pa (jw I H.bx.length) (jw J H.tk.length) (jw L H.mu.length) H1.bx[j]):=by
     rw[bj,bq,aW yT,aS pS];rfl
    rw[nR H.bx I _ hI (λi hi=>by rw[<-hr.len];exact U2 i hi) j i _ hj hat]at kR;cases kR;have ri:c1.σ[j]?=some b:=(by rw[hn,a8 (by rw[Fz];exact yT),QE j i hj];exact hb);obtain⟨jJ,T,e1,e2,e3⟩:=nV.bx j b _ ri (aS pS);refine⟨jJ,T,e1,by rw[pL];simpa using e2,λk p u hk hu=>?_⟩;rw[pL]at hk;simp only[bj,bh]at hk;obtain⟨q,hq,rfl⟩:=hk;exact⟨rv1 _ _ (e3 k q u hq hu).1,(e3 k q u hq hu).2⟩
   ·rw[mP _ _ _ _ hm]at kR;obtain⟨jJ,T,e1,e2,e3⟩:=hr.bx i b cs hb kR;have hnb:b∉H8:=λhmb=>by
     obtain⟨j,hj⟩:=bt hmb;have yT:j<I.length:=(by rw[<-Fz];exact(aR.1 hj).1);have wT:=aS yT;rw[QE j _ wT]at hj;have:=(List.getElem?_inj hi hr.nd).1 (hb.trans hj.symm);exact hm (this▸bJ yT)
    have hbm:b∈c.σ:=aY hb;refine⟨jJ,T,?_,e2,λk p u hk hu=>⟨(e3 k p u hk hu).1.mono aaT,(e3 k p u hk hu).2⟩⟩;rw[Ke b (Nd b hbm) hnb (λt ht lv e=>hr.st t (BJ t ht) lv (e▸hbm)) (λt ht lv e=>hr.ms t (DM t ht) lv (e▸hbm))];exact e1
  ·rw[a7 ab]at hb;rw[a7 (by rw[je,<-hr.len];omega),je,<-hr.len]at kR;simp only[bj,bD,bh]at kR;obtain⟨cs',alJ,rfl⟩:=kR;have ri:c1.σ[I.length+(i-c.σ.length)]?=some b:=by
    rw[hn,a7 (by rw[Fz];omega),Fz,show I.length+(i-c.σ.length)-I.length=i-c.σ.length by omega];exact hb
   obtain⟨jJ,T,e1,e2,e3⟩:=nV.bx _ b _ ri alJ;refine⟨jJ,T,e1,by rw[pL];simpa using e2,λk p u hk hu=>?_⟩;rw[pL]at hk;simp only[bj,bh]at hk;obtain⟨q,hq,rfl⟩:=hk;have:=e3 k q u hq hu;rw[<-hr.len]at rv1;exact⟨rv1 _ _ this.1,this.2⟩
 ·show G6.map (λt=>(t.e,t.hw))=_;rw[<-Rp];have key:∀(l:List Tok) (J:List Nat) (xs:List Tok),(nJ l J xs).map (λt=>(t.e,t.hw))=nJ (l.map (λt=>(t.e,t.hw))) J (xs.map (λt=>(t.e,t.hw))):=by
   intro l J;induction J generalizing l with
   |nil=>intro xs;simp[nJ]
   |cons i J ih=>
    intro xs;cases xs with
    |nil=>simp[nJ]|cons x xs=>simp only[nJ,dx,ih];rw[iC]
  simp only[back,eU,key,hr.tk,gf,List.map_drop,nV.tk]
 ·intro t ht lv;rcases Bj t ht with ht|⟨h1,h2⟩
  exact nV.tb t ht lv;obtain⟨cur,e1,e2⟩:=hr.tb t h1 lv;exact⟨cur,(alH t h1 lv (h2 lv)).trans e1,e2⟩
 refine gZ.2 ⟨hr.nd,?_,λa ha b hb e=>?_⟩;have:=nV.nd;rw[hn]at this;exact(gZ.1 this).2.1;have:=Nd a ha;have:=U5 b hb;omega
 ·have Nf:∀t∈c1.τ,∀t'∈c.τ,t.live=true->t'.live=true->t'∉Cr->t.g≠t'.g:=by
   intro t ht t' kp lv kj hnt e;rcases qT.pq t ht lv with⟨t1,h1,Jh,e1⟩|h1
   have Kf:t1∈Cr:=t0▸h1;exact hnt (aaS t1 (BJ t1 Kf) t' kp Jh kj (e1.trans e)▸Kf);rw[w0]at h1;have:=hr.Bd kp kj;omega
  have Ng:∀(k:Nat) (t:Tok),k∉J->c.τ[k]?=some t->t.live=true->t∉Cr:=by intro k t Cs hk lv XN;obtain⟨q,hq⟩:=bt XN;have vd:q<J.length:=(by rw[<-QF];exact(aR.1 hq).1);rw[Jg q _ (aS vd)]at hq;have:=hr.td _ _ t t hk hq lv lv rfl;exact Cs (this▸bJ vd)
  have look:∀k,k<G6.length->(∃m,m<c1.τ.length∧G6[k]?=c1.τ[m]? ∧((∃hk:k∈J,J[m]?=some k)∨(c.τ.length<=k∧m=J.length+(k-c.τ.length))))∨(k<c.τ.length∧k∉J∧G6[k]?=c.τ[k]?):=by intro k hk;rw[<-Rp]at hk⊢;by_cases XO:k<c.τ.length;rw[a8 (by rw[je];exact XO)];by_cases Cs:k∈J;obtain⟨m,hm⟩:=bt Cs;have DL:m<J.length:=(aR.1 hm).1;have tN:m<c1.τ.length:=ab;refine .inl ⟨m,tN,?_,.inl ⟨Cs,hm⟩⟩;have:(c1.τ.take J.length)[m]?=some c1.τ[m]:=(by rw[bq,aW DL];exact aS tN);rw[nR c.τ J _ hJ XM m k _ hm this,aS tN];exact .inr ⟨XO,Cs,mP _ _ _ _ Cs⟩;rw[a7 (by rw[je];omega),je,bD];refine .inl ⟨J.length+(k-c.τ.length),?_,rfl,.inr ⟨by omega,rfl⟩⟩;simp[je]at hk;omega
  intro i j t t' hi hj lv kj e;replace hi:G6[i]?=some t:=hi;replace hj:G6[j]?=some t':=hj;rcases look i (aR.1 hi).1 with⟨m,hm,e1,d1⟩|⟨BG,G7,e1⟩<;>rcases look j (aR.1 hj).1 with⟨m',Oh,e2,d2⟩|⟨pS,sO,e2⟩
  ·have:=nV.td m m' t t' (e1▸hi) (e2▸hj) lv kj e;subst this;rcases d1 with⟨_,d1⟩|⟨g1,d1⟩<;>rcases d2 with⟨_,d2⟩|⟨g2,d2⟩
   rw[d1]at d2;cases d2;rfl;have:=(aR.1 d1).1;omega;have:=(aR.1 d2).1;omega;omega
  exact absurd e (Nf t (aY (e1▸hi)) t' (aY (e2▸hj)) lv kj (Ng j t' sO (e2▸hj) kj));exact absurd e.symm (Nf t' (aY (e2▸hj)) t (aY (e1▸hi)) kj lv (Ng i t G7 (e1▸hi) lv));exact hr.td i j t t' (e1▸hi) (e2▸hj) lv kj e
 ·intro t ht lv hb;replace hb:t.g∈c.σ++n:=hb;rcases Bj t ht with h1|⟨h1,h2⟩
  ·rcases bC.1 hb with hb|hb
   exact alI t h1 lv hb;exact nV.st t h1 lv (by rw[hn];exact ed _ hb)
  ·rcases bC.1 hb with hb|hb
   exact hr.st t h1 lv hb;have:=U5 _ hb;have:=hr.Bd h1 lv;omega
 intro b p h;have:=hr.nu b p h;have kl:=qT.size;rw[w0]at kl;show b<c1.w.heap.size;omega
 ·intro t ht lv p h;replace h:c.hid t.g p:=h;rcases Bj t ht with h1|⟨h1,_⟩
  exact nV.tG t h1 lv p (by rw[zw,h0];exact .inl h);exact hr.tG t h1 lv p h
 ·intro b hb;show b<c1.w.heap.size;rcases bC.1 hb with hb|hb
  have:=Nd b hb;have kl:=qT.size;rw[w0]at kl;omega;exact nV.pB b (by rw[hn];exact ed _ hb)
 ·intro t ht lv;rcases Bj t ht with h1|⟨h1,_⟩
  exact nV.dead t h1 lv;exact hr.dead t h1 lv
 show rk.length=_;have:=nV.nq;simp only[back,<-Kd,bd,je,eY,DL,this]
 ·intro i t o hi ho;replace hi:rk[i]?=some t:=hi;simp only[back]at ho;have ahU:∀t o,yO P c1 t o->yO P ⟨c.σ++n,G6,rk,c.hid,c1.w⟩ t o:=by
   intro t o h;have hg:∀g v,RG c1.w c1.jq g v->RG c1.w (Ctx.jq ⟨c.σ++n,G6,rk,c.hid,c1.w⟩) g v:=λg v h=>h.mono λa u _ hs hc=>⟨hc,st1 _ _ hs⟩;cases o with
   |gone n=>exact h
   |arr n e es=>
    obtain⟨a1,a2,a3,a4⟩:=h;refine⟨a1,a2,a3,a4.imp id ?_⟩;rintro⟨lv,cur,b1,b2,b3,b4,b5,b6⟩;exact⟨lv,cur,b1,b2,b3,b4,b5,λi x j g v hx sX hv=>⟨hg _ _ (b6 i x j g v hx sX hv).1,(b6 i x j g v hx sX hv).2⟩⟩
   |map es=>
    obtain⟨a1,lv,n5,o8,hp,b1,b2,b3⟩:=h;exact⟨a1,lv,n5,o8,hp,b1,b2,λi k v n hk hn=>⟨hg _ _ (b3 i k v n hk hn).1,hg _ _ (b3 i k v n hk hn).2.1,(b3 i k v n hk hn).2.2⟩⟩
   |iter n s pos=>exact h
  by_cases hil:i<c.μ.length;rw[<-Kd,a8 (by rw[je];exact hil)]at hi;rw[a8 (by rw[je,<-DL];exact hil)]at ho;by_cases hm:i∈L;obtain⟨j,hj⟩:=bt hm;have yT:j<L.length:=(aR.1 hj).1;have pS:j<c1.μ.length:=ab;have sO:j<H1.mu.length:=(by rw[<-nV.nq];exact pS);rw[nR c.μ L _ hL Tm j i c1.μ[j] hj (by rw[bq,aW yT];exact aS pS)]at hi;rw[nR H.mu L _ hL (λi hi=>by rw[<-DL];exact Tm i hi) j i H1.mu[j] hj (by rw[bq,aW yT];exact aS sO)]at ho;cases hi;cases ho;exact ahU _ _ (nV.mu j _ _ (aS pS) (aS sO));rw[mP _ _ _ _ hm]at hi ho;refine(hr.mu i t o hi ho).mono aaT λlv=>ajF t (aY hi) lv λXN=>hm ?_;obtain⟨q,hq⟩:=bt XN;have vd:q<L.length:=(by rw[<-Kc];exact(aR.1 hq).1);rw[H7 q _ (aS vd)]at hq;have:=hr.md _ _ t t hi hq lv lv rfl;rw[this];exact bJ vd;rw[<-Kd,a7 (by rw[je];omega),je,bD]at hi;rw[a7 (by rw[je,<-DL];omega),je,bD,<-DL]at ho;exact ahU _ _ (nV.mu _ t o hi ho)
 ·intro t ht lv;show t.g<c1.w.heap.size;rcases DN t ht with h1|⟨h1,_⟩
  exact nV.mlt t h1 lv;have:=hr.mlt t h1 lv;have kl:=qT.size;rw[w0]at kl;omega
 ·have Nf:∀t∈c1.μ,∀t'∈c.μ,t.live=true->t'.live=true->t'∉Cq->t.g≠t'.g:=by
   intro t ht t' kp lv kj hnt e;rcases qT.sA t ht lv with⟨t1,h1,Jh,e1⟩|h1
   have Kf:t1∈Cq:=m0▸h1;exact hnt (aaR t1 (DM t1 Kf) t' kp Jh kj (e1.trans e)▸Kf);rw[w0]at h1;have:=hr.mlt t' kp kj;omega
  have Ng:∀(k:Nat) (t:oZ),k∉L->c.μ[k]?=some t->t.live=true->t∉Cq:=by intro k t Cs hk lv XN;obtain⟨q,hq⟩:=bt XN;have vd:q<L.length:=(by rw[<-Kc];exact(aR.1 hq).1);rw[H7 q _ (aS vd)]at hq;have:=hr.md _ _ t t hk hq lv lv rfl;exact Cs (this▸bJ vd)
  have look:∀k,k<rk.length->(∃m,m<c1.μ.length∧rk[k]?=c1.μ[m]? ∧((∃hk:k∈L,L[m]?=some k)∨(c.μ.length<=k∧m=L.length+(k-c.μ.length))))∨(k<c.μ.length∧k∉L∧rk[k]?=c.μ[k]?):=by intro k hk;rw[<-Kd]at hk⊢;by_cases XO:k<c.μ.length;rw[a8 (by rw[je];exact XO)];by_cases Cs:k∈L;obtain⟨m,hm⟩:=bt Cs;have DL:m<L.length:=(aR.1 hm).1;have tN:m<c1.μ.length:=ab;refine .inl ⟨m,tN,?_,.inl ⟨Cs,hm⟩⟩;have:(c1.μ.take L.length)[m]?=some c1.μ[m]:=(by rw[bq,aW DL];exact aS tN);rw[nR c.μ L _ hL Tm m k _ hm this,aS tN];exact .inr ⟨XO,Cs,mP _ _ _ _ Cs⟩;rw[a7 (by rw[je];omega),je,bD];refine .inl ⟨L.length+(k-c.μ.length),?_,rfl,.inr ⟨by omega,rfl⟩⟩;simp[je]at hk;omega
  intro i j t t' hi hj lv kj e;replace hi:rk[i]?=some t:=hi;replace hj:rk[j]?=some t':=hj;rcases look i (aR.1 hi).1 with⟨m,hm,e1,d1⟩|⟨BG,G7,e1⟩<;>rcases look j (aR.1 hj).1 with⟨m',Oh,e2,d2⟩|⟨pS,sO,e2⟩
  ·have:=nV.md m m' t t' (e1▸hi) (e2▸hj) lv kj e;subst this;rcases d1 with⟨_,d1⟩|⟨g1,d1⟩<;>rcases d2 with⟨_,d2⟩|⟨g2,d2⟩
   rw[d1]at d2;cases d2;rfl;have:=(aR.1 d1).1;omega;have:=(aR.1 d2).1;omega;omega
  exact absurd e (Nf t (aY (e1▸hi)) t' (aY (e2▸hj)) lv kj (Ng j t' sO (e2▸hj) kj));exact absurd e.symm (Nf t' (aY (e2▸hj)) t (aY (e1▸hi)) kj lv (Ng i t G7 (e1▸hi) lv));exact hr.md i j t t' (e1▸hi) (e2▸hj) lv kj e
 ·intro t ht lv hb;replace hb:t.g∈c.σ++n:=hb;rcases DN t ht with h1|⟨h1,h2⟩
  ·rcases bC.1 hb with hb|hb
   exact ajG t h1 lv hb;exact nV.ms t h1 lv (by rw[hn];exact ed _ hb)
  ·rcases bC.1 hb with hb|hb
   exact hr.ms t h1 lv hb;have:=U5 _ hb;have:=hr.mlt t h1 lv;omega
 ·intro t ht lv t' kp kj e;rcases DN t ht with h1|⟨h1,h2⟩<;>rcases Bj t' kp with k1|⟨k1,k2⟩
  exact nV.mt t h1 lv t' k1 kj e
  ·rcases qT.sA t h1 lv with⟨t1,q1,Jh,e1⟩|q1
   exact hr.mt t1 (DM t1 (m0▸q1)) Jh t' k1 kj (e1.trans e);rw[w0]at q1;have:=hr.Bd k1 kj;omega
  ·rcases qT.pq t' k1 kj with⟨t1,q1,Jh,e1⟩|q1
   exact hr.mt t h1 lv t1 (BJ t1 (t0▸q1)) Jh (e.trans e1.symm);rw[w0]at q1;have:=hr.mlt t h1 lv;omega
  exact hr.mt t h1 lv t' k1 kj e
 ·intro t ht lv p h;replace h:c.hid t.g p:=h;rcases DN t ht with h1|⟨h1,_⟩
  exact nV.sW t h1 lv p (by rw[zw,h0];exact .inl h);exact hr.sW t h1 lv p h
variable{H1:PH}
def YZ{v:PV}(hp:PC P f args H0 v H1)(hI:I.Nodup)(hJ:J.Nodup)(hL:L.Nodup)(hIl:H0.bx.length=I.length)
  (uA:∀(j i:Nat),I[j]?=some i->∃cs,H.bx[i]?=some cs∧H0.bx[j]?=some (pa (posOf I) (posOf J) (posOf L) cs))
  (hJl:H0.tk.length=J.length) (hJ':∀(j i:Nat),J[j]?=some i->∃x,H.tk[i]?=some x∧H0.tk[j]?=some x)
  (hLl:H0.mu.length=L.length) (XL:∀(j i:Nat),L[j]?=some i->∃x,H.mu[i]?=some x∧H0.mu[j]?=some x) (ha:pa (posOf I) (posOf J) (posOf L) Ro=args):
  PC P f Ro H (rF (jw I H.bx.length) (jw J H.tk.length) (jw L H.mu.length) v) (back I J L H H1):=
 (Kb hp.x hI hJ hL hIl uA hJl hJ' hLl XL ha).one λa b ⟨v',H1',⟨e1,e2⟩,e3,e4⟩=>by subst e1;subst e2;exact⟨e3,e4⟩
section
variable{P:Program}{c:Ctx}{H:PH}
variable{t:Tok}{w':World}
def Rel.af2(hr:Rel P c H){id:Nat}{t':Tok}(ht:c.τ[id]?=some t)(he:t'.e=t.e)(kl:t'.size=t.size)(iI:t.hw<t'.hw)(MS:t'.live=true)
  (hos:w'.os=c.w.os) (W6:w'.tape=c.w.tape∧(xv->c.w.drawn<=w'.drawn)) (aeP:w'.output=c.w.output) (wY:c.w.heap.size<=w'.heap.size)
  (hblk:∀b,b<c.w.heap.size->(t.live=true->b≠t.g)->w'.heap[b]?=c.w.heap[b]?)
  (alK:t.live=true->∀k,k<t.hw*t.size->w'.cell? ⟨t.g,k,none⟩=c.w.cell? ⟨t.g,k,none⟩)
  (hg:(t.live=true∧t'.g=t.g)∨c.w.heap.size<=t'.g)
  (htb:∃cur,w'.heap[t'.g]?=some (.cells cur t'.e (0,0))∧cur.size=t'.cap*t'.size∧t'.hw<=t'.cap∧t'.cap<=maxLen∧(P.info? t'.e).map (·.size)=some t'.size):
  Rel P ⟨c.σ,c.τ.set id t',c.μ,c.hid,w'⟩ ⟨H.bx,H.tk.set id (t'.e,t'.hw),H.mu⟩∧kI c ⟨c.σ,c.τ.set id t',c.μ,c.hid,w'⟩:=by
 have hid:=(aR.1 ht).1;have su:=aY ht;have qz:∀t2∈c.τ.set id t',t2=t'∨∃k,k≠id∧c.τ[k]?=some t2:=by intro t2 h2;obtain⟨k,hk⟩:=bt h2;by_cases e:k=id;subst e;rw[bZ hid]at hk;cases hk;exact .inl rfl;rw[bP (λe'=>e e'.symm)]at hk;exact .inr ⟨k,e,hk⟩
 have hE:kI c ⟨c.σ,c.τ.set id t',c.μ,c.hid,w'⟩:=by
  refine⟨hos,W6,aeP,wY,rfl,⟨[],by simp,by simp⟩,?_,λid t ht=>⟨t,ht,rfl,.inl rfl⟩,λt ht lv=>.inl ⟨t,ht,lv,rfl⟩,?_,?_,?_⟩;intro k t2 h2;by_cases e:k=id;subst e;rw[ht]at h2;cases h2;exact⟨t',by simp[hid],kl,he,.inr iI⟩;exact⟨t2,by show(c.τ.set id t')[k]?=_;rw[bP (λe'=>e e'.symm)];exact h2,rfl,rfl,.inl rfl⟩
  ·intro t2 h2 lv;rcases qz t2 h2 with rfl|⟨k,hk,n9⟩
   ·rcases hg with⟨l1,g1⟩|g1
    exact .inl ⟨t,su,l1,g1.symm⟩;exact .inr g1
   exact .inl ⟨t2,aY n9,lv,rfl⟩
  ·intro a v Bt hs oc;have lr:=World.block_lt_of_cell? c.w a oc;refine⟨?_,hs.1,hs.2.1,λt2 h2 lv e=>?_,hs.2.2.2⟩;by_cases e:t.live=true∧a.block=t.g;have hp:=hs.2.2.1 t su e.1 e.2.symm;have ha:a=⟨t.g,a.off,none⟩:=(by cases a;simp_all);rw[<-oc,ha];exact alK e.1 _ hp;rw[<-oc];exact World.cell?_of_block (hblk a.block lr λl e'=>e ⟨l,e'⟩)
   ·rcases qz t2 h2 with rfl|⟨k,hk,n9⟩
    ·rcases hg with⟨l1,g1⟩|g1
     have hp:=hs.2.2.1 t su l1 (g1.symm.trans e);rw[kl];exact bX hp (bg _ ab);omega
    exact hs.2.2.1 t2 (aY n9) lv e
  intro b hb _ h3 _;exact hblk b hb λl e=>h3 t su l e.symm
 have hσ:∀b∈c.σ,w'.heap[b]?=c.w.heap[b]? :=λb hb=>hblk b (hr.pB b hb) λl e=>hr.st t su l (e▸hb);have oI:∀k t2,k≠id->c.τ[k]?=some t2->t2.live=true->w'.heap[t2.g]?=c.w.heap[t2.g]? :=λk t2 hk n9 lv=>
  hblk t2.g (hr.Bd (aY n9) lv) λl e=>hk (hr.td k id t2 t n9 ht lv l e)
 refine⟨⟨hr.len,?_,?_,?_,hr.nd,?_,?_,λb p h=>bX (hr.nu b p h) wY,?_,λb hb=>bX (hr.pB b hb) wY,?_,hr.nq,?_,λt ht lv=>bX (hr.mlt t ht lv) wY,hr.md,hr.ms,?_,hr.sW,hr.gl.kF hE.kF⟩,hE⟩;intro i b cs hb kR;obtain⟨jJ,T,e1,e2,e3⟩:=hr.bx i b cs hb kR;exact⟨jJ,T,(hσ b (aY hb)).trans e1,e2,λj p v hp hv=>⟨(e3 j p v hp hv).1.mono hE,(e3 j p v hp hv).2⟩⟩;show(c.τ.set id t').map _=H.tk.set id _;rw[iC,hr.tk]
 ·intro t2 h2 lv;rcases qz t2 h2 with rfl|⟨k,hk,n9⟩
  exact htb;obtain⟨cur,e1,e2⟩:=hr.tb t2 (aY n9) lv;exact⟨cur,(oI k t2 hk n9 lv).trans e1,e2⟩
 ·intro i j t1 t2 hi hj l1 l2 e;replace hi:(c.τ.set id t')[i]?=some t1:=hi;replace hj:(c.τ.set id t')[j]?=some t2:=hj;by_cases ei:i=id<;>by_cases ej:j=id;omega
  ·subst ei;rw[bZ hid]at hi;rw[bP (λe'=>ej e'.symm)]at hj;cases hi;rcases hg with⟨lv,g1⟩|g1
   exact hr.td _ j t t2 ht hj lv l2 (g1.symm.trans e);have:=hr.Bd (aY hj) l2;omega
  ·subst ej;rw[bZ hid]at hj;rw[bP (λe'=>ei e'.symm)]at hi;cases hj;rcases hg with⟨lv,g1⟩|g1
   exact hr.td i _ t1 t hi ht l1 lv (e.trans g1);have:=hr.Bd (aY hi) l1;omega
  rw[bP (λe'=>ei e'.symm)]at hi;rw[bP (λe'=>ej e'.symm)]at hj;exact hr.td i j t1 t2 hi hj l1 l2 e
 ·intro t2 h2 lv hm;rcases qz t2 h2 with rfl|⟨k,hk,n9⟩
  ·rcases hg with⟨l1,g1⟩|g1
   exact hr.st t su l1 (g1▸hm);have:=hr.pB _ hm;omega
  exact hr.st t2 (aY n9) lv hm
 ·intro t2 h2 lv p hp;rcases qz t2 h2 with rfl|⟨k,hk,n9⟩
  ·rcases hg with⟨l1,g1⟩|g1
   exact hr.tG t su l1 p (g1▸hp);have:=hr.nu _ _ hp;omega
  exact hr.tG t2 (aY n9) lv p hp
 ·intro t2 h2 lv;rcases qz t2 h2 with rfl|⟨k,hk,n9⟩
  rw[MS]at lv;cases lv;exact hr.dead t2 (aY n9) lv
 intro i t2 o h2 ho;have hm:=aY h2;exact(hr.mu i t2 o h2 ho).mono hE λlv=>hblk _ (hr.mlt t2 hm lv) λl e=>hr.mt t2 hm lv t su l e
 ·intro t2 h2 lv t3 h3 S5 e;rcases qz t3 h3 with rfl|⟨k,hk,n9⟩
  ·rcases hg with⟨l1,g1⟩|g1
   exact hr.mt t2 h2 lv t su l1 (e.trans g1);have:=hr.mlt t2 h2 lv;omega
  exact hr.mt t2 h2 lv t3 (aY n9) S5 e
end
def sF(P:Program)(t:TypeId):Option Nat:=(P.info? t).map (·.bytes)
section
variable{P:Program}{o:Oper}{ρ:Operand->PV}{H:PH}
def py(w:World){t ty e:TypeId}{i:TypeInfo}(ht:P.underlying t=some (.slice e))(hi:P.info? e=some i)(b:Option Addr)(n c:Nat)(h:n<=c)(hb:b=none∨∃g,b=some g)(x:Value)(hx:x=.slice none 0 0∨∃a c',x=.slice (some a) 0 c'):
  (Builtin.append_ #[t,t] ty #[.slice b n c,x]).run P w=.ok (.slice b n c) w:=by
 rcases hx with rfl|⟨a,c',rfl⟩
 ·cases b with
  |none=>simp[Builtin.append_,run_underlying ht,sizeOf,typeInfo,hi,Builtin.lenOf,h,Builtin.firstCells]|some g=>simp[Builtin.append_,run_underlying ht,sizeOf,typeInfo,hi,Builtin.lenOf,h,Builtin.firstCells,storeCells]
 ·have hf:(Builtin.firstCells i.size 0 (.slice (some a) 0 c')).run P w=.ok #[] w:=by
   have:=run_firstCells_some (P:=P) w i.size 0 a 0 c' [] aa aa;simpa using this
  cases b with
  |none=>simp[Builtin.append_,run_underlying ht,sizeOf,typeInfo,hi,Builtin.lenOf,h,hf]|some g=>simp[Builtin.append_,run_underlying ht,sizeOf,typeInfo,hi,Builtin.lenOf,h,hf,storeCells]
variable{kh size cap:Nat}{cur:Array Value}{es xs:List GV}
def FA{e:TypeId}{olds news rest:List Value}(hb:w.heap[kh]?=some (.cells cur e (0,0)))
  (ug:cur=(olds++news++rest).toArray) (lo:olds.length=es.length*size) (ln:news.length=xs.length*size)
  (G4:∀x∈es,x.cells.length=size) (vJ:∀x∈xs,x.cells.length=size) (hc:es.length+xs.length<=cap) (hm:cap<=maxLen) (hS:∀p,p<(es.length+xs.length)*size->S kh p)
  (ho:∀(i:Nat) (x:GV) (j:Nat) (g:GV) (v:Value),es[i]?=some x->x.cells[j]?=some g->olds[i*size+j]?=some v->RG w S g v)
  (hn:∀(i:Nat) (x:GV) (j:Nat) (g:GV) (v:Value),xs[i]?=some x->x.cells[j]?=some g->news[i*size+j]?=some v->RG w S g v)
  (XP:∀v∈olds,v.oneCell'=true) (rZ:∀v∈news,v.oneCell'=true):
  RG w S (.sl (es++xs)) (.slice (some ⟨kh,0,none⟩) (es.length+xs.length) cap):=by
 have hlen:(es++xs).length=es.length+xs.length:=aa
 have hmul:(es.length+xs.length)*size=olds.length+news.length:=by rw[lo,ln,bB]
 have mC:∀(i:Nat) (x:GV),(es++xs)[i]?=some x->x.cells.length=size:=λi x hx=>by
  rcases bC.1 (aY hx)with h|h
  exact G4 x h;exact vJ x h
 have:=Ka (es:=es++xs) (size:=size) (cap:=cap) (S:=S) hb mC (by rw[hlen];exact hc) hm (by rw[hlen,hmul,ug];simp) (by rw[hlen];exact hS) (λk hk=>?_) (λi x j g v hx hg hv=>?_);rw[hlen]at this;exact this
 ·rw[hlen,hmul]at hk;rw[ug];simp only[dV];rw[a8 ad];have yt:k<(olds++news).length:=by simp;omega
  refine⟨(olds++news)[k],aS yt,?_⟩;rcases bC.1 (bJ yt)with h|h
  exact XP _ h;exact rZ _ h
 ·have hj:j<size:=by rw[<-mC i x hx];exact(aR.1 hg).1
  have hi:=(aR.1 hx).1;rw[hlen]at hi;rw[ug]at hv;simp only[dV]at hv;have iI:i*size+j<olds.length+news.length:=by
   rw[<-hmul];calc i*size+j<i*size+size:=ab
    _=(i+1)*size:=by rw[bB,c8]
    _<=_:=bg _ hi
  rw[a8 ad]at hv;by_cases h1:i<es.length
  ·rw[a8 h1]at hx;have vy:i*size+j<olds.length:=by
    rw[lo];calc i*size+j<i*size+size:=ab
     _=(i+1)*size:=by rw[bB,c8]
     _<=_:=bg _ h1
   rw[a8 vy]at hv;exact ho i x j g v hx hg hv
  ·rw[a7 ab]at hx;have sC:olds.length<=i*size+j:=by
    rw[lo];exact b8 (bg _ ab) (gp _ _)
   rw[a7 sC]at hv;refine hn (i-es.length) x j g v hx hg ?_;rw[<-hv];congr 1;rw[lo,Nat.sub_mul];have:=bg size (show es.length<=i by omega);omega
def rQ{u:Value}(h:RG w S (.sl xs) u)(vJ:∀x∈xs,x.cells.length=size)(js:xs≠[]):
  ∃(a:Addr) (cap:Nat) (news:List Value),u=.slice (some a) xs.length cap∧news.length=xs.length*size∧(∀j v,news[j]?=some v->w.cell? (a.add j)=some v)∧(∀v∈news,v.oneCell'=true)∧
   ∀(i:Nat) (x:GV) (j:Nat) (g:GV) (v:Value),xs[i]?=some x->x.cells[j]?=some g->news[i*size+j]?=some v->RG w S g v:=by
 cases h with
 |nil=>exact absurd rfl js
 |sl _ a cap wy f ha hc hm hs hf hh=>
  have kl:wy=size:=by
   obtain⟨x,hx⟩:∃x,xs[0]?=some x:=by
    cases xs with
    |nil=>exact absurd rfl js|cons x r=>exact⟨x,rfl⟩
   rw[<-hs 0 x hx,vJ x (aY hx)]
  subst kl;refine⟨a,cap,(List.range (xs.length*wy)).map f,rfl,by simp,λj v hv=>?_,λv hv=>?_,λi x j g v hx hg hv=>?_⟩;simp only[bj,bh]at hv;obtain⟨k,hk,rfl⟩:=hv;obtain⟨h1,rfl⟩:=aR.1 hk;rw[eT];exact(hf j (by simpa using h1)).1;obtain⟨k,hk,rfl⟩:=cH.1 hv;exact(hf k (by simpa using hk)).2.2;simp only[bj,bh]at hv;obtain⟨k,hk,rfl⟩:=hv;obtain⟨h1,rfl⟩:=aR.1 hk;rw[eT];exact hh i x j g hx hg
def Az{x y:Operand}{t e:TypeId}{es xs:List GV}{id n size bytes:Nat}{z:Value}(ho:o.op=.call {callee:=.builtin .append,args:=⟨[x,y]⟩,argTypes:=⟨[t,t]⟩})
  (ht:P.underlying t=some (.slice e)) (hs:kZ P e=some size) (yv:sF P e=some bytes) (hz:my P e=some z) (sP:Nat.beq z.cells.size size=true) (hx:ρ x=.own es id) (hy:elems (ρ y)=some xs)
  (hk:H.tk[id]?=some (e,n)) (hn:es.length=n) (vJ:∀x∈xs,x.cells.length=size) (mK:(n+xs.length)*bytes<=140737488355328) (se:n+xs.length<=maxLen):
  PO P o ρ H (.own (es++xs) id) ⟨H.bx,H.tk.set id (e,n+xs.length),H.mu⟩:=by
 intro c ρr hr oH;subst hn;have sP:=bl sP;have kf:=oH x (by simp[ho,Op.operands,Call.operands]);have pD:=tv (oH y (by simp[ho,Op.operands,Call.operands])) hy;rw[hx]at kf;obtain⟨i,hi,U6⟩:∃i,P.info? e=some i∧i.size=size:=by unfold kZ at hs;simpa using hs
 have U7:i.bytes=bytes:=by unfold sF at yv;rw[hi]at yv;simpa using yv
 have QH:i.zero=some z:=by unfold my at hz;rw[hi]at hz;simpa using hz
 subst U6;subst U7
 generalize zd:ρr x=v at kf;generalize Kg:ρr y=u at pD;cases kf with
 |own _ _ _ tk Ji lR kl hle hv=>
 have ahV:(tk.e,tk.hw)=(e,es.length):=by
  have:=hr.tk;have h1:(c.τ.map (λt=>(t.e,t.hw)))[id]?=some (tk.e,tk.hw):=by simp[lR]
  rw[this,hk]at h1;exact(cE h1).symm
 have U8:tk.e=e:=aT Prod.fst ahV;have hhw:tk.hw=es.length:=aT Prod.snd ahV;have pQ:(execOp ρr o).run P c.w=((Builtin.append_ #[t,t] o.type #[v,u]).run P c.w).andThen λr w=>.ok (.value r) w:=by simp[execOp,ho,resolve,invoke,builtin,zd,Kg]
 unfold kU;rw[pQ];have hid:=(aR.1 lR).1;by_cases js:xs=[]
 ·-- nothing is appended
  subst js;have hu:u=.slice none 0 0∨∃a c',u=.slice (some a) 0 c':=by
   cases pD with
   |nil=>exact .inl rfl|sl _ a cap=>exact .inr ⟨a,cap,rfl⟩
  have kX:(Builtin.append_ #[t,t] o.type #[v,u]).run P c.w=.ok v c.w:=by
   rcases hv hhw.symm with⟨lv,rfl⟩|⟨_,rfl⟩
   obtain⟨cur,_,_,h3,_⟩:=hr.tb tk (aY lR) lv;exact py c.w ht hi _ _ _ ab (.inr ⟨_,rfl⟩) u hu;exact py c.w ht hi none 0 0 (aZ _) (.inl rfl) u hu
  rw[kX];refine⟨c,rfl,?_,kI.refl c,?_⟩
  ·have:(⟨H.bx,H.tk.set id (e,es.length+([]:List GV).length),H.mu⟩:PH)=H:=by
    have:H.tk.set id (e,es.length)=H.tk:=(by refine eE λk=>?_;by_cases ek:k=id;subst ek;rw[hk,bZ (aR.1 hk).1];rw[bP (λe'=>ek e'.symm)]);simp only[bH,b9,this]
   rw[this];exact hr
  rw[cG];exact .own es id v tk Ji lR kl hle hv
 ·obtain⟨a,m,news,rfl,ln,Bv,rZ,U9⟩:=rQ pD vJ js;have jX:0<xs.length:=gR.2 js;have wx:tk.size=i.size:=by
   cases hl:tk.live with
   |true=>
    obtain⟨_,_,_,_,_,h5⟩:=hr.tb tk (aY lR) hl;rw[U8,hi]at h5;simpa using h5.symm
   |false=>
    have h5:=(hr.dead tk (aY lR) hl).2;rw[U8,hi]at h5;simpa using h5.symm
  have fin:∀(w':World) (t':Tok) (olds rest:List Value) (cur:Array Value),
    t'.e=e->t'.size=i.size->t'.hw=es.length+xs.length->t'.live=true->w'.os=c.w.os->(w'.tape=c.w.tape∧(xv->c.w.drawn<=w'.drawn))->w'.output=c.w.output->c.w.heap.size<=w'.heap.size->
    (∀b,b<c.w.heap.size->(tk.live=true->b≠tk.g)->w'.heap[b]?=c.w.heap[b]?)->
    (tk.live=true->∀k,k<tk.hw*tk.size->w'.cell? ⟨tk.g,k,none⟩=c.w.cell? ⟨tk.g,k,none⟩)->((tk.live=true∧t'.g=tk.g)∨c.w.heap.size<=t'.g)->
    w'.heap[t'.g]?=some (.cells cur e (0,0))->cur=(olds++news++rest).toArray->cur.size=t'.cap*i.size->t'.cap<=maxLen->es.length+xs.length<=t'.cap->olds.length=es.length*i.size->(∀v∈olds,v.oneCell'=true)->
    (∀(k:Nat) (x:GV) (j:Nat) (g:GV) (v:Value),es[k]?=some x->x.cells[j]?=some g->olds[k*i.size+j]?=some v->RG c.w c.jq g v)->
    ∃c':Ctx,c'.w=w'∧Rel P c' ⟨H.bx,H.tk.set id (e,es.length+xs.length),H.mu⟩∧kI c c'∧RV c' (.own (es++xs) id) (.slice (some ⟨t'.g,0,none⟩) (es.length+xs.length) t'.cap):=by
   intro w' t' olds rest cur e1 e2 e4 e5 o1 o2 o3 o4 o5 o6 o7 hh ug kR ud uJ lo XP C0;obtain⟨g1,g2⟩:=hr.af2 lR (t':=t') (by rw[e1,U8]) (by rw[wx,e2]) (by rw[hhw,e4];omega) e5 o1 o2 o3 o4 o5 o6 o7 ⟨cur,by rw[e1];exact hh,by rw[e2];exact kR,by rw[e4];exact uJ,ud,by rw[e1,hi,e2];rfl⟩;refine⟨⟨c.σ,c.τ.set id t',c.μ,c.hid,w'⟩,rfl,?_,g2,?_⟩;rw[e1,e4]at g1;exact g1
   ·have hS:∀p,p<(es.length+xs.length)*i.size->Ctx.jq ⟨c.σ,c.τ.set id t',c.μ,c.hid,w'⟩ t'.g p:=by
     intro p hp;have tm:t'∈c.τ.set id t':=aY (bZ hid);refine⟨λh=>g1.tG t' tm e5 p h,λh=>g1.st t' tm e5 h,λt2 h2 lv e=>?_,λt2 h2 lv e=>g1.mt t2 h2 lv t' tm e5 e⟩;obtain⟨k2,n9⟩:=bt h2;have:=g1.td k2 id t2 t' n9 (bZ hid) lv e5 e;subst this;replace n9:(c.τ.set k2 t')[k2]?=some t2:=n9;rw[bZ hid]at n9;cases n9;rw[e4,e2];exact hp
    have G4:∀x∈es,x.cells.length=i.size:=λx hx=>(by obtain⟨k,hk⟩:=bt hx;rw[kl k x hk,wx]);have hR:=FA (S:=Ctx.jq ⟨c.σ,c.τ.set id t',c.μ,c.hid,w'⟩) hh ug lo ln G4 vJ uJ ud hS (λk x j g v h1 h2 h3=>(C0 k x j g v h1 h2 h3).mono g2.kF) (λk x j g v h1 h2 h3=>(U9 k x j g v h1 h2 h3).mono g2.kF) XP rZ;refine .own (es++xs) id _ t' hR (bZ hid) (λk x hx=>?_) (by simp[e4]) (λ_=>.inl ⟨e5,by simp⟩);rw[e2];rcases bC.1 (aY hx)with h|h
    exact G4 x h;exact vJ x h
  rcases hv hhw.symm with⟨lv,rfl⟩|⟨XG,rfl⟩
  ·obtain⟨cur,ug,kR,ahW,ud,_⟩:=hr.tb tk (aY lR) lv;rw[U8]at ug;rw[wx]at kR;rw[hhw]at ahW;have oc:∀k,c.w.cell? ⟨tk.g,k,none⟩=cur[k]? :=λk=>cell_of_row c.w tk.g k cur e (0,0) ug;have G4:∀x∈es,x.cells.length=i.size:=λx hx=>by
    obtain⟨k,hk⟩:=bt hx;rw[kl k x hk,wx]
   obtain⟨olds,lo,DO,XP,C0⟩:∃olds:List Value,olds.length=es.length*i.size∧(∀j v,olds[j]?=some v->c.w.cell? ((⟨tk.g,0,none⟩:Addr).add j)=some v)∧(∀v∈olds,v.oneCell'=true)∧
     ∀(k:Nat) (x:GV) (j:Nat) (g:GV) (v:Value),es[k]?=some x->x.cells[j]?=some g->olds[k*i.size+j]?=some v->RG c.w c.jq g v:=by
    by_cases Va:es=[];subst Va;exact⟨[],by simp,by simp,by simp,by simp⟩;obtain⟨a',m',olds,e1,l1,l2,l3,l4⟩:=rQ Ji G4 Va;cases e1;exact⟨olds,l1,l2,l3,l4⟩
   have Tn:∀j v,olds[j]?=some v->cur[j]?=some v:=λj v h=>(by have:=DO j v h;rw[add_eq _ _ rfl]at this;rw[<-oc];simpa using this);have hlc:es.length*i.size<=cur.size:=(by rw[kR];exact bg _ ahW);have Xd:cur.toList.take (es.length*i.size)=olds:=(by refine eE λk=>?_;by_cases hk:k<es.length*i.size;have h1:k<olds.length:=(by rw[lo];exact hk);rw[bq,aW hk,aS h1];have:=Tn k _ (aS h1);simpa using this;rw[dp ad,dp ab]);by_cases ll:es.length+xs.length<=tk.cap
   ·have z6:es.length*i.size+news.length<=cur.size:=by
     rw[ln,kR,<-bB];exact bg _ ll
    rw[run_append_room c.w t o.type e i ht hi tk.g es.length tk.cap cur ug a xs.length m news ln Bv rZ ll z6,Xd];refine fin _ {tk with hw:=es.length+xs.length} olds (cur.toList.drop (es.length*i.size+news.length)) _ U8 wx rfl lv rfl ⟨rfl,λ_=>by first|exact aZ _|exact fc _⟩ rfl aa (λb hb h=>setRow_other c.w tk.g b _ (h lv)) (λ_ k hk=>?_) (.inl ⟨lv,rfl⟩) (setRow_heap c.w tk.g cur _ e (0,0) ug) rfl ?_ ud ll lo XP C0;rw[cell_of_row _ tk.g k _ e (0,0) (setRow_heap c.w tk.g cur _ e (0,0) ug),oc];rw[hhw,wx,<-lo]at hk;simp only[dV];rw[bV,a8 hk];rw[aS hk];exact(Tn k _ (aS hk)).symm;simp[lo];rw[kR]at z6⊢;omega
   have hg:tk.cap<es.length+xs.length:=ab;have QI:((es.length+xs.length:Nat):Int)<=9223372036854775807:=(by simp only[maxLen]at se;omega);rw[run_append_grow c.w t o.type e i z ht hi QH ⟨tk.g,0,none⟩ es.length tk.cap olds lo DO a xs.length m news ln Bv hg QI (growslice_fits hg mK)];have sC:=grownCap_ge c.w (es.length+xs.length) tk.cap e;refine fin _ ⟨true,c.w.heap.size,e,i.size,grownCap c.w (es.length+xs.length) tk.cap e,es.length+xs.length⟩ olds (Builtin.zeroCells z.cells (grownCap c.w (es.length+xs.length) tk.cap e-(es.length+xs.length))).toList _ rfl rfl rfl rfl rfl ⟨rfl,λ_=>by first|exact aZ _|exact fc _⟩ rfl aa (λb hb _=>Go.heap_alloc_old c.w.drew _ b hb) (λ_ k hk=>?_) (.inr (aZ _)) (Go.heap_alloc_new c.w.drew _) aa ?_ (grownCap_le_maxLen _ _ _ _ se) sC lo XP C0;have iI:=hr.Bd (aY lR) lv;exact World.cell?_of_block (Go.heap_alloc_old c.w.drew _ tk.g iI);simp only[ib,ga,size_zeroCells,sP,lo,ln];rw[<-bB,<-bB];congr 1;omega
  ·subst XG;have QI:(xs.length:Int)<=9223372036854775807:=(by simp only[maxLen,bH]at se;omega);have z6:xs.length*i.bytes<=140737488355328:=(by simpa using mK);rw[run_append_nil c.w t o.type e i z ht hi QH a xs.length m news ln Bv jX QI ab];have sC:=grownCap_ge c.w xs.length 0 e;have:=fin (c.w.drew.alloc (.cells (news.toArray++Builtin.zeroCells z.cells (grownCap c.w xs.length 0 e-xs.length)) e)) ⟨true,c.w.heap.size,e,i.size,grownCap c.w xs.length 0 e,xs.length⟩ [] (Builtin.zeroCells z.cells (grownCap c.w xs.length 0 e-xs.length)).toList _ rfl rfl aa rfl rfl ⟨rfl,λ_=>by first|exact aZ _|exact fc _⟩ rfl aa (λb hb _=>Go.heap_alloc_old c.w.drew _ b hb) (λ_ k hk=>by rw[hhw]at hk;simp at hk) (.inr (aZ _)) (Go.heap_alloc_new c.w.drew _) aa (by
    simp only[ib,ga,size_zeroCells,sP,ln];rw[<-bB];congr 1;omega) (grownCap_le_maxLen _ _ _ _ (by simpa using se)) (by simpa using sC) aa aa aa
   simpa using this
end
def ahX(k:Bool)(p:PV):PV:=bif k then p else pack p
def od(ρ:Operand->PV):List Bool->List Operand->List PV
 |_,[]=>[]|[],x::r=>pack (ρ x)::od ρ [] r|k::ks,x::r=>ahX k (ρ x)::od ρ ks r
def ab3{k:Bool}(h:RV c p v):RV c (ahX k p) v:=by
 cases k with
 |true=>exact h|false=>exact ye h
def nz(ρ:Operand->PV):∀(ks:List Bool) (l:List Operand),(od ρ ks l).length=l.length
 |_,[]=>by simp[od]|[],x::r=>by simp[od,nz ρ [] r]|k::ks,x::r=>by simp[od,nz ρ ks r]
def uK{c:Ctx}{ρ:Operand->PV}{ρr:Operand->Value}:∀(ks:List Bool) (l:List Operand),(∀x∈l,RV c (ρ x) (ρr x))->∀(i:Nat) (p:PV) (x:Operand),(od ρ ks l)[i]?=some p->l[i]?=some x->RV c p (ρr x)
 |_,[],_,i,p,x,_,h=>by simp at h
 |[],y::r,hx,i,p,x,hp,h=>by
  cases i with
  |zero=>simp[od]at hp h;subst hp;subst h;exact ye (hx y aa)|succ i=>exact uK [] r (λz hz=>hx z (by simp[hz])) i p x (by simpa[od]using hp) (by simpa using h)
 |k::ks,y::r,hx,i,p,x,hp,h=>by
  cases i with
  |zero=>simp[od]at hp h;subst hp;subst h;exact ab3 (hx y aa)|succ i=>exact uK ks r (λz hz=>hx z (by simp[hz])) i p x (by simpa[od]using hp) (by simpa using h)
section
variable{P:Program}{o:Oper}{ρ:Operand->PV}{H H':PH}{v:PV}
variable{ps:List PV}
def B5(ks:List Bool){f:Operand}{args:Array Operand}{ts:Array TypeId}{id:FuncId}(ho:o.op=.call {callee:=.value f,args:=args,argTypes:=ts})
  (hf:ρ f=.g (.raw (.func (.func id) #[] #[]))) (he:nI P id=true) (ha:od ρ ks args.toList=ps) (hp:PC P id ps H v H'):PO P o ρ H v H':=by
 intro c ρr hr hx;have tI:∀x,x=f∨x∈args.toList->x∈o.op.operands.toList:=by
  intro x hx;simp[ho,Op.operands,Call.operands];rcases hx with rfl|hx
  exact .inl rfl;exact .inr (by simpa using hx)
 have xx:=hx f (tI f (.inl rfl));rw[hf]at xx;have S3:=Bc xx;have kX:(execOp ρr o).run P c.w=.ok (.enter id (args.map ρr)) c.w:=by simp[execOp,ho,resolve,S3,Deferred.ofValue,invoke,qn he]
 unfold kU;rw[kX];refine(hp c _ hr ⟨by rw[<-ha,nz];simp,λi p u kD hu=>?_⟩).mono ?_;simp only[ff,bh]at hu;obtain⟨x,kf,rfl⟩:=hu;rw[<-ha]at kD;exact uK ks args.toList (λz hz=>hx z (tI z (.inr hz))) i p x kD (by simpa using kf);rintro e w' ⟨rv,c',rfl,rfl,kP,hE,pr⟩;exact⟨rv,rfl,c',rfl,kP,hE,pr⟩
def FB(ks:List Bool){f:Operand}{args:Array Operand}{ts:Array TypeId}{id:FuncId}{first cap:List PV}(ho:o.op=.call {callee:=.value f,args:=args,argTypes:=ts})
  (hf:ρ f=.mU (.func id) first cap) (he:nI P id=true) (ha:first++od ρ ks args.toList++cap=ps) (hp:PC P id ps H v H'):PO P o ρ H v H':=by
 intro c ρr hr hx;have tI:∀x,x=f∨x∈args.toList->x∈o.op.operands.toList:=by
  intro x hx;simp[ho,Op.operands,Call.operands];rcases hx with rfl|hx
  exact .inl rfl;exact .inr (by simpa using hx)
 have xx:=hx f (tI f (.inl rfl));rw[hf]at xx;generalize hvf:ρr f=vf at xx;cases xx with
 |mU _ _ _ us vs sx Jj h1 h2=>
 have kX:(execOp ρr o).run P c.w=.ok (.enter id (us++args.map ρr++vs)) c.w:=by simp[execOp,ho,resolve,hvf,Deferred.ofValue,invoke,qn he]
 unfold kU;rw[kX];refine(hp c _ hr ⟨by rw[<-ha];simp[nz,sx,Jj],λi p u kD hu=>?_⟩).mono ?_
 ·rw[<-ha]at kD;by_cases i1:i<first.length
  rw[bV,a8 i1]at kD;rw[Array.append_assoc,fm ab]at hu;exact h1 i p u kD hu
  ·by_cases i2:i<first.length+args.size
   rw[a8 (by simp[nz];omega),a7 ab]at kD;rw[fm ad,gB ab]at hu;simp only[ff,bh]at hu;obtain⟨x,kf,rfl⟩:=hu;exact uK ks args.toList (λz hz=>hx z (tI z (.inr hz))) _ p x kD (by rw[sx];simpa using kf);rw[a7 (by simp[nz];omega)]at kD;rw[gB ad]at hu;refine h2 _ p u kD ?_;rw[<-hu];congr 1;simp[nz];omega
 rintro e w' ⟨rv,c',rfl,rfl,kP,hE,pr⟩;exact⟨rv,rfl,c',rfl,kP,hE,pr⟩
def FC{fn:Fn}{first cap:Array Operand}(ho:o.op=.makeFunc fn first cap):PO P o ρ H (.mU fn (first.toList.map ρ) (cap.toList.map ρ)) H:=
 jr λc ρr hr hx=>by refine⟨.func fn (first.map ρr) (cap.map ρr),by simp[execOp,ho,Instr.makeFunc],.mU fn _ _ _ _ aa aa (λi p u hp hu=>?_) (λi p u hp hu=>?_)⟩;simp only[bj,ff,bh]at hp hu;obtain⟨x,kf,rfl⟩:=hp;obtain⟨y,pD,rfl⟩:=hu;have:x=y:=(by simpa[pD]using kf.symm);subst this;exact hx x (by rw[ho];simp[Op.operands];exact .inl (by simpa using aY kf));simp only[bj,ff,bh]at hp hu;obtain⟨x,kf,rfl⟩:=hp;obtain⟨y,pD,rfl⟩:=hu;have:x=y:=(by simpa[pD]using kf.symm);subst this;exact hx x (by rw[ho];simp[Op.operands];exact .inr (by simpa using aY kf))
end
mutual
def ahY:PV->List Nat
 |.ptr b _=>[b]|.mU _ a b=>tU a++tU b|.agg cs=>tU cs|.tuple cs=>tU cs|.rz _ p=>ahY p|_=>[]
def tU:List PV->List Nat
 |[]=>[]|p::r=>ahY p++tU r
end
def Rq:List PV->List Nat
 |[]=>[]|.own _ id::r=>id::Rq r|_::r=>Rq r
mutual
def ahZ:PV->List Nat
 |.lK id _=>[id]|.kE id _ _ _=>[id]|.mp id=>[id]|.vw id _ _ _ _=>[id]|.qm id _ _ _=>[id]|.mU _ a b=>q9 a++q9 b|.agg cs=>q9 cs|.tuple cs=>q9 cs|.rz _ p=>ahZ p|_=>[]
def q9:List PV->List Nat
 |[]=>[]|p::r=>ahZ p++q9 r
end
mutual
def ah0:PV->List Nat
 |.own _ id=>[id]|.mU _ a b=>tV a++tV b|.agg cs=>tV cs|.tuple cs=>tV cs|.rz _ p=>ah0 p|_=>[]
def tV:List PV->List Nat
 |[]=>[]|p::r=>ah0 p++tV r
end
def dedup:List Nat->List Nat->List Nat
 |acc,[]=>acc|acc,x::r=>bif nv acc x then dedup acc r else dedup (acc++[x]) r
def nodupB:List Nat->Bool
 |[]=>true|x::r=> !(nv r x)&&nodupB r
def mS:∀{l:List Nat},nodupB l=true->l.Nodup
 |[],_=>gL|x::r,h=>by simp only[nodupB,bI,c9]at h;refine List.nodup_cons.2 ⟨λhm=>?_,mS h.2⟩;rw[nQ.2 hm]at h;cases h.1
def tl(I J L:List Nat)(bx:List (List PV)):List Nat->Option (List (List PV))
 |[]=>some []
 |i::r=>match bx[i]?,tl I J L bx r with
  |some cs,some l=>some (pa (posOf I) (posOf J) (posOf L) cs::l)|_,_=>none
def yC{I J L:List Nat}{bx:List (List PV)}:∀{K:List Nat} {l:List (List PV)},tl I J L bx K=some l->l.length=K.length∧∀(j i:Nat),K[j]?=some i->∃cs,bx[i]?=some cs∧l[j]?=some (pa (posOf I) (posOf J) (posOf L) cs)
 |[],l,h=>by cases h;simp
 |i::r,l,h=>by
  unfold tl at h;split at h
  ·rename_i cs l' h1 h2;cases h;obtain⟨e1,e2⟩:=yC h2;refine⟨by simp[e1],λj k hj=>?_⟩;cases j with
   |zero=>simp at hj;subst hj;exact⟨cs,h1,rfl⟩|succ j=>simpa using e2 j k (by simpa using hj)
  cases h
def tW(tk:List (TypeId×Nat)):List Nat->Option (List (TypeId×Nat))
 |[]=>some []
 |i::r=>match tk[i]?,tW tk r with
  |some x,some l=>some (x::l)|_,_=>none
def yD{tk:List (TypeId×Nat)}:∀{K:List Nat} {l:List (TypeId×Nat)},tW tk K=some l->l.length=K.length∧∀(j i:Nat),K[j]?=some i->∃x,tk[i]?=some x∧l[j]?=some x
 |[],l,h=>by cases h;simp
 |i::r,l,h=>by
  unfold tW at h;split at h
  ·rename_i x l' h1 h2;cases h;obtain⟨e1,e2⟩:=yD h2;refine⟨by simp[e1],λj k hj=>?_⟩;cases j with
   |zero=>simp at hj;subst hj;exact⟨x,h1,rfl⟩|succ j=>simpa using e2 j k (by simpa using hj)
  cases h
mutual
def l9:PV->Option PV
 |.g x=>some (.g x)
 |.own es id=>match tJ id with|some k7=>some (.own es k7)|none=>none
 |.ptr b off=>match tJ b with
  |some b'=>match tJ off with|some NZ=>some (.ptr b' NZ)|none=>none
  |none=>none
 |.jx=>some .jx|.iM=>some .iM|.pat cs=>some (.pat cs)
 |.mU f a b=>match rR a with
  |some a'=>match rR b with|some b'=>some (.mU f a' b')|none=>none
  |none=>none
 |.agg cs=>match rR cs with|some cs'=>some (.agg cs')|none=>none
 |.tuple cs=>match rR cs with|some cs'=>some (.tuple cs')|none=>none
 |.lit es=>some (.lit es)
 |.lK id n=>match tJ id with|some k7=>some (.lK k7 n)|none=>none
 |.kE id n i off=>match tJ id with
  |some k7=>match tJ off with|some NZ=>some (.kE k7 n i NZ)|none=>none
  |none=>none
 |.mp id=>match tJ id with|some k7=>some (.mp k7)|none=>none
 |.vw id n off len cap=>match tJ id with|some k7=>some (.vw k7 n off len cap)|none=>none
 |.qm id n off len=>match tJ id with|some k7=>some (.qm k7 n off len)|none=>none
 |.mV g off=>some (.mV g off)|.kv g off=>some (.kv g off)
 |.rz t p=>match l9 p with|some p'=>some (.rz t p')|none=>none
 |.any=>some .any
def rR:List PV->Option (List PV)
 |[]=>some []
 |p::r=>match l9 p with
  |some p'=>match rR r with|some r'=>some (p'::r')|none=>none
  |none=>none
end
mutual
def uV:∀p:PV,l9 p=some p
 |.g x=>by simp[l9]|.own es id=>by simp[l9,rY]|.ptr b off=>by simp[l9,rY]|.jx=>by simp[l9]|.iM=>by simp[l9]|.pat cs=>by simp[l9]|.mU f a b=>by simp[l9,pG a,pG b]|.agg cs=>by simp[l9,pG cs]|.tuple cs=>by simp[l9,pG cs]|.lit es=>by simp[l9]|.lK id n=>by simp[l9,rY]|.kE id n i off=>by simp[l9,rY]|.mp id=>by simp[l9,rY]|.vw id n off len cap=>by simp[l9,rY]|.qm id n off len=>by simp[l9,rY]|.mV g off=>by simp[l9]|.kv g off=>by simp[l9]|.rz t p=>by simp[l9,uV p]|.any=>by simp[l9]
def pG:∀l:List PV,rR l=some l
 |[]=>by simp[rR]|p::r=>by simp[rR,uV p,pG r]
end
def I4:List (List PV)->Option (List (List PV))
 |[]=>some []
 |l::r=>match rR l with
  |some l'=>match I4 r with|some r'=>some (l'::r')|none=>none
  |none=>none
def C1:∀l,I4 l=some l
 |[]=>rfl|l::r=>by simp[I4,pG l,C1 r]
def I5:List (TypeId×Nat)->Option (List (TypeId×Nat))
 |[]=>some []
 |(e,n)::r=>match I5 r with|some r'=>some ((e,n)::r')|none=>none
def C2:∀l,I5 l=some l
 |[]=>rfl|(e,n)::r=>by simp[I5,C2 r]
def I6:List MO->Option (List MO)
 |[]=>some []
 |o::r=>match I6 r with|some r'=>some (o::r')|none=>none
def C3:∀l,I6 l=some l
 |[]=>rfl|o::r=>by simp[I6,C3 r]
def w9:PH->Option PH
 |⟨bx,tk,mu⟩=>match I4 bx with
  |some bx'=>match I5 tk with
   |some tk'=>match I6 mu with|some mu'=>some ⟨bx',tk',mu'⟩|none=>none
   |none=>none
  |none=>none
def OI(H:PH):w9 H=some H:=by simp[w9,C1,C2,C3]
def tX(mu:List MO):List Nat->Option (List MO)
 |[]=>some []
 |i::r=>match mu[i]?,tX mu r with
  |some x,some l=>some (x::l)|_,_=>none
def yE{mu:List MO}:∀{K:List Nat} {l:List MO},tX mu K=some l->l.length=K.length∧∀(j i:Nat),K[j]?=some i->∃x,mu[i]?=some x∧l[j]?=some x
 |[],l,h=>by cases h;simp
 |i::r,l,h=>by
  unfold tX at h;split at h
  ·rename_i x l' h1 h2;cases h;obtain⟨e1,e2⟩:=yE h2;refine⟨by simp[e1],λj k hj=>?_⟩;cases j with
   |zero=>simp at hj;subst hj;exact⟨x,h1,rfl⟩|succ j=>simpa using e2 j k (by simpa using hj)
  cases h
def Bk(bx:List (List PV)):Nat->List Nat->List Nat->List Nat
 |0,_,acc=>acc|_+1,[],acc=>acc
 |n+1,b::r,acc=>bif nv acc b then Bk bx n r acc else
  match bx[b]? with
  |some cs=>Bk bx n (r++tU cs) (acc++[b])|none=>acc
def qN(bx:List (List PV)):List Nat->List PV
 |[]=>[]
 |b::r=>match bx[b]? with
  |some cs=>cs++qN bx r|none=>qN bx r
section
variable{P:Program}{o:Oper}{ρ:Operand->PV}{H H':PH}{v v':PV}
variable{ps:List PV}
def I7{id:FuncId}{qs:List PV}{v1:PV}(hp:PC P id ps H0 v1 H1)(I J L:List Nat)(hn:(nodupB I&&nodupB J&&nodupB L)=true)(hb:tl I J L H.bx I=some H0.bx)(ht:tW H.tk J=some H0.tk)(hm:tX H.mu L=some H0.mu)
  (ha:pa (posOf I) (posOf J) (posOf L) qs=ps) (hv:l9 (rF (jw I H.bx.length) (jw J H.tk.length) (jw L H.mu.length) v1)=some v') (hH:w9 (back I J L H H1)=some H'):PC P id qs H v' H':=by
 rw[uV]at hv;rw[OI]at hH;cases hv;cases hH;simp only[bI]at hn;obtain⟨b1,b2⟩:=yC hb;obtain⟨t1,t2⟩:=yD ht;obtain⟨m1,m2⟩:=yE hm;exact YZ hp (mS hn.1.1) (mS hn.1.2) (mS hn.2) b1 b2 t1 t2 m1 m2 ha
def OJ(ks:List Bool){f:Operand}{args:Array Operand}{ts:Array TypeId}{id:FuncId}{qs ps:List PV}{H0 H1:PH}{v1:PV}{I J L:List Nat}(ho:o.op=.call {callee:=.value f,args:=args,argTypes:=ts})
  (hf:ρ f=.g (.raw (.func (.func id) #[] #[]))) (he:nI P id=true) (hp:PC P id ps H0 v1 H1) (hq:rR (od ρ ks args.toList)=some qs) (_hI:dedup [] (tU qs)=I) (_hJ:Rq qs=J) (_hL:dedup [] (q9 qs)=L) (hn:(nodupB I&&nodupB J&&nodupB L)=true)
  (hb:tl I J L H.bx I=some H0.bx) (ht:tW H.tk J=some H0.tk) (hm:tX H.mu L=some H0.mu) (ha:pa (posOf I) (posOf J) (posOf L) qs=ps) (hv:l9 (rF (jw I H.bx.length) (jw J H.tk.length) (jw L H.mu.length) v1)=some v') (hH:w9 (back I J L H H1)=some H'):
  PO P o ρ H v' H':=by
 rw[pG]at hq;exact B5 ks ho hf he (cE hq) (I7 hp I J L hn hb ht hm ha hv hH)
def OK(ks:List Bool){f:Operand}{args:Array Operand}{ts:Array TypeId}{id:FuncId}{first cap qs ps:List PV}{H0 H1:PH}{v1:PV}{I J L:List Nat}(ho:o.op=.call {callee:=.value f,args:=args,argTypes:=ts})
  (hf:ρ f=.mU (.func id) first cap) (he:nI P id=true) (hp:PC P id ps H0 v1 H1) (hq:rR (first++od ρ ks args.toList++cap)=some qs) (_hI:dedup [] (tU qs)=I) (_hJ:Rq qs=J) (_hL:dedup [] (q9 qs)=L) (hn:(nodupB I&&nodupB J&&nodupB L)=true)
  (hb:tl I J L H.bx I=some H0.bx) (ht:tW H.tk J=some H0.tk) (hm:tX H.mu L=some H0.mu) (ha:pa (posOf I) (posOf J) (posOf L) qs=ps) (hv:l9 (rF (jw I H.bx.length) (jw J H.tk.length) (jw L H.mu.length) v1)=some v') (hH:w9 (back I J L H H1)=some H'):
  PO P o ρ H v' H':=by
 rw[pG]at hq;exact FB ks ho hf he (cE hq) (I7 hp I J L hn hb ht hm ha hv hH)
def Kh(ks:List Bool){f:Operand}{args:Array Operand}{ts:Array TypeId}{id:FuncId}{qs ps:List PV}{H0 H1:PH}{v1:PV}{I J L:List Nat}(ho:o.op=.call {callee:=.value f,args:=args,argTypes:=ts})
  (hf:ρ f=.g (.raw (.func (.func id) #[] #[]))) (he:nI P id=true) (hp:PC P id ps H0 v1 H1) (hq:rR (od ρ ks args.toList)=some qs) (_hI:Bk H.bx 40 (tU qs) []=I) (_hJ:dedup [] (tV qs++tV (qN H.bx I))=J) (_hL:dedup [] (q9 qs++q9 (qN H.bx I))=L) (hn:(nodupB I&&nodupB J&&nodupB L)=true)
  (hb:tl I J L H.bx I=some H0.bx) (ht:tW H.tk J=some H0.tk) (hm:tX H.mu L=some H0.mu) (ha:pa (posOf I) (posOf J) (posOf L) qs=ps) (hv:l9 (rF (jw I H.bx.length) (jw J H.tk.length) (jw L H.mu.length) v1)=some v') (hH:w9 (back I J L H H1)=some H'):
  PO P o ρ H v' H':=by
 rw[pG]at hq;exact B5 ks ho hf he (cE hq) (I7 hp I J L hn hb ht hm ha hv hH)
def H9(ks:List Bool){f:Operand}{args:Array Operand}{ts:Array TypeId}{id:FuncId}{first cap qs ps:List PV}{H0 H1:PH}{v1:PV}{I J L:List Nat}(ho:o.op=.call {callee:=.value f,args:=args,argTypes:=ts})
  (hf:ρ f=.mU (.func id) first cap) (he:nI P id=true) (hp:PC P id ps H0 v1 H1) (hq:rR (first++od ρ ks args.toList++cap)=some qs) (_hI:Bk H.bx 40 (tU qs) []=I) (_hJ:dedup [] (tV qs++tV (qN H.bx I))=J) (_hL:dedup [] (q9 qs++q9 (qN H.bx I))=L) (hn:(nodupB I&&nodupB J&&nodupB L)=true)
  (hb:tl I J L H.bx I=some H0.bx) (ht:tW H.tk J=some H0.tk) (hm:tX H.mu L=some H0.mu) (ha:pa (posOf I) (posOf J) (posOf L) qs=ps) (hv:l9 (rF (jw I H.bx.length) (jw J H.tk.length) (jw L H.mu.length) v1)=some v') (hH:w9 (back I J L H H1)=some H'):
  PO P o ρ H v' H':=by
 rw[pG]at hq;exact FB ks ho hf he (cE hq) (I7 hp I J L hn hb ht hm ha hv hH)
end
variable{k:IntKind}
def To{t:TypeId}(h:Rf P t=some k):P.underlying t=some (.int k):=by unfold Rf at h;split at h;rename_i k' hu;cases h;exact hu;cases h
def nS:Option (IntKind×Int)->Int|none=>0|some p=>p.2
def oo(n:Nat):Option (IntKind×Int)->Int|none=>n|some p=>p.2
def oL(ρ:Operand->PV):Option Operand->Option (Option (IntKind×Int))
 |none=>some none
 |some x=>match ρ x with
  |.g (.int k n)=>some (some (k,n))|_=>none
variable{ρ:Operand->PV}
def oq{ρr:Operand->Value}{o:Option Operand}{r:Option (IntKind×Int)}(h:oL ρ o=some r)(hx:∀x,o=some x->RV c (ρ x) (ρr x)):o.map ρr=r.map λp=>.int p.1 p.2:=by
 cases o with
 |none=>cases h;rfl
 |some x=>
  simp only[oL]at h;split at h;rename_i k n e;cases h;have:=hx x rfl;rw[e]at this;simp[k6 this];cases h
section
variable{P:Program}{o:Oper}{ρ:Operand->PV}{H:PH}
def FE{src dst:TypeId}{x:Operand}{ks kd k:IntKind}{n:Int}(ho:o.op=.convert src dst x)(hs:Rf P src=some ks)(hd:Rf P dst=some kd)(hx:ρ x=.g (.int k n)):PO P o ρ H (.g (.int kd (kd.wrap n))) H:=
 jr λc ρr hr oH=>by have h1:=oH x (by simp[ho,Op.operands]);rw[hx]at h1;exact⟨.int kd (kd.wrap n),by simp[execOp,ho,k6 h1,convert,run_underlying (To hs),run_underlying (To hd),Conv.intToInt],.g _ _ (.int _ _)⟩
variable{lo hi:Option Operand}{h:Option (IntKind×Int)}
def Nh{t:TypeId}{x:Operand}{s:ByteArray}{l:Option (IntKind×Int)}(ho:o.op=.slice t x lo hi none)(ht:P.underlying t=some .string)(hx:ρ x=.g (.str s))(hl:oL ρ lo=some l)(hh:oL ρ hi=some h)
  (h1:0<=nS l) (h2:nS l<=oo s.size h) (h3:oo s.size h<=s.size):PO P o ρ H (.g (.str (s.extract (nS l).toNat (oo s.size h).toNat))) H:=
 jr λc ρr hr oH=>by
  have e1:=oH x (by simp[ho,Op.operands]);rw[hx]at e1;have el:=oq (ρr:=ρr) hl λy hy=>oH y (by subst hy;simp[ho,Op.operands]);have eh:=oq (ρr:=ρr) hh λy hy=>oH y (by subst hy;simp[ho,Op.operands]);refine⟨_,?_,.g _ _ (.str _)⟩;simp only[execOp,ho,za e1,el,eh];cases l with
  |none=>
   cases h with
   |none=>simp[Instr.sliceAt,Instr.slice,run_underlying ht,Instr.sliceBounds,nS,oo]
   |some q=>
    simp only[nS,oo]at h2 h3;have:0<=q.2∧q.2<=(s.size:Int):=⟨h2,h3⟩;simp[Instr.sliceAt,Instr.slice,run_underlying ht,Instr.sliceBounds,Instr.sliceBound,asIntOf,this,nS,oo]
  |some p=>
   cases h with
   |none=>
    simp only[nS,oo]at h1 h2;have:0<=p.2∧p.2<=(s.size:Int):=⟨h1,h2⟩;simp[Instr.sliceAt,Instr.slice,run_underlying ht,Instr.sliceBounds,Instr.sliceBound,asIntOf,this,nS,oo]
   |some q=>
    simp only[nS,oo]at h1 h2 h3;have e1:0<=q.2∧q.2<=(s.size:Int):=⟨by omega,h3⟩;have e2:0<=p.2∧p.2<=q.2:=⟨h1,h2⟩;have e3:((q.2.toNat:Nat):Int)=q.2:=Int.toNat_of_nonneg e1.1;simp[Instr.sliceAt,Instr.slice,run_underlying ht,Instr.sliceBounds,Instr.sliceBound,asIntOf,e1,e2,e3,nS,oo]
variable{es:List GV}{size:Nat}
def lE{t e:TypeId}{x:Operand}{l:Option (IntKind×Int)}(ho:o.op=.slice t x lo hi none)(ht:P.underlying t=some (.slice e))(hs:kZ P e=some size)(hx:elems (ρ x)=some es)(hl:oL ρ lo=some l)(hh:oL ρ hi=some h)
  (h1:0<=nS l) (h2:nS l<=oo es.length h) (h3:oo es.length h<=es.length) (G4:∀x∈es,x.cells.length=size):PO P o ρ H (.g (.sl ((es.drop (nS l).toNat).take ((oo es.length h).toNat-(nS l).toNat)))) H:=
 jr λc ρr hr oH=>by
  have e1:=tv (oH x (by simp[ho,Op.operands])) hx;have el:=oq (ρr:=ρr) hl λy hy=>oH y (by subst hy;simp[ho,Op.operands]);have eh:=oq (ρr:=ρr) hh λy hy=>oH y (by subst hy;simp[ho,Op.operands]);obtain⟨a,cap,hv,hlc,ud,IM⟩:=Qv e1;have kX:(execOp ρr o).run P c.w=.ok (.value (.slice (if cap=(nS l).toNat then a else a.map (·.add ((nS l).toNat*size))) ((oo es.length h).toNat-(nS l).toNat) (cap-(nS l).toNat))) c.w:=by
   simp only[execOp,ho,hv,el,eh];cases l with
   |none=>
    cases h with
    |none=>simp[Instr.sliceAt,Instr.slice,run_underlying ht,run_sizeOf hs,Instr.sliceBounds,nS,oo]
    |some q=>
     simp only[nS,oo]at h2 h3;have:0<=q.2∧q.2<=(cap:Int):=⟨h2,by omega⟩;simp[Instr.sliceAt,Instr.slice,run_underlying ht,run_sizeOf hs,Instr.sliceBounds,Instr.sliceBound,asIntOf,this,nS,oo]
   |some p=>
    cases h with
    |none=>
     simp only[nS,oo]at h1 h2;have:0<=p.2∧p.2<=(es.length:Int):=⟨h1,h2⟩;simp[Instr.sliceAt,Instr.slice,run_underlying ht,run_sizeOf hs,Instr.sliceBounds,Instr.sliceBound,asIntOf,this,nS,oo];by_cases hcc:cap=p.2.toNat<;>simp[hcc]
    |some q=>
     simp only[nS,oo]at h1 h2 h3;have e1:0<=q.2∧q.2<=(cap:Int):=⟨by omega,by omega⟩;have e2:0<=p.2∧p.2<=q.2:=⟨h1,h2⟩;have e3:((q.2.toNat:Nat):Int)=q.2:=Int.toNat_of_nonneg e1.1;simp[Instr.sliceAt,Instr.slice,run_underlying ht,run_sizeOf hs,Instr.sliceBounds,Instr.sliceBound,asIntOf,e1,e2,e3,nS,oo];by_cases hcc:cap=p.2.toNat<;>simp[hcc]
  refine⟨_,kX,.g _ _ ?_⟩;generalize hL:(nS l).toNat=L;generalize hU:(oo es.length h).toNat=U;have hLU:L<=U∧U<=es.length:=ab
  rw[hv]at e1;have hlen:((es.drop L).take (U-L)).length=U-L:=by simp;omega
  generalize hq:(es.drop L).take (U-L)=qs at hlen;cases e1 with
  |nil=>
   simp at hLU;have hU0:U=0:=hLU.2;have hL0:L=0:=ab;subst hU0;subst hL0;have:qs=[]:=df hlen;subst this;simp;exact .nil
  |sl _ a' _ wy f ha hc hm kl hf hh=>
   by_cases hz:U-L=0
   ·have IM:qs=[]:=df (hlen.trans hz);subst IM;rw[hz];have key:∀b:Addr,RG c.w c.jq (.sl []) (.slice (some b) 0 (cap-L)):=λb=>by
     have:=RG.sl (w:=c.w) (S:=c.jq) [] b (cap-L) 0 (λ_=>undef) (λh=>absurd rfl h) aa ab aa aa aa;simpa using this
    split<;>exact key _
   ·have uJ:¬cap=L:=ab;rw[aV uJ];have alL:wy=size:=by
     obtain⟨x,hx⟩:∃x,es[0]?=some x:=⟨es[0]'(by omega),aS ab⟩;rw[<-kl 0 x hx,G4 x (aY hx)]
    subst alL;have js:es≠[]:=λh=>(by subst h;simp at hLU;omega);have Bt:=ha js;have adQ:∀i,i<U-L->qs[i]?=es[L+i]? :=λi hi=>(by rw[<-hq,bq,aW hi,bD]);have:=RG.sl (w:=c.w) (S:=c.jq) qs (a'.add (L*wy)) (cap-L) wy (λk=>f (L*wy+k)) (λ_=>oT _ _ Bt) (by rw[hlen];omega) ab (λi x hx=>?_) (λk hk=>?_) (λi x j g hx hg=>?_);rw[hlen]at this;simpa using this;have hi:i<U-L:=(by rw[<-hlen];exact(aR.1 hx).1);rw[adQ i hi]at hx;exact kl _ x hx
    ·rw[hlen]at hk;have iI:L*wy+k<es.length*wy:=by
      have h1:(U-L)*wy+L*wy<=es.length*wy:=(by rw[<-bB];exact bg _ ab);omega
     have h3:=hf _ iI;rw[add_eq _ _ (oT _ _ Bt),sV,yd,ep];rw[add_eq _ _ Bt]at h3;exact h3
    have hi:i<U-L:=(by rw[<-hlen];exact(aR.1 hx).1);rw[adQ i hi]at hx;have:=hh (L+i) x j g hx hg;rw[bB,ep]at this;exact this
end
section
variable{P:Program}{c:Ctx}{H:PH}
variable{size:Nat}
def Rel.Gi(hr:Rel P c H){e:Nat}(hs:kZ P e=some size):
  Rel P ⟨c.σ,c.τ++[⟨false,0,e,size,0,0⟩],c.μ,c.hid,c.w⟩ ⟨H.bx,H.tk++[(e,0)],H.mu⟩∧kI c ⟨c.σ,c.τ++[⟨false,0,e,size,0,0⟩],c.μ,c.hid,c.w⟩:=by
 have e2:=yg (Ext.refl c.w) [] [⟨false,0,e,size,0,0⟩] [] aa aa aa;simp only[cG]at e2;have e1:=hr.ext (Ext.refl c.w) [] [⟨false,0,e,size,0,0⟩] [] aa aa (by
  intro i j t1 t2 h1 h2;have:=(aR.1 h1).1;have:=(aR.1 h2).1;simp at *
  omega) (by
  intro t ht _;simp at ht;subst ht;exact⟨rfl,hs⟩) aa aa aa aa
 simp only[dx,fI,cG]at e1;exact⟨e1,e2⟩
variable{t:Tok}
def RV.adR{id:Nat}(h:RV c .iM v)(ht:c.τ[id]?=some t):RV c (.own [] id) v:=by
 cases h with
 |iM=>exact .own [] id _ t .nil ht aa aa (λ_=>.inr ⟨rfl,rfl⟩)
end
section
variable{P:Program}{N:Nat}{Q:Exit->Env->PH->Prop}{env:Env}{H:PH}
variable{code:Code}{size:Nat}
def af4(k e:Nat)(hs:kZ P e=some size)(hk:env k=.iM)(h:PW P N code Q (qE env (some k) (.own [] H.tk.length)) ⟨H.bx,H.tk++[(e,0)],H.mu⟩):PW P N code Q env H:=by
 intro c a hr he;obtain⟨r1,e1⟩:=hr.Gi hs;have hlen:c.τ.length=H.tk.length:=by rw[<-hr.tk];simp
 have hE:ER ⟨c.σ,c.τ++[⟨false,0,e,size,0,0⟩],c.μ,c.hid,c.w⟩ N (qE env (some k) (.own [] H.tk.length)) a:=by
  refine⟨he.defers,he.size,λt=>?_⟩;simp only[qE];cases ht:Nat.beq t k with
  |true=>
   rw[cr];have:=bl ht;subst this;have h1:=(he.slot t).mono e1;rw[hk]at h1;refine RV.adR h1 (t:=⟨false,0,e,size,0,0⟩) ?_;show(c.τ++[_])[H.tk.length]?=_;rw[<-hlen];simp
  |false=>rw[de];exact(he.slot t).mono e1
 refine wp_mono (h ⟨c.σ,c.τ++[⟨false,0,e,size,0,0⟩],c.μ,c.hid,c.w⟩ a r1 hE) ?_;rintro x a' w' ⟨c',env',H',q,rfl,kP,rX,mw⟩;exact⟨c',env',H',q,rfl,kP,e1.trans rX,mw⟩
end
section
variable{P:Program}{o:Oper}{ρ:Operand->PV}{H:PH}
end
section
variable{P:Program}{o:Oper}{ρ:Operand->PV}{H:PH}
def notNil:PV->Option PV
 |.ptr b off=>some (.ptr b off)|.pat cs=>some (.pat cs)|_=>none
def FF{x:Operand}{p:PV}(ho:o.op=.nilCheck x)(hx:notNil (ρ x)=some p):PO P o ρ H p H:=
 jr λc ρr hr oH=>by
  have h1:=oH x (by simp[ho,Op.operands]);unfold notNil at hx;split at hx
  ·rename_i b off e;cases hx;rw[e]at h1;generalize hv:ρr x=v at h1;cases h1 with
   |ptr _ _ kh hb=>exact⟨_,by simp[execOp,ho,hv],.ptr _ _ _ hb⟩
  ·rename_i cs e;cases hx;rw[e]at h1;generalize hv:ρr x=v at h1;cases h1 with
   |pat _ a f ha hf hh=>exact⟨_,by simp[execOp,ho,hv],.pat _ _ _ ha hf hh⟩
  cases hx
end
mutual
def pT(nb nt nm:Nat):PV->Bool
 |.own _ id=>Nat.blt id nt|.ptr b _=>Nat.blt b nb|.mU _ a b=>r8 nb nt nm a&&r8 nb nt nm b|.agg cs=>r8 nb nt nm cs|.tuple cs=>r8 nb nt nm cs|.g _=>true|.jx=>true|.iM=>true|.pat _=>true|.lit _=>true|.lK id _=>Nat.blt id nm|.kE id _ _ _=>Nat.blt id nm|.mp id=>Nat.blt id nm|.vw id _ _ _ _=>Nat.blt id nm|.qm id _ _ _=>Nat.blt id nm|.mV _ _=>true|.kv _ _=>true|.rz _ p=>pT nb nt nm p|.any=>true
def r8(nb nt nm:Nat):List PV->Bool
 |[]=>true|p::r=>pT nb nt nm p&&r8 nb nt nm r
end
mutual
def tO{nb nt nm:Nat}:∀{p:PV},pT nb nt nm p=true->lu nb nt nm p
 |.own es id,h=>by simp only[pT,fh]at h;exact .own _ _ h|.ptr b off,h=>by simp only[pT,fh]at h;exact .ptr _ _ h|.mU f a b,h=>by simp only[pT,bI]at h;exact .mU _ _ _ (qo h.1) (qo h.2)|.agg cs,h=>by simp only[pT]at h;exact .agg _ (qo h)|.tuple cs,h=>by simp only[pT]at h;exact .tuple _ (qo h)|.g x,_=>.g x|.jx,_=>.jx|.iM,_=>.iM|.pat cs,_=>.pat cs|.lit es,_=>.lit es|.lK id n,h=>by simp only[pT,fh]at h;exact .lK _ _ h|.kE id n i off,h=>by simp only[pT,fh]at h;exact .kE _ _ _ _ h|.mp id,h=>by simp only[pT,fh]at h;exact .mp _ h|.vw id n off len cap,h=>by simp only[pT,fh]at h;exact .vw _ _ _ _ _ h|.qm id n off len,h=>by simp only[pT,fh]at h;exact .qm _ _ _ _ h|.mV g off,_=>.mV g off|.kv g off,_=>.kv g off|.rz t p,h=>by simp only[pT]at h;exact .rz _ _ (tO h)|.any,_=>.any
def qo{nb nt nm:Nat}:∀{l:List PV},r8 nb nt nm l=true->∀p∈l,lu nb nt nm p
 |[],_,p,hp=>by simp at hp
 |q::r,h,p,hp=>by
  simp only[r8,bI]at h;rcases bN.1 hp with e|hp
  rw[e];exact tO h.1;exact qo h.2 p hp
end
def yi(nb nt nm:Nat):List (List PV)->Bool
 |[]=>true|l::r=>r8 nb nt nm l&&yi nb nt nm r
def qq{nb nt nm:Nat}:∀{l:List (List PV)},yi nb nt nm l=true->∀cs∈l,∀p∈cs,lu nb nt nm p
 |[],_,p,hp=>by simp at hp
 |q::r,h,p,hp=>by
  simp only[yi,bI]at h;rcases bN.1 hp with rfl|hp
  exact qo h.1;exact qq h.2 p hp
section
variable{P:Program}{H H' H2:PH}{v:PV}{env:Env}
variable{rs:List ResultVar}{ps:List PV}{e:Exit}{v':PV}{B:List (List PV)}{M:List MO}
def Ct{T:List (TypeId×Nat)}(hs:zX P env H2 rs=some ps)(hv:l9 (IJ ps)=some v')(hB:I4 (H2.bx.take H'.bx.length)=some B)(hT:I5 (H2.tk.take H'.tk.length)=some T)(hM:I6 (H2.mu.take H'.mu.length)=some M)
  (h1:Nat.ble H.bx.length H'.bx.length=true) (h2:Nat.ble H.tk.length H'.tk.length=true) (h3:Nat.ble H.mu.length H'.mu.length=true) (hc:pT H'.bx.length H'.tk.length H'.mu.length v'=true) (hb:yi H'.bx.length H'.tk.length H'.mu.length B=true)
  (MY:v'=v) (Tp:B=H'.bx) (lR:T=H'.tk) (hmu:M=H'.mu) (he:e=.normal∨e=.ret:=by first|exact .inl rfl|exact .inr rfl):JF P rs H v H' e env H2:=by
 rw[uV]at hv;rw[C1]at hB;rw[C2]at hT;rw[C3]at hM;cases hv;cases hB;cases hT;cases hM;subst MY;refine⟨he,ps,.inr hs,rfl,⟨H2.bx.drop H'.bx.length,?_⟩,⟨H2.tk.drop H'.tk.length,?_⟩,⟨H2.mu.drop H'.mu.length,?_⟩,bz h1,bz h2,bz h3,tO hc,?_⟩
 ·conv=>lhs;rw[<-cA H'.bx.length H2.bx]
  rw[Tp]
 ·conv=>lhs;rw[<-cA H'.tk.length H2.tk]
  rw[lR]
 ·conv=>lhs;rw[<-cA H'.mu.length H2.mu]
  rw[hmu]
 rw[Tp]at hb;exact qq hb
end
section
variable{P:Program}{o:Oper}{ρ:Operand->PV}{H:PH}
end
section
variable{P:Program}{N:Nat}{Q:Exit->Env->PH->Prop}{env:Env}{H:PH}
def nK{x y:Code}(E:Env)(H':PH)(h1:PW P N x (Next (λenv' H1=>qX env' E∧kW P H1 H') Q) env H)(h2:PW P N y Q E H'):PW P N (.seq x y) Q env H:=
 uw (Mg h1 λe env' H1 h=>by
  cases e<;>simp only[Next]at h⊢;case normal=>exact ja h.1 h.2 h2
  all_goals exact h)
def AA{S:Type}{x y:Code}(E:S->Env)(H':S->PH)(I:S->Prop)(h1:PW P N x (Next (λenv' H1=>∃s,I s∧qX env' (E s)∧kW P H1 (H' s)) Q) env H)(h2:∀s,I s->PW P N y Q (E s) (H' s)):PW P N (.seq x y) Q env H:=
 uw (Mg h1 λe env' H1 h=>by
  cases e<;>simp only[Next]at h⊢;case normal=>obtain⟨s,hs,a,b⟩:=h;exact ja a b (h2 s hs)
  all_goals exact h)
def Rr:Code->Nat
 |.region id _ _=>id|.seq x _=>Rr x|.block _ x=>Rr x|.loop x=>Rr x|_=>100000
def BK(stops:List Nat){x y:Code}(_h:nv stops (Rr x)=false)(k:PW P N x (Next (PW P N y Q) Q) env H):PW P N (.seq x y) Q env H:=uw k
variable{code:Code}{size:Nat}{cs:List PV}
def Vb(b off e:Nat)(hs:kZ P e=some size)(hb:H.bx[b]?=some cs)(hk:cs[off]?=some .iM)
  (h:PW P N code Q env ⟨H.bx.set b (cs.set off (.own [] H.tk.length)),H.tk++[(e,0)],H.mu⟩):PW P N code Q env H:=by
 intro c a hr he;obtain⟨r1,e1⟩:=hr.Gi hs;have hlen:c.τ.length=H.tk.length:=by rw[<-hr.tk];simp
 have q7:(c.τ++[(⟨false,0,e,size,0,0⟩:Tok)])[H.tk.length]?=some ⟨false,0,e,size,0,0⟩:=by rw[<-hlen];simp
 have r2:Rel P ⟨c.σ,c.τ++[⟨false,0,e,size,0,0⟩],c.μ,c.hid,c.w⟩ ⟨H.bx.set b (cs.set off (.own [] H.tk.length)),H.tk++[(e,0)],H.mu⟩:=by refine{r1 with len:=by simpa using r1.len,bx:= ?_};intro i kh ds hi pO;by_cases eb:i=b;subst eb;rw[bZ (aR.1 hb).1]at pO;cases pO;obtain⟨jJ,T,a1,a2,a3⟩:=r1.bx i kh cs hi hb;refine⟨jJ,T,a1,by simpa using a2,λj p v hp hv=>?_⟩;by_cases ej:j=off;subst ej;rw[bZ (aR.1 hk).1]at hp;cases hp;have:=a3 j _ v hk hv;exact⟨RV.adR this.1 q7,this.2⟩;rw[bP (λe=>ej e.symm)]at hp;exact a3 j p v hp hv;rw[bP (λe=>eb e.symm)]at pO;exact r1.bx i kh ds hi pO
 refine wp_mono (h ⟨c.σ,c.τ++[⟨false,0,e,size,0,0⟩],c.μ,c.hid,c.w⟩ a r2 (he.mono e1)) ?_;rintro x a' w' ⟨c',env',H',q,rfl,kP,rX,mw⟩;exact⟨c',env',H',q,rfl,kP,e1.trans rX,mw⟩
end
section
variable{P:Program}{o:Oper}{ρ:Operand->PV}{H:PH}
end
section
variable{P:Program}{H H' H2:PH}{v:PV}{env:Env}
variable{rs:List ResultVar}{ps:List PV}{e:Exit}{v':PV}{B:List (List PV)}{M:List MO}
def C4{T:List (TypeId×Nat)}(hs:tS P env H2 rs=some ps)(hv:l9 (IJ ps)=some v')(hB:I4 (H2.bx.take H'.bx.length)=some B)(hT:I5 (H2.tk.take H'.tk.length)=some T)(hM:I6 (H2.mu.take H'.mu.length)=some M)
  (h1:Nat.ble H.bx.length H'.bx.length=true) (h2:Nat.ble H.tk.length H'.tk.length=true) (h3:Nat.ble H.mu.length H'.mu.length=true) (hc:pT H'.bx.length H'.tk.length H'.mu.length v'=true) (hb:yi H'.bx.length H'.tk.length H'.mu.length B=true)
  (MY:v'=v) (Tp:B=H'.bx) (lR:T=H'.tk) (hmu:M=H'.mu) (he:e=.normal∨e=.ret:=by first|exact .inl rfl|exact .inr rfl):JF P rs H v H' e env H2:=by
 rw[uV]at hv;rw[C1]at hB;rw[C2]at hT;rw[C3]at hM;cases hv;cases hB;cases hT;cases hM;subst MY;refine⟨he,ps,.inl hs,rfl,⟨H2.bx.drop H'.bx.length,?_⟩,⟨H2.tk.drop H'.tk.length,?_⟩,⟨H2.mu.drop H'.mu.length,?_⟩,bz h1,bz h2,bz h3,tO hc,?_⟩
 ·conv=>lhs;rw[<-cA H'.bx.length H2.bx]
  rw[Tp]
 ·conv=>lhs;rw[<-cA H'.tk.length H2.tk]
  rw[lR]
 ·conv=>lhs;rw[<-cA H'.mu.length H2.mu]
  rw[hmu]
 rw[Tp]at hb;exact qq hb
end
section
variable{P:Program}{c:Ctx}{H:PH}
variable{n:Nat}{es:List GV}{w':World}
def yO.reads{t:oZ}{e:TypeId}(h:yO P c t (.arr n e es))(lv:t.live=true)
  (hc:∀k,w'.cell? ⟨t.g,k,none⟩=c.w.cell? ⟨t.g,k,none⟩) (hS:∀p,p<es.length*t.size->S t.g p) (hk:yN c.w w' c.jq S):RG w' S (.sl es) (.slice (some ⟨t.g,0,none⟩) t.len t.cap):=by
 obtain⟨h1,h2,h3,h4⟩:=h;rcases h4 with⟨h4,_⟩|⟨_,cur,a1,a2,a3,a4,a5,a6⟩
 rw[lv]at h4;cases h4
 ·rw[h2];have oc:∀k,c.w.cell? ⟨t.g,k,none⟩=cur[k]? :=λk=>cell_of_row c.w t.g k cur e (0,0) a1;have hle:es.length*t.size<=cur.size:=by rw[a2];exact bg _ a3
  have hat:∀k,k<es.length*t.size->∃i j,k=i*t.size+j∧j<t.size∧i<es.length:=by intro k hk;have jX:0<t.size:=Nat.pos_of_ne_zero λe=>(by rw[e,dZ]at hk;omega);refine⟨k/t.size,k%t.size,?_,bL _ jX,?_⟩;rw[bG];exact(eX k t.size).symm;exact eW (by rw[bG];exact hk)
  refine .sl es _ t.cap t.size (λk=>cur.getD k undef) (λ_=>rfl) a3 a4 (λi x hx=>a5 x (aY hx)) (λk yt=>?_) (λi x j g hx hg=>?_)
  ·have iI:k<cur.size:=ab
   obtain⟨i,j,rfl,hj,hi⟩:=hat k yt;have hx:=aS hi;have hl:=a5 es[i] (bJ hi);have hg:=aS (show j<(es[i]).cells.length by rw[hl];exact hj);have hv:cur[i*t.size+j]?=some (cur.getD (i*t.size+j) undef):=(by rw[dr iI];simp[iI,bF]);refine⟨?_,?_,(a6 i _ j _ _ hx hg hv).2⟩;rw[add_eq _ _ rfl];simp only[bc];rw[hc,oc];exact hv;simp only[bc];exact hS _ yt
  ·have hi:=(aR.1 hx).1;have hj:=(aR.1 hg).1;rw[a5 x (aY hx)]at hj;have iI:i*t.size+j<cur.size:=by
    have:i*t.size+j<es.length*t.size:=(by have h1:(i+1)*t.size<=es.length*t.size:=bg _ hi;rw[bB,c8]at h1;omega);omega
   have hv:cur[i*t.size+j]?=some (cur.getD (i*t.size+j) undef):=(by rw[dr iI];simp[iI,bF]);exact(a6 i x j g _ hx hg hv).1.mono hk
end
variable{es:List GV}{n cap size off len cp:Nat}
def RG.sub{g:Nat}(h:RG w S (.sl es) (.slice (some ⟨g,0,none⟩) n cap))(kl:∀x∈es,x.cells.length=size)(h1:len<=cp)(h2:off+cp<=es.length):
  RG w S (.sl ((es.drop off).take len)) (.slice (some ⟨g,off*size,none⟩) len cp):=by
 cases h with
 |sl _ _ _ wy f ha hc hm hs hf hh=>
  have hl:((es.drop off).take len).length=len:=by simp;omega
  by_cases hz:len=0;subst hz;simp only[e8];exact .sl [] _ cp 0 (λ_=>undef) aa aa ab aa aa aa
  ·have iI:off<es.length:=ab
   have FG:=hs off es[off] (aS iI);rw[kl _ (bJ iI)]at FG;subst FG;have ny:∀(i:Nat) (e:GV),((es.drop off).take len)[i]?=some e->es[off+i]?=some e∧i<len:=(by intro i e he;rw[bq]at he;split at he;rename_i hi;rw[bD]at he;exact⟨he,hi⟩;cases he);have:=RG.sl (w:=w) (S:=S) ((es.drop off).take len) ⟨g,off*size,none⟩ cp size (λk=>f (off*size+k)) (λ_=>rfl) ab ab (λi e he=>hs (off+i) e (ny i e he).1)
    (λk hk=>by rw[hl]at hk;have yt:off*size+k<es.length*size:=(by have h3:(off+len)*size<=es.length*size:=bg _ ab;rw[bB]at h3;omega);obtain⟨c1,c2,c3⟩:=hf _ yt;rw[add_eq _ _ rfl]at c1⊢;simp only[bc]at c1 c2;exact⟨c1,c2,c3⟩)
    (λi e j gg he hg=>by have:=hh (off+i) e j gg (ny i e he).1 hg;rw[bB,ep]at this;exact this)
   rwa[hl]at this
def RG.ajH{a:Addr}(h:RG w S (.sl es) (.slice (some a) n cap))(h1:n<=cp)(h2:cp<=maxLen):RG w S (.sl es) (.slice (some a) n cp):=by
 cases h with
 |sl _ _ _ size f ha hc hm hs hf hh=>exact .sl es a cp size f ha h1 h2 hs hf hh
def RG.alM{g:Nat}(h:RG w S (.sl es) (.slice (some ⟨g,0,none⟩) n cap))(kl:∀x∈es,x.cells.length=size)(h1:len<=cp)(h2:cp<=maxLen)(h3:off+len<=es.length):
  RG w S (.sl ((es.drop off).take len)) (.slice (some ⟨g,off*size,none⟩) len cp):=(h.sub kl (aZ len) h3).ajH h1 h2
section
variable{P:Program}{o:Oper}{ρ:Operand->PV}{H:PH}
variable{y:Operand}{m:Nat}
def kO{x:Operand}{t e e':TypeId}{id:Nat}{i:Int}(ho:o.op=.indexAddr t x y)(ht:P.underlying t=some (.slice e))(hs:kZ P e=some m)(lY:ρ x=.lK id n)(hi:ρ y=.g (.int k i))
  (hm:H.mu[id]?=some (.arr n e' es)) (he:kZ P e'=some m) (h0:0<=i) (iI:i<es.length):PO P o ρ H (.kE id n i.toNat 0) H:=
 jr λc ρr hr hx=>by
  have h1:=hx x (by simp[ho,Op.operands]);have h2:=hx y (by simp[ho,Op.operands]);rw[lY]at h1;rw[hi]at h2;have h2:=k6 h2;generalize hv:ρr x=v at h1;cases h1 with
  |lK _ _ _ t' kp hn Kf pr=>
   obtain⟨a1,a2,a3,a4⟩:=hr.mu id t' _ kp hm;have kl:t'.size=m:=(by unfold kZ at he;rw[a3]at he;exact cE he);rcases pr a1.symm with⟨lv,rfl⟩|⟨lv,rfl⟩
   refine⟨.pointer (some ((⟨t'.g,0,none⟩:Addr).add (i.toNat*m))),?_,.kE id n i.toNat 0 _ t' kp hn (oT _ _ rfl) (λ_=>by rw[add_eq _ _ rfl,kl];simp)⟩;have vy:i.toNat<t'.len:=(by rw[a2];omega);have IL:0<=i∧i<(t'.len:Int):=⟨h0,by omega⟩;simp only[execOp,ho,hv,h2];simp[Instr.indexAt,asIntOf,run_underlying ht,IL,run_sizeOf hs]
   ·rcases a4 with⟨_,rfl⟩|⟨kj,_⟩
    simp at iI;omega;rw[lv]at kj;cases kj
variable{x':GV}
def yw{t:TypeId}{x:Operand}{id:Nat}{e:TypeId}{g:GV}(ho:o.op=.load t x)(h1:qY P t=some false)(hp:ρ x=.kE id n i off)
  (hm:H.mu[id]?=some (.arr n e es)) (lY:es[i]?=some x') (hg:x'.cells[off]?=some g):PO P o ρ H (.g g) H:=
 jr λc ρr hr hx=>by
  have kf:=hx x (by simp[ho,Op.operands]);rw[hp]at kf;generalize El:ρr x=u at kf;cases kf with
  |kE _ _ _ _ a t' kp hn hs pr=>
   obtain⟨a1,a2,a3,a4⟩:=hr.mu id t' _ kp hm;rcases a4 with⟨_,rfl⟩|⟨lv,cur,b1,b2,b3,b4,b5,b6⟩
   simp at lY
   ·have hi:=(aR.1 lY).1;have hj:=(aR.1 hg).1;rw[b5 x' (aY lY)]at hj;have iI:i*t'.size+off<cur.size:=by
     have h1:(i+1)*t'.size<=t'.cap*t'.size:=bg _ ab;rw[bB,c8]at h1;omega
    have hv:cur[i*t'.size+off]?=some cur[i*t'.size+off]:=dr iI;have hc:c.w.cell? a=some cur[i*t'.size+off]:=(by rw[pr a1.symm,cell_of_row c.w t'.g _ cur e (0,0) b1];exact hv);refine⟨cur[i*t'.size+off],by simp only[execOp,ho,El,Instr.loadAt,Instr.sureAddr];simp[px h1 _ _ hc],.g _ _ (b6 i x' off g _ lY hg hv).1⟩
def yx{t:TypeId}{x:Operand}{id:Nat}{e:TypeId}(ho:o.op=.load t x)(h1:qY P t=some true)(h2:kZ P t=some m)(hp:ρ x=.kE id n i off)
  (hm:H.mu[id]?=some (.arr n e es)) (lY:es[i]?=some x') (hg:off+m<=x'.cells.length):PO P o ρ H (.g (.agg ((x'.cells.drop off).take m))) H:=
 jr λc ρr hr hx=>by
  have kf:=hx x (by simp[ho,Op.operands]);rw[hp]at kf;generalize El:ρr x=u at kf;cases kf with
  |kE _ _ _ _ a t' kp hn hs pr=>
   obtain⟨a1,a2,a3,a4⟩:=hr.mu id t' _ kp hm;rcases a4 with⟨_,rfl⟩|⟨lv,cur,b1,b2,b3,b4,b5,b6⟩
   simp at lY
   ·have hi:=(aR.1 lY).1;have sv:=b5 x' (aY lY);have iI:∀j,j<m->i*t'.size+(off+j)<cur.size:=by
     intro j hj;have h1:(i+1)*t'.size<=t'.cap*t'.size:=bg _ ab;rw[bB,c8]at h1;omega
    have hv:∀j,j<m->cur[i*t'.size+(off+j)]?=some (cur.getD (i*t'.size+(off+j)) undef):=λj hj=>(by have:=iI j hj;rw[dr this];simp[this,bF]);have hl:=pt (w:=c.w) h1 h2 a (λj=>cur.getD (i*t'.size+(off+j)) undef) (λj hj=>by rw[add_eq _ _ hs,pr a1.symm,cell_of_row c.w t'.g _ cur e (0,0) b1];simp only[ep];exact hv j hj);refine⟨_,by simp only[execOp,ho,El,Instr.loadAt,Instr.sureAddr];simp[hl];rfl,.g _ _ (.agg _ _ ad ?_ ?_)⟩;intro v vI;simp at vI;obtain⟨j,hj,rfl⟩:=vI;have:=(b6 i x' (off+j) (x'.cells[off+j]'(by omega)) _ lY aa (hv j hj)).2;simpa[bF]using this;intro j p v G7 vI;simp[bq]at G7 vI;obtain⟨qC,G7⟩:=G7;obtain⟨i',h0,rfl⟩:=vI;obtain⟨h0,rfl⟩:=aR.1 h0;rw[eT];have:=(b6 i x' (off+j) p _ lY G7 (hv j qC)).1;simpa[bF]using this
def setCells(x:GV)(off:Nat)(cs:List GV):GV:=
 match x with
 |.agg ds=>.agg (ds.take off++cs++ds.drop (off+cs.length))
 |_=>match cs with|[g]=>g|_=>x
def AB{x:GV}{cs:List GV}(h:off+cs.length<=x.cells.length)(jX:0<cs.length)(h1:∀g∈cs,g.cells=[g]):(setCells x off cs).cells=x.cells.take off++cs++x.cells.drop (off+cs.length):=by
 have one:∀y:GV,y.cells=[y]->off+cs.length<=y.cells.length->∃g,cs=[g]∧off=0:=by
  intro y hy hl;rw[hy]at hl;simp at hl;match cs,jX,hl with
  |[g],_,hl=>exact⟨g,rfl,by simp at hl;omega⟩|g::g'::r,_,hl=>simp at hl;omega
 cases x with
 |agg ds=>rfl
 |_=>obtain⟨g,rfl,rfl⟩:=one _ rfl h;simp[setCells,GV.cells];exact h1 g aa
def Ni{x:GV}{cs:List GV}(h:off+cs.length<=x.cells.length)(jX:0<cs.length)(h1:∀g∈cs,g.cells=[g]):(setCells x off cs).cells.length=x.cells.length:=by rw[AB h jX h1];simp;omega
variable{ps:List PV}
def iP{t:TypeId}{x:Operand}{id:Nat}{e:TypeId}{cs:List GV}(ho:o.op=.store t x y)(hs:kZ P t=some m)(hp:ρ x=.kE id n i off)(hc:kc (ρ y)=some ps)(hg:yz ps=some cs)(hn:cs.length=m)(jX:0<m)
    (hm:H.mu[id]?=some (.arr n e es)) (lY:es[i]?=some x') (mK:off+m<=x'.cells.length):
    PO P o ρ H mW ⟨H.bx,H.tk,H.mu.set id (.arr n e (es.set i (setCells x' off cs)))⟩:=by
  intro c ρr hr hx;have kf:=hx x (by simp[ho,Op.operands]);have pD:=hx y (by simp[ho,Op.operands]);rw[hp]at kf;generalize El:ρr x=u at kf;obtain⟨f1,f2⟩:=pN pD hc;obtain⟨g1,g2⟩:=qM (c:=c) hg;have tK:∀(j:Nat) (g:GV) (v:Value),cs[j]?=some g->(ρr y).cells[j]?=some v->RG c.w c.jq g v∧v.oneCell'=true:=by intro j g v hj hv;have iI:j<ps.length:=(by rw[<-g1];exact(aR.1 hj).1);obtain⟨r1,r2⟩:=f2 j ps[j] v (aS iI) hv;exact⟨g2 j g ps[j] hj (aS iI) v r1,r2⟩
  have IP:(ρr y).cells.size=m:=by rw[<-f1,<-g1,hn]
  have jE:∀g∈cs,g.cells=[g]:=by intro g hgm;obtain⟨j,hj⟩:=bt hgm;have iI:j<(ρr y).cells.size:=(by rw[IP,<-hn];exact(aR.1 hj).1);obtain⟨r1,r2⟩:=tK j g _ hj (dr iI);exact r1.cells_one r2
  cases kf with
  |kE _ _ _ _ a t' kp hgn hsp pr=>
    obtain⟨a1,a2,a3,a4⟩:=hr.mu id t' _ kp hm;rcases a4 with⟨_,rfl⟩|⟨lv,cur,b1,b2,b3,b4,b5,b6⟩
    · simp at lY
    · have hi := (aR.1 lY).1
      have sv:=b5 x' (aY lY)
      have aqX:i*t'.size+t'.size<=cur.size:=by have h1:(i+1)*t'.size<=t'.cap*t'.size:=bg _ ab;rw[bB,c8]at h1;omega
      have DP:∀v∈(ρr y).cells.toList,v.oneCell'=true:=by intro v hv;obtain⟨j,hj,rfl⟩:=List.mem_iff_getElem.1 hv;have wT:j<cs.length:=(by rw[hn,<-IP];simpa using hj);exact(tK j cs[j] _ (aS wT) aa).2
      have lT:=run_storeCells_at P t'.g (i*t'.size+off) e (ρr y).cells.toList 0 cur c.w b1 ae DP
      simp only[b9]at lT
      have kX:(execOp ρr o).run P c.w=.ok .skip (c.w.setRow t'.g (cur.toList.take (i*t'.size+off)++(ρr y).cells.toList++cur.toList.drop (i*t'.size+off+(ρr y).cells.size)).toArray):=by rw[fA]at lT;rw[IP]at lT⊢;simp[execOp,ho,El,Instr.storeAt,Instr.sureAddr,storeVar,run_sizeOf hs,IP,pr a1.symm,lT]
      unfold kU
      rw[kX]
      generalize q7:(cur.toList.take (i*t'.size+off)++(ρr y).cells.toList++cur.toList.drop (i*t'.size+off+(ρr y).cells.size)).toArray=new
      have Vc:new.size=cur.size:=by rw[<-q7];simp[IP];omega
      have re:∀k v,new[k]?=some v->(k<i*t'.size+off∧cur[k]?=some v)∨(i*t'.size+off<=k∧k<i*t'.size+off+m∧(ρr y).cells[k-(i*t'.size+off)]?=some v)∨(i*t'.size+off+m<=k∧cur[k]?=some v):=by
        intro k v hk;rw[<-q7]at hk;simp only[dV]at hk;by_cases h1:k<i*t'.size+off
        · rw[bV,a8 ad]at hk
          simp only[bq,h1,gF]at hk
          exact .inl ⟨h1,by simpa using hk⟩
        · by_cases h2:k<i*t'.size+off+m
          · rw[bV,a7 ad,a8 (by simp[IP];omega)]at hk
            have l2:(cur.toList.take (i*t'.size+off)).length=i*t'.size+off:=by simp;omega
            rw[l2]at hk
            exact .inr (.inl ⟨by omega,h2,by simpa using hk⟩)
          · rw[a7 (by simp[IP];omega)]at hk
            have l2:(cur.toList.take (i*t'.size+off)++(ρr y).cells.toList).length=i*t'.size+off+m:=by simp[IP];omega
            rw[l2,bD,IP]at hk
            have e:i*t'.size+off+m+(k-(i*t'.size+off+m))=k:=ab
            rw[e]at hk
            exact .inr (.inr ⟨by omega,by simpa using hk⟩)
      have:=hr.FZ kp (t':=t') (o':=.arr n e (es.set i (setCells x' off cs))) rfl (.inl rfl) (w':=c.w.setRow t'.g new) rfl ⟨rfl,λ_=>by first|exact aZ _|exact fc _⟩ rfl aa (λb hb h=>setRow_other c.w t'.g b _ (h lv)) (λ_=>.inl ⟨lv,rfl⟩) (λhE=>?_)
      · exact⟨_,rfl,this.1,this.2,.g _ _ (.raw _)⟩
      · have adS:0<cs.length:=ab
        have z6:off+cs.length<=x'.cells.length:=ab
        refine⟨a1,by rw[List.length_set];exact a2,a3,.inr ⟨lv,new,setRow_heap c.w t'.g cur new e (0,0) b1,by rw[Vc];exact b2,by rw[List.length_set];exact b3,b4,?_,?_⟩⟩
        · intro z hz
          rcases List.mem_or_eq_of_mem_set hz with h|rfl
          · exact b5 z h
          · rw[Ni z6 adS jE];exact sv
        · intro i2 x2 j g v BL Cu vI
          by_cases zN:i2=i
          · subst zN
            rw[bZ hi]at BL
            cases BL
            rw[AB z6 adS jE]at Cu
            have hj:=(aR.1 Cu).1
            rcases re _ v vI with⟨k1,k2⟩|⟨k1,k2,k3⟩|⟨k1,k2⟩
            · rw[bV,a8 ad]at Cu
              simp only[bq]at Cu
              rw[aW ab]at Cu
              exact⟨(b6 i2 x' j g v lY Cu k2).1.mono hE.kF,(b6 i2 x' j g v lY Cu k2).2⟩
            · rw[bV,a7 ad,a8 ad]at Cu
              have l1:(x'.cells.take off).length=off:=by simp;omega
              rw[l1]at Cu
              rw[show i2*t'.size+j-(i2*t'.size+off)=j-off by omega]at k3
              exact⟨(tK _ g v Cu k3).1.mono hE.kF,(tK _ g v Cu k3).2⟩
            · rw[a7 ad]at Cu
              have l1:(x'.cells.take off++cs).length=off+cs.length:=by simp;omega
              rw[l1,bD,show off+cs.length+(j-(off+cs.length))=j by omega]at Cu
              exact⟨(b6 i2 x' j g v lY Cu k2).1.mono hE.kF,(b6 i2 x' j g v lY Cu k2).2⟩
          · rw[bP (λh=>zN h.symm)]at BL
            have hj:=(aR.1 Cu).1
            rw[b5 x2 (aY BL)]at hj
            have ug:cur[i2*t'.size+j]?=some v:=by
              rcases re _ v vI with⟨_,k2⟩|⟨k1,k2,_⟩|⟨_,k2⟩
              · exact k2
              · exfalso
                rcases Nat.lt_or_gt_of_ne zN with h|h
                · have:(i2+1)*t'.size<=i*t'.size:=bg _ h
                  rw[bB,c8]at this
                  omega
                · have:(i+1)*t'.size<=i2*t'.size:=bg _ h
                  rw[bB,c8]at this
                  omega
              · exact k2
            exact⟨(b6 i2 x2 j g v BL Cu ug).1.mono hE.kF,(b6 i2 x2 j g v BL Cu ug).2⟩
def Gj{x:Operand}{t e e':TypeId}{id:Nat}(ho:o.op=.call {callee:=.builtin .len,args:= #[x],argTypes:= #[t]})(ht:P.underlying t=some (.slice e))(lY:ρ x=.lK id n)(hm:H.mu[id]?=some (.arr n e' es)):
  PO P o ρ H (.g (.int .i64 es.length)) H:=
 jr λc ρr hr hx=>by
  have h1:=hx x (by simp[ho,Op.operands,Call.operands]);rw[lY]at h1;generalize hv:ρr x=v at h1;cases h1 with
  |lK _ _ _ t' kp hn Kf pr=>
   obtain⟨a1,a2,a3,a4⟩:=hr.mu id t' _ kp hm;refine⟨.int .i64 es.length,?_,.g _ _ (.int _ _)⟩;rcases pr a1.symm with⟨lv,rfl⟩|⟨lv,rfl⟩
   rw[<-a2];simp[execOp,ho,resolve,invoke,builtin,hv,Builtin.len_,run_underlying ht,goInt]
   ·rcases a4 with⟨_,rfl⟩|⟨kj,_⟩
    simp[execOp,ho,resolve,invoke,builtin,hv,Builtin.len_,run_underlying ht,goInt];rw[lv]at kj;cases kj
end
end Go.Pure