/- A generic layer: values without memory, and code over them. -/
import Derived.Test.YtdoenpeadkoklaaGreatFmtBesafterPureA
import Derived.Laws.StructEq
import Derived.ProofKit
import Derived.OpenVars
import Derived.JoinedCond
import Derived.Laws.IdiomStrings
import Derived.Laws.BytesArg
namespace Go.Pure
open Go
section
variable{P:Program}{N:Nat}{all:Array Oper}{K:List Nat}{Z:Env→PH→Prop}{rest:List Oper}{env:Env}{H H':PH}{v:PV}{d:Option Tmp}{op:Op}{ty:TypeId}{pos:String}{aft:Array Edge}{g:Option (Nat×Bool)}{o:Oper}
theorem POpsD_nil(h:Z env H):POpsD P N all K Z [] env H:=h
theorem dstK_of{o:Oper}(h:noneB (abT K o)=true):dstK K o=o.dst:=by
 unfold dstK
 rw[noneB_iff h]
theorem POpsD_run(hg:gd all ⟨d,op,ty,pos,aft,g⟩ env=some true)(hd:dstOk N d=true)(h:Cond P K ⟨d,op,ty,pos,aft,g⟩ env H v H')(k:POpsD P N all K Z rest (upd env d v) H')(hx:noneB (abT K ⟨d,op,ty,pos,aft,g⟩)=true:=by rfl):
  POpsD P N all K Z (⟨d,op,ty,pos,aft,g⟩::rest) env H:=by
 refine⟨dst_of hd, ?_⟩
 rw[hg]
 exact⟨v,H',h,by rw[dstK_of hx];exact k⟩
theorem Cond_f(h: ∀H1,PO P o env.eval H1 v H1)(hk:kindB P o.op=0:=by rfl):Cond P K o env H v H:= .inl ⟨alT_kind (P:=P) (by rw[hk];decide),abT_kind (P:=P) (by rw[hk];decide), .inl ⟨kindK_zero hk,rfl,fun H1 _=>h H1⟩⟩
theorem Cond_p(h: ∀H1,PO P o env.eval H1 v H1)(hk:frB K o=true:=by rfl):Cond P K o env H v H:= .inl ⟨(frB_tt hk).1,(frB_tt hk).2, .inl ⟨kindK_free hk,rfl,fun H1 _=>h H1⟩⟩
theorem Cond_c(h:PO P o env.eval H v H')(hq:KEq K H H':=by first|exact KEq.refl _ _|(repeat(first|exact trivial|refine And.intro rfl ?_|refine And.intro trivial ?_)))(hk:kindB P o.op=2:=by rfl)(hf:plB K o=true:=by rfl):Cond P K o env H v H':= .inl ⟨(plB_spec hf).1,(plB_spec hf).2.1, .inr (.inr (.inl ⟨kindK_of hf hk,h,hq⟩))⟩
theorem Cond_s(h:PO P o env.eval H v H')(hq:KSh K H H')(hk:kindB P o.op=3:=by rfl)(hf:plB K o=true:=by rfl):Cond P K o env H v H':= .inl ⟨(plB_spec hf).1,(plB_spec hf).2.1, .inr (.inr (.inr (.inl ⟨kindK_of hf hk,h,hq⟩)))⟩
theorem Cond_i(h: ∀H1,KSh K H H1→PO P o env.eval H1 v H1)(hk:kindB P o.op=0:=by rfl):Cond P K o env H v H:= .inl ⟨alT_kind (P:=P) (by rw[hk];decide),abT_kind (P:=P) (by rw[hk];decide), .inl ⟨kindK_zero hk,rfl,h⟩⟩
theorem Cond_m(h: ∀H1,KEq K H H1→PO P o env.eval H1 v H1)(hk:kindB P o.op=1:=by rfl)(hf:frB K o=false:=by rfl):Cond P K o env H v H:= .inl ⟨alT_kind (P:=P) (by rw[hk];decide),abT_kind (P:=P) (by rw[hk];decide), .inr (.inl ⟨kindK_of (pl_of_one hk hf) hk,rfl,h⟩)⟩
theorem Cond_l(h: ∀H1,PO P o env.eval H1 v H1)(hk:kindB P o.op=1:=by rfl):Cond P K o env H v H:=by
 cases hf:frB K o with
 |true=>exact Cond_p h hf
 |false=>exact Cond_m (fun H1 _=>h H1) hk hf
theorem Cond_box{b:Nat}(hk:kindB P o.op=1)(hK:cond (frB K o) (memB K (20000+b)) (memB K b)=true)(hKl:Nat.ble 10000 b=false)(h: ∀H1,H.bx[b]? =H1.bx[b]? →PO P o env.eval H1 v H1):Cond P K o env H v H:=by
 cases hf:frB K o with
 |true=>
  rw[hf,cond_true]at hK
  exact .inl ⟨(frB_tt hf).1,(frB_tt hf).2, .inl ⟨kindK_free hf,rfl,fun H1 hq=>h H1 (hq.fix b hK hKl)⟩⟩
 |false=>
  rw[hf,cond_false]at hK
  exact Cond_m (fun H1 hq=>h H1 (hq.at b (memB_iff.1 hK) hKl)) hk hf
theorem load_agg{ρ:Operand→PV}{t:TypeId}{x:Operand}{b off n:Nat}{cs:List PV}(ho:o.op= .load t x)(h1:aggB P t=some true)(h2:szB P t=some n)(hp:ρ x= .ptr b off)(hb:H.bx[b]? =some cs)(hn:Nat.ble (off+n) cs.length=true):
  PO P o ρ H (.agg ((cs.drop off).take n)) H:=PO_load_ptr_agg ho h1 h2 hp hb (Nat.le_of_ble_eq_true hn)
theorem load_pat{ρ:Operand→PV}{t:TypeId}{x:Operand}{n:Nat}{cs:List GV}(ho:o.op= .load t x)(h1:aggB P t=some true)(h2:szB P t=some n)(hp:ρ x= .pat cs)(hn:Nat.ble n cs.length=true):
  PO P o ρ H (.g (.agg (cs.take n))) H:=PO_load_pat_agg ho h1 h2 hp (Nat.le_of_ble_eq_true hn)
theorem store_box{ρ:Operand→PV}{t:TypeId}{x y:Operand}{b off n:Nat}{cs ds:List PV}(ho:o.op= .store t x y)(hs:szB P t=some n)(hp:ρ x= .ptr b off)(hc:pvCells (ρ y)=some cs)(hn:Nat.beq cs.length n=true)
  (hb:H.bx[b]? =some ds) (hl:Nat.ble (off+n) ds.length=true):PO P o ρ H undefP ⟨H.bx.set b (splice ds off cs),H.tk,H.mu⟩:=
 PO_store ho hs hp hc (Nat.eq_of_beq_eq_true hn) hb (Nat.le_of_ble_eq_true hl)
theorem upd_same{env:Env}{d:Tmp}{b c:Bool}(h:env d= .g (.bool b))(e:b=c):upd env (some d) (.g (.bool c))=env:=by
 subst e
 funext t
 simp only[upd]
 cases hb:Nat.beq t d with
 |true=>rw[Nat.eq_of_beq_eq_true hb,cond_true,h]
 |false=>rfl
theorem POps_branch{Z:Env→PH→Prop}{dj:Tmp}{b:Bool}(hb:env dj= .g (.bool b))(h1:b=true→POps P N all Z rest (upd env (some dj) (.g (.bool true))) H)(h2:b=false→POps P N all Z rest (upd env (some dj) (.g (.bool false))) H):
  POps P N all Z rest env H:=by
 cases b with
 |true=>have:=h1 rfl;rwa[upd_same hb rfl]at this
 |false=>have:=h2 rfl;rwa[upd_same hb rfl]at this
theorem POpsD_branch{dj:Tmp}{b:Bool}(hb:env dj= .g (.bool b))(h1:b=true→POpsD P N all K Z rest (upd env (some dj) (.g (.bool true))) H)(h2:b=false→POpsD P N all K Z rest (upd env (some dj) (.g (.bool false))) H):
  POpsD P N all K Z rest env H:=by
 cases b with
 |true=>have:=h1 rfl;rwa[upd_same hb rfl]at this
 |false=>have:=h2 rfl;rwa[upd_same hb rfl]at this
def gslot(all:Array Oper):List Oper→Option Tmp
 |o::_=>match o.guard with|some (j,_)=>(all.toList[j]?).bind (·.dst)|none=>none
 |[]=>none
theorem POps_split{Z:Env→PH→Prop}{dj:Tmp}{b:Bool}(_hj:gslot all rest=some dj)(hb:env dj= .g (.bool b))(h1:b=true→POps P N all Z rest (upd env (some dj) (.g (.bool true))) H)(h2:b=false→POps P N all Z rest (upd env (some dj) (.g (.bool false))) H):
  POps P N all Z rest env H:=POps_branch hb h1 h2
theorem POpsD_split{dj:Tmp}{b:Bool}(_hj:gslot all rest=some dj)(hb:env dj= .g (.bool b))(h1:b=true→POpsD P N all K Z rest (upd env (some dj) (.g (.bool true))) H)(h2:b=false→POpsD P N all K Z rest (upd env (some dj) (.g (.bool false))) H):
  POpsD P N all K Z rest env H:=POpsD_branch hb h1 h2
theorem PW_cond_t{x:Operand}{t e:Code}{Q:Exit→Env→PH→Prop}(hx:env.eval x= .g (.bool true))(h:PW P N t Q env H):PW P N (.cond x t e) Q env H:=PW_cond hx (fun _=>h) (fun h=>by cases h)
theorem PW_cond_f{x:Operand}{t e:Code}{Q:Exit→Env→PH→Prop}(hx:env.eval x= .g (.bool false))(h:PW P N e Q env H):PW P N (.cond x t e) Q env H:=PW_cond hx (fun h=>by cases h) (fun _=>h)
def isG:PV→Bool| .g _=>true|_=>false
def allB:List PV→Bool|[]=>true|p::r=>isG p&&allB r
theorem allB_spec: ∀{ps:List PV},allB ps=true→ ∃as:List GV,ps=as.map .g
 |[],_=>⟨[],rfl⟩
 |p::r,h=>by
  simp only[allB,Bool.and_eq_true]at h
  obtain⟨as,rfl⟩:=allB_spec h.2
  cases p with
  |g x=>exact⟨x::as,rfl⟩
  |_=>simp[isG]at h
def closedB:PV→Bool| .g _=>true| .tuple cs=>allB cs|_=>false
theorem closedB_spec{v:PV}(h:closedB v=true):closedV v:=by
 unfold closedB at h
 split at h
 ·trivial
 ·obtain⟨as,rfl⟩:=allB_spec h
  intro p hp
  obtain⟨x,_,rfl⟩:=List.mem_map.1 hp
  exact⟨x,rfl⟩
 ·cases h
def packs(ρ:Operand→PV):List Operand→List PV
 |[]=>[]
 |x::r=>pack (ρ x)::packs ρ r
theorem packs_eq(ρ:Operand→PV): ∀l:List Operand,packs ρ l=l.map fun x=>pack (ρ x)
 |[]=>rfl
 |x::r=>by rw[packs,packs_eq ρ r];rfl
theorem call_pure{ρ:Operand→PV}{f:Operand}{args:Array Operand}{ts:Array TypeId}{id:FuncId}{ps:List PV}{v:PV}(ho:o.op= .call {callee:= .value f,args:=args,argTypes:=ts})
  (hf:ρ f= .g (.raw (.func (.func id) #[] #[]))) (he:enterB P id=true) (hp:PC P id ps ⟨[],[],[]⟩ v ⟨[],[],[]⟩) (ha:packs ρ args.toList=ps) (hps:allB ps=true) (hv:closedB v=true):PO P o ρ H v H:=by
 obtain⟨as,rfl⟩:=allB_spec hps
 exact PO_call_pure ho hf he (by rw[groundArgs,←packs_eq];exact ha) (closedB_spec hv) hp
theorem Ret_int{rs:List ResultVar}{ps:List PV}{e:Exit}{H2:PH}{k:IntKind}{a b:Int}(hs:resVs P env H2 rs=some ps)(hv:retV ps= .g (.int k a))(ha:a=b)(he:e= .normal∨e= .ret:=by first|exact .inl rfl|exact .inr rfl):
  Ret P rs ⟨[],[],[]⟩ (.g (.int k b)) ⟨[],[],[]⟩ e env H2:=Ret_pure hs (ha▸hv) (.g _) he
theorem Ret_bool{rs:List ResultVar}{ps:List PV}{e:Exit}{H2:PH}{a b:Bool}(hs:resVs P env H2 rs=some ps)(hv:retV ps= .g (.bool a))(ha:a=b)(he:e= .normal∨e= .ret:=by first|exact .inl rfl|exact .inr rfl):
  Ret P rs ⟨[],[],[]⟩ (.g (.bool b)) ⟨[],[],[]⟩ e env H2:=Ret_pure hs (ha▸hv) (.g _) he
theorem Ret_g{rs:List ResultVar}{ps:List PV}{e:Exit}{H2:PH}{a b:GV}(hs:resVs P env H2 rs=some ps)(hv:retV ps= .g a)(ha:a=b)(he:e= .normal∨e= .ret:=by first|exact .inl rfl|exact .inr rfl):
  Ret P rs ⟨[],[],[]⟩ (.g b) ⟨[],[],[]⟩ e env H2:=Ret_pure hs (ha▸hv) (.g _) he
end
def placesB(P:Program)(t:TypeId):Option (List (Nat×Nat)):=
 match P.underlying t with
 |some (.struct fs)=>fs.toList.mapM fun f=>(szB P f.type).map fun n=>(f.offset,n)
 |_=>none
def fillP(pl:Nat→Option (Nat×Nat)):List PV→List (Nat×PV)→Option (List PV)
 |cells,[]=>some cells
 |cells,(i,p)::r=>
  match pl i,pvCells p with
  |some (off,n),some cs=>bif Nat.beq cs.length n&&Nat.ble (off+n) cells.length then fillP pl (splice cells off cs) r else none
  |_,_=>none
def RCs(c:Ctx)(cs:List PV)(vs:Array Value):Prop:=
 vs.size=cs.length∧ ∀(j:Nat) (p:PV) (v:Value),cs[j]? =some p→vs[j]? =some v→RV c p v∧v.oneCell'=true
theorem foldl_set(f:Nat): ∀(l:List Value) (k:Nat) (cells:Array Value),((l.zipIdx k).foldl (fun cs (x:Value×Nat)=>cs.setIfInBounds (f+x.2) x.1) cells).size=cells.size∧
  ∀i:Nat,i<cells.size→((l.zipIdx k).foldl (fun cs (x:Value×Nat)=>cs.setIfInBounds (f+x.2) x.1) cells)[i]? =if f+k≤i∧i<f+k+l.length then l[i-(f+k)]? else cells[i]?
 |[],k,cells=>by simp;omega
 |v::l,k,cells=>by
  obtain⟨h1,h2⟩:=foldl_set f l (k+1) (cells.setIfInBounds (f+k) v)
  simp only[List.zipIdx_cons,List.foldl_cons]
  refine⟨by rw[h1];simp,fun i hi=> ?_⟩
  rw[h2 i (by simpa using hi)]
  by_cases e:i=f+k
  ·subst e
   have: ¬(f+(k+1)≤f+k∧f+k<f+(k+1)+l.length):=by omega
   rw[if_neg this,if_pos (by simp)]
   simp[hi]
  ·by_cases h:f+(k+1)≤i∧i<f+(k+1)+l.length
   ·rw[if_pos h,if_pos (by simp;omega)]
    have:i-(f+k)=(i-(f+(k+1)))+1:=by omega
    rw[this,List.getElem?_cons_succ]
   ·rw[if_neg h,if_neg (by simp;omega)]
    have e': ¬f+k=i:=fun x=>e x.symm
    simp[e']
theorem splice_ok{c:Ctx}{cs ds:List PV}{vs:Array Value}(h:RCs c cs vs){u:Array Value}(hd:RCs c ds u){off:Nat}(hl:off+ds.length≤cs.length):
  RCs c (splice cs off ds) (u.zipIdx.foldl (fun cs (x:Value×Nat)=>cs.setIfInBounds (off+x.2) x.1) vs):=by
 have key:=foldl_set off u.toList 0 vs
 have e:u.zipIdx.foldl (fun cs (x:Value×Nat)=>cs.setIfInBounds (off+x.2) x.1) vs=(u.toList.zipIdx 0).foldl (fun cs (x:Value×Nat)=>cs.setIfInBounds (off+x.2) x.1) vs:=by
  rw[←Array.foldl_toList];simp
 rw[e]
 have hsl:(splice cs off ds).length=cs.length:=by simp[splice];omega
 refine⟨by rw[key.1,h.1,hsl],fun j p v hp hv=> ?_⟩
 have hj:j<vs.size:=by rw[h.1,←hsl];exact(List.getElem?_eq_some_iff.1 hp).1
 rw[key.2 j hj]at hv
 simp only[Nat.add_zero,Array.length_toList]at hv
 unfold splice at hp
 by_cases h1:j<off
 ·rw[if_neg (by omega)]at hv
  rw[List.append_assoc,List.getElem?_append_left (by simp;omega),List.getElem?_take,if_pos h1]at hp
  exact h.2 j p v hp hv
 ·by_cases h2:j<off+ds.length
  ·rw[if_pos (by rw[hd.1];omega)]at hv
   rw[List.append_assoc,List.getElem?_append_right (by simp;omega),List.getElem?_append_left (by simp;omega)]at hp
   have l1:(List.take off cs).length=off:=by simp;omega
   rw[l1]at hp
   exact hd.2 (j-off) p v hp (by simpa using hv)
  ·rw[if_neg (by rw[hd.1];omega)]at hv
   rw[List.getElem?_append_right (by simp;omega)]at hp
   have l1:(List.take off cs++ds).length=off+ds.length:=by simp;omega
   rw[l1,List.getElem?_drop,show off+ds.length+(j-(off+ds.length))=j by omega]at hp
   exact h.2 j p v hp hv
theorem fill_ok{c:Ctx}{pl:Nat→Option (Nat×Nat)}: ∀(ps:List (Nat×PV)) (us:List (Nat×Value)) (cs:List PV) (vs:Array Value) (cs':List PV),RCs c cs vs→ps.length=us.length→
  (∀(k:Nat) (x:Nat×PV) (y:Nat×Value),ps[k]? =some x→us[k]? =some y→x.1=y.1∧RV c x.2 y.2)→fillP pl cs ps=some cs'→ ∃vs',Instr.fill pl vs us=some vs'∧RCs c cs' vs'
 |[],[],cs,vs,cs',h,_,_,hf=>by simp[fillP]at hf;subst hf;exact⟨vs,rfl,h⟩
 |(i,p)::ps,(i',v)::us,cs,vs,cs',h,hl,hr,hf=>by
  obtain⟨e,hv⟩:=hr 0 _ _ rfl rfl
  simp only at e hv
  subst e
  unfold fillP at hf
  split at hf
  ·rename_i off n ds hpl hds
   cases hb:(Nat.beq ds.length n&&Nat.ble (off+n) cs.length)with
   |false=>rw[hb]at hf;cases hf
   |true=>
    rw[hb,cond_true]at hf
    simp only[Bool.and_eq_true]at hb
    have e1:=Nat.eq_of_beq_eq_true hb.1
    have e2:=Nat.le_of_ble_eq_true hb.2
    obtain⟨f1,f2⟩:=pvCells_ok hv hds
    have hd:RCs c ds v.cells:=⟨f1.symm,f2⟩
    have hs:=splice_ok h hd (off:=off) (by omega)
    obtain⟨vs',g1,g2⟩:=fill_ok ps us _ _ cs' hs (by simpa using hl) (fun k x y hx hy=>hr (k+1) x y (by simpa using hx) (by simpa using hy)) hf
    refine⟨vs', ?_,g2⟩
    unfold Instr.fill
    simp only[hpl]
    have hcond:(decide (v.cells.size≠n)||decide (off+v.cells.size>vs.size))=false:=by
     simp only[Bool.or_eq_false_iff,decide_eq_false_iff_not]
     rw[h.1,←f1]
     omega
    have:(v.cells.size≠n||off+v.cells.size>vs.size)=false:=hcond
    rw[this]
    simpa using g1
  ·cases hf
 |[],_::_,_,_,_,_,hl,_,_=>by simp at hl
 |_::_,[],_,_,_,_,hl,_,_=>by simp at hl
theorem run_mapM{P:Program}{α β:Type}{f:α→Sem β}{g:α→Option β}{w:World}(h: ∀a b,g a=some b→(f a).run P w= .ok b w): ∀(l:List α) (bs:List β),l.mapM g=some bs→(l.mapM f).run P w= .ok bs w
 |[],bs,hb=>by simp at hb;subst hb;simp
 |a::l,bs,hb=>by
  simp only[List.mapM_cons,Option.bind_eq_bind,Option.bind_eq_some_iff]at hb
  obtain⟨b,hb1,bs',hb2,hb3⟩:=hb
  simp at hb3
  subst hb3
  simp only[List.mapM_cons,Sem.run_bind,h a b hb1,Result.andThen_ok,run_mapM h l bs' hb2,Sem.run_pure]
section
variable{P:Program}{o:Oper}{ρ:Operand→PV}{H:PH}
def partsP(ρ:Operand→PV):List (Nat×Operand)→List (Nat×PV)
 |[]=>[]
 |(i,x)::r=>(i,ρ x)::partsP ρ r
theorem partsP_eq(ρ:Operand→PV): ∀l,partsP ρ l=l.map fun x=>(x.1,ρ x.2)
 |[]=>rfl
 |(i,x)::r=>by rw[partsP,partsP_eq ρ r];rfl
def pls(l:List (Nat×Nat))(i:Nat):Option (Nat×Nat):=l[i]?
theorem zero_ok(c:Ctx){z:Value}(h1:z.cells.toList.all (·.oneCell')=true):RCs c (z.cells.toList.map constC) z.cells:=by
 refine⟨by simp,fun j p v hp hv=> ?_⟩
 simp only[List.getElem?_map,Option.map_eq_some_iff]at hp
 obtain⟨u,hu,rfl⟩:=hp
 rw[Array.getElem?_toList,hv]at hu
 cases hu
 exact⟨constC_ok _ _,List.all_eq_true.1 h1 v (by rw[Array.mem_toList_iff];exact Array.mem_of_getElem? hv)⟩
theorem RCs.agg{c:Ctx}{cs:List PV}{vs:Array Value}(h:RCs c cs vs):RV c (.agg cs) (.agg vs):=by
 refine .agg _ _ h.1.symm (fun v hv=> ?_) fun i p v hp hv=>(h.2 i p v hp hv).1
 obtain⟨j,hj,rfl⟩:=List.mem_iff_getElem.1 hv
 have hj':j<vs.size:=by simpa using hj
 exact(h.2 j (cs[j]'(by rw[←h.1];exact hj')) _ (List.getElem?_eq_getElem _) (by simp[hj'])).2
theorem PO_build{t:TypeId}{parts:Array (Nat×Operand)}{z:Value}{pl:List (Nat×Nat)}{cs:List PV}(ho:o.op= .build t parts)(hz:zeroB P t=some z)(h1:z.cells.toList.all (·.oneCell')=true)(hp:placesB P t=some pl)
  (hf:fillP (pls pl) (z.cells.toList.map constC) (partsP ρ parts.toList)=some cs):PO P o ρ H (.agg cs) H:=
 PO_val fun c ρr hr hx=>by
  obtain⟨vs',g1,g2⟩:=fill_ok (c:=c) (partsP ρ parts.toList) ((parts.map fun x=>(x.1,ρr x.2)).toList) _ _ cs (zero_ok c h1) (by simp[partsP_eq]) (by
   intro k x y hx1 hy1
   simp only[partsP_eq,List.getElem?_map,Option.map_eq_some_iff,Array.toList_map]at hx1 hy1
   obtain⟨q,hq,rfl⟩:=hx1
   obtain⟨q',hq',rfl⟩:=hy1
   rw[hq]at hq'
   cases hq'
   refine⟨rfl,hx q.2 ?_⟩
   simp only[ho,Op.operands,List.mem_map]
   exact⟨q,List.mem_of_getElem? hq,rfl⟩) hf
  refine⟨.agg vs', ?_,g2.agg⟩
  unfold placesB at hp
  split at hp
  ·rename_i fs hu
   have hpl:=run_mapM (P:=P) (w:=c.w) (f:=fun f:Field=>do pure (f.offset,←sizeOf f.type)) (fun f b hb=>by
    simp only[Option.map_eq_some_iff]at hb
    obtain⟨n,hn,rfl⟩:=hb
    simp[run_sizeOf hn]) _ _ hp
   have g1':Instr.fill (fun i=>(pl.toArray)[i]?) z.cells (parts.map fun x=>(x.1,ρr x.2)).toList=some vs':=by
    have:(fun i=>(pl.toArray)[i]?)=pls pl:=funext fun i=>by simp[pls]
    rw[this];exact g1
   simp only[execOp,ho,Instr.build,Sem.run_bind,run_zero hz,Result.andThen_ok,run_underlying hu]
   have e:(fs.mapM fun f=>(do pure (f.offset,←sizeOf f.type):Sem (Nat×Nat))).run P c.w= .ok pl.toArray c.w:=by
    rw[←Array.toArray_toList (xs:=fs),List.mapM_toArray]
    simp only[Sem.run_map,hpl,Result.andThen_ok]
   simp only[e,Result.andThen_ok,g1',Sem.run_pure]
  ·cases hp
end
section
variable{P:Program}{o:Oper}{ρ:Operand→PV}{H:PH}
theorem PO_min{x y:Operand}{ts:Array TypeId}{k:IntKind}{a b:Int}(ho:o.op= .call {callee:= .builtin .min,args:= #[x,y],argTypes:=ts})(ha:ρ x= .g (.int k a))(hb:ρ y= .g (.int k b)):PO P o ρ H (.g (.int k (if b<a then b else a))) H:=
 PO_val fun c ρr hr hx=>by
  have h1:=hx x (by simp[ho,Op.operands,Call.operands])
  have h2:=hx y (by simp[ho,Op.operands,Call.operands])
  rw[ha]at h1;rw[hb]at h2
  exact⟨.int k (if b<a then b else a),by simp[execOp,ho,resolve,invoke,builtin,Builtin.min_,RV_int h1,RV_int h2,Builtin.min2], .g _ _ (.int _ _)⟩
theorem PO_max{x y:Operand}{ts:Array TypeId}{k:IntKind}{a b:Int}(ho:o.op= .call {callee:= .builtin .max,args:= #[x,y],argTypes:=ts})(ha:ρ x= .g (.int k a))(hb:ρ y= .g (.int k b)):PO P o ρ H (.g (.int k (if a<b then b else a))) H:=
 PO_val fun c ρr hr hx=>by
  have h1:=hx x (by simp[ho,Op.operands,Call.operands])
  have h2:=hx y (by simp[ho,Op.operands,Call.operands])
  rw[ha]at h1;rw[hb]at h2
  exact⟨.int k (if a<b then b else a),by simp[execOp,ho,resolve,invoke,builtin,Builtin.max_,RV_int h1,RV_int h2,Builtin.max2], .g _ _ (.int _ _)⟩
end
def kindEq:IntKind→IntKind→Bool
 | .i8, .i8| .i16, .i16| .i32, .i32| .i64, .i64| .u8, .u8| .u16, .u16| .u32, .u32| .u64, .u64=>true
 |_,_=>false
theorem kindEq_ok{a b:IntKind}(h:kindEq a b=true):a=b:=by cases a<;>cases b<;>first|rfl|cases h
def intFs(P:Program):List Field→Option (List Nat)
 |[]=>some []
 |f::r=>match P.underlying f.type,intFs P r with
  |some (.int _),some l=>bif f.name== "_" then none else some (f.offset::l)
  |_,_=>none
def eqfB(P:Program)(t:TypeId):Option (List Nat):=
 match P.underlying t with
 |some (.struct fs)=>bif P.stoodInHeld t||P.eqGuardType P.depth t then none else intFs P fs.toList
 |_=>none
def eqI(cs ds:List PV):List Nat→Option Bool
 |[]=>some true
 |k::r=>match cs[k]?,ds[k]? with
  |some (.g (.int k1 a)),some (.g (.int k2 b))=>bif kindEq k1 k2 then(match eqI cs ds r with
   |some e=>some ((a==b)&&e)
   |none=>none)else none
  |_,_=>none
theorem run_eqFields{P:Program}{w:World}{c:Ctx}{cs ds:List PV}{xs ys:Array Value}(h1:RCs c cs xs)(h2:RCs c ds ys): ∀(fs:List Field) (l:List Nat) (e:Bool),intFs P fs=some l→eqI cs ds l=some e→(Op.eqFields 9999 xs ys fs).run P w= .ok e w
 |[],l,e,hl,he=>by
  simp only[intFs,Option.some.injEq]at hl
  subst hl
  simp only[eqI,Option.some.injEq]at he
  subst he
  rfl
 |f::fs,l,e,hl,he=>by
  simp only[intFs]at hl
  split at hl
  ·rename_i k l' hu hl'
   cases hn:f.name== "_" with
   |true=>rw[hn]at hl;cases hl
   |false=>
    rw[hn]at hl
    simp only[cond_false,Option.some.injEq]at hl
    subst hl
    simp only[eqI]at he
    split at he
    ·rename_i k1 a k2 b ha hb
     cases hk:kindEq k1 k2 with
     |false=>rw[hk]at he;cases he
     |true=>
      rw[hk,cond_true]at he
      have ek:=kindEq_ok hk
      subst ek
      split at he
      ·rename_i e' he'
       cases he
       have ag:aggB P f.type=some false:=by simp[aggB,hu]
       have part1: ∀{cs:List PV} {xs:Array Value} {k:IntKind} {a:Int},RCs c cs xs→cs[f.offset]? =some (.g (.int k a))→(part f.type xs f.offset).run P w= .ok (.int k a) w:=by
        intro cs xs k a h ha
        have hlt:f.offset<xs.size:=by rw[h.1];exact(List.getElem?_eq_some_iff.1 ha).1
        have hx:=h.2 f.offset _ xs[f.offset] ha (by simp[hlt])
        have hx':=RV_int hx.1
        simp only[part,Sem.run_bind,run_isAgg ag,Result.andThen_ok,Bool.false_eq_true,if_false,Array.getElem?_eq_getElem hlt,hx',Sem.run_pure]
       have hne:f.name≠ "_" :=by simpa using hn
       have ih:=run_eqFields (w:=w) h1 h2 fs l' e' hl' he'
       have hq:=run_equalIn_int (P:=P) w 9998 f.type k1 k a b hu
       simp only[Op.eqFields,hne,ne_eq,not_false_eq_true,if_true,Sem.run_bind,part1 h1 ha,part1 h2 hb,Result.andThen_ok,hq]
       cases a==b with
       |true=>simpa using ih
       |false=>simp
      ·cases he
    ·cases he
  ·cases hl
structure Tab where
 ag:Nat→Option Bool
 sz:Nat→Option Nat
 fd:Nat→Nat→Option (Nat×Nat)
 el:Nat→Option Nat
 bo:Nat→Bool
 st:Nat→Bool
 zr:Nat→Option (List PV)
 pl:Nat→Option (List (Nat×Nat))
 ef:Nat→Option (List Nat)
structure TabOk(P:Program)(T:Tab):Prop where
 ag: ∀t b,T.ag t=some b→aggB P t=some b
 sz: ∀t n,T.sz t=some n→szB P t=some n
 fd: ∀t k d ft,T.fd t k=some (d,ft)→fieldB P t k=some (d,ft)
 el: ∀t e,T.el t=some e→P.underlying t=some (.slice e)
 bo: ∀t,T.bo t=true→P.underlying t=some .bool
 st: ∀t,T.st t=true→P.underlying t=some .string
 zr: ∀t cs,T.zr t=some cs→ ∃z,zeroB P t=some z∧z.cells.toList.all (·.oneCell')=true∧cs=z.cells.toList.map constC
 pl: ∀t p,T.pl t=some p→placesB P t=some p
 ef: ∀t l,T.ef t=some l→eqfB P t=some l
def binP(T:Tab)(op:BinOp)(t:Nat)(a b:PV):Option PV:=
 match a,b with
 | .g (.int k x), .g (.int k' y)=>bif kindEq k k' then(match intOp op k x y with|some g=>some (.g g)|none=>none)else none
 | .g (.str x), .g (.str y)=>match strOp op x y with|some g=>some (.g g)|none=>none
 | .g (.bool x), .g (.bool y)=>bif T.bo t then(match op with| .eql=>some (.g (.bool (x==y)))| .neq=>some (.g (.bool (x !=y)))|_=>none)else none
 | .g (.agg xs), .g (.agg ys)=>match T.ef t with
  |some l=>match op with
   | .eql=>match eqI (xs.map .g) (ys.map .g) l with|some e=>some (.g (.bool e))|none=>none
   | .neq=>match eqI (xs.map .g) (ys.map .g) l with|some e=>some (.g (.bool (!e)))|none=>none
   |_=>none
  |none=>none
 | .agg xs, .agg ys=>match T.ef t with
  |some l=>match op with
   | .eql=>match eqI xs ys l with|some e=>some (.g (.bool e))|none=>none
   | .neq=>match eqI xs ys l with|some e=>some (.g (.bool (!e)))|none=>none
   |_=>none
  |none=>none
 |_,_=>none
def unP(op:UnOp)(a:PV):Option PV:=
 match op,a with
 | .not, .g (.bool b)=>some (.g (.bool (!b)))
 | .neg, .g (.int k n)=>some (.g (.int k (k.wrap (0-n))))
 |_,_=>none
def force:PV→Option PV
 | .g x=>some (.g x)
 | .own es id=>some (.own es id)
 | .ptr b off=>some (.ptr b off)
 | .nilp=>some .nilp
 | .nils=>some .nils
 | .pat cs=>some (.pat cs)
 | .clo f a b=>some (.clo f a b)
 | .agg cs=>some (.agg cs)
 | .tuple cs=>some (.tuple cs)
 | .lit es=>some (.lit es)
 | .mar id n=>some (.mar id n)
 | .mref id n i off=>some (.mref id n i off)
 | .mp id=>some (.mp id)
 | .vw id n off len cap=>some (.vw id n off len cap)
 | .glob g off=>some (.glob g off)
 | .kv g off=>some (.kv g off)
 | .ifc t p=>some (.ifc t p)
 | .any=>some .any
theorem force_eq(p:PV):force p=some p:=by cases p<;>rfl
def litL:List Nat→Nat→Option Nat
 |[],n=>some n
 |k::r,n=>bif Nat.beq n k then some k else litL r n
theorem litL_eq(n:Nat): ∀l:List Nat,litL l n=some n
 |[]=>rfl
 |k::r=>by
  unfold litL
  cases h:Nat.beq n k with
  |true=>rw[cond_true,Nat.eq_of_beq_eq_true h]
  |false=>exact litL_eq n r
def litO(n:Nat):Option Nat:=litL [0,1,2,3,4,5,6,7,8,9,10,11,12,13,14,15,16,17,18,19,20,21,22,23,24,25,26,27,28,29,30,31] n
theorem litO_eq(n:Nat):litO n=some n:=litL_eq n _
def forceL:List PV→Option (List PV)
 |[]=>some []
 |a::r=>match forceL r with
  |some r'=>some (a::r')
  |none=>none
theorem forceL_eq: ∀l:List PV,forceL l=some l
 |[]=>rfl
 |a::r=>by simp[forceL,forceL_eq r]
def forceB:List (List PV)→Option (List (List PV))
 |[]=>some []
 |a::r=>match forceB r with
  |some r'=>some (a::r')
  |none=>none
theorem forceB_eq: ∀l:List (List PV),forceB l=some l
 |[]=>rfl
 |a::r=>by simp[forceB,forceB_eq r]
def nrmV:PV→Option PV
 | .g x=>some (.g x)
 | .own es id=>match litO id with|some id'=>some (.own es id')|none=>none
 | .ptr b off=>match litO b with
  |some b'=>match litO off with|some off'=>some (.ptr b' off')|none=>none
  |none=>none
 | .nilp=>some .nilp
 | .nils=>some .nils
 | .pat cs=>some (.pat cs)
 | .clo f a b=>some (.clo f a b)
 | .agg cs=>match forceL cs with|some cs'=>some (.agg cs')|none=>none
 | .tuple cs=>match forceL cs with|some cs'=>some (.tuple cs')|none=>none
 | .lit es=>some (.lit es)
 | .mar id n=>match litO id with|some id'=>some (.mar id' n)|none=>none
 | .mref id n i off=>match litO id with
  |some id'=>match litO off with|some off'=>some (.mref id' n i off')|none=>none
  |none=>none
 | .mp id=>match litO id with|some id'=>some (.mp id')|none=>none
 | .vw id n off len cap=>match litO id with|some id'=>some (.vw id' n off len cap)|none=>none
 | .glob g off=>some (.glob g off)
 | .kv g off=>some (.kv g off)
 | .ifc t p=>some (.ifc t p)
 | .any=>some .any
theorem nrmV_eq(p:PV):nrmV p=some p:=by cases p<;>simp[nrmV,litO_eq,forceL_eq]
def hasCells:PV→Option (List PV)
 | .g (.agg cs)=>some (cs.map .g)
 | .agg cs=>some cs
 |_=>none
def popF(T:Tab)(o:Op)(ρ:Operand→PV):Option PV:=
 match o with
 | .move x| .assign x=>force (ρ x)
 | .pick c a b=>match ρ c with
  | .g (.bool true)=>force (ρ a)
  | .g (.bool false)=>force (ρ b)
  |_=>none
 | .fieldAddr s x k=>match T.fd s k with
  |some (d,_)=>match ρ x with
   | .ptr b off=>some (.ptr b (off+d))
   | .pat cs=>some (.pat (cs.drop d))
   | .mref id n i off=>some (.mref id n i (off+d))
   |_=>none
  |none=>none
 | .field s x k=>match T.fd s k with
  |some (d,ft)=>match T.ag ft with
   |some false=>match hasCells (ρ x)with
    |some cs=>cs[d]?
    |none=>none
   |_=>none
  |none=>none
 | .binOp op t x y _=>binP T op t (ρ x) (ρ y)
 | .unOp op _ x=>unP op (ρ x)
 | .build t parts=>match T.zr t with
  |some zs=>match T.pl t with
   |some pl=>match fillP (pls pl) zs (partsP ρ parts.toList)with
    |some cs=>some (.agg cs)
    |none=>none
   |none=>none
  |none=>none
 | .extract x i=>match ρ x with
  | .tuple ps=>ps[i]?
  |_=>none
 | .call {callee:= .builtin .len,args:=⟨[x]⟩,argTypes:=⟨[t]⟩}=>
  match T.el t with
  |some _=>match elems (ρ x)with
   |some es=>some (.g (.int .i64 es.length))
   |none=>none
  |none=>match ρ x with
   | .g (.str s)=>bif T.st t then some (.g (.int .i64 s.size))else none
   |_=>none
 | .call {callee:= .builtin .min,args:=⟨[x,y]⟩,argTypes:=_}=>match ρ x,ρ y with
  | .g (.int k a), .g (.int k' b)=>bif kindEq k k' then some (.g (.int k (if b<a then b else a)))else none
  |_,_=>none
 | .call {callee:= .builtin .max,args:=⟨[x,y]⟩,argTypes:=_}=>match ρ x,ρ y with
  | .g (.int k a), .g (.int k' b)=>bif kindEq k k' then some (.g (.int k (if a<b then b else a)))else none
  |_,_=>none
 | .load t x=>match ρ x with
  | .pat cs=>match T.ag t with
   |some false=>match cs with
    |g::_=>some (.g g)
    |[]=>none
   |some true=>match T.sz t with
    |some n=>bif Nat.ble n cs.length then some (.g (.agg (cs.take n)))else none
    |none=>none
   |none=>none
  |_=>none
 |_=>none
def popL (T:Tab)(o:Op)(ρ:Operand→PV)(H:PH):Option (Nat×PV):=
  match o with
  | .load t x=>match ρ x with
    | .ptr b off=>match H.bx[b]? with
      |some cs=>match T.ag t with
        |some false=>match cs[off]? with
          |some p=>match force p with
            |some q=>some (b,q)
            |none=>none
          |none=>none
        |some true=>match T.sz t with
          |some n=>bif Nat.ble (off+n) cs.length then some (b, .agg ((cs.drop off).take n))else none
          |none=>none
        |none=>none
      |none=>none
    |_=>none
  |_=>none
def popC(T:Tab)(o:Op)(ρ:Operand→PV):Option (List PV):=
 match o with
 | .box _ x=>pvCells (ρ x)
 | .alloc t=>T.zr t
 |_=>none
def newCells:PH→Nat→List PV→Option PH
 |⟨bx,tk,mu⟩,b,cs=>match forceL cs with
  |some cs'=>match forceB (bx.set b cs')with
   |some bx'=>some ⟨bx',tk,mu⟩
   |none=>none
  |none=>none
theorem newCells_eq(H:PH)(b:Nat)(cs:List PV):newCells H b cs=some ⟨H.bx.set b cs,H.tk,H.mu⟩:=by simp[newCells,forceL_eq,forceB_eq]
def popS (T:Tab)(o:Op)(ρ:Operand→PV)(H:PH):Option PH:=
  match o with
  | .store t x y=>match ρ x with
    | .ptr b off=>match T.sz t with
      |some n=>match pvCells (ρ y)with
        |some cs=>match H.bx[b]? with
          |some ds=>bif Nat.beq cs.length n&&Nat.ble (off+n) ds.length then newCells H b (splice ds off cs)else none
          |none=>none
        |none=>none
      |none=>none
    |_=>none
  |_=>none
section
variable{P:Program}{T:Tab}(hT:TabOk P T){o:Oper}{ρ:Operand→PV}{H:PH}{v:PV}
include hT
omit hT in
theorem PO_eqs{op:BinOp}{t u:TypeId}{x y:Operand}{xs ys:List PV}{l:List Nat}{e:Bool}(ho:o.op= .binOp op t x y u)(hop:op= .eql∨op= .neq)(hf:eqfB P t=some l)(ha:hasCells (ρ x)=some xs)(hb:hasCells (ρ y)=some ys)(he:eqI xs ys l=some e):
  PO P o ρ H (.g (.bool (if op= .eql then e else !e))) H:=
 PO_val fun c ρr hr hx=>by
  have cellsOf: ∀{p:PV} {v:Value} {cs:List PV},RV c p v→hasCells p=some cs→ ∃vs,v= .agg vs∧RCs c cs vs:=by
   intro p v cs h hc
   unfold hasCells at hc
   split at hc
   ·rename_i gs
    cases hc
    obtain⟨e1,e2⟩:=pvCells_ok h (cs:=gs.map .g) rfl
    cases h with
    |g _ _ hg=>cases hg;exact⟨_,rfl,e1.symm,e2⟩
   ·cases hc
    obtain⟨e1,e2⟩:=pvCells_ok h (cs:=cs) rfl
    cases h
    exact⟨_,rfl,e1.symm,e2⟩
   ·cases hc
  obtain⟨us,e1,r1⟩:=cellsOf (hx x (by simp[ho,Op.operands])) ha
  obtain⟨ws,e2,r2⟩:=cellsOf (hx y (by simp[ho,Op.operands])) hb
  unfold eqfB at hf
  split at hf
  ·rename_i fs hu
   cases hs:(P.stoodInHeld t||P.eqGuardType P.depth t)with
   |true=>rw[hs]at hf;cases hf
   |false=>
    rw[hs,cond_false]at hf
    simp only[Bool.or_eq_false_iff]at hs
    have hfs:P.fieldsOf t=fs:=by simp[Program.fieldsOf,hu]
    have hrun:(Op.equalIn 10000 t (.agg us) (.agg ws)).run P c.w= .ok e c.w:=by
     have:=run_equalIn_struct (P:=P) c.w 9999 t us ws (by rw[hfs];exact hu) hs.1
     rw[this,hfs]
     exact run_eqFields r1 r2 fs.toList l e hf he
    refine⟨.bool (if op= .eql then e else !e), ?_, .g _ _ (.bool _)⟩
    simp only[execOp,ho,e1,e2,Sem.run_bind,run_eqGuard_agg c.w op t x y us ws hs.2,Result.andThen_ok]
    rcases hop with rfl|rfl
    ·rw[run_eql_struct,hrun];rfl
    ·rw[run_neq_struct,hrun];rfl
  ·cases hf
theorem binP_ok{op:BinOp}{t u:TypeId}{x y:Operand}(ho:o.op= .binOp op t x y u)(h:binP T op t (ρ x) (ρ y)=some v):PO P o ρ H v H:=by
 unfold binP at h
 split at h
 ·rename_i k a k' b ha hb
  cases hk:kindEq k k' with
  |false=>rw[hk]at h;cases h
  |true=>
   rw[hk,cond_true]at h
   have e:=kindEq_ok hk
   subst e
   split at h
   ·rename_i g hg;cases h;exact PO_int ho ha hb hg
   ·cases h
 ·rename_i a b ha hb
  split at h
  ·rename_i g hg;cases h;exact PO_str ho ha hb hg
  ·cases h
 ·rename_i a b ha hb
  cases hk:T.bo t with
  |false=>rw[hk]at h;cases h
  |true=>
   rw[hk,cond_true]at h
   split at h
   ·cases h;exact PO_eqb ho (hT.bo t hk) ha hb
   ·cases h;exact PO_neb ho (hT.bo t hk) ha hb
   ·cases h
 ·rename_i xs ys ha hb
  split at h
  ·rename_i l hl
   split at h
   ·split at h
    ·rename_i e he;cases h;exact PO_eqs ho (.inl rfl) (hT.ef _ _ hl) (by rw[ha];rfl) (by rw[hb];rfl) he
    ·cases h
   ·split at h
    ·rename_i e he;cases h;exact PO_eqs ho (.inr rfl) (hT.ef _ _ hl) (by rw[ha];rfl) (by rw[hb];rfl) he
    ·cases h
   ·cases h
  ·cases h
 ·rename_i xs ys ha hb
  split at h
  ·rename_i l hl
   split at h
   ·split at h
    ·rename_i e he;cases h;exact PO_eqs ho (.inl rfl) (hT.ef _ _ hl) (by rw[ha];rfl) (by rw[hb];rfl) he
    ·cases h
   ·split at h
    ·rename_i e he;cases h;exact PO_eqs ho (.inr rfl) (hT.ef _ _ hl) (by rw[ha];rfl) (by rw[hb];rfl) he
    ·cases h
   ·cases h
  ·cases h
 ·cases h
theorem popF_ok(h:popF T o.op ρ=some v):PO P o ρ H v H:=by
 unfold popF at h
 split at h
 ·rename_i x ho;rw[force_eq]at h;cases h;exact PO_move ho
 ·rename_i x ho;rw[force_eq]at h;cases h;exact PO_assign ho
 ·rename_i c a b ho
  split at h
  ·rename_i hc;rw[force_eq]at h;cases h;have:=PO_pick (P:=P) (H:=H) ho hc;rwa[if_pos rfl]at this
  ·rename_i hc;rw[force_eq]at h;cases h;have:=PO_pick (P:=P) (H:=H) ho hc;rwa[if_neg (by simp)]at this
  ·cases h
 ·rename_i s x k ho
  split at h
  ·rename_i d ft hf
   split at h
   ·rename_i b off hp;cases h;exact PO_fieldAddr_ptr ho (hT.fd _ _ _ _ hf) hp
   ·rename_i cs hp;cases h;exact PO_fieldAddr_pat ho (hT.fd _ _ _ _ hf) hp
   ·rename_i id n i off hp;cases h;exact PO_fieldAddr_mref ho (hT.fd _ _ _ _ hf) hp
   ·cases h
  ·cases h
 ·rename_i s x k ho
  split at h
  ·rename_i d ft hf
   split at h
   ·rename_i hag
    split at h
    ·rename_i cs hcs
     unfold hasCells at hcs
     split at hcs
     ·rename_i gs hg;cases hcs;exact PO_field ho (hT.fd _ _ _ _ hf) (hT.ag _ _ hag) (by rw[hg];rfl) ⟨gs, .inl hg⟩ h
     ·rename_i gs hg;cases hcs;exact PO_field ho (hT.fd _ _ _ _ hf) (hT.ag _ _ hag) (by rw[hg];rfl) ⟨[], .inr ⟨_,hg⟩⟩ h
     ·cases hcs
    ·cases h
   ·cases h
  ·cases h
 ·rename_i op t x y u ho;exact binP_ok hT ho h
 ·rename_i op t x ho
  unfold unP at h
  split at h
  ·rename_i b hb;cases h;exact PO_not ho hb
  ·rename_i k n hb;cases h;exact PO_neg ho hb
  ·cases h
 ·rename_i t parts ho
  split at h
  ·rename_i zs hz
   split at h
   ·rename_i pl hpl
    split at h
    ·rename_i cs hcs
     cases h
     obtain⟨z,h1,h2,rfl⟩:=hT.zr t zs hz
     exact PO_build ho h1 h2 (hT.pl t pl hpl) hcs
    ·cases h
   ·cases h
  ·cases h
 ·rename_i x i ho
  split at h
  ·rename_i ps hp;exact PO_extract ho hp h
  ·cases h
 ·rename_i x t ho
  split at h
  ·rename_i e he
   split at h
   ·rename_i es hes;cases h;exact PO_len ho (hT.el t e he) hes
   ·cases h
  ·split at h
   ·rename_i s hs
    cases hk:T.st t with
    |false=>rw[hk]at h;cases h
    |true=>rw[hk,cond_true]at h;cases h;exact PO_lens ho (hT.st t hk) hs
   ·cases h
 ·rename_i x y ts ho
  split at h
  ·rename_i k a k' b ha hb
   cases hk:kindEq k k' with
   |false=>rw[hk]at h;cases h
   |true=>
    rw[hk,cond_true]at h;cases h
    have e:=kindEq_ok hk
    subst e
    exact PO_min ho ha hb
  ·cases h
 ·rename_i x y ts ho
  split at h
  ·rename_i k a k' b ha hb
   cases hk:kindEq k k' with
   |false=>rw[hk]at h;cases h
   |true=>
    rw[hk,cond_true]at h;cases h
    have e:=kindEq_ok hk
    subst e
    exact PO_max ho ha hb
  ·cases h
 ·rename_i t x ho
  split at h
  ·rename_i cs hp
   split at h
   ·rename_i hag
    split at h
    ·rename_i g r;cases h;exact PO_load_pat_one ho (hT.ag _ _ hag) hp rfl
    ·cases h
   ·rename_i hag
    split at h
    ·rename_i n hn
     cases hk:Nat.ble n cs.length with
     |false=>rw[hk]at h;cases h
     |true=>rw[hk,cond_true]at h;cases h;exact load_pat ho (hT.ag _ _ hag) (hT.sz _ _ hn) hp hk
    ·cases h
   ·cases h
  ·cases h
 ·cases h
theorem popL_ok{b:Nat}(h:popL T o.op ρ H=some (b,v)){H1:PH}(hb:H.bx[b]? =H1.bx[b]?):PO P o ρ H1 v H1:=by
 unfold popL at h
 split at h
 ·rename_i t x ho
  split at h
  ·rename_i b' off hp
   split at h
   ·rename_i cs hcs
    split at h
    ·rename_i hag
     split at h
     ·rename_i p hpp;rw[force_eq]at h;cases h;exact PO_load_ptr_one ho (hT.ag _ _ hag) hp (hb▸hcs) hpp
     ·cases h
    ·rename_i hag
     split at h
     ·rename_i n hn
      cases hk:Nat.ble (off+n) cs.length with
      |false=>rw[hk]at h;cases h
      |true=>rw[hk,cond_true]at h;cases h;exact load_agg ho (hT.ag _ _ hag) (hT.sz _ _ hn) hp (hb▸hcs) hk
     ·cases h
    ·cases h
   ·cases h
  ·cases h
 ·cases h
theorem popC_ok{cs:List PV}(h:popC T o.op ρ=some cs):PO P o ρ H (.ptr H.bx.length 0) ⟨H.bx++[cs],H.tk,H.mu⟩:=by
 unfold popC at h
 split at h
 ·rename_i t x ho;exact PO_box ho h
 ·rename_i t ho
  obtain⟨z,h1,h2,rfl⟩:=hT.zr t cs h
  exact PO_alloc ho h1 h2
 ·cases h
theorem popS_ok{H':PH}(h:popS T o.op ρ H=some H'):PO P o ρ H undefP H':=by
 unfold popS at h
 split at h
 ·rename_i t x y ho
  split at h
  ·rename_i b off hp
   split at h
   ·rename_i n hn
    split at h
    ·rename_i cs hcs
     split at h
     ·rename_i ds hds
      cases hk:(Nat.beq cs.length n&&Nat.ble (off+n) ds.length)with
      |false=>rw[hk]at h;cases h
      |true=>
       rw[hk,cond_true,newCells_eq]at h;cases h
       simp only[Bool.and_eq_true]at hk
       exact store_box ho (hT.sz _ _ hn) hp hcs hk.1 hds hk.2
     ·cases h
    ·cases h
   ·cases h
  ·cases h
 ·cases h
end
theorem kind_popF{P:Program}{T:Tab}{o:Op}{ρ:Operand→PV}{v:PV}(h:popF T o ρ=some v):kindB P o=0∨kindB P o=1:=by
 unfold popF at h
 split at h<;>first|exact .inl rfl|exact .inr rfl|cases h
def newBox:PH→List PV→Option (PV×PH)
 |⟨bx,tk,mu⟩,cs=>match litO bx.length with
  |some n=>match forceL cs with
   |some cs'=>match forceB (bx++[cs'])with
    |some bx'=>some (.ptr n 0,⟨bx',tk,mu⟩)
    |none=>none
   |none=>none
  |none=>none
theorem newBox_eq(H:PH)(cs:List PV):newBox H cs=some (.ptr H.bx.length 0,⟨H.bx++[cs],H.tk,H.mu⟩):=by simp[newBox,litO_eq,forceL_eq,forceB_eq]
def pop(T:Tab)(o:Op)(ρ:Operand→PV)(H:PH):Option (PV×PH):=
 match popF T o ρ with
 |some v=>match nrmV v with|some v=>some (v,H)|none=>none
 |none=>match popL T o ρ H with
  |some (_,v)=>match nrmV v with|some v=>some (v,H)|none=>none
  |none=>match popC T o ρ with
   |some cs=>newBox H cs
   |none=>match popS T o ρ H with
    |some H'=>some (undefP,H')
    |none=>none
def newOk(K:List Nat)(n:Nat):Bool:=K.all fun k=>Nat.ble 30000 k||(cond (Nat.ble 20000 k) (Nat.blt (k-20000) n) (Nat.ble 10000 k||Nat.blt k n))
def stOk(K:List Nat)(o:Op)(ρ:Operand→PV):Bool:=match o with
 | .store _ x _=>match ρ x with
  | .ptr b _=> !memB K (20000+b)
  |_=>false
 |_=>false
def popD(T:Tab)(K:List Nat)(d:Option Tmp)(o:Op)(ρ:Operand→PV)(H:PH):Option (PV×PH):=
 match popF T o ρ with
 |some v=>match nrmV v with|some v=>some (v,H)|none=>none
 |none=>match popL T o ρ H with
  |some (b,v)=>bif cond (frD K d) (memB K (20000+b)) (memB K b)&& !Nat.ble 10000 b then(match nrmV v with|some v=>some (v,H)|none=>none)else none
  |none=>match popC T o ρ with
   |some cs=>bif newOk K H.bx.length then newBox H cs else none
   |none=>match popS T o ρ H with
    |some H'=>bif stOk K o ρ then some (undefP,H')else none
    |none=>none
section
variable{P:Program}{T:Tab}(hT:TabOk P T){N:Nat}{all:Array Oper}{K:List Nat}{Z:Env→PH→Prop}{o:Oper}{env:Env}{H H':PH}{v:PV}
include hT
theorem pop_ok{ρ:Operand→PV}(h:pop T o.op ρ H=some (v,H')):PO P o ρ H v H':=by
 unfold pop at h
 split at h
 ·rename_i u hu;simp only[nrmV_eq]at h;cases h;exact popF_ok hT hu
 ·split at h
  ·rename_i b u hu;simp only[nrmV_eq]at h;cases h;exact popL_ok hT hu rfl
  ·split at h
   ·rename_i cs hcs;rw[newBox_eq]at h;cases h;exact popC_ok hT hcs
   ·split at h
    ·rename_i H1 h1;cases h;exact popS_ok hT h1
    ·cases h
omit hT in
theorem KEq_new{K:List Nat}{cs:List PV}{tk:List (TypeId×Nat)}(h:newOk K H.bx.length=true):KEq K H ⟨H.bx++[cs],tk,H.mu⟩:=by
 unfold newOk at h
 induction K with
 |nil=>trivial
 |cons k K ih=>
  simp only[List.all_cons,Bool.and_eq_true]at h
  refine⟨?_,ih h.2⟩
  have h1:=h.1
  unfold KMu
  cases h3:Nat.ble 30000 k with
  |true=>exact trivial
  |false=>
   rw[h3,Bool.false_or]at h1
   cases h2:Nat.ble 20000 k with
   |true=>
    rw[h2,cond_true]at h1
    have h1:k-20000<H.bx.length:=by simpa[Nat.blt_eq]using h1
    simp only[cond_true,cond_false]
    exact(List.getElem?_append_left h1).symm
   |false=>
    rw[h2,cond_false]at h1
    cases hb:Nat.ble 10000 k with
    |true=>simp
    |false=>
     have h1:k<H.bx.length:=by rw[hb]at h1;simpa[Nat.blt_eq]using h1
     simp only[cond_false]
     exact(List.getElem?_append_left h1).symm
omit hT in
theorem popS_mu{ρ:Operand→PV}{op:Op}(h:popS T op ρ H=some H'):H.mu=H'.mu:=by
 unfold popS at h
 repeat' split at h
 all_goals first
  |cases h;done
  |skip
 rename_i hh
 rw[newCells_eq]at h
 revert h
 cases(Nat.beq _ _&&Nat.ble _ _)<;>intro h<;>cases h
 rfl
omit hT in
theorem popS_bx{ρ:Operand→PV}{op:Op}(h:popS T op ρ H=some H')(hs:stOk K op ρ=true):KSh K H H':=by
 unfold popS at h
 split at h
 ·rename_i t x y
  split at h
  ·rename_i b off hp
   unfold stOk at hs
   simp only[hp]at hs
   refine KSh.of_bx (b:=b) (popS_mu (T:=T) (ρ:=ρ) (op:= .store t x y) (by unfold popS;simp only[hp];exact h)) ?_ (by simpa using hs)
   split at h
   ·split at h
    ·split at h
     ·rename_i hh
      rw[newCells_eq]at h
      revert h
      cases(Nat.beq _ _&&Nat.ble _ _)<;>intro h<;>cases h
      intro j hj
      simp only
      rw[List.getElem?_set_ne (fun e=>hj e.symm)]
     ·cases h
    ·cases h
   ·cases h
  ·cases h
 ·cases h
theorem popD_ok(hal:noneB (alT K o)=true)(hab:noneB (abT K o)=true)(h:popD T K o.dst o.op env.eval H=some (v,H')):Cond P K o env H v H':=by
 have pl:frB K o=false∧stB K o=false→plB K o=true:=fun hf=>by unfold plB;rw[hal,hab,hf.1,hf.2];rfl
 unfold popD at h
 split at h
 ·rename_i u hu;simp only[nrmV_eq]at h;cases h
  rcases kind_popF hu with hk|hk
  ·exact Cond_f (fun H1=>popF_ok hT hu) hk
  ·exact Cond_l (fun H1=>popF_ok hT hu) hk
 ·split at h
  ·rename_i b u hu
   cases hk:(cond (frD K o.dst) (memB K (20000+b)) (memB K b)&& !Nat.ble 10000 b)with
   |false=>rw[hk]at h;cases h
   |true=>
    rw[hk,cond_true]at h;simp only[nrmV_eq]at h;cases h
    simp only[Bool.and_eq_true,Bool.not_eq_true']at hk
    have hload: ∃t x,o.op= .load t x:=by
     unfold popL at hu
     split at hu
     ·rename_i ho;exact⟨_,_,ho⟩
     ·cases hu
    obtain⟨t,x,ho⟩:=hload
    have hfr:frB K o=frD K o.dst:=by unfold frB;rw[ho]
    exact Cond_box (b:=b) (by rw[ho];rfl) (by rw[hfr];exact hk.1) hk.2 fun H1 hq=>popL_ok hT hu hq
  ·split at h
   ·rename_i cs hcs
    cases hk:newOk K H.bx.length with
    |false=>rw[hk]at h;cases h
    |true=>
     rw[hk,cond_true,newBox_eq]at h;cases h
     have hkind:kindB P o.op=2∧frB K o=false∧stB K o=false:=by
      unfold popC at hcs
      unfold frB stB
      split at hcs
      ·rename_i ho;rw[ho];exact⟨rfl,rfl,rfl⟩
      ·rename_i ho;rw[ho];exact⟨rfl,rfl,rfl⟩
      ·cases hcs
     exact Cond_c (popC_ok hT hcs) (KEq_new hk) hkind.1 (pl hkind.2)
   ·split at h
    ·rename_i H1 h1
     cases hk:stOk K o.op env.eval with
     |false=>rw[hk]at h;cases h
     |true=>
      rw[hk,cond_true]at h
      cases h
      have hkind:kindB P o.op=3∧frB K o=false∧stB K o=false:=by
       unfold popS at h1
       unfold frB stB
       split at h1
       ·rename_i ho;rw[ho];exact⟨rfl,rfl,rfl⟩
       ·cases h1
      exact Cond_s (popS_ok hT h1) (popS_bx h1 hk) hkind.1 (pl hkind.2)
    ·cases h
omit hT
def popA(T:Tab)(K:List Nat)(o:Op)(ρ:Operand→PV)(H:PH):Option (PV×PH):=match o with
 | .store t (.tmp _) y=>match T.sz t with
  |some n=>match pvCells (ρ y)with
   |some cs=>bif Nat.beq cs.length n&&newOk K H.bx.length then newBox H cs else none
   |none=>none
  |none=>none
 |_=>none
def okAl(T:Tab)(o:Op):Bool:=match o with
 | .alloc t=>match T.zr t with
  |some cs=>match T.sz t with|some n=>Nat.beq cs.length n|none=>false
  |none=>false
 |_=>false
def stepD(T:Tab)(K:List Nat)(o:Oper)(env:Env)(H:PH):Option (Option Tmp×PV×PH):=
 match abT K o with
 |some x=>match popA T K o.op env.eval H with
  |some (v,H')=>some (some x,v,H')
  |none=>none
 |none=>match alT K o with
  |some d=>bif okAl T o.op then some (some d, .any,H)else none
  |none=>match popD T K o.dst o.op env.eval H with
   |some (v,H')=>some (o.dst,v,H')
   |none=>none
include hT in
theorem stepD_ok{d':Option Tmp}(h:stepD T K o env H=some (d',v,H')):d'=dstK K o∧Cond P K o env H v H':=by
 unfold stepD at h
 split at h
 ·rename_i x hab
  split at h
  ·rename_i v1 H1 hp
   cases h
   refine⟨by unfold dstK;rw[hab], .inr (.inr ?_)⟩
   unfold popA at hp
   split at hp
   ·rename_i t x' y ho
    have hx:x'=x:=by
     unfold abT at hab
     rw[ho]at hab
     simp only at hab
     cases hf:flD K x' with
     |false=>rw[hf]at hab;cases hab
     |true=>rw[hf]at hab;cases hab;rfl
    subst hx
    split at hp
    ·rename_i n hn
     split at hp
     ·rename_i cs hcs
      cases hk:(Nat.beq cs.length n&&newOk K H.bx.length)with
      |false=>rw[hk]at hp;cases hp
      |true=>
       rw[hk,cond_true,newBox_eq]at hp
       cases hp
       rw[Bool.and_eq_true]at hk
       have e:=Nat.eq_of_beq_eq_true hk.1
       subst e
       exact⟨x',t,y,cs,hab,ho,hT.sz _ _ hn,hcs,rfl,rfl,KEq_new hk.2⟩
     ·cases hp
    ·cases hp
   ·cases hp
  ·cases h
 ·rename_i hab
  split at h
  ·rename_i d hal
   cases hk:okAl T o.op with
   |false=>rw[hk]at h;cases h
   |true=>
    rw[hk,cond_true]at h
    cases h
    have hdd:o.dst=some d:=by
     unfold alT at hal
     split at hal
     ·split at hal
      ·rename_i d' hd
       cases hf:flD K d' with
       |false=>rw[hf]at hal;cases hal
       |true=>rw[hf]at hal;cases hal;exact hd
      ·cases hal
     ·cases hal
    refine⟨by unfold dstK;rw[hab];exact hdd.symm, .inr (.inl ?_)⟩
    unfold okAl at hk
    split at hk
    ·rename_i t ho
     split at hk
     ·rename_i cs hcs
      split at hk
      ·rename_i n hn
       obtain⟨z,z1,z2,rfl⟩:=hT.zr t cs hcs
       have e:=Nat.eq_of_beq_eq_true hk
       simp only[List.length_map,Array.length_toList]at e
       subst e
       exact⟨d,t,z,hal,ho,z1,hT.sz _ _ hn,rfl,rfl⟩
      ·cases hk
     ·cases hk
    ·cases hk
  ·rename_i hal
   split at h
   ·rename_i v1 H1 hp
    cases h
    exact⟨by unfold dstK;rw[hab],popD_ok hT (by rw[hal];rfl) (by rw[hab];rfl) hp⟩
   ·cases h
def runO(T:Tab)(N:Nat)(all:Array Oper):Nat→List Oper→Env→PH→Option (List Oper×Env×PH)
 |0,l,env,H=>some (l,env,H)
 |_+1,[],env,H=>some ([],env,H)
 |n+1,⟨d,op,ty,pos,aft,gg⟩::r,env,H=>
  bif dstOk N d then
   match gd all ⟨d,op,ty,pos,aft,gg⟩ env with
   |some true=>match pop T op env.eval H with
    |some (v,H')=>runO T N all n r (upd env d v) H'
    |none=>some (⟨d,op,ty,pos,aft,gg⟩::r,env,H)
   |some false=>runO T N all n r (upd env d undefP) H
   |none=>some (⟨d,op,ty,pos,aft,gg⟩::r,env,H)
  else none
def runD(T:Tab)(N:Nat)(all:Array Oper)(K:List Nat):Nat→List Oper→Env→PH→Option (List Oper×Env×PH)
 |0,l,env,H=>some (l,env,H)
 |_+1,[],env,H=>some ([],env,H)
 |n+1,⟨d,op,ty,pos,aft,gg⟩::r,env,H=>
  bif dstOk N d then
   match gd all ⟨d,op,ty,pos,aft,gg⟩ env with
   |some true=>match stepD T K ⟨d,op,ty,pos,aft,gg⟩ env H with
    |some (d',v,H')=>runD T N all K n r (upd env d' v) H'
    |none=>some (⟨d,op,ty,pos,aft,gg⟩::r,env,H)
   |some false=>bif noneB (abT K ⟨d,op,ty,pos,aft,gg⟩)then runD T N all K n r (upd env d undefP) H else none
   |none=>some (⟨d,op,ty,pos,aft,gg⟩::r,env,H)
  else none
def canO(T:Tab)(N:Nat)(all:Array Oper):List Oper→Env→PH→Bool
 |[],_,_=>false
 |o::_,env,H=>bif dstOk N o.dst then(match gd all o env with|some true=>(match pop T o.op env.eval H with|some _=>true|none=>false)|some false=>true|none=>false)else false
def canD(T:Tab)(N:Nat)(all:Array Oper)(K:List Nat):List Oper→Env→PH→Bool
 |[],_,_=>false
 |o::_,env,H=>bif dstOk N o.dst then(match gd all o env with|some true=>(match stepD T K o env H with|some _=>true|none=>false)|some false=>true|none=>false)else false
include hT
theorem runO_spec: ∀(n:Nat) (l:List Oper) (env:Env) (H:PH) (l':List Oper) (env':Env) (H':PH),runO T N all n l env H=some (l',env',H')→POps P N all Z l' env' H'→POps P N all Z l env H
 |0,l,env,H,l',env',H',e,h=>by simp only[runO,Option.some.injEq,Prod.mk.injEq]at e;obtain⟨rfl,rfl,rfl⟩:=e;exact h
 |n+1,[],env,H,l',env',H',e,h=>by simp only[runO,Option.some.injEq,Prod.mk.injEq]at e;obtain⟨rfl,rfl,rfl⟩:=e;exact h
 |n+1,⟨d,op,ty,pos,aft,gg⟩::r,env,H,l',env',H',e,h=>by
  unfold runO at e
  cases hd:dstOk N d with
  |false=>rw[hd]at e;cases e
  |true=>
   rw[hd]at e
   simp only[cond_true]at e
   split at e
   ·rename_i hg
    split at e
    ·rename_i v H1 hp
     refine⟨dst_of hd, ?_⟩
     rw[hg]
     exact⟨v,H1,pop_ok hT (o:=⟨d,op,ty,pos,aft,gg⟩) hp,runO_spec n r _ _ _ _ _ e h⟩
    ·simp only[Option.some.injEq,Prod.mk.injEq]at e;obtain⟨rfl,rfl,rfl⟩:=e;exact h
   ·rename_i hg
    refine⟨dst_of hd, ?_⟩
    rw[hg]
    exact runO_spec n r _ _ _ _ _ e h
   ·simp only[Option.some.injEq,Prod.mk.injEq]at e;obtain⟨rfl,rfl,rfl⟩:=e;exact h
theorem runD_spec: ∀(n:Nat) (l:List Oper) (env:Env) (H:PH) (l':List Oper) (env':Env) (H':PH),runD T N all K n l env H=some (l',env',H')→POpsD P N all K Z l' env' H'→POpsD P N all K Z l env H
 |0,l,env,H,l',env',H',e,h=>by simp only[runD,Option.some.injEq,Prod.mk.injEq]at e;obtain⟨rfl,rfl,rfl⟩:=e;exact h
 |n+1,[],env,H,l',env',H',e,h=>by simp only[runD,Option.some.injEq,Prod.mk.injEq]at e;obtain⟨rfl,rfl,rfl⟩:=e;exact h
 |n+1,⟨d,op,ty,pos,aft,gg⟩::r,env,H,l',env',H',e,h=>by
  unfold runD at e
  cases hd:dstOk N d with
  |false=>rw[hd]at e;cases e
  |true=>
   rw[hd]at e
   simp only[cond_true]at e
   split at e
   ·rename_i hg
    split at e
    ·rename_i d' v H1 hp
     obtain⟨hd',hc⟩:=stepD_ok hT hp
     refine⟨dst_of hd, ?_⟩
     rw[hg]
     exact⟨v,H1,hc,by rw[←hd'];exact runD_spec n r _ _ _ _ _ e h⟩
    ·simp only[Option.some.injEq,Prod.mk.injEq]at e;obtain⟨rfl,rfl,rfl⟩:=e;exact h
   ·rename_i hg
    cases hab:noneB (abT K ⟨d,op,ty,pos,aft,gg⟩)with
    |false=>rw[hab]at e;cases e
    |true=>
     rw[hab,cond_true]at e
     refine⟨dst_of hd, ?_⟩
     rw[hg]
     show POpsD P N all K Z r (upd env (dstK K _) undefP) H
     rw[dstK_of hab]
     exact runD_spec n r _ _ _ _ _ e h
   ·simp only[Option.some.injEq,Prod.mk.injEq]at e;obtain⟨rfl,rfl,rfl⟩:=e;exact h
theorem runO_ok(n:Nat){l l':List Oper}{env':Env}(_hc:canO T N all l env H=true)(h:runO T N all n l env H=some (l',env',H'))(k:POps P N all Z l' env' H'):POps P N all Z l env H:=
 runO_spec hT n l env H l' env' H' h k
theorem runD_ok(n:Nat){l l':List Oper}{env':Env}(_hc:canD T N all K l env H=true)(h:runD T N all K n l env H=some (l',env',H'))(k:POpsD P N all K Z l' env' H'):POpsD P N all K Z l env H:=
 runD_spec hT n l env H l' env' H' h k
omit hT
/-! ### Which boxes a region reads and writes, by its text -/
def rootOf(all:List Oper):Nat→Tmp→Option (Option Tmp)
 |0,_=>none
 |n+1,t=>match all.find? (fun o=>match o.dst with|some d=>Nat.beq d t|none=>false)with
  |none=>some (some t)
  |some o=>match o.op with
   | .fieldAddr _ (.tmp u) _=>rootOf all n u
   | .nilCheck (.tmp u)=>rootOf all n u
   | .move (.tmp u)=>rootOf all n u
   | .indexAddr _ _ _=>some none
   |_=>none
def codeOf(all:List Oper)(env:Env)(x:Operand):Nat:=match x with
 | .tmp t=>match rootOf all 12 t with
  |some (some r)=>match env r with
   | .ptr b _=>b+2
   | .pat _=>1
   |_=>0
  |some none=>1
  |none=>0
 |_=>0
def usesD(d:Nat)(o:Oper):Bool:=(match o.dst with|some d'=>Nat.beq d' d|none=>false)||(match o.op with| .store _ (.tmp x) _=>Nat.beq x d|_=>false)
def floatsOf(all:List Oper):List Oper→Option (List Nat)
 |[]=>some []
 |o::r=>match floatsOf all r with
  |some l=>match o.op with
   | .alloc _=>match o.dst with
    |some d=>bif sole2 d (all.filter (usesD d))then some (d::l)else some l
    |none=>some l
   |_=>some l
  |none=>none
def storesOf(all:List Oper)(env:Env)(fl:List Nat):List Oper→List Nat
 |[]=>[]
 |o::r=>match o.op with
  | .store _ x _=>bif (match x with| .tmp d=>memB fl d|_=>false)then storesOf all env fl r else codeOf all env x::storesOf all env fl r
  |_=>storesOf all env fl r
def fixed(K:List Nat)(st:List Nat):List Nat:=K.filter fun b=> !Nat.ble 10000 b&& !memB st (b+2)
def freeLoads(all:List Oper)(env:Env)(calls loads:Bool)(fx:List Nat):List Oper→Option (List Nat)
 |[]=>some []
 |o::r=>match freeLoads all env calls loads fx r with
  |some l=>match o.op with
   | .load _ x=>match o.dst with
    |some d=>bif loads then(match codeOf all env x with
     |0=>some l
     |1=>some ((30000+d)::l)
     |c+2=>bif memB fx c then some ((30000+d)::l)else some l)else some l
    |none=>some l
   | .call c=>match c.callee with
    | .value _=>match o.dst with
     |some d=>bif calls then some ((30000+d)::l)else some l
     |none=>some l
    |_=>some l
   |_=>some l
  |none=>none
def lits:List Nat:=[0,1,2,3,4,5,6,7,8,9,10,11,12,13,14,15,16,17,18,19,20,21,22,23,24,25,26,27,28,29,30,31]
def lits2:List Nat:=[20000,20001,20002,20003,20004,20005,20006,20007,20008,20009,20010,20011,20012,20013,20014,20015,20016,20017,20018,20019,20020,20021,20022,20023,20024,20025,20026,20027,20028,20029,20030,20031]
def upTo:List (List PV)→List Nat→Option (List Nat)
 |_::r,k::l=>match upTo r l with|some l=>some (k::l)|none=>none
 |_,_=>some []
def pickL(p:Nat→Bool):List Nat→List Nat→Option (List Nat)
 |[],l=>some l
 |k::r,l=>match pickL p r l with|some l=>bif p k then some (k::l)else some l|none=>none
def joinL:List Nat→List Nat→Option (List Nat)
 |[],l=>some l
 |k::r,l=>match joinL r l with|some l=>some (k::l)|none=>none
def isNil{α:Type}:List α→Bool|[]=>true|_=>false
def addF:List Nat→List Nat→Option (List Nat)
 |[],l=>some l
 |d::r,l=>match addF r l with|some l=>some ((40000+d)::l)|none=>none
def autoK(all:List Oper)(env:Env)(plain calls floats:Bool)(K0:List Nat):Option (List Nat):=
 match(bif floats then floatsOf all all else some [])with
 |none=>none
 |some fl=>
  match addF fl K0 with
  |none=>none
  |some K1=>
   bif isNil (storesOf all env fl all)&& !calls then some K1 else
   bif plain&& !(memB (storesOf all env fl all) 0||memB (storesOf all env fl all) 1)then
    match freeLoads all env calls true (fixed K0 (storesOf all env fl all)) all with
    |some l1=>match pickL (fun k=>memB (fixed K0 (storesOf all env fl all)) (k-20000)) lits2 l1 with
     |some l=>joinL K1 l
     |none=>none
    |none=>none
   else match freeLoads all env calls false [] all with
    |some l=>joinL K1 l
    |none=>none
theorem PW_draw_auto{id:Nat}{l:List Oper}{Q:Exit→Env→PH→Prop}(calls floats:Bool)(K0:List Nat){K:List Nat}(_ha:autoK l env (isNil H.mu) calls floats K0=some K)(hm:P.follows .mixedOrders=true)(hd:drawB P K l=true)(h:POpsD P N l.toArray K (fun env H=>Q .normal env H) l env H):
  PW P N (.region id l.toArray true) Q env H:=PW_draw K hm hd h
theorem PW_draw_all{id:Nat}{l:List Oper}{Q:Exit→Env→PH→Prop}(calls floats:Bool){K0 K:List Nat}(_h0:upTo H.bx lits=some K0)(_ha:autoK l env (isNil H.mu) calls floats K0=some K)(hm:P.follows .mixedOrders=true)(hd:drawB P K l=true)(h:POpsD P N l.toArray K (fun env H=>Q .normal env H) l env H):
  PW P N (.region id l.toArray true) Q env H:=PW_draw K hm hd h
end
section
variable{P:Program}{N:Nat}{Q:Exit→Env→PH→Prop}{env:Env}{H:PH}
theorem PW_loop_none{body:Code}(h:PW P N body (Next (fun _ _=>False) Q) env H):PW P N (.loop body) Q env H:=by
 intro c a hr he
 refine wp_loop_once (wp_mono (h c a hr he) ?_)
 rintro e a' w' ⟨c',env',H',q,rfl,hr',hE,he'⟩
 cases e<;>simp only[Next]at q<;>simp only[Exit.then]
 all_goals first|exact q.elim|exact⟨c',env',H',q,rfl,hr',hE,he'⟩
def slots:List (Nat×PV)→Env
 |[],_=> .any
 |(k,p)::r,t=>bif Nat.beq t k then p else slots r t
theorem EnvLe.slots_of{l:List (Nat×PV)}(h: ∀x∈l,∀(c:Ctx) (v:Value),RV c (env x.1) v→RV c x.2 v):EnvLe env (slots l):=by
 intro t c v hv
 induction l with
 |nil=>exact .any v
 |cons x r ih=>
  obtain⟨k,p⟩:=x
  simp only[slots]
  cases e:Nat.beq t k with
  |true=>
   rw[cond_true]
   have e':=Nat.eq_of_beq_eq_true e
   subst e'
   exact h _ List.mem_cons_self c v hv
  |false=>rw[cond_false];exact ih fun x hx=>h x (List.mem_cons_of_mem _ hx)
def SlotsOk(env:Env):List (Nat×PV)→Prop
 |[]=>True
 |(k,p)::r=>(env k=p∨pack (env k)=p)∧SlotsOk env r
theorem SlotsOk.le: ∀{l:List (Nat×PV)},SlotsOk env l→EnvLe env (slots l):=by
 intro l h
 refine EnvLe.slots_of ?_
 induction l with
 |nil=>simp
 |cons x r ih=>
  intro y hy c v hv
  rcases List.mem_cons.1 hy with rfl|hy
  ·rcases h.1 with e|e
   ·rw[←e];exact hv
   ·rw[←e];exact pack_ok hv
  ·exact ih h.2 y hy c v hv
theorem HLe.refl(H:PH):HLe P H H:=fun _ h=>h
theorem HLe.of_eq{H H':PH}(h:H=H'):HLe P H H':=h▸HLe.refl H
end
end Go.Pure
namespace Go.Pure
open Go Go.ChangeShapes Go.WideShapes Go.RowKit
inductive GT(P:Program):TypeId→GV→Prop where
 |int (t:TypeId) (k:IntKind) (n:Int) (h:P.underlying t=some (.int k)) (hw:(Lit.int k n).wf=true):GT P t (.int k n)
 |bool (t:TypeId) (b:Bool) (h:P.underlying t=some .bool):GT P t (.bool b)
 |str (t:TypeId) (s:ByteArray) (h:P.underlying t=some .string) (hs:s.size≤maxLen):GT P t (.str s)
 |sl (t e:TypeId) (es:List GV) (h:P.underlying t=some (.slice e)) (hl:es.length≤maxLen) (he: ∀x∈es,GT P e x):GT P t (.sl es)
 |agg (t:TypeId) (fs:Array Field) (xs:List GV) (h:P.underlying t=some (.struct fs)) (hl:xs.length=fs.size) (hx: ∀(i:Nat) (f:Field) (x:GV),fs[i]? =some f→xs[i]? =some x→GT P f.type x):
   GT P t (.agg (xs.flatMap GV.cells))
inductive DG{H:Type}:DataW H→GV→Prop where
 |int (k:IntKind) (n:Int):DG (.lit (.int k n)) (.int k n)
 |bool (b:Bool):DG (.lit (.bool b)) (.bool b)
 |str (s:ByteArray):DG (.lit (.string s.data.toList)) (.str s)
 |nil:DG .nil (.sl [])
 |sl (ds sp:List (DataW H)) (es:List GV) (hl:ds.length=es.length) (h: ∀(i:Nat) (d:DataW H) (x:GV),ds[i]? =some d→es[i]? =some x→DG d x):DG (.slice ds sp) (.sl es)
 |agg (ds:List (DataW H)) (xs:List GV) (hl:ds.length=xs.length) (h: ∀(i:Nat) (d:DataW H) (x:GV),ds[i]? =some d→xs[i]? =some x→DG d x):DG (.agg ds) (.agg (xs.flatMap GV.cells))
def tiles(P:Program):List Field→Nat→Option Nat
 |[],n=>some n
 |f::r,n=>bif f.offset==n then tiles P r (n+P.cellsOf f.type)else none
def plainB(P:Program)(set:List Nat):Bool:=set.all fun t=>
 match P.underlying t with
 |some (.int _)|some .bool|some .string=>P.cellsOf t==1
 |some (.slice e)=>P.cellsOf t==1&&(set.contains e&&Nat.ble 1 (P.cellsOf e))
 |some (.struct fs)=>tiles P fs.toList 0==some (P.cellsOf t)&&fs.toList.all fun f=>set.contains f.type
 |_=>false
def GCs(w:World)(gs:List GV)(vs:List Value):Prop:=
 gs.length=vs.length∧ ∀(i:Nat) (g:GV) (v:Value),gs[i]? =some g→vs[i]? =some v→RG w (fun _ _=>True) g v∧v.oneCell'=true
theorem GCs.append{w:World}{a b:List GV}{us vs:List Value}(h1:GCs w a us)(h2:GCs w b vs):GCs w (a++b) (us++vs):=by
 refine⟨by simp[h1.1,h2.1],fun i g v hg hv=> ?_⟩
 by_cases hi:i<a.length
 ·rw[List.getElem?_append_left hi]at hg
  rw[List.getElem?_append_left (by rw[←h1.1];exact hi)]at hv
  exact h1.2 i g v hg hv
 ·rw[List.getElem?_append_right (by omega)]at hg
  rw[List.getElem?_append_right (by rw[←h1.1];omega),←h1.1]at hv
  exact h2.2 _ g v hg hv
theorem GCs.one{w:World}{g:GV}{v:Value}(h:RG w (fun _ _=>True) g v)(h1:v.oneCell'=true):GCs w [g] [v]:=by
 refine⟨rfl,fun i g' v' hg hv=> ?_⟩
 cases i with
 |zero=>simp at hg hv;subst hg;subst hv;exact⟨h,h1⟩
 |succ i=>simp at hg
section
variable{H:Type}{enc:TypeId×Value→H}{P:Program}{w:World}{base:Nat}{spare:Nat→Bool}{held:Bool}
theorem addr_addAdd(a:Addr)(m n:Nat):(a.add m).add n=a.add (m+n):=by
 unfold Addr.add
 split
 ·subst_vars;simp
 ·split
  ·subst_vars;simp_all
  ·simp_all[Nat.add_assoc]
theorem choose_lt'{α:Type}[Inhabited α]{n:Nat}{Q:Nat→α→Prop}(h: ∀i,i<n→ ∃x,Q i x): ∃F:Nat→α,∀i,i<n→Q i (F i):=by
 refine⟨fun i=>if hi:i<n then Classical.choose (h i hi)else default,fun i hi=> ?_⟩
 simp only[hi,dif_pos]
 exact Classical.choose_spec (h i hi)
theorem tiled{cs:List Value}{m:Nat}(hcs:cs.length=m): ∀(l:List Field) (n0:Nat) (xs:List (DataW H×List MemPlace)),tiles P l n0=some m→xs.length=l.length→
  (∀(i:Nat) (f:Field) (x:DataW H×List MemPlace),l[i]? =some f→xs[i]? =some x→ ∃g,DG x.1 g∧GT P f.type g∧GCs w g.cells ((cs.drop f.offset).take (P.cellsOf f.type))∧((cs.drop f.offset).take (P.cellsOf f.type)).length=P.cellsOf f.type)→
  ∃gs:List GV,gs.length=l.length∧(∀(i:Nat) (d:DataW H) (x:GV),(xs.map (·.1))[i]? =some d→gs[i]? =some x→DG d x)∧
   (∀(i:Nat) (f:Field) (x:GV),l[i]? =some f→gs[i]? =some x→GT P f.type x)∧GCs w (gs.flatMap GV.cells) (cs.drop n0)
 |[],n0,xs,ht,hl,_=>by
  simp only[tiles,Option.some.injEq]at ht
  refine⟨[],rfl,by simp,by simp, ?_⟩
  rw[List.drop_eq_nil_of_le (by omega)]
  exact⟨rfl,by simp⟩
 |f::r,n0,[],ht,hl,_=>by simp at hl
 |f::r,n0,x::xs,ht,hl,h=>by
  simp only[tiles]at ht
  cases hb:f.offset==n0 with
  |false=>rw[hb]at ht;cases ht
  |true=>
   rw[hb]at ht
   have hoff:f.offset=n0:=by simpa using hb
   obtain⟨gs,e1,e2,e3,e4⟩:=tiled hcs r _ xs ht (by simpa using hl) (fun i f' x' h1 h2=>h (i+1) f' x' (by simpa using h1) (by simpa using h2))
   obtain⟨g,g1,g2,g3,g4⟩:=h 0 f x rfl rfl
   refine⟨g::gs,by simp[e1], ?_, ?_, ?_⟩
   ·intro i d y hd hy
    cases i with
    |zero=>simp at hd hy;subst hd;subst hy;exact g1
    |succ i=>exact e2 i d y (by simpa using hd) (by simpa using hy)
   ·intro i f' y hd hy
    cases i with
    |zero=>simp at hd hy;subst hd;subst hy;exact g2
    |succ i=>exact e3 i f' y (by simpa using hd) (by simpa using hy)
   ·rw[hoff]at g3
    have:=g3.append e4
    rw[←List.drop_drop,List.take_append_drop]at this
    simpa using this
theorem trod_g {set:List Nat}(hset:plainB P set=true): ∀(fuel:Nat) (t:TypeId) (cs:List Value) (x:DataW H×List MemPlace),t∈set→DataW.trod enc P w base spare held fuel t cs=some x→
    ∃g,DG x.1 g∧GT P t g∧GCs w g.cells cs∧cs.length=P.cellsOf t
  |0,t,cs,x,_,h=>by simp[DataW.trod]at h
  |fuel+1,t,cs,x,hmem,h=>by
    have hp:=List.all_eq_true.1 hset t hmem
    cases hu:P.underlying t with
    |none=>rw[hu]at hp;cases hp
    |some d=>
      rw[hu]at hp
      cases d with
      |int k=>
        obtain⟨n,rfl,rfl,hw⟩:=DataW.trod_int hu h
        exact⟨.int k n, .int k n, .int t k n hu hw,GCs.one (.int k n) rfl,by simpa using(beq_iff_eq.1 hp).symm⟩
      |bool=>
        obtain⟨b,rfl,rfl⟩:=DataW.trod_bool hu h
        exact⟨.bool b, .bool b, .bool t b hu,GCs.one (.bool b) rfl,by simpa using(beq_iff_eq.1 hp).symm⟩
      |string=>
        obtain⟨s,rfl,rfl,hs⟩:=DataW.trod_string hu h
        exact⟨.str s, .str s, .str t s hu hs,GCs.one (.str s) rfl,by simpa using(beq_iff_eq.1 hp).symm⟩
      |slice e=>
        simp only[Bool.and_eq_true]at hp
        have he:e∈set:=by simpa using hp.2.1
        have hpos:0<P.cellsOf e:=Nat.le_of_ble_eq_true hp.2.2
        rcases DataW.trod_slice hu h with⟨rfl,rfl⟩|⟨a,len,cap,elems,rest,n,hn,rfl,rfl,hb,hl,hm,hlen,hel,_,_⟩
        · exact⟨.sl [], .nil, .sl t e [] hu (by simp) (by simp),GCs.one .nil rfl,by simpa using(beq_iff_eq.1 hp.1).symm⟩
        · obtain rfl:fuel=n:=by omega
          -- each element
          have hE: ∀i,i<len→ ∃(g:GV) (y:DataW H×List MemPlace) (cs':List Value),elems[i]? =some y∧w.cells? base (a.add (i *P.cellsOf e)) (P.cellsOf e)=some cs'∧DG y.1 g∧GT P e g∧GCs w g.cells cs':=by
            intro i hi
            have h1:=hel i hi
            have h2:elems[i]? =some (elems[i]'(by omega)):=List.getElem?_eq_getElem _
            rw[h2,Option.bind_eq_some_iff]at h1
            obtain⟨cs',hc,ht⟩:=h1
            obtain⟨g,g1,g2,g3,_⟩:=trod_g hset fuel e cs' _ he ht
            exact⟨g,_,cs',h2,hc,g1,g2,g3⟩
          -- as functions of the index
          have hF: ∃F:Nat→GV,∀i,i<len→ ∃(y:DataW H×List MemPlace) (cs':List Value),elems[i]? =some y∧w.cells? base (a.add (i *P.cellsOf e)) (P.cellsOf e)=some cs'∧DG y.1 (F i)∧GT P e (F i)∧GCs w (F i).cells cs':=
            choose_lt' hE
          obtain⟨F,hF⟩:=hF
          refine⟨.sl ((List.range len).map F), ?_, ?_, ?_,by simpa using(beq_iff_eq.1 hp.1).symm⟩
          · refine .sl _ _ _ (by simp[hlen]) fun i d x hd hx=> ?_
            simp only[List.getElem?_map,Option.map_eq_some_iff]at hd hx
            obtain⟨y,hy,rfl⟩:=hd
            obtain⟨i',hi',rfl⟩:=hx
            obtain⟨hlt,rfl⟩:=List.getElem?_eq_some_iff.1 hi'
            rw[List.getElem_range]
            have hlt':i<len:=by simpa using hlt
            obtain⟨y',cs',e1,_,e3,_⟩:=hF i hlt'
            rw[hy]at e1
            cases e1
            exact e3
          · refine .sl t e _ hu (by simp;omega) fun x hx=> ?_
            simp only[List.mem_map,List.mem_range]at hx
            obtain⟨i,hi,rfl⟩:=hx
            obtain⟨_,_,_,_,_,e4,_⟩:=hF i hi
            exact e4
          · -- the slice itself
            have hcells: ∀(A:Addr) (n:Nat) (cs':List Value),w.cells? base A n=some cs'→cs'.length=n∧ ∀j (hj:j<n),w.cell? (A.add j)=some (cs'[j]?.getD undef):=by
              intro A n cs' hc
              obtain⟨_,hcl,hat⟩:=World.cells?_some hc
              refine⟨hcl,fun j hj=> ?_⟩
              have hj':j<cs'.length:=by rw[hcl];exact hj
              rw[hat j hj,List.getElem?_eq_getElem hj']
              rfl
            have hsz: ∀i,i<len→(F i).cells.length=P.cellsOf e:=by
              intro i hi
              obtain⟨_,cs',_,e2,_,_,e5⟩:=hF i hi
              rw[e5.1,(hcells _ _ _ e2).1]
            have hspot:0<len→a.spot=none:=by
              intro h0
              obtain⟨_,cs',_,e2,_,_,_⟩:=hF 0 h0
              have:=(hcells _ _ _ e2).2 0 hpos
              simp only[Nat.zero_mul]at this
              have e3:(a.add 0).add 0=a:=rfl
              rw[e3]at this
              unfold World.cell? at this
              split at this
              · split at this
                · cases this
                · rename_i hs;cases hsp:a.spot with
                  |none=>rfl
                  |some _=>rw[hsp]at hs;simp at hs
              · cases this
            have hone:GCs w [GV.sl ((List.range len).map F)] [Value.slice (some a) len cap]:=by
              refine GCs.one ?_ rfl
              have hlen':((List.range len).map F).length=len:=by simp
              have:=RG.sl (w:=w) (S:=fun _ _=>True) ((List.range len).map F) a cap (P.cellsOf e) (fun k=>(w.cell? (a.add k)).getD undef) (fun hne=>hspot (Nat.pos_of_ne_zero fun h0=>hne (by rw[h0];rfl))) (by rw[hlen'];exact hl) hm ?_ ?_ ?_
              · rw[hlen']at this;exact this
              · intro i x hx
                simp only[List.getElem?_map,Option.map_eq_some_iff]at hx
                obtain⟨i',hi',rfl⟩:=hx
                obtain⟨hlt,rfl⟩:=List.getElem?_eq_some_iff.1 hi'
                rw[List.getElem_range]
                exact hsz i (by simpa using hlt)
              · intro k hk
                rw[hlen']at hk
                have hpos:0<P.cellsOf e:=Nat.pos_of_ne_zero fun h0=>by rw[h0]at hk;omega
                have hdiv:k/P.cellsOf e<len:=Nat.div_lt_of_lt_mul (by rw[Nat.mul_comm];exact hk)
                have hmod:k%P.cellsOf e<P.cellsOf e:=Nat.mod_lt _ hpos
                obtain⟨y,cs',e1,e2,_,_,e5⟩:=hF _ hdiv
                have e6:=(hcells _ _ _ e2).2 _ hmod
                have e7:(a.add (k/P.cellsOf e *P.cellsOf e)).add (k%P.cellsOf e)=a.add k:=by
                  rw[addr_addAdd];congr 1;rw[Nat.mul_comm];exact Nat.div_add_mod k _
                rw[e7]at e6
                refine⟨by rw[e6];rfl,trivial, ?_⟩
                rw[e6]
                have hj:k%P.cellsOf e<cs'.length:=by rw[(hcells _ _ _ e2).1];exact hmod
                have hj2:k%P.cellsOf e<(F (k/P.cellsOf e)).cells.length:=by rw[e5.1];exact hj
                have:=(e5.2 _ _ cs'[k%P.cellsOf e] (List.getElem?_eq_getElem hj2) (List.getElem?_eq_getElem hj)).2
                simpa[hj]using this
              · intro i x j g hx hg
                simp only[List.getElem?_map,Option.map_eq_some_iff]at hx
                obtain⟨i',hi',rfl⟩:=hx
                obtain⟨hlt,rfl⟩:=List.getElem?_eq_some_iff.1 hi'
                rw[List.getElem_range]at hg
                have hlt':i<len:=by simpa using hlt
                obtain⟨y,cs',e1,e2,_,_,e5⟩:=hF i hlt'
                have hj:j<P.cellsOf e:=by rw[←hsz i hlt'];exact(List.getElem?_eq_some_iff.1 hg).1
                have e6:=(hcells _ _ _ e2).2 j hj
                rw[addr_addAdd]at e6
                show RG w _ g ((w.cell? (a.add (i *P.cellsOf e+j))).getD undef)
                rw[e6]
                have hj':j<cs'.length:=by rw[(hcells _ _ _ e2).1];exact hj
                have:=(e5.2 j g cs'[j] hg (List.getElem?_eq_getElem hj')).1
                simpa[hj']using this
            exact hone
      |struct fs=>
        simp only[Bool.and_eq_true]at hp
        obtain⟨xs,n,hn,rfl,hlen,hxl,hf⟩:=DataW.trod_struct hu h
        obtain rfl:fuel=n:=by omega
        obtain⟨gs,e1,e2,e3,e4⟩:=tiled (w:=w) (P:=P) (cs:=cs) hlen fs.toList 0 xs (by simpa using hp.1) (by simpa using hxl) (fun i f x hi hx=>by
          have hfi:fs[i]? =some f:=by simpa using hi
          have hms:f.type∈set:=by
            have:=List.all_eq_true.1 hp.2 f (List.mem_of_getElem? hi)
            simpa using this
          have h1:=hf i f hfi
          rw[hx]at h1
          obtain⟨g,g1,g2,g3,g4⟩:=trod_g hset fuel f.type _ _ hms h1
          exact⟨g,g1,g2,g3,g4⟩)
        refine⟨.agg (gs.flatMap GV.cells), .agg _ _ (by simp[e1,hxl]) e2, .agg t fs gs hu (by simpa using e1) (fun i f x hi hx=>e3 i f x (by simpa using hi) hx),by simpa[GV.cells]using e4,hlen⟩
      |_=>simp at hp
end
section
variable{H:Type}{enc:TypeId×Value→H}{P:Program}{w:World}
theorem GCs.uncell{g:GV}{v:Value}(h:GCs w [g] [v]):RG w (fun _ _=>True) g v:=(h.2 0 g v rfl rfl).1
theorem rv_param{set:List Nat}(hset:plainB P set=true){t:TypeId}(hmem:t∈set){r:Reach}{b0:Nat}{v:Value}{d:DataW H}{ps:List MemPlace}{spare:Nat→Bool}{held:Bool}{base:Nat}
  (hval:Value.okWide P w r b0 t v) (hd:DataW.Trod enc P w base spare held t v d ps): ∃g,DG d g∧GT P t g∧RG w (fun _ _=>True) g v:=by
 obtain⟨fuel,hf⟩:=hd
 obtain⟨g,h1,h2,h3,h4⟩:=trod_g hset fuel t _ _ hmem hf
 refine⟨g,h1,h2, ?_⟩
 cases h2 with
 |int _ k n hu hw=>obtain⟨m,rfl⟩:=okWide_int hu hval;exact h3.uncell
 |bool _ b hu=>obtain⟨m,rfl⟩:=okWide_bool hu hval;exact h3.uncell
 |str _ s hu hs=>
  have: ∃s',v= .string s':=by
   simp only[Value.okWide,hu,Cell.okWide]at hval
   cases v<;>simp_all[Cell.ok]
  obtain⟨s',rfl⟩:=this
  exact h3.uncell
 |sl _ e es hu hl he=>
  have: ∃a n m,v= .slice a n m:=by
   simp only[Value.okWide,hu,Cell.okWide]at hval
   cases v<;>simp_all[Cell.ok]
  obtain⟨a,n,m,rfl⟩:=this
  exact h3.uncell
 |agg _ fs xs hu hl hx=>
  obtain⟨cs,rfl,_⟩:=okWide_struct hu hval
  refine .agg _ cs (by simpa[GV.cells,Value.cells]using h3.1) (fun v hv=> ?_) (fun i g v hg hv=> ?_)
  ·obtain⟨i,hi⟩:=List.getElem?_of_mem hv
   have hlt:=(List.getElem?_eq_some_iff.1 hi).1
   have h5:i<(GV.agg (xs.flatMap GV.cells)).cells.length:=by rw[h3.1];exact hlt
   exact(h3.2 i _ v (List.getElem?_eq_getElem h5) hi).2
  ·exact(h3.2 i g v hg (by simpa[Value.cells]using hv)).1
theorem rvs_params{set:List Nat}(hset:plainB P set=true){r:Reach}{b0:Nat}{spare:Nat→Bool}{held:Bool}{base:Nat}: ∀(ts:List TypeId) (vs:List Value) (ds:List (DataW H)) (ps:List MemPlace),
  (∀t∈ts,t∈set)→(∀(j:Nat) t v,ts[j]? =some t→vs[j]? =some v→Value.okWide P w r b0 t v)→DataW.TrodAll enc P w base spare held ts vs ds ps→
  ∃gs:List GV,gs.length=vs.length∧gs.length=ts.length∧gs.length=ds.length∧(∀(i:Nat) (d:DataW H) (g:GV),ds[i]? =some d→gs[i]? =some g→DG d g)∧
   (∀(i:Nat) (t:TypeId) (g:GV),ts[i]? =some t→gs[i]? =some g→GT P t g)∧(∀(i:Nat) (g:GV) (v:Value),gs[i]? =some g→vs[i]? =some v→RG w (fun _ _=>True) g v)
 |[],vs,ds,ps,_,_,h=>by
  obtain⟨rfl,rfl,rfl⟩:=trodAll_nil h
  exact⟨[],by simp⟩
 |t::ts,vs,ds,ps,hm,hv,h=>by
  obtain⟨v,vs1,d,ds1,a,b,rfl,rfl,rfl,h1,h2⟩:=trodAll_cons h
  obtain⟨gs,e1,e2,e3,e4,e5,e6⟩:=rvs_params hset ts vs1 ds1 b (fun t ht=>hm t (by simp[ht])) (fun j t v ht hv'=>hv (j+1) t v (by simpa using ht) (by simpa using hv')) h2
  obtain⟨g,g1,g2,g3⟩:=rv_param hset (hm t (by simp)) (hv 0 t v rfl rfl) h1
  refine⟨g::gs,by simp[e1],by simp[e2],by simp[e3], ?_, ?_, ?_⟩
  ·intro i x y hx hy
   cases i with
   |zero=>simp at hx hy;subst hx;subst hy;exact g1
   |succ i=>exact e4 i x y (by simpa using hx) (by simpa using hy)
  ·intro i x y hx hy
   cases i with
   |zero=>simp at hx hy;subst hx;subst hy;exact g2
   |succ i=>exact e5 i x y (by simpa using hx) (by simpa using hy)
  ·intro i x y hx hy
   cases i with
   |zero=>simp at hx hy;subst hx;subst hy;exact g3
   |succ i=>exact e6 i x y (by simpa using hx) (by simpa using hy)
theorem trodAll_stays(hl:laidOutB P=true){W W':World}{sp:Nat→Bool}: ∀(ts:List TypeId) (vs:List Value) (ds:List (DataW H)) (ps:List MemPlace),
  (∀t∈ts,P.readableRec t=true∧t<P.types.size)→(∀p∈ps,W.sameAt W' p)→(∀p∈ps,sp p.block=true)→
  DataW.TrodAll enc P W 0 (fun _=>true) true ts vs ds ps→DataW.TrodAll enc P W' 0 sp true ts vs ds ps
 |[],vs,ds,ps,_,_,_,h=>by
  obtain⟨rfl,rfl,rfl⟩:=trodAll_nil h
  exact h
 |t::ts,vs,ds,ps,hr,hs,hp,h=>by
  obtain⟨v,vs1,d,ds1,a,b,rfl,rfl,rfl,h1,h2⟩:=trodAll_cons h
  exact⟨a,b,WideElems.Trod_stays hl (hr t (by simp)).1 (hr t (by simp)).2 h1 (fun p hp'=>hs p (by simp[hp'])) (fun p hp'=>hp p (by simp[hp'])),
   trodAll_stays hl ts vs1 ds1 b (fun t ht=>hr t (by simp[ht])) (fun p hp'=>hs p (by simp[hp'])) (fun p hp'=>hp p (by simp[hp'])) h2,rfl⟩
theorem Evo.below{w w':World}{c':Ctx}(h:Evo ⟨[],[],[],⟨fun _ _=>False,[]⟩,w⟩ c')(hw:c'.w=w'):Below w.heap.size w w':=by
 subst hw
 exact⟨h.os,h.tape.1,h.output,h.size,fun k hk=>h.frame k hk (by simp) (by simp) (by simp)⟩
theorem rel_nil(P:Program)(w:World)(hg:(∃β,gok β∧ ∀x∈gfacts β,∀(k:Nat) (v:Value),x.2[k]? =some v→w.cell? ⟨x.1,k,none⟩=some v)∧ ∀w':World,(∀(a:Addr) (v:Value),a.spot=none→w.cell? a=some v→w'.cell? a=some v)→gq w'):Rel P ⟨[],[],[],⟨fun _ _=>False,[]⟩,w⟩ ⟨[],[],[]⟩:=
 ⟨rfl,by simp,rfl,by simp,by simp,by simp,by simp,by simp,by simp,by simp,by simp,rfl,by simp,by simp,by simp,by simp,by simp,by simp,⟨hg.1.imp fun _ hg=>⟨hg.1,fun x hx k v hv=>⟨hg.2 x hx k v hv,by simp[Ctx.stab]⟩⟩,fun w' h=>hg.2 w' fun a v hs hc=>h a v hs (by simp[Ctx.stab]) hc⟩⟩
theorem law_calls_os{set:List Nat}{f:FuncId}{fn:Func}{s:ChangeSpec}{B:TypeId}(hset:plainB P set=true)(hts:(fn.params.toList.all fun t=>set.contains t&&(P.readableRec t&&decide (t<P.types.size)))=true)
  (hl:laidOutB P=true) (hvars:s.vars=[]) (hres:fn.resultTypes= #[B]) (hB:P.underlying B=some .bool)
  (hfn: ∀ds:List (DataW H),ds.length=fn.params.size→s.fn H ds={results:=[.lit (.bool true)],args:=ds,vars:=[]})
  (W:World) (base:Nat) (args:Array Value) (ds gs:List (DataW H)) (before:List MemPlace)
  (hval: ∀(j:Nat) t v,fn.params[j]? =some t→args[j]? =some v→Value.okWide P W .any base t v)
  (hW:DataW.Whole enc P fn.params.toList s.vars false W args.toList ds gs before)
  (hpc: ∀xs:List GV,xs.length=fn.params.size→xs.length=ds.length→(∀(i:Nat) (d:DataW H) (g:GV),ds[i]? =some d→xs[i]? =some g→DG d g)→
   (∀(i:Nat) (t:TypeId) (g:GV),fn.params[i]? =some t→xs[i]? =some g→GT P t g)→PC P f (xs.map .g) ⟨[],[],[]⟩ (.g (.bool true)) ⟨[],[],[]⟩)
  (hgl:(∃β,gok β∧ ∀x∈gfacts β,∀(k:Nat) (v:Value),x.2[k]? =some v→W.cell? ⟨x.1,k,none⟩=some v)∧ ∀w':World,(∀(a:Addr) (v:Value),a.spot=none→W.cell? a=some v→w'.cell? a=some v)→gq w':=by refine⟨⟨fun _=>undef,trivial, ?_⟩,fun _ _=>trivial⟩;intro x hx;exact absurd hx (by simp[gfacts])):
  Calls P f args W fun e W'=> ∃v,e= .returned v∧s.post enc P fn false true false false W args v W'∧W'.os=W.os:=by
 have hW':=hW
 obtain⟨p,q,hA,hV,hbe,hfz,hnd⟩:=hW
 rw[hvars]at hV
 obtain⟨rfl,rfl⟩:=trodVars_none hV
 have hall:=List.all_eq_true.1 hts
 have hmem: ∀t∈fn.params.toList,t∈set:=fun t ht=>by have:=hall t ht;simp only[Bool.and_eq_true]at this;simpa using this.1
 have hrd: ∀t∈fn.params.toList,P.readableRec t=true∧t<P.types.size:=fun t ht=>by have:=hall t ht;simp only[Bool.and_eq_true,decide_eq_true_eq]at this;exact this.2
 obtain⟨xs,e1,e2,e3,e4,e5,e6⟩:=rvs_params hset fn.params.toList args.toList ds p hmem (fun j t v ht hv=>hval j t v (by simpa using ht) (by simpa using hv)) hA
 have hc:=hpc xs (by simpa using e2) e3 e4 (fun i t g ht hg=>e5 i t g (by simpa using ht) hg) ⟨[],[],[],⟨fun _ _=>False,[]⟩,W⟩ args (rel_nil P W hgl)
  ⟨by simpa using e1,fun i pv v hp hv=>by
   simp only[List.getElem?_map,Option.map_eq_some_iff]at hp
   obtain⟨g,hg,rfl⟩:=hp
   refine .g _ _ ((e6 i g v hg (by simpa using hv)).mono ?_)
   intro a v _ _ hcell
   exact⟨hcell,by simp[Ctx.stab]⟩⟩
 refine hc.mono fun e W1 ⟨rv,c',he,hw,hr,hE,hv⟩=> ?_
 subst he
 have hb:Below W.heap.size W W1:=hE.below hw
 cases hv with
 |g x v hx=>
 cases hx
 have hlt: ∀x∈before,x.block<W.heap.size:=fun x hx=>hW'.lt x hx
 have hpb:p=before:=by rw[hbe];simp
 subst hpb
 refine⟨_,rfl,⟨ds,[],p,[],p,[],hW', ?_, ?_, ?_,Below.frame hb _,fun h=>by cases h⟩,hb.os⟩
 ·rw[hres,List.append_nil,hfn ds (by rw[←e3];simpa using e2)]
  exact⟨[],[],shut_bool hB _,rfl,rfl⟩
 ·rw[List.append_nil,hfn ds (by rw[←e3];simpa using e2)]
  exact trodAll_stays hl _ _ _ _ hrd (fun x hx=>hb.same (hlt x hx)) (fun x hx=>by simpa using hlt x hx) hA
 ·rw[hvars,List.append_nil,hfn ds (by rw[←e3];simpa using e2)]
  rfl
theorem law_calls{set:List Nat}{f:FuncId}{fn:Func}{s:ChangeSpec}{B:TypeId}(hset:plainB P set=true)(hts:(fn.params.toList.all fun t=>set.contains t&&(P.readableRec t&&decide (t<P.types.size)))=true)
  (hl:laidOutB P=true) (hvars:s.vars=[]) (hres:fn.resultTypes= #[B]) (hB:P.underlying B=some .bool)
  (hfn: ∀ds:List (DataW H),ds.length=fn.params.size→s.fn H ds={results:=[.lit (.bool true)],args:=ds,vars:=[]})
  (W:World) (base:Nat) (args:Array Value) (ds gs:List (DataW H)) (before:List MemPlace)
  (hval: ∀(j:Nat) t v,fn.params[j]? =some t→args[j]? =some v→Value.okWide P W .any base t v)
  (hW:DataW.Whole enc P fn.params.toList s.vars false W args.toList ds gs before)
  (hpc: ∀xs:List GV,xs.length=fn.params.size→xs.length=ds.length→(∀(i:Nat) (d:DataW H) (g:GV),ds[i]? =some d→xs[i]? =some g→DG d g)→
   (∀(i:Nat) (t:TypeId) (g:GV),fn.params[i]? =some t→xs[i]? =some g→GT P t g)→PC P f (xs.map .g) ⟨[],[],[]⟩ (.g (.bool true)) ⟨[],[],[]⟩)
  (hgl:(∃β,gok β∧ ∀x∈gfacts β,∀(k:Nat) (v:Value),x.2[k]? =some v→W.cell? ⟨x.1,k,none⟩=some v)∧ ∀w':World,(∀(a:Addr) (v:Value),a.spot=none→W.cell? a=some v→w'.cell? a=some v)→gq w':=by refine⟨⟨fun _=>undef,trivial, ?_⟩,fun _ _=>trivial⟩;intro x hx;exact absurd hx (by simp[gfacts])):
  Calls P f args W fun e W'=> ∃v,e= .returned v∧s.post enc P fn false true false false W args v W':=
 (law_calls_os hset hts hl hvars hres hB hfn W base args ds gs before hval hW hpc hgl).mono fun _ _ ⟨v,h,k,_⟩=>⟨v,h,k⟩
end
end Go.Pure
namespace Go.Pure
open Go
section
variable{P:Program}{t:TypeId}{g:GV}
theorem GT.int_inv{k:IntKind}(hu:P.underlying t=some (.int k))(h:GT P t g): ∃n,g= .int k n∧(Lit.int k n).wf=true:=by
 cases h with
 |int _ k' n hu' hw=>rw[hu]at hu';cases hu';exact⟨n,rfl,hw⟩
 |bool _ b hu'=>rw[hu]at hu';cases hu'
 |str _ s hu'=>rw[hu]at hu';cases hu'
 |sl _ e es hu'=>rw[hu]at hu';cases hu'
 |agg _ fs xs hu'=>rw[hu]at hu';cases hu'
theorem GT.bool_inv(hu:P.underlying t=some .bool)(h:GT P t g): ∃b,g= .bool b:=by
 cases h with
 |int _ k' n hu' hw=>rw[hu]at hu';cases hu'
 |bool _ b hu'=>exact⟨b,rfl⟩
 |str _ s hu'=>rw[hu]at hu';cases hu'
 |sl _ e es hu'=>rw[hu]at hu';cases hu'
 |agg _ fs xs hu'=>rw[hu]at hu';cases hu'
theorem GT.str_inv(hu:P.underlying t=some .string)(h:GT P t g): ∃s,g= .str s∧s.size≤maxLen:=by
 cases h with
 |int _ k' n hu' hw=>rw[hu]at hu';cases hu'
 |bool _ b hu'=>rw[hu]at hu';cases hu'
 |str _ s hu' hs=>exact⟨s,rfl,hs⟩
 |sl _ e es hu'=>rw[hu]at hu';cases hu'
 |agg _ fs xs hu'=>rw[hu]at hu';cases hu'
theorem GT.sl_inv{e:TypeId}(hu:P.underlying t=some (.slice e))(h:GT P t g): ∃es,g= .sl es∧es.length≤maxLen∧ ∀x∈es,GT P e x:=by
 cases h with
 |int _ k' n hu' hw=>rw[hu]at hu';cases hu'
 |bool _ b hu'=>rw[hu]at hu';cases hu'
 |str _ s hu'=>rw[hu]at hu';cases hu'
 |sl _ e' es hu' hl he=>rw[hu]at hu';cases hu';exact⟨es,rfl,hl,he⟩
 |agg _ fs xs hu'=>rw[hu]at hu';cases hu'
theorem GT.agg_inv{fs:Array Field}(hu:P.underlying t=some (.struct fs))(h:GT P t g): ∃xs:List GV,g= .agg (xs.flatMap GV.cells)∧xs.length=fs.size∧ ∀(i:Nat) (f:Field) (x:GV),fs[i]? =some f→xs[i]? =some x→GT P f.type x:=by
 cases h with
 |int _ k' n hu' hw=>rw[hu]at hu';cases hu'
 |bool _ b hu'=>rw[hu]at hu';cases hu'
 |str _ s hu'=>rw[hu]at hu';cases hu'
 |sl _ e es hu'=>rw[hu]at hu';cases hu'
 |agg _ fs' xs hu' hl hx=>rw[hu]at hu';cases hu';exact⟨xs,rfl,hl,hx⟩
end
theorem RG.cells_one{w:World}{S:Nat→Nat→Prop}{g:GV}{v:Value}(h:RG w S g v)(h1:v.oneCell'=true):g.cells=[g]:=by
 cases h with
 |agg=>cases h1
 |_=>rfl
def group(b:Bool)(size:Nat):Nat→List GV→List GV
 |0,_=>[]
 |n+1,gs=>bif b then .agg (gs.take size)::group b size n (gs.drop size)else(match gs with|g::r=>g::group b size n r|[]=>[])
theorem group_length{size:Nat}: ∀(n:Nat) (gs:List GV) (b:Bool),(b=false→size=1)→gs.length=n *size→(group b size n gs).length=n
 |0,_,_,_,_=>rfl
 |n+1,gs,true,hb,hl=>by
  simp only[group,cond_true,List.length_cons,Nat.add_right_cancel_iff]
  exact group_length n _ true hb (by simp[hl,Nat.add_mul])
 |n+1,gs,false,hb,hl=>by
  have h1:=hb rfl
  subst h1
  cases gs with
  |nil=>simp at hl
  |cons g r=>simp only[group,cond_false,List.length_cons,Nat.add_right_cancel_iff];exact group_length n r false hb (by simp at hl;omega)
theorem group_get{size:Nat}: ∀(n:Nat) (gs:List GV) (b:Bool),(b=false→size=1∧ ∀g∈gs,g.cells=[g])→gs.length=n *size→
  ∀(i:Nat) (e:GV),(group b size n gs)[i]? =some e→e.cells.length=size∧ ∀j g,e.cells[j]? =some g→gs[i *size+j]? =some g
 |0,_,_,_,_,i,e,h=>by simp[group]at h
 |n+1,gs,true,hb,hl,i,e,h=>by
  simp only[group,cond_true]at h
  cases i with
  |zero=>
   simp at h
   subst h
   refine⟨by simp[GV.cells,hl,Nat.add_mul],fun j g hj=> ?_⟩
   simp only[GV.cells,List.getElem?_take]at hj
   split at hj
   ·simpa using hj
   ·cases hj
  |succ i=>
   obtain⟨h1,h2⟩:=group_get (size:=size) n (gs.drop size) true (by simp) (by simp[hl,Nat.add_mul]) i e (by simpa using h)
   refine⟨h1,fun j g hj=> ?_⟩
   have:=h2 j g hj
   rw[List.getElem?_drop]at this
   rw[←this]
   congr 1
   rw[Nat.add_mul];omega
 |n+1,gs,false,hb,hl,i,e,h=>by
  obtain⟨h1,hc⟩:=hb rfl
  subst h1
  cases gs with
  |nil=>simp at hl
  |cons g r=>
   simp only[group,cond_false]at h
   cases i with
   |zero=>
    simp at h
    subst h
    rw[hc g (by simp)]
    refine⟨rfl,fun j g' hj=> ?_⟩
    cases j with
    |zero=>simpa using hj
    |succ j=>simp at hj
   |succ i=>
    obtain⟨h1,h2⟩:=group_get n r false (fun _=>⟨rfl,fun g' hg'=>hc g' (by simp[hg'])⟩) (by simp at hl;omega) i e (by simpa using h)
    refine⟨h1,fun j g' hj=> ?_⟩
    have:=h2 j g' hj
    rw[show(i+1) *1+j=(i *1+j)+1 by omega,List.getElem?_cons_succ]
    exact this
section
variable{P:Program}{o:Oper}{ρ:Operand→PV}{H:PH}
theorem RG_row{w:World}{S:Nat→Nat→Prop}{blk:Nat}{cur:Array Value}{e:TypeId}{es:List GV}{size cap:Nat}(hb:w.heap[blk]? =some (.cells cur e (0,0)))
  (hs: ∀(i:Nat) (x:GV),es[i]? =some x→x.cells.length=size) (hc:es.length≤cap) (hm:cap≤maxLen) (_hl:es.length *size≤cur.size) (hS: ∀p,p<es.length *size→S blk p)
  (h1: ∀k,k<es.length *size→ ∃v,cur[k]? =some v∧v.oneCell'=true)
  (h: ∀(i:Nat) (x:GV) (j:Nat) (g:GV) (v:Value),es[i]? =some x→x.cells[j]? =some g→cur[i *size+j]? =some v→RG w S g v):
  RG w S (.sl es) (.slice (some ⟨blk,0,none⟩) es.length cap):=by
 refine .sl es ⟨blk,0,none⟩ cap size (fun k=>cur[k]?.getD undef) (fun _=>rfl) hc hm hs (fun k hk=> ?_) (fun i x j g hx hg=> ?_)
 ·obtain⟨v,hv,hv1⟩:=h1 k hk
  rw[add_eq _ _ rfl]
  simp only[Nat.zero_add]
  refine⟨?_,hS k hk,by rw[hv];exact hv1⟩
  rw[cell_of_row w blk k cur e (0,0) hb,hv];rfl
 ·have hi:=(List.getElem?_eq_some_iff.1 hx).1
  have hj:j<size:=by rw[←hs i x hx];exact(List.getElem?_eq_some_iff.1 hg).1
  have hlt:i *size+j<es.length *size:=by
   calc i *size+j<i *size+size:=by omega
    _=(i+1) *size:=by rw[Nat.add_mul,Nat.one_mul]
    _≤es.length *size:=Nat.mul_le_mul_right _ hi
  obtain⟨v,hv,_⟩:=h1 _ hlt
  show RG w S g (cur[i *size+j]?.getD undef)
  rw[hv]
  exact h i x j g v hx hg hv
theorem fresh_stab{c:Ctx}(hr:Rel P c H){blk:Nat}(h:c.w.heap.size≤blk){w':World}(p:Nat):Ctx.stab ⟨c.σ,c.τ,c.μ,c.hid,w'⟩ blk p:=by
 refine⟨fun hh=> ?_,fun hm=> ?_,fun t ht lv e=> ?_,fun t ht lv e=> ?_⟩
 ·have:=hr.hidlt _ _ hh;omega
 ·have:=hr.shid _ hm;omega
 ·have:=hr.tlt ht lv;omega
 ·have:=hr.mlt t ht lv;omega
def zerosP(z:Value):Nat→List PV
 |0=>[]
 |n+1=>z.cells.toList.map constC++zerosP z n
theorem zerosP_length(z:Value)(n:Nat):(zerosP z n).length=n *z.cells.size:=by
 induction n with
 |zero=>simp[zerosP]
 |succ n ih=>simp[zerosP,ih,Nat.add_mul,Nat.add_comm]
theorem zerosP_get{z:Value}(hpos:0<z.cells.size): ∀(n j:Nat),j<n *z.cells.size→(zerosP z n)[j]? =(z.cells.toList.map constC)[j%z.cells.size]?
 |0,j,h=>by simp at h
 |n+1,j,h=>by
  unfold zerosP
  by_cases hj:j<z.cells.size
  ·rw[List.getElem?_append_left (by simpa using hj),Nat.mod_eq_of_lt hj]
  ·rw[List.getElem?_append_right (by simpa using hj)]
   simp only[List.length_map,Array.length_toList]
   rw[zerosP_get hpos n _ (by rw[Nat.add_mul]at h;omega),←Nat.mod_eq_sub_mod (by omega)]
theorem zeros_ok(c:Ctx){z:Value}(h1:z.cells.toList.all (·.oneCell')=true)(hpos:0<z.cells.size)(n:Nat):
  RCs c (zerosP z n) ((Array.range (n *z.cells.size)).map (z.cells[· %z.cells.size]!)):=by
 refine⟨by simp[zerosP_length],fun j p v hp hv=> ?_⟩
 have hj:j<n *z.cells.size:=by rw[←zerosP_length];exact(List.getElem?_eq_some_iff.1 hp).1
 rw[zerosP_get hpos n j hj]at hp
 have hmod:j%z.cells.size<z.cells.size:=Nat.mod_lt _ hpos
 simp[hj]at hv
 refine(zero_ok c h1).2 (j%z.cells.size) p v hp ?_
 rw[←hv]
 simp[hmod]
theorem PO_buildSlice{t n e size:Nat}{parts:Array (Nat×Operand)}{z:Value}{b:Bool}{cs:List PV}{gs:List GV}(ho:o.op= .buildSlice t n parts)(he:P.underlying t=some (.slice e))(hs:szB P e=some size)(_ha:aggB P e=some b)
  (hz:zeroB P e=some z) (hz1:z.cells.toList.all (·.oneCell')=true) (hzs:Nat.beq z.cells.size size=true) (hpos:Nat.ble 1 size=true) (hb:(b||Nat.beq size 1)=true) (hn:Nat.ble (n *size) 16777216=true)
  (hfill:fillP (fun i=>some (i *size,size)) (zerosP z n) (partsP ρ parts.toList)=some cs) (hg:allG cs=some gs):PO P o ρ H (.g (.sl (group b size n gs))) H:=by
 intro c ρr hr hx
 have hzs:=Nat.eq_of_beq_eq_true hzs
 have hpos:=Nat.le_of_ble_eq_true hpos
 have hn:=Nat.le_of_ble_eq_true hn
 subst hzs
 obtain⟨vs,hv1,hv2⟩:=fill_ok (c:=c) (partsP ρ parts.toList) ((parts.map fun(i,x)=>(i,ρr x)).toList) (zerosP z n) _ cs (zeros_ok c hz1 hpos n) (by simp[partsP_eq]) (by
  intro k x y hx1 hy
  rw[partsP_eq]at hx1
  simp only[List.getElem?_map,Option.map_eq_some_iff,Array.toList_map]at hx1 hy
  obtain⟨q,hq,rfl⟩:=hx1
  obtain⟨q',hq',rfl⟩:=hy
  rw[hq]at hq'
  cases hq'
  exact⟨rfl,hx q.2 (by
   rw[ho]
   simpa[Op.operands]using⟨q.1,by simpa using List.mem_of_getElem? hq⟩)⟩) hfill
 have hv1:Instr.fill (fun i=>some (i *z.cells.size,z.cells.size)) ((Array.range (n *z.cells.size)).map (z.cells[· %z.cells.size]!)) (List.map (fun x=>(x.1,ρr x.2)) parts.toList)=some vs:=by simpa using hv1
 have hrun:(execOp ρr o).run P c.w= .ok (.value (.slice (some ⟨c.w.heap.size,0,none⟩) n n)) (c.w.alloc (.cells vs e)):=by
  have hne: ¬(n *z.cells.size>2^24):=by simp only[Nat.reducePow];omega
  by_cases h0:n *z.cells.size=0
  ·obtain rfl:n=0:=by
    rcases Nat.mul_eq_zero.1 h0 with h|h
    ·exact h
    ·omega
   have e0: ∀f:Nat→Value,(Array.range (0 *z.cells.size)).map f= #[]:=fun f=>by simp
   rw[e0]at hv1
   have e1:Array.map (fun _:Nat=>(default:Value)) (Array.range 0)= #[]:=by simp
   simp[execOp,ho,Instr.buildSlice,run_underlying he,run_sizeOf hs,newRow,newObj,e1,hv1,Sem.run]
  ·simp[execOp,ho,Instr.buildSlice,run_underlying he,run_sizeOf hs,hne,h0,run_zero hz,newRow,newObj,hv1,Sem.run]
 unfold OpGoes
 rw[hrun]
 obtain⟨hr',hE⟩:=hr.grow (Ext.alloc c.w (.cells vs e))
 have hcells:gs.length=vs.size:=by rw[(allG_ok (c:=c) hg).1,hv2.1]
 have hcs: ∀(k:Nat) (g:GV) (v:Value),gs[k]? =some g→vs[k]? =some v→RG c.w c.stab g v∧v.oneCell'=true:=by
  intro k g v hgk hvk
  have hlt:k<cs.length:=by rw[←(allG_ok (c:=c) hg).1];exact(List.getElem?_eq_some_iff.1 hgk).1
  obtain⟨r1,r2⟩:=hv2.2 k cs[k] v (List.getElem?_eq_getElem hlt) hvk
  exact⟨(allG_ok (c:=c) hg).2 k g cs[k] hgk (List.getElem?_eq_getElem hlt) v r1,r2⟩
 have hvsz:vs.size=n *z.cells.size:=by
  rw[hv2.1]
  have: ∀(ps:List (Nat×PV)) (l l':List PV),fillP (fun i=>some (i *z.cells.size,z.cells.size)) l ps=some l'→l'.length=l.length:=by
   intro ps
   induction ps with
   |nil=>intro l l' h;simp[fillP]at h;rw[h]
   |cons p ps ih=>
    obtain⟨i,p⟩:=p
    intro l l' h
    unfold fillP at h
    split at h
    ·rename_i off n' ds hpl hds
     cases hb:(Nat.beq ds.length n'&&Nat.ble (off+n') l.length)with
     |false=>rw[hb]at h;cases h
     |true=>
      rw[hb,cond_true]at h
      rw[ih _ _ h]
      simp only[Bool.and_eq_true]at hb
      have e1:=Nat.eq_of_beq_eq_true hb.1
      have e2:=Nat.le_of_ble_eq_true hb.2
      simp[splice];omega
    ·cases h
  rw[this _ _ _ hfill,zerosP_length]
 have hone:b=false→z.cells.size=1∧ ∀g∈gs,g.cells=[g]:=fun e=>by
  subst e
  refine⟨Nat.eq_of_beq_eq_true (by simpa using hb),fun g hg'=> ?_⟩
  obtain⟨k,hk⟩:=List.getElem?_of_mem hg'
  have hlt:k<vs.size:=by rw[←hcells];exact(List.getElem?_eq_some_iff.1 hk).1
  obtain⟨r1,r2⟩:=hcs k g vs[k] hk (by simp[hlt])
  exact r1.cells_one r2
 have hlen:(group b z.cells.size n gs).length=n:=group_length n gs b (fun e=>(hone e).1) (by rw[hcells,hvsz])
 have hget:=group_get n gs b hone (by rw[hcells,hvsz])
 refine⟨_,rfl,hr',hE, .g _ _ ?_⟩
 have:=RG_row (w:=c.w.alloc (.cells vs e)) (S:=Ctx.stab ⟨c.σ,c.τ,c.μ,c.hid,c.w.alloc (.cells vs e)⟩) (es:=group b z.cells.size n gs) (size:=z.cells.size) (cap:=n) (Go.heap_alloc_new c.w _) (fun i x hx=>(hget i x hx).1) (by omega) (by
   have:n≤n *z.cells.size:=Nat.le_mul_of_pos_right _ hpos
   simp only[maxLen];omega) (by rw[hlen,hvsz];exact Nat.le_refl _) (fun p _=>fresh_stab hr (Nat.le_refl _) p) (fun k hk=> ?_) (fun i x j g v hx hg' hv=> ?_)
 ·rw[hlen]at this;exact this
 ·rw[hlen,←hvsz]at hk
  refine⟨vs[k],by simp[hk], ?_⟩
  have hk':k<gs.length:=by rw[hcells];exact hk
  exact(hcs k gs[k] vs[k] (List.getElem?_eq_getElem hk') (by simp[hk])).2
 ·exact(hcs _ g v ((hget i x hx).2 j g hg') hv).1.mono hE.keep
end
mutual
def ren(ι κ ν:Nat→Option Nat):PV→PV
 | .g x=> .g x
 | .own es id=>match κ id with|some id'=> .own es id'|none=> .g (.sl es)
 | .ptr b off=>match ι b with|some b'=> .ptr b' off|none=> .any
 | .nilp=> .nilp
 | .nils=> .nils
 | .pat cs=> .pat cs
 | .clo f a b=> .clo f (renL ι κ ν a) (renL ι κ ν b)
 | .agg cs=> .agg (renL ι κ ν cs)
 | .tuple cs=> .tuple (renL ι κ ν cs)
 | .lit es=> .lit es
 | .mar id n=>match ν id with|some id'=> .mar id' n|none=> .any
 | .mref id n i off=>match ν id with|some id'=> .mref id' n i off|none=> .any
 | .mp id=>match ν id with|some id'=> .mp id'|none=> .any
 | .glob g off=> .glob g off
 | .kv g off=> .kv g off
 | .ifc t p=> .ifc t (ren ι κ ν p)
 | .vw id n off len cap=>match ν id with|some id'=> .vw id' n off len cap|none=> .any
 | .any=> .any
def renL(ι κ ν:Nat→Option Nat):List PV→List PV
 |[]=>[]
 |p::r=>ren ι κ ν p::renL ι κ ν r
end
theorem renL_eq(ι κ ν:Nat→Option Nat): ∀l,renL ι κ ν l=l.map (ren ι κ ν)
 |[]=>by simp[renL]
 |p::r=>by simp[renL,renL_eq ι κ ν r]
theorem RV_ren{c c1:Ctx}{ι κ ν:Nat→Option Nat}(hw:c1.w=c.w)(hst: ∀b p,c.stab b p→c1.stab b p)
  (hι: ∀b b' blk,ι b=some b'→c.σ[b]? =some blk→c1.σ[b']? =some blk) (hκ: ∀i i' t,κ i=some i'→c.τ[i]? =some t→c1.τ[i']? =some t) (hν: ∀i i' t,ν i=some i'→c.μ[i]? =some t→c1.μ[i']? =some t) {p:PV} {v:Value} (h:RV c p v):RV c1 (ren ι κ ν p) v:=by
 have hk:Keeps c.w c1.w c.stab c1.stab:=fun a v _ hs hc=>⟨by rw[hw];exact hc,hst _ _ hs⟩
 induction h with
 |g x v h=>simp only[ren];exact .g x v (h.mono hk)
 |own es id v t h ht hs hl hv=>
  simp only[ren]
  split
  ·rename_i id' e;exact .own es id' v t (h.mono hk) (hκ id id' t e ht) hs hl hv
  ·exact .g _ _ (h.mono hk)
 |ptr b off blk h=>
  simp only[ren]
  split
  ·rename_i b' e;exact .ptr b' off blk (hι b b' blk e h)
  ·exact .any _
 |nilp=>simp only[ren];exact .nilp
 |nils=>simp only[ren];exact .nils
 |pat cs a f ha hf h=>
  simp only[ren]
  exact .pat cs a f ha (fun k hk'=>⟨by rw[hw];exact(hf k hk').1,hst _ _ (hf k hk').2.1,(hf k hk').2.2⟩) (fun j g hj=>(h j g hj).mono hk)
 |clo fn ps qs us vs hp hq _ _ h1 h2=>
  simp only[ren,renL_eq]
  refine .clo fn _ _ us vs (by simpa using hp) (by simpa using hq) (fun i p v hp' hv=> ?_) (fun i p v hp' hv=> ?_)
  ·simp only[List.getElem?_map,Option.map_eq_some_iff]at hp'
   obtain⟨q,hq',rfl⟩:=hp'
   exact h1 i q v hq' hv
  ·simp only[List.getElem?_map,Option.map_eq_some_iff]at hp'
   obtain⟨q,hq',rfl⟩:=hp'
   exact h2 i q v hq' hv
 |agg cs vs hl h1 _ ih=>
  simp only[ren,renL_eq]
  refine .agg _ vs (by simpa using hl) h1 fun i p v hp' hv=> ?_
  simp only[List.getElem?_map,Option.map_eq_some_iff]at hp'
  obtain⟨q,hq',rfl⟩:=hp'
  exact ih i q v hq' hv
 |tuple cs vs hl _ ih=>
  simp only[ren,renL_eq]
  refine .tuple _ vs (by simpa using hl) fun i p v hp' hv=> ?_
  simp only[List.getElem?_map,Option.map_eq_some_iff]at hp'
  obtain⟨q,hq',rfl⟩:=hp'
  exact ih i q v hq' hv
 |lit es a h=>simp only[ren];exact .lit es a (h.mono hk)
 |mar id n v t ht hn h1 hv=>
  simp only[ren]
  split
  ·rename_i id' e;exact .mar id' n v t (hν id id' t e ht) hn h1 hv
  ·exact .any _
 |mref id n i off v t ht hn h1 hv=>
  simp only[ren]
  split
  ·rename_i id' e;exact .mref id' n i off v t (hν id id' t e ht) hn h1 hv
  ·exact .any _
 |mp id v t ht h1 hv=>
  simp only[ren]
  split
  ·rename_i id' e;exact .mp id' v t (hν id id' t e ht) h1 hv
  ·exact .any _
 |vw id n off len cap g t ht hn h1 h2 hv=>
  simp only[ren]
  split
  ·rename_i id' e;exact .vw id' n off len cap g t (hν id id' t e ht) hn h1 h2 hv
  ·exact .any _
 |glob g off=>simp only[ren];exact .glob g off
 |kv g off v h hs h1=>simp only[ren];exact .kv g off v (by rw[hw];exact h) (hst _ _ hs) h1
 |ifc t p v _ ih=>simp only[ren];exact .ifc t _ v ih
 |any v=>simp only[ren];exact .any v
def posOf:List Nat→Nat→Option Nat
 |[],_=>none
 |i::I,b=>bif Nat.beq b i then some 0 else match posOf I b with|some k=>some (k+1)|none=>none
theorem posOf_some: ∀{I:List Nat} {b k:Nat},posOf I b=some k→I[k]? =some b
 |[],_,_,h=>by cases h
 |i::I,b,k,h=>by
  unfold posOf at h
  cases e:Nat.beq b i with
  |true=>rw[e,cond_true]at h;cases h;simp[Nat.eq_of_beq_eq_true e]
  |false=>
   rw[e,cond_false]at h
   split at h
   ·rename_i k' hk;cases h;simpa using posOf_some hk
   ·cases h
def backOf(I:List Nat)(n i:Nat):Option Nat:=match I[i]? with|some b=>some b|none=>some (n+(i-I.length))
def setAll{α:Type}:List α→List Nat→List α→List α
 |l,i::I,x::xs=>setAll (l.set i x) I xs
 |l,_,_=>l
theorem setAll_length{α:Type}: ∀(l:List α) (I:List Nat) (xs:List α),(setAll l I xs).length=l.length
 |l,i::I,x::xs=>by rw[setAll,setAll_length];simp
 |l,[],_=>by simp[setAll]
 |l,_::_,[]=>by simp[setAll]
theorem setAll_other{α:Type}: ∀(l:List α) (I:List Nat) (xs:List α) (k:Nat),k∉I→(setAll l I xs)[k]? =l[k]?
 |l,i::I,x::xs,k,h=>by
  rw[setAll,setAll_other _ I xs k (fun hm=>h (by simp[hm])),List.getElem?_set_ne (fun e=>h (by simp[e]))]
 |l,[],_,_,_=>by simp[setAll]
 |l,_::_,[],_,_=>by simp[setAll]
theorem setAll_at{α:Type}: ∀(l:List α) (I:List Nat) (xs:List α),I.Nodup→(∀i∈I,i<l.length)→ ∀(j k:Nat) (x:α),I[j]? =some k→xs[j]? =some x→(setAll l I xs)[k]? =some x
 |l,i::I,x::xs,hn,hl,j,k,y,hj,hx=>by
  rw[setAll]
  have hn':=List.nodup_cons.1 hn
  cases j with
  |zero=>
   simp at hj hx
   subst hj;subst hx
   rw[setAll_other _ _ _ _ hn'.1]
   simp[hl i (by simp)]
  |succ j=>exact setAll_at _ I xs hn'.2 (fun i' hi=>by simpa using hl i' (by simp[hi])) j k y (by simpa using hj) (by simpa using hx)
 |l,[],_,_,_,j,k,x,hj,_=>by simp at hj
 |l,_::_,[],_,_,j,k,x,_,hx=>by simp at hx
def back(I J L:List Nat)(H H1:PH):PH:=
  ⟨setAll H.bx I ((H1.bx.take I.length).map (renL (backOf I H.bx.length) (backOf J H.tk.length) (backOf L H.mu.length)))++(H1.bx.drop I.length).map (renL (backOf I H.bx.length) (backOf J H.tk.length) (backOf L H.mu.length)),
   setAll H.tk J (H1.tk.take J.length)++H1.tk.drop J.length,setAll H.mu L (H1.mu.take L.length)++H1.mu.drop L.length⟩
theorem getElem_of_list{α:Type}[Inhabited α]{l:List α}{I:List Nat}(h: ∀i∈I,i<l.length)(j i:Nat)(hj:I[j]? =some i):(I.map (l[·]!))[j]? =l[i]? :=by
 have hi:=h i (List.mem_of_getElem? hj)
 simp[hj,hi]
theorem nodup_at{α:Type}{l:List α}(h:l.Nodup){i j:Nat}(hi:i<l.length)(hj:j<l.length)(e:l[i]=l[j]):i=j:=
 (List.getElem?_inj hi h).1 (by rw[List.getElem?_eq_getElem hi,List.getElem?_eq_getElem hj,e])
instance:Inhabited Tok:=⟨⟨false,0,0,0,0,0⟩⟩
instance:Inhabited MTok:=⟨⟨false,0,0,0,0,0⟩⟩
theorem PCx_frame{P:Program}{f:FuncId}{args:List PV}{H0:PH}{R:PV→PH→Prop}(hp:PCx P f args H0 R){H:PH}{I J L:List Nat}{args':List PV}(hI:I.Nodup)(hJ:J.Nodup)(hL:L.Nodup)(hIl:H0.bx.length=I.length)
  (hI': ∀(j i:Nat),I[j]? =some i→ ∃cs,H.bx[i]? =some cs∧H0.bx[j]? =some (renL (posOf I) (posOf J) (posOf L) cs))
  (hJl:H0.tk.length=J.length) (hJ': ∀(j i:Nat),J[j]? =some i→ ∃x,H.tk[i]? =some x∧H0.tk[j]? =some x)
  (hLl:H0.mu.length=L.length) (hL': ∀(j i:Nat),L[j]? =some i→ ∃x,H.mu[i]? =some x∧H0.mu[j]? =some x) (ha:renL (posOf I) (posOf J) (posOf L) args'=args):
  PCx P f args' H fun v' H'=> ∃v H1,R v H1∧v'=ren (backOf I H.bx.length) (backOf J H.tk.length) (backOf L H.mu.length) v∧H'=back I J L H H1:=by
 intro c vs hr hargs
 have hIb: ∀i∈I,i<c.σ.length:=fun i hi=>by
  obtain⟨j,hj⟩:=List.getElem?_of_mem hi
  obtain⟨cs,h1,_⟩:=hI' j i hj
  rw[hr.len];exact(List.getElem?_eq_some_iff.1 h1).1
 have htl:c.τ.length=H.tk.length:=by rw[←hr.tk];simp
 have hJb: ∀i∈J,i<c.τ.length:=fun i hi=>by
  obtain⟨j,hj⟩:=List.getElem?_of_mem hi
  obtain⟨x,h1,_⟩:=hJ' j i hj
  rw[htl];exact(List.getElem?_eq_some_iff.1 h1).1
 have hml:c.μ.length=H.mu.length:=hr.mlen
 have hLb: ∀i∈L,i<c.μ.length:=fun i hi=>by
  obtain⟨j,hj⟩:=List.getElem?_of_mem hi
  obtain⟨x,h1,_⟩:=hL' j i hj
  rw[hml];exact(List.getElem?_eq_some_iff.1 h1).1
 generalize hμ0:L.map (c.μ[·]!)=μ0
 have gμ: ∀(j i:Nat),L[j]? =some i→μ0[j]? =c.μ[i]? :=fun j i hj=>hμ0▸getElem_of_list hLb j i hj
 have lμ:μ0.length=L.length:=by rw[←hμ0];simp
 have mμ: ∀t∈μ0,t∈c.μ:=fun b hb=>by
  obtain⟨j,hj⟩:=List.getElem?_of_mem hb
  have hlt:j<L.length:=by rw[←lμ];exact(List.getElem?_eq_some_iff.1 hj).1
  rw[gμ j L[j] (List.getElem?_eq_getElem hlt)]at hj
  exact List.mem_of_getElem? hj
 have minj: ∀t∈c.μ,∀t'∈c.μ,t.live=true→t'.live=true→t.g=t'.g→t=t':=by
  intro t ht t' ht' lv lv' e
  obtain⟨i,hi⟩:=List.getElem?_of_mem ht
  obtain⟨j,hj⟩:=List.getElem?_of_mem ht'
  have hij:i=j:=hr.md i j t t' hi hj lv lv' e
  subst hij
  rw[hi]at hj
  exact Option.some.inj hj
 generalize hσ0:I.map (c.σ[·]!)=σ0
 generalize hτ0:J.map (c.τ[·]!)=τ0
 have gσ: ∀(j i:Nat),I[j]? =some i→σ0[j]? =c.σ[i]? :=fun j i hj=>hσ0▸getElem_of_list hIb j i hj
 have gτ: ∀(j i:Nat),J[j]? =some i→τ0[j]? =c.τ[i]? :=fun j i hj=>hτ0▸getElem_of_list hJb j i hj
 have lσ:σ0.length=I.length:=by rw[←hσ0];simp
 have lτ:τ0.length=J.length:=by rw[←hτ0];simp
 have mσ: ∀b∈σ0,b∈c.σ:=fun b hb=>by
  obtain⟨j,hj⟩:=List.getElem?_of_mem hb
  have hlt:j<I.length:=by rw[←lσ];exact(List.getElem?_eq_some_iff.1 hj).1
  rw[gσ j I[j] (List.getElem?_eq_getElem hlt)]at hj
  exact List.mem_of_getElem? hj
 have mτ: ∀t∈τ0,t∈c.τ:=fun b hb=>by
  obtain⟨j,hj⟩:=List.getElem?_of_mem hb
  have hlt:j<J.length:=by rw[←lτ];exact(List.getElem?_eq_some_iff.1 hj).1
  rw[gτ j J[j] (List.getElem?_eq_getElem hlt)]at hj
  exact List.mem_of_getElem? hj
 have tinj: ∀t∈c.τ,∀t'∈c.τ,t.live=true→t'.live=true→t.g=t'.g→t=t':=by
  intro t ht t' ht' lv lv' e
  obtain⟨i,hi⟩:=List.getElem?_of_mem ht
  obtain⟨j,hj⟩:=List.getElem?_of_mem ht'
  have hij:i=j:=hr.td i j t t' hi hj lv lv' e
  subst hij
  rw[hi]at hj
  exact Option.some.inj hj
 -- the callee's context
 generalize hc0:(⟨σ0,τ0,μ0,⟨fun b p=>c.hid b p∨(b∈c.σ∧b∉σ0)∨(∃t∈c.τ,t∉τ0∧t.live=true∧t.g=b∧ ¬p<t.hw *t.size)∨ ∃t∈c.μ,t∉μ0∧t.live=true∧t.g=b,c.hid.d⟩,c.w⟩:Ctx)=c0
 have s0:c0.σ=σ0:=by rw[←hc0]
 have t0:c0.τ=τ0:=by rw[←hc0]
 have m0:c0.μ=μ0:=by rw[←hc0]
 have w0:c0.w=c.w:=by rw[←hc0]
 have h0: ∀b p,c0.hid b p↔(c.hid b p∨(b∈c.σ∧b∉σ0)∨(∃t∈c.τ,t∉τ0∧t.live=true∧t.g=b∧ ¬p<t.hw *t.size)∨ ∃t∈c.μ,t∉μ0∧t.live=true∧t.g=b):=fun b p=>by rw[←hc0]
 have st0: ∀b p,c.stab b p→c0.stab b p:=by
  rintro b p ⟨q1,q2,q3,q4⟩
  refine⟨?_,fun hb=>q2 (mσ b (s0▸hb)),fun t ht lv=>q3 t (mτ t (t0▸ht)) lv,fun t ht lv=>q4 t (mμ t (m0▸ht)) lv⟩
  rw[h0]
  rintro(h|⟨h,_⟩|⟨t,ht,_,lv,e,hn⟩|⟨t,ht,_,lv,e⟩)
  ·exact q1 h
  ·exact q2 h
  ·exact hn (q3 t ht lv e)
  ·exact q4 t ht lv e
 have rv0: ∀p v,RV c p v→RV c0 (ren (posOf I) (posOf J) (posOf L) p) v:=fun p v h=>RV_ren w0 st0
  (fun b b' blk e hb=>by rw[s0,gσ b' b (posOf_some e)];exact hb) (fun i i' t e ht=>by rw[t0,gτ i' i (posOf_some e)];exact ht) (fun i i' t e ht=>by rw[m0,gμ i' i (posOf_some e)];exact ht) h
 have mok0: ∀t o,MOk P c t o→MOk P c0 t o:=by
  intro t o h
  have hg: ∀g v,RG c.w c.stab g v→RG c0.w c0.stab g v:=fun g v h=>h.mono fun a u _ hs hc=>⟨by rw[w0];exact hc,st0 _ _ hs⟩
  cases o with
  |gone n=>exact h
  |arr n e es=>
   obtain⟨a1,a2,a3,a4⟩:=h
   refine⟨a1,a2,a3,a4.imp id ?_⟩
   rintro⟨lv,cur,b1,b2,b3,b4,b5,b6⟩
   exact⟨lv,cur,by rw[w0];exact b1,b2,b3,b4,b5,fun i x j g v hx hg' hv=>⟨hg _ _ (b6 i x j g v hx hg' hv).1,(b6 i x j g v hx hg' hv).2⟩⟩
  |map es=>
   obtain⟨a1,lv,ents,es',hp,b1,b2,b3⟩:=h
   exact⟨a1,lv,ents,es',hp,by rw[w0];exact b1,b2,fun i k v n hk hn=>⟨hg _ _ (b3 i k v n hk hn).1,hg _ _ (b3 i k v n hk hn).2.1,(b3 i k v n hk hn).2.2⟩⟩
  |iter n s pos=>exact⟨h.1,h.2.1,by rw[w0];exact h.2.2⟩
 have rel0:Rel P c0 H0:=by
  refine⟨by rw[s0,lσ,hIl], ?_, ?_, ?_, ?_, ?_, ?_, ?_, ?_, ?_,fun t ht=>hr.dead t (mτ t (t0▸ht)),by rw[m0,lμ,hLl], ?_,fun t ht lv=>by rw[w0];exact hr.mlt t (mμ t (m0▸ht)) lv, ?_,fun t ht lv hb=>hr.ms t (mμ t (m0▸ht)) lv (mσ _ (s0▸hb)),fun t ht lv t' ht' lv'=>hr.mt t (mμ t (m0▸ht)) lv t' (mτ t' (t0▸ht')) lv', ?_,hr.gl.of_stab w0 st0⟩
  ·intro j b cs hb hcs
   rw[s0]at hb
   have hlt:j<I.length:=by rw[←lσ];exact(List.getElem?_eq_some_iff.1 hb).1
   have hj:=List.getElem?_eq_getElem hlt
   rw[gσ j _ hj]at hb
   obtain⟨cs',k1,k2⟩:=hI' j _ hj
   rw[k2]at hcs
   cases hcs
   obtain⟨vals,T,e1,e2,e3⟩:=hr.bx _ b cs' hb k1
   rw[w0]
   refine⟨vals,T,e1,by rw[renL_eq];simpa using e2,fun k p u hk hu=> ?_⟩
   rw[renL_eq]at hk
   simp only[List.getElem?_map,Option.map_eq_some_iff]at hk
   obtain⟨q,hq,rfl⟩:=hk
   exact⟨rv0 _ _ (e3 k q u hq hu).1,(e3 k q u hq hu).2⟩
  ·rw[t0]
   refine List.ext_getElem? fun j=> ?_
   by_cases hlt:j<J.length
   ·have hj:=List.getElem?_eq_getElem hlt
    obtain⟨x,k1,k2⟩:=hJ' j _ hj
    rw[k2,List.getElem?_map,gτ j _ hj,←List.getElem?_map,hr.tk]
    exact k1
   ·rw[List.getElem?_eq_none (by simp[lτ];omega),List.getElem?_eq_none (by omega)]
  ·intro t ht lv
   rw[w0]
   exact hr.tb t (mτ t (t0▸ht)) lv
  ·rw[s0,←hσ0]
   refine List.pairwise_map.2 (List.Pairwise.imp_of_mem ?_ hI)
   intro i i' hi hi' hne e
   have l1:=hIb i hi
   have l2:=hIb i' hi'
   simp only[getElem!_pos,l1,l2]at e
   exact hne (nodup_at hr.nd l1 l2 e)
  ·intro i j t t' hi hj lv lv' e
   rw[t0]at hi hj
   have li:i<J.length:=by rw[←lτ];exact(List.getElem?_eq_some_iff.1 hi).1
   have lj:j<J.length:=by rw[←lτ];exact(List.getElem?_eq_some_iff.1 hj).1
   rw[gτ i _ (List.getElem?_eq_getElem li)]at hi
   rw[gτ j _ (List.getElem?_eq_getElem lj)]at hj
   exact nodup_at hJ li lj (hr.td _ _ t t' hi hj lv lv' e)
  ·intro t ht lv hb
   exact hr.st t (mτ t (t0▸ht)) lv (mσ _ (s0▸hb))
  ·intro b p h
   rw[w0]
   rcases(h0 b p).1 h with h|⟨h,_⟩|⟨t,ht,_,lv,e,_⟩|⟨t,ht,_,lv,e⟩
   ·exact hr.hidlt b p h
   ·exact hr.shid b h
   ·exact e▸hr.tlt ht lv
   ·exact e▸hr.mlt t ht lv
  ·intro t ht lv p h
   have ht':=mτ t (t0▸ht)
   rcases(h0 _ p).1 h with h|⟨h,_⟩|⟨t',ht1,ht2,lv',e,_⟩|⟨t',ht1,ht2,lv',e⟩
   ·exact hr.thid t ht' lv p h
   ·exact hr.st t ht' lv h
   ·exact ht2 (tinj t' ht1 t ht' lv' lv e▸(t0▸ht))
   ·exact hr.mt t' ht1 lv' t ht' lv e
  ·intro b hb
   rw[w0]
   exact hr.shid b (mσ b (s0▸hb))
  ·intro j t o hj ho
   rw[m0]at hj
   have hlt:j<L.length:=by rw[←lμ];exact(List.getElem?_eq_some_iff.1 hj).1
   have hj':=List.getElem?_eq_getElem hlt
   rw[gμ j _ hj']at hj
   obtain⟨x,k1,k2⟩:=hL' j _ hj'
   rw[k2]at ho
   cases ho
   exact mok0 t o (hr.mu _ t o hj k1)
  ·intro i j t t' hi hj lv lv' e
   rw[m0]at hi hj
   have li:i<L.length:=by rw[←lμ];exact(List.getElem?_eq_some_iff.1 hi).1
   have lj:j<L.length:=by rw[←lμ];exact(List.getElem?_eq_some_iff.1 hj).1
   rw[gμ i _ (List.getElem?_eq_getElem li)]at hi
   rw[gμ j _ (List.getElem?_eq_getElem lj)]at hj
   exact nodup_at hL li lj (hr.md _ _ t t' hi hj lv lv' e)
  ·intro t ht lv p h
   have ht':=mμ t (m0▸ht)
   rcases(h0 _ p).1 h with h|⟨h,_⟩|⟨t',ht1,ht2,lv',e,_⟩|⟨t',ht1,ht2,lv',e⟩
   ·exact hr.mhid t ht' lv p h
   ·exact hr.ms t ht' lv h
   ·exact hr.mt t ht' lv t' ht1 lv' e.symm
   ·exact ht2 (minj t' ht1 t ht' lv' lv e▸(m0▸ht))
 have args0:RVs c0 args vs:=by
  rw[←ha,renL_eq]
  refine⟨by simpa using hargs.1,fun i p u hp' hu=> ?_⟩
  simp only[List.getElem?_map,Option.map_eq_some_iff]at hp'
  obtain⟨q,hq,rfl⟩:=hp'
  exact rv0 q u (hargs.2 i q u hq hu)
 have hcall:=hp c0 vs rel0 args0
 rw[w0]at hcall
 refine hcall.mono fun e w' ⟨v,H1,rv,c1,hR,he,hw1,hr1,hE1,hv1⟩=> ?_
 subst he;subst hw1
 -- the caller's context behind the call
 obtain⟨n,hn,hnlt⟩:=hE1.sig
 rw[s0]at hn
 rw[w0]at hnlt
 have hdrop:c1.σ.drop I.length=n:=by rw[hn,←lσ];simp
 have hlt1:J.length≤c1.τ.length:=by
  by_cases hz:J.length=0
  ·omega
  ·have hj:J.length-1<τ0.length:=by omega
   obtain⟨t',ht',_⟩:=hE1.tok (J.length-1) τ0[J.length-1] (by rw[t0];exact List.getElem?_eq_getElem hj)
   have:=(List.getElem?_eq_some_iff.1 ht').1
   omega
 generalize hτ':setAll c.τ J (c1.τ.take J.length)++c1.τ.drop J.length=τ'
 have memτ': ∀t∈τ',t∈c1.τ∨(t∈c.τ∧(t.live=true→t∉τ0)):=by
  intro t ht
  rw[←hτ',List.mem_append]at ht
  rcases ht with ht|ht
  ·obtain⟨k,hk⟩:=List.getElem?_of_mem ht
   by_cases hkJ:k∈J
   ·obtain⟨j,hj⟩:=List.getElem?_of_mem hkJ
    have hjl:j<J.length:=(List.getElem?_eq_some_iff.1 hj).1
    have hj1:j<c1.τ.length:=by omega
    have:(c1.τ.take J.length)[j]? =some c1.τ[j]:=by rw[List.getElem?_take,if_pos hjl];exact List.getElem?_eq_getElem hj1
    rw[setAll_at c.τ J _ hJ hJb j k _ hj this]at hk
    cases hk
    exact .inl (List.getElem_mem hj1)
   ·rw[setAll_other _ _ _ _ hkJ]at hk
    refine .inr ⟨List.mem_of_getElem? hk,fun lv hm=>hkJ ?_⟩
    obtain⟨j,hj⟩:=List.getElem?_of_mem hm
    have hjl:j<J.length:=by rw[←lτ];exact(List.getElem?_eq_some_iff.1 hj).1
    have hj':=List.getElem?_eq_getElem hjl
    rw[gτ j _ hj']at hj
    have:=hr.td _ _ t t hk hj lv lv rfl
    rw[this]
    exact List.getElem_mem hjl
  ·exact .inl (List.mem_of_mem_drop ht)
 have hltm:L.length≤c1.μ.length:=by
  by_cases hz:L.length=0
  ·omega
  ·have hj:L.length-1<μ0.length:=by omega
   obtain⟨t',ht',_⟩:=hE1.mu (L.length-1) μ0[L.length-1] (by rw[m0];exact List.getElem?_eq_getElem hj)
   have:=(List.getElem?_eq_some_iff.1 ht').1
   omega
 generalize hμ':setAll c.μ L (c1.μ.take L.length)++c1.μ.drop L.length=μ'
 have memμ': ∀t∈μ',t∈c1.μ∨(t∈c.μ∧(t.live=true→t∉μ0)):=by
  intro t ht
  rw[←hμ',List.mem_append]at ht
  rcases ht with ht|ht
  ·obtain⟨k,hk⟩:=List.getElem?_of_mem ht
   by_cases hkJ:k∈L
   ·obtain⟨j,hj⟩:=List.getElem?_of_mem hkJ
    have hjl:j<L.length:=(List.getElem?_eq_some_iff.1 hj).1
    have hj1:j<c1.μ.length:=by omega
    have:(c1.μ.take L.length)[j]? =some c1.μ[j]:=by rw[List.getElem?_take,if_pos hjl];exact List.getElem?_eq_getElem hj1
    rw[setAll_at c.μ L _ hL hLb j k _ hj this]at hk
    cases hk
    exact .inl (List.getElem_mem hj1)
   ·rw[setAll_other _ _ _ _ hkJ]at hk
    refine .inr ⟨List.mem_of_getElem? hk,fun lv hm=>hkJ ?_⟩
    obtain⟨j,hj⟩:=List.getElem?_of_mem hm
    have hjl:j<L.length:=by rw[←lμ];exact(List.getElem?_eq_some_iff.1 hj).1
    have hj':=List.getElem?_eq_getElem hjl
    rw[gμ j _ hj']at hj
    have:=hr.md _ _ t t hk hj lv lv rfl
    rw[this]
    exact List.getElem_mem hjl
  ·exact .inl (List.mem_of_mem_drop ht)
 have hhid:c1.hid=c0.hid:=hE1.hid
 have st1: ∀b p,c1.stab b p→Ctx.stab ⟨c.σ++n,τ',μ',c.hid,c1.w⟩ b p:=by
  rintro b p ⟨q1,q2,q3,q4⟩
  rw[hhid,h0]at q1
  rw[hn]at q2
  refine⟨fun h=>q1 (.inl h),fun hb=> ?_,fun t ht lv e=> ?_,fun t ht lv e=> ?_⟩
  ·rcases List.mem_append.1 hb with hb|hb
   ·by_cases h2:b∈σ0
    ·exact q2 (List.mem_append_left _ h2)
    ·exact q1 (.inr (.inl ⟨hb,h2⟩))
   ·exact q2 (List.mem_append_right _ hb)
  ·rcases memτ' t ht with ht|⟨h1,h2⟩
   ·exact q3 t ht lv e
   ·exact Classical.byContradiction fun hlt=>q1 (.inr (.inr (.inl ⟨t,h1,h2 lv,lv,e,hlt⟩)))
  ·rcases memμ' t ht with ht|⟨h1,h2⟩
   ·exact q4 t ht lv e
   ·exact q1 (.inr (.inr (.inr ⟨t,h1,h2 lv,lv,e⟩)))
 have hframe: ∀b,b<c.w.heap.size→b∉σ0→(∀t∈τ0,t.live=true→t.g≠b)→(∀t∈μ0,t.live=true→t.g≠b)→c1.w.heap[b]? =c.w.heap[b]? :=fun b h1 h2 h3 h4=>by
  have:=hE1.frame b (by rw[w0];exact h1) (by rw[s0];exact h2) (by rw[t0];exact h3) (by rw[m0];exact h4)
  rwa[w0]at this
 have hEvo:Evo c ⟨c.σ++n,τ',μ',c.hid,c1.w⟩:=by
  refine⟨by rw[←w0];exact hE1.os,by rw[←w0];exact hE1.tape,by rw[←w0];exact hE1.output,by rw[←w0];exact hE1.size,rfl,⟨n,rfl,hnlt⟩, ?_, ?_, ?_, ?_, ?_, ?_⟩
  ·intro id t ht
   by_cases hm:id∈J
   ·obtain⟨j,hj⟩:=List.getElem?_of_mem hm
    have hjl:j<J.length:=(List.getElem?_eq_some_iff.1 hj).1
    obtain⟨t',e1,e2,e3,e4⟩:=hE1.tok j t (by rw[t0,gτ j id hj];exact ht)
    refine⟨t', ?_,e2,e3,e4⟩
    show τ'[id]? =some t'
    rw[←hτ',List.getElem?_append_left (by rw[setAll_length];exact(List.getElem?_eq_some_iff.1 ht).1)]
    exact setAll_at c.τ J _ hJ hJb j id t' hj (by rw[List.getElem?_take,if_pos hjl];exact e1)
   ·refine⟨t, ?_,rfl,rfl, .inl rfl⟩
    show τ'[id]? =some t
    rw[←hτ',List.getElem?_append_left (by rw[setAll_length];exact(List.getElem?_eq_some_iff.1 ht).1),setAll_other _ _ _ _ hm]
    exact ht
  ·intro id t ht
   by_cases hm:id∈L
   ·obtain⟨j,hj⟩:=List.getElem?_of_mem hm
    have hjl:j<L.length:=(List.getElem?_eq_some_iff.1 hj).1
    obtain⟨t',e1,e2,e3⟩:=hE1.mu j t (by rw[m0,gμ j id hj];exact ht)
    refine⟨t', ?_,e2,e3⟩
    show μ'[id]? =some t'
    rw[←hμ',List.getElem?_append_left (by rw[setAll_length];exact(List.getElem?_eq_some_iff.1 ht).1)]
    exact setAll_at c.μ L _ hL hLb j id t' hj (by rw[List.getElem?_take,if_pos hjl];exact e1)
   ·refine⟨t, ?_,rfl, .inl rfl⟩
    show μ'[id]? =some t
    rw[←hμ',List.getElem?_append_left (by rw[setAll_length];exact(List.getElem?_eq_some_iff.1 ht).1),setAll_other _ _ _ _ hm]
    exact ht
  ·intro t ht lv
   rcases memμ' t ht with ht|⟨ht,_⟩
   ·rcases hE1.munew t ht lv with⟨t1,h1,lv1,e⟩|h1
    ·exact .inl ⟨t1,mμ t1 (m0▸h1),lv1,e⟩
    ·rw[w0]at h1;exact .inr h1
   ·exact .inl ⟨t,ht,lv,rfl⟩
  ·intro t ht lv
   rcases memτ' t ht with ht|⟨ht,_⟩
   ·rcases hE1.toknew t ht lv with⟨t1,h1,lv1,e⟩|h1
    ·exact .inl ⟨t1,mτ t1 (t0▸h1),lv1,e⟩
    ·rw[w0]at h1;exact .inr h1
   ·exact .inl ⟨t,ht,lv,rfl⟩
  ·intro a u hspot hs hcell
   obtain⟨k1,k2⟩:=hE1.keep a u hspot (st0 _ _ hs) (by rw[w0];exact hcell)
   exact⟨k1,st1 _ _ k2⟩
  ·intro b h1 h2 h3 h4
   exact hframe b h1 (fun hm=>h2 (mσ b hm)) (fun t ht lv=>h3 t (mτ t ht) lv) (fun t ht lv=>h4 t (mμ t ht) lv)
 have rv1: ∀p u,RV c1 p u→RV ⟨c.σ++n,τ',μ',c.hid,c1.w⟩ (ren (backOf I H.bx.length) (backOf J H.tk.length) (backOf L H.mu.length) p) u:=by
  intro p u h
  refine RV_ren (c:=c1) (c1:=⟨c.σ++n,τ',μ',c.hid,c1.w⟩) rfl st1 (fun b b' blk e hb=> ?_) (fun i i' t e ht=> ?_) (fun i i' t e ht=> ?_) h
  ·show(c.σ++n)[b']? =some blk
   rw[hn]at hb
   unfold backOf at e
   split at e
   ·rename_i x hx
    cases e
    rw[List.getElem?_append_left (by rw[lσ];exact(List.getElem?_eq_some_iff.1 hx).1),gσ b _ hx]at hb
    rw[List.getElem?_append_left (hIb _ (List.mem_of_getElem? hx))]
    exact hb
   ·rename_i hx
    cases e
    have hge:I.length≤b:=List.getElem?_eq_none_iff.1 hx
    rw[List.getElem?_append_right (by rw[lσ];exact hge),lσ]at hb
    rw[List.getElem?_append_right (by rw[hr.len];omega),hr.len,show H.bx.length+(b-I.length)-H.bx.length=b-I.length by omega]
    exact hb
  ·show τ'[i']? =some t
   rw[←hτ']
   unfold backOf at e
   split at e
   ·rename_i x hx
    cases e
    have hil:i<J.length:=(List.getElem?_eq_some_iff.1 hx).1
    rw[List.getElem?_append_left (by rw[setAll_length];exact hJb _ (List.mem_of_getElem? hx))]
    exact setAll_at c.τ J _ hJ hJb i _ t hx (by rw[List.getElem?_take,if_pos hil];exact ht)
   ·rename_i hx
    cases e
    have hge:J.length≤i:=List.getElem?_eq_none_iff.1 hx
    rw[List.getElem?_append_right (by rw[setAll_length,htl];omega),setAll_length,htl,List.getElem?_drop,show J.length+(H.tk.length+(i-J.length)-H.tk.length)=i by omega]
    exact ht
  ·show μ'[i']? =some t
   rw[←hμ']
   unfold backOf at e
   split at e
   ·rename_i x hx
    cases e
    have hil:i<L.length:=(List.getElem?_eq_some_iff.1 hx).1
    rw[List.getElem?_append_left (by rw[setAll_length];exact hLb _ (List.mem_of_getElem? hx))]
    exact setAll_at c.μ L _ hL hLb i _ t hx (by rw[List.getElem?_take,if_pos hil];exact ht)
   ·rename_i hx
    cases e
    have hge:L.length≤i:=List.getElem?_eq_none_iff.1 hx
    rw[List.getElem?_append_right (by rw[setAll_length,hml];omega),setAll_length,hml,List.getElem?_drop,show L.length+(H.mu.length+(i-L.length)-H.mu.length)=i by omega]
    exact ht
 have hl1:c1.σ.length=H1.bx.length:=hr1.len
 have hnl:n.length=H1.bx.length-I.length:=by rw[←hl1,hn,List.length_append,lσ];omega
 have hσlt: ∀b∈c.σ,b<c.w.heap.size:=hr.shid
 have unch: ∀t∈c.τ,t.live=true→t∉τ0→c1.w.heap[t.g]? =c.w.heap[t.g]? :=fun t ht lv hnt=>
  hframe t.g (hr.tlt ht lv) (fun hm=>hr.st t ht lv (mσ _ hm)) (fun t' ht' lv' e=>hnt (tinj t' (mτ t' ht') t ht lv' lv e▸ht')) (fun t' ht' lv' e=>hr.mt t' (mμ t' ht') lv' t ht lv e)
 have unchm: ∀t∈c.μ,t.live=true→t∉μ0→c1.w.heap[t.g]? =c.w.heap[t.g]? :=fun t ht lv hnt=>
  hframe t.g (hr.mlt t ht lv) (fun hm=>hr.ms t ht lv (mσ _ hm)) (fun t' ht' lv' e=>hr.mt t ht lv t' (mτ t' ht') lv' e.symm) (fun t' ht' lv' e=>hnt (minj t' (mμ t' ht') t ht lv' lv e▸ht'))
 have new1m: ∀t∈c1.μ,t.live=true→t.g∉c.σ:=by
  intro t ht lv hm
  rcases hE1.munew t ht lv with⟨t1,h1,lv1,e⟩|h1
  ·exact hr.ms t1 (mμ t1 (m0▸h1)) lv1 (e▸hm)
  ·rw[w0]at h1;have:=hσlt _ hm;omega
 have new1: ∀t∈c1.τ,t.live=true→t.g∉c.σ:=by
  intro t ht lv hm
  rcases hE1.toknew t ht lv with⟨t1,h1,lv1,e⟩|h1
  ·exact hr.st t1 (mτ t1 (t0▸h1)) lv1 (e▸hm)
  ·rw[w0]at h1;have:=hσlt _ hm;omega
 refine⟨_,_,rv,⟨c.σ++n,τ',μ',c.hid,c1.w⟩,⟨v,H1,hR,rfl,rfl⟩,rfl,rfl, ?_,hEvo,rv1 _ _ hv1⟩
 refine⟨?_, ?_, ?_, ?_, ?_, ?_, ?_, ?_, ?_, ?_, ?_, ?_, ?_, ?_, ?_, ?_, ?_, ?_,hr.gl.keep hEvo.keep⟩
 ·show(c.σ++n).length=_
  simp[back,setAll_length,hr.len,hnl]
 ·intro i b cs hb hcs
  replace hb:(c.σ++n)[i]? =some b:=hb
  show ∃(vals:Array Value) (T:TypeId),c1.w.heap[b]? =some (.cells vals T (0,0))∧_
  simp only[back]at hcs
  by_cases hi:i<c.σ.length
  ·rw[List.getElem?_append_left hi]at hb
   rw[List.getElem?_append_left (by rw[setAll_length,←hr.len];exact hi)]at hcs
   by_cases hm:i∈I
   ·obtain⟨j,hj⟩:=List.getElem?_of_mem hm
    have hjl:j<I.length:=(List.getElem?_eq_some_iff.1 hj).1
    have hj1:j<H1.bx.length:=by rw[←hl1,hn,List.length_append,lσ];omega
    have hat:((H1.bx.take I.length).map (renL (backOf I H.bx.length) (backOf J H.tk.length) (backOf L H.mu.length)))[j]? =some (renL (backOf I H.bx.length) (backOf J H.tk.length) (backOf L H.mu.length) H1.bx[j]):=by
     rw[List.getElem?_map,List.getElem?_take,if_pos hjl,List.getElem?_eq_getElem hj1];rfl
    rw[setAll_at H.bx I _ hI (fun i hi=>by rw[←hr.len];exact hIb i hi) j i _ hj hat]at hcs
    cases hcs
    have hb1:c1.σ[j]? =some b:=by
     rw[hn,List.getElem?_append_left (by rw[lσ];exact hjl),gσ j i hj];exact hb
    obtain⟨vals,T,e1,e2,e3⟩:=hr1.bx j b _ hb1 (List.getElem?_eq_getElem hj1)
    refine⟨vals,T,e1,by rw[renL_eq];simpa using e2,fun k p u hk hu=> ?_⟩
    rw[renL_eq]at hk
    simp only[List.getElem?_map,Option.map_eq_some_iff]at hk
    obtain⟨q,hq,rfl⟩:=hk
    exact⟨rv1 _ _ (e3 k q u hq hu).1,(e3 k q u hq hu).2⟩
   ·rw[setAll_other _ _ _ _ hm]at hcs
    obtain⟨vals,T,e1,e2,e3⟩:=hr.bx i b cs hb hcs
    have hnb:b∉σ0:=fun hmb=>by
     obtain⟨j,hj⟩:=List.getElem?_of_mem hmb
     have hjl:j<I.length:=by rw[←lσ];exact(List.getElem?_eq_some_iff.1 hj).1
     have hj':=List.getElem?_eq_getElem hjl
     rw[gσ j _ hj']at hj
     have:=(List.getElem?_inj hi hr.nd).1 (hb.trans hj.symm)
     exact hm (this▸List.getElem_mem hjl)
    have hbm:b∈c.σ:=List.mem_of_getElem? hb
    refine⟨vals,T, ?_,e2,fun k p u hk hu=>⟨(e3 k p u hk hu).1.mono hEvo,(e3 k p u hk hu).2⟩⟩
    rw[hframe b (hσlt b hbm) hnb (fun t ht lv e=>hr.st t (mτ t ht) lv (e▸hbm)) (fun t ht lv e=>hr.ms t (mμ t ht) lv (e▸hbm))]
    exact e1
  ·rw[List.getElem?_append_right (by omega)]at hb
   rw[List.getElem?_append_right (by rw[setAll_length,←hr.len];omega),setAll_length,←hr.len]at hcs
   simp only[List.getElem?_map,List.getElem?_drop,Option.map_eq_some_iff]at hcs
   obtain⟨cs',hcs',rfl⟩:=hcs
   have hb1:c1.σ[I.length+(i-c.σ.length)]? =some b:=by
    rw[hn,List.getElem?_append_right (by rw[lσ];omega),lσ,show I.length+(i-c.σ.length)-I.length=i-c.σ.length by omega];exact hb
   obtain⟨vals,T,e1,e2,e3⟩:=hr1.bx _ b _ hb1 hcs'
   refine⟨vals,T,e1,by rw[renL_eq];simpa using e2,fun k p u hk hu=> ?_⟩
   rw[renL_eq]at hk
   simp only[List.getElem?_map,Option.map_eq_some_iff]at hk
   obtain⟨q,hq,rfl⟩:=hk
   have:=e3 k q u hq hu
   rw[←hr.len]at rv1
   exact⟨rv1 _ _ this.1,this.2⟩
 ·show τ'.map (fun t=>(t.e,t.hw))=_
  rw[←hτ']
  have key: ∀(l:List Tok) (J:List Nat) (xs:List Tok),(setAll l J xs).map (fun t=>(t.e,t.hw))=setAll (l.map (fun t=>(t.e,t.hw))) J (xs.map (fun t=>(t.e,t.hw))):=by
   intro l J
   induction J generalizing l with
   |nil=>intro xs;simp[setAll]
   |cons i J ih=>
    intro xs
    cases xs with
    |nil=>simp[setAll]
    |cons x xs=>simp only[setAll,List.map_cons,ih];rw[List.map_set]
  simp only[back,List.map_append,key,hr.tk,List.map_take,List.map_drop,hr1.tk]
 ·intro t ht lv
  rcases memτ' t ht with ht|⟨h1,h2⟩
  ·exact hr1.tb t ht lv
  ·obtain⟨cur,e1,e2⟩:=hr.tb t h1 lv
   exact⟨cur,(unch t h1 lv (h2 lv)).trans e1,e2⟩
 ·refine List.nodup_append.2 ⟨hr.nd, ?_,fun a ha b hb e=> ?_⟩
  ·have:=hr1.nd
   rw[hn]at this
   exact(List.nodup_append.1 this).2.1
  ·have:=hσlt a ha
   have:=hnlt b hb
   omega
 ·have cross: ∀t∈c1.τ,∀t'∈c.τ,t.live=true→t'.live=true→t'∉τ0→t.g≠t'.g:=by
   intro t ht t' ht' lv lv' hnt e
   rcases hE1.toknew t ht lv with⟨t1,h1,lv1,e1⟩|h1
   ·have h1':t1∈τ0:=t0▸h1
    exact hnt (tinj t1 (mτ t1 h1') t' ht' lv1 lv' (e1.trans e)▸h1')
   ·rw[w0]at h1;have:=hr.tlt ht' lv';omega
  have notin: ∀(k:Nat) (t:Tok),k∉J→c.τ[k]? =some t→t.live=true→t∉τ0:=by
   intro k t hkJ hk lv hmt
   obtain⟨q,hq⟩:=List.getElem?_of_mem hmt
   have hql:q<J.length:=by rw[←lτ];exact(List.getElem?_eq_some_iff.1 hq).1
   rw[gτ q _ (List.getElem?_eq_getElem hql)]at hq
   have:=hr.td _ _ t t hk hq lv lv rfl
   exact hkJ (this▸List.getElem_mem hql)
  have look: ∀k,k<τ'.length→(∃m,m<c1.τ.length∧τ'[k]? =c1.τ[m]? ∧((∃hk:k∈J,J[m]? =some k)∨(c.τ.length≤k∧m=J.length+(k-c.τ.length))))∨(k<c.τ.length∧k∉J∧τ'[k]? =c.τ[k]?):=by
   intro k hk
   rw[←hτ']at hk⊢
   by_cases hkl:k<c.τ.length
   ·rw[List.getElem?_append_left (by rw[setAll_length];exact hkl)]
    by_cases hkJ:k∈J
    ·obtain⟨m,hm⟩:=List.getElem?_of_mem hkJ
     have hml:m<J.length:=(List.getElem?_eq_some_iff.1 hm).1
     have hm1:m<c1.τ.length:=by omega
     refine .inl ⟨m,hm1, ?_, .inl ⟨hkJ,hm⟩⟩
     have:(c1.τ.take J.length)[m]? =some c1.τ[m]:=by rw[List.getElem?_take,if_pos hml];exact List.getElem?_eq_getElem hm1
     rw[setAll_at c.τ J _ hJ hJb m k _ hm this,List.getElem?_eq_getElem hm1]
    ·exact .inr ⟨hkl,hkJ,setAll_other _ _ _ _ hkJ⟩
   ·rw[List.getElem?_append_right (by rw[setAll_length];omega),setAll_length,List.getElem?_drop]
    refine .inl ⟨J.length+(k-c.τ.length), ?_,rfl, .inr ⟨by omega,rfl⟩⟩
    simp[setAll_length]at hk
    omega
  intro i j t t' hi hj lv lv' e
  replace hi:τ'[i]? =some t:=hi
  replace hj:τ'[j]? =some t':=hj
  rcases look i (List.getElem?_eq_some_iff.1 hi).1 with⟨m,hm,e1,d1⟩|⟨hi1,hi2,e1⟩<;>rcases look j (List.getElem?_eq_some_iff.1 hj).1 with⟨m',hm',e2,d2⟩|⟨hj1,hj2,e2⟩
  ·have:=hr1.td m m' t t' (e1▸hi) (e2▸hj) lv lv' e
   subst this
   rcases d1 with⟨_,d1⟩|⟨g1,d1⟩<;>rcases d2 with⟨_,d2⟩|⟨g2,d2⟩
   ·rw[d1]at d2;cases d2;rfl
   ·have:=(List.getElem?_eq_some_iff.1 d1).1;omega
   ·have:=(List.getElem?_eq_some_iff.1 d2).1;omega
   ·omega
  ·exact absurd e (cross t (List.mem_of_getElem? (e1▸hi)) t' (List.mem_of_getElem? (e2▸hj)) lv lv' (notin j t' hj2 (e2▸hj) lv'))
  ·exact absurd e.symm (cross t' (List.mem_of_getElem? (e2▸hj)) t (List.mem_of_getElem? (e1▸hi)) lv' lv (notin i t hi2 (e1▸hi) lv))
  ·exact hr.td i j t t' (e1▸hi) (e2▸hj) lv lv' e
 ·intro t ht lv hb
  replace hb:t.g∈c.σ++n:=hb
  rcases memτ' t ht with h1|⟨h1,h2⟩
  ·rcases List.mem_append.1 hb with hb|hb
   ·exact new1 t h1 lv hb
   ·exact hr1.st t h1 lv (by rw[hn];exact List.mem_append_right _ hb)
  ·rcases List.mem_append.1 hb with hb|hb
   ·exact hr.st t h1 lv hb
   ·have:=hnlt _ hb;have:=hr.tlt h1 lv;omega
 ·intro b p h
  have:=hr.hidlt b p h
  have hsz:=hE1.size
  rw[w0]at hsz
  show b<c1.w.heap.size
  omega
 ·intro t ht lv p h
  replace h:c.hid t.g p:=h
  rcases memτ' t ht with h1|⟨h1,_⟩
  ·exact hr1.thid t h1 lv p (by rw[hhid,h0];exact .inl h)
  ·exact hr.thid t h1 lv p h
 ·intro b hb
  show b<c1.w.heap.size
  rcases List.mem_append.1 hb with hb|hb
  ·have:=hσlt b hb
   have hsz:=hE1.size
   rw[w0]at hsz
   omega
  ·exact hr1.shid b (by rw[hn];exact List.mem_append_right _ hb)
 ·intro t ht lv
  rcases memτ' t ht with h1|⟨h1,_⟩
  ·exact hr1.dead t h1 lv
  ·exact hr.dead t h1 lv
 ·show μ'.length=_
  have:=hr1.mlen
  simp only[back,←hμ',List.length_append,setAll_length,List.length_drop,hml,this]
 ·intro i t o hi ho
  replace hi:μ'[i]? =some t:=hi
  simp only[back]at ho
  have mok1: ∀t o,MOk P c1 t o→MOk P ⟨c.σ++n,τ',μ',c.hid,c1.w⟩ t o:=by
   intro t o h
   have hg: ∀g v,RG c1.w c1.stab g v→RG c1.w (Ctx.stab ⟨c.σ++n,τ',μ',c.hid,c1.w⟩) g v:=fun g v h=>h.mono fun a u _ hs hc=>⟨hc,st1 _ _ hs⟩
   cases o with
   |gone n=>exact h
   |arr n e es=>
    obtain⟨a1,a2,a3,a4⟩:=h
    refine⟨a1,a2,a3,a4.imp id ?_⟩
    rintro⟨lv,cur,b1,b2,b3,b4,b5,b6⟩
    exact⟨lv,cur,b1,b2,b3,b4,b5,fun i x j g v hx hg' hv=>⟨hg _ _ (b6 i x j g v hx hg' hv).1,(b6 i x j g v hx hg' hv).2⟩⟩
   |map es=>
    obtain⟨a1,lv,ents,es',hp,b1,b2,b3⟩:=h
    exact⟨a1,lv,ents,es',hp,b1,b2,fun i k v n hk hn=>⟨hg _ _ (b3 i k v n hk hn).1,hg _ _ (b3 i k v n hk hn).2.1,(b3 i k v n hk hn).2.2⟩⟩
   |iter n s pos=>exact h
  by_cases hil:i<c.μ.length
  ·rw[←hμ',List.getElem?_append_left (by rw[setAll_length];exact hil)]at hi
   rw[List.getElem?_append_left (by rw[setAll_length,←hml];exact hil)]at ho
   by_cases hm:i∈L
   ·obtain⟨j,hj⟩:=List.getElem?_of_mem hm
    have hjl:j<L.length:=(List.getElem?_eq_some_iff.1 hj).1
    have hj1:j<c1.μ.length:=by omega
    have hj2:j<H1.mu.length:=by rw[←hr1.mlen];exact hj1
    rw[setAll_at c.μ L _ hL hLb j i c1.μ[j] hj (by rw[List.getElem?_take,if_pos hjl];exact List.getElem?_eq_getElem hj1)]at hi
    rw[setAll_at H.mu L _ hL (fun i hi=>by rw[←hml];exact hLb i hi) j i H1.mu[j] hj (by rw[List.getElem?_take,if_pos hjl];exact List.getElem?_eq_getElem hj2)]at ho
    cases hi;cases ho
    exact mok1 _ _ (hr1.mu j _ _ (List.getElem?_eq_getElem hj1) (List.getElem?_eq_getElem hj2))
   ·rw[setAll_other _ _ _ _ hm]at hi ho
    refine(hr.mu i t o hi ho).mono hEvo fun lv=>unchm t (List.mem_of_getElem? hi) lv fun hmt=>hm ?_
    obtain⟨q,hq⟩:=List.getElem?_of_mem hmt
    have hql:q<L.length:=by rw[←lμ];exact(List.getElem?_eq_some_iff.1 hq).1
    rw[gμ q _ (List.getElem?_eq_getElem hql)]at hq
    have:=hr.md _ _ t t hi hq lv lv rfl
    rw[this]
    exact List.getElem_mem hql
  ·rw[←hμ',List.getElem?_append_right (by rw[setAll_length];omega),setAll_length,List.getElem?_drop]at hi
   rw[List.getElem?_append_right (by rw[setAll_length,←hml];omega),setAll_length,List.getElem?_drop,←hml]at ho
   exact mok1 _ _ (hr1.mu _ t o hi ho)
 ·intro t ht lv
  show t.g<c1.w.heap.size
  rcases memμ' t ht with h1|⟨h1,_⟩
  ·exact hr1.mlt t h1 lv
  ·have:=hr.mlt t h1 lv
   have hsz:=hE1.size
   rw[w0]at hsz
   omega
 ·have cross: ∀t∈c1.μ,∀t'∈c.μ,t.live=true→t'.live=true→t'∉μ0→t.g≠t'.g:=by
   intro t ht t' ht' lv lv' hnt e
   rcases hE1.munew t ht lv with⟨t1,h1,lv1,e1⟩|h1
   ·have h1':t1∈μ0:=m0▸h1
    exact hnt (minj t1 (mμ t1 h1') t' ht' lv1 lv' (e1.trans e)▸h1')
   ·rw[w0]at h1;have:=hr.mlt t' ht' lv';omega
  have notin: ∀(k:Nat) (t:MTok),k∉L→c.μ[k]? =some t→t.live=true→t∉μ0:=by
   intro k t hkJ hk lv hmt
   obtain⟨q,hq⟩:=List.getElem?_of_mem hmt
   have hql:q<L.length:=by rw[←lμ];exact(List.getElem?_eq_some_iff.1 hq).1
   rw[gμ q _ (List.getElem?_eq_getElem hql)]at hq
   have:=hr.md _ _ t t hk hq lv lv rfl
   exact hkJ (this▸List.getElem_mem hql)
  have look: ∀k,k<μ'.length→(∃m,m<c1.μ.length∧μ'[k]? =c1.μ[m]? ∧((∃hk:k∈L,L[m]? =some k)∨(c.μ.length≤k∧m=L.length+(k-c.μ.length))))∨(k<c.μ.length∧k∉L∧μ'[k]? =c.μ[k]?):=by
   intro k hk
   rw[←hμ']at hk⊢
   by_cases hkl:k<c.μ.length
   ·rw[List.getElem?_append_left (by rw[setAll_length];exact hkl)]
    by_cases hkJ:k∈L
    ·obtain⟨m,hm⟩:=List.getElem?_of_mem hkJ
     have hml:m<L.length:=(List.getElem?_eq_some_iff.1 hm).1
     have hm1:m<c1.μ.length:=by omega
     refine .inl ⟨m,hm1, ?_, .inl ⟨hkJ,hm⟩⟩
     have:(c1.μ.take L.length)[m]? =some c1.μ[m]:=by rw[List.getElem?_take,if_pos hml];exact List.getElem?_eq_getElem hm1
     rw[setAll_at c.μ L _ hL hLb m k _ hm this,List.getElem?_eq_getElem hm1]
    ·exact .inr ⟨hkl,hkJ,setAll_other _ _ _ _ hkJ⟩
   ·rw[List.getElem?_append_right (by rw[setAll_length];omega),setAll_length,List.getElem?_drop]
    refine .inl ⟨L.length+(k-c.μ.length), ?_,rfl, .inr ⟨by omega,rfl⟩⟩
    simp[setAll_length]at hk
    omega
  intro i j t t' hi hj lv lv' e
  replace hi:μ'[i]? =some t:=hi
  replace hj:μ'[j]? =some t':=hj
  rcases look i (List.getElem?_eq_some_iff.1 hi).1 with⟨m,hm,e1,d1⟩|⟨hi1,hi2,e1⟩<;>rcases look j (List.getElem?_eq_some_iff.1 hj).1 with⟨m',hm',e2,d2⟩|⟨hj1,hj2,e2⟩
  ·have:=hr1.md m m' t t' (e1▸hi) (e2▸hj) lv lv' e
   subst this
   rcases d1 with⟨_,d1⟩|⟨g1,d1⟩<;>rcases d2 with⟨_,d2⟩|⟨g2,d2⟩
   ·rw[d1]at d2;cases d2;rfl
   ·have:=(List.getElem?_eq_some_iff.1 d1).1;omega
   ·have:=(List.getElem?_eq_some_iff.1 d2).1;omega
   ·omega
  ·exact absurd e (cross t (List.mem_of_getElem? (e1▸hi)) t' (List.mem_of_getElem? (e2▸hj)) lv lv' (notin j t' hj2 (e2▸hj) lv'))
  ·exact absurd e.symm (cross t' (List.mem_of_getElem? (e2▸hj)) t (List.mem_of_getElem? (e1▸hi)) lv' lv (notin i t hi2 (e1▸hi) lv))
  ·exact hr.md i j t t' (e1▸hi) (e2▸hj) lv lv' e
 ·intro t ht lv hb
  replace hb:t.g∈c.σ++n:=hb
  rcases memμ' t ht with h1|⟨h1,h2⟩
  ·rcases List.mem_append.1 hb with hb|hb
   ·exact new1m t h1 lv hb
   ·exact hr1.ms t h1 lv (by rw[hn];exact List.mem_append_right _ hb)
  ·rcases List.mem_append.1 hb with hb|hb
   ·exact hr.ms t h1 lv hb
   ·have:=hnlt _ hb;have:=hr.mlt t h1 lv;omega
 ·intro t ht lv t' ht' lv' e
  rcases memμ' t ht with h1|⟨h1,h2⟩<;>rcases memτ' t' ht' with k1|⟨k1,k2⟩
  ·exact hr1.mt t h1 lv t' k1 lv' e
  ·rcases hE1.munew t h1 lv with⟨t1,q1,lv1,e1⟩|q1
   ·exact hr.mt t1 (mμ t1 (m0▸q1)) lv1 t' k1 lv' (e1.trans e)
   ·rw[w0]at q1;have:=hr.tlt k1 lv';omega
  ·rcases hE1.toknew t' k1 lv' with⟨t1,q1,lv1,e1⟩|q1
   ·exact hr.mt t h1 lv t1 (mτ t1 (t0▸q1)) lv1 (e.trans e1.symm)
   ·rw[w0]at q1;have:=hr.mlt t h1 lv;omega
  ·exact hr.mt t h1 lv t' k1 lv' e
 ·intro t ht lv p h
  replace h:c.hid t.g p:=h
  rcases memμ' t ht with h1|⟨h1,_⟩
  ·exact hr1.mhid t h1 lv p (by rw[hhid,h0];exact .inl h)
  ·exact hr.mhid t h1 lv p h
theorem PC_frame{P:Program}{f:FuncId}{args:List PV}{H0 H1:PH}{v:PV}(hp:PC P f args H0 v H1){H:PH}{I J L:List Nat}{args':List PV}(hI:I.Nodup)(hJ:J.Nodup)(hL:L.Nodup)(hIl:H0.bx.length=I.length)
  (hI': ∀(j i:Nat),I[j]? =some i→ ∃cs,H.bx[i]? =some cs∧H0.bx[j]? =some (renL (posOf I) (posOf J) (posOf L) cs))
  (hJl:H0.tk.length=J.length) (hJ': ∀(j i:Nat),J[j]? =some i→ ∃x,H.tk[i]? =some x∧H0.tk[j]? =some x)
  (hLl:H0.mu.length=L.length) (hL': ∀(j i:Nat),L[j]? =some i→ ∃x,H.mu[i]? =some x∧H0.mu[j]? =some x) (ha:renL (posOf I) (posOf J) (posOf L) args'=args):
  PC P f args' H (ren (backOf I H.bx.length) (backOf J H.tk.length) (backOf L H.mu.length) v) (back I J L H H1):=
 (PCx_frame hp.x hI hJ hL hIl hI' hJl hJ' hLl hL' ha).one fun a b ⟨v',H1',⟨e1,e2⟩,e3,e4⟩=>by
  subst e1;subst e2
  exact⟨e3,e4⟩
section
variable{P:Program}{c:Ctx}{H:PH}
theorem Rel.setTok(hr:Rel P c H){id:Nat}{t t':Tok}(ht:c.τ[id]? =some t)(he:t'.e=t.e)(hsz:t'.size=t.size)(hlt:t.hw<t'.hw)(hlv:t'.live=true){w':World}
  (hos:w'.os=c.w.os) (htape:w'.tape=c.w.tape∧(gdrawn→c.w.drawn≤w'.drawn)) (hout:w'.output=c.w.output) (hsize:c.w.heap.size≤w'.heap.size)
  (hblk: ∀b,b<c.w.heap.size→(t.live=true→b≠t.g)→w'.heap[b]? =c.w.heap[b]?)
  (hown:t.live=true→ ∀k,k<t.hw *t.size→w'.cell? ⟨t.g,k,none⟩=c.w.cell? ⟨t.g,k,none⟩)
  (hg:(t.live=true∧t'.g=t.g)∨c.w.heap.size≤t'.g)
  (htb: ∃cur,w'.heap[t'.g]? =some (.cells cur t'.e (0,0))∧cur.size=t'.cap *t'.size∧t'.hw≤t'.cap∧t'.cap≤maxLen∧(P.info? t'.e).map (·.size)=some t'.size):
  Rel P ⟨c.σ,c.τ.set id t',c.μ,c.hid,w'⟩ ⟨H.bx,H.tk.set id (t'.e,t'.hw),H.mu⟩∧Evo c ⟨c.σ,c.τ.set id t',c.μ,c.hid,w'⟩:=by
 have hid:=(List.getElem?_eq_some_iff.1 ht).1
 have htm:=List.mem_of_getElem? ht
 have mem': ∀t2∈c.τ.set id t',t2=t'∨ ∃k,k≠id∧c.τ[k]? =some t2:=by
  intro t2 h2
  obtain⟨k,hk⟩:=List.getElem?_of_mem h2
  by_cases e:k=id
  ·subst e
   rw[List.getElem?_set_self hid]at hk
   cases hk
   exact .inl rfl
  ·rw[List.getElem?_set_ne (fun e'=>e e'.symm)]at hk
   exact .inr ⟨k,e,hk⟩
 have hE:Evo c ⟨c.σ,c.τ.set id t',c.μ,c.hid,w'⟩:=by
  refine⟨hos,htape,hout,hsize,rfl,⟨[],by simp,by simp⟩, ?_,fun id t ht=>⟨t,ht,rfl, .inl rfl⟩,fun t ht lv=> .inl ⟨t,ht,lv,rfl⟩, ?_, ?_, ?_⟩
  ·intro k t2 h2
   by_cases e:k=id
   ·subst e
    rw[ht]at h2
    cases h2
    exact⟨t',by simp[hid],hsz,he, .inr hlt⟩
   ·exact⟨t2,by show(c.τ.set id t')[k]? =_;rw[List.getElem?_set_ne (fun e'=>e e'.symm)];exact h2,rfl,rfl, .inl rfl⟩
  ·intro t2 h2 lv
   rcases mem' t2 h2 with rfl|⟨k,hk,hk2⟩
   ·rcases hg with⟨l1,g1⟩|g1
    ·exact .inl ⟨t,htm,l1,g1.symm⟩
    ·exact .inr g1
   ·exact .inl ⟨t2,List.mem_of_getElem? hk2,lv,rfl⟩
  ·intro a v hspot hs hcell
   have hab:=World.block_lt_of_cell? c.w a hcell
   refine⟨?_,hs.1,hs.2.1,fun t2 h2 lv e=> ?_,hs.2.2.2⟩
   ·by_cases e:t.live=true∧a.block=t.g
    ·have hp:=hs.2.2.1 t htm e.1 e.2.symm
     have ha:a=⟨t.g,a.off,none⟩:=by cases a;simp_all
     rw[←hcell,ha]
     exact hown e.1 _ hp
    ·rw[←hcell]
     exact World.cell?_of_block (hblk a.block hab fun l e'=>e ⟨l,e'⟩)
   ·rcases mem' t2 h2 with rfl|⟨k,hk,hk2⟩
    ·rcases hg with⟨l1,g1⟩|g1
     ·have hp:=hs.2.2.1 t htm l1 (g1.symm.trans e)
      rw[hsz]
      exact Nat.lt_of_lt_of_le hp (Nat.mul_le_mul_right _ (by omega))
     ·omega
    ·exact hs.2.2.1 t2 (List.mem_of_getElem? hk2) lv e
  ·intro b hb _ h3 _
   exact hblk b hb fun l e=>h3 t htm l e.symm
 have hσ: ∀b∈c.σ,w'.heap[b]? =c.w.heap[b]? :=fun b hb=>hblk b (hr.shid b hb) fun l e=>hr.st t htm l (e▸hb)
 have hother: ∀k t2,k≠id→c.τ[k]? =some t2→t2.live=true→w'.heap[t2.g]? =c.w.heap[t2.g]? :=fun k t2 hk hk2 lv=>
  hblk t2.g (hr.tlt (List.mem_of_getElem? hk2) lv) fun l e=>hk (hr.td k id t2 t hk2 ht lv l e)
 refine⟨⟨hr.len, ?_, ?_, ?_,hr.nd, ?_, ?_,fun b p h=>Nat.lt_of_lt_of_le (hr.hidlt b p h) hsize, ?_,fun b hb=>Nat.lt_of_lt_of_le (hr.shid b hb) hsize, ?_,hr.mlen, ?_,fun t ht lv=>Nat.lt_of_lt_of_le (hr.mlt t ht lv) hsize,hr.md,hr.ms, ?_,hr.mhid,hr.gl.keep hE.keep⟩,hE⟩
 ·intro i b cs hb hcs
  obtain⟨vals,T,e1,e2,e3⟩:=hr.bx i b cs hb hcs
  exact⟨vals,T,(hσ b (List.mem_of_getElem? hb)).trans e1,e2,fun j p v hp hv=>⟨(e3 j p v hp hv).1.mono hE,(e3 j p v hp hv).2⟩⟩
 ·show(c.τ.set id t').map _=H.tk.set id _
  rw[List.map_set,hr.tk]
 ·intro t2 h2 lv
  rcases mem' t2 h2 with rfl|⟨k,hk,hk2⟩
  ·exact htb
  ·obtain⟨cur,e1,e2⟩:=hr.tb t2 (List.mem_of_getElem? hk2) lv
   exact⟨cur,(hother k t2 hk hk2 lv).trans e1,e2⟩
 ·intro i j t1 t2 hi hj l1 l2 e
  replace hi:(c.τ.set id t')[i]? =some t1:=hi
  replace hj:(c.τ.set id t')[j]? =some t2:=hj
  by_cases ei:i=id<;>by_cases ej:j=id
  ·omega
  ·subst ei
   rw[List.getElem?_set_self hid]at hi
   rw[List.getElem?_set_ne (fun e'=>ej e'.symm)]at hj
   cases hi
   rcases hg with⟨lv,g1⟩|g1
   ·exact hr.td _ j t t2 ht hj lv l2 (g1.symm.trans e)
   ·have:=hr.tlt (List.mem_of_getElem? hj) l2;omega
  ·subst ej
   rw[List.getElem?_set_self hid]at hj
   rw[List.getElem?_set_ne (fun e'=>ei e'.symm)]at hi
   cases hj
   rcases hg with⟨lv,g1⟩|g1
   ·exact hr.td i _ t1 t hi ht l1 lv (e.trans g1)
   ·have:=hr.tlt (List.mem_of_getElem? hi) l1;omega
  ·rw[List.getElem?_set_ne (fun e'=>ei e'.symm)]at hi
   rw[List.getElem?_set_ne (fun e'=>ej e'.symm)]at hj
   exact hr.td i j t1 t2 hi hj l1 l2 e
 ·intro t2 h2 lv hm
  rcases mem' t2 h2 with rfl|⟨k,hk,hk2⟩
  ·rcases hg with⟨l1,g1⟩|g1
   ·exact hr.st t htm l1 (g1▸hm)
   ·have:=hr.shid _ hm;omega
  ·exact hr.st t2 (List.mem_of_getElem? hk2) lv hm
 ·intro t2 h2 lv p hp
  rcases mem' t2 h2 with rfl|⟨k,hk,hk2⟩
  ·rcases hg with⟨l1,g1⟩|g1
   ·exact hr.thid t htm l1 p (g1▸hp)
   ·have:=hr.hidlt _ _ hp;omega
  ·exact hr.thid t2 (List.mem_of_getElem? hk2) lv p hp
 ·intro t2 h2 lv
  rcases mem' t2 h2 with rfl|⟨k,hk,hk2⟩
  ·rw[hlv]at lv;cases lv
  ·exact hr.dead t2 (List.mem_of_getElem? hk2) lv
 ·intro i t2 o h2 ho
  have hm:=List.mem_of_getElem? h2
  exact(hr.mu i t2 o h2 ho).mono hE fun lv=>hblk _ (hr.mlt t2 hm lv) fun l e=>hr.mt t2 hm lv t htm l e
 ·intro t2 h2 lv t3 h3 lv3 e
  rcases mem' t3 h3 with rfl|⟨k,hk,hk2⟩
  ·rcases hg with⟨l1,g1⟩|g1
   ·exact hr.mt t2 h2 lv t htm l1 (e.trans g1)
   ·have:=hr.mlt t2 h2 lv;omega
  ·exact hr.mt t2 h2 lv t3 (List.mem_of_getElem? hk2) lv3 e
end
def bytesB(P:Program)(t:TypeId):Option Nat:=(P.info? t).map (·.bytes)
section
variable{P:Program}{o:Oper}{ρ:Operand→PV}{H:PH}
theorem run_append_zero(w:World){t ty e:TypeId}{i:TypeInfo}(ht:P.underlying t=some (.slice e))(hi:P.info? e=some i)(b:Option Addr)(n c:Nat)(h:n≤c)(hb:b=none∨ ∃g,b=some g)(x:Value)(hx:x= .slice none 0 0∨ ∃a c',x= .slice (some a) 0 c'):
  (Builtin.append_ #[t,t] ty #[.slice b n c,x]).run P w= .ok (.slice b n c) w:=by
 rcases hx with rfl|⟨a,c',rfl⟩
 ·cases b with
  |none=>simp[Builtin.append_,run_underlying ht,sizeOf,typeInfo,hi,Builtin.lenOf,h,Builtin.firstCells]
  |some g=>simp[Builtin.append_,run_underlying ht,sizeOf,typeInfo,hi,Builtin.lenOf,h,Builtin.firstCells,storeCells]
 ·have hf:(Builtin.firstCells i.size 0 (.slice (some a) 0 c')).run P w= .ok #[] w:=by
   have:=run_firstCells_some (P:=P) w i.size 0 a 0 c' [] (by simp) (by simp)
   simpa using this
  cases b with
  |none=>simp[Builtin.append_,run_underlying ht,sizeOf,typeInfo,hi,Builtin.lenOf,h,hf]
  |some g=>simp[Builtin.append_,run_underlying ht,sizeOf,typeInfo,hi,Builtin.lenOf,h,hf,storeCells]
theorem RG_appended{w:World}{S:Nat→Nat→Prop}{blk:Nat}{cur:Array Value}{e:TypeId}{es xs:List GV}{size cap:Nat}{olds news rest:List Value}(hb:w.heap[blk]? =some (.cells cur e (0,0)))
  (hcur:cur=(olds++news++rest).toArray) (lo:olds.length=es.length *size) (ln:news.length=xs.length *size)
  (hes: ∀x∈es,x.cells.length=size) (hxs: ∀x∈xs,x.cells.length=size) (hc:es.length+xs.length≤cap) (hm:cap≤maxLen) (hS: ∀p,p<(es.length+xs.length) *size→S blk p)
  (ho: ∀(i:Nat) (x:GV) (j:Nat) (g:GV) (v:Value),es[i]? =some x→x.cells[j]? =some g→olds[i *size+j]? =some v→RG w S g v)
  (hn: ∀(i:Nat) (x:GV) (j:Nat) (g:GV) (v:Value),xs[i]? =some x→x.cells[j]? =some g→news[i *size+j]? =some v→RG w S g v)
  (ho1: ∀v∈olds,v.oneCell'=true) (hn1: ∀v∈news,v.oneCell'=true):
  RG w S (.sl (es++xs)) (.slice (some ⟨blk,0,none⟩) (es.length+xs.length) cap):=by
 have hlen:(es++xs).length=es.length+xs.length:=by simp
 have hmul:(es.length+xs.length) *size=olds.length+news.length:=by rw[lo,ln,Nat.add_mul]
 have hcells: ∀(i:Nat) (x:GV),(es++xs)[i]? =some x→x.cells.length=size:=fun i x hx=>by
  rcases List.mem_append.1 (List.mem_of_getElem? hx)with h|h
  ·exact hes x h
  ·exact hxs x h
 have:=RG_row (es:=es++xs) (size:=size) (cap:=cap) (S:=S) hb hcells (by rw[hlen];exact hc) hm (by rw[hlen,hmul,hcur];simp) (by rw[hlen];exact hS) (fun k hk=> ?_) (fun i x j g v hx hg hv=> ?_)
 ·rw[hlen]at this;exact this
 ·rw[hlen,hmul]at hk
  rw[hcur]
  simp only[List.getElem?_toArray]
  rw[List.getElem?_append_left (by simp;omega)]
  have hk':k<(olds++news).length:=by simp;omega
  refine⟨(olds++news)[k],List.getElem?_eq_getElem hk', ?_⟩
  rcases List.mem_append.1 (List.getElem_mem hk')with h|h
  ·exact ho1 _ h
  ·exact hn1 _ h
 ·have hj:j<size:=by rw[←hcells i x hx];exact(List.getElem?_eq_some_iff.1 hg).1
  have hi:=(List.getElem?_eq_some_iff.1 hx).1
  rw[hlen]at hi
  rw[hcur]at hv
  simp only[List.getElem?_toArray]at hv
  have hlt:i *size+j<olds.length+news.length:=by
   rw[←hmul]
   calc i *size+j<i *size+size:=by omega
    _=(i+1) *size:=by rw[Nat.add_mul,Nat.one_mul]
    _≤_:=Nat.mul_le_mul_right _ hi
  rw[List.getElem?_append_left (by simp;omega)]at hv
  by_cases h1:i<es.length
  ·rw[List.getElem?_append_left h1]at hx
   have hlt':i *size+j<olds.length:=by
    rw[lo]
    calc i *size+j<i *size+size:=by omega
     _=(i+1) *size:=by rw[Nat.add_mul,Nat.one_mul]
     _≤_:=Nat.mul_le_mul_right _ h1
   rw[List.getElem?_append_left hlt']at hv
   exact ho i x j g v hx hg hv
  ·rw[List.getElem?_append_right (by omega)]at hx
   have hge:olds.length≤i *size+j:=by
    rw[lo]
    exact Nat.le_trans (Nat.mul_le_mul_right _ (by omega)) (Nat.le_add_right _ _)
   rw[List.getElem?_append_right hge]at hv
   refine hn (i-es.length) x j g v hx hg ?_
   rw[←hv]
   congr 1
   rw[lo,Nat.sub_mul]
   have:=Nat.mul_le_mul_right size (show es.length≤i by omega)
   omega
theorem slice_cells{w:World}{S:Nat→Nat→Prop}{xs:List GV}{u:Value}{size:Nat}(h:RG w S (.sl xs) u)(hxs: ∀x∈xs,x.cells.length=size)(hne:xs≠[]):
  ∃(a:Addr) (cap:Nat) (news:List Value),u= .slice (some a) xs.length cap∧news.length=xs.length *size∧(∀j v,news[j]? =some v→w.cell? (a.add j)=some v)∧(∀v∈news,v.oneCell'=true)∧
   ∀(i:Nat) (x:GV) (j:Nat) (g:GV) (v:Value),xs[i]? =some x→x.cells[j]? =some g→news[i *size+j]? =some v→RG w S g v:=by
 cases h with
 |nil=>exact absurd rfl hne
 |sl _ a cap size' f ha hc hm hs hf hh=>
  have hsz:size'=size:=by
   obtain⟨x,hx⟩: ∃x,xs[0]? =some x:=by
    cases xs with
    |nil=>exact absurd rfl hne
    |cons x r=>exact⟨x,rfl⟩
   rw[←hs 0 x hx,hxs x (List.mem_of_getElem? hx)]
  subst hsz
  refine⟨a,cap,(List.range (xs.length *size')).map f,rfl,by simp,fun j v hv=> ?_,fun v hv=> ?_,fun i x j g v hx hg hv=> ?_⟩
  ·simp only[List.getElem?_map,Option.map_eq_some_iff]at hv
   obtain⟨k,hk,rfl⟩:=hv
   obtain⟨h1,rfl⟩:=List.getElem?_eq_some_iff.1 hk
   rw[List.getElem_range]
   exact(hf j (by simpa using h1)).1
  ·obtain⟨k,hk,rfl⟩:=List.mem_map.1 hv
   exact(hf k (by simpa using hk)).2.2
  ·simp only[List.getElem?_map,Option.map_eq_some_iff]at hv
   obtain⟨k,hk,rfl⟩:=hv
   obtain⟨h1,rfl⟩:=List.getElem?_eq_some_iff.1 hk
   rw[List.getElem_range]
   exact hh i x j g hx hg
theorem PO_append{x y:Operand}{t e:TypeId}{es xs:List GV}{id n size bytes:Nat}{z:Value}(ho:o.op= .call {callee:= .builtin .append,args:=⟨[x,y]⟩,argTypes:=⟨[t,t]⟩})
  (ht:P.underlying t=some (.slice e)) (hs:szB P e=some size) (hby:bytesB P e=some bytes) (hz:zeroB P e=some z) (hzs:Nat.beq z.cells.size size=true) (hx:ρ x= .own es id) (hy:elems (ρ y)=some xs)
  (hk:H.tk[id]? =some (e,n)) (hn:es.length=n) (hxs: ∀x∈xs,x.cells.length=size) (hfit:(n+xs.length) *bytes≤140737488355328) (hmax:n+xs.length≤maxLen):
  PO P o ρ H (.own (es++xs) id) ⟨H.bx,H.tk.set id (e,n+xs.length),H.mu⟩:=by
 intro c ρr hr hxx
 subst hn
 have hzs:=Nat.eq_of_beq_eq_true hzs
 have hx1:=hxx x (by simp[ho,Op.operands,Call.operands])
 have hy1:=elems_ok (hxx y (by simp[ho,Op.operands,Call.operands])) hy
 rw[hx]at hx1
 obtain⟨i,hi,hisz⟩: ∃i,P.info? e=some i∧i.size=size:=by
  unfold szB at hs
  simpa using hs
 have hiby:i.bytes=bytes:=by
  unfold bytesB at hby;rw[hi]at hby;simpa using hby
 have hiz:i.zero=some z:=by
  unfold zeroB at hz;rw[hi]at hz;simpa using hz
 subst hisz;subst hiby
 generalize hvx:ρr x=v at hx1
 generalize hvy:ρr y=u at hy1
 cases hx1 with
 |own _ _ _ tk hrg htk hsz hle hv=>
 have htk2:(tk.e,tk.hw)=(e,es.length):=by
  have:=hr.tk
  have h1:(c.τ.map (fun t=>(t.e,t.hw)))[id]? =some (tk.e,tk.hw):=by simp[htk]
  rw[this,hk]at h1
  exact(Option.some.inj h1).symm
 have hte:tk.e=e:=congrArg Prod.fst htk2
 have hhw:tk.hw=es.length:=congrArg Prod.snd htk2
 have hop:(execOp ρr o).run P c.w=((Builtin.append_ #[t,t] o.type #[v,u]).run P c.w).andThen fun r w=> .ok (.value r) w:=by
  simp[execOp,ho,resolve,invoke,builtin,hvx,hvy]
 unfold OpGoes
 rw[hop]
 have hid:=(List.getElem?_eq_some_iff.1 htk).1
 by_cases hne:xs=[]
 · -- nothing is appended
  subst hne
  have hu:u= .slice none 0 0∨ ∃a c',u= .slice (some a) 0 c':=by
   cases hy1 with
   |nil=>exact .inl rfl
   |sl _ a cap=>exact .inr ⟨a,cap,rfl⟩
  have hrun:(Builtin.append_ #[t,t] o.type #[v,u]).run P c.w= .ok v c.w:=by
   rcases hv hhw.symm with⟨lv,rfl⟩|⟨_,rfl⟩
   ·obtain⟨cur,_,_,h3,_⟩:=hr.tb tk (List.mem_of_getElem? htk) lv
    exact run_append_zero c.w ht hi _ _ _ (by omega) (.inr ⟨_,rfl⟩) u hu
   ·exact run_append_zero c.w ht hi none 0 0 (Nat.le_refl _) (.inl rfl) u hu
  rw[hrun]
  refine⟨c,rfl, ?_,Evo.refl c, ?_⟩
  ·have:(⟨H.bx,H.tk.set id (e,es.length+([]:List GV).length),H.mu⟩:PH)=H:=by
    have:H.tk.set id (e,es.length)=H.tk:=by
     refine List.ext_getElem? fun k=> ?_
     by_cases ek:k=id
     ·subst ek;rw[hk,List.getElem?_set_self (List.getElem?_eq_some_iff.1 hk).1]
     ·rw[List.getElem?_set_ne (fun e'=>ek e'.symm)]
    simp only[List.length_nil,Nat.add_zero,this]
   rw[this];exact hr
  ·rw[List.append_nil];exact .own es id v tk hrg htk hsz hle hv
 ·obtain⟨a,m,news,rfl,ln,hnews,hn1,hnrg⟩:=slice_cells hy1 hxs hne
  have hpos:0<xs.length:=List.length_pos_iff.2 hne
  -- what came of it
  have hsame:tk.size=i.size:=by
   cases hl:tk.live with
   |true=>
    obtain⟨_,_,_,_,_,h5⟩:=hr.tb tk (List.mem_of_getElem? htk) hl
    rw[hte,hi]at h5;simpa using h5.symm
   |false=>
    have h5:=(hr.dead tk (List.mem_of_getElem? htk) hl).2
    rw[hte,hi]at h5;simpa using h5.symm
  have fin: ∀(w':World) (t':Tok) (olds rest:List Value) (cur:Array Value),
    t'.e=e→t'.size=i.size→t'.hw=es.length+xs.length→t'.live=true→w'.os=c.w.os→(w'.tape=c.w.tape∧(gdrawn→c.w.drawn≤w'.drawn))→w'.output=c.w.output→c.w.heap.size≤w'.heap.size→
    (∀b,b<c.w.heap.size→(tk.live=true→b≠tk.g)→w'.heap[b]? =c.w.heap[b]?)→
    (tk.live=true→ ∀k,k<tk.hw *tk.size→w'.cell? ⟨tk.g,k,none⟩=c.w.cell? ⟨tk.g,k,none⟩)→((tk.live=true∧t'.g=tk.g)∨c.w.heap.size≤t'.g)→
    w'.heap[t'.g]? =some (.cells cur e (0,0))→cur=(olds++news++rest).toArray→cur.size=t'.cap *i.size→t'.cap≤maxLen→es.length+xs.length≤t'.cap→olds.length=es.length *i.size→(∀v∈olds,v.oneCell'=true)→
    (∀(k:Nat) (x:GV) (j:Nat) (g:GV) (v:Value),es[k]? =some x→x.cells[j]? =some g→olds[k *i.size+j]? =some v→RG c.w c.stab g v)→
    ∃c':Ctx,c'.w=w'∧Rel P c' ⟨H.bx,H.tk.set id (e,es.length+xs.length),H.mu⟩∧Evo c c'∧RV c' (.own (es++xs) id) (.slice (some ⟨t'.g,0,none⟩) (es.length+xs.length) t'.cap):=by
   intro w' t' olds rest cur e1 e2 e4 e5 o1 o2 o3 o4 o5 o6 o7 hh hcur hcs hcm hcap lo ho1 horg
   obtain⟨g1,g2⟩:=hr.setTok htk (t':=t') (by rw[e1,hte]) (by rw[hsame,e2]) (by rw[hhw,e4];omega) e5 o1 o2 o3 o4 o5 o6 o7 ⟨cur,by rw[e1];exact hh,by rw[e2];exact hcs,by rw[e4];exact hcap,hcm,by rw[e1,hi,e2];rfl⟩
   refine⟨⟨c.σ,c.τ.set id t',c.μ,c.hid,w'⟩,rfl, ?_,g2, ?_⟩
   ·rw[e1,e4]at g1;exact g1
   ·have hS: ∀p,p<(es.length+xs.length) *i.size→Ctx.stab ⟨c.σ,c.τ.set id t',c.μ,c.hid,w'⟩ t'.g p:=by
     intro p hp
     have tm:t'∈c.τ.set id t':=List.mem_of_getElem? (List.getElem?_set_self hid)
     refine⟨fun h=>g1.thid t' tm e5 p h,fun h=>g1.st t' tm e5 h,fun t2 h2 lv e=> ?_,fun t2 h2 lv e=>g1.mt t2 h2 lv t' tm e5 e⟩
     obtain⟨k2,hk2⟩:=List.getElem?_of_mem h2
     have:=g1.td k2 id t2 t' hk2 (List.getElem?_set_self hid) lv e5 e
     subst this
     replace hk2:(c.τ.set k2 t')[k2]? =some t2:=hk2
     rw[List.getElem?_set_self hid]at hk2
     cases hk2
     rw[e4,e2];exact hp
    have hes: ∀x∈es,x.cells.length=i.size:=fun x hx=>by
     obtain⟨k,hk⟩:=List.getElem?_of_mem hx
     rw[hsz k x hk,hsame]
    have hR:=RG_appended (S:=Ctx.stab ⟨c.σ,c.τ.set id t',c.μ,c.hid,w'⟩) hh hcur lo ln hes hxs hcap hcm hS (fun k x j g v h1 h2 h3=>(horg k x j g v h1 h2 h3).mono g2.keep) (fun k x j g v h1 h2 h3=>(hnrg k x j g v h1 h2 h3).mono g2.keep) ho1 hn1
    refine .own (es++xs) id _ t' hR (List.getElem?_set_self hid) (fun k x hx=> ?_) (by simp[e4]) (fun _=> .inl ⟨e5,by simp⟩)
    rw[e2]
    rcases List.mem_append.1 (List.mem_of_getElem? hx)with h|h
    ·exact hes x h
    ·exact hxs x h
  rcases hv hhw.symm with⟨lv,rfl⟩|⟨he0,rfl⟩
  ·obtain⟨cur,hcur,hcs,hle2,hcm,_⟩:=hr.tb tk (List.mem_of_getElem? htk) lv
   rw[hte]at hcur
   rw[hsame]at hcs
   rw[hhw]at hle2
   have hcell: ∀k,c.w.cell? ⟨tk.g,k,none⟩=cur[k]? :=fun k=>cell_of_row c.w tk.g k cur e (0,0) hcur
   have hes: ∀x∈es,x.cells.length=i.size:=fun x hx=>by
    obtain⟨k,hk⟩:=List.getElem?_of_mem hx
    rw[hsz k x hk,hsame]
   obtain⟨olds,lo,hocell,ho1,horg⟩: ∃olds:List Value,olds.length=es.length *i.size∧(∀j v,olds[j]? =some v→c.w.cell? ((⟨tk.g,0,none⟩:Addr).add j)=some v)∧(∀v∈olds,v.oneCell'=true)∧
     ∀(k:Nat) (x:GV) (j:Nat) (g:GV) (v:Value),es[k]? =some x→x.cells[j]? =some g→olds[k *i.size+j]? =some v→RG c.w c.stab g v:=by
    by_cases hes0:es=[]
    ·subst hes0;exact⟨[],by simp,by simp,by simp,by simp⟩
    ·obtain⟨a',m',olds,e1,l1,l2,l3,l4⟩:=slice_cells hrg hes hes0
     cases e1
     exact⟨olds,l1,l2,l3,l4⟩
   have hocell': ∀j v,olds[j]? =some v→cur[j]? =some v:=fun j v h=>by
    have:=hocell j v h
    rw[add_eq _ _ rfl]at this
    rw[←hcell]
    simpa using this
   have hlc:es.length *i.size≤cur.size:=by rw[hcs];exact Nat.mul_le_mul_right _ hle2
   have htake:cur.toList.take (es.length *i.size)=olds:=by
    refine List.ext_getElem? fun k=> ?_
    by_cases hk:k<es.length *i.size
    ·have h1:k<olds.length:=by rw[lo];exact hk
     rw[List.getElem?_take,if_pos hk,List.getElem?_eq_getElem h1]
     have:=hocell' k _ (List.getElem?_eq_getElem h1)
     simpa using this
    ·rw[List.getElem?_eq_none (by simp;omega),List.getElem?_eq_none (by omega)]
   by_cases hroom:es.length+xs.length≤tk.cap
   ·have hfit':es.length *i.size+news.length≤cur.size:=by
     rw[ln,hcs,←Nat.add_mul];exact Nat.mul_le_mul_right _ hroom
    rw[run_append_room c.w t o.type e i ht hi tk.g es.length tk.cap cur hcur a xs.length m news ln hnews hn1 hroom hfit',htake]
    refine fin _ {tk with hw:=es.length+xs.length} olds (cur.toList.drop (es.length *i.size+news.length)) _ hte hsame rfl lv rfl ⟨rfl,fun _=>by first|exact Nat.le_refl _|exact Nat.le_succ _⟩ rfl (by simp) (fun b hb h=>setRow_other c.w tk.g b _ (h lv)) (fun _ k hk=> ?_) (.inl ⟨lv,rfl⟩) (setRow_heap c.w tk.g cur _ e (0,0) hcur) rfl ?_ hcm hroom lo ho1 horg
    ·rw[cell_of_row _ tk.g k _ e (0,0) (setRow_heap c.w tk.g cur _ e (0,0) hcur),hcell]
     rw[hhw,hsame,←lo]at hk
     simp only[List.getElem?_toArray]
     rw[List.append_assoc,List.getElem?_append_left hk]
     rw[List.getElem?_eq_getElem hk]
     exact(hocell' k _ (List.getElem?_eq_getElem hk)).symm
    ·simp[lo]
     rw[hcs]at hfit'⊢
     omega
   ·have hg:tk.cap<es.length+xs.length:=by omega
    have h63:((es.length+xs.length:Nat):Int)≤9223372036854775807:=by simp only[maxLen]at hmax;omega
    rw[run_append_grow c.w t o.type e i z ht hi hiz ⟨tk.g,0,none⟩ es.length tk.cap olds lo hocell a xs.length m news ln hnews hg h63 (growslice_fits hg hfit)]
    have hge:=grownCap_ge c.w (es.length+xs.length) tk.cap e
    refine fin _ ⟨true,c.w.heap.size,e,i.size,grownCap c.w (es.length+xs.length) tk.cap e,es.length+xs.length⟩ olds (Builtin.zeroCells z.cells (grownCap c.w (es.length+xs.length) tk.cap e-(es.length+xs.length))).toList _ rfl rfl rfl rfl rfl ⟨rfl,fun _=>by first|exact Nat.le_refl _|exact Nat.le_succ _⟩ rfl (by simp) (fun b hb _=>Go.heap_alloc_old c.w.drew _ b hb) (fun _ k hk=> ?_) (.inr (Nat.le_refl _)) (Go.heap_alloc_new c.w.drew _) (by simp) ?_ (grownCap_le_maxLen _ _ _ _ hmax) hge lo ho1 horg
    ·have hlt:=hr.tlt (List.mem_of_getElem? htk) lv
     exact World.cell?_of_block (Go.heap_alloc_old c.w.drew _ tk.g hlt)
    ·simp only[Array.size_append,List.size_toArray,size_zeroCells,hzs,lo,ln]
     rw[←Nat.add_mul,←Nat.add_mul]
     congr 1
     omega
  ·subst he0
   have h63:(xs.length:Int)≤9223372036854775807:=by simp only[maxLen,List.length_nil]at hmax;omega
   have hfit':xs.length *i.bytes≤140737488355328:=by simpa using hfit
   rw[run_append_nil c.w t o.type e i z ht hi hiz a xs.length m news ln hnews hpos h63 (by omega)]
   have hge:=grownCap_ge c.w xs.length 0 e
   have:=fin (c.w.drew.alloc (.cells (news.toArray++Builtin.zeroCells z.cells (grownCap c.w xs.length 0 e-xs.length)) e)) ⟨true,c.w.heap.size,e,i.size,grownCap c.w xs.length 0 e,xs.length⟩ [] (Builtin.zeroCells z.cells (grownCap c.w xs.length 0 e-xs.length)).toList _ rfl rfl (by simp) rfl rfl ⟨rfl,fun _=>by first|exact Nat.le_refl _|exact Nat.le_succ _⟩ rfl (by simp) (fun b hb _=>Go.heap_alloc_old c.w.drew _ b hb) (fun _ k hk=>by rw[hhw]at hk;simp at hk) (.inr (Nat.le_refl _)) (Go.heap_alloc_new c.w.drew _) (by simp) (by
    simp only[Array.size_append,List.size_toArray,size_zeroCells,hzs,ln]
    rw[←Nat.add_mul]
    congr 1
    omega) (grownCap_le_maxLen _ _ _ _ (by simpa using hmax)) (by simpa using hge) (by simp) (by simp) (by simp)
   simpa using this
end
def argP(k:Bool)(p:PV):PV:=bif k then p else pack p
def argsK(ρ:Operand→PV):List Bool→List Operand→List PV
 |_,[]=>[]
 |[],x::r=>pack (ρ x)::argsK ρ [] r
 |k::ks,x::r=>argP k (ρ x)::argsK ρ ks r
theorem argP_ok{c:Ctx}{k:Bool}{p:PV}{v:Value}(h:RV c p v):RV c (argP k p) v:=by
 cases k with
 |true=>exact h
 |false=>exact pack_ok h
theorem argsK_length(ρ:Operand→PV): ∀(ks:List Bool) (l:List Operand),(argsK ρ ks l).length=l.length
 |_,[]=>by simp[argsK]
 |[],x::r=>by simp[argsK,argsK_length ρ [] r]
 |k::ks,x::r=>by simp[argsK,argsK_length ρ ks r]
theorem argsK_get{c:Ctx}{ρ:Operand→PV}{ρr:Operand→Value}: ∀(ks:List Bool) (l:List Operand),(∀x∈l,RV c (ρ x) (ρr x))→ ∀(i:Nat) (p:PV) (x:Operand),(argsK ρ ks l)[i]? =some p→l[i]? =some x→RV c p (ρr x)
 |_,[],_,i,p,x,_,h=>by simp at h
 |[],y::r,hx,i,p,x,hp,h=>by
  cases i with
  |zero=>simp[argsK]at hp h;subst hp;subst h;exact pack_ok (hx y (by simp))
  |succ i=>exact argsK_get [] r (fun z hz=>hx z (by simp[hz])) i p x (by simpa[argsK]using hp) (by simpa using h)
 |k::ks,y::r,hx,i,p,x,hp,h=>by
  cases i with
  |zero=>simp[argsK]at hp h;subst hp;subst h;exact argP_ok (hx y (by simp))
  |succ i=>exact argsK_get ks r (fun z hz=>hx z (by simp[hz])) i p x (by simpa[argsK]using hp) (by simpa using h)
section
variable{P:Program}{o:Oper}{ρ:Operand→PV}{H H':PH}{v:PV}
theorem PO_call_at(ks:List Bool){f:Operand}{args:Array Operand}{ts:Array TypeId}{id:FuncId}{ps:List PV}(ho:o.op= .call {callee:= .value f,args:=args,argTypes:=ts})
  (hf:ρ f= .g (.raw (.func (.func id) #[] #[]))) (he:enterB P id=true) (ha:argsK ρ ks args.toList=ps) (hp:PC P id ps H v H'):PO P o ρ H v H':=by
 intro c ρr hr hx
 have hops: ∀x,x=f∨x∈args.toList→x∈o.op.operands.toList:=by
  intro x hx
  simp[ho,Op.operands,Call.operands]
  rcases hx with rfl|hx
  ·exact .inl rfl
  ·exact .inr (by simpa using hx)
 have hf1:=hx f (hops f (.inl rfl))
 rw[hf]at hf1
 have hf2:=RV_raw hf1
 have hrun:(execOp ρr o).run P c.w= .ok (.enter id (args.map ρr)) c.w:=by
  simp[execOp,ho,resolve,hf2,Deferred.ofValue,invoke,run_callFunc he]
 unfold OpGoes
 rw[hrun]
 refine(hp c _ hr ⟨by rw[←ha,argsK_length];simp,fun i p u hp' hu=> ?_⟩).mono ?_
 ·simp only[Array.getElem?_map,Option.map_eq_some_iff]at hu
  obtain⟨x,hx1,rfl⟩:=hu
  rw[←ha]at hp'
  exact argsK_get ks args.toList (fun z hz=>hx z (hops z (.inr hz))) i p x hp' (by simpa using hx1)
 ·rintro e w' ⟨rv,c',rfl,rfl,hr',hE,hv'⟩
  exact⟨rv,rfl,c',rfl,hr',hE,hv'⟩
end
/-! ### Only what is handed over -/
mutual
def refB:PV→List Nat
 | .ptr b _=>[b]
 | .clo _ a b=>refBL a++refBL b
 | .agg cs=>refBL cs
 | .tuple cs=>refBL cs
 | .ifc _ p=>refB p
 |_=>[]
def refBL:List PV→List Nat
 |[]=>[]
 |p::r=>refB p++refBL r
end
def refT:List PV→List Nat
 |[]=>[]
 | .own _ id::r=>id::refT r
 |_::r=>refT r
mutual
def refM:PV→List Nat
 | .mar id _=>[id]
 | .mref id _ _ _=>[id]
 | .mp id=>[id]
 | .vw id _ _ _ _=>[id]
 | .clo _ a b=>refML a++refML b
 | .agg cs=>refML cs
 | .tuple cs=>refML cs
 | .ifc _ p=>refM p
 |_=>[]
def refML:List PV→List Nat
 |[]=>[]
 |p::r=>refM p++refML r
end
mutual
def refO:PV→List Nat
 | .own _ id=>[id]
 | .clo _ a b=>refOL a++refOL b
 | .agg cs=>refOL cs
 | .tuple cs=>refOL cs
 | .ifc _ p=>refO p
 |_=>[]
def refOL:List PV→List Nat
 |[]=>[]
 |p::r=>refO p++refOL r
end
def dedup:List Nat→List Nat→List Nat
 |acc,[]=>acc
 |acc,x::r=>bif memB acc x then dedup acc r else dedup (acc++[x]) r
def nodupB:List Nat→Bool
 |[]=>true
 |x::r=> !(memB r x)&&nodupB r
theorem nodupB_spec: ∀{l:List Nat},nodupB l=true→l.Nodup
 |[],_=>List.nodup_nil
 |x::r,h=>by
  simp only[nodupB,Bool.and_eq_true,Bool.not_eq_true']at h
  refine List.nodup_cons.2 ⟨fun hm=> ?_,nodupB_spec h.2⟩
  rw[memB_iff.2 hm]at h
  cases h.1
def pickB(I J L:List Nat)(bx:List (List PV)):List Nat→Option (List (List PV))
 |[]=>some []
 |i::r=>match bx[i]?,pickB I J L bx r with
  |some cs,some l=>some (renL (posOf I) (posOf J) (posOf L) cs::l)
  |_,_=>none
theorem pickB_spec{I J L:List Nat}{bx:List (List PV)}: ∀{K:List Nat} {l:List (List PV)},pickB I J L bx K=some l→l.length=K.length∧ ∀(j i:Nat),K[j]? =some i→ ∃cs,bx[i]? =some cs∧l[j]? =some (renL (posOf I) (posOf J) (posOf L) cs)
 |[],l,h=>by cases h;simp
 |i::r,l,h=>by
  unfold pickB at h
  split at h
  ·rename_i cs l' h1 h2
   cases h
   obtain⟨e1,e2⟩:=pickB_spec h2
   refine⟨by simp[e1],fun j k hj=> ?_⟩
   cases j with
   |zero=>simp at hj;subst hj;exact⟨cs,h1,rfl⟩
   |succ j=>simpa using e2 j k (by simpa using hj)
  ·cases h
def pickT(tk:List (TypeId×Nat)):List Nat→Option (List (TypeId×Nat))
 |[]=>some []
 |i::r=>match tk[i]?,pickT tk r with
  |some x,some l=>some (x::l)
  |_,_=>none
theorem pickT_spec{tk:List (TypeId×Nat)}: ∀{K:List Nat} {l:List (TypeId×Nat)},pickT tk K=some l→l.length=K.length∧ ∀(j i:Nat),K[j]? =some i→ ∃x,tk[i]? =some x∧l[j]? =some x
 |[],l,h=>by cases h;simp
 |i::r,l,h=>by
  unfold pickT at h
  split at h
  ·rename_i x l' h1 h2
   cases h
   obtain⟨e1,e2⟩:=pickT_spec h2
   refine⟨by simp[e1],fun j k hj=> ?_⟩
   cases j with
   |zero=>simp at hj;subst hj;exact⟨x,h1,rfl⟩
   |succ j=>simpa using e2 j k (by simpa using hj)
  ·cases h
mutual
def deepV:PV→Option PV
 | .g x=>some (.g x)
 | .own es id=>match litO id with|some id'=>some (.own es id')|none=>none
 | .ptr b off=>match litO b with
  |some b'=>match litO off with|some off'=>some (.ptr b' off')|none=>none
  |none=>none
 | .nilp=>some .nilp
 | .nils=>some .nils
 | .pat cs=>some (.pat cs)
 | .clo f a b=>match deepL a with
  |some a'=>match deepL b with|some b'=>some (.clo f a' b')|none=>none
  |none=>none
 | .agg cs=>match deepL cs with|some cs'=>some (.agg cs')|none=>none
 | .tuple cs=>match deepL cs with|some cs'=>some (.tuple cs')|none=>none
 | .lit es=>some (.lit es)
 | .mar id n=>match litO id with|some id'=>some (.mar id' n)|none=>none
 | .mref id n i off=>match litO id with
  |some id'=>match litO off with|some off'=>some (.mref id' n i off')|none=>none
  |none=>none
 | .mp id=>match litO id with|some id'=>some (.mp id')|none=>none
 | .vw id n off len cap=>match litO id with|some id'=>some (.vw id' n off len cap)|none=>none
 | .glob g off=>some (.glob g off)
 | .kv g off=>some (.kv g off)
 | .ifc t p=>match deepV p with|some p'=>some (.ifc t p')|none=>none
 | .any=>some .any
def deepL:List PV→Option (List PV)
 |[]=>some []
 |p::r=>match deepV p with
  |some p'=>match deepL r with|some r'=>some (p'::r')|none=>none
  |none=>none
end
mutual
theorem deepV_eq: ∀p:PV,deepV p=some p
 | .g x=>by simp[deepV]
 | .own es id=>by simp[deepV,litO_eq]
 | .ptr b off=>by simp[deepV,litO_eq]
 | .nilp=>by simp[deepV]
 | .nils=>by simp[deepV]
 | .pat cs=>by simp[deepV]
 | .clo f a b=>by simp[deepV,deepL_eq a,deepL_eq b]
 | .agg cs=>by simp[deepV,deepL_eq cs]
 | .tuple cs=>by simp[deepV,deepL_eq cs]
 | .lit es=>by simp[deepV]
 | .mar id n=>by simp[deepV,litO_eq]
 | .mref id n i off=>by simp[deepV,litO_eq]
 | .mp id=>by simp[deepV,litO_eq]
 | .vw id n off len cap=>by simp[deepV,litO_eq]
 | .glob g off=>by simp[deepV]
 | .kv g off=>by simp[deepV]
 | .ifc t p=>by simp[deepV,deepV_eq p]
 | .any=>by simp[deepV]
theorem deepL_eq: ∀l:List PV,deepL l=some l
 |[]=>by simp[deepL]
 |p::r=>by simp[deepL,deepV_eq p,deepL_eq r]
end
def deepB:List (List PV)→Option (List (List PV))
 |[]=>some []
 |l::r=>match deepL l with
  |some l'=>match deepB r with|some r'=>some (l'::r')|none=>none
  |none=>none
theorem deepB_eq: ∀l,deepB l=some l
 |[]=>rfl
 |l::r=>by simp[deepB,deepL_eq l,deepB_eq r]
def deepT:List (TypeId×Nat)→Option (List (TypeId×Nat))
 |[]=>some []
 |(e,n)::r=>match deepT r with|some r'=>some ((e,n)::r')|none=>none
theorem deepT_eq: ∀l,deepT l=some l
 |[]=>rfl
 |(e,n)::r=>by simp[deepT,deepT_eq r]
def deepM:List MO→Option (List MO)
 |[]=>some []
 |o::r=>match deepM r with|some r'=>some (o::r')|none=>none
theorem deepM_eq: ∀l,deepM l=some l
 |[]=>rfl
 |o::r=>by simp[deepM,deepM_eq r]
def deepH:PH→Option PH
 |⟨bx,tk,mu⟩=>match deepB bx with
  |some bx'=>match deepT tk with
   |some tk'=>match deepM mu with|some mu'=>some ⟨bx',tk',mu'⟩|none=>none
   |none=>none
  |none=>none
theorem deepH_eq(H:PH):deepH H=some H:=by simp[deepH,deepB_eq,deepT_eq,deepM_eq]
def pickM(mu:List MO):List Nat→Option (List MO)
 |[]=>some []
 |i::r=>match mu[i]?,pickM mu r with
  |some x,some l=>some (x::l)
  |_,_=>none
theorem pickM_spec{mu:List MO}: ∀{K:List Nat} {l:List MO},pickM mu K=some l→l.length=K.length∧ ∀(j i:Nat),K[j]? =some i→ ∃x,mu[i]? =some x∧l[j]? =some x
 |[],l,h=>by cases h;simp
 |i::r,l,h=>by
  unfold pickM at h
  split at h
  ·rename_i x l' h1 h2
   cases h
   obtain⟨e1,e2⟩:=pickM_spec h2
   refine⟨by simp[e1],fun j k hj=> ?_⟩
   cases j with
   |zero=>simp at hj;subst hj;exact⟨x,h1,rfl⟩
   |succ j=>simpa using e2 j k (by simpa using hj)
  ·cases h
def reachB(bx:List (List PV)):Nat→List Nat→List Nat→List Nat
 |0,_,acc=>acc
 |_+1,[],acc=>acc
 |n+1,b::r,acc=>bif memB acc b then reachB bx n r acc else
  match bx[b]? with
  |some cs=>reachB bx n (r++refBL cs) (acc++[b])
  |none=>acc
def boxesOf(bx:List (List PV)):List Nat→List PV
 |[]=>[]
 |b::r=>match bx[b]? with
  |some cs=>cs++boxesOf bx r
  |none=>boxesOf bx r
section
variable{P:Program}{o:Oper}{ρ:Operand→PV}{H H':PH}{v v':PV}
theorem PC_at{id:FuncId}{qs ps:List PV}{H0 H1:PH}{v1:PV}(hp:PC P id ps H0 v1 H1)(I J L:List Nat)(hn:(nodupB I&&nodupB J&&nodupB L)=true)(hb:pickB I J L H.bx I=some H0.bx)(ht:pickT H.tk J=some H0.tk)(hm:pickM H.mu L=some H0.mu)
  (ha:renL (posOf I) (posOf J) (posOf L) qs=ps) (hv:deepV (ren (backOf I H.bx.length) (backOf J H.tk.length) (backOf L H.mu.length) v1)=some v') (hH:deepH (back I J L H H1)=some H'):PC P id qs H v' H':=by
 rw[deepV_eq]at hv
 rw[deepH_eq]at hH
 cases hv
 cases hH
 simp only[Bool.and_eq_true]at hn
 obtain⟨b1,b2⟩:=pickB_spec hb
 obtain⟨t1,t2⟩:=pickT_spec ht
 obtain⟨m1,m2⟩:=pickM_spec hm
 exact PC_frame hp (nodupB_spec hn.1.1) (nodupB_spec hn.1.2) (nodupB_spec hn.2) b1 b2 t1 t2 m1 m2 ha
theorem call_box(ks:List Bool){f:Operand}{args:Array Operand}{ts:Array TypeId}{id:FuncId}{qs ps:List PV}{H0 H1:PH}{v1:PV}{I J L:List Nat}(ho:o.op= .call {callee:= .value f,args:=args,argTypes:=ts})
  (hf:ρ f= .g (.raw (.func (.func id) #[] #[]))) (he:enterB P id=true) (hp:PC P id ps H0 v1 H1) (hq:deepL (argsK ρ ks args.toList)=some qs) (_hI:dedup [] (refBL qs)=I) (_hJ:refT qs=J) (_hL:dedup [] (refML qs)=L) (hn:(nodupB I&&nodupB J&&nodupB L)=true)
  (hb:pickB I J L H.bx I=some H0.bx) (ht:pickT H.tk J=some H0.tk) (hm:pickM H.mu L=some H0.mu) (ha:renL (posOf I) (posOf J) (posOf L) qs=ps) (hv:deepV (ren (backOf I H.bx.length) (backOf J H.tk.length) (backOf L H.mu.length) v1)=some v') (hH:deepH (back I J L H H1)=some H'):
  PO P o ρ H v' H':=by
 rw[deepL_eq]at hq
 exact PO_call_at ks ho hf he (Option.some.inj hq) (PC_at hp I J L hn hb ht hm ha hv hH)
theorem call_deep(ks:List Bool){f:Operand}{args:Array Operand}{ts:Array TypeId}{id:FuncId}{qs ps:List PV}{H0 H1:PH}{v1:PV}{I J L:List Nat}(ho:o.op= .call {callee:= .value f,args:=args,argTypes:=ts})
  (hf:ρ f= .g (.raw (.func (.func id) #[] #[]))) (he:enterB P id=true) (hp:PC P id ps H0 v1 H1) (hq:deepL (argsK ρ ks args.toList)=some qs) (_hI:reachB H.bx 40 (refBL qs) []=I) (_hJ:dedup [] (refOL qs++refOL (boxesOf H.bx I))=J) (_hL:dedup [] (refML qs++refML (boxesOf H.bx I))=L) (hn:(nodupB I&&nodupB J&&nodupB L)=true)
  (hb:pickB I J L H.bx I=some H0.bx) (ht:pickT H.tk J=some H0.tk) (hm:pickM H.mu L=some H0.mu) (ha:renL (posOf I) (posOf J) (posOf L) qs=ps) (hv:deepV (ren (backOf I H.bx.length) (backOf J H.tk.length) (backOf L H.mu.length) v1)=some v') (hH:deepH (back I J L H H1)=some H'):
  PO P o ρ H v' H':=by
 rw[deepL_eq]at hq
 exact PO_call_at ks ho hf he (Option.some.inj hq) (PC_at hp I J L hn hb ht hm ha hv hH)
end
theorem intB_ok{P:Program}{t:TypeId}{k:IntKind}(h:intB P t=some k):P.underlying t=some (.int k):=by
 unfold intB at h
 split at h
 ·rename_i k' hu;cases h;exact hu
 ·cases h
def loOf:Option (IntKind×Int)→Int|none=>0|some p=>p.2
def hiOf(n:Nat):Option (IntKind×Int)→Int|none=>n|some p=>p.2
def boundP(ρ:Operand→PV):Option Operand→Option (Option (IntKind×Int))
 |none=>some none
 |some x=>match ρ x with
  | .g (.int k n)=>some (some (k,n))
  |_=>none
theorem boundP_ok{c:Ctx}{ρ:Operand→PV}{ρr:Operand→Value}{o:Option Operand}{r:Option (IntKind×Int)}(h:boundP ρ o=some r)(hx: ∀x,o=some x→RV c (ρ x) (ρr x)):o.map ρr=r.map fun p=> .int p.1 p.2:=by
 cases o with
 |none=>cases h;rfl
 |some x=>
  simp only[boundP]at h
  split at h
  ·rename_i k n e
   cases h
   have:=hx x rfl
   rw[e]at this
   simp[RV_int this]
  ·cases h
section
variable{P:Program}{o:Oper}{ρ:Operand→PV}{H:PH}
theorem PO_conv_int{src dst:TypeId}{x:Operand}{ks kd k:IntKind}{n:Int}(ho:o.op= .convert src dst x)(hs:intB P src=some ks)(hd:intB P dst=some kd)(hx:ρ x= .g (.int k n)):PO P o ρ H (.g (.int kd (kd.wrap n))) H:=
 PO_val fun c ρr hr hxx=>by
  have h1:=hxx x (by simp[ho,Op.operands])
  rw[hx]at h1
  exact⟨.int kd (kd.wrap n),by simp[execOp,ho,RV_int h1,convert,run_underlying (intB_ok hs),run_underlying (intB_ok hd),Conv.intToInt], .g _ _ (.int _ _)⟩
theorem PO_conv_rune{src dst:TypeId}{x:Operand}{ks k:IntKind}{n:Int}(ho:o.op= .convert src dst x)(hs:intB P src=some ks)(hd:P.underlying dst=some .string)(hx:ρ x= .g (.int k n)):PO P o ρ H (.g (.str (Utf8.encode n))) H:=
 PO_val fun c ρr hr hxx=>by
  have h1:=hxx x (by simp[ho,Op.operands])
  rw[hx]at h1
  exact⟨.string (Utf8.encode n),by simp[execOp,ho,RV_int h1,convert,run_underlying (intB_ok hs),run_underlying hd,Conv.intToString], .g _ _ (.str _)⟩
theorem PO_slice_str{t:TypeId}{x:Operand}{lo hi:Option Operand}{s:ByteArray}{l h:Option (IntKind×Int)}(ho:o.op= .slice t x lo hi none)(ht:P.underlying t=some .string)(hx:ρ x= .g (.str s))(hl:boundP ρ lo=some l)(hh:boundP ρ hi=some h)
  (h1:0≤loOf l) (h2:loOf l≤hiOf s.size h) (h3:hiOf s.size h≤s.size):PO P o ρ H (.g (.str (s.extract (loOf l).toNat (hiOf s.size h).toNat))) H:=
 PO_val fun c ρr hr hxx=>by
  have e1:=hxx x (by simp[ho,Op.operands])
  rw[hx]at e1
  have el:=boundP_ok (ρr:=ρr) hl fun y hy=>hxx y (by subst hy;simp[ho,Op.operands])
  have eh:=boundP_ok (ρr:=ρr) hh fun y hy=>hxx y (by subst hy;simp[ho,Op.operands])
  refine⟨_, ?_, .g _ _ (.str _)⟩
  simp only[execOp,ho,RV_str e1,el,eh]
  cases l with
  |none=>
   cases h with
   |none=>simp[Instr.sliceAt,Instr.slice,run_underlying ht,Instr.sliceBounds,loOf,hiOf]
   |some q=>
    simp only[loOf,hiOf]at h2 h3
    have:0≤q.2∧q.2≤(s.size:Int):=⟨h2,h3⟩
    simp[Instr.sliceAt,Instr.slice,run_underlying ht,Instr.sliceBounds,Instr.sliceBound,asIntOf,this,loOf,hiOf]
  |some p=>
   cases h with
   |none=>
    simp only[loOf,hiOf]at h1 h2
    have:0≤p.2∧p.2≤(s.size:Int):=⟨h1,h2⟩
    simp[Instr.sliceAt,Instr.slice,run_underlying ht,Instr.sliceBounds,Instr.sliceBound,asIntOf,this,loOf,hiOf]
   |some q=>
    simp only[loOf,hiOf]at h1 h2 h3
    have e1:0≤q.2∧q.2≤(s.size:Int):=⟨by omega,h3⟩
    have e2:0≤p.2∧p.2≤q.2:=⟨h1,h2⟩
    have e3:((q.2.toNat:Nat):Int)=q.2:=Int.toNat_of_nonneg e1.1
    simp[Instr.sliceAt,Instr.slice,run_underlying ht,Instr.sliceBounds,Instr.sliceBound,asIntOf,e1,e2,e3,loOf,hiOf]
theorem PO_slice_sl{t e:TypeId}{x:Operand}{lo hi:Option Operand}{es:List GV}{l h:Option (IntKind×Int)}{size:Nat}(ho:o.op= .slice t x lo hi none)(ht:P.underlying t=some (.slice e))(hs:szB P e=some size)(hx:elems (ρ x)=some es)(hl:boundP ρ lo=some l)(hh:boundP ρ hi=some h)
  (h1:0≤loOf l) (h2:loOf l≤hiOf es.length h) (h3:hiOf es.length h≤es.length) (hes: ∀x∈es,x.cells.length=size):PO P o ρ H (.g (.sl ((es.drop (loOf l).toNat).take ((hiOf es.length h).toNat-(loOf l).toNat)))) H:=
 PO_val fun c ρr hr hxx=>by
  have e1:=elems_ok (hxx x (by simp[ho,Op.operands])) hx
  have el:=boundP_ok (ρr:=ρr) hl fun y hy=>hxx y (by subst hy;simp[ho,Op.operands])
  have eh:=boundP_ok (ρr:=ρr) hh fun y hy=>hxx y (by subst hy;simp[ho,Op.operands])
  obtain⟨a,cap,hv,hlc,hcm,hnil⟩:=RG_len e1
  have hrun:(execOp ρr o).run P c.w= .ok (.value (.slice (if cap=(loOf l).toNat then a else a.map (·.add ((loOf l).toNat *size))) ((hiOf es.length h).toNat-(loOf l).toNat) (cap-(loOf l).toNat))) c.w:=by
   simp only[execOp,ho,hv,el,eh]
   cases l with
   |none=>
    cases h with
    |none=>simp[Instr.sliceAt,Instr.slice,run_underlying ht,run_sizeOf hs,Instr.sliceBounds,loOf,hiOf]
    |some q=>
     simp only[loOf,hiOf]at h2 h3
     have:0≤q.2∧q.2≤(cap:Int):=⟨h2,by omega⟩
     simp[Instr.sliceAt,Instr.slice,run_underlying ht,run_sizeOf hs,Instr.sliceBounds,Instr.sliceBound,asIntOf,this,loOf,hiOf]
   |some p=>
    cases h with
    |none=>
     simp only[loOf,hiOf]at h1 h2
     have:0≤p.2∧p.2≤(es.length:Int):=⟨h1,h2⟩
     simp[Instr.sliceAt,Instr.slice,run_underlying ht,run_sizeOf hs,Instr.sliceBounds,Instr.sliceBound,asIntOf,this,loOf,hiOf]
     by_cases hcc:cap=p.2.toNat<;>simp[hcc]
    |some q=>
     simp only[loOf,hiOf]at h1 h2 h3
     have e1:0≤q.2∧q.2≤(cap:Int):=⟨by omega,by omega⟩
     have e2:0≤p.2∧p.2≤q.2:=⟨h1,h2⟩
     have e3:((q.2.toNat:Nat):Int)=q.2:=Int.toNat_of_nonneg e1.1
     simp[Instr.sliceAt,Instr.slice,run_underlying ht,run_sizeOf hs,Instr.sliceBounds,Instr.sliceBound,asIntOf,e1,e2,e3,loOf,hiOf]
     by_cases hcc:cap=p.2.toNat<;>simp[hcc]
  refine⟨_,hrun, .g _ _ ?_⟩
  generalize hL:(loOf l).toNat=L
  generalize hU:(hiOf es.length h).toNat=U
  have hLU:L≤U∧U≤es.length:=by omega
  rw[hv]at e1
  have hlen:((es.drop L).take (U-L)).length=U-L:=by simp;omega
  generalize hq:(es.drop L).take (U-L)=qs at hlen
  cases e1 with
  |nil=>
   simp at hLU
   have hU0:U=0:=hLU.2
   have hL0:L=0:=by omega
   subst hU0;subst hL0
   have:qs=[]:=List.eq_nil_of_length_eq_zero hlen
   subst this
   simp
   exact .nil
  |sl _ a' _ size' f ha hc hm hsz hf hh=>
   by_cases hz:U-L=0
   ·have hnil:qs=[]:=List.eq_nil_of_length_eq_zero (hlen.trans hz)
    subst hnil
    rw[hz]
    have key: ∀b:Addr,RG c.w c.stab (.sl []) (.slice (some b) 0 (cap-L)):=fun b=>by
     have:=RG.sl (w:=c.w) (S:=c.stab) [] b (cap-L) 0 (fun _=>undef) (fun h=>absurd rfl h) (by simp) (by omega) (by simp) (by simp) (by simp)
     simpa using this
    split<;>exact key _
   ·have hcap: ¬cap=L:=by omega
    rw[if_neg hcap]
    have hsz':size'=size:=by
     obtain⟨x,hx⟩: ∃x,es[0]? =some x:=⟨es[0]'(by omega),List.getElem?_eq_getElem (by omega)⟩
     rw[←hsz 0 x hx,hes x (List.mem_of_getElem? hx)]
    subst hsz'
    have hne:es≠[]:=fun h=>by subst h;simp at hLU;omega
    have hspot:=ha hne
    have hqget: ∀i,i<U-L→qs[i]? =es[L+i]? :=fun i hi=>by
     rw[←hq,List.getElem?_take,if_pos hi,List.getElem?_drop]
    have:=RG.sl (w:=c.w) (S:=c.stab) qs (a'.add (L *size')) (cap-L) size' (fun k=>f (L *size'+k)) (fun _=>add_spot _ _ hspot) (by rw[hlen];omega) (by omega) (fun i x hx=> ?_) (fun k hk=> ?_) (fun i x j g hx hg=> ?_)
    ·rw[hlen]at this;simpa using this
    ·have hi:i<U-L:=by rw[←hlen];exact(List.getElem?_eq_some_iff.1 hx).1
     rw[hqget i hi]at hx
     exact hsz _ x hx
    ·rw[hlen]at hk
     have hlt:L *size'+k<es.length *size':=by
      have h1:(U-L) *size'+L *size'≤es.length *size':=by rw[←Nat.add_mul];exact Nat.mul_le_mul_right _ (by omega)
      omega
     have h3:=hf _ hlt
     rw[add_eq _ _ (add_spot _ _ hspot),add_block,add_off,Nat.add_assoc]
     rw[add_eq _ _ hspot]at h3
     exact h3
    ·have hi:i<U-L:=by rw[←hlen];exact(List.getElem?_eq_some_iff.1 hx).1
     rw[hqget i hi]at hx
     have:=hh (L+i) x j g hx hg
     rw[Nat.add_mul,Nat.add_assoc]at this
     exact this
end
section
variable{P:Program}{c:Ctx}{H:PH}
theorem Rel.addDead(hr:Rel P c H){e size:Nat}(hs:szB P e=some size):
  Rel P ⟨c.σ,c.τ++[⟨false,0,e,size,0,0⟩],c.μ,c.hid,c.w⟩ ⟨H.bx,H.tk++[(e,0)],H.mu⟩∧Evo c ⟨c.σ,c.τ++[⟨false,0,e,size,0,0⟩],c.μ,c.hid,c.w⟩:=by
 have e2:=evo_ext (Ext.refl c.w) [] [⟨false,0,e,size,0,0⟩] [] (by simp) (by simp) (by simp)
 simp only[List.append_nil]at e2
 have e1:=hr.ext (Ext.refl c.w) [] [⟨false,0,e,size,0,0⟩] [] (by simp) (by simp) (by
  intro i j t1 t2 h1 h2
  have:=(List.getElem?_eq_some_iff.1 h1).1
  have:=(List.getElem?_eq_some_iff.1 h2).1
  simp at *
  omega) (by
  intro t ht _
  simp at ht
  subst ht
  exact⟨rfl,hs⟩) (by simp) (by simp) (by simp) (by simp)
 simp only[List.map_cons,List.map_nil,List.append_nil]at e1
 exact⟨e1,e2⟩
theorem RV.ofNil{v:Value}{id:Nat}{t:Tok}(h:RV c .nils v)(ht:c.τ[id]? =some t):RV c (.own [] id) v:=by
 cases h with
 |nils=>exact .own [] id _ t .nil ht (by simp) (by simp) (fun _=> .inr ⟨rfl,rfl⟩)
end
section
variable{P:Program}{N:Nat}{Q:Exit→Env→PH→Prop}{env:Env}{H:PH}
theorem PW_buf{code:Code}(k e:Nat){size:Nat}(hs:szB P e=some size)(hk:env k= .nils)(h:PW P N code Q (upd env (some k) (.own [] H.tk.length)) ⟨H.bx,H.tk++[(e,0)],H.mu⟩):PW P N code Q env H:=by
 intro c a hr he
 obtain⟨r1,e1⟩:=hr.addDead hs
 have hlen:c.τ.length=H.tk.length:=by rw[←hr.tk];simp
 have hE:ER ⟨c.σ,c.τ++[⟨false,0,e,size,0,0⟩],c.μ,c.hid,c.w⟩ N (upd env (some k) (.own [] H.tk.length)) a:=by
  refine⟨he.defers,he.size,fun t=> ?_⟩
  simp only[upd]
  cases ht:Nat.beq t k with
  |true=>
   rw[cond_true]
   have:=Nat.eq_of_beq_eq_true ht
   subst this
   have h1:=(he.slot t).mono e1
   rw[hk]at h1
   refine RV.ofNil h1 (t:=⟨false,0,e,size,0,0⟩) ?_
   show(c.τ++[_])[H.tk.length]? =_
   rw[←hlen];simp
  |false=>rw[cond_false];exact(he.slot t).mono e1
 refine wp_mono (h ⟨c.σ,c.τ++[⟨false,0,e,size,0,0⟩],c.μ,c.hid,c.w⟩ a r1 hE) ?_
 rintro x a' w' ⟨c',env',H',q,rfl,hr',hE',he'⟩
 exact⟨c',env',H',q,rfl,hr',e1.trans hE',he'⟩
end
section
variable{P:Program}{o:Oper}{ρ:Operand→PV}{H:PH}
end
section
variable{P:Program}{o:Oper}{ρ:Operand→PV}{H:PH}
def notNil:PV→Option PV
 | .ptr b off=>some (.ptr b off)
 | .pat cs=>some (.pat cs)
 |_=>none
theorem PO_nilCheck{x:Operand}{p:PV}(ho:o.op= .nilCheck x)(hx:notNil (ρ x)=some p):PO P o ρ H p H:=
 PO_val fun c ρr hr hxx=>by
  have h1:=hxx x (by simp[ho,Op.operands])
  unfold notNil at hx
  split at hx
  ·rename_i b off e
   cases hx
   rw[e]at h1
   generalize hv:ρr x=v at h1
   cases h1 with
   |ptr _ _ blk hb=>exact⟨_,by simp[execOp,ho,hv], .ptr _ _ _ hb⟩
  ·rename_i cs e
   cases hx
   rw[e]at h1
   generalize hv:ρr x=v at h1
   cases h1 with
   |pat _ a f ha hf hh=>exact⟨_,by simp[execOp,ho,hv], .pat _ _ _ ha hf hh⟩
  ·cases hx
end
mutual
def refsOk(nb nt nm:Nat):PV→Bool
 | .own _ id=>Nat.blt id nt
 | .ptr b _=>Nat.blt b nb
 | .clo _ a b=>refsOkL nb nt nm a&&refsOkL nb nt nm b
 | .agg cs=>refsOkL nb nt nm cs
 | .tuple cs=>refsOkL nb nt nm cs
 | .g _=>true
 | .nilp=>true
 | .nils=>true
 | .pat _=>true
 | .lit _=>true
 | .mar id _=>Nat.blt id nm
 | .mref id _ _ _=>Nat.blt id nm
 | .mp id=>Nat.blt id nm
 | .vw id _ _ _ _=>Nat.blt id nm
 | .glob _ _=>true
 | .kv _ _=>true
 | .ifc _ p=>refsOk nb nt nm p
 | .any=>true
def refsOkL(nb nt nm:Nat):List PV→Bool
 |[]=>true
 |p::r=>refsOk nb nt nm p&&refsOkL nb nt nm r
end
mutual
theorem refsOk_spec{nb nt nm:Nat}: ∀{p:PV},refsOk nb nt nm p=true→RefsIn nb nt nm p
 | .own es id,h=>by simp only[refsOk,Nat.blt_eq]at h;exact .own _ _ h
 | .ptr b off,h=>by simp only[refsOk,Nat.blt_eq]at h;exact .ptr _ _ h
 | .clo f a b,h=>by simp only[refsOk,Bool.and_eq_true]at h;exact .clo _ _ _ (refsOkL_spec h.1) (refsOkL_spec h.2)
 | .agg cs,h=>by simp only[refsOk]at h;exact .agg _ (refsOkL_spec h)
 | .tuple cs,h=>by simp only[refsOk]at h;exact .tuple _ (refsOkL_spec h)
 | .g x,_=> .g x
 | .nilp,_=> .nilp
 | .nils,_=> .nils
 | .pat cs,_=> .pat cs
 | .lit es,_=> .lit es
 | .mar id n,h=>by simp only[refsOk,Nat.blt_eq]at h;exact .mar _ _ h
 | .mref id n i off,h=>by simp only[refsOk,Nat.blt_eq]at h;exact .mref _ _ _ _ h
 | .mp id,h=>by simp only[refsOk,Nat.blt_eq]at h;exact .mp _ h
 | .vw id n off len cap,h=>by simp only[refsOk,Nat.blt_eq]at h;exact .vw _ _ _ _ _ h
 | .glob g off,_=> .glob g off
 | .kv g off,_=> .kv g off
 | .ifc t p,h=>by simp only[refsOk]at h;exact .ifc _ _ (refsOk_spec h)
 | .any,_=> .any
theorem refsOkL_spec{nb nt nm:Nat}: ∀{l:List PV},refsOkL nb nt nm l=true→ ∀p∈l,RefsIn nb nt nm p
 |[],_,p,hp=>by simp at hp
 |q::r,h,p,hp=>by
  simp only[refsOkL,Bool.and_eq_true]at h
  rcases List.mem_cons.1 hp with e|hp
  ·rw[e];exact refsOk_spec h.1
  ·exact refsOkL_spec h.2 p hp
end
def refsOkB(nb nt nm:Nat):List (List PV)→Bool
 |[]=>true
 |l::r=>refsOkL nb nt nm l&&refsOkB nb nt nm r
theorem refsOkB_spec{nb nt nm:Nat}: ∀{l:List (List PV)},refsOkB nb nt nm l=true→ ∀cs∈l,∀p∈cs,RefsIn nb nt nm p
 |[],_,p,hp=>by simp at hp
 |q::r,h,p,hp=>by
  simp only[refsOkB,Bool.and_eq_true]at h
  rcases List.mem_cons.1 hp with rfl|hp
  ·exact refsOkL_spec h.1
  ·exact refsOkB_spec h.2 p hp
section
variable{P:Program}{H H' H2:PH}{v:PV}{env:Env}
theorem Ret_box{rs:List ResultVar}{ps:List PV}{e:Exit}{v':PV}{B:List (List PV)}{T:List (TypeId×Nat)}(hs:resRs P env H2 rs=some ps)(hv:deepV (retV ps)=some v')(hB:deepB (H2.bx.take H'.bx.length)=some B)(hT:deepT (H2.tk.take H'.tk.length)=some T){M:List MO}(hM:deepM (H2.mu.take H'.mu.length)=some M)
  (h1:Nat.ble H.bx.length H'.bx.length=true) (h2:Nat.ble H.tk.length H'.tk.length=true) (h3:Nat.ble H.mu.length H'.mu.length=true) (hc:refsOk H'.bx.length H'.tk.length H'.mu.length v'=true) (hb:refsOkB H'.bx.length H'.tk.length H'.mu.length B=true)
  (hvv:v'=v) (hbx:B=H'.bx) (htk:T=H'.tk) (hmu:M=H'.mu) (he:e= .normal∨e= .ret:=by first|exact .inl rfl|exact .inr rfl):Ret P rs H v H' e env H2:=by
 rw[deepV_eq]at hv
 rw[deepB_eq]at hB
 rw[deepT_eq]at hT
 rw[deepM_eq]at hM
 cases hv;cases hB;cases hT;cases hM
 subst hvv
 refine⟨he,ps, .inr hs,rfl,⟨H2.bx.drop H'.bx.length, ?_⟩,⟨H2.tk.drop H'.tk.length, ?_⟩,⟨H2.mu.drop H'.mu.length, ?_⟩,Nat.le_of_ble_eq_true h1,Nat.le_of_ble_eq_true h2,Nat.le_of_ble_eq_true h3,refsOk_spec hc, ?_⟩
 ·conv=>lhs;rw[←List.take_append_drop H'.bx.length H2.bx]
  rw[hbx]
 ·conv=>lhs;rw[←List.take_append_drop H'.tk.length H2.tk]
  rw[htk]
 ·conv=>lhs;rw[←List.take_append_drop H'.mu.length H2.mu]
  rw[hmu]
 ·rw[hbx]at hb
  exact refsOkB_spec hb
end
section
variable{P:Program}{o:Oper}{ρ:Operand→PV}{H:PH}
end
section
variable{P:Program}{N:Nat}{Q:Exit→Env→PH→Prop}{env:Env}{H:PH}
theorem PW_cut{x y:Code}(E:Env)(H':PH)(h1:PW P N x (Next (fun env' H1=>EnvLe env' E∧HLe P H1 H') Q) env H)(h2:PW P N y Q E H'):PW P N (.seq x y) Q env H:=
 PW_seq (PW_mono h1 fun e env' H1 h=>by
  cases e<;>simp only[Next]at h⊢
  case normal=>exact PW_weak h.1 h.2 h2
  all_goals exact h)
theorem PW_cut_ex{S:Type}{x y:Code}(E:S→Env)(H':S→PH)(I:S→Prop)(h1:PW P N x (Next (fun env' H1=> ∃s,I s∧EnvLe env' (E s)∧HLe P H1 (H' s)) Q) env H)(h2: ∀s,I s→PW P N y Q (E s) (H' s)):PW P N (.seq x y) Q env H:=
 PW_seq (PW_mono h1 fun e env' H1 h=>by
  cases e<;>simp only[Next]at h⊢
  case normal=>obtain⟨s,hs,a,b⟩:=h;exact PW_weak a b (h2 s hs)
  all_goals exact h)
def headR:Code→Nat
 | .region id _ _=>id
 | .seq x _=>headR x
 | .block _ x=>headR x
 | .loop x=>headR x
 |_=>100000
theorem PW_seq_unless(stops:List Nat){x y:Code}(_h:memB stops (headR x)=false)(k:PW P N x (Next (PW P N y Q) Q) env H):PW P N (.seq x y) Q env H:=PW_seq k
end
section
variable{P:Program}{o:Oper}{ρ:Operand→PV}{H:PH}
end
section
variable{P:Program}{H H' H2:PH}{v:PV}{env:Env}
theorem Ret_boxp{rs:List ResultVar}{ps:List PV}{e:Exit}{v':PV}{B:List (List PV)}{T:List (TypeId×Nat)}(hs:resVs P env H2 rs=some ps)(hv:deepV (retV ps)=some v')(hB:deepB (H2.bx.take H'.bx.length)=some B)(hT:deepT (H2.tk.take H'.tk.length)=some T){M:List MO}(hM:deepM (H2.mu.take H'.mu.length)=some M)
  (h1:Nat.ble H.bx.length H'.bx.length=true) (h2:Nat.ble H.tk.length H'.tk.length=true) (h3:Nat.ble H.mu.length H'.mu.length=true) (hc:refsOk H'.bx.length H'.tk.length H'.mu.length v'=true) (hb:refsOkB H'.bx.length H'.tk.length H'.mu.length B=true)
  (hvv:v'=v) (hbx:B=H'.bx) (htk:T=H'.tk) (hmu:M=H'.mu) (he:e= .normal∨e= .ret:=by first|exact .inl rfl|exact .inr rfl):Ret P rs H v H' e env H2:=by
 rw[deepV_eq]at hv
 rw[deepB_eq]at hB
 rw[deepT_eq]at hT
 rw[deepM_eq]at hM
 cases hv;cases hB;cases hT;cases hM
 subst hvv
 refine⟨he,ps, .inl hs,rfl,⟨H2.bx.drop H'.bx.length, ?_⟩,⟨H2.tk.drop H'.tk.length, ?_⟩,⟨H2.mu.drop H'.mu.length, ?_⟩,Nat.le_of_ble_eq_true h1,Nat.le_of_ble_eq_true h2,Nat.le_of_ble_eq_true h3,refsOk_spec hc, ?_⟩
 ·conv=>lhs;rw[←List.take_append_drop H'.bx.length H2.bx]
  rw[hbx]
 ·conv=>lhs;rw[←List.take_append_drop H'.tk.length H2.tk]
  rw[htk]
 ·conv=>lhs;rw[←List.take_append_drop H'.mu.length H2.mu]
  rw[hmu]
 ·rw[hbx]at hb
  exact refsOkB_spec hb
end
section
variable{P:Program}{c:Ctx}{H:PH}
theorem MOk.reads{t:MTok}{n:Nat}{e:TypeId}{es:List GV}(h:MOk P c t (.arr n e es))(lv:t.live=true){S:Nat→Nat→Prop}{w':World}
  (hc: ∀k,w'.cell? ⟨t.g,k,none⟩=c.w.cell? ⟨t.g,k,none⟩) (hS: ∀p,p<es.length *t.size→S t.g p) (hk:Keeps c.w w' c.stab S):RG w' S (.sl es) (.slice (some ⟨t.g,0,none⟩) t.len t.cap):=by
 obtain⟨h1,h2,h3,h4⟩:=h
 rcases h4 with⟨h4,_⟩|⟨_,cur,a1,a2,a3,a4,a5,a6⟩
 ·rw[lv]at h4;cases h4
 ·rw[h2]
  have hcell: ∀k,c.w.cell? ⟨t.g,k,none⟩=cur[k]? :=fun k=>cell_of_row c.w t.g k cur e (0,0) a1
  have hle:es.length *t.size≤cur.size:=by rw[a2];exact Nat.mul_le_mul_right _ a3
  have hat: ∀k,k<es.length *t.size→ ∃i j,k=i *t.size+j∧j<t.size∧i<es.length:=by
   intro k hk
   have hpos:0<t.size:=Nat.pos_of_ne_zero fun e=>by rw[e,Nat.mul_zero]at hk;omega
   refine⟨k/t.size,k%t.size, ?_,Nat.mod_lt _ hpos, ?_⟩
   ·rw[Nat.mul_comm];exact(Nat.div_add_mod k t.size).symm
   ·exact Nat.div_lt_of_lt_mul (by rw[Nat.mul_comm];exact hk)
  refine .sl es _ t.cap t.size (fun k=>cur.getD k undef) (fun _=>rfl) a3 a4 (fun i x hx=>a5 x (List.mem_of_getElem? hx)) (fun k hk'=> ?_) (fun i x j g hx hg=> ?_)
  ·have hlt:k<cur.size:=by omega
   obtain⟨i,j,rfl,hj,hi⟩:=hat k hk'
   have hx:=List.getElem?_eq_getElem hi
   have hl:=a5 es[i] (List.getElem_mem hi)
   have hg:=List.getElem?_eq_getElem (show j<(es[i]).cells.length by rw[hl];exact hj)
   have hv:cur[i *t.size+j]? =some (cur.getD (i *t.size+j) undef):=by
    rw[Array.getElem?_eq_getElem hlt]
    simp[hlt,Array.getD_eq_getD_getElem?]
   refine⟨?_, ?_,(a6 i _ j _ _ hx hg hv).2⟩
   ·rw[add_eq _ _ rfl]
    simp only[Nat.zero_add]
    rw[hc,hcell];exact hv
   ·simp only[Nat.zero_add];exact hS _ hk'
  ·have hi:=(List.getElem?_eq_some_iff.1 hx).1
   have hj:=(List.getElem?_eq_some_iff.1 hg).1
   rw[a5 x (List.mem_of_getElem? hx)]at hj
   have hlt:i *t.size+j<cur.size:=by
    have:i *t.size+j<es.length *t.size:=by
     have h1:(i+1) *t.size≤es.length *t.size:=Nat.mul_le_mul_right _ hi
     rw[Nat.add_mul,Nat.one_mul]at h1
     omega
    omega
   have hv:cur[i *t.size+j]? =some (cur.getD (i *t.size+j) undef):=by
    rw[Array.getElem?_eq_getElem hlt]
    simp[hlt,Array.getD_eq_getD_getElem?]
   exact(a6 i x j g _ hx hg hv).1.mono hk
end
theorem RG.sub{w:World}{S:Nat→Nat→Prop}{es:List GV}{g n cap size:Nat}(h:RG w S (.sl es) (.slice (some ⟨g,0,none⟩) n cap))(hsz: ∀x∈es,x.cells.length=size){off len cp:Nat}(h1:len≤cp)(h2:off+cp≤es.length):
  RG w S (.sl ((es.drop off).take len)) (.slice (some ⟨g,off *size,none⟩) len cp):=by
 cases h with
 |sl _ _ _ size' f ha hc hm hs hf hh=>
  have hl:((es.drop off).take len).length=len:=by simp;omega
  by_cases hz:len=0
  ·subst hz
   simp only[List.take_zero]
   exact .sl [] _ cp 0 (fun _=>undef) (by simp) (by simp) (by omega) (by simp) (by simp) (by simp)
  ·have hlt:off<es.length:=by omega
   have hs0:=hs off es[off] (List.getElem?_eq_getElem hlt)
   rw[hsz _ (List.getElem_mem hlt)]at hs0
   subst hs0
   have hget: ∀(i:Nat) (e:GV),((es.drop off).take len)[i]? =some e→es[off+i]? =some e∧i<len:=by
    intro i e he
    rw[List.getElem?_take]at he
    split at he
    ·rename_i hi;rw[List.getElem?_drop]at he;exact⟨he,hi⟩
    ·cases he
   have:=RG.sl (w:=w) (S:=S) ((es.drop off).take len) ⟨g,off *size,none⟩ cp size (fun k=>f (off *size+k)) (fun _=>rfl) (by omega) (by omega) (fun i e he=>hs (off+i) e (hget i e he).1)
    (fun k hk=>by
     rw[hl]at hk
     have hk':off *size+k<es.length *size:=by
      have h3:(off+len) *size≤es.length *size:=Nat.mul_le_mul_right _ (by omega)
      rw[Nat.add_mul]at h3
      omega
     obtain⟨c1,c2,c3⟩:=hf _ hk'
     rw[add_eq _ _ rfl]at c1⊢
     simp only[Nat.zero_add]at c1 c2
     exact⟨c1,c2,c3⟩)
    (fun i e j gg he hg=>by
     have:=hh (off+i) e j gg (hget i e he).1 hg
     rw[Nat.add_mul,Nat.add_assoc]at this
     exact this)
   rwa[hl]at this
section
variable{P:Program}{o:Oper}{ρ:Operand→PV}{H:PH}
theorem PO_load_mref_one{t:TypeId}{x:Operand}{id n i off:Nat}{e:TypeId}{es:List GV}{x' g:GV}(ho:o.op= .load t x)(h1:aggB P t=some false)(hp:ρ x= .mref id n i off)
  (hm:H.mu[id]? =some (.arr n e es)) (hx':es[i]? =some x') (hg:x'.cells[off]? =some g):PO P o ρ H (.g g) H:=
 PO_val fun c ρr hr hx=>by
  have hx1:=hx x (by simp[ho,Op.operands])
  rw[hp]at hx1
  generalize hrx:ρr x=u at hx1
  cases hx1 with
  |mref _ _ _ _ a t' ht' hn hs hv'=>
   obtain⟨a1,a2,a3,a4⟩:=hr.mu id t' _ ht' hm
   rcases a4 with⟨_,rfl⟩|⟨lv,cur,b1,b2,b3,b4,b5,b6⟩
   ·simp at hx'
   ·have hi:=(List.getElem?_eq_some_iff.1 hx').1
    have hj:=(List.getElem?_eq_some_iff.1 hg).1
    rw[b5 x' (List.mem_of_getElem? hx')]at hj
    have hlt:i *t'.size+off<cur.size:=by
     have h1:(i+1) *t'.size≤t'.cap *t'.size:=Nat.mul_le_mul_right _ (by omega)
     rw[Nat.add_mul,Nat.one_mul]at h1
     omega
    have hv:cur[i *t'.size+off]? =some cur[i *t'.size+off]:=Array.getElem?_eq_getElem hlt
    have hc:c.w.cell? a=some cur[i *t'.size+off]:=by
     rw[hv' a1.symm,cell_of_row c.w t'.g _ cur e (0,0) b1];exact hv
    refine⟨cur[i *t'.size+off],by simp only[execOp,ho,hrx,Instr.loadAt,Instr.sureAddr];simp[run_loadVar_one h1 _ _ hc], .g _ _ (b6 i x' off g _ hx' hg hv).1⟩
def setCells(x:GV)(off:Nat)(cs:List GV):GV:=
 match x with
 | .agg ds=> .agg (ds.take off++cs++ds.drop (off+cs.length))
 |_=>match cs with|[g]=>g|_=>x
theorem setCells_cells{x:GV}{off:Nat}{cs:List GV}(h:off+cs.length≤x.cells.length)(hpos:0<cs.length)(h1: ∀g∈cs,g.cells=[g]):(setCells x off cs).cells=x.cells.take off++cs++x.cells.drop (off+cs.length):=by
 have one: ∀y:GV,y.cells=[y]→off+cs.length≤y.cells.length→ ∃g,cs=[g]∧off=0:=by
  intro y hy hl
  rw[hy]at hl
  simp at hl
  match cs,hpos,hl with
  |[g],_,hl=>exact⟨g,rfl,by simp at hl;omega⟩
  |g::g'::r,_,hl=>simp at hl;omega
 cases x with
 |agg ds=>rfl
 |_=>obtain⟨g,rfl,rfl⟩:=one _ rfl h;simp[setCells,GV.cells];exact h1 g (by simp)
theorem setCells_len{x:GV}{off:Nat}{cs:List GV}(h:off+cs.length≤x.cells.length)(hpos:0<cs.length)(h1: ∀g∈cs,g.cells=[g]):(setCells x off cs).cells.length=x.cells.length:=by
 rw[setCells_cells h hpos h1]
 simp
 omega
theorem PO_store_mref{t:TypeId}{x y:Operand}{id n i off m:Nat}{e:TypeId}{es:List GV}{x':GV}{ps:List PV}{cs:List GV}(ho:o.op= .store t x y)(hs:szB P t=some m)(hp:ρ x= .mref id n i off)(hc:pvCells (ρ y)=some ps)(hg:allG ps=some cs)(hn:cs.length=m)(hpos:0<m)
    (hm:H.mu[id]? =some (.arr n e es)) (hx':es[i]? =some x') (hfit:off+m≤x'.cells.length):
    PO P o ρ H undefP ⟨H.bx,H.tk,H.mu.set id (.arr n e (es.set i (setCells x' off cs)))⟩:=by
  intro c ρr hr hx
  have hx1:=hx x (by simp[ho,Op.operands])
  have hy1:=hx y (by simp[ho,Op.operands])
  rw[hp]at hx1
  generalize hrx:ρr x=u at hx1
  obtain⟨f1,f2⟩:=pvCells_ok hy1 hc
  obtain⟨g1,g2⟩:=allG_ok (c:=c) hg
  have hval: ∀(j:Nat) (g:GV) (v:Value),cs[j]? =some g→(ρr y).cells[j]? =some v→RG c.w c.stab g v∧v.oneCell'=true:=by
    intro j g v hj hv
    have hlt:j<ps.length:=by rw[←g1];exact(List.getElem?_eq_some_iff.1 hj).1
    obtain⟨r1,r2⟩:=f2 j ps[j] v (List.getElem?_eq_getElem hlt) hv
    exact⟨g2 j g ps[j] hj (List.getElem?_eq_getElem hlt) v r1,r2⟩
  have hcsz:(ρr y).cells.size=m:=by rw[←f1,←g1,hn]
  have hone: ∀g∈cs,g.cells=[g]:=by
    intro g hgm
    obtain⟨j,hj⟩:=List.getElem?_of_mem hgm
    have hlt:j<(ρr y).cells.size:=by rw[hcsz,←hn];exact(List.getElem?_eq_some_iff.1 hj).1
    obtain⟨r1,r2⟩:=hval j g _ hj (Array.getElem?_eq_getElem hlt)
    exact r1.cells_one r2
  cases hx1 with
  |mref _ _ _ _ a t' ht' hgn hsp hv'=>
    obtain⟨a1,a2,a3,a4⟩:=hr.mu id t' _ ht' hm
    rcases a4 with⟨_,rfl⟩|⟨lv,cur,b1,b2,b3,b4,b5,b6⟩
    · simp at hx'
    · have hi := (List.getElem?_eq_some_iff.1 hx').1
      have hcl:=b5 x' (List.mem_of_getElem? hx')
      have hend:i *t'.size+t'.size≤cur.size:=by
        have h1:(i+1) *t'.size≤t'.cap *t'.size:=Nat.mul_le_mul_right _ (by omega)
        rw[Nat.add_mul,Nat.one_mul]at h1
        omega
      have hone': ∀v∈(ρr y).cells.toList,v.oneCell'=true:=by
        intro v hv
        obtain⟨j,hj,rfl⟩:=List.mem_iff_getElem.1 hv
        have hj':j<cs.length:=by rw[hn,←hcsz];simpa using hj
        exact(hval j cs[j] _ (List.getElem?_eq_getElem hj') (by simp)).2
      have hst:=run_storeCells_at P t'.g (i *t'.size+off) e (ρr y).cells.toList 0 cur c.w b1 (by simp<;>omega) hone'
      simp only[Nat.add_zero]at hst
      have hrun:(execOp ρr o).run P c.w= .ok .skip (c.w.setRow t'.g (cur.toList.take (i *t'.size+off)++(ρr y).cells.toList++cur.toList.drop (i *t'.size+off+(ρr y).cells.size)).toArray):=by
        rw[Array.length_toList]at hst
        rw[hcsz]at hst⊢
        simp[execOp,ho,hrx,Instr.storeAt,Instr.sureAddr,storeVar,run_sizeOf hs,hcsz,hv' a1.symm,hst]
      unfold OpGoes
      rw[hrun]
      generalize hnew:(cur.toList.take (i *t'.size+off)++(ρr y).cells.toList++cur.toList.drop (i *t'.size+off+(ρr y).cells.size)).toArray=new
      have hnsz:new.size=cur.size:=by rw[←hnew];simp[hcsz];omega
      have hread: ∀k v,new[k]? =some v→(k<i *t'.size+off∧cur[k]? =some v)∨(i *t'.size+off≤k∧k<i *t'.size+off+m∧(ρr y).cells[k-(i *t'.size+off)]? =some v)∨(i *t'.size+off+m≤k∧cur[k]? =some v):=by
        intro k v hk
        rw[←hnew]at hk
        simp only[List.getElem?_toArray]at hk
        by_cases h1:k<i *t'.size+off
        · rw[List.append_assoc,List.getElem?_append_left (by simp;omega)]at hk
          simp only[List.getElem?_take,h1,if_true]at hk
          exact .inl ⟨h1,by simpa using hk⟩
        · by_cases h2:k<i *t'.size+off+m
          · rw[List.append_assoc,List.getElem?_append_right (by simp;omega),List.getElem?_append_left (by simp[hcsz];omega)]at hk
            have l2:(cur.toList.take (i *t'.size+off)).length=i *t'.size+off:=by simp;omega
            rw[l2]at hk
            exact .inr (.inl ⟨by omega,h2,by simpa using hk⟩)
          · rw[List.getElem?_append_right (by simp[hcsz];omega)]at hk
            have l2:(cur.toList.take (i *t'.size+off)++(ρr y).cells.toList).length=i *t'.size+off+m:=by simp[hcsz];omega
            rw[l2,List.getElem?_drop,hcsz]at hk
            have e:i *t'.size+off+m+(k-(i *t'.size+off+m))=k:=by omega
            rw[e]at hk
            exact .inr (.inr ⟨by omega,by simpa using hk⟩)
      have:=hr.setMu ht' (t':=t') (o':= .arr n e (es.set i (setCells x' off cs))) rfl (.inl rfl) (w':=c.w.setRow t'.g new) rfl ⟨rfl,fun _=>by first|exact Nat.le_refl _|exact Nat.le_succ _⟩ rfl (by simp) (fun b hb h=>setRow_other c.w t'.g b _ (h lv)) (fun _=> .inl ⟨lv,rfl⟩) (fun hE=> ?_)
      · exact⟨_,rfl,this.1,this.2, .g _ _ (.raw _)⟩
      · have hpos':0<cs.length:=by omega
        have hfit':off+cs.length≤x'.cells.length:=by omega
        refine⟨a1,by rw[List.length_set];exact a2,a3, .inr ⟨lv,new,setRow_heap c.w t'.g cur new e (0,0) b1,by rw[hnsz];exact b2,by rw[List.length_set];exact b3,b4, ?_, ?_⟩⟩
        · intro z hz
          rcases List.mem_or_eq_of_mem_set hz with h|rfl
          · exact b5 z h
          · rw[setCells_len hfit' hpos' hone];exact hcl
        · intro i2 x2 j g v hx2 hg2 hv2
          by_cases hij:i2=i
          · subst hij
            rw[List.getElem?_set_self hi]at hx2
            cases hx2
            rw[setCells_cells hfit' hpos' hone]at hg2
            have hj:=(List.getElem?_eq_some_iff.1 hg2).1
            rcases hread _ v hv2 with⟨k1,k2⟩|⟨k1,k2,k3⟩|⟨k1,k2⟩
            · rw[List.append_assoc,List.getElem?_append_left (by simp;omega)]at hg2
              simp only[List.getElem?_take]at hg2
              rw[if_pos (by omega)]at hg2
              exact⟨(b6 i2 x' j g v hx' hg2 k2).1.mono hE.keep,(b6 i2 x' j g v hx' hg2 k2).2⟩
            · rw[List.append_assoc,List.getElem?_append_right (by simp;omega),List.getElem?_append_left (by simp;omega)]at hg2
              have l1:(x'.cells.take off).length=off:=by simp;omega
              rw[l1]at hg2
              rw[show i2 *t'.size+j-(i2 *t'.size+off)=j-off by omega]at k3
              exact⟨(hval _ g v hg2 k3).1.mono hE.keep,(hval _ g v hg2 k3).2⟩
            · rw[List.getElem?_append_right (by simp;omega)]at hg2
              have l1:(x'.cells.take off++cs).length=off+cs.length:=by simp;omega
              rw[l1,List.getElem?_drop,show off+cs.length+(j-(off+cs.length))=j by omega]at hg2
              exact⟨(b6 i2 x' j g v hx' hg2 k2).1.mono hE.keep,(b6 i2 x' j g v hx' hg2 k2).2⟩
          · rw[List.getElem?_set_ne (fun h=>hij h.symm)]at hx2
            have hj:=(List.getElem?_eq_some_iff.1 hg2).1
            rw[b5 x2 (List.mem_of_getElem? hx2)]at hj
            have hcur:cur[i2 *t'.size+j]? =some v:=by
              rcases hread _ v hv2 with⟨_,k2⟩|⟨k1,k2,_⟩|⟨_,k2⟩
              · exact k2
              · exfalso
                rcases Nat.lt_or_gt_of_ne hij with h|h
                · have:(i2+1) *t'.size≤i *t'.size:=Nat.mul_le_mul_right _ h
                  rw[Nat.add_mul,Nat.one_mul]at this
                  omega
                · have:(i+1) *t'.size≤i2 *t'.size:=Nat.mul_le_mul_right _ h
                  rw[Nat.add_mul,Nat.one_mul]at this
                  omega
              · exact k2
            exact⟨(b6 i2 x2 j g v hx2 hg2 hcur).1.mono hE.keep,(b6 i2 x2 j g v hx2 hg2 hcur).2⟩
end
mutual
def frz(id n:Nat)(es:List GV):PV→PV
 | .mar id' n'=>bif Nat.beq id' id&&Nat.beq n' n then .g (.sl es)else .mar id' n'
 | .clo f a b=> .clo f (frzL id n es a) (frzL id n es b)
 | .agg cs=> .agg (frzL id n es cs)
 | .tuple cs=> .tuple (frzL id n es cs)
 | .g x=> .g x
 | .own es' id'=> .own es' id'
 | .ptr b off=> .ptr b off
 | .nilp=> .nilp
 | .nils=> .nils
 | .pat cs=> .pat cs
 | .lit es'=> .lit es'
 | .mref a b c d=> .mref a b c d
 | .mp a=> .mp a
 | .vw id' n' off len cap=>bif Nat.beq id' id&&Nat.beq n' n then .g (.sl ((es.drop off).take len))else .vw id' n' off len cap
 | .glob g off=> .glob g off
 | .kv g off=> .kv g off
 | .ifc t p=> .ifc t (frz id n es p)
 | .any=> .any
def frzL(id n:Nat)(es:List GV):List PV→List PV
 |[]=>[]
 |p::r=>frz id n es p::frzL id n es r
end
theorem frzL_eq(id n:Nat)(es:List GV): ∀l,frzL id n es l=l.map (frz id n es)
 |[]=>by simp[frzL]
 |p::r=>by simp[frzL,frzL_eq id n es r]
def frzB(id n:Nat)(es:List GV):List (List PV)→List (List PV)
 |[]=>[]
 |l::r=>frzL id n es l::frzB id n es r
theorem frzB_eq(id n:Nat)(es:List GV): ∀l,frzB id n es l=l.map (·.map (frz id n es))
 |[]=>rfl
 |p::r=>by simp[frzB,frzL_eq,frzB_eq id n es r]
section
variable{P:Program}{c:Ctx}{H:PH}
theorem RV_frz{c c':Ctx}(hE:Evo c c'){id n:Nat}{es:List GV}(hread: ∀v,RV c (.mar id n) v→RG c'.w c'.stab (.sl es) v)(hread': ∀off len cap v,RV c (.vw id n off len cap) v→RG c'.w c'.stab (.sl ((es.drop off).take len)) v){p:PV}{v:Value}(h:RV c p v):RV c' (frz id n es p) v:=by
 induction h with
 |mar id' n' v t ht hn h1 hv=>
  simp only[frz]
  cases hb:(Nat.beq id' id&&Nat.beq n' n)with
  |true=>
   rw[cond_true]
   simp only[Bool.and_eq_true]at hb
   have e1:=Nat.eq_of_beq_eq_true hb.1
   have e2:=Nat.eq_of_beq_eq_true hb.2
   subst e1;subst e2
   exact .g _ _ (hread v (.mar _ _ v t ht hn h1 hv))
  |false=>rw[cond_false];exact(RV.mar id' n' v t ht hn h1 hv).mono hE
 |g x v h=>simp only[frz];exact(RV.g x v h).mono hE
 |own es id v t h ht hs hl hv=>simp only[frz];exact(RV.own es id v t h ht hs hl hv).mono hE
 |ptr b off blk h=>simp only[frz];exact(RV.ptr b off blk h).mono hE
 |nilp=>simp only[frz];exact .nilp
 |nils=>simp only[frz];exact .nils
 |pat cs a f ha hf h=>simp only[frz];exact(RV.pat cs a f ha hf h).mono hE
 |clo fn ps qs us vs hp hq _ _ h1 h2=>
  simp only[frz,frzL_eq]
  refine .clo fn _ _ us vs (by simpa using hp) (by simpa using hq) (fun i p v hp' hv=> ?_) (fun i p v hp' hv=> ?_)
  ·simp only[List.getElem?_map,Option.map_eq_some_iff]at hp'
   obtain⟨q,hq',rfl⟩:=hp'
   exact h1 i q v hq' hv
  ·simp only[List.getElem?_map,Option.map_eq_some_iff]at hp'
   obtain⟨q,hq',rfl⟩:=hp'
   exact h2 i q v hq' hv
 |agg cs vs hl h1 _ ih=>
  simp only[frz,frzL_eq]
  refine .agg _ vs (by simpa using hl) h1 fun i p v hp' hv=> ?_
  simp only[List.getElem?_map,Option.map_eq_some_iff]at hp'
  obtain⟨q,hq',rfl⟩:=hp'
  exact ih i q v hq' hv
 |tuple cs vs hl _ ih=>
  simp only[frz,frzL_eq]
  refine .tuple _ vs (by simpa using hl) fun i p v hp' hv=> ?_
  simp only[List.getElem?_map,Option.map_eq_some_iff]at hp'
  obtain⟨q,hq',rfl⟩:=hp'
  exact ih i q v hq' hv
 |lit es a h=>simp only[frz];exact(RV.lit es a h).mono hE
 |mref id n i off a t ht hn h1 hv=>simp only[frz];exact(RV.mref id n i off a t ht hn h1 hv).mono hE
 |mp id v t ht h1 hv=>simp only[frz];exact(RV.mp id v t ht h1 hv).mono hE
 |vw id' n' off len cap g t ht hn h1 h2 hv=>
  simp only[frz]
  cases hb:(Nat.beq id' id&&Nat.beq n' n)with
  |true=>
   rw[cond_true]
   simp only[Bool.and_eq_true]at hb
   have e1:=Nat.eq_of_beq_eq_true hb.1
   have e2:=Nat.eq_of_beq_eq_true hb.2
   subst e1;subst e2
   exact .g _ _ (hread' off len cap _ (.vw _ _ off len cap g t ht hn h1 h2 hv))
  |false=>rw[cond_false];exact(RV.vw id' n' off len cap g t ht hn h1 h2 hv).mono hE
 |glob g off=>simp only[frz];exact .glob g off
 |kv g off v h hs h1=>simp only[frz];exact(RV.kv g off v h hs h1).mono hE
 |ifc t p v _ ih=>simp only[frz];exact .ifc t _ v ih
 |any v=>simp only[frz];exact .any v
theorem Rel.freeze(hr:Rel P c H){id n:Nat}{e:TypeId}{es:List GV}(hm:H.mu[id]? =some (.arr n e es)):
  ∃c',c'.w=c.w∧Rel P c' ⟨frzB id n es H.bx,H.tk,H.mu.set id (.gone (n+1))⟩∧Evo c c'∧ ∀p v,RV c p v→RV c' (frz id n es p) v:=by
 have hid:id<c.μ.length:=by rw[hr.mlen];exact(List.getElem?_eq_some_iff.1 hm).1
 have ht:=List.getElem?_eq_getElem hid
 generalize c.μ[id]=t at ht
 have hmk:=hr.mu id t _ ht hm
 obtain⟨a1,a2,a3,a4⟩:=hmk
 obtain⟨r1,r2⟩:=hr.setMu ht (t':={t with live:=false,gen:=n+1}) (o':= .gone (n+1)) rfl (.inr (by dsimp only;omega)) (w':=c.w) rfl ⟨rfl,fun _=>by first|exact Nat.le_refl _|exact Nat.le_succ _⟩ rfl (Nat.le_refl _) (fun _ _ _=>rfl) (fun h=>by cases h) (fun _=>⟨rfl,rfl⟩)
 refine⟨⟨c.σ,c.τ,c.μ.set id {t with live:=false,gen:=n+1},c.hid,c.w⟩,rfl, ?_,r2, ?_⟩
 all_goals
  have hread: ∀v,RV c (.mar id n) v→RG c.w (Ctx.stab ⟨c.σ,c.τ,c.μ.set id {t with live:=false,gen:=n+1},c.hid,c.w⟩) (.sl es) v:=by
   intro v hv
   cases hv with
   |mar _ _ _ t2 ht2 hn h1 hv=>
    rw[ht]at ht2
    cases ht2
    rcases hv a1.symm with⟨lv,rfl⟩|⟨lv,rfl⟩
    ·refine MOk.reads (hr.mu id t _ ht hm) lv (fun _=>rfl) (fun p _=> ?_) r2.keep
     have htm:=List.mem_of_getElem? ht
     refine⟨fun h=>hr.mhid t htm lv p h,fun h=>hr.ms t htm lv h,fun t3 h3 lv3 e3=>absurd e3.symm (hr.mt t htm lv t3 h3 lv3),fun t3 h3 lv3 e3=> ?_⟩
     obtain⟨k,hk⟩:=List.getElem?_of_mem h3
     replace hk:(c.μ.set id {t with live:=false,gen:=n+1})[k]? =some t3:=hk
     by_cases ek:k=id
     ·subst ek
      rw[List.getElem?_set_self hid]at hk
      cases hk
      cases lv3
     ·rw[List.getElem?_set_ne (fun h=>ek h.symm)]at hk
      exact ek (hr.md k id t3 t hk ht lv3 lv e3)
    ·rcases a4 with⟨_,rfl⟩|⟨lv',_⟩
     ·exact .nil
     ·rw[lv]at lv';cases lv'
  have hread': ∀off len cap v,RV c (.vw id n off len cap) v→RG c.w (Ctx.stab ⟨c.σ,c.τ,c.μ.set id {t with live:=false,gen:=n+1},c.hid,c.w⟩) (.sl ((es.drop off).take len)) v:=by
   intro off len cap v hv
   cases hv with
   |vw _ _ _ _ _ g t2 ht2 hn h1 h2 hv=>
    rw[ht]at ht2
    cases ht2
    obtain⟨lv,rfl,ls,l2⟩:=hv a1.symm
    have hfull:=hread (.slice (some ⟨t.g,0,none⟩) t.len t.cap) (.mar _ _ _ t ht hn rfl (fun _=> .inl ⟨lv,rfl⟩))
    have hsz: ∀x∈es,x.cells.length=t.size:=by
     rcases a4 with⟨lv',_⟩|⟨_,cur,b1,b2,b3,b4,b5,b6⟩
     ·rw[lv]at lv';cases lv'
     ·exact b5
    have:=hfull.sub hsz h1 (by rw[←a2];exact l2)
    have e1:off *t.size=off:=by rw[ls,Nat.mul_one]
    rw[e1]at this
    exact this
 ·refine{r1 with len:=by rw[frzB_eq];simpa using r1.len,bx:= ?_}
  intro i b cs hb hcs
  rw[frzB_eq]at hcs
  simp only[List.getElem?_map,Option.map_eq_some_iff]at hcs
  obtain⟨ds,hds,rfl⟩:=hcs
  obtain⟨vals,T,e1,e2,e3⟩:=hr.bx i b ds hb hds
  refine⟨vals,T,e1,by simpa using e2,fun j p v hp hv=> ?_⟩
  simp only[List.getElem?_map,Option.map_eq_some_iff]at hp
  obtain⟨q,hq,rfl⟩:=hp
  exact⟨RV_frz r2 hread hread' (e3 j q v hq hv).1,(e3 j q v hq hv).2⟩
 ·exact fun p v h=>RV_frz r2 hread hread' h
end
section
variable{P:Program}{N:Nat}{Q:Exit→Env→PH→Prop}{env:Env}{H:PH}
theorem PW_freeze{code:Code}(id:Nat){n:Nat}{e:TypeId}{es:List GV}(hm:H.mu[id]? =some (.arr n e es))(h:PW P N code Q (fun t=>frz id n es (env t)) ⟨frzB id n es H.bx,H.tk,H.mu.set id (.gone (n+1))⟩):PW P N code Q env H:=by
 intro c a hr he
 obtain⟨c',hw,r1,e1,r2⟩:=hr.freeze hm
 have:=h c' a r1 ⟨he.defers.trans (congrArg Hid.d e1.hid).symm,he.size,fun t=>r2 _ _ (he.slot t)⟩
 rw[hw]at this
 refine wp_mono this ?_
 rintro x a' w' ⟨c2,env',H',q,rfl,hr',hE',he'⟩
 exact⟨c2,env',H',q,rfl,hr',e1.trans hE',he'⟩
end
section
variable{P:Program}{o:Oper}{ρ:Operand→PV}{H:PH}
end
section
variable{P:Program}{o:Oper}{ρ:Operand→PV}{H:PH}
end
section
variable{P:Program}{o:Oper}{env:Env}{H:PH}{K:List Nat}
theorem sh_arr{x:Option MO}{n e len:Nat}(h:shM x=some (1,n,e,len)): ∃es,x=some (.arr n e es)∧es.length=len:=by
 unfold shM at h
 split at h
 ·cases h
 ·cases h
 ·cases h;exact⟨_,rfl,rfl⟩
 ·cases h
 ·cases h
theorem KSh.set{id n e:Nat}{es es':List GV}(hm:H.mu[id]? =some (.arr n e es))(hl:es'.length=es.length): ∀K:List Nat,KSh K H ⟨H.bx,H.tk,H.mu.set id (.arr n e es')⟩
 |[]=>trivial
 |b::K=>by
  refine⟨?_,KSh.set hm hl K⟩
  unfold KSo
  cases Nat.ble 30000 b
  ·cases Nat.ble 20000 b
   ·cases Nat.ble 10000 b
    ·trivial
    ·simp only[cond_true,cond_false]
     by_cases h:b-10000=id
     ·rw[h,hm,List.getElem?_set_self (List.getElem?_eq_some_iff.1 hm).1]
      simp[shM,hl]
     ·rw[List.getElem?_set_ne (fun e=>h e.symm)]
   ·rfl
  ·trivial
theorem KSh.arr{H1:PH}(h:KSh K H H1){id n e len:Nat}(hK:memB K (10000+id)=true)(hKl:Nat.ble 10000 id=false)(hm:shM H.mu[id]? =some (1,n,e,len)): ∃es,H1.mu[id]? =some (.arr n e es)∧es.length=len:=
 sh_arr ((h.at id (memB_iff.1 hK) hKl).symm.trans hm)
theorem Cond_mload{t:TypeId}{x:Operand}{id n i off:Nat}{e:TypeId}{es:List GV}{x' g:GV}(hK:memB K (10000+id)=true)(ho:o.op= .load t x)(h1:aggB P t=some false)(hp:env.eval x= .mref id n i off)
  (hm:H.mu[id]? =some (.arr n e es)) (hx':es[i]? =some x') (hg:x'.cells[off]? =some g) (hKl:Nat.ble 10000 id=false:=by rfl) (hf:frB K o=false:=by rfl):Cond P K o env H (.g g) H:=
 Cond_m (fun H1 hq=>PO_load_mref_one ho h1 hp ((hq.mu id (memB_iff.1 hK) hKl)▸hm) hx' hg) (by rw[ho];rfl) hf
theorem Cond_mstore{t:TypeId}{x y:Operand}{id n i off m:Nat}{e:TypeId}{es:List GV}{x':GV}{ps:List PV}{cs:List GV}(ho:o.op= .store t x y)(hs:szB P t=some m)(hp:env.eval x= .mref id n i off)(hc:pvCells (env.eval y)=some ps)(hg:allG ps=some cs)(hn:cs.length=m)(hpos:0<m)
  (hm:H.mu[id]? =some (.arr n e es)) (hx':es[i]? =some x') (hfit:off+m≤x'.cells.length) (hf:plB K o=true:=by rfl):
  Cond P K o env H undefP ⟨H.bx,H.tk,H.mu.set id (.arr n e (es.set i (setCells x' off cs)))⟩:=
 Cond_s (PO_store_mref ho hs hp hc hg hn hpos hm hx' hfit) (KSh.set hm (by simp) K) (by rw[ho];rfl) hf
end
theorem slots_refs{nb nt nm:Nat}: ∀{l:List (Nat×PV)},refsOkL nb nt nm (l.map (·.2))=true→ ∀t,RefsIn nb nt nm (slots l t)
 |[],_,t=>by simp only[slots];exact .any
 |(k,p)::r,h,t=>by
  simp only[List.map_cons,refsOkL,Bool.and_eq_true]at h
  simp only[slots]
  cases Nat.beq t k
  ·rw[cond_false];exact slots_refs h.2 t
  ·rw[cond_true];exact refsOk_spec h.1
section
variable{P:Program}{N:Nat}{Q:Exit→Env→PH→Prop}{env:Env}{H:PH}
def Drops(P:Program)(H1 H':PH):Prop:= ∃x y z,HLe P H1 ⟨H'.bx++x,H'.tk++y,H'.mu++z⟩
theorem Drops.mk{H1 H':PH}(x:List (List PV))(y:List (TypeId×Nat))(z:List MO)(h:H1=⟨H'.bx++x,H'.tk++y,H'.mu++z⟩):Drops P H1 H':=⟨x,y,z,HLe.of_eq h⟩
def fitB(H H':PH)(E:List (Nat×PV)):Bool:=
 Nat.ble H.bx.length H'.bx.length&&(Nat.ble H.tk.length H'.tk.length&&(Nat.ble H.mu.length H'.mu.length&&(refsOkL H'.bx.length H'.tk.length H'.mu.length (E.map (·.2))&&refsOkB H'.bx.length H'.tk.length H'.mu.length H'.bx)))
theorem cut_back{c c2:Ctx}{H' H2:PH}{E:List (Nat×PV)}{env2:Env}{a:Act}(hr:Rel P c H)(hf:fitB H H' E=true)(hr2:Rel P c2 H2)(hE:Evo c c2)(he:ER c2 N env2 a)(hle:EnvLe env2 (slots E))(hd:Drops P H2 H'):
  ∃c3,c3.w=c2.w∧Rel P c3 H'∧Evo c c3∧ER c3 N (slots E) a:=by
 unfold fitB at hf
 simp only[Bool.and_eq_true]at hf
 obtain⟨f1,f2,f3,f4,f5⟩:=hf
 obtain⟨x,y,z,hx⟩:=hd
 have hr3:=hx c2 hr2
 have he3:=hle.er he
 refine⟨c2.cut H'.bx.length H'.tk.length H'.mu.length,rfl,hr3.cut ⟨x,rfl⟩ ⟨y,rfl⟩ ⟨z,rfl⟩ (refsOkB_spec f5),hE.cut ?_ ?_ ?_,⟨he3.defers,he3.size,fun t=>(he3.slot t).cut (slots_refs f4 t)⟩⟩
 ·rw[hr.len];exact Nat.le_of_ble_eq_true f1
 ·have:=congrArg List.length hr.tk;simp at this;have:=Nat.le_of_ble_eq_true f2;omega
 ·rw[hr.mlen];exact Nat.le_of_ble_eq_true f3
theorem PW_loop_cut{S:Type}{body:Code}(E:S→List (Nat×PV))(F:S→PH)(Inv:S→Prop)(μ:S→Nat)(s0:S)(hi:Inv s0)(h1:EnvLe env (slots (E s0)))(h2:HLe P H (F s0))(hf: ∀s,fitB H (F s) (E s)=true)
  (round: ∀s,Inv s→PW P N body (Next (fun env' H'=> ∃s',Inv s'∧μ s'<μ s∧EnvLe env' (slots (E s'))∧Drops P H' (F s')) Q) (slots (E s)) (F s)):PW P N (.loop body) Q env H:=by
 intro c a hr he
 refine wp_loop_ghost (fun n a w=> ∃s c',Inv s∧μ s=n∧c'.w=w∧Rel P c' (F s)∧Evo c c'∧ER c' N (slots (E s)) a) (μ s0) ⟨s0,c,hi,rfl,rfl,h2 c hr,Evo.refl c,h1.er he⟩ ?_
 rintro n a w ⟨s,c1,hInv,rfl,rfl,hr1,hE1,he1⟩
 refine wp_mono (round s hInv c1 a hr1 he1) ?_
 rintro e a' w' ⟨c2,env2,H2,q,rfl,hr2,hE2,he2⟩
 cases e<;>simp only[Next]at q<;>simp only[Exit.then]
 case normal=>
  obtain⟨s',hi',hlt,e1,e2⟩:=q
  obtain⟨c3,w3,r3,v3,x3⟩:=cut_back hr (hf s') hr2 (hE1.trans hE2) he2 e1 e2
  exact⟨μ s',hlt,s',c3,hi',rfl,w3,r3,v3,x3⟩
 all_goals exact⟨c2,env2,H2,q,rfl,hr2,hE1.trans hE2,he2⟩
end
section
variable{P:Program}{o:Oper}{ρ:Operand→PV}{H:PH}
end
end Go.Pure