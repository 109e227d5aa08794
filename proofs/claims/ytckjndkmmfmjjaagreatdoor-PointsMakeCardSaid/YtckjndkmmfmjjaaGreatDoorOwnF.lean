/- Steps to pointsMake_card. -/
import Derived.Test.YtckjndkmmfmjjaaGreatDoorRows
import Derived.Test.YtckjndkmmfmjjaaGreatDoorPureC
set_option linter.all false
open Go.Proofs.Tryz
set_option maxRecDepth 100000
set_option maxHeartbeats 32000000
namespace Go.Proofs.YtckjndkmmfmjjaaGreatDoor
open Go.Pure
variable{A B:Prop}
def aI(a:A)(h:A->B:=by exact λx=>x):B:=h a
variable{P:Go.Program}{H:PH}
def aJ:kW P H H:=kW.of_eq rfl
def aK(h:A:=by unfold WB at *;omega):A:=h
def aL(h:A:=by unfold WB;omega):A:=h
def aM(h:A:=by simp[maxLen]<;>omega):A:=h
def aN(h:A:=by unfold HB at *;unfold WB;omega):A:=h
def aO(h:A:=by simp[maxLen];omega):A:=h
def aQ(h:A:=by decide+kernel):A:=h
abbrev ak(f:Nat)(a:List PV)(v:PV):Prop:=PC Tryz.prog f a ⟨[],[],[]⟩ v ⟨[],[],[]⟩
abbrev al:=PC Tryz.prog
abbrev aq(x:Int):PV:=.g (.int .i64 x)
abbrev ar(x:Int):PV:=.g (.int .u64 x)
abbrev au(x:Int):PV:=.g (.int .u8 x)
abbrev av(x:List GV):PV:=.g (.sl x)
abbrev ax(x:Bool):PV:=.g (.bool x)
abbrev ay(x:ByteArray):PV:=.g (.str x)
def an(h:A:=by repeat (first|exact trivial|refine ⟨.inl rfl,?_⟩)):A:=h
variable{R:Prop}
def az{α:Type}{a:α}(z:R):(a=a∨A)∧R:=⟨.inl rfl,z⟩
def aA{α:Type}{a b:α}(z:R):(a=a∨A)∧(b=b∨B)∧R:=⟨.inl rfl,.inl rfl,z⟩
variable{C:Prop}
def aB{α:Type}{a b c:α}(z:R):(a=a∨A)∧(b=b∨B)∧(c=c∨C)∧R:=⟨.inl rfl,.inl rfl,.inl rfl,z⟩
variable{D:Prop}
def aC{α:Type}{a b c d:α}(z:R):(a=a∨A)∧(b=b∨B)∧(c=c∨C)∧(d=d∨D)∧R:=⟨.inl rfl,.inl rfl,.inl rfl,.inl rfl,z⟩
variable{E:Prop}
def aD{α:Type}{a b c d e:α}(z:R):(a=a∨A)∧(b=b∨B)∧(c=c∨C)∧(d=d∨D)∧(e=e∨E)∧R:=⟨.inl rfl,.inl rfl,.inl rfl,.inl rfl,.inl rfl,z⟩
variable{F:Prop}
def aF{α:Type}{a b c d e f:α}(z:R):(a=a∨A)∧(b=b∨B)∧(c=c∨C)∧(d=d∨D)∧(e=e∨E)∧(f=f∨F)∧R:=⟨.inl rfl,.inl rfl,.inl rfl,.inl rfl,.inl rfl,.inl rfl,z⟩
variable{G:Prop}
def aG{α:Type}{a b c d e f g:α}(z:R):(a=a∨A)∧(b=b∨B)∧(c=c∨C)∧(d=d∨D)∧(e=e∨E)∧(f=f∨F)∧(g=g∨G)∧R:=⟨.inl rfl,.inl rfl,.inl rfl,.inl rfl,.inl rfl,.inl rfl,.inl rfl,z⟩
def aH{α:Type}{a b c d e f g h:α}{H:Prop}(z:R):(a=a∨A)∧(b=b∨B)∧(c=c∨C)∧(d=d∨D)∧(e=e∨E)∧(f=f∨F)∧(g=g∨G)∧(h=h∨H)∧R:=⟨.inl rfl,.inl rfl,.inl rfl,.inl rfl,.inl rfl,.inl rfl,.inl rfl,.inl rfl,z⟩
def agL:List (Nat×Bool):=[(0,false),(1,false),(2,false),(3,false),(4,false),(5,false),(6,false),(7,true),(8,true),(9,false),(10,false),(11,false),(12,false),(13,true),(14,true),(15,false),(16,false),(17,false),(18,true),(19,true),(20,false),(21,false),(22,false),(23,true),(24,true),(25,false),(26,true),(27,true),(28,false),(29,false),(30,false),(31,false),(32,false),(33,false),(34,false),(35,true),(36,true),(37,false),(38,false),(39,false),(40,true),(41,true),(42,false),(43,false),(44,false),(45,false),(46,false),(47,false),(48,false),(49,false),(50,false),(51,false),(52,true),(53,true),(54,true),(55,true),(56,false),(57,false),(58,false),(59,false),(60,false),(61,false),(62,false),(63,false),(65,false),(66,false),(70,false),(78,false),(83,false),(87,false),(89,true),(91,false),(92,false),(93,false),(95,true),(110,false),(120,false),(121,false),(122,false),(124,true),(129,false),(130,false),(134,false),(137,false),(139,false),(142,false),(146,false),(150,true),(152,true),(153,true),(155,false),(160,false),(162,false),(165,false),(168,false),(173,false),(183,false),(185,false),(188,false),(189,false),(192,false),(196,false),(197,false),(199,false),(201,false),(212,false),(219,false),(221,true),(225,false),(228,false),(229,false),(231,true),(233,true),(237,false),(324,false)]
def Jq:List (Nat×Nat):=[(0,1),(1,1),(2,1),(3,1),(4,1),(5,1),(6,1),(7,4),(8,4),(9,1),(10,1),(11,1),(12,1),(13,2),(14,2),(15,1),(16,1),(17,1),(18,1),(19,1),(20,1),(21,1),(22,1),(23,2),(24,2),(25,1),(26,6),(27,6),(28,1),(29,1),(30,1),(31,1),(32,1),(33,1),(34,1),(35,16),(36,16),(37,1),(38,1),(39,1),(40,2),(41,2),(42,1),(43,1),(44,1),(45,1),(46,1),(47,1),(48,1),(49,1),(50,1),(51,1),(52,2),(53,2),(54,4),(55,4),(56,1),(57,1),(58,1),(59,1),(60,1),(61,1),(62,1),(63,1),(65,1),(66,1),(70,1),(78,1),(83,1),(87,1),(89,1),(91,1),(92,1),(93,1),(95,1),(110,1),(120,1),(121,1),(122,1),(124,2),(129,1),(130,1),(134,1),(137,1),(139,1),(142,1),(146,1),(150,256),(152,2),(153,32),(155,1),(160,1),(162,1),(165,1),(168,1),(173,1),(183,1),(185,1),(188,1),(189,1),(192,1),(196,1),(197,1),(199,1),(201,1),(212,1),(219,1),(221,1),(225,1),(228,1),(229,1),(231,5),(233,1),(237,1),(324,1)]
def fdL:List ((Nat×Nat)×(Nat×Nat)):=[((7,0),(0,2)),((7,1),(1,3)),((7,2),(2,4)),((7,3),(3,6)),((8,0),(0,2)),((8,1),(1,3)),((8,2),(2,4)),((8,3),(3,6)),((13,0),(0,9)),((13,1),(1,12)),((14,0),(0,9)),((14,1),(1,12)),((18,0),(0,17)),((19,0),(0,17)),((23,0),(0,2)),((23,1),(1,3)),((24,0),(0,2)),((24,1),(1,3)),((26,0),(0,3)),((26,1),(1,4)),((26,2),(2,24)),((26,3),(4,9)),((26,4),(5,25)),((27,0),(0,3)),((27,1),(1,4)),((27,2),(2,24)),((27,3),(4,9)),((27,4),(5,25)),((35,0),(0,3)),((35,1),(1,27)),((35,2),(7,27)),((35,3),(13,4)),((35,4),(14,4)),((35,5),(15,22)),((36,0),(0,3)),((36,1),(1,27)),((36,2),(7,27)),((36,3),(13,4)),((36,4),(14,4)),((36,5),(15,22)),((40,0),(0,3)),((40,1),(1,39)),((41,0),(0,3)),((41,1),(1,39)),((52,0),(0,4)),((52,1),(1,51)),((53,0),(0,4)),((53,1),(1,51)),((54,0),(0,53)),((54,1),(2,53)),((55,0),(0,53)),((55,1),(2,53)),((89,0),(0,3)),((95,0),(0,3)),((124,0),(0,4)),((124,1),(1,122)),((152,0),(0,5)),((152,1),(1,5)),((221,0),(0,219)),((231,1),(0,228)),((231,2),(1,12)),((231,3),(2,228)),((231,4),(3,12)),((231,5),(4,229)),((233,0),(0,121))]
def Yi:List (Nat×Nat):=[(22,36),(25,27),(39,41),(51,137),(121,160),(122,160),(155,24)]
def boL:List Nat:=[4]
def stL:List Nat:=[9,10,11]
def byL:List (Nat×Nat):=[(0,0),(1,8),(2,8),(3,8),(4,1),(5,1),(6,1),(7,24),(8,24),(9,16),(10,16),(11,16),(12,8),(13,24),(14,24),(15,8),(16,8),(17,8),(18,8),(19,8),(20,16),(21,4),(22,24),(23,16),(24,16),(25,24),(26,72),(27,72),(28,8),(29,0),(30,8),(31,8),(32,0),(33,8),(34,8),(35,184),(36,184),(37,8),(38,8),(39,24),(40,32),(41,32),(42,8),(43,8),(44,8),(45,8),(46,8),(47,8),(48,8),(49,8),(50,8),(51,24),(52,32),(53,32),(54,64),(55,64),(56,8),(57,8),(58,8),(59,8),(60,8),(61,8),(62,8),(63,8),(65,8),(66,8),(70,8),(78,8),(83,0),(87,8),(89,8),(91,8),(92,8),(93,8),(95,8),(110,0),(120,8),(121,24),(122,24),(124,32),(129,8),(130,0),(134,0),(137,4),(139,8),(142,0),(146,0),(150,256),(152,2),(153,32),(155,24),(160,8),(162,8),(165,8),(168,0),(173,0),(183,0),(185,8),(188,8),(189,0),(192,0),(196,8),(197,0),(199,0),(201,0),(212,0),(219,8),(221,8),(225,0),(228,8),(229,8),(231,40),(233,24),(237,0),(324,16)]
def ikL:List (Nat×IntKind):=[(2,.i64),(3,.i64),(5,.u8),(6,.u8),(12,.u64),(21,.i32),(28,.i64),(92,.u64),(129,.i64),(137,.u32),(139,.u64),(160,.u64),(162,.u64)]
def enL:List Nat:=[3,4,5,6,7,8,9,10,11,12,13,14,15,16,17,18,19,20,21,22,23,24,25,26,28,29,30,31,32,33,34,35,36,37,40,41,42,43,44,45,46,47,48,49,50,51,52,53,54,55,56,57,58,59,60,61,62,64,65,66,67,68,69,70,71,72,73,74,75,76,77,78,79,80,81,83,84,85,86,87,88,89,90,91,92,93,94,103,104,105,106,107,108,109,110,111,112,113,114,115,116,117,118,120,121,122,123,124,125,126,127,128,129,130,131,132,133,134,135,136,142,143,144,145,146,147,148,149,150,151,152,153,154,155,156,157,158,159,161,162,163,165,166,167,168,170,171,172,173,174,175,177,179,180,181,182,183,184,185,186,187,188,189,190,191,192,193,194,195,196,197,198,200,202,203,204,205,206,208,209,212,213,214,215,216,217,218,219,220,221,222,223,224,226,227,229,240,241,242,243,244,245,246,247,248,249,250,251,252,253,254,258,268,269,270,271,272,273,274,275,276,277,280,289,291,292,293,299]
def qU{α:Type}:List (Nat×α)->Nat->Option α
 |[],_=>none|(k,a)::r,t=>bif Nat.beq t k then some a else qU r t
def lkM:List ((Nat×Nat)×(Nat×Nat))->Nat->Nat->Option (Nat×Nat)
 |[],_,_=>none|((k,j),a)::r,t,i=>bif Nat.beq t k&&Nat.beq i j then some a else lkM r t i
def Nz:List Nat->Nat->Bool
 |[],_=>false|k::r,t=>bif Nat.beq t k then true else Nz r t
def sS{α:Type}:∀{l:List (Nat×α)} {t:Nat} {a:α},qU l t=some a->(t,a)∈l
 |[],_,_,h=>by cases h
 |(k,b)::r,t,a,h=>by
  unfold qU at h;cases e:Nat.beq t k with
  |true=>rw[e,cr]at h;cases h;rw[bl e];exact bE|false=>rw[e,de]at h;exact bw _ (sS h)
def T9:∀{l:List ((Nat×Nat)×(Nat×Nat))} {t i:Nat} {a:Nat×Nat},lkM l t i=some a->((t,i),a)∈l
  |[],_,_,_,h=>by cases h
  | ((k,j),b)::r,t,i,a,h=>by
    unfold lkM at h;cases e:(Nat.beq t k&&Nat.beq i j)with
    |true=>
      rw[e,cr]at h;cases h;simp only[bI]at e;rw[bl e.1,bl e.2];exact bE
    |false=>rw[e,de]at h;exact bw _ (T9 h)
def Gy:∀{l:List Nat} {t:Nat},Nz l t=true->t∈l
 |[],_,h=>by cases h
 |k::r,t,h=>by
  unfold Nz at h;cases e:Nat.beq t k with
  |true=>rw[bl e];exact bE|false=>rw[e,de]at h;exact bw _ (Gy h)
def agB:(agL.all λp=>qY Tryz.prog p.1==some p.2)=true:=aj
def agC:(Jq.all λp=>kZ Tryz.prog p.1==some p.2)=true:=aj
def agD:(fdL.all λp=>vE Tryz.prog p.1.1 p.1.2==some p.2)=true:=aj
def uSl(d:Option TypeDesc):Option Nat:=match d with|some (.slice e)=>some e|_=>none
def uBo(d:Option TypeDesc):Bool:=match d with|some .bool=>true|_=>false
def uSt(d:Option TypeDesc):Bool:=match d with|some .string=>true|_=>false
def agE:(Yi.all λp=>uSl (Tryz.prog.underlying p.1)==some p.2)=true:=aj
def agF:(boL.all λp=>uBo (Tryz.prog.underlying p))=true:=aj
def agG:(stL.all λp=>uSt (Tryz.prog.underlying p))=true:=aj
def agH:(byL.all λp=>sF Tryz.prog p.1==some p.2)=true:=aj
def agI:(ikL.all λp=>match Rf Tryz.prog p.1 with|some k=>vH k p.2|none=>false)=true:=aj
def agJ:(enL.all λp=>nI Tryz.prog p)=true:=aj
variable{t:Nat}
def AG{b:Bool}(h:qU agL t=some b):qY Tryz.prog t=some b:=by simpa using cY.1 agB _ (sS h)
variable{n:Nat}
def SZ(h:qU Jq t=some n):kZ Tryz.prog t=some n:=by simpa using cY.1 agC _ (sS h)
def BY(h:qU byL t=some n):sF Tryz.prog t=some n:=by simpa using cY.1 agH _ (sS h)
def IK{k:IntKind}(h:qU ikL t=some k):Rf Tryz.prog t=some k:=by have h1:=cY.1 agI _ (sS h);simp only at h1;split at h1;rename_i k' e;rw[e,xD h1];cases h1
def FD{k d ft:Nat}(h:lkM fdL t k=some (d,ft)):vE Tryz.prog t k=some (d,ft):=by simpa using cY.1 agD _ (T9 h)
variable{e:Nat}
def EL(h:qU Yi t=some e):Tryz.prog.underlying t=some (.slice e):=by
 have h1:uSl (Tryz.prog.underlying t)=some e:=by simpa using cY.1 agE _ (sS h)
 unfold uSl at h1;split at h1;rename_i e' he;cases h1;exact he;cases h1
def BO(h:Nz boL t=true):Tryz.prog.underlying t=some .bool:=by have h1:=cY.1 agF _ (Gy h);unfold uBo at h1;split at h1;assumption;cases h1
def ST(h:Nz stL t=true):Tryz.prog.underlying t=some .string:=by have h1:=cY.1 agG _ (Gy h);unfold uSt at h1;split at h1;assumption;cases h1
def EN{f:Nat}(h:Nz enL f=true):nI Tryz.prog f=true:=cY.1 agJ _ (Gy h)
def Pp:List (Nat×Value):=[(1,.nilFunc),(2,.int .i64 0),(3,.int .i64 0),(4,.bool false),(5,.int .u8 0),(6,.int .u8 0),(7,.agg #[.int .i64 0,.int .i64 0,.bool false,.int .u8 0]),(8,.agg #[.int .i64 0,.int .i64 0,.bool false,.int .u8 0]),(9,.string ⟨#[]⟩),(10,.string ⟨#[]⟩),(11,.string ⟨#[]⟩),(12,.int .u64 0),(13,.agg #[.string ⟨#[]⟩,.int .u64 0]),(14,.agg #[.string ⟨#[]⟩,.int .u64 0]),(15,.pointer none),(16,.pointer none),(17,.pointer none),(18,.agg #[.pointer none]),(19,.agg #[.pointer none]),(21,.int .i32 0),(22,.slice none 0 0),(23,.agg #[.int .i64 0,.int .i64 0]),(24,.agg #[.int .i64 0,.int .i64 0]),(25,.slice none 0 0),(26,.agg #[.int .i64 0,.bool false,.int .i64 0,.int .i64 0,.string ⟨#[]⟩,.slice none 0 0]),(27,.agg #[.int .i64 0,.bool false,.int .i64 0,.int .i64 0,.string ⟨#[]⟩,.slice none 0 0]),(28,.int .i64 0),(30,.nilFunc),(31,.nilFunc),(33,.nilFunc),(34,.nilFunc),(35,.agg #[.int .i64 0,.int .i64 0,.bool false,.int .i64 0,.int .i64 0,.string ⟨#[]⟩,.slice none 0 0,.int .i64 0,.bool false,.int .i64 0,.int .i64 0,.string ⟨#[]⟩,.slice none 0 0,.bool false,.bool false,.slice none 0 0]),(36,.agg #[.int .i64 0,.int .i64 0,.bool false,.int .i64 0,.int .i64 0,.string ⟨#[]⟩,.slice none 0 0,.int .i64 0,.bool false,.int .i64 0,.int .i64 0,.string ⟨#[]⟩,.slice none 0 0,.bool false,.bool false,.slice none 0 0]),(37,.nilFunc),(38,.nilFunc),(39,.slice none 0 0),(40,.agg #[.int .i64 0,.slice none 0 0]),(41,.agg #[.int .i64 0,.slice none 0 0]),(42,.nilFunc),(43,.nilFunc),(44,.nilFunc),(45,.nilFunc),(46,.nilFunc),(47,.pointer none),(48,.nilFunc),(49,.nilFunc),(50,.nilFunc),(51,.slice none 0 0),(52,.agg #[.bool false,.slice none 0 0]),(53,.agg #[.bool false,.slice none 0 0]),(54,.agg #[.bool false,.slice none 0 0,.bool false,.slice none 0 0]),(55,.agg #[.bool false,.slice none 0 0,.bool false,.slice none 0 0]),(56,.nilFunc),(57,.nilFunc),(58,.nilFunc),(59,.nilFunc),(60,.map none),(61,.nilFunc),(62,.nilFunc),(63,.nilFunc),(65,.pointer none),(66,.map none),(70,.nilFunc),(78,.pointer none),(87,.pointer none),(89,.agg #[.int .i64 0]),(91,.pointer none),(92,.int .u64 0),(93,.pointer none),(95,.agg #[.int .i64 0]),(120,.pointer none),(121,.slice none 0 0),(122,.slice none 0 0),(124,.agg #[.bool false,.slice none 0 0]),(129,.int .i64 0),(137,.int .u32 0),(139,.int .u64 0),(152,.agg #[.int .u8 0,.int .u8 0]),(155,.slice none 0 0),(160,.int .u64 0),(162,.int .u64 0),(165,.pointer none),(185,.pointer none),(188,.pointer none),(196,.pointer none),(219,.pointer none),(221,.agg #[.pointer none]),(228,.pointer none),(229,.nilFunc),(231,.agg #[.pointer none,.int .u64 0,.pointer none,.int .u64 0,.nilFunc]),(233,.agg #[.slice none 0 0])]
def VI:List (Nat×Value)->Prop
 |[]=>True|a::r=>my Tryz.prog a.1=some a.2∧VI r
def VI.mem:∀{l:List (Nat×Value)},VI l->∀a∈l,my Tryz.prog a.1=some a.2
 |[],_,a,h=>by cases h
 |b::r,h,a,ha=>by
  rcases bN.1 ha with rfl|ha
  exact h.1;exact VI.mem h.2 a ha
def agK:VI Pp:=by repeat' first|exact trivial|refine And.intro aj ?_
def ZR{z:Value}(h:qU Pp t=some z):my Tryz.prog t=some z:=agK.mem _ (sS h)
def plL:List (Nat×List (Nat×Nat)):=[(7,[(0,1),(1,1),(2,1),(3,1)]),(8,[(0,1),(1,1),(2,1),(3,1)]),(13,[(0,1),(1,1)]),(14,[(0,1),(1,1)]),(18,[(0,1)]),(19,[(0,1)]),(23,[(0,1),(1,1)]),(24,[(0,1),(1,1)]),(26,[(0,1),(1,1),(2,2),(4,1),(5,1)]),(27,[(0,1),(1,1),(2,2),(4,1),(5,1)]),(35,[(0,1),(1,6),(7,6),(13,1),(14,1),(15,1)]),(36,[(0,1),(1,6),(7,6),(13,1),(14,1),(15,1)]),(40,[(0,1),(1,1)]),(41,[(0,1),(1,1)]),(52,[(0,1),(1,1)]),(53,[(0,1),(1,1)]),(54,[(0,2),(2,2)]),(55,[(0,2),(2,2)]),(89,[(0,1)]),(95,[(0,1)]),(124,[(0,1),(1,1)]),(152,[(0,1),(1,1)]),(221,[(0,1)]),(231,[(0,0),(0,1),(1,1),(2,1),(3,1),(4,1)]),(233,[(0,1)])]
def agM:(plL.all λp=>Cm Tryz.prog p.1==some p.2)=true:=aj
def PL{p:List (Nat×Nat)}(h:qU plL t=some p):Cm Tryz.prog t=some p:=by simpa using cY.1 agM _ (sS h)
def efL:List (Nat×List Nat):=[(23,[0,1]),(24,[0,1]),(89,[0]),(95,[0]),(152,[0,1])]
def agN:(efL.all λp=>UX Tryz.prog p.1==some p.2)=true:=aj
def EF{l:List Nat}(h:qU efL t=some l):UX Tryz.prog t=some l:=by simpa using cY.1 agN _ (sS h)
def mixed:Tryz.prog.follows .mixedOrders=true:=aj
def acu:(Pp.all λp=>p.2.cells.toList.all (·.oneCell'))=true:=aj
def tab:DF:={ag:=qU agL,sz:=qU Jq,fd:=lkM fdL,el:=qU Yi,bo:=Nz boL,st:=Nz stL,zr:=λt=>match qU Pp t with|some z=>some (z.cells.toList.map tu)|none=>none,pl:=qU plL,ef:=qU efL}
def lO:Bu Tryz.prog tab:=by refine⟨λ_ _ h=>AG h,λ_ _ h=>SZ h,λ_ _ _ _ h=>FD h,λ_ _ h=>EL h,λ_ h=>BO h,λ_ h=>ST h,λt cs h=>?_,λ_ _ h=>PL h,λ_ _ h=>EF h⟩;simp only[tab]at h;split at h;rename_i z hz;cases h;exact⟨z,ZR hz,cY.1 acu _ (sS hz),rfl⟩;cases h
section
variable{o:Go.Oper}{ρ:Go.Operand->PV}{H:PH}
def cJ{src dst:Nat}{x:Go.Operand}{ks kd k:Go.IntKind}{n:Int}(ho:o.op=.convert src dst x:=by exact rfl)(hs:qU ikL src=some ks:=by exact rfl)(hd:qU ikL dst=some kd:=by exact rfl)(hx:ρ x=.g (.int k n):=by exact rfl):PO Tryz.prog o ρ H (.g (.int kd (kd.wrap n))) H:=cI ho (IK hs) (IK hd) hx
def mG{fn:Go.Fn}{first cap:Array Go.Operand}(ho:o.op=.makeFunc fn first cap:=by exact rfl):PO Tryz.prog o ρ H (.mU fn (first.toList.map ρ) (cap.toList.map ρ)) H:=mF ho
def nD{x:Go.Operand}{p:PV}(ho:o.op=.nilCheck x:=by exact rfl)(hx:notNil (ρ x)=some p:=by exact rfl):PO Tryz.prog o ρ H p H:=nC ho hx
def bT{size:Nat}{parts:Array (Nat×Go.Operand)}{z:Go.Value}{b:Bool}{cs:List PV}{gs:List GV}(ho:o.op=.buildSlice t n parts:=by exact rfl)(he:qU Yi t=some e:=by exact rfl)(hs:qU Jq e=some size:=by exact rfl)(ha:qU agL e=some b:=by exact rfl)
  (hz:qU Pp e=some z:=by exact rfl) (uc:z.cells.toList.all (·.oneCell')=true:=by exact rfl) (sP:Nat.beq z.cells.size size=true:=by exact rfl) (jX:Nat.ble 1 size=true:=by exact rfl) (hb:(b||Nat.beq size 1)=true:=by exact rfl) (hn:Nat.ble (n*size) 16777216=true:=by exact rfl)
  (zY:q8 (λi=>some (i*size,size)) (rD z n) (sD ρ parts.toList)=some cs:=by exact rfl) (hg:yz cs=some gs:=by exact rfl):PO Tryz.prog o ρ H (av (group b size n gs)) H:=bS ho (EL he) (SZ hs) (AG ha) (ZR hz) uc sP jX hb hn zY hg
variable{f:Go.Operand}{args:Array Go.Operand}{ts:Array Nat}{ps:List PV}{v:PV}
def iV{id:Nat}(hp:ak id ps v)(ho:o.op=.call {callee:=.value f,args:=args,argTypes:=ts}:=by exact rfl)
  (hf:ρ f=.g (.raw (.func (.func id) #[] #[])):=by exact rfl) (he:Nz enL id=true:=by exact rfl) (ha:M6 ρ args.toList=ps:=by exact rfl) (hps:Rk ps=true:=by exact rfl) (hv:Gd v=true:=by exact rfl):PO Tryz.prog o ρ H v H:=cl ho hf (EN he) hp ha hps hv
end
variable{N:Nat}{Q:Go.Exit->Env->PH->Prop}{env:Env}{K0 K:List Nat}
def qxi{id:Nat}{l l':List Go.Oper}{d:Nat}{ss:List NV}{D:Go.Oper}(hb:aaX (qU Pp) (qU Jq) l=some (d,ss,D))(hl:N7 (lV d ss D l)=some l')(h0:N0 H.bx lits=some K0)(ha:DH l' env (isNil H.mu) false true K0=some K)(hk:Gn K ss=true)
  (hm:Tryz.prog.follows .mixedOrders=true) (h:ju Tryz.prog N l'.toArray K (λenv H=>Q .normal env H) l' env H) (hd:uI Tryz.prog K l'=true:=by decide+kernel):PW Tryz.prog N (.region id l.toArray true) Q env H:=RU (λ_ _ h=>ZR h) (λ_ _ h=>SZ h) false hb hl h0 ha hk hm h hd
def mO(h:A:=by first|exact cJ|exact mG|exact bT|exact nD):A:=h
def uN'{k:B}(h:B->A:=by intro k;(first|((first|refine qA ?_|refine qB ?_|refine xN ?_|refine xE ?_|refine xT ?_);try show PW _ _ _ _ _ _)|refine XR lO rfl rfl ?_|refine XT lO rfl rfl ?_|refine XU lO rfl rfl ?_|(apply oR rfl rfl;(focus exact mO))|refine xS ?_|refine xR ?_|refine xB ?_|refine xt rfl ?_|refine xf rfl ?_|fail);exact k):A:=h k
def uN{k:B}(h:B->A:=by intro k;refine' uN';(repeat refine' uN');exact k):A:=h k
def uD'{k:B}(h:B->A:=by intro k;(first|((first|refine qA ?_|refine qB ?_|refine xN ?_|refine xE ?_|refine xT ?_);try show PW _ _ _ _ _ _)|refine XR lO rfl rfl ?_|refine XT lO rfl rfl ?_|refine XU lO rfl rfl ?_|refine rd1 lO rfl rfl ?_|refine rd2 lO rfl rfl ?_|refine rd3 lO rfl rfl ?_|((first|apply oR rfl rfl|(apply dF rfl rfl rfl;intro _)|(apply dP rfl rfl rfl;intro _)|(apply dL rfl rfl rfl;intro _)|apply dC rfl rfl rfl rfl);(focus exact mO);try exact kQ)|refine xS ?_|refine xR ?_|refine qxa rfl rfl mixed ?_|refine qxb rfl rfl mixed ?_|refine qxi rfl rfl rfl rfl rfl mixed ?_|refine qxc rfl rfl mixed ?_|refine qxd rfl rfl mixed ?_|refine xB ?_|refine xt rfl ?_|refine xf rfl ?_|fail);exact k):A:=h k
def uD{k:B}(h:B->A:=by intro k;refine' uD';(repeat refine' uD');exact k):A:=h k
def uC'{k:B}(h:B->A:=by intro k;(first|((first|refine qA ?_|refine qB ?_|refine xN ?_|refine xE ?_|refine xT ?_);try show PW _ _ _ _ _ _)|refine XR lO rfl rfl ?_|refine XT lO rfl rfl ?_|refine XU lO rfl rfl ?_|refine xR ?_|refine xB ?_|refine xt rfl ?_|refine xf rfl ?_|fail);exact k):A:=h k
def uC{k:B}(h:B->A:=by intro k;refine' uC';(repeat refine' uC');exact k):A:=h k
def uE'{k:B}(h:B->A:=by intro k;(first|((first|refine qA ?_|refine qB ?_|refine xN ?_|refine xE ?_|refine xT ?_);try show PW _ _ _ _ _ _)|refine XR lO rfl rfl ?_|refine XT lO rfl rfl ?_|refine XU lO rfl rfl ?_|refine rd1 lO rfl rfl ?_|refine rd2 lO rfl rfl ?_|refine rd3 lO rfl rfl ?_|refine xS ?_|refine xR ?_|refine qxa rfl rfl mixed ?_|refine qxb rfl rfl mixed ?_|refine qxi rfl rfl rfl rfl rfl mixed ?_|refine qxc rfl rfl mixed ?_|refine qxd rfl rfl mixed ?_|refine xB ?_|refine xt rfl ?_|refine xf rfl ?_|fail);exact k):A:=h k
def uE{k:B}(h:B->A:=by intro k;refine' uE';(repeat refine' uE');exact k):A:=h k
def wa'{k:B}(h:B->A:=by intro k;(first|((first|refine qA ?_|refine qB ?_|refine xN ?_|refine xE ?_|refine xT ?_);try show PW _ _ _ _ _ _)|refine XR lO rfl rfl ?_|refine XT lO rfl rfl ?_|refine XU lO rfl rfl ?_|(apply oR rfl rfl;(focus exact mO))|refine xR ?_|refine xB ?_|refine xt rfl ?_|refine xf rfl ?_|fail);exact k):A:=h k
def wa{k:B}(h:B->A:=by intro k;refine' wa';(repeat refine' wa');exact k):A:=h k
def wb'{k:B}(h:B->A:=by intro k;(first|((first|refine qA ?_|refine qB ?_|refine xN ?_|refine xE ?_|refine xT ?_);try show PW _ _ _ _ _ _)|refine XR lO rfl rfl ?_|refine XT lO rfl rfl ?_|refine XU lO rfl rfl ?_|refine rd1 lO rfl rfl ?_|refine rd2 lO rfl rfl ?_|refine rd3 lO rfl rfl ?_|((first|apply oR rfl rfl|(apply dF rfl rfl rfl;intro _)|(apply dP rfl rfl rfl;intro _)|(apply dL rfl rfl rfl;intro _)|apply dC rfl rfl rfl rfl);(focus exact mO);try exact kQ)|refine xR ?_|refine qxa rfl rfl mixed ?_|refine qxb rfl rfl mixed ?_|refine qxi rfl rfl rfl rfl rfl mixed ?_|refine qxc rfl rfl mixed ?_|refine qxd rfl rfl mixed ?_|refine xB ?_|refine xt rfl ?_|refine xf rfl ?_|fail);exact k):A:=h k
def wb{k:B}(h:B->A:=by intro k;refine' wb';(repeat refine' wb');exact k):A:=h k
def wc'{k:B}(h:B->A:=by intro k;(first|((first|refine qA ?_|refine qB ?_|refine xN ?_|refine xE ?_|refine xT ?_);try show PW _ _ _ _ _ _)|refine XR lO rfl rfl ?_|refine XT lO rfl rfl ?_|refine XU lO rfl rfl ?_|refine rd1 lO rfl rfl ?_|refine rd2 lO rfl rfl ?_|refine rd3 lO rfl rfl ?_|((first|apply oR rfl rfl|(apply dF rfl rfl rfl;intro _)|(apply dP rfl rfl rfl;intro _)|(apply dL rfl rfl rfl;intro _)|apply dC rfl rfl rfl rfl);(focus exact mO);try exact kQ)|refine xS ?_|refine xR ?_|refine xB ?_|refine xt rfl ?_|refine xf rfl ?_|fail);exact k):A:=h k
def wc{k:B}(h:B->A:=by intro k;refine' wc';(repeat refine' wc');exact k):A:=h k
def wd'{k:B}(h:B->A:=by intro k;(first|((first|refine qA ?_|refine qB ?_|refine xN ?_|refine xE ?_|refine xT ?_);try show PW _ _ _ _ _ _)|refine XR lO rfl rfl ?_|refine XT lO rfl rfl ?_|refine XU lO rfl rfl ?_|refine rd1 lO rfl rfl ?_|refine rd2 lO rfl rfl ?_|refine rd3 lO rfl rfl ?_|((first|apply oR rfl rfl|(apply dF rfl rfl rfl;intro _)|(apply dP rfl rfl rfl;intro _)|(apply dL rfl rfl rfl;intro _)|apply dC rfl rfl rfl rfl);(focus exact mO);try exact kQ)|refine xR ?_|refine xB ?_|refine xt rfl ?_|refine xf rfl ?_|fail);exact k):A:=h k
def wd{k:B}(h:B->A:=by intro k;refine' wd';(repeat refine' wd');exact k):A:=h k
variable{X Y:Prop}
def sQ{b:Bool}{k:b=true->X}{l:b=false->Y}(h:(b=true->X)->(b=false->Y)->A:=by intro k l;first|exact HZ rfl rfl k l|exact F9 rfl k l|exact Fx rfl rfl k l):A:=h k l
def rT{k:B}(h:B->A:=by intro k;first|exact Tc (vC vT vN) rfl k|exact OE (vC vT vN) rfl k|exact adI (vC vT vN) rfl k|exact Tc (vC (vA (AG rfl) (SZ rfl) rfl rfl (lB rfl)) vN) rfl k|exact OE (vC (vA (AG rfl) (SZ rfl) rfl rfl (lB rfl)) vN) rfl k|exact adI (vC (vA (AG rfl) (SZ rfl) rfl rfl (lB rfl)) vN) rfl k):A:=h k
def rB{Z:Prop}{k:X}{l:Y}{m:Z}(h:X->Y->Z->A:=by intro k l m;first|exact Ct wN rfl rfl rfl rfl rfl rfl rfl rfl rfl k l m rfl|exact Ct (wC vT wN) rfl rfl rfl rfl rfl rfl rfl rfl rfl k l m rfl|exact Ct (wC (vA (AG rfl) (SZ rfl) rfl rfl (lB rfl)) wN) rfl rfl rfl rfl rfl rfl rfl rfl rfl k l m rfl|exact Ct (wC vT (wC vT wN)) rfl rfl rfl rfl rfl rfl rfl rfl rfl k l m rfl|exact Ct (wC (vA (AG rfl) (SZ rfl) rfl rfl (lB rfl)) (wC vT wN)) rfl rfl rfl rfl rfl rfl rfl rfl rfl k l m rfl):A:=h k l m
def rP{Z:Prop}{k:X}{l:Y}{m:Z}(h:X->Y->Z->A:=by intro k l m;first|exact C4 (vC vT vN) rfl rfl rfl rfl rfl rfl rfl rfl rfl k l m rfl|exact C4 (vC (vA (AG rfl) (SZ rfl) rfl rfl (lB rfl)) vN) rfl rfl rfl rfl rfl rfl rfl rfl rfl k l m rfl|exact C4 (vC vT (vC vT vN)) rfl rfl rfl rfl rfl rfl rfl rfl rfl k l m rfl|exact C4 (vC (vA (AG rfl) (SZ rfl) rfl rfl (lB rfl)) (vC vT vN)) rfl rfl rfl rfl rfl rfl rfl rfl rfl k l m rfl):A:=h k l m
def rE{k:X}{l:Y}(h:X->Y->A:=by intro k l;first|exact Bx (vC vT (vC vT vN)) rfl k l|exact Bx (vC (vA (AG rfl) (SZ rfl) rfl rfl (lB rfl)) (vC vT vN)) rfl k l|exact Bx (vC vT (vC (vA (AG rfl) (SZ rfl) rfl rfl (lB rfl)) vN)) rfl k l):A:=h k l
variable{H':PH}{v:PV}
def eN{f:Nat}{fn:Go.Func}{code:Go.Code}{rs:List Go.ResultVar}{args:List PV}(hf:P.funcs[f]?=some fn){k:PW P N code (JF P rs H v H') (JG args) H}(hb:fn.body=some code:=by exact rfl)(hn:fn.ntmps=N:=by exact rfl)(vF:fn.results=rs.toArray:=by exact rfl)(hl:Nat.ble args.length N=true:=by kernel_rfl):PC P f args H v H':=YO hf hb hn vF (bz hl) k
section
variable{o:Go.Oper}{ρ:Go.Operand->PV}{H:PH}
variable{f:Go.Operand}{args:Array Go.Operand}{ts:Array Nat}{qs ps:List PV}{H0 H1:PH}{v1 v':PV}{I J L:List Nat}
def cB(ks:List Bool){id:Nat}(p:al id ps H0 v1 H1)(ho:o.op=.call {callee:=.value f,args:=args,argTypes:=ts}:=by exact rfl)(hf:ρ f=.g (.raw (.func (.func id) #[] #[])):=by exact rfl)(he:Nz enL id=true:=by exact rfl)(hq:rR (od ρ ks args.toList)=some qs:=by exact rfl)(hI:dedup [] (tU qs)=I:=by exact rfl)(hJ:Rq qs=J:=by exact rfl)(hL:dedup [] (q9 qs)=L:=by exact rfl)(hn:(Go.Pure.nodupB I&&Go.Pure.nodupB J&&Go.Pure.nodupB L)=true:=by exact rfl)(hb:tl I J L H.bx I=some H0.bx:=by exact rfl)(ht:tW H.tk J=some H0.tk:=by exact rfl)(hm:tX H.mu L=some H0.mu:=by exact rfl)(ha:pa (posOf I) (posOf J) (posOf L) qs=ps:=by exact rfl)(hv:l9 (rF (jw I H.bx.length) (jw J H.tk.length) (jw L H.mu.length) v1)=some v':=by exact rfl)(hH:w9 (back I J L H H1)=some H':=by exact rfl):PO Tryz.prog o ρ H v' H':=cb ks ho hf (EN he) p hq hI hJ hL hn hb ht hm ha hv hH
def cD(ks:List Bool){id:Nat}(p:al id ps H0 v1 H1)(ho:o.op=.call {callee:=.value f,args:=args,argTypes:=ts}:=by exact rfl)(hf:ρ f=.g (.raw (.func (.func id) #[] #[])):=by exact rfl)(he:Nz enL id=true:=by exact rfl)(hq:rR (od ρ ks args.toList)=some qs:=by exact rfl)(hI:Bk H.bx 40 (tU qs) []=I:=by exact rfl)(hJ:dedup [] (tV qs++tV (qN H.bx I))=J:=by exact rfl)(hL:dedup [] (q9 qs++q9 (qN H.bx I))=L:=by exact rfl)(hn:(Go.Pure.nodupB I&&Go.Pure.nodupB J&&Go.Pure.nodupB L)=true:=by exact rfl)(hb:tl I J L H.bx I=some H0.bx:=by exact rfl)(ht:tW H.tk J=some H0.tk:=by exact rfl)(hm:tX H.mu L=some H0.mu:=by exact rfl)(ha:pa (posOf I) (posOf J) (posOf L) qs=ps:=by exact rfl)(hv:l9 (rF (jw I H.bx.length) (jw J H.tk.length) (jw L H.mu.length) v1)=some v':=by exact rfl)(hH:w9 (back I J L H H1)=some H':=by exact rfl):PO Tryz.prog o ρ H v' H':=cd ks ho hf (EN he) p hq hI hJ hL hn hb ht hm ha hv hH
variable{first cap:List PV}
def cK(ks:List Bool){id:Nat}(p:al id ps H0 v1 H1)(ho:o.op=.call {callee:=.value f,args:=args,argTypes:=ts}:=by exact rfl)(hf:ρ f=.mU (.func id) first cap:=by exact rfl)(he:Nz enL id=true:=by exact rfl)(hq:rR (first++od ρ ks args.toList++cap)=some qs:=by exact rfl)(hI:dedup [] (tU qs)=I:=by exact rfl)(hJ:Rq qs=J:=by exact rfl)(hL:dedup [] (q9 qs)=L:=by exact rfl)(hn:(Go.Pure.nodupB I&&Go.Pure.nodupB J&&Go.Pure.nodupB L)=true:=by exact rfl)(hb:tl I J L H.bx I=some H0.bx:=by exact rfl)(ht:tW H.tk J=some H0.tk:=by exact rfl)(hm:tX H.mu L=some H0.mu:=by exact rfl)(ha:pa (posOf I) (posOf J) (posOf L) qs=ps:=by exact rfl)(hv:l9 (rF (jw I H.bx.length) (jw J H.tk.length) (jw L H.mu.length) v1)=some v':=by exact rfl)(hH:w9 (back I J L H H1)=some H':=by exact rfl):PO Tryz.prog o ρ H v' H':=ck ks ho hf (EN he) p hq hI hJ hL hn hb ht hm ha hv hH
def cM(ks:List Bool){id:Nat}(p:al id ps H0 v1 H1)(ho:o.op=.call {callee:=.value f,args:=args,argTypes:=ts}:=by exact rfl)(hf:ρ f=.mU (.func id) first cap:=by exact rfl)(he:Nz enL id=true:=by exact rfl)(hq:rR (first++od ρ ks args.toList++cap)=some qs:=by exact rfl)(hI:Bk H.bx 40 (tU qs) []=I:=by exact rfl)(hJ:dedup [] (tV qs++tV (qN H.bx I))=J:=by exact rfl)(hL:dedup [] (q9 qs++q9 (qN H.bx I))=L:=by exact rfl)(hn:(Go.Pure.nodupB I&&Go.Pure.nodupB J&&Go.Pure.nodupB L)=true:=by exact rfl)(hb:tl I J L H.bx I=some H0.bx:=by exact rfl)(ht:tW H.tk J=some H0.tk:=by exact rfl)(hm:tX H.mu L=some H0.mu:=by exact rfl)(ha:pa (posOf I) (posOf J) (posOf L) qs=ps:=by exact rfl)(hv:l9 (rF (jw I H.bx.length) (jw J H.tk.length) (jw L H.mu.length) v1)=some v':=by exact rfl)(hH:w9 (back I J L H H1)=some H':=by exact rfl):PO Tryz.prog o ρ H v' H':=cm ks ho hf (EN he) p hq hI hJ hL hn hb ht hm ha hv hH
variable{y:Go.Operand}{es:List GV}{i:Int}
def jA{x:Go.Operand}{k:Go.IntKind}{g:GV}(ho:o.op=.indexAddr t x y:=by exact rfl)(he:qU Yi t=some e:=by exact rfl)(hn:qU Jq e=some n:=by exact rfl)(hs:elems (ρ x)=some es:=by exact rfl)(hi:ρ y=.g (.int k i):=by exact rfl)(z:0<=i:=by first|exact br _|decide|fail)(q:es[i.toNat]?=some g)(hc:g.cells.length=n:=by exact rfl):PO Tryz.prog o ρ H (.pat g.cells) H:=iA ho (EL he) (SZ hn) hs hi z q hc
def jB{x:Go.Operand}{k:Go.IntKind}{g:GV}(ho:o.op=.indexAddr t x y:=by exact rfl)(he:qU Yi t=some e:=by exact rfl)(hn:qU Jq e=some n:=by exact rfl)(hs:elems (ρ x)=some es:=by exact rfl)(hi:ρ y=.g (.int k i):=by exact rfl)(z:0<=i:=by first|exact br _|decide|fail)(q:es[i.toNat]?=some g:=by exact rfl)(hc:g.cells.length=n:=by exact rfl):PO Tryz.prog o ρ H (.pat g.cells) H:=iA ho (EL he) (SZ hn) hs hi z q hc
variable{off len:Nat}
def jL{x:Go.Operand}{id cap:Nat}(ho:o.op=.call {callee:=.builtin .len,args:= #[x],argTypes:= #[t]}:=by exact rfl)(he:qU Yi t=some e:=by exact rfl)(hx:ρ x=.vw id n off len cap:=by exact rfl):PO Tryz.prog o ρ H (aq len) H:=ab5 ho (EL he) hx
variable{u:Nat}
def jR{x:Go.Operand}{k:Go.IntKind}{a b:Int}(ho:o.op=.binOp .rem t x y u:=by exact rfl)(ha:ρ x=.g (.int k a):=by exact rfl)(hb:ρ y=.g (.int k b):=by exact rfl)(h0:b≠0:=by decide):PO Tryz.prog o ρ H (.g (.int k (a.tmod b))) H:=Dt ho ha hb h0
variable{k':Go.IntKind}
def jH{x:Go.Operand}{k:Go.IntKind}{a b:Int}(ho:o.op=.binOp .shr t x y u:=by exact rfl)(ha:ρ x=.g (.int k a):=by exact rfl)(hb:ρ y=.g (.int k' b):=by exact rfl)(h0:0<=b:=by decide):PO Tryz.prog o ρ H (.g (.int k (a.fdiv (2^min b.toNat k.bits)))) H:=pP ho ha hb h0
def jG{x:Go.Operand}{k:Go.IntKind}{a b:Int}(ho:o.op=.binOp .shl t x y u:=by exact rfl)(ha:ρ x=.g (.int k a):=by exact rfl)(hb:ρ y=.g (.int k' b):=by exact rfl)(h0:0<=b:=by decide):PO Tryz.prog o ρ H (.g (.int k (k.wrap (a*2^min b.toNat k.bits)))) H:=nW ho ha hb h0
variable{x':GV}
def jM{id i:Nat}{x:Go.Operand}{g:GV}(ho:o.op=.load t x:=by exact rfl)(h1:qU agL t=some false:=by exact rfl)(hp:ρ x=.kE id n i off:=by exact rfl)(hm:H.mu[id]?=some (.arr n e es):=by exact rfl)(q:es[i]?=some x')(hg:x'.cells[off]?=some g:=by exact rfl):PO Tryz.prog o ρ H (.g g) H:=yw ho (AG h1) hp hm q hg
def jS{id i m:Nat}{x:Go.Operand}{cs:List GV}(ho:o.op=.store t x y:=by exact rfl)(hs:qU Jq t=some m:=by exact rfl)(hp:ρ x=.kE id n i off:=by exact rfl)(hc:kc (ρ y)=some ps:=by exact rfl)(hg:yz ps=some cs:=by exact rfl)(hn:cs.length=m:=by exact rfl)(h0:0<m:=by decide)(hm:H.mu[id]?=some (.arr n e es):=by exact rfl)(q:es[i]?=some x')(hf:off+m<=x'.cells.length:=by exact aZ _):PO Tryz.prog o ρ H mW ⟨H.bx,H.tk,H.mu.set id (.arr n e (es.set i (setCells x' off cs)))⟩:=iP ho (SZ hs) hp hc hg hn h0 hm q hf
def jV(i:Nat){x:Go.Operand}{id cap:Nat}{k:Go.IntKind}{w:Int}(ho:o.op=.indexAddr t x y:=by exact rfl)(he:qU Yi t=some e:=by exact rfl)(hs:qU Jq e=some 1:=by exact rfl)(hx:ρ x=.vw id n off len cap:=by exact rfl)(hi:ρ y=.g (.int k w):=by exact rfl)(z:w=i:=by exact rfl)(l:i<len:=by first|omega|decide|fail):PO Tryz.prog o ρ H (.kE id n (off+i) 0) H:=Kp i ho (EL he) (SZ hs) hx hi z l
end
def VV(_:PV)(_:PH):Prop:=True
variable{all:Array Go.Oper}{Z:Env->PH->Prop}{op:Go.Op}{pos:String}{qG:Array Go.Edge}{rest:List Go.Oper}
def dF'{d:Option Go.Tmp}{ty:Nat}{g:Option (Nat×Bool)}(_:VV v H)(hg:gd all ⟨d,op,ty,pos,qG,g⟩ env=some true)(hd:tf N d=true)(hk:oV P op=0)(h:∀{H1},PO P ⟨d,op,ty,pos,qG,g⟩ env.eval H1 v H1)(k:ju P N all K Z rest (qE env d v) H):ju P N all K Z (⟨d,op,ty,pos,qG,g⟩::rest) env H:=dF hg hd hk (λ_=>h) k
def kq(h:A:=by first|exact trivial|exact kQ|fail):A:=h
def oR'{d:Option Go.Tmp}{ty:Nat}{g:Option (Nat×Bool)}(_:VV v H')(hg:gd all ⟨d,op,ty,pos,qG,g⟩ env=some true)(hd:tf N d=true)(h:PO P ⟨d,op,ty,pos,qG,g⟩ env.eval H v H')(k:jQ P N all Z rest (qE env d v) H'):jQ P N all Z (⟨d,op,ty,pos,qG,g⟩::rest) env H:=oR hg hd h k
def dC'{d:Option Go.Tmp}{ty:Nat}{g:Option (Nat×Bool)}(_:VV v H')(hg:gd all ⟨d,op,ty,pos,qG,g⟩ env=some true)(hd:tf N d=true)(hk:oV P op=2)(hf:JL K ⟨d,op,ty,pos,qG,g⟩=true)(h:PO P ⟨d,op,ty,pos,qG,g⟩ env.eval H v H')(hq:pR K H H')(k:ju P N all K Z rest (qE env d v) H'):ju P N all K Z (⟨d,op,ty,pos,qG,g⟩::rest) env H:=dC hg hd hk hf h hq k
def oQ{d:Option Go.Tmp}{ty:Nat}{g:Option (Nat×Bool)}(h:PO P ⟨d,op,ty,pos,qG,g⟩ env.eval H v H')(k:jQ P N all Z rest (qE env d v) H')(hg:gd all ⟨d,op,ty,pos,qG,g⟩ env=some true:=by exact rfl)(hd:tf N d=true:=by exact rfl):jQ P N all Z (⟨d,op,ty,pos,qG,g⟩::rest) env H:=oR hg hd h k
def oX{Q:Prop}{r:A}{q:Q}{k:B}{v:PV}{H':PH}(h:VV v H'->A->Q->B->C:=by intro e r q k;first|exact oR' e rfl rfl r k|exact dF' e rfl rfl rfl r k|exact dP' e rfl rfl rfl r k|exact dL' e rfl rfl rfl r k|exact dC' e rfl rfl rfl rfl r q k|fail)(t:Q->True:=by first|exact(λh:True=>h)|exact λ_=>trivial|fail):C:=h trivial r q k
def we(r:R){k:B}(h:R->B->A:=by intro r k;(first|refine' uN|refine oQ (iV r) ?_|refine oQ (cB [] r) ?_|refine oQ (cD [] r) ?_|refine oQ (cK [] r) ?_|refine oQ (cM [] r) ?_|fail);(repeat(first|refine' uN|refine oQ (iV r) ?_|refine oQ (cB [] r) ?_|refine oQ (cD [] r) ?_|refine oQ (cK [] r) ?_|refine oQ (cM [] r) ?_|fail));exact k):A:=h r k
variable{S:Prop}
def wf(r:R)(r1:S){k:B}(h:R->S->B->A:=by intro r r1 k;(first|refine' uN|refine oQ (iV r) ?_|refine oQ (iV r1) ?_|refine oQ (cB [] r) ?_|refine oQ (cB [] r1) ?_|refine oQ (cD [] r) ?_|refine oQ (cD [] r1) ?_|refine oQ (cK [] r) ?_|refine oQ (cK [] r1) ?_|refine oQ (cM [] r) ?_|refine oQ (cM [] r1) ?_|fail);(repeat(first|refine' uN|refine oQ (iV r) ?_|refine oQ (iV r1) ?_|refine oQ (cB [] r) ?_|refine oQ (cB [] r1) ?_|refine oQ (cD [] r) ?_|refine oQ (cD [] r1) ?_|refine oQ (cK [] r) ?_|refine oQ (cK [] r1) ?_|refine oQ (cM [] r) ?_|refine oQ (cM [] r1) ?_|fail));exact k):A:=h r r1 k
variable{T:Prop}
def wg(r:R)(r1:S)(r2:T){k:B}(h:R->S->T->B->A:=by intro r r1 r2 k;(first|refine' uN|refine oQ (iV r) ?_|refine oQ (iV r1) ?_|refine oQ (iV r2) ?_|refine oQ (cB [] r) ?_|refine oQ (cB [] r1) ?_|refine oQ (cB [] r2) ?_|refine oQ (cD [] r) ?_|refine oQ (cD [] r1) ?_|refine oQ (cD [] r2) ?_|refine oQ (cK [] r) ?_|refine oQ (cK [] r1) ?_|refine oQ (cK [] r2) ?_|refine oQ (cM [] r) ?_|refine oQ (cM [] r1) ?_|refine oQ (cM [] r2) ?_|fail);(repeat(first|refine' uN|refine oQ (iV r) ?_|refine oQ (iV r1) ?_|refine oQ (iV r2) ?_|refine oQ (cB [] r) ?_|refine oQ (cB [] r1) ?_|refine oQ (cB [] r2) ?_|refine oQ (cD [] r) ?_|refine oQ (cD [] r1) ?_|refine oQ (cD [] r2) ?_|refine oQ (cK [] r) ?_|refine oQ (cK [] r1) ?_|refine oQ (cK [] r2) ?_|refine oQ (cM [] r) ?_|refine oQ (cM [] r1) ?_|refine oQ (cM [] r2) ?_|fail));exact k):A:=h r r1 r2 k
def wk(r:R){k:B}(h:R->B->A:=by intro r k;(first|refine' uN|refine oQ (iV r) ?_|fail);(repeat(first|refine' uN|refine oQ (iV r) ?_|fail));exact k):A:=h r k
def wl(r:R)(r1:S){k:B}(h:R->S->B->A:=by intro r r1 k;(first|refine' uN|refine oQ (iV r) ?_|refine oQ (iV r1) ?_|fail);(repeat(first|refine' uN|refine oQ (iV r) ?_|refine oQ (iV r1) ?_|fail));exact k):A:=h r r1 k
def wm(r:R)(r1:S)(r2:T){k:B}(h:R->S->T->B->A:=by intro r r1 r2 k;(first|refine' uN|refine oQ (iV r) ?_|refine oQ (iV r1) ?_|refine oQ (iV r2) ?_|fail);(repeat(first|refine' uN|refine oQ (iV r) ?_|refine oQ (iV r1) ?_|refine oQ (iV r2) ?_|fail));exact k):A:=h r r1 r2 k
def wh(r:R){k:B}(h:R->B->A:=by intro r k;(first|refine' uD|(refine' oX;(first|exact iV r|exact cB [] r|exact cD [] r|exact cK [] r|exact cM [] r|fail);exact kq)|fail);(repeat(first|refine' uD|(refine' oX;(first|exact iV r|exact cB [] r|exact cD [] r|exact cK [] r|exact cM [] r|fail);exact kq)|fail));exact k):A:=h r k
def wi(r:R)(r1:S){k:B}(h:R->S->B->A:=by intro r r1 k;(first|refine' uD|(refine' oX;(first|exact iV r|exact iV r1|exact cB [] r|exact cB [] r1|exact cD [] r|exact cD [] r1|exact cK [] r|exact cK [] r1|exact cM [] r|exact cM [] r1|fail);exact kq)|fail);(repeat(first|refine' uD|(refine' oX;(first|exact iV r|exact iV r1|exact cB [] r|exact cB [] r1|exact cD [] r|exact cD [] r1|exact cK [] r|exact cK [] r1|exact cM [] r|exact cM [] r1|fail);exact kq)|fail));exact k):A:=h r r1 k
def wj(r:R)(r1:S)(r2:T){k:B}(h:R->S->T->B->A:=by intro r r1 r2 k;(first|refine' uD|(refine' oX;(first|exact iV r|exact iV r1|exact iV r2|exact cB [] r|exact cB [] r1|exact cB [] r2|exact cD [] r|exact cD [] r1|exact cD [] r2|exact cK [] r|exact cK [] r1|exact cK [] r2|exact cM [] r|exact cM [] r1|exact cM [] r2|fail);exact kq)|fail);(repeat(first|refine' uD|(refine' oX;(first|exact iV r|exact iV r1|exact iV r2|exact cB [] r|exact cB [] r1|exact cB [] r2|exact cD [] r|exact cD [] r1|exact cD [] r2|exact cK [] r|exact cK [] r1|exact cK [] r2|exact cM [] r|exact cM [] r1|exact cM [] r2|fail);exact kq)|fail));exact k):A:=h r r1 r2 k
def wn(r:R){k:B}(h:R->B->A:=by intro r k;(first|refine' uD|(refine' oX;(first|exact iV r|fail);exact kq)|fail);(repeat(first|refine' uD|(refine' oX;(first|exact iV r|fail);exact kq)|fail));exact k):A:=h r k
def wo(r:R)(r1:S){k:B}(h:R->S->B->A:=by intro r r1 k;(first|refine' uD|(refine' oX;(first|exact iV r|exact iV r1|fail);exact kq)|fail);(repeat(first|refine' uD|(refine' oX;(first|exact iV r|exact iV r1|fail);exact kq)|fail));exact k):A:=h r r1 k
def wt(r:R)(r1:S)(r2:T){k:B}(h:R->S->T->B->A:=by intro r r1 r2 k;(first|refine' uD|(refine' oX;(first|exact iV r|exact iV r1|exact iV r2|fail);exact kq)|fail);(repeat(first|refine' uD|(refine' oX;(first|exact iV r|exact iV r1|exact iV r2|fail);exact kq)|fail));exact k):A:=h r r1 r2 k
def KK(_:List Nat):Prop:=True
def xK'{id:Nat}{l:List Go.Oper}(_:KK K0)(calls tx:Bool)(ha:DH l env (isNil H.mu) calls tx K0=some K)(hm:P.follows .mixedOrders=true)(hd:uI P K l=true)(h:ju P N l.toArray K (λenv H=>Q .normal env H) l env H):PW P N (.region id l.toArray true) Q env H:=xK calls tx K0 ha hm hd h
def xW(K:List Nat){k:B}(h:KK K->B->A:=by intro e k;first|exact xK' e false false rfl mixed aQ k|exact xK' e false true rfl mixed aQ k|exact xK' e true false rfl mixed aQ k|exact xK' e true true rfl mixed aQ k|fail):A:=h trivial k
def sN{b:Bool}{k:b=true->X}{l:b=false->Y}(h:(b=true->X)->(b=false->Y)->A:=by intro k l;first|exact HZ rfl rfl k l|exact F9 rfl k l|exact Fx rfl rfl k l|fail)(c:b=b:=by(fail_if_success (first|exact(Eq.refl true)|exact(Eq.refl false)|fail));exact rfl):A:=h k l
end Go.Proofs.YtckjndkmmfmjjaaGreatDoor