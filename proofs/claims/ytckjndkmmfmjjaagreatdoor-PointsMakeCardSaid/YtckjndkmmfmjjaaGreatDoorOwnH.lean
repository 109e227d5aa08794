/- Steps to pointsMake_card. -/
import Derived.Test.YtckjndkmmfmjjaaGreatDoorOwnG
import Derived.Test.YtckjndkmmfmjjaaGreatDoorPureE
set_option linter.all false
open Go.IntKind (i64 u64)
open Go.Proofs.Tryz
set_option maxRecDepth 100000
set_option maxHeartbeats 32000000
namespace Go.Proofs.YtckjndkmmfmjjaaGreatDoor
open Go Go.Pure
attribute [local irreducible] PW jQ ju PO PC lS
def vW(n L j:Nat):Nat:=n/2^(L-1-j)
def AZ(n L j:Nat):Nat:=n*2^(65-L+j)%WB
def afa(n:Nat):Bool:=
 let L:=Lib.bitLen n
 L<=8&&2<=L&&vW n L 0==1&&vW n L (L-1)==n&&AZ n L 0==n*2^(65-L)%WB&&
  (List.range (L-1)).all λj=>vW n L j<=127&&AZ n L (j+1)==AZ n L j*2%WB&&(if AZ n L j &&& 9223372036854775808=0 then vW n L (j+1)==2*vW n L j else vW n L (j+1)==2*vW n L j+1)
def ZD:(List.range 256).all (λn=>n<2||afa n)=true:=by decide+kernel
variable{n:Nat}
def acE(h2:2<=n)(h:n<256):afa n=true:=by
 have:=cY.1 ZD n (fR.2 h);simp only[gT,cX]at this;rcases this with h|h
 omega;exact h
def acF{e:Nat}(h:e<=127):(iF (10^e)).length<12:=by
 have h1:10^e<=10^127:=cf af h;have h2:(10:Nat)^127<WB^11:=by decide+kernel
 have:=iU (bO h1 h2);omega
def GB(m:Nat):u64.wrap (m:Int)=((m%WB:Nat):Int):=by simp only[IntKind.wrap,IntKind.signed,IntKind.bits,dN,dB,en];unfold WB;omega
def acG{v:Nat}(h:v<WB):u64.wrap (((BitVec.ofInt u64.bits (v:Int) &&& BitVec.ofInt u64.bits 9223372036854775808).toNat:Nat):Int)=((v &&& 9223372036854775808:Nat):Int):=by have h':v<2^64:=h;refine jz ?_ (bO Nat.and_le_left h);show(((BitVec.ofInt 64 (v:Int) &&& BitVec.ofInt 64 ((9223372036854775808:Nat):Int)).toNat:Nat):Int)=_;rw[dn,dn,iu,dD,dD,bn h']
def VO(h2:2<=n)(h:n<256):Lib.bitLen n<=8∧2<=Lib.bitLen n∧vW n (Lib.bitLen n) 0=1∧vW n (Lib.bitLen n) (Lib.bitLen n-1)=n∧AZ n (Lib.bitLen n) 0=n*2^(65-Lib.bitLen n)%WB∧
  ∀j,j<Lib.bitLen n-1->vW n (Lib.bitLen n) j<=127∧AZ n (Lib.bitLen n) (j+1)=AZ n (Lib.bitLen n) j*2%WB∧
   ((AZ n (Lib.bitLen n) j &&& 9223372036854775808=0->vW n (Lib.bitLen n) (j+1)=2*vW n (Lib.bitLen n) j)∧(AZ n (Lib.bitLen n) j &&& 9223372036854775808≠0->vW n (Lib.bitLen n) (j+1)=2*vW n (Lib.bitLen n) j+1)):=by
 have h3:=acE h2 h;unfold afa at h3;simp only[bI,cX,bQ,cY,fR]at h3;obtain⟨⟨⟨⟨⟨a1,a2⟩,a3⟩,a4⟩,a5⟩,a6⟩:=h3;refine⟨a1,a2,a3,a4,a5,λj hj=>?_⟩;obtain⟨⟨b1,b2⟩,b3⟩:=a6 j hj;refine⟨b1,b2,λh=>?_,λh=>?_⟩;rw[aW h]at b3;simpa using b3;rw[aV h]at b3;simpa using b3
structure XS where
 j:Nat
 gz:Nat
 cz:Nat
 wz:List Nat
 zz:Option (Nat×Nat×Nat×List Nat)
def zzP:Option (Nat×Nat×Nat×List Nat)->PV
 |none=>.iM|some (g,l,c,_)=>.vw 1 g 0 l c
def zzM:Option (Nat×Nat×Nat×List Nat)->List MO
 |none=>[]|some (g,_,_,w)=>[AR g w]
def ZE(h2:2<=n)(hn:n<256):ak 194 [.iM,.jx,av (iG [10]),av (iG [n]),av [],ax false] (av (iG (iF (10^n)))):=by
 have Lo:=rJ (p:= av (iG [10]));have Lp:=rJ (p:= av (iG [n]));have MV:=FV;obtain⟨hL8,D5,hA0,hAn,hV0,hrd⟩:=VO h2 hn;have hL:Lib.bitLen n<=64:=ab
 have Ue:u64.wrap (((64-Lib.bitLen n:Nat):Int)+1)=((65-Lib.bitLen n:Nat):Int):=by rw[jz (n:=65-Lib.bitLen n) ab aL]
 have ox:u64.wrap ((n:Int)*2^min (u64.wrap (((64-Lib.bitLen n:Nat):Int)+1)).toNat u64.bits)=(AZ n (Lib.bitLen n) 0:Int):=by rw[Ue,hV0,da,ec (by show 65-Lib.bitLen n<=64;omega),<-GB];congr 1
 have nn:i64.wrap (64-i64.wrap (u64.wrap (((64-Lib.bitLen n:Nat):Int)+1)))=((Lib.bitLen n-1:Nat):Int):=by rw[Ue,show i64.wrap ((65-Lib.bitLen n:Nat):Int)=((65-Lib.bitLen n:Nat):Int)from jD ab,jD ab];omega
 have OY:iF (10^vW n (Lib.bitLen n) 0)=[10]:=by rw[hA0];exact jC af af
 have aiD:=Ll (x:=n) aL hL;generalize Lib.bitLen n=L at *
 refine qO func194 rfl rfl (rs:=_) rfl (bz aj) ?_;repeat((repeat refine tz ?_);first|refine ot rfl ?_|refine pb rfl ?_|refine sR ?_|(refine qt ?_;(repeat' first|refine' uN|refine oQ (jB (g:=wG 10)) ?_|refine oQ (jB (g:=wG n)) ?_|refine oQ (cB [true] Lo) ?_|refine oQ (cB [true] Lp) ?_|refine oQ (iV MV) ?_|refine oQ (cB [] MV) ?_|refine oQ (z8 rfl underlying185 rfl rfl) ?_|refine' sN<;>intro h|fail);(all_goals(try(exfalso;have hh:=bQ.1 h;omega)));refine Or.inl (And.intro rfl ?_)))
 refine C5 (l:=[_]) rfl rfl rfl (by intro t h;cases h) ?_;(try refine' uN);refine⟨_,rfl,?_⟩;refine qt ?_;(repeat' first|refine' wa|refine oQ (jB (g:=wG n)) ?_|refine xU [27] rfl ?_|refine' sN<;>intro h|fail);all_goals(try(exfalso;have hh:=bQ.1 h;omega))
 clear h;have lG:=Bn (xs:=[10]) af af;(repeat first|refine' uN|refine oQ (cD [true] lG) ?_|refine oQ (jB (g:=wG n) (z:=show(0:Int)<=i64.wrap (((1:Nat):Int)-1) by decide)) ?_|refine oQ (iV aiD) ?_|refine oQ (kg (nW rfl rfl rfl (by rw[Ue];exact br _)) (aT ar ox)) ?_);refine jf (S:=XS) (λs=>iL [(0,.vw 0 s.gz 0 (iF (10^vW n L s.j)).length s.cz),(2,av (iG [10])),(3,av (iG [n])),(4,av []),(15,.g (wG (AZ n L s.j))),(18,aq ((L-1:Nat):Int)),(19,zzP s.zz),(21,aq (s.j:Int))])
  (λs=>⟨[[.jx]],[],AR s.gz s.wz::zzM s.zz⟩)
  (λs=>s.j<=L-1∧pH s.wz s.cz (10^vW n L s.j)∧(∀g l c w,s.zz=some (g,l,c,w)->QX w c)∧(s.zz=none->s.j=0)) (λs=>L-1-s.j) ⟨0,0,1,[10],none⟩ ⟨?_,?_,?_,?_⟩
  (iE.le ?_) (kW.of_eq ?_) (λs hs=>?_)
 exact bm _;show pH [10] 1 (10^vW n L 0);refine⟨?_,?_,?_,?_,?_,?_⟩;intro w hw;simp at hw;subst hw;decide;rw[OY];rfl;rw[OY];exact aZ _;decide;decide;decide;intro _ _ _ _ h;cases h;intro _;rfl;refine⟨.inl ?_,.inl rfl,.inl rfl,.inl rfl,.inl rfl,.inl (aT aq nn),.inl rfl,.inl rfl,trivial⟩;rw[OY];rfl;rfl;obtain⟨j,gz,cz,wz,zz⟩:=s;obtain⟨hj,hz,hr,h0⟩:=hs;simp only at hj hz hr h0;clear Lo Lp MV lG aiD ox Ue nn;by_cases oY:j=L-1
 ·subst oY;rw[hAn]at hz⊢;have hd:decide (((L-1:Nat):Int)<((L-1:Nat):Int))=false:=bA ab;cases zz with
  |none=>exfalso;have:=h0 rfl;omega
  |some q=>
   obtain⟨gzz,lzz,czz,wzz⟩:=q;(repeat' first|refine' wa|refine xU [46] rfl ?_|refine' sN<;>intro h|fail);exfalso;have hh:=aU h;dsimp only at hh;omega;clear h;have hlen:=b8 hz.le hz.cm;have nT:=hz.part;have hnd:mL (iF (10^n))=(iF (10^n)).length:=(by have:=zQ (ji (10^n));rw[jm]at this;exact this.symm);have I9:=mH (g:=gz) (o:=0) (n:=(iF (10^n)).length) (cap:=cz) (ws:=wz) (l:=iF (10^n)) nT (by have:=hz.le;have:=hz.cw;omega) hz.le ai;rw[hnd]at I9;have lR:((iG wz).drop 0).take (iF (10^n)).length=iG (iF (10^n)):=(by rw[dz,iG,<-gf,hz.tk];rfl);have ajX:= @ZA (gz+1) gzz wzz;generalize iF (10^n)=Z at *
   (repeat first|refine' wa|refine xU [62] rfl ?_);refine DJ ?_;(repeat first|refine' wa|refine xU [62] rfl ?_);refine nK (iL [(12,.vw 0 gz 0 Z.length cz)]) ⟨[[.jx]],[],[AR gz wz,AR gzz wzz]⟩ ?_ ?_;(try refine' we @I9);exact⟨iE.le ⟨.inl rfl,trivial⟩,aJ⟩;refine jP 0 rfl (ja (env':=iL [(12,av (iG Z))]) (H':=⟨[[.jx]],[],[.gone (gz+1),AR gzz wzz]⟩) (iE.le ⟨.inl ?_,trivial⟩) aJ ?_);show ue 0 gz (iG wz) (.vw 0 gz 0 Z.length cz)=_;simp[ue,<-lR];(try refine' uN);refine Or.inr (And.intro rfl ⟨_,EN rfl,ajX,?_⟩);refine' rB;all_goals rfl
 have yT:j<L-1:=ab
 obtain⟨hle,lI,aek,ael⟩:=hrd j yT;have Pg:10^vW n L j≠0:=ik (dt af);have hX2:10^vW n L j*10^vW n L j≠0:=iy Pg Pg;have hlen:=acF hle;generalize hX:10^vW n L j=X at *
 have Uf:u64.wrap ((AZ n L j:Int)*2^min (1:Int).toNat u64.bits)=(AZ n L (j+1):Int):=by rw[lI,show((AZ n L j:Int)*2^min (1:Int).toNat u64.bits)=((AZ n L j*2:Nat):Int) by rw[show min (1:Int).toNat u64.bits=1 from rfl];push_cast;rfl];exact GB _
 have pS:i64.wrap ((j:Int)+1)=((j+1:Nat):Int):=by rw[jD ab];omega
 have Jj:(iF (X*X)).length<=100:=by have:=oD (ji X) (ji X);rw[jm]at this;have:=iU this;omega
 have zD:=acG (v:=AZ n L j) (bL _ af);have aiF:(u64.wrap (((BitVec.ofInt u64.bits (AZ n L j:Int) &&& BitVec.ofInt u64.bits 9223372036854775808).toNat:Nat):Int) !=0)=true->10^vW n L (j+1)=X*X*10:=by
  intro h;rw[zD]at h;have:AZ n L j &&& 9223372036854775808≠0:=λe=>by rw[e]at h;simp at h
  rw[ael this,cW,Nat.two_mul,fp,hX]
 have aiG:(u64.wrap (((BitVec.ofInt u64.bits (AZ n L j:Int) &&& BitVec.ofInt u64.bits 9223372036854775808).toNat:Nat):Int) !=0)=false->10^vW n L (j+1)=X*X:=by
  intro h;rw[zD]at h;have:AZ n L j &&& 9223372036854775808=0:=by simpa using h
  rw[aek this,Nat.two_mul,fp,hX]
 clear aek ael hrd zD lI;cases zz with
 |none=>
  obtain⟨w1,c1,uc,hc⟩:=acD (g:=gz) hz Pg hlen;(repeat' first|refine' wa|refine oQ (cD [true] hc) ?_|refine xU [39] rfl ?_|refine' sN<;>intro h|fail)
  ·clear h;refine Cz 0 1 rfl rfl rfl (SZ rfl) (SZ rfl) ?_;refine ja (env':=iL [(0,.vw 0 (gz+1) 0 ((iF (X*X)).length) c1),(2,av (iG [10])),(3,av (iG [n])),(4,av []),(15,.g (wG (AZ n L j))),(18,aq ((L-1:Nat):Int)),(19,.vw 1 (0+1) 0 ((iF X).length) cz),(21,aq (j:Int))]) (H':=⟨[[.jx]],[],[AR (gz+1) w1,AR (0+1) wz]⟩) (iE.le ?_) (kW.of_eq ?_) ?_;refine⟨.inl ?_,.inl rfl,.inl rfl,.inl rfl,.inl rfl,.inl rfl,.inl ?_,.inl rfl,trivial⟩;show swp 1 (0) 0 (gz) (.vw 1 (0) 0 ((iF (X*X)).length) c1)=_;simp[swp];show swp 1 (0) 0 (gz) (.vw 0 (gz) 0 ((iF X).length) cz)=_;simp[swp,show Nat.beq 0 1=false from rfl];rfl;obtain⟨g3,w3,c3,hz3,hm⟩:=Ud (gz:=0+1) (lz:=(iF X).length) (g:=gz+1) (y:=10) (hz).room uc hX2 ab af af;(repeat' first|refine' wa|refine oQ (cD [] hm) ?_|refine xU [42,45] rfl ?_|refine' sN<;>intro h|fail);have heq:=aiF h;clear h;refine Cz 0 1 rfl rfl rfl (SZ rfl) (SZ rfl) ?_;refine ja (env':=iL [(0,.vw 0 (gz+1+1) 0 ((iF (X*X*10)).length) c3),(2,av (iG [10])),(3,av (iG [n])),(4,av []),(15,.g (wG (AZ n L j))),(18,aq ((L-1:Nat):Int)),(19,.vw 1 (g3+1) 0 ((iF (X*X)).length) c1),(21,aq (j:Int))]) (H':=⟨[[.jx]],[],[AR (gz+1+1) w3,AR (g3+1) w1]⟩) (iE.le ?_) (kW.of_eq ?_) ?_;refine⟨.inl ?_,.inl rfl,.inl rfl,.inl rfl,.inl rfl,.inl rfl,.inl ?_,.inl rfl,trivial⟩;show swp 1 (g3) 0 (gz+1) (.vw 1 (g3) 0 ((iF (X*X*10)).length) c3)=_;simp[swp];show swp 1 (g3) 0 (gz+1) (.vw 0 (gz+1) 0 ((iF (X*X)).length) c1)=_;simp[swp,show Nat.beq 0 1=false from rfl];rfl;(repeat first|refine' uN|refine oQ (kg (nW rfl rfl rfl af) (aT ar Uf)) ?_);refine⟨⟨j+1,gz+1+1,c3,w3,some (g3+1,(iF (X*X)).length,c1,w1)⟩,⟨by show j+1<=L-1;omega,?_,?_,?_⟩,?_,iE.le ?_,kW.of_eq ?_⟩;show pH _ _ (10^vW n L (j+1));rw[heq];exact hz3;intro g l c w e;cases e;exact uc.room;intro e;cases e;show L-1-(j+1)<L-1-j;omega;refine⟨.inl ?_,.inl rfl,.inl rfl,.inl rfl,.inl rfl,.inl rfl,.inl rfl,.inl ?_,trivial⟩;show _=PV.vw 0 _ 0 (iF (10^vW n L (j+1))).length _;rw[heq];rfl;exact aT aq pS;rfl;have heq:=aiG h;clear h;(repeat first|refine' uN|refine oQ (kg (nW rfl rfl rfl af) (aT ar Uf)) ?_);refine⟨⟨j+1,gz+1,c1,w1,some (0+1,(iF X).length,cz,wz)⟩,⟨by show j+1<=L-1;omega,?_,?_,?_⟩,?_,iE.le ?_,kW.of_eq ?_⟩;show pH _ _ (10^vW n L (j+1));rw[heq];exact uc;intro g l c w e;cases e;exact(hz).room;intro e;cases e;show L-1-(j+1)<L-1-j;omega;refine⟨.inl ?_,.inl rfl,.inl rfl,.inl rfl,.inl rfl,.inl rfl,.inl rfl,.inl ?_,trivial⟩;show _=PV.vw 0 _ 0 (iF (10^vW n L (j+1))).length _;rw[heq];rfl;exact aT aq pS;rfl
  exfalso;have hh:=aX h;dsimp only at hh;omega
 |some q=>
  obtain⟨gzz,lzz,czz,wzz⟩:=q;have hrr:=hr _ _ _ _ rfl;obtain⟨g1,w1,c1,uc,hc⟩:=acC (gz:=gzz) (lz:=lzz) (g:=gz) hrr hz Pg hlen;(repeat' first|refine' wa|refine oQ (cD [] hc) ?_|refine xU [39] rfl ?_|refine' sN<;>intro h|fail)
  ·clear h;refine Cz 0 1 rfl rfl rfl (SZ rfl) (SZ rfl) ?_;refine ja (env':=iL [(0,.vw 0 (gz+1) 0 ((iF (X*X)).length) c1),(2,av (iG [10])),(3,av (iG [n])),(4,av []),(15,.g (wG (AZ n L j))),(18,aq ((L-1:Nat):Int)),(19,.vw 1 (g1+1) 0 ((iF X).length) cz),(21,aq (j:Int))]) (H':=⟨[[.jx]],[],[AR (gz+1) w1,AR (g1+1) wz]⟩) (iE.le ?_) (kW.of_eq ?_) ?_;refine⟨.inl ?_,.inl rfl,.inl rfl,.inl rfl,.inl rfl,.inl rfl,.inl ?_,.inl rfl,trivial⟩;show swp 1 (g1) 0 (gz) (.vw 1 (g1) 0 ((iF (X*X)).length) c1)=_;simp[swp];show swp 1 (g1) 0 (gz) (.vw 0 (gz) 0 ((iF X).length) cz)=_;simp[swp,show Nat.beq 0 1=false from rfl];rfl;obtain⟨g3,w3,c3,hz3,hm⟩:=Ud (gz:=g1+1) (lz:=(iF X).length) (g:=gz+1) (y:=10) (hz).room uc hX2 ab af af;(repeat' first|refine' wa|refine oQ (cD [] hm) ?_|refine xU [42,45] rfl ?_|refine' sN<;>intro h|fail);have heq:=aiF h;clear h;refine Cz 0 1 rfl rfl rfl (SZ rfl) (SZ rfl) ?_;refine ja (env':=iL [(0,.vw 0 (gz+1+1) 0 ((iF (X*X*10)).length) c3),(2,av (iG [10])),(3,av (iG [n])),(4,av []),(15,.g (wG (AZ n L j))),(18,aq ((L-1:Nat):Int)),(19,.vw 1 (g3+1) 0 ((iF (X*X)).length) c1),(21,aq (j:Int))]) (H':=⟨[[.jx]],[],[AR (gz+1+1) w3,AR (g3+1) w1]⟩) (iE.le ?_) (kW.of_eq ?_) ?_;refine⟨.inl ?_,.inl rfl,.inl rfl,.inl rfl,.inl rfl,.inl rfl,.inl ?_,.inl rfl,trivial⟩;show swp 1 (g3) 0 (gz+1) (.vw 1 (g3) 0 ((iF (X*X*10)).length) c3)=_;simp[swp];show swp 1 (g3) 0 (gz+1) (.vw 0 (gz+1) 0 ((iF (X*X)).length) c1)=_;simp[swp,show Nat.beq 0 1=false from rfl];rfl;(repeat first|refine' uN|refine oQ (kg (nW rfl rfl rfl af) (aT ar Uf)) ?_);refine⟨⟨j+1,gz+1+1,c3,w3,some (g3+1,(iF (X*X)).length,c1,w1)⟩,⟨by show j+1<=L-1;omega,?_,?_,?_⟩,?_,iE.le ?_,kW.of_eq ?_⟩;show pH _ _ (10^vW n L (j+1));rw[heq];exact hz3;intro g l c w e;cases e;exact uc.room;intro e;cases e;show L-1-(j+1)<L-1-j;omega;refine⟨.inl ?_,.inl rfl,.inl rfl,.inl rfl,.inl rfl,.inl rfl,.inl rfl,.inl ?_,trivial⟩;show _=PV.vw 0 _ 0 (iF (10^vW n L (j+1))).length _;rw[heq];rfl;exact aT aq pS;rfl;have heq:=aiG h;clear h;(repeat first|refine' uN|refine oQ (kg (nW rfl rfl rfl af) (aT ar Uf)) ?_);refine⟨⟨j+1,gz+1,c1,w1,some (g1+1,(iF X).length,cz,wz)⟩,⟨by show j+1<=L-1;omega,?_,?_,?_⟩,?_,iE.le ?_,kW.of_eq ?_⟩;show pH _ _ (10^vW n L (j+1));rw[heq];exact uc;intro g l c w e;cases e;exact(hz).room;intro e;cases e;show L-1-(j+1)<L-1-j;omega;refine⟨.inl ?_,.inl rfl,.inl rfl,.inl rfl,.inl rfl,.inl rfl,.inl rfl,.inl ?_,trivial⟩;show _=PV.vw 0 _ 0 (iF (10^vW n L (j+1))).length _;rw[heq];rfl;exact aT aq pS;rfl
  exfalso;have hh:=aX h;dsimp only at hh;omega
def uZ(m:Nat):lD m=[ax false,av (iG (iF m))]:=by unfold lD;rw[bA ab,bM]
def acH:ak 194 [.iM,.jx,av (iG [10]),av [],av [],ax false] (av (iG [1])):=by have Lo:=rJ (p:= av (iG [10]));have Lp:=rJ (p:= av []);have Yn:=Iy (x:=1) af;refine' eN func194;(repeat first|refine' wa|refine oQ (cB [true] Lo) ?_|refine oQ (cB [true] Lp) ?_|refine xU [6] rfl ?_);refine nK (iL [(12,.vw 0 0 0 1 1)]) ⟨[],[],[AR 0 [1]]⟩ ?_ ?_;(repeat first|refine' uN|refine oQ (cD [true] Yn) ?_);exact⟨iE.le ⟨.inl rfl,trivial⟩,aJ⟩;refine jP 0 rfl (ja (env':=iL [(12,av (iG [1]))]) (H':=⟨[],[],[.gone (0+1)]⟩) (iE.le ⟨.inl rfl,trivial⟩) aJ ?_);(try refine' uN);refine' rB;all_goals rfl
def acI:ak 194 [.iM,.jx,av (iG [10]),av (iG [1]),av [],ax false] (av (iG [10])):=by have Lo:=rJ (p:= av (iG [10]));have Lp:=rJ (p:= av (iG [1]));have lG:=Bn (xs:=[10]) af af;refine' eN func194;(repeat first|refine' wa|refine oQ (cB [true] Lo) ?_|refine oQ (cB [true] Lp) ?_|refine oQ (jB (g:=wG 10)) ?_|refine oQ (jB (g:=wG 1)) ?_|refine xU [12] rfl ?_);refine nK (iL [(12,.vw 0 0 0 1 1)]) ⟨[],[],[AR 0 [10]]⟩ ?_ ?_;(repeat first|refine' uN|refine oQ (cD [true] lG) ?_);exact⟨iE.le ⟨.inl rfl,trivial⟩,aJ⟩;refine jP 0 rfl (ja (env':=iL [(12,av (iG [10]))]) (H':=⟨[],[],[.gone (0+1)]⟩) (iE.le ⟨.inl rfl,trivial⟩) aJ ?_);(try refine' uN);refine' rB;all_goals rfl
def VP(hn:n<256):ak 194 [.iM,.jx,av (iG [10]),av (iG (iF n)),av [],ax false] (av (iG (iF (10^n)))):=by
 rcases(by omega:n=0∨n=1∨2<=n)with h|h|h
 subst h;rw[jg,eM,jC (n:=1) af af];exact acH;subst h;rw[dT,jC (n:=1) af af,jC (n:=10) af af];exact acI;rw[jC (n:=n) ab aL];exact ZE h hn
def agY(hn:n<256):al 170 [.ptr 0 0,.ptr 1 0,.ptr 2 0,.jx,ax false] ⟨[[ax false,.iM],[ax false,av (iG [10])],[ax false,av (iG (iF n))]],[],[]⟩ (.ptr 0 0)
  ⟨[[ax false,av (iG (iF (10^n)))],[ax false,av (iG [10])],[ax false,av (iG (iF n))]],[],[]⟩:=by
 have hc:=VP hn;generalize iF (10^n)=Z at *
 generalize iF n=ys at *
 refine' eN func170;(repeat' first|refine' uD|(refine' oX;(first|exact Hs rfl underlying120 rfl rfl|exact cD [true] hc);exact kq)|refine' sN<;>intro h|fail);all_goals(refine' rB)
 all_goals rfl
def agZ(hn:n<256):al 151 [.ptr 0 0,.ptr 1 0,.ptr 2 0,.jx] ⟨[[ax false,.iM],[ax false,av (iG [10])],[ax false,av (iG (iF n))]],[],[]⟩ (.ptr 0 0)
  ⟨[[ax false,av (iG (iF (10^n)))],[ax false,av (iG [10])],[ax false,av (iG (iF n))]],[],[]⟩:=by
 have hc:=agY hn;refine' eN func151;(try refine' we @hc);refine' rB;all_goals rfl
variable{H:PH}
def Yo{f:FuncId}{a p b c v:PV}{H':PH}(h:PC Tryz.prog f [a,.any,b,c] H v H'):PC Tryz.prog f [a,p,b,c] H v H':=by
 unfold PC at h⊢;intro cx vs hr ha;refine h cx vs hr ⟨ha.1,λi q u hq hu=>?_⟩;match i,hq with
 |0,hq=>exact ha.2 0 q u hq hu|1,hq=>cases hq;exact .any u|2,hq=>exact ha.2 2 q u hq hu|3,hq=>exact ha.2 3 q u hq hu|(_+4),hq=>simp at hq
variable{X Y:Nat}{p:Bool}
def acJ{q:Bool}(hX:X≠0)(hY:Y≠0)(hm:(iG (iF X)).length<=30)(xJ:(iG (iF Y)).length<=30):al 136 [.ptr 0 0,.jx,.ptr 1 0,.ptr 2 0] ⟨[[ax false,.iM],[ax p,av (iG (iF X))],[ax q,av (iG (iF Y))]],[],[]⟩ (.tuple [])
  ⟨[[ax (p !=q),av (iG (iF (X*Y)))],[ax p,av (iG (iF X))],[ax q,av (iG (iF Y))]],[],[]⟩:=by
 have hc:=Yo (p:=.jx) (ajU hX hY hm xJ);have lR:((iG (Ah X Y)).drop 0).take (iF (X*Y)).length=iG (iF (X*Y)):=by rw[dz,iG,<-gf,Sy];rfl
 have jX:1<=(iG (iF (X*Y))).length:=jl (iy hX hY);generalize iF (X*Y)=zs at *
 generalize Ah X Y=pw at *
 generalize hA:iF X=xs at *
 generalize hB:iF Y=ys at *
 generalize(iG xs).length+(iG ys).length+4=cz at *
 refine' eN func136;(repeat first|refine' wb|(refine' oX;exact Aa rfl underlying120 (SZ rfl) (.inl rfl) rfl rfl rfl rfl;exact kq)|refine xU [3] rfl ?_);refine nK (iL [(0,.ptr 0 0),(2,.ptr 1 0),(3,.ptr 2 0)]) ⟨[[ax false,.vw 0 0 0 zs.length cz],[ax p,av (iG xs)],[ax q,av (iG ys)]],[],[AR 0 pw]⟩ ?_ ?_;(repeat first|refine' wc|(refine' oX;exact cD [true] hc;exact kq)|refine' xW [0,1,2]);exact⟨iE.le an,aJ⟩;refine jP 0 rfl (ja (env':=iL [(0,.ptr 0 0),(2,.ptr 1 0),(3,.ptr 2 0)]) (H':=⟨[[ax false,av (iG zs)],[ax p,av (iG xs)],[ax q,av (iG ys)]],[],[.gone (0+1)]⟩) (iE.le an) (kW.of_eq ?_) ?_);rw[<-lR];rfl;(repeat' first|refine' wc|refine' xW [0,1,2]|refine' sN<;>intro h|fail)
 ·refine' rB;all_goals rfl
 exfalso;have hh:=aX h;omega
def ag0{q:Bool}(h0:X=0∨Y=0):al 136 [.ptr 0 0,.jx,.ptr 1 0,.ptr 2 0] ⟨[[ax false,.iM],[ax p,av (iG (iF X))],[ax q,av (iG (iF Y))]],[],[]⟩ (.tuple [])
  ⟨[[ax false,.iM],[ax p,av (iG (iF X))],[ax q,av (iG (iF Y))]],[],[]⟩:=by
 have hc:=Yo (p:=.jx) (ajV h0);generalize hA:iF X=xs at *
 generalize hB:iF Y=ys at *
 refine' eN func136;(repeat' first|refine' wc|(refine' oX;(first|exact cD [true] hc|exact Aa rfl underlying120 (SZ rfl) (.inl rfl) rfl rfl rfl rfl);exact kq)|refine' xW [0,1,2]|refine' sN<;>intro h|fail);all_goals(refine' rB)
 all_goals rfl
def qR{x y:Int}(hx:x≠0)(hy:y≠0):decide (x*y<0)=(decide (x<0) !=decide (y<0)):=by
 rcases Int.lt_or_gt_of_ne hx with h1|h1<;>rcases Int.lt_or_gt_of_ne hy with h2|h2
 have:=Int.mul_pos_of_neg_of_neg h1 h2;rw[bA ab,bU h1,bU h2];rfl;have:=Int.mul_neg_of_neg_of_pos h1 h2;rw[bU this,bU h1,bA ab];rfl;have:=Int.mul_neg_of_pos_of_neg h1 h2;rw[bU this,bA ab,bU h2];rfl;have:=Int.mul_pos h1 h2;rw[bA ab,bA ab,bA ab];rfl
def Ls{x y:Int}(hm:(iF x.natAbs).length<=30)(xJ:(iF y.natAbs).length<=30):al 94 [.ptr 0 0,.ptr 1 0,.ptr 2 0] ⟨[[ax false,.iM],lD x,lD y],[],[]⟩ (.ptr 0 0) ⟨[lD (x*y),lD x,lD y],[],[]⟩:=by
 by_cases hx:x=0∨y=0
 ·have h0:x.natAbs=0∨y.natAbs=0:=ab
  have hp:x*y=0:=by rcases hx with h|h<;>subst h<;>simp
  have hc:=ag0 (p:=decide (x<0)) (q:=decide (y<0)) h0;have e0:lD (0:Int)=[ax false,av []]:=by unfold lD;rw[show(0:Int).natAbs=0 from rfl,jg];rfl
  rw[hp];refine PC.post (H1:=⟨[[ax false,.iM],lD x,lD y],[],[]⟩) ?_ (show kW _ _ ⟨[lD 0,lD x,lD y],[],[]⟩from by rw[e0];exact kW.DR);unfold lD;generalize iF x.natAbs=xs at *
  generalize iF y.natAbs=ys,decide (x<0)=p,decide (y<0)=q at *
  refine' eN func94;(try refine' we @hc);refine' rB;all_goals rfl
 ·have kf:x.natAbs≠0:=ab
  have pD:y.natAbs≠0:=ab
  have hc:=acJ (p:=decide (x<0)) (q:=decide (y<0)) kf pD (by rw[iK];exact hm) (by rw[iK];exact xJ);unfold lD;rw[qR ab ab,dI];generalize iF (x.natAbs*y.natAbs)=zs at *
  generalize iF x.natAbs=xs,iF y.natAbs=ys,decide (x<0)=p,decide (y<0)=q at *
  refine' eN func94;(try refine' we @hc);refine' rB;all_goals rfl
def zn(hn:n<256):al 122 [aq n] ⟨[],[],[]⟩ (.ptr 0 0) ⟨[lD (10^n:Nat)],[],[]⟩:=by
 have h1:=s9 (z:=10) af af;have h2:=s9 (z:=(n:Int)) ab ab;have h3:=agZ hn;rw[show lD (10:Int)=[ax false,av (iG [10])]from by rw[show(10:Int)=((10:Nat):Int)from rfl,uZ,jC af af]]at h1;rw[uZ]at h2⊢;have hcv:i64.wrap (n:Int)=n:=jD ab;generalize iF (10^n)=Z at *
 generalize iF n=ys at *
 refine' eN func122;(try refine' wg @h1 @h2 @h3);refine' rB;all_goals rfl
variable{s:Nat}
def uq(hs:s<=64):u64.wrap ((n:Int)*2^min ((s:Int)).toNat u64.bits)=((n*2^s%WB:Nat):Int):=by rw[da,ec (show s<=u64.bits from hs),<-GB];congr 1
def ym(hs:s<=64):((n:Int)).fdiv (2^min ((s:Int)).toNat u64.bits)=((n/2^s:Nat):Int):=by rw[da,ec (show s<=u64.bits from hs),show((2:Int)^s)=((2^s:Nat):Int) by push_cast;rfl,fM _ (br _)];rfl
variable{a b:Nat}
def Yp(h:b<2^s)(lr:a*2^s+b<WB):u64.wrap (((BitVec.ofInt u64.bits ((a*2^s:Nat):Int) ||| BitVec.ofInt u64.bits (b:Int)).toNat:Nat):Int)=((a*2^s+b:Nat):Int):=by
 have e:(((BitVec.ofInt 64 ((a*2^s:Nat):Int) ||| BitVec.ofInt 64 (b:Int)).toNat:Nat):Int)=((a*2^s+b:Nat):Int):=by rw[dn,dn,iz,dD,dD,bn (show a*2^s<2^64 by have:WB=2^64:=Yf;omega),bn (show b<2^64 by have:WB=2^64:=Yf;omega),<-iv,Nat.shiftLeft_add_eq_or_of_lt h]
 exact jz e lr
def Ug(h:b<=a)(ha:a<WB):u64.wrap ((a:Int)-(b:Int))=((a-b:Nat):Int):=jz ab ab
variable{x0 y:Nat}
def HF{x1:Nat}(h0:y≠0)(hy:y<WB)(kf:x1<y)(sJ:x0<WB):ak 252 [.g (wG x1),.g (wG x0),.g (wG y),.g (wG (yK y))] (.tuple [.g (wG ((x1*WB+x0)/y)),.g (wG ((x1*WB+x0)%y))]):=by
 obtain⟨u1,u2,u3,u4⟩:=D4 h0 hy;obtain⟨k1,k2⟩:=ach h0 hy;obtain⟨v1,v2,v3,v4⟩:=ajL h0 hy kf sJ;obtain⟨b1,b2,_,_⟩:=xZ h0 hy;have rG:=Ll hy b2;rw[show 64-Lib.bitLen y=lz y from rfl]at rG;generalize yK y=m at k1 k2⊢;have Pg:x0*2^lz y%WB<WB:=bL _ af;obtain⟨g1,g2,g3,g4,g5⟩:=Qe Pg v1 u2 u1 k2;obtain⟨l1,l2,l3⟩:=Si Pg v1 u2 g3 g4;have hq1:nB y*((x1*WB+x0)/y)<=(x1*WB+x0)*2^lz y:=by unfold nB;rw[gU];exact bg _ (Nat.mul_div_le _ _)
 have c1:=Gz (x:=m) (y:=x1*2^lz y+x0/2^(64-lz y)) k1 ab;have c2:=sT (x:=m*(x1*2^lz y+x0/2^(64-lz y))%WB) (y:=x0*2^lz y%WB) (c:=0) ab;have c3:=sT (x:=m*(x1*2^lz y+x0/2^(64-lz y))/WB) (y:=x1*2^lz y+x0/2^(64-lz y)) (c:=(m*(x1*2^lz y+x0/2^(64-lz y))%WB+x0*2^lz y%WB+0)/WB) g5;rw[bn g1]at c3;generalize hg:m*(x1*2^lz y+x0/2^(64-lz y))/WB+(x1*2^lz y+x0/2^(64-lz y))+(m*(x1*2^lz y+x0/2^(64-lz y))%WB+x0*2^lz y%WB+0)/WB=g at *
 have c4:=Gz (x:=nB y) (y:=g) u2 g1;have c5:=GA (x:=x0*2^lz y%WB) (y:=nB y*g%WB) (c:=0) ab;have c6:=GA (x:=x1*2^lz y+x0/2^(64-lz y)) (y:=nB y*g/WB) (c:=if x0*2^lz y%WB<nB y*g%WB+0 then 1 else 0) (by split<;>omega);generalize nV:(x1*2^lz y+x0/2^(64-lz y)+WB-nB y*g/WB-if x0*2^lz y%WB<nB y*g%WB+0 then 1 else 0)%WB=r1 at *
 generalize zP:(x0*2^lz y%WB+WB-nB y*g%WB-0)%WB=r0 at *
 generalize(if x0*2^lz y%WB<nB y*g%WB+0 then 1 else 0)=bb at c5 c6;rw[v3]at l1 g3 g4;have fin:∀G:Nat,G*nB y<=(x1*WB+x0)*2^lz y->(x1*WB+x0)*2^lz y<G*nB y+nB y->(x1*WB+x0)/y=G∧((x1*WB+x0)*2^lz y-G*nB y)/2^lz y=(x1*WB+x0)%y:=by intro G h1 h2;unfold nB at h1 h2⊢;rw[<-cN]at h1 h2⊢;have p:0<2^lz y:=dt af;have Kf:=Nat.le_of_mul_le_mul_right h1 p;rw[<-bB]at h2;have h2':=fL h2;refine⟨Ye Kf h2',?_⟩;rw[<-Nat.mul_sub_right_distrib,Nat.mul_div_cancel _ p,agr Kf h2']
 generalize hN:(x1*WB+x0)*2^lz y=NN at *
 have RA:lz y<=64:=ab
 have aiH:=uq (n:=x1) RA;have al7:=uq (n:=x0) RA;have aiI:=uq (n:=y) RA;have al8:=ym (n:=x0) (s:=64-lz y) ab;have Pr:u64.wrap (64-(lz y:Int))=((64-lz y:Nat):Int):=Ug (a:=64) RA af;rw[bn v4]at aiH;have hyy:y*2^lz y%WB=nB y:=bn u2;rw[hyy]at aiI;have Bo:=Yp (a:=x1) (b:=x0/2^(64-lz y)) (s:=lz y) v2 ab;have al9:(0:Int)<=u64.wrap (64-(lz y:Int)):=by rw[Pr];exact br _
 have ajY:((x0:Int)).fdiv (2^min (u64.wrap (64-(lz y:Int))).toNat u64.bits)=((x0/2^(64-lz y):Nat):Int):=by rw[Pr];exact al8
 refine' eN func252;(repeat first|refine' wa|refine oQ (iV rG) ?_|refine xU [2] rfl ?_);refine nK (iL [(0,.g (wG (x1*2^lz y+x0/2^(64-lz y)))),(1,.g (wG (x0*2^lz y%WB))),(2,.g (wG (nB y))),(3,.g (wG m)),(10,.g (wG (lz y)))]) ⟨[],[],[]⟩ ?_ ?_
 ·(try refine' uN);refine' sQ<;>intro h;(repeat first|refine' uN|refine oQ (kg (nW rfl rfl rfl (br _)) (aT ar aiH)) ?_|refine oQ (kg (nW rfl rfl rfl (br _)) (aT ar al7)) ?_|refine oQ (kg (nW rfl rfl rfl (br _)) (aT ar aiI)) ?_|refine oQ (kg (pP rfl rfl rfl al9) (aT ar ajY)) ?_);exact⟨iE.le ⟨.inl (aT ar Bo),.inl rfl,.inl rfl,.inl rfl,.inl rfl,trivial⟩,aJ⟩
  ·have hz:lz y=0:=by have:=h;simp at this;omega
   have OZ:nB y=y:=(by unfold nB;rw[hz];simp);rw[OZ,hz];(try refine' uN);refine⟨iE.le ⟨.inl ?_,.inl ?_,.inl rfl,.inl rfl,.inl rfl,trivial⟩,aJ⟩;rw[eM,cU,show x0/2^(64-0)=0 from cZ sJ];rfl;rw[eM,cU,bn sJ];rfl
 ·(repeat first|refine' wa|refine oQ (iV c1) ?_|refine oQ (iV c2) ?_|refine oQ (iV c3) ?_|refine oQ (iV c4) ?_|refine oQ (iV c5) ?_|refine oQ (iV c6) ?_|refine xU [14] rfl ?_);have aq2:NN<nB y*WB:=by
   rw[<-v3];have:(x1*2^lz y+x0/2^(64-lz y)+1)*WB<=nB y*WB:=bg _ v1;rw[bB,c8]at this;omega
  have small:∀G:Nat,G*nB y<=NN->G<WB:=by intro G hG;refine fL (a:=nB y) ?_;rw[bG WB];omega
  refine AA (S:=Nat×Nat) (λs=>iL [(10,.g (wG (lz y))),(11,.g (wG (nB y))),(16,.g (wG s.1)),(19,.g (wG s.2))]) (λ_=>⟨[],[],[]⟩) (λs=>s.1*nB y+s.2=NN∧s.2<WB∧s.1<WB) ?_ ?_
  ·(try refine' uN);refine' sQ<;>intro h
   ·have e1:r1=1:=(by have:=h;simp at this;omega);subst e1;clear h;have e2:(g+1)*nB y<=NN:=(by rw[bB];omega);have d1:u64.wrap ((g:Int)+1)=((g+1:Nat):Int):=jz ab (small _ e2);have e3:(g+1)*nB y=g*nB y+nB y:=(by rw[bB,c8]);have d2:u64.wrap ((r0:Int)-(nB y:Int))=((NN-(g+1)*nB y:Nat):Int):=by
     rw[IntKind.wrap_u64,e3];unfold WB at *
     omega
    (try refine' uN);exact⟨(g+1,NN-(g+1)*nB y),⟨by dsimp only;omega,by dsimp only;omega,small _ e2⟩,iE.le (aA ⟨.inl (aT ar d1),.inl (aT ar d2),trivial⟩),aJ⟩
   ·have e1:r1=0:=(by have:=h;simp at this;omega);subst e1;clear h;(try refine' uN);have l0:g*nB y+r0=NN:=by
     rw[gO,bc]at l1;rw[l1];exact Nat.add_sub_cancel' g3
    exact⟨(g,r0),⟨l0,l3,g1⟩,iE.le an,aJ⟩
  intro s hs;have i1:=hs.1;have i2:=hs.2.1;have i3:=hs.2.2;obtain⟨G,R⟩:=s;dsimp only at i1 i2 i3;have aa4:=ym (s:=lz y) (n:=R) RA;(repeat first|refine' uN|refine oQ (kg (pP rfl rfl rfl (br _)) (aT ar aa4)) ?_);refine' sQ<;>intro h;have sC:nB y<=R:=Int.ofNat_le.1 (aU h);clear h;have e3:(G+1)*nB y=G*nB y+nB y:=(by rw[bB,c8]);obtain⟨f1,f2⟩:=fin (G+1) ab ab;have d1:u64.wrap ((G:Int)+1)=((G+1:Nat):Int):=jz ab (small _ ab);have d2:u64.wrap ((R:Int)-(nB y:Int))=((R-nB y:Nat):Int):=Ug sC i2;have aa4:=ym (s:=lz y) (n:=R-nB y) RA;have ajZ:(u64.wrap ((R:Int)-(nB y:Int))).fdiv (2^min ((lz y:Int)).toNat u64.bits)=(((R-nB y)/2^lz y:Nat):Int):=(by rw[d2];exact aa4);(repeat first|refine' uN|refine oQ (kg (pP rfl rfl rfl (br _)) (aT ar ajZ)) ?_);rw[f1,<-f2];exact Bx (vC vT (vC vT vN)) rfl (aT (GV.int .u64) d1) (aT wG (by congr 1;omega));have iI:R<nB y:=im λhc=>aX h (Int.ofNat_le.2 hc);clear h;obtain⟨f1,f2⟩:=fin G ab ab;(repeat first|refine' uN|refine oQ (kg (pP rfl rfl rfl (br _)) (aT ar aa4)) ?_);rw[f1,<-f2];exact Bx (vC vT (vC vT vN)) rfl rfl (aT wG (by congr 1;omega))
end Go.Proofs.YtckjndkmmfmjjaaGreatDoor
namespace Go.Proofs.YtckjndkmmfmjjaaGreatDoor
open Go Go.Pure Go.Shelf
attribute [local irreducible] PW jQ ju PO PC lS
variable{n:Nat}
def acK(hn:n<WB):u64.wrap (((BitVec.ofInt u64.bits (if u64.signed=true then -1 else u64.max) ^^^ BitVec.ofInt u64.bits (n:Int)).toNat:Nat):Int)=((WB-1-n:Nat):Int):=by
 have e:(((BitVec.ofInt 64 (18446744073709551615:Int) ^^^ BitVec.ofInt 64 (n:Int)).toNat:Nat):Int)=((WB-1-n:Nat):Int):=by rw[show BitVec.ofInt 64 (18446744073709551615:Int)=BitVec.allOnes 64 from by decide,BitVec.allOnes_xor,dn,BitVec.toNat_not,dD,bn (show n<2^64 from hn)]
 exact jz e aL
def Ps(hn:n<WB):u64.wrap (((BitVec.ofInt u64.bits (n:Int) &&& BitVec.ofInt u64.bits 4294967295).toNat:Nat):Int)=((n%HB:Nat):Int):=by
 have e:(((BitVec.ofInt 64 (n:Int) &&& BitVec.ofInt 64 ((4294967295:Nat):Int)).toNat:Nat):Int)=((n%HB:Nat):Int):=by rw[dn,dn,iu,dD,dD,bn (show n<2^64 from hn),show(4294967295:Nat)%2^64=2^32-1 from by decide,Nat.and_two_pow_sub_one_eq_mod]
 exact jz e (by have:=bL n (show 0<HB by decide);unfold WB HB at *;omega)
variable{a b:Nat}
def acL(ha:a<WB):u64.wrap (((a:Int)).tdiv (b:Int))=((a/b:Nat):Int):=by refine jz (by rw[il]) (bO (dY _ _) ha)
def acM:((a:Int)).tmod (b:Int)=((a%b:Nat):Int):=by rw[gM]
variable{o:Oper}{ρ:Operand->PV}{H:PH}
def afb{t u:TypeId}{x y:Operand}(ho:o.op=.binOp .quo t x y u)(ha:ρ x=.g (wG a))(hb:ρ y=.g (wG b))(h0:b≠0)(hw:a<WB):PO Tryz.prog o ρ H (.g (wG (a/b))) H:=
 kg (xy ho ha hb ab) (aT ar (acL hw))
def ama{t u:TypeId}{x y:Operand}(ho:o.op=.binOp .rem t x y u)(ha:ρ x=.g (wG a))(hb:ρ y=.g (wG b))(h0:b≠0):PO Tryz.prog o ρ H (.g (wG (a%b))) H:=
 kg (Dt ho ha hb ab) (aT ar acM)
variable{lo y:Nat}
def Lt(h0:y≠0)(E0:lo<WB):ak 277 [.g (wG 0),.g (wG lo),.g (wG y)] (.tuple [.g (wG (lo/y)),.g (wG (lo%y))]):=by
 have e1:((y:Int)==0)=false:=by simp;omega
 have e2:decide ((y:Int)<=((0:Nat):Int))=false:=by simp;omega
 refine' eN func277;(repeat' first|refine' uD|(refine' oX;(first|exact afb rfl rfl rfl h0 E0|exact ama rfl rfl rfl h0);exact kq)|refine' sN<;>intro h|fail);all_goals(first|(exfalso;simp_all;done)|exact Bx (vC vT (vC vT vN)) rfl rfl rfl)
def Qj:Go.Shelf.Ren:=⟨fun|134=>289|129=>104|n=>n,fun|46=>92|3=>3|53=>139|4=>4|5=>5|9=>9|n=>n,fun|n=>n⟩
def acN:Go.Proofs.Lays.n134 Tryz.prog Qj:={
 mixed:=aj
 f129:=func104.trans (aT some aj)
 f134:=func289.trans (aT some aj)
 t3:=underlying3
 a3:=Tryz.isAgg3
 z3:=Tryz.sizeOf3
 v3:=Tryz.zeroValue3
 t4:=underlying4
 a4:=Tryz.isAgg4
 z4:=Tryz.sizeOf4
 v4:=Tryz.zeroValue4
 t5:=underlying5
 a5:=Tryz.isAgg5
 z5:=Tryz.sizeOf5
 v5:=Tryz.zeroValue5
 t9:=underlying9
 a9:=Tryz.isAgg9
 z9:=Tryz.sizeOf9
 v9:=Tryz.zeroValue9
 t46:=underlying92
 a46:=Tryz.isAgg92
 z46:=Tryz.sizeOf92
 v46:=Tryz.zeroValue92
 t53:=underlying139
 a53:=Tryz.isAgg139
 z53:=Tryz.sizeOf139
 v53:=Tryz.zeroValue139}
def ZF{x:Nat}(hx:x<WB):ak 289 [.g (wG x)] (aq (64-(Lib.bitLen x:Int))):=
 Yj (λw=>by have lY:x<18446744073709551616:=hx;have h:=Any.bits_LeadingZeros64 acN (x:Int) w ab ab;rw[da]at h;exact h) (λc=>.g _ _ (.int _ _))
def acO{x:Nat}(hx:WB<=2*x)(rL:x<WB):ak 289 [.g (wG x)] (aq 0):=by
 have h:=ZF rL;obtain⟨b1,b2,b3,b4⟩:=xZ (y:=x) (by unfold WB at hx;omega) rL;have hb:Lib.bitLen x=64:=by refine cj λhc=>?_;have:2^Lib.bitLen x<=2^63:=cf af ab;unfold WB at hx;omega
 rw[hb]at h;exact h
def Lu{H u:Nat}(h:H<y)(hu:u<HB):(H*HB+u)/y<HB:=by refine(bK ab).2 ?_;have:(H+1)*HB<=y*HB:=bg _ h;rw[bB,c8]at this;rw[bG HB];omega
variable{hi:Nat}
def ZG(hy:WB<=2*y)(IB:y<WB)(Jr:hi<y)(E0:lo<WB):2147483648<=y/HB∧y/HB<HB∧y%HB<HB∧lo/HB<HB∧lo%HB<HB∧y/HB*HB+y%HB=y∧lo/HB*HB+lo%HB=lo:=by
 unfold WB HB at *
 omega
variable{u1 u0:Nat}
def Sz(hy:0<y):(hi*HB+u1)/y*HB+((hi*HB+u1)%y*HB+u0)/y=((hi*HB+u1)*HB+u0)/y∧((hi*HB+u1)%y*HB+u0)%y=((hi*HB+u1)*HB+u0)%y:=by
 obtain⟨N,hN⟩:∃N,N=hi*HB+u1:=⟨_,rfl⟩;rw[<-hN];have h1:=cT N y;have e:N*HB+u0=(N%y*HB+u0)+y*(N/y*HB):=by
  have e2:N*HB=N%y*HB+y*(N/y*HB):=by rw[<-cN,<-bB,h1]
  rw[e2,Nat.add_right_comm]
 rw[e,cL _ _ hy,dc];exact⟨eK _ _,rfl⟩
def ZH(hi lo:Nat):hi*WB+lo=(hi*HB+lo/HB)*HB+lo%HB:=by unfold WB HB;omega
variable{c:Nat}
def Pt{q:Nat}(_hb:b<HB)(h:a*HB+b=q*y+c)(hc:c<WB):u64.wrap (u64.wrap (u64.wrap ((a:Int)*4294967296)+(b:Int))-u64.wrap ((q:Int)*(y:Int)))=((c:Nat):Int):=by
 rw[<-dJ];generalize q*y=p at *
 simp only[IntKind.wrap,IntKind.signed,IntKind.bits,dN,dB,en];unfold HB at *
 unfold WB at hc;omega
def acP:((n:Int)).fdiv (2^min (0:Int).toNat u64.bits)=((n:Nat):Int):=by have:=ym (n:=n) (s:=0) af;rw[eM,fe]at this;exact this
def MH(h:n<WB):u64.wrap ((n:Int)*2^min (0:Int).toNat u64.bits)=((n:Nat):Int):=by have:=uq (n:=n) (s:=0) af;rw[eM,cU,bn h]at this;exact this
def acQ(h:n<WB):((n:Int)).fdiv (2^min (u64.wrap (64-0)).toNat u64.bits)=((0:Nat):Int):=by have:=ym (n:=n) (s:=64) af;rw[cZ (show n<2^64 from h)]at this;exact this
def or_nil(h:n<WB):u64.wrap (((BitVec.ofInt u64.bits (n:Int) ||| BitVec.ofInt u64.bits ((0:Nat):Int)).toNat:Nat):Int)=((n:Nat):Int):=by have:=Yp (a:=n) (b:=0) (s:=0) af (by rw[eM];omega);rw[eM,cU,b9]at this;exact this
def SA{v1 v2 Q1 R1 Q0 R0:Nat}(hy:WB<=2*y)(IB:y<WB)(Jr:hi<y)(h1:hi≠0)(E0:lo<WB)(hiw:hi<WB)(p1:2147483648<=v1)(p2:v1<HB)(p3:v2<HB)(p4:u1<HB)(p5:u0<HB)(p6:v1*HB+v2=y)
    (Pu:((y:Int)).fdiv (2^min ((32:Nat):Int).toNat u64.bits)=((v1:Nat):Int)) (hmy:u64.wrap (((BitVec.ofInt u64.bits (y:Int) &&& BitVec.ofInt u64.bits 4294967295).toNat:Nat):Int)=((v2:Nat):Int))
    (Jf:((lo:Int)).fdiv (2^min ((32:Nat):Int).toNat u64.bits)=((u1:Nat):Int)) (DL:u64.wrap (((BitVec.ofInt u64.bits (lo:Int) &&& BitVec.ofInt u64.bits 4294967295).toNat:Nat):Int)=((u0:Nat):Int))
    (hQ1:(hi*HB+u1)/y=Q1) (hQ0:(R1*HB+u0)/y=Q0) (tN:hi*HB+u1=Q1*y+R1) (xJ:R1*HB+u0=Q0*y+R0) (hR:R1<y) (hR2:R0<y) (hQ:Q1<HB) (hQ2:Q0<HB):
    ak 277 [.g (wG hi),.g (wG lo),.g (wG y)] (.tuple [.g (wG (Q1*HB+Q0)),.g (wG R0)]):=by
  have hz:=acO hy IB;have hyp:0<y:=ab
  have hH:hi<v1*HB+v2:=ab
  have hH2:R1<v1*HB+v2:=ab
  have r1:=Pt (a:=hi) (b:=u1) (c:=R1) (q:=Q1) (y:=y) p4 tN ab;have r2:=Pt (a:=R1) (b:=u0) (c:=R0) (q:=Q0) (y:=y) p5 xJ ab;have VQ:v1≠0:=ab
  have aiK:∀H:Nat,H<WB->u64.wrap ((H:Int)-u64.wrap (((H/v1:Nat):Int)*(v1:Int)))=((H%v1:Nat):Int):=by intro H hHw;have:=eX H v1;rw[bG]at this;rw[show u64.wrap (((H/v1:Nat):Int)*(v1:Int))=((H/v1*v1:Nat):Int)from jz (by rw[dJ]) ab];exact jz ab ab
  have aj0:u64.wrap (u64.wrap ((Q1:Int)*4294967296)+(Q0:Int))=((Q1*HB+Q0:Nat):Int):=by rw[show u64.wrap ((Q1:Int)*4294967296)=((Q1*HB:Nat):Int)from jz (by unfold HB;omega) aN];exact jz ab aN
  have y1:=MH IB;have BG:=MH hiw;have lo1:=MH E0;have lo0:=acQ E0;have Bo:=or_nil hiw;refine' eN func277;(try refine' uD);refine' sQ<;>intro h
  · exfalso;have hh:=bQ.1 h;omega
  clear h;(try refine' uD);refine' sQ<;>intro h
  · exfalso;have hh:=aU h;omega
  clear h;(try refine' uD);refine' sQ<;>intro h
  · exfalso;have hh:=bQ.1 h;omega
  clear h;(repeat first|refine' wb|(refine' oX;(first|exact iV hz|exact kg (nW rfl rfl rfl af) (aT ar y1)|exact kg (pP rfl rfl rfl af) (aT ar Pu));exact kq)|refine xU [11] rfl ?_);refine ja (env':=iL [(0,.g (wG hi)),(1,.g (wG lo)),(2,.g (wG y)),(8,ar 0),(9,.g (wG v1)),(10,.g (wG v2))]) (H':=⟨[],[],[]⟩) (iE.le (aD ⟨.inl (aT ar hmy),trivial⟩)) aJ ?_;(repeat first|refine' wb|(refine' oX;(first|exact kg (nW rfl rfl rfl af) (aT ar BG)|exact kg (pP rfl rfl rfl (show(0:Int)<=u64.wrap (64-0) by decide)) (aT ar lo0)|exact kg (nW rfl rfl rfl af) (aT ar lo1)|exact kg (pP rfl rfl rfl af) (aT ar Jf));exact kq)|refine xU [15] rfl ?_);refine ja (env':=iL [(2,.g (wG y)),(8,ar 0),(9,.g (wG v1)),(10,.g (wG v2)),(11,.g (wG hi)),(13,.g (wG u1)),(14,.g (wG u0))]) (H':=⟨[],[],[]⟩) (iE.le (aC ⟨.inl (aT ar Bo),.inl rfl,.inl (aT ar DL),trivial⟩)) aJ ?_;(repeat first|refine' wb|(refine' oX;exact afb rfl rfl rfl VQ hiw;exact kq)|refine xU [17] rfl ?_);refine nK (iL [(2,.g (wG y)),(8,ar 0),(9,.g (wG v1)),(10,.g (wG v2)),(11,.g (wG hi)),(13,.g (wG u1)),(14,.g (wG u0)),(15,.g (wG Q1))]) ⟨[],[],[]⟩ ?_ ?_
  · (try refine' uD)
    refine jf (S:=Nat×Nat) (λs=>iL [(2,.g (wG y)),(8,ar 0),(9,.g (wG v1)),(10,.g (wG v2)),(11,.g (wG hi)),(13,.g (wG u1)),(14,.g (wG u0)),(15,.g (wG s.1)),(16,.g (wG s.2))]) (λ_=>⟨[],[],[]⟩) (λs=>BD hi u1 v1 v2 s.1 s.2∧s.2<HB) (λs=>s.1) (hi/v1,hi%v1) ⟨BD.start hH p1 p2 p3 p4,dU (bL _ ab) p2⟩
      (iE.le (aH ⟨.inl (aT ar (aiK hi hiw)),trivial⟩)) aJ (λs hs=>?_)
    obtain⟨g,r⟩:=s
    obtain⟨hI,Yq⟩:=hs
    dsimp only at hI Yq
    have Lq:=hI.b
    have hmul:u64.wrap ((g:Int)*(v2:Int))=((g*v2:Nat):Int):=by refine jz (by rw[dJ]) ?_;have m1:g*v2<=(HB+1)*(HB-1):=dy Lq ab;have m2:(HB+1)*(HB-1)<WB:=af;omega
    have lC:u64.wrap (u64.wrap (4294967296*(r:Int))+(u1:Int))=((r*HB+u1:Nat):Int):=by rw[show u64.wrap (4294967296*(r:Int))=((r*HB:Nat):Int)from jz (by unfold HB;omega) aN];exact jz ab aN
    (try refine' uD)
    refine' sQ<;>intro h
    · have yZ:HB<=g∨r*HB+u1<g*v2:=.inl (by have:=aU h;unfold HB;omega)
      obtain⟨BN,uA⟩:=hI.over hH p4 yZ
      have e1:u64.wrap ((g:Int)-1)=((g-1:Nat):Int):=jz ab (by have:=hI.b;unfold HB at this;unfold WB;omega)
      have e2:u64.wrap ((r:Int)+(v1:Int))=((r+v1:Nat):Int):=jz ab aN
      clear h
      (try refine' uD)
      refine' sQ<;>intro h
      · have nh:HB<=r+v1:=by rw[e2]at h;have:=aU h;unfold HB;omega
        have CN:=uA.done ab (by have hb:=hI.b;have m1:(g-1)*v2<=HB*(HB-1):=dy ab ab;have m2:HB*HB<=(r+v1)*HB:=bg _ nh;have m3:HB*(HB-1)<=HB*HB:=af;omega)
        have Bp:g-1=Q1:=by rw[<-CN,<-hQ1,<-p6]
        clear h
        (try refine' uD)
        exact⟨iE.le (aG ⟨.inl (aT ar (by rw[e1,Bp])),trivial⟩),aJ⟩
      · have nh:r+v1<HB:=by rw[e2]at h;have:=aX h;unfold HB;omega
        clear h
        (try refine' uD)
        exact⟨(g-1,r+v1),⟨uA,nh⟩,by dsimp only;omega,iE.le (aG ⟨.inl (aT ar e1),.inl (aT ar e2),trivial⟩),aJ⟩
    · have pE:g<HB:=by have:=aX h;unfold HB;omega
      clear h
      (try refine' uD)
      refine' sQ<;>intro h
      · have yZ:HB<=g∨r*HB+u1<g*v2:=.inr (by rw[hmul,lC]at h;have:=aU h;omega)
        obtain⟨BN,uA⟩:=hI.over hH p4 yZ
        have e1:u64.wrap ((g:Int)-1)=((g-1:Nat):Int):=jz ab (by have:=hI.b;unfold HB at this;unfold WB;omega)
        have e2:u64.wrap ((r:Int)+(v1:Int))=((r+v1:Nat):Int):=jz ab aN
        clear h
        (try refine' uD)
        refine' sQ<;>intro h
        · have nh:HB<=r+v1:=by rw[e2]at h;have:=aU h;unfold HB;omega
          have CN:=uA.done ab (by have hb:=hI.b;have m1:(g-1)*v2<=HB*(HB-1):=dy ab ab;have m2:HB*HB<=(r+v1)*HB:=bg _ nh;have m3:HB*(HB-1)<=HB*HB:=af;omega)
          have Bp:g-1=Q1:=by rw[<-CN,<-hQ1,<-p6]
          clear h
          (try refine' uD)
          exact⟨iE.le (aG ⟨.inl (aT ar (by rw[e1,Bp])),trivial⟩),aJ⟩
        · have nh:r+v1<HB:=by rw[e2]at h;have:=aX h;unfold HB;omega
          clear h
          (try refine' uD)
          exact⟨(g-1,r+v1),⟨uA,nh⟩,by dsimp only;omega,iE.le (aG ⟨.inl (aT ar e1),.inl (aT ar e2),trivial⟩),aJ⟩
      · have CN:=hI.done ab (by rw[hmul,lC]at h;have:=aX h;omega)
        have Bp:g=Q1:=by rw[<-CN,<-hQ1,<-p6]
        clear h
        (try refine' uD)
        exact⟨iE.le (aG ⟨.inl (aT (λk:Nat=>ar k) Bp),trivial⟩),aJ⟩
  · (repeat first|refine' wb|refine xU [22] rfl ?_)
    refine ja (env':=iL [(2,.g (wG y)),(8,ar 0),(9,.g (wG v1)),(10,.g (wG v2)),(11,.g (wG hi)),(13,.g (wG u1)),(14,.g (wG u0)),(15,.g (wG Q1)),(17,.g (wG R1))]) (H':=⟨[],[],[]⟩) (iE.le (aH ⟨.inl (aT ar r1),trivial⟩)) aJ ?_
    (repeat first|refine' wb|(refine' oX;exact afb rfl rfl rfl VQ ab;exact kq)|refine xU [24] rfl ?_)
    refine nK (iL [(2,.g (wG y)),(8,ar 0),(9,.g (wG v1)),(10,.g (wG v2)),(11,.g (wG hi)),(13,.g (wG u1)),(14,.g (wG u0)),(15,.g (wG Q1)),(17,.g (wG R1)),(18,.g (wG Q0))]) ⟨[],[],[]⟩ ?_ ?_
    · (try refine' uD)
      refine jf (S:=Nat×Nat) (λs=>iL [(2,.g (wG y)),(8,ar 0),(9,.g (wG v1)),(10,.g (wG v2)),(11,.g (wG hi)),(13,.g (wG u1)),(14,.g (wG u0)),(15,.g (wG Q1)),(17,.g (wG R1)),(18,.g (wG s.1)),(16,.g (wG s.2))]) (λ_=>⟨[],[],[]⟩) (λs=>BD R1 u0 v1 v2 s.1 s.2∧s.2<HB) (λs=>s.1) (R1/v1,R1%v1) ⟨BD.start hH2 p1 p2 p3 p5,dU (bL _ ab) p2⟩
        (iE.le (aH (aA ⟨.inl (aT ar (aiK R1 ab)),trivial⟩))) aJ (λs hs=>?_)
      obtain⟨g,r⟩:=s
      obtain⟨hI,Yq⟩:=hs
      dsimp only at hI Yq
      have Lq:=hI.b
      have hmul:u64.wrap ((g:Int)*(v2:Int))=((g*v2:Nat):Int):=by refine jz (by rw[dJ]) ?_;have m1:g*v2<=(HB+1)*(HB-1):=dy Lq ab;have m2:(HB+1)*(HB-1)<WB:=af;omega
      have lC:u64.wrap (u64.wrap (4294967296*(r:Int))+(u0:Int))=((r*HB+u0:Nat):Int):=by rw[show u64.wrap (4294967296*(r:Int))=((r*HB:Nat):Int)from jz (by unfold HB;omega) aN];exact jz ab aN
      (try refine' uD)
      refine' sQ<;>intro h
      · have yZ:HB<=g∨r*HB+u0<g*v2:=.inl (by have:=aU h;unfold HB;omega)
        obtain⟨BN,uA⟩:=hI.over hH2 p5 yZ
        have e1:u64.wrap ((g:Int)-1)=((g-1:Nat):Int):=jz ab (by have:=hI.b;unfold HB at this;unfold WB;omega)
        have e2:u64.wrap ((r:Int)+(v1:Int))=((r+v1:Nat):Int):=jz ab aN
        clear h
        (try refine' uD)
        refine' sQ<;>intro h
        · have nh:HB<=r+v1:=by rw[e2]at h;have:=aU h;unfold HB;omega
          have CN:=uA.done ab (by have hb:=hI.b;have m1:(g-1)*v2<=HB*(HB-1):=dy ab ab;have m2:HB*HB<=(r+v1)*HB:=bg _ nh;have m3:HB*(HB-1)<=HB*HB:=af;omega)
          have Bp:g-1=Q0:=by rw[<-CN,<-hQ0,<-p6]
          clear h
          (try refine' uD)
          exact⟨iE.le (aH ⟨.inl rfl,.inl (aT ar (by rw[e1,Bp])),trivial⟩),aJ⟩
        · have nh:r+v1<HB:=by rw[e2]at h;have:=aX h;unfold HB;omega
          clear h
          (try refine' uD)
          exact⟨(g-1,r+v1),⟨uA,nh⟩,by dsimp only;omega,iE.le (aH ⟨.inl rfl,.inl (aT ar e1),.inl (aT ar e2),trivial⟩),aJ⟩
      · have pE:g<HB:=by have:=aX h;unfold HB;omega
        clear h
        (try refine' uD)
        refine' sQ<;>intro h
        · have yZ:HB<=g∨r*HB+u0<g*v2:=.inr (by rw[hmul,lC]at h;have:=aU h;omega)
          obtain⟨BN,uA⟩:=hI.over hH2 p5 yZ
          have e1:u64.wrap ((g:Int)-1)=((g-1:Nat):Int):=jz ab (by have:=hI.b;unfold HB at this;unfold WB;omega)
          have e2:u64.wrap ((r:Int)+(v1:Int))=((r+v1:Nat):Int):=jz ab aN
          clear h
          (try refine' uD)
          refine' sQ<;>intro h
          · have nh:HB<=r+v1:=by rw[e2]at h;have:=aU h;unfold HB;omega
            have CN:=uA.done ab (by have hb:=hI.b;have m1:(g-1)*v2<=HB*(HB-1):=dy ab ab;have m2:HB*HB<=(r+v1)*HB:=bg _ nh;have m3:HB*(HB-1)<=HB*HB:=af;omega)
            have Bp:g-1=Q0:=by rw[<-CN,<-hQ0,<-p6]
            clear h
            (try refine' uD)
            exact⟨iE.le (aH ⟨.inl rfl,.inl (aT ar (by rw[e1,Bp])),trivial⟩),aJ⟩
          · have nh:r+v1<HB:=by rw[e2]at h;have:=aX h;unfold HB;omega
            clear h
            (try refine' uD)
            exact⟨(g-1,r+v1),⟨uA,nh⟩,by dsimp only;omega,iE.le (aH ⟨.inl rfl,.inl (aT ar e1),.inl (aT ar e2),trivial⟩),aJ⟩
        · have CN:=hI.done ab (by rw[hmul,lC]at h;have:=aX h;omega)
          have Bp:g=Q0:=by rw[<-CN,<-hQ0,<-p6]
          clear h
          (try refine' uD)
          exact⟨iE.le (aH ⟨.inl rfl,.inl (aT (λk:Nat=>ar k) Bp),trivial⟩),aJ⟩
    · (repeat first|refine' uD|(refine' oX;exact jH;exact kq))
      exact Bx (vC vT (vC vT vN)) rfl (aT (GV.int .u64) aj0) (aT (GV.int .u64) (by rw[r2];exact acP))
def ZI(hy:WB<=2*y)(IB:y<WB)(Jr:hi<y)(h1:hi≠0)(E0:lo<WB):ak 277 [.g (wG hi),.g (wG lo),.g (wG y)] (.tuple [.g (wG ((hi*WB+lo)/y)),.g (wG ((hi*WB+lo)%y))]):=by obtain⟨p1,p2,p3,p4,p5,p6,p7⟩:=ZG hy IB Jr E0;have hyp:0<y:=bO (bm _) Jr;have Pu:=ym (n:=y) (s:=32) af;have Jf:=ym (n:=lo) (s:=32) af;obtain⟨t1,t2⟩:=Sz (hi:=hi) (u1:=lo/HB) (u0:=lo%HB) hyp;rw[ZH hi lo,<-t1,<-t2];have hR:=bL (hi*HB+lo/HB) hyp;exact SA hy IB Jr h1 E0 (dU Jr IB) p1 p2 p3 p4 p5 p6 Pu (Ps IB) Jf (Ps E0) rfl rfl (Nat.div_add_mod' _ _).symm (Nat.div_add_mod' _ _).symm hR (bL _ hyp) (Lu Jr p4) (Lu hR p5)
end Go.Proofs.YtckjndkmmfmjjaaGreatDoor
namespace Go.Proofs.YtckjndkmmfmjjaaGreatDoor
open Go Go.Pure
attribute [local irreducible] PW jQ ju PO PC lS
variable{hi lo y:Nat}
def VR(hy:WB<=2*y)(IB:y<WB)(Jr:hi<y)(E0:lo<WB):ak 277 [.g (wG hi),.g (wG lo),.g (wG y)] (.tuple [.g (wG ((hi*WB+lo)/y)),.g (wG ((hi*WB+lo)%y))]):=by by_cases h1:hi=0;subst h1;rw[gO,bc];exact Lt (ik Jr) E0;exact ZI hy IB Jr h1 E0
def acR(hy:WB<=2*y)(IB:y<WB)(Jr:hi<y)(E0:lo<WB):ak 250 [.g (wG hi),.g (wG lo),.g (wG y)] (.tuple [.g (wG ((hi*WB+lo)/y)),.g (wG ((hi*WB+lo)%y))]):=by have h:=VR hy IB Jr E0;obtain⟨q,hq⟩:∃q,q=(hi*WB+lo)/y:=⟨_,rfl⟩;obtain⟨r,hr⟩:∃r,r=(hi*WB+lo)%y:=⟨_,rfl⟩;rw[<-hq,<-hr]at h⊢;refine' eN func250;(try refine' wk @h);exact Bx (vC vT (vC vT vN)) rfl rfl rfl
def ZJ(h0:y≠0)(E0:lo<WB):ak 250 [.g (wG 0),.g (wG lo),.g (wG y)] (.tuple [.g (wG (lo/y)),.g (wG (lo%y))]):=by have h:=Lt h0 E0;obtain⟨q,hq⟩:∃q,q=lo/y:=⟨_,rfl⟩;obtain⟨r,hr⟩:∃r,r=lo%y:=⟨_,rfl⟩;rw[<-hq,<-hr]at h⊢;refine' eN func250;(try refine' wk @h);exact Bx (vC vT (vC vT vN)) rfl rfl rfl
def Pv(h0:y≠0)(hy:y<WB):ak 251 [.g (wG y)] (.g (wG (yK y))):=by obtain⟨u1,u2,u3,u4⟩:=D4 h0 hy;obtain⟨b1,b2,_,_⟩:=xZ h0 hy;obtain⟨r1,r2⟩:=Zl h0 hy;have rG:=Ll hy b2;rw[show 64-Lib.bitLen y=lz y from rfl]at rG;have Ue:=uq (n:=y) (s:=lz y) ab;rw[show y*2^lz y%WB=nB y from bn u2]at Ue;have hx:=acK u2;have hd:=acR (hi:=WB-1-nB y) (lo:=WB-1) (y:=nB y) u1 u2 r1 af;rw[r2]at hd;obtain⟨q,hq⟩:∃q,q=yK y:=⟨_,rfl⟩;obtain⟨U,hU⟩:∃U,U=nB y:=⟨_,rfl⟩;obtain⟨R,hR⟩:∃R,R=((WB-1-nB y)*WB+(WB-1))%nB y:=⟨_,rfl⟩;rw[<-hq,<-hR]at hd;rw[<-hU]at hd hx Ue;rw[<-hq];obtain⟨X,hX⟩:∃X,X=WB-1-U:=⟨_,rfl⟩;rw[<-hX]at hd hx;have Ep:ak 250 [ar (X:Int),ar 18446744073709551615,.g (wG U)] (.tuple [.g (wG q),.g (wG R)]):=hd;refine' eN func251;(repeat first|refine' uC|refine oQ (iV rG) ?_|refine oQ (kg (nW rfl rfl rfl (br _)) (aT ar Ue)) ?_|refine oQ (Zm rfl rfl) ?_|refine oQ mO ?_|refine xU [3] rfl ?_);refine ja (env':=iL [(3,.g (wG U)),(4,ar (X:Int))]) (H':=⟨[],[],[]⟩) (iE.le ⟨.inl rfl,.inl (aT ar hx),trivial⟩) aJ ?_;(try refine' wk @Ep);refine' rT;rfl
variable{cap:Nat}{ws xs:List Nat}
def VS{g:Nat}(h0:y≠0)(hy:y<WB)(hx:okW xs)(h1:1<=(iG xs).length)(hn:(iG xs).length<=ws.length)(hm:(iG xs).length<=100000):al 222 [.vw 0 g 0 (iG xs).length cap,.g (wG 0),av (iG xs),.g (wG y)] ⟨[],[],[AR g ws]⟩ (.g (wG (val xs%y))) ⟨[],[],[AR g (iH ws 0 (iQ (iG xs).length (val xs/y)))]⟩:=by
 have hl:=iK xs;have jX:0<y:=Nat.pos_of_ne_zero h0;rw[show iH ws 0 (iQ (iG xs).length (val xs/y))=Hc y ws xs 0 by rw[Zn,hl]];by_cases jE:(iG xs).length=1
 ·obtain⟨x,rfl⟩:∃x,xs=[x]:=by
   rw[hl]at jE;match xs,jE with
   |[x],_=>exact⟨x,rfl⟩
  have rL:x<WB:=hx x aa;have hd:=ZJ h0 rL;have hv:val [x]=x:=by simp[val]
  have lT:=Ph (ws:=ws) (l:=[x]) (k:=0) (x:=x) jX rL rfl (by rw[<-hl];exact hn);rw[hv];have hz:val (([x]:List Nat).drop (0+1))%y=0:=by simp[val]
  have amb:=KZ y (ws:=ws) (l:=[x]) (by rw[<-hl];exact hn);rw[hz,dZ,b9]at lT;change (Hc y ws [x] ([x]:List Nat).length).set 0 _=_ at lT;rw[amb]at lT;simp only[b9]at lT;have hg:(iG ws)[0+0]?=some (wG (ws[0]'(by omega))):=iT (aS _);obtain⟨z,Js⟩:∃z,z=ws[0]'(by omega):=⟨_,rfl⟩;rw[<-Js]at hg;obtain⟨q,hq⟩:∃q,q=x/y:=⟨_,rfl⟩;obtain⟨r,hr⟩:∃r,r=x%y:=⟨_,rfl⟩;rw[<-hq,<-hr]at hd;rw[<-hq]at lT;rw[<-hr,<-lT];refine' eN func222;(repeat first|refine' wa|refine oQ (jB (g:=wG x)) ?_|refine oQ (iV hd) ?_|refine oQ (jV 0 (l:=show 0<1 by decide)) ?_|refine oQ (jS (q:=aI hg)) ?_|refine xU [5] rfl ?_);refine ja (env':=iL [(10,.g (wG r))]) (H':=⟨[],[],[AR g (ws.set 0 q)]⟩) (iE.le ⟨.inl rfl,trivial⟩) (kW.of_eq (aT (λl=>(⟨[],[],[MO.arr g WT l]⟩:PH)) (show(iG ws).set (0+0) (wG q)=iG (ws.set 0 q)from jo))) ?_;(try refine' uN);refine' rB;all_goals rfl
 ·have hr:=Pv h0 hy;have aj1:(((iG xs).length:Int)==1)=false:=bk.2 ab;have pI:i64.wrap (((iG xs).length:Int)-1)=((xs.length:Nat):Int)-1:=by rw[jD ab];omega
  refine' eN func222;(try refine' uN);refine' sQ<;>intro h;exfalso;rw[aj1]at h;cases h;clear h;(repeat first|refine' uN|refine oQ (iV hr) ?_|refine oQ jL ?_);refine jf (S:=Nat) (λk=>iL [(0,.vw 0 g 0 (iG xs).length cap),(2,av (iG xs)),(3,.g (wG y)),(8,.g (wG (val (xs.drop k)%y))),(11,.g (wG (yK y))),(12,aq ((k:Int)-1))]) (λk=>⟨[],[],[AR g (Hc y ws xs k)]⟩) (λk=>k<=xs.length) (λk=>k) xs.length (aZ _)
   (iE.le (aB ⟨.inl (aT (λz=>PV.g (wG z)) (show 0=val (xs.drop xs.length)%y by simp[val])),.inl rfl,.inl (aT aq pI),trivial⟩)) (kW.of_eq (by rw[KZ y ab])) (λk hk=>?_)
  cases k with
  |zero=>
   (try refine' uN);refine' rB;all_goals rfl
  |succ k=>
   have zo:xs[k]?=some (xs[k]'(by omega)):=aS ab;obtain⟨x,kf⟩:∃x,x=xs[k]'(by omega):=⟨_,rfl⟩;rw[<-kf]at zo;have rL:=hx.at zo;have y7:(iG xs)[(((k+1:Nat):Int)-1).toNat]?=some (wG x):=(by rw[show(((k+1:Nat):Int)-1).toNat=k by omega];exact iT zo);have Jt:=bL (val (xs.drop (k+1))) jX;have lT:=Iu jX zo;have Yr:=Ph (ws:=ws) jX rL zo ab;have vd:=Sj (D:=y) (ws:=ws) (l:=xs) hk ab;have wE:(iG (Hc y ws xs (k+1)))[0+k]?=some (wG ((Hc y ws xs (k+1))[k]'(by omega))):=iT (by rw[bc];exact aS _);obtain⟨z,Js⟩:∃z,z=(Hc y ws xs (k+1))[k]'(by omega):=⟨_,rfl⟩;rw[<-Js]at wE;obtain⟨R,hR⟩:∃R,R=val (xs.drop (k+1))%y:=⟨_,rfl⟩;rw[<-hR]at Jt lT Yr⊢;have hd:=HF (x1:=R) (x0:=x) h0 hy Jt rL;rw[show R*WB+x=x+WB*R by rw[bG,eK]]at hd;rw[<-lT]at hd;obtain⟨q,hq⟩:∃q,q=(x+WB*R)/y:=⟨_,rfl⟩;rw[<-hq]at hd Yr;obtain⟨R2,hR2⟩:∃R2,R2=val (xs.drop k)%y:=⟨_,rfl⟩;rw[<-hR2]at hd;(try refine' uN);refine' sQ<;>intro h
   ·clear h;(repeat first|refine' uN|refine oQ (jA (g:=wG x) (z:=by omega) (q:=aI y7)) ?_|refine oQ (iV hd) ?_|refine oQ (jV k (z:=by exact show(((k+1:Nat):Int)-1)=(k:Int) by omega)) ?_|refine oQ (jS (q:=aI wE)) ?_);exact⟨k,by omega,by omega,iE.le (aB ⟨.inl (aT (λz=>PV.g (wG z)) hR2),.inl rfl,.inl (aT aq (by rw[jD ab];omega)),trivial⟩),
     kW.of_eq (aT (λl=>(⟨[],[],[MO.arr g WT l]⟩:PH)) (show(iG (Hc y ws xs (k+1))).set (0+k) (wG q)=iG (Hc y ws xs k)from by rw[bc,<-Yr];exact jo))⟩
   exfalso;have:=aX h;omega
def CO(n:Nat)(h1:1<=n)(hm:n<=900):QX (List.replicate (lN n) 0) (lN n):=by refine⟨oB _,by rw[cS];exact aZ _,?_,?_⟩;unfold lN;split<;>omega;unfold lN;split<;>omega
def ZK(h1:1<=xs.length)(hm:xs.length<=1000000):al 195 [.iM,av (iG xs),.g (wG 1)] ⟨[],[],[]⟩ (.tuple [.vw 0 0 0 xs.length (lN xs.length),.g (wG 0)]) ⟨[],[],[AR 0 (xs++List.replicate (lN xs.length-xs.length) 0)]⟩:=by have hs:=Bn h1 hm;refine' eN func195;(repeat first|refine' uN|refine oQ (cD [true] hs) ?_);refine' rB;all_goals rfl
variable{X:Nat}
def ZL(hX:X≠0)(h0:y≠0)(pD:y≠1)(hy:y<WB)(hm:(iG (iF X)).length<=900):al 195 [.iM,av (iG (iF X)),.g (wG y)] ⟨[],[],[]⟩ (.tuple [.vw 0 0 0 (iF (X/y)).length (lN (iG (iF X)).length),.g (wG (X%y))]) ⟨[],[],[AR 0 (iH (List.replicate (lN (iG (iF X)).length) 0) 0 (iQ (iG (iF X)).length (X/y)))]⟩:=by
 have h1:=jl hX;have hl:=iK (iF X);have mq:=qQ (n:=(iG (iF X)).length) h1 ab;have uJ:=vV (iG (iF X)).length;have hd:=VS (g:=0) (cap:=lN (iG (iF X)).length) (y:=y) (ws:=List.replicate (lN (iG (iF X)).length) 0) (xs:=iF X) h0 hy (ji X) h1 (by rw[cS];exact uJ) ab;rw[jm]at hd;have hXl:X<WB^(iG (iF X)).length:=by have:=lP (ji X);rwa[jm,<-hl]at this
 have vd:X/y<WB^(iG (iF X)).length:=bO (dY _ _) hXl;have p8:=iN (iG (iF X)).length (X/y);have hn:=mH (g:=0) (o:=0) (n:=(iG (iF X)).length) (cap:=lN (iG (iF X)).length) (ws:=iH (List.replicate (lN (iG (iF X)).length) 0) 0 (iQ (iG (iF X)).length (X/y))) (l:=iQ (iG (iF X)).length (X/y)) (sK p8) (by rw[iX (by rw[cS];omega),cS];omega) uJ ai;rw[mf vd]at hn;obtain⟨N,hN⟩:∃N,N=(iF (X/y)).length:=⟨_,rfl⟩;obtain⟨P,hP⟩:∃P,P=iH (List.replicate (lN (iG (iF X)).length) 0) 0 (iQ (iG (iF X)).length (X/y)):=⟨_,rfl⟩;obtain⟨R,hR⟩:∃R,R=X%y:=⟨_,rfl⟩;rw[<-hP]at hd hn⊢;rw[<-hR]at hd⊢;rw[<-hN]at hn⊢;clear hP hR hN vd hXl;obtain⟨C,hC⟩:∃C,C=lN (iG (iF X)).length:=⟨_,rfl⟩;rw[<-hC]at mq hd hn⊢;generalize iF X=xs at *
 have k0:(((y:Nat):Int)==0)=false:=bk.2 ab;have k1:(((y:Nat):Int)==1)=false:=bk.2 ab;have k2:(((iG xs).length:Int)==0)=false:=bk.2 ab;refine' eN func195;(try refine' uN);refine' sQ<;>intro h;exfalso;rw[k0]at h;cases h;clear h;(try refine' uN);refine' sQ<;>intro h;exfalso;rw[k1]at h;cases h;clear h;(try refine' uN);refine' sQ<;>intro h;exfalso;rw[k2]at h;cases h;clear h;(repeat first|refine' uN|refine oQ (cD [true] mq) ?_|refine oQ (cD [] hd) ?_|refine oQ (cD [] hn) ?_);refine' rB;all_goals rfl
def E3:ak 196 [.iM,.g (wG 0)] .iM:=by refine' eN func196;(repeat first|refine' uN|refine oQ (qh rfl (EL rfl) (SZ rfl) rfl rfl rfl rfl rfl) ?_);refine' rB;all_goals rfl
def qS{W:List Nat}{k:Nat}{l:List Nat}(h:W.take k=l):((iG W).drop 0).take k=iG l:=by rw[dz,<-h];unfold iG;rw[gf]
variable{n:Nat}
def ZM(h1:1<=n)(hn:n<=1000):Ds Tryz.prog 210 [.iM,aq n] ⟨[],[],[]⟩ λv H'=>∃C,n<=C∧C<=maxLen∧v=.vw 0 0 0 0 C∧H'=⟨[],[],[AR 0 (List.replicate C 0)]⟩:=by
 have hz:i64.wrap ((n:Int)-i64.wrap (0-0))=((n:Nat):Int):=by rw[show i64.wrap (0-0)=0 from by decide,Int.sub_zero];exact jD ab
 refine ET func210 rfl rfl (rs:=_) rfl (bz aj) ?_;(repeat first|refine' wb|(refine' oX;exact z7 rfl (EL rfl) rfl;exact kq)|refine xU [4] rfl ?_);refine ja (env':=iL [(0,.iM),(1,aq n)]) (H':=⟨[],[],[]⟩) (iE.le ⟨.inl rfl,.inl (aT aq hz),trivial⟩) aJ ?_;(try refine' uD);refine' sQ<;>intro h
 ·clear h;refine pY (l1:=[_,_,_,_,_]) (l2:=[_,_,_,_]) rfl (λt h=>by cases h;decide) ?_;(repeat first|refine' uD|(refine' oX;(first|exact z7 rfl (EL rfl) rfl|exact qh rfl (EL rfl) (SZ rfl) rfl rfl rfl rfl rfl);exact kq));refine⟨_,Nu rfl (EL rfl) underlying3 (SZ rfl) (ZR rfl) rfl (BY rfl) af rfl rfl h1 ab,?_⟩;rintro v H' ⟨C,c1,c2,rfl,rfl⟩;have hr:List.replicate C (mB (.int .u64 0))=iG (List.replicate C 0):=by unfold iG;rw[List.map_replicate];rfl
  (repeat first|refine' uD|(refine' oX;exact qi 0 rfl (EL rfl) (SZ rfl) rfl rfl rfl rfl rfl (bm _);exact kq));refine⟨_,_,⟨C,c1,c2,rfl,rfl⟩,?_⟩;rw[AR,<-hr];refine' rB;all_goals rfl
 exfalso;have hh:=aX h;omega
def ag2:nI Tryz.prog 210=true:=aj
def Ys(C:Nat):List Nat:=(List.replicate C 0).set 0 11259375
def IC(C:Nat):(Ys C).length=C:=by unfold Ys;rw[List.length_set,cS]
def D6{n:Nat}(h1:1<=n)(hn:n<=4):Ds Tryz.prog 190 [.ptr 0 0,aq n] ⟨[[.jx]],[],[]⟩ λv H'=>∃C,n<=C∧C<=maxLen∧v=.vw 0 0 0 n C∧H'=⟨[[.jx]],[],[AR 0 (Ys C)]⟩:=by
 have hg:=ZM (n:=n) h1 ab;refine ET func190 rfl rfl (rs:=_) rfl (bz aj) ?_;(repeat first|refine' uD|(refine' oX;exact z8 rfl underlying219 rfl rfl;exact kq));refine' sQ<;>intro h
 ·clear h;refine uw ?_;refine pY (l1:=[_]) (l2:=[_]) rfl (λt h=>by cases h;decide) ?_;(try refine' uD);refine⟨_,xi [true] rfl rfl ag2 rfl (K2 hg [] [] [] rfl rfl rfl rfl rfl),?_⟩;rintro v H' ⟨v0,H0,⟨C,c1,c2,rfl,rfl⟩,rfl,rfl⟩;have x8:(iG (List.replicate C 0))[0+0]?=some (wG 0):=iT (by rw[eJ,aW ab]);(repeat first|refine' wb|refine xU [5] rfl ?_);refine ja (env':=iL [(1,aq n),(6,.vw 0 0 0 0 C)]) (H':=⟨[[.jx]],[],[AR 0 (List.replicate C 0)]⟩) (iE.le ⟨.inl rfl,.inl rfl,trivial⟩) aJ ?_;(repeat first|refine' uD|(refine' oX;exact qi n rfl (EL rfl) (SZ rfl) rfl rfl rfl rfl rfl c1;exact kq));refine' sQ<;>intro h
  ·clear h;(repeat first|refine' uD|(refine' oX;(first|exact jV 0 (l:=h1)|exact jS (q:=aI x8));exact kq));refine⟨_,_,⟨C,c1,c2,rfl,rfl⟩,?_⟩;have hs:(iG (List.replicate C 0)).set (0+0) (wG 11259375)=iG (Ys C):=(by unfold Ys iG;rw[iC]);rw[AR,<-hs];refine' rB;all_goals rfl
  exfalso;have hh:=aX h;omega
 exfalso;have hh:=aX h;omega
variable{cap' g1 o1 c1:Nat}{ys ws1:List Nat}
def HG{g o:Nat}(lI:(ws1.drop o1).take n=ys)(hw:okW ws)(hv:(ws.drop o).take n=xs)(hy:okW ys)(hn:ys.length=n)(hm:n<=maxLen)(mK:o+n<=ws.length):
  al 128 [.vw 0 g o n cap,.vw 0 g o n cap',.vw 1 g1 o1 n c1] ⟨[],[],[AR g ws,AR g1 ws1]⟩ (.g (wG (sn xs ys 0))) ⟨[],[],[AR g (iH ws o (sM xs ys 0)),AR g1 ws1]⟩:=by
 have Na:xs.length=n:=by rw[<-hv];simp;omega
 have EY:okW xs:=by rw[<-hv];exact(hw.drop o).take n
 refine' eN func128;(repeat' first|refine' wb|(refine' oX;exact jL;exact kq)|refine xU [3] rfl ?_|refine' sN<;>intro h|fail);all_goals(try(exfalso;simp at h;done))
 all_goals try clear h
 (repeat first|refine' uD|(refine' oX;exact jL;exact kq));refine jf (S:=Nat) (λi=>iL [(0,.vw 0 g o n cap),(1,.vw 0 g o n cap'),(2,.vw 1 g1 o1 n c1),(6,.g (wG (sn (xs.take i) (ys.take i) 0))),(24,aq n),(25,aq i)]) (λi=>⟨[],[],[AR g (iH ws o (sM (xs.take i) (ys.take i) 0)),AR g1 ws1]⟩) (λi=>i<=n) (λi=>n-i) 0 (bm _)
  (iE.le an) (kW.of_eq (by simp only[e8,sM,oh])) (λi hi=>?_)
 (try refine' uD);refine' sQ<;>intro h
 ·have iI:i<n:=by have:=aU h;omega
  have nk:xs[i]?=some (xs[i]'(by omega)):=aS ab;generalize xs[i]'(by omega)=x at nk;have pF:ys[i]?=some (ys[i]'(by omega)):=aS ab;generalize ys[i]'(by omega)=y at pF;have uc:(iG ws1)[o1+i]?=some (wG y):=iT (by rw[<-lI,bq,aW iI,bD]at pF;exact pF);have hC:=Gw (xs.take i) (ys.take i) 0 ab;have NA:(sM (xs.take i) (ys.take i) 0).length=i:=by rw[wM (by rw[bW,bW];omega),bW];omega
  have hz:(iG (iH ws o (sM (xs.take i) (ys.take i) 0)))[o+i]?=some (wG x):=iT (by rw[oi ab];rw[<-hv,bq,aW iI,bD]at nk;exact nk);have h1:=GA (x:=x) (y:=y) hC;obtain⟨s1,s2⟩:=Pj (c:=0) nk pF;rw[<-s2]at h1;clear h;(repeat first|refine' wc|(apply dR rfl rfl;focus(first|exact lU rfl rfl (AG rfl) rfl rfl hz rfl|exact lU rfl rfl (AG rfl) rfl rfl uc rfl))|(refine' oX;(first|exact iV h1|exact jV i (l:=iI)|exact jS (q:=aI hz));exact kq)|refine' xW [10000,10001]);exact⟨i+1,iI,by omega,iE.le (aD ⟨.inl (aT aq (jD (by unfold maxLen at hm;omega))),trivial⟩),
   kW.of_eq (by rw[s1,<-kx NA ab];exact aT (λl=>(⟨[],[],[MO.arr g WT l,AR g1 ws1]⟩:PH)) jo)⟩
 ·have lk:i=n:=by have:=aX h;omega
  subst lk;rw[bR (fJ hn),bR (fJ Na)];(try refine' uD);refine' rB;all_goals rfl
def ZN{g o:Nat}(lI:(ws1.drop o1).take n=ys)(hw:okW ws)(hv:(ws.drop o).take n=xs)(hy:okW ys)(hn:ys.length=n)(hm:n<=maxLen)(mK:o+n<=ws.length):
  al 127 [.vw 0 g o n cap,.vw 0 g o n cap',.vw 1 g1 o1 n c1] ⟨[],[],[AR g ws,AR g1 ws1]⟩ (.g (wG (um xs ys 0))) ⟨[],[],[AR g (iH ws o (sq xs ys 0)),AR g1 ws1]⟩:=by
 have Na:xs.length=n:=by rw[<-hv];simp;omega
 have EY:okW xs:=by rw[<-hv];exact(hw.drop o).take n
 refine' eN func127;(repeat' first|refine' wb|(refine' oX;exact jL;exact kq)|refine xU [3] rfl ?_|refine' sN<;>intro h|fail);all_goals(try(exfalso;simp at h;done))
 all_goals try clear h
 (repeat first|refine' uD|(refine' oX;exact jL;exact kq));refine jf (S:=Nat) (λi=>iL [(0,.vw 0 g o n cap),(1,.vw 0 g o n cap'),(2,.vw 1 g1 o1 n c1),(6,.g (wG (um (xs.take i) (ys.take i) 0))),(24,aq n),(25,aq i)]) (λi=>⟨[],[],[AR g (iH ws o (sq (xs.take i) (ys.take i) 0)),AR g1 ws1]⟩) (λi=>i<=n) (λi=>n-i) 0 (bm _)
  (iE.le an) (kW.of_eq (by simp only[e8,sq,oh])) (λi hi=>?_)
 (try refine' uD);refine' sQ<;>intro h
 ·have iI:i<n:=by have:=aU h;omega
  have nk:xs[i]?=some (xs[i]'(by omega)):=aS ab;generalize xs[i]'(by omega)=x at nk;have pF:ys[i]?=some (ys[i]'(by omega)):=aS ab;generalize ys[i]'(by omega)=y at pF;have uc:(iG ws1)[o1+i]?=some (wG y):=iT (by rw[<-lI,bq,aW iI,bD]at pF;exact pF);have hC:=ME (EY.take i) (hy.take i) (show 0<=1 by omega);have NA:(sq (xs.take i) (ys.take i) 0).length=i:=by rw[wO (by rw[bW,bW];omega),bW];omega
  have hz:(iG (iH ws o (sq (xs.take i) (ys.take i) 0)))[o+i]?=some (wG x):=iT (by rw[oi ab];rw[<-hv,bq,aW iI,bD]at nk;exact nk);have h1:=sT (x:=x) (y:=y) hC;obtain⟨s1,s2⟩:=Pk (c:=0) nk pF;rw[<-s2]at h1;clear h;(repeat first|refine' wc|(apply dR rfl rfl;focus(first|exact lU rfl rfl (AG rfl) rfl rfl hz rfl|exact lU rfl rfl (AG rfl) rfl rfl uc rfl))|(refine' oX;(first|exact iV h1|exact jV i (l:=iI)|exact jS (q:=aI hz));exact kq)|refine' xW [10000,10001]);exact⟨i+1,iI,by omega,iE.le (aD ⟨.inl (aT aq (jD (by unfold maxLen at hm;omega))),trivial⟩),
   kW.of_eq (by rw[s1,<-kx NA ab];exact aT (λl=>(⟨[],[],[MO.arr g WT l,AR g1 ws1]⟩:PH)) jo)⟩
 ·have lk:i=n:=by have:=aX h;omega
  subst lk;rw[bR (fJ hn),bR (fJ Na)];(try refine' uD);refine' rB;all_goals rfl
def Ja(h:n<64):u64.wrap (((BitVec.ofInt u64.bits (n:Int) &&& BitVec.ofInt u64.bits 63).toNat:Nat):Int)=((n:Nat):Int):=by
 have e:n &&& 63=n:=by have:=Nat.and_two_pow_sub_one_eq_mod n 6;rw[show 2^6-1=63 from rfl,show 2^6=64 from rfl,bn h]at this;exact this
 refine jz ?_ aL;show(((BitVec.ofInt 64 (n:Int) &&& BitVec.ofInt 64 ((63:Nat):Int)).toNat:Nat):Int)=_;rw[dn,dn,iu,dD,dD,bn (show n<2^64 by omega),bn (show 63<2^64 by decide),e]
variable{a b:Nat}
def MI(ha:a<WB)(hb:b<WB):u64.wrap (((BitVec.ofInt u64.bits (a:Int) ||| BitVec.ofInt u64.bits (b:Int)).toNat:Nat):Int)=((a ||| b:Nat):Int):=by have ha':a<2^64:=ha;have Au:b<2^64:=hb;refine jz ?_ (gb ha' Au);show(((BitVec.ofInt 64 (a:Int) ||| BitVec.ofInt 64 (b:Int)).toNat:Nat):Int)=_;rw[dn,dn,iz,dD,dD,bn ha',bn Au]
variable{s:Nat}
def xk(hs:s<=64):((n:Int)).fdiv (2^min ((s:Int)).toNat u64.bits)=((n/2^s:Nat):Int):=by rw[da,ec (show s<=u64.bits from hs),show((2:Int)^s)=((2^s:Nat):Int) by push_cast;rfl,fM _ (br _)];rfl
def QY{g:Nat}(hx:okW xs)(h1:1<=(iG xs).length)(hn:(iG xs).length<=ws.length)(hm:(iG xs).length<=100000)(AI:1<=s)(hs:s<64):
  al 129 [.vw 0 g 0 (iG xs).length cap,av (iG xs),ar s] ⟨[],[],[AR g ws]⟩ (.g (wG (BU xs s))) ⟨[],[],[AR g (iH ws 0 (qK xs s))]⟩:=by
 have hl:=iK xs;have hT:=oP xs s;obtain⟨m,tN⟩:∃m,xs.length=m+1:=⟨xs.length-1,by omega⟩;have Uc:xs[m]?=some (xs[m]'(by omega)):=aS ab;obtain⟨xm,afc⟩:∃x,x=xs[m]'(by omega):=⟨_,rfl⟩;rw[<-afc]at Uc;have hc:=Hz (s:=s) ab hx Uc;rw[<-tN,du]at hc;have js:(((iG xs).length:Int) !=((iG xs).length:Int))=false:=aa
 have FG:((s:Int)==0)=false:=bk.2 ab;have Bq:(((iG xs).length:Int)==0)=false:=bk.2 ab;have ha:=Ja hs;have hb:u64.wrap (64-(s:Int))=((64-s:Nat):Int):=by rw[show(64:Int)-(s:Int)=((64-s:Nat):Int) by omega];exact jz rfl aL
 have hd:=Ja (n:=64-s) ab;have D7:i64.wrap (((iG xs).length:Int)-1)=((m:Nat):Int):=by rw[jD ab];omega
 have hgm:(iG xs)[(i64.wrap (((iG xs).length:Int)-1)).toNat]?=some (wG xm):=by rw[D7,da];exact iT Uc
 refine' eN func129;(repeat first|refine' uD|(refine' oX;exact jL;exact kq));refine' sQ<;>intro h;exfalso;rw[js]at h;cases h;clear h;(try refine' uD);refine' sQ<;>intro h;exfalso;rw[FG]at h;cases h;clear h;(repeat first|refine' uD|(refine' oX;exact jL;exact kq));refine' sQ<;>intro h;exfalso;rw[Bq]at h;cases h;clear h;(repeat first|refine' wb|refine xU [7] rfl ?_);refine ja (env':=iL [(0,.vw 0 g 0 (iG xs).length cap),(1,av (iG xs)),(2,ar s)]) (H':=⟨[],[],[AR g ws]⟩) (iE.le (aA ⟨.inl (aT ar ha),trivial⟩)) aJ ?_;(repeat first|refine' wb|refine xU [8] rfl ?_);refine ja (env':=iL [(0,.vw 0 g 0 (iG xs).length cap),(1,av (iG xs)),(2,ar s),(7,ar ((64-s:Nat):Int))]) (H':=⟨[],[],[AR g ws]⟩) (iE.le (aB ⟨.inl (aT ar hb),trivial⟩)) aJ ?_;(repeat first|refine' wb|refine xU [9] rfl ?_);refine ja (env':=iL [(0,.vw 0 g 0 (iG xs).length cap),(1,av (iG xs)),(2,ar s),(7,ar ((64-s:Nat):Int))]) (H':=⟨[],[],[AR g ws]⟩) (iE.le (aB ⟨.inl (aT ar hd),trivial⟩)) aJ ?_;(repeat first|refine' uD|(refine' oX;(first|exact jL|exact jA (g:=wG xm) (z:=by rw[D7];exact br _) (q:=aI hgm)|exact pP rfl rfl rfl (br _));exact kq));refine jf (S:=Nat) (λk=>iL [(0,.vw 0 g 0 (iG xs).length cap),(1,av (iG xs)),(2,ar s),(6,.g (wG (BU xs s))),(7,ar ((64-s:Nat):Int)),(8,aq (k:Int))]) (λk=>⟨[],[],[AR g (BV ws (qK xs s) (k+1))]⟩) (λk=>k<=m) (λk=>k) m (aZ _)
  (iE.le (aB ⟨.inl (aT ar (by rw[hc];exact xk ab)),.inl rfl,.inl (aT aq D7),trivial⟩)) (kW.of_eq (by rw[<-tN,<-hT,K4])) (λk hk=>?_)
 have Bm:=Sk (ws:=ws) (T:=qK xs s) (k:=k+1) ab ab;have zo:xs[k]?=some (xs[k]'(by omega)):=aS ab;obtain⟨x,kf⟩:∃x,x=xs[k]'(by omega):=⟨_,rfl⟩;rw[<-kf]at zo;have y7:(iG xs)[((k:Nat):Int).toNat]?=some (wG x):=iT zo;have wE:(iG (BV ws (qK xs s) (k+1)))[0+k]?=some (wG ((BV ws (qK xs s) (k+1))[k]'(by omega))):=iT (by rw[bc];exact aS _);obtain⟨z,Js⟩:∃z,z=(BV ws (qK xs s) (k+1))[k]'(by omega):=⟨_,rfl⟩;rw[<-Js]at wE;have Pw:=uq (n:=x) (s:=s) ab;cases k with
 |zero=>
  have lT:=Dd (ws:=ws) (Pl (s:=s) zo) ab;rw[Pm]at lT;(repeat first|refine' uD|(refine' oX;(first|exact jA (g:=wG x) (q:=aI y7)|exact kg (nW rfl rfl rfl (br _)) (aT ar Pw)|exact jV 0|exact jS (q:=aI wE));exact kq));have e:(iG (BV ws (qK xs s) (0+1))).set (0+0) (wG (x*2^s%WB))=iG (iH ws 0 (qK xs s)):=by rw[<-lT];exact jo
  rw[show AR g (iH ws 0 (qK xs s))=.arr g WT ((iG (BV ws (qK xs s) (0+1))).set (0+0) (wG (x*2^s%WB)))from aT (MO.arr g WT) e.symm];refine' rB;all_goals rfl
 |succ k=>
  have NC:xs[k]?=some (xs[k]'(by omega)):=aS ab;obtain⟨y,pD⟩:∃y,y=xs[k]'(by omega):=⟨_,rfl⟩;rw[<-pD]at NC;have Iq:i64.wrap (((k+1:Nat):Int)-1)=((k:Nat):Int):=by rw[jD ab];omega
  have D8:(iG xs)[(i64.wrap (((k+1:Nat):Int)-1)).toNat]?=some (wG y):=by rw[Iq,da];exact iT NC
  have lT:=Dd (ws:=ws) (TY (s:=s) ab hx zo NC) ab;have Pu:=xk (n:=y) (s:=64-s) ab;have OC:y/2^(64-s)<WB:=bO (dY _ _) (hx.at NC);have Bo:=MI (a:=x*2^s%WB) (b:=y/2^(64-s)) (bL _ af) OC;obtain⟨A,hA⟩:∃A,A=x*2^s%WB:=⟨_,rfl⟩;obtain⟨B,hB⟩:∃B,B=y/2^(64-s):=⟨_,rfl⟩;rw[<-hA]at Pw Bo lT;rw[<-hB]at Pu Bo lT;(try refine' uD);refine' sQ<;>intro h
  ·clear h;(repeat first|refine' uD|(apply dR rfl rfl;focus(first|exact tP rfl (SZ rfl) rfl rfl rfl rfl af rfl wE (aZ _)))|(refine' oX;(first|exact jA (g:=wG x) (q:=aI y7)|exact jA (g:=wG y) (z:=by rw[Iq];exact br _) (q:=aI D8)|exact nW rfl rfl rfl (br _)|exact pP rfl rfl rfl (br _)|exact jV (k+1));exact kq));exact⟨k,by omega,by omega,iE.le (aD ⟨.inl (aT aq Iq),trivial⟩),
    kW.of_eq (aT (λl=>(⟨[],[],[MO.arr g WT l]⟩:PH)) (by rw[<-lT,Pw,Pu,show GV.int .u64 (u64.wrap (((BitVec.ofInt u64.bits (A:Int) ||| BitVec.ofInt u64.bits (B:Int)).toNat:Nat):Int))=wG (A ||| B)from aT (GV.int .u64) Bo,bc];exact jo))⟩
  exfalso;have:=aX h;omega
variable{x0:Nat}
def ag3{g:Nat}(hx:okW xs)(hv:ws.take n=xs)(h1:1<=n)(hn:n<=ws.length)(hm:n<=100000)(AI:1<=s)(hs:s<64)(sJ:xs[0]?=some x0):
  al 130 [.vw 0 g 0 n cap,.vw 0 g 0 n cap,ar s] ⟨[],[],[AR g ws]⟩ (.g (wG (x0*2^(64-s)%WB))) ⟨[],[],[AR g (iH ws 0 (oe xs s))]⟩:=by
 have hl:xs.length=n:=by rw[<-hv];simp;omega
 have hT:=yX xs s;obtain⟨m,tN⟩:∃m,n=m+1:=⟨n-1,by omega⟩;have js:(((n:Nat):Int) !=((n:Nat):Int))=false:=aa
 have FG:((s:Int)==0)=false:=bk.2 ab;have Bq:(((n:Nat):Int)==0)=false:=bk.2 ab;have ha:=Ja hs;have hb:u64.wrap (64-(s:Int))=((64-s:Nat):Int):=by rw[show(64:Int)-(s:Int)=((64-s:Nat):Int) by omega];exact jz rfl aL
 have hd:=Ja (n:=64-s) ab;have D7:i64.wrap ((n:Int)-1)=((m:Nat):Int):=by rw[jD ab];omega
 have ny:∀k x,k<n->xs[k]?=some x->ws[k]?=some x:=λk x hk h=>by rw[<-hv,bq,aW hk]at h;exact h
 have x8:(iG ws)[0+0]?=some (wG x0):=iT (ny 0 x0 ab sJ);have aiL:=uq (n:=x0) (s:=64-s) ab;obtain⟨C,hC⟩:∃C,C=x0*2^(64-s)%WB:=⟨_,rfl⟩;rw[<-hC]at aiL⊢;refine' eN func130;(repeat first|refine' uD|(refine' oX;exact jL;exact kq));refine' sQ<;>intro h;exfalso;rw[js]at h;cases h;clear h;(try refine' uD);refine' sQ<;>intro h;exfalso;rw[FG]at h;cases h;clear h;(repeat first|refine' uD|(refine' oX;exact jL;exact kq));refine' sQ<;>intro h;exfalso;rw[Bq]at h;cases h;clear h;(repeat first|refine' wb|refine xU [7] rfl ?_);refine ja (env':=iL [(0,.vw 0 g 0 n cap),(1,.vw 0 g 0 n cap),(2,ar s)]) (H':=⟨[],[],[AR g ws]⟩) (iE.le (aA ⟨.inl (aT ar ha),trivial⟩)) aJ ?_;(repeat first|refine' wb|refine xU [8] rfl ?_);refine ja (env':=iL [(0,.vw 0 g 0 n cap),(1,.vw 0 g 0 n cap),(2,ar s),(7,ar ((64-s:Nat):Int))]) (H':=⟨[],[],[AR g ws]⟩) (iE.le (aB ⟨.inl (aT ar hb),trivial⟩)) aJ ?_;(repeat first|refine' wb|refine xU [9] rfl ?_);refine ja (env':=iL [(0,.vw 0 g 0 n cap),(1,.vw 0 g 0 n cap),(2,ar s),(7,ar ((64-s:Nat):Int))]) (H':=⟨[],[],[AR g ws]⟩) (iE.le (aB ⟨.inl (aT ar hd),trivial⟩)) aJ ?_;(repeat first|refine' uD|(refine' oX;(first|exact jV 0|exact jM (q:=aI x8)|exact kg (nW rfl rfl rfl (br _)) (aT ar aiL));exact kq));refine jf (S:=Nat) (λk=>iL [(0,.vw 0 g 0 n cap),(1,.vw 0 g 0 n cap),(2,ar s),(6,.g (wG C)),(7,ar ((64-s:Nat):Int)),(8,aq ((k+1:Nat):Int))]) (λk=>⟨[],[],[AR g (K8 ws (oe xs s) k)]⟩) (λk=>k<=m) (λk=>m-k) 0 (bm _)
  (iE.le an) (kW.of_eq (by rw[Zp])) (λk hk=>?_)
 have zo:xs[k]?=some (xs[k]'(by omega)):=aS ab;obtain⟨x,kf⟩:∃x,x=xs[k]'(by omega):=⟨_,rfl⟩;rw[<-kf]at zo;have y7:(iG (K8 ws (oe xs s) k))[0+k]?=some (wG x):=iT (by rw[bc,TZ (aZ _) ab];exact ny k x ab zo);(repeat first|refine' uD|(refine' oX;exact jL;exact kq));refine' sQ<;>intro h
 ·have iI:k+1<n:=by have:=aU h;omega
  clear h;have NC:xs[k+1]?=some (xs[k+1]'(by omega)):=aS ab;obtain⟨y,pD⟩:∃y,y=xs[k+1]'(by omega):=⟨_,rfl⟩;rw[<-pD]at NC;have D8:(iG (K8 ws (oe xs s) k))[0+(k+1)]?=some (wG y):=iT (by rw[bc,TZ ab ab];exact ny (k+1) y ab NC);have Iq:i64.wrap (((k+1:Nat):Int)-1)=((k:Nat):Int):=by rw[jD ab];omega
  have lT:=Po (ws:=ws) (K7 (s:=s) zo NC) ab;have Pw:=xk (n:=x) (s:=s) ab;have Pu:=uq (n:=y) (s:=64-s) ab;have BL:x/2^s<WB:=bO (dY _ _) (hx.at zo);have Bo:=MI (a:=x/2^s) (b:=y*2^(64-s)%WB) BL (bL _ af);obtain⟨A,hA⟩:∃A,A=x/2^s:=⟨_,rfl⟩;obtain⟨B,hB⟩:∃B,B=y*2^(64-s)%WB:=⟨_,rfl⟩;rw[<-hA]at Pw Bo lT;rw[<-hB]at Pu Bo lT;(repeat first|refine' wc|(apply dR rfl rfl;focus(first|exact lU rfl rfl (AG rfl) rfl rfl y7 rfl|exact lU rfl rfl (AG rfl) rfl rfl D8 rfl|exact tP rfl (SZ rfl) rfl rfl rfl rfl af rfl y7 (aZ _)))|(refine' oX;(first|exact jV k (z:=by exact Iq)|exact jV (k+1)|exact nW rfl rfl rfl (br _)|exact pP rfl rfl rfl (br _));exact kq)|refine' xW [10000]);exact⟨k+1,by omega,by omega,iE.le (aD ⟨.inl (aT aq (by rw[jD ab];omega)),trivial⟩),
   kW.of_eq (aT (λl=>(⟨[],[],[MO.arr g WT l]⟩:PH)) (by rw[<-lT,Pw,Pu,show GV.int .u64 (u64.wrap (((BitVec.ofInt u64.bits (A:Int) ||| BitVec.ofInt u64.bits (B:Int)).toNat:Nat):Int))=wG (A ||| B)from aT (GV.int .u64) Bo,bc];exact jo))⟩
 ·have hkm:k=m:=by have:=aX h;omega
  subst hkm;clear h;have lT:=Po (ws:=ws) (Iv (s:=s) zo ab) ab;rw[show k+1=(oe xs s).length by omega,Zq]at lT;have Pw:=xk (n:=x) (s:=s) ab;(repeat first|refine' uD|(refine' oX;(first|exact jL|exact jV k (z:=by exact D7)|exact jM (q:=aI y7)|exact kg (pP rfl rfl rfl (br _)) (aT ar Pw)|exact jS (q:=aI y7));exact kq));have e:(iG (K8 ws (oe xs s) k)).set (0+k) (wG (x/2^s))=iG (iH ws 0 (oe xs s)):=by rw[<-lT,bc];exact jo
  rw[show AR g (iH ws 0 (oe xs s))=.arr g WT ((iG (K8 ws (oe xs s) k)).set (0+k) (wG (x/2^s)))from aT (MO.arr g WT) e.symm];refine' rB;all_goals rfl
def Lv(args:Array Value)(w:World):(callFunc 164 args).run Tryz.prog w=.ok (.enter 128 args) w:=
 run_callFunc_twin (twin:=f128.name) func164 aj aj aj aj func128 aj aj aj args w
def Lw(args:Array Value)(w:World):(callFunc 160 args).run Tryz.prog w=.ok (.enter 127 args) w:=
 run_callFunc_twin (twin:=f127.name) func160 aj aj aj aj func127 aj aj aj args w
def Lx(args:Array Value)(w:World):(callFunc 199 args).run Tryz.prog w=.ok (.enter 129 args) w:=
 run_callFunc_twin (twin:=f129.name) func199 aj aj aj aj func129 aj aj aj args w
def ag4(args:Array Value)(w:World):(callFunc 225 args).run Tryz.prog w=.ok (.enter 130 args) w:=
 run_callFunc_twin (twin:=f130.name) func225 aj aj aj aj func130 aj aj aj args w
def Uh:al 189 [.ptr 0 0] ⟨[[.jx]],[],[]⟩ (aq 0) ⟨[[.jx]],[],[]⟩:=by refine' eN func189;(repeat' first|refine' uN|refine oQ (z8 rfl underlying219 rfl rfl) ?_|refine' sN<;>intro h|fail);all_goals(refine' rB;all_goals rfl)
def ND{g0 g1 g2 g3:Nat}{w0 w1 w2 w3:List Nat}:PCd Tryz.prog 188 [.ptr 0 0,aq 0] ⟨[[.jx]],[],[AR g0 w0,AR g1 w1,AR g2 w2,AR g3 w3]⟩ ⟨[[.jx]],[],[AR g0 w0,AR g1 w1,AR g2 w2,AR g3 w3]⟩:=by refine AK func188 rfl rfl (rs:=_) (v:=.tuple []) rfl (bz aj) ?_;(repeat' first|refine' uN|refine oQ (z8 rfl underlying219 rfl rfl) ?_|refine' sN<;>intro h|fail);all_goals(refine' rB;all_goals rfl)
variable{c:Nat}
def ID{d:Nat}(hb:b<WB)(hd:d<WB):ak 253 [.g (wG a),.g (wG b),.g (wG c),.g (wG d)] (ax (decide (c*WB+d<a*WB+b))):=by
 obtain⟨x,hx⟩:∃x:Bool,x=decide (c*WB+d<a*WB+b):=⟨_,rfl⟩;rw[<-hx];refine' eN func253;(repeat' first|refine' uN|refine' sN<;>intro h|fail);all_goals(refine' rT)
 have h1:=aU h;have h2:(c+1)*WB<=a*WB:=bg _ ab;rw[bB,c8]at h2;rw[hx,eq_comm,decide_eq_true_iff];omega
 ·have h1:=bQ.1 h;have h2:a=c:=ab
  subst h2;rw[hx];exact gw.2 ⟨λh=>ab,λh=>ab⟩
 rename_i h0;have h1:=bk.1 h;have h2:=aX h0;have h3:(a+1)*WB<=c*WB:=bg _ ab;rw[bB,c8]at h3;rw[hx,eq_comm,cP];omega
end Go.Proofs.YtckjndkmmfmjjaaGreatDoor