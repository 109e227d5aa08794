/- Steps to pointsMake_card. -/
import Derived.Test.YtckjndkmmfmjjaaGreatDoorOwnL
set_option linter.all false
open Go.IntKind (i64)
open Go.Proofs.Tryz
set_option maxRecDepth 100000
set_option maxHeartbeats 32000000
namespace Go.Proofs.YtckjndkmmfmjjaaGreatDoor
end Go.Proofs.YtckjndkmmfmjjaaGreatDoor
namespace Go.Proofs.YtckjndkmmfmjjaaGreatDoor
open Go Go.Pure
attribute [local irreducible] PW jQ ju PO PC lS
def ai3:nI Tryz.prog 82=true:=aj
def PB {V:ByteArray->Bool}(hV:∀s:ByteArray,s.size<=maxLen->ak 82 [ay s] (ax (V s))):
    ∀(v:iD) (n d:Nat),mJ v.g->n<=2000->d<=21->al 55 [.ptr 0 0,.pat v.g.cells,aq d] ⟨[[aq n]],[],[]⟩ (aq (kJ V v n d).2) ⟨[[aq ((kJ V v n d).1:Nat)]],[],[]⟩
  |.mk k y c e t l,n,d,hz,hn,hd=>by
    obtain⟨He,V4⟩:=iD.uX hz;have hts:t.size<=maxLen:=(by simp only[iD.g,mJ,yI]at hz;exact hz.2.2.2.2.1);have g1:(iD.gs l).length=l.length:=(by simp[iD.jd]);have hw:i64.wrap ((n:Int)+1)=((n+1:Nat):Int):=(by rw[wrap64 ab];omega);have hD:=LH c e;have hT:=hV t hts;rw[uY];by_cases h1:2000<n+1∨20<d
    · rw[aW h1]
      refine' eN func55
      (repeat' first|refine' wa|refine xU [4] rfl ?_|refine' sN<;>intro h|fail)
      all_goals(first|(exfalso;first|(simp_all;done)|(simp_all;omega))|(refine' rB;all_goals first|rfl|exact aT (λz=>[[aq z]]) hw))
    · rw[aV h1]
      by_cases h2:k=1∨k=2
      · rw[aW h2]
        refine' eN func55
        (repeat' first|refine' wa|refine xU [9] rfl ?_|refine' sN<;>intro h|fail)
        all_goals(first|(exfalso;first|(simp_all;done)|(simp_all;omega))|(refine' rB;all_goals first|rfl|exact aT (λz=>[[aq z]]) hw))
      · rw[aV h2]
        by_cases h3:k=3
        · subst h3
          rw[aW rfl]
          refine' eN func55
          (repeat' first|refine' wa|refine oQ (iV hD) ?_|refine xU [11] rfl ?_|refine' sN<;>intro h|fail)
          all_goals(first|(exfalso;first|(simp_all;done)|(simp_all;omega))|(refine' rB;all_goals first|rfl|exact aT (λz=>[[aq z]]) hw))
        · rw[aV h3]
          by_cases h4:k=4
          · subst h4
            rw[aW rfl]
            refine' eN func55
            (repeat' first|refine' wa|refine oQ (cl rfl rfl ai3 hT rfl rfl rfl) ?_|refine xU [16] rfl ?_|refine' sN<;>intro h|fail)
            all_goals(first|(exfalso;first|(simp_all;done)|(simp_all;omega))|(refine' rB;all_goals first|rfl|exact aT (λz=>[[aq z]]) hw|(simp_all;done)|(refine aT aq ?_;simp_all;omega)))
          · rw[aV h4]
            by_cases h5:k=5
            · subst h5
              rw[aW rfl]
              by_cases h6:200<l.length
              · rw[aW h6]
                refine' eN func55
                (repeat' first|refine' wa|refine xU [18] rfl ?_|refine' sN<;>intro h|fail)
                all_goals(first|(exfalso;first|(simp_all;done)|(simp_all;omega))|(refine' rB;all_goals first|rfl|exact aT (λz=>[[aq z]]) hw))
              · rw[aV h6]
                have ih:∀x∈l,∀n:Nat,n<=2000->al 55 [.ptr 0 0,.pat x.g.cells,aq ((d+1:Nat):Int)] ⟨[[aq n]],[],[]⟩ (aq (kJ V x n (d+1)).2) ⟨[[aq ((kJ V x n (d+1)).1:Nat)]],[],[]⟩:=λx hx n hn=>PB hV x n (d+1) (V4 x hx) hn ab
                have IE:i64.wrap ((d:Int)+1)=((d+1:Nat):Int):=by rw[wrap64 ab];omega
                generalize hR:oM V l (n+1) (d+1)=R
                refine' eN func55
                (repeat' first|refine' wa|refine xU [18] rfl ?_|refine' sN<;>intro h|fail)
                all_goals(first|(exfalso;first|(simp_all;done)|(simp_all;omega))|skip)
                (try refine' uN)
                refine jf (S:=Nat×Nat) (λs=>iL [(0,.ptr 0 0),(1,.pat (iD.mk 5 y c e t l).g.cells),(2,aq d),(67,aq l.length),(68,aq s.1)])
                  (λs=>⟨[[aq (s.2:Nat)]],[],[]⟩) (λs=>s.1<=l.length∧s.2<=2000∧oM V (l.drop s.1) s.2 (d+1)=R) (λs=>l.length-s.1) (0,n+1) ⟨bm _,by dsimp only;omega,hR⟩
                  (iE.le (aB ⟨.inl (aT (λk:Nat=>aq k) g1),an⟩)) (kW.of_eq ?_) (λs hs=>?_)
                · exact aT (λz=>PH.mk [[aq z]] [] []) hw
                obtain⟨i,m⟩:=s
                obtain⟨hi,hm,kS⟩:=hs
                dsimp only at hi hm kS
                clear h
                (try refine' uN)
                refine' sQ<;>intro h
                · have iI:i<l.length:=by have:=aU h;omega
                  have hg:(iD.gs l)[((i:Int)).toNat]?=some l[i].g:=by rw[iD.jd];exact lg iI
                  have ih:=ih l[i] (bJ iI) m hm
                  have nT:=C8 (V:=V) l[i] m (d+1)
                  rw[bY iI,oM]at kS
                  generalize l[i]=x at hg ih kS nT
                  generalize kJ V x m (d+1)=r at ih kS nT
                  obtain⟨r1,r2⟩:=r
                  obtain⟨x0,x1,x2,x3,x4,x5⟩:=x
                  dsimp only at ih kS nT
                  rw[<-IE]at ih
                  clear h
                  (repeat first|refine' uN|refine oQ (cB [] ih) ?_|refine oQ (jA (q:=aI hg)) ?_)
                  refine' sQ<;>intro h
                  · have js:¬r2=0:=by simpa[bne]using h
                    rw[aV js]at kS
                    subst kS
                    (try refine' uN)
                    refine' rB
                    all_goals rfl
                  · have he:r2=0:=by simpa[bne]using h
                    rw[aW he]at kS
                    (try refine' uN)
                    exact⟨(i+1,r1),⟨iI,(nT he).2,kS⟩,by dsimp only;omega,iE.le (aC ⟨.inl (aT aq (wrap64 ab)),trivial⟩),aJ⟩
                · have lk:i=l.length:=by have:=aX h;omega
                  subst lk
                  rw[dv,oM]at kS
                  subst kS
                  (try refine' uN)
                  refine' rB
                  all_goals rfl
            · rw[aV h5]
              refine' eN func55
              (repeat' first|refine' wa|refine xU [16] rfl ?_|refine' sN<;>intro h|fail)
              all_goals(first|(exfalso;first|(simp_all;done)|(simp_all;omega))|(refine' rB;all_goals first|rfl|exact aT (λz=>[[aq z]]) hw))
variable{V:ByteArray->Bool}
def ZY(hV:∀s:ByteArray,s.size<=maxLen->ak 82 [ay s] (ax (V s)))(k:Int)(y:Bool)(c e:Int)(t:ByteArray)(l:List iD)(hz:mJ (iD.mk k y c e t l).g):
  al 55 [.ptr 0 0,.ptr 1 0,aq 1] ⟨[[aq 0],[aq k,ax y,aq c,aq e,ay t,av (iD.gs l)]],[],[]⟩
   (aq (kJ V (.mk k y c e t l) 0 1).2) ⟨[[aq ((kJ V (.mk k y c e t l) 0 1).1:Nat)],[aq k,ax y,aq c,aq e,ay t,av (iD.gs l)]],[],[]⟩:=by
 obtain⟨He,V4⟩:=iD.uX hz;have hts:t.size<=maxLen:=by simp only[iD.g,mJ,yI]at hz;exact hz.2.2.2.2.1
 have g1:(iD.gs l).length=l.length:=by simp[iD.jd]
 have hD:=LH c e;have hT:=hV t hts;rw[uY,aV af];by_cases h2:k=1∨k=2
 ·rw[aW h2];rcases h2 with rfl|rfl
  all_goals
   refine' eN func55
   (try refine' uN)
   refine' rB
   all_goals rfl
 ·rw[aV h2];by_cases h3:k=3
  ·subst h3;rw[aW rfl];refine' eN func55;(try refine' wk @hD);refine' rB;all_goals rfl
  ·rw[aV h3];by_cases h4:k=4
   ·subst h4;rw[aW rfl];refine' eN func55;(repeat' first|refine' wa|refine oQ (cl rfl rfl ai3 hT rfl rfl rfl) ?_|refine xU [16] rfl ?_|refine' sN<;>intro h|fail);all_goals(first|(exfalso;first|(simp_all;done)|(simp_all;omega))|(refine' rB;all_goals first|rfl|(simp_all;done)|(refine aT aq ?_;simp_all;omega)))
   ·rw[aV h4];by_cases h5:k=5
    ·subst h5;rw[aW rfl];by_cases h6:200<l.length
     ·rw[aW h6];refine' eN func55;(repeat' first|refine' wa|refine xU [18] rfl ?_|refine' sN<;>intro h|fail);all_goals(first|(exfalso;first|(simp_all;done)|(simp_all;omega))|(refine' rB;all_goals rfl))
     ·rw[aV h6];have ih:∀x∈l,∀n:Nat,n<=2000->al 55 [.ptr 0 0,.pat x.g.cells,aq 2] ⟨[[aq n]],[],[]⟩ (aq (kJ V x n 2).2) ⟨[[aq ((kJ V x n 2).1:Nat)]],[],[]⟩:=λx hx n hn=>PB hV x n 2 (V4 x hx) hn ab;generalize hR:oM V l (0+1) (1+1)=R;refine' eN func55;(repeat' first|refine' wa|refine xU [18] rfl ?_|refine' sN<;>intro h|fail);all_goals(first|(exfalso;first|(simp_all;done)|(simp_all;omega))|skip)
      (try refine' uN);refine jf (S:=Nat×Nat) (λs=>iL [(0,.ptr 0 0),(1,.ptr 1 0),(2,aq 1),(67,aq l.length),(68,aq s.1)])
       (λs=>⟨[[aq (s.2:Nat)],[aq 5,ax y,aq c,aq e,ay t,av (iD.gs l)]],[],[]⟩) (λs=>s.1<=l.length∧s.2<=2000∧oM V (l.drop s.1) s.2 2=R) (λs=>l.length-s.1) (0,1) ⟨bm _,by dsimp only;omega,hR⟩
       (iE.le (aB ⟨.inl (aT (λk:Nat=>aq k) g1),an⟩)) aJ (λs hs=>?_)
      obtain⟨i,m⟩:=s;obtain⟨hi,hm,kS⟩:=hs;dsimp only at hi hm kS;clear h;(try refine' uN);refine' sQ<;>intro h
      ·have iI:i<l.length:=(by have:=aU h;omega);have hg:(iD.gs l)[((i:Int)).toNat]?=some l[i].g:=(by rw[iD.jd];exact lg iI);have ih:=ih l[i] (bJ iI) m hm;have nT:=C8 (V:=V) l[i] m 2;rw[bY iI,oM]at kS;generalize l[i]=x at hg ih kS nT;generalize kJ V x m 2=r at ih kS nT;obtain⟨r1,r2⟩:=r;obtain⟨x0,x1,x2,x3,x4,x5⟩:=x;dsimp only at ih kS nT;clear h;(repeat first|refine' uN|refine oQ (cB [] ih) ?_|refine oQ (jA (q:=aI hg)) ?_);refine' sQ<;>intro h
       ·have js:¬r2=0:=(by simpa[bne]using h);rw[aV js]at kS;subst kS;(try refine' uN);refine' rB;all_goals rfl
       have he:r2=0:=(by simpa[bne]using h);rw[aW he]at kS;(try refine' uN);exact⟨(i+1,r1),⟨iI,(nT he).2,kS⟩,by dsimp only;omega,iE.le (aC ⟨.inl (aT aq (wrap64 ab)),trivial⟩),aJ⟩
      ·have lk:i=l.length:=(by have:=aX h;omega);subst lk;rw[dv,oM]at kS;subst kS;(try refine' uN);refine' rB;all_goals rfl
    ·rw[aV h5];refine' eN func55;(repeat' first|refine' wa|refine xU [16] rfl ?_|refine' sN<;>intro h|fail);all_goals(first|(exfalso;first|(simp_all;done)|(simp_all;omega))|(refine' rB;all_goals rfl))
def PD(hV:∀s:ByteArray,s.size<=maxLen->ak 82 [ay s] (ax (V s)))(v:iD)(hz:mJ v.g):
  ak 26 [.g v.g] (aq (kJ V v 0 1).2):=by
 obtain⟨k,y,c,e,t,l⟩:=v;have h:=ZY hV k y c e t l hz;generalize kJ V (.mk k y c e t l) 0 1=r at h;obtain⟨r1,r2⟩:=r;dsimp only at h;refine' eN func26;(try refine' we @h);refine' rT;rfl
end Go.Proofs.YtckjndkmmfmjjaaGreatDoor