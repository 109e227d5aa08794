/- What the program's functions compute, each shown once; and plain laws of it. -/
import Derived.Test.YtdoenpeadkoklaaGreatFmtBesafterOwnF
import Derived.Test.YtdoenpeadkoklaaGreatFmtBesafterPureC
import Derived.Test.YtdoenpeadkoklaaGreatFmtBesafterOwnT
import Derived.Test.YtdoenpeadkoklaaGreatFmtBesafterPureD
set_option maxRecDepth 100000
set_option maxHeartbeats 32000000
namespace Go.Proofs.YtdoenpeadkoklaaGreatFmtBesafter
open Go Go.Pure
attribute [local irreducible] PW POps POpsD PO PC Cond
theorem dec_pc(c e:Int):PC Tryz.prog 58 [.g (.agg [.int .i64 c, .int .i64 e])] ⟨[],[],[]⟩ (.g (.int .i64 (wrongD c e))) ⟨[],[],[]⟩:=by
 unfold wrongD
 refine eN Tryz.func58 ?_
 (repeat' first|refine uA ?_|(apply oR rfl rfl;focus(first|exact PO_rem rfl rfl rfl (by decide)|exact mO))|(refine sQ (fun h=> ?_) (fun h=> ?_)<;>fail_if_success (first|(have:true=true:=h)|(have:false=false:=h)))|fail)
 all_goals(refine rT ?_;simp_all)
 all_goals omega
theorem EN17:enterB Tryz.prog 59=true:=by kernel_rfl
theorem look_pat {V:ByteArray→Bool}(hV: ∀s:ByteArray,s.size≤maxLen→PC Tryz.prog 59 [.g (.str s)] ⟨[],[],[]⟩ (.g (.bool (V s))) ⟨[],[],[]⟩):
    ∀(v:VVal) (n d:Nat),gsz v.g→n≤2000→d≤21→PC Tryz.prog 42 [.ptr 0 0, .pat v.g.cells, .g (.int .i64 d)] ⟨[[.g (.int .i64 n)]],[],[]⟩ (.g (.int .i64 (lookV V v n d).2)) ⟨[[.g (.int .i64 ((lookV V v n d).1:Nat))]],[],[]⟩
  | .mk k y c e t l,n,d,hz,hn,hd=>by
    obtain⟨hla,hma⟩:=VVal.gsz_list hz
    have hts:t.size≤maxLen:=by simp only[VVal.g,gsz,gszs]at hz;exact hz.2.2.2.2.1
    have g1:(VVal.gs l).length=l.length:=by simp[VVal.gs_eq]
    have hw:IntKind.i64.wrap ((n:Int)+1)=((n+1:Nat):Int):=by rw[wrap64 (by omega)];omega
    have hD:=dec_pc c e
    have hT:=hV t hts
    rw[lookV_eq]
    by_cases h1:2000<n+1∨20<d
    · rw[if_pos h1]
      refine eN Tryz.func42 ?_
      (repeat' first|refine uC ?_|(apply oR rfl rfl;focus(first|exact mO))|refine xU [4] rfl ?_|(refine sQ (fun h=> ?_) (fun h=> ?_)<;>fail_if_success (first|(have:true=true:=h)|(have:false=false:=h)))|fail)
      all_goals(first|(exfalso;first|(simp_all;done)|(simp_all;omega))|(refine rB ?_ ?_ ?_;all_goals first|rfl|exact congrArg (fun z=>[[PV.g (.int .i64 z)]]) hw))
    · rw[if_neg h1]
      by_cases h2:k=1∨k=2
      · rw[if_pos h2]
        refine eN Tryz.func42 ?_
        (repeat' first|refine uC ?_|(apply oR rfl rfl;focus(first|exact mO))|refine xU [9] rfl ?_|(refine sQ (fun h=> ?_) (fun h=> ?_)<;>fail_if_success (first|(have:true=true:=h)|(have:false=false:=h)))|fail)
        all_goals(first|(exfalso;first|(simp_all;done)|(simp_all;omega))|(refine rB ?_ ?_ ?_;all_goals first|rfl|exact congrArg (fun z=>[[PV.g (.int .i64 z)]]) hw))
      · rw[if_neg h2]
        by_cases h3:k=3
        · subst h3
          rw[if_pos rfl]
          refine eN Tryz.func42 ?_
          (repeat' first|refine uC ?_|(apply oR rfl rfl;focus(first|exact cqP hD|exact mO))|refine xU [11] rfl ?_|(refine sQ (fun h=> ?_) (fun h=> ?_)<;>fail_if_success (first|(have:true=true:=h)|(have:false=false:=h)))|fail)
          all_goals(first|(exfalso;first|(simp_all;done)|(simp_all;omega))|(refine rB ?_ ?_ ?_;all_goals first|rfl|exact congrArg (fun z=>[[PV.g (.int .i64 z)]]) hw))
        · rw[if_neg h3]
          by_cases h4:k=4
          · subst h4
            rw[if_pos rfl]
            refine eN Tryz.func42 ?_
            (repeat' first|refine uC ?_|(apply oR rfl rfl;focus(first|exact cl rfl rfl EN17 hT rfl rfl rfl|exact mO))|refine xU [16] rfl ?_|(refine sQ (fun h=> ?_) (fun h=> ?_)<;>fail_if_success (first|(have:true=true:=h)|(have:false=false:=h)))|fail)
            all_goals(first|(exfalso;first|(simp_all;done)|(simp_all;omega))|(refine rB ?_ ?_ ?_;all_goals first|rfl|exact congrArg (fun z=>[[PV.g (.int .i64 z)]]) hw|(simp_all;done)|(refine congrArg (fun z=>PV.g (.int .i64 z)) ?_;simp_all;omega)))
          · rw[if_neg h4]
            by_cases h5:k=5
            · subst h5
              rw[if_pos rfl]
              by_cases h6:200<l.length
              · rw[if_pos h6]
                refine eN Tryz.func42 ?_
                (repeat' first|refine uC ?_|(apply oR rfl rfl;focus(first|exact mO))|refine xU [18] rfl ?_|(refine sQ (fun h=> ?_) (fun h=> ?_)<;>fail_if_success (first|(have:true=true:=h)|(have:false=false:=h)))|fail)
                all_goals(first|(exfalso;first|(simp_all;done)|(simp_all;omega))|(refine rB ?_ ?_ ?_;all_goals first|rfl|exact congrArg (fun z=>[[PV.g (.int .i64 z)]]) hw))
              · rw[if_neg h6]
                have ih: ∀x∈l,∀n:Nat,n≤2000→PC Tryz.prog 42 [.ptr 0 0, .pat x.g.cells, .g (.int .i64 ((d+1:Nat):Int))] ⟨[[.g (.int .i64 n)]],[],[]⟩ (.g (.int .i64 (lookV V x n (d+1)).2)) ⟨[[.g (.int .i64 ((lookV V x n (d+1)).1:Nat))]],[],[]⟩:=fun x hx n hn=>look_pat hV x n (d+1) (hma x hx) hn (by omega)
                have hwd:IntKind.i64.wrap ((d:Int)+1)=((d+1:Nat):Int):=by rw[wrap64 (by omega)];omega
                generalize hR:lookVs V l (n+1) (d+1)=R
                refine eN Tryz.func42 ?_
                (repeat' first|refine uC ?_|(apply oR rfl rfl;focus(first|exact mO))|refine xU [18] rfl ?_|(refine sQ (fun h=> ?_) (fun h=> ?_)<;>fail_if_success (first|(have:true=true:=h)|(have:false=false:=h)))|fail)
                all_goals(first|(exfalso;first|(simp_all;done)|(simp_all;omega))|skip)
                (try refine uN ?_)
                refine PW_loop (S:=Nat×Nat) (fun s=>slots [(0, .ptr 0 0),(1, .pat (VVal.mk 5 y c e t l).g.cells),(2, .g (.int .i64 d)),(67, .g (.int .i64 l.length)),(68, .g (.int .i64 s.1))])
                  (fun s=>⟨[[.g (.int .i64 (s.2:Nat))]],[],[]⟩) (fun s=>s.1≤l.length∧s.2≤2000∧lookVs V (l.drop s.1) s.2 (d+1)=R) (fun s=>l.length-s.1) (0,n+1) ⟨Nat.zero_le _,by dsimp only;omega,hR⟩
                  (SlotsOk.le ⟨.inl rfl, .inl rfl, .inl rfl, .inl (congrArg (fun k:Nat=>PV.g (.int .i64 k)) g1), .inl rfl,trivial⟩) (HLe.of_eq ?_) (fun s hs=> ?_)
                · exact congrArg (fun z=>PH.mk [[PV.g (.int .i64 z)]] [] []) hw
                obtain⟨i,m⟩:=s
                obtain⟨hi,hm,hgo⟩:=hs
                dsimp only at hi hm hgo
                clear h
                (try refine uN ?_)
                refine sQ (fun h=> ?_) fun h=> ?_
                · have hlt:i<l.length:=by have:=of_decide_eq_true h;omega
                  have hg:(VVal.gs l)[((i:Int)).toNat]? =some l[i].g:=by rw[VVal.gs_eq];exact map_get hlt
                  have ih:=ih l[i] (List.getElem_mem hlt) m hm
                  have hok:=lookV_ok (V:=V) l[i] m (d+1)
                  rw[List.drop_eq_getElem_cons hlt,lookVs]at hgo
                  generalize l[i]=x at hg ih hgo hok
                  generalize lookV V x m (d+1)=r at ih hgo hok
                  obtain⟨r1,r2⟩:=r
                  obtain⟨x0,x1,x2,x3,x4,x5⟩:=x
                  dsimp only at ih hgo hok
                  rw[←hwd]at ih
                  clear h
                  (repeat first|refine uA ?_|(apply oR rfl rfl;focus(first|exact cb [] rfl rfl (EN rfl) (ih) rfl rfl rfl rfl rfl rfl rfl rfl rfl rfl rfl|exact iA rfl (EL rfl) (SZ rfl) rfl rfl (Int.natCast_nonneg _) hg rfl|exact mO)))
                  refine sQ (fun h=> ?_) fun h=> ?_
                  · have hne: ¬r2=0:=by simpa[bne]using h
                    rw[if_neg hne]at hgo
                    subst hgo
                    (try refine uN ?_)
                    refine rB ?_ ?_ ?_
                    all_goals rfl
                  · have he:r2=0:=by simpa[bne]using h
                    rw[if_pos he]at hgo
                    (try refine uN ?_)
                    exact⟨(i+1,r1),⟨hlt,(hok he).2,hgo⟩,by dsimp only;omega,SlotsOk.le ⟨.inl rfl, .inl rfl, .inl rfl, .inl rfl, .inl (congrArg (fun k=>PV.g (.int .i64 k)) (wrap64 (by omega))),trivial⟩,HLe.of_eq rfl⟩
                · have hi':i=l.length:=by have:=of_decide_eq_false h;omega
                  subst hi'
                  rw[List.drop_length,lookVs]at hgo
                  subst hgo
                  (try refine uN ?_)
                  refine rB ?_ ?_ ?_
                  all_goals rfl
            · rw[if_neg h5]
              refine eN Tryz.func42 ?_
              (repeat' first|refine uC ?_|(apply oR rfl rfl;focus(first|exact mO))|refine xU [16] rfl ?_|(refine sQ (fun h=> ?_) (fun h=> ?_)<;>fail_if_success (first|(have:true=true:=h)|(have:false=false:=h)))|fail)
              all_goals(first|(exfalso;first|(simp_all;done)|(simp_all;omega))|(refine rB ?_ ?_ ?_;all_goals first|rfl|exact congrArg (fun z=>[[PV.g (.int .i64 z)]]) hw))
theorem look_ptr{V:ByteArray→Bool}(hV: ∀s:ByteArray,s.size≤maxLen→PC Tryz.prog 59 [.g (.str s)] ⟨[],[],[]⟩ (.g (.bool (V s))) ⟨[],[],[]⟩)(k:Int)(y:Bool)(c e:Int)(t:ByteArray)(l:List VVal)(hz:gsz (VVal.mk k y c e t l).g):
  PC Tryz.prog 42 [.ptr 0 0, .ptr 1 0, .g (.int .i64 1)] ⟨[[.g (.int .i64 0)],[.g (.int .i64 k), .g (.bool y), .g (.int .i64 c), .g (.int .i64 e), .g (.str t), .g (.sl (VVal.gs l))]],[],[]⟩
   (.g (.int .i64 (lookV V (.mk k y c e t l) 0 1).2)) ⟨[[.g (.int .i64 ((lookV V (.mk k y c e t l) 0 1).1:Nat))],[.g (.int .i64 k), .g (.bool y), .g (.int .i64 c), .g (.int .i64 e), .g (.str t), .g (.sl (VVal.gs l))]],[],[]⟩:=by
 obtain⟨hla,hma⟩:=VVal.gsz_list hz
 have hts:t.size≤maxLen:=by simp only[VVal.g,gsz,gszs]at hz;exact hz.2.2.2.2.1
 have g1:(VVal.gs l).length=l.length:=by simp[VVal.gs_eq]
 have hD:=dec_pc c e
 have hT:=hV t hts
 rw[lookV_eq,if_neg (by decide)]
 by_cases h2:k=1∨k=2
 ·rw[if_pos h2]
  rcases h2 with rfl|rfl
  all_goals
   refine eN Tryz.func42 ?_
   (try refine uN ?_)
   refine rB ?_ ?_ ?_
   all_goals rfl
 ·rw[if_neg h2]
  by_cases h3:k=3
  ·subst h3
   rw[if_pos rfl]
   refine eN Tryz.func42 ?_
   (repeat first|refine uA ?_|(apply oR rfl rfl;focus(first|exact cqP hD|exact mO)))
   refine rB ?_ ?_ ?_
   all_goals rfl
  ·rw[if_neg h3]
   by_cases h4:k=4
   ·subst h4
    rw[if_pos rfl]
    refine eN Tryz.func42 ?_
    (repeat' first|refine uC ?_|(apply oR rfl rfl;focus(first|exact cl rfl rfl EN17 hT rfl rfl rfl|exact mO))|refine xU [16] rfl ?_|(refine sQ (fun h=> ?_) (fun h=> ?_)<;>fail_if_success (first|(have:true=true:=h)|(have:false=false:=h)))|fail)
    all_goals(first|(exfalso;first|(simp_all;done)|(simp_all;omega))|(refine rB ?_ ?_ ?_;all_goals first|rfl|(simp_all;done)|(refine congrArg (fun z=>PV.g (.int .i64 z)) ?_;simp_all;omega)))
   ·rw[if_neg h4]
    by_cases h5:k=5
    ·subst h5
     rw[if_pos rfl]
     by_cases h6:200<l.length
     ·rw[if_pos h6]
      refine eN Tryz.func42 ?_
      (repeat' first|refine uC ?_|(apply oR rfl rfl;focus(first|exact mO))|refine xU [18] rfl ?_|(refine sQ (fun h=> ?_) (fun h=> ?_)<;>fail_if_success (first|(have:true=true:=h)|(have:false=false:=h)))|fail)
      all_goals(first|(exfalso;first|(simp_all;done)|(simp_all;omega))|(refine rB ?_ ?_ ?_;all_goals rfl))
     ·rw[if_neg h6]
      have ih: ∀x∈l,∀n:Nat,n≤2000→PC Tryz.prog 42 [.ptr 0 0, .pat x.g.cells, .g (.int .i64 2)] ⟨[[.g (.int .i64 n)]],[],[]⟩ (.g (.int .i64 (lookV V x n 2).2)) ⟨[[.g (.int .i64 ((lookV V x n 2).1:Nat))]],[],[]⟩:=fun x hx n hn=>look_pat hV x n 2 (hma x hx) hn (by omega)
      generalize hR:lookVs V l (0+1) (1+1)=R
      refine eN Tryz.func42 ?_
      (repeat' first|refine uC ?_|(apply oR rfl rfl;focus(first|exact mO))|refine xU [18] rfl ?_|(refine sQ (fun h=> ?_) (fun h=> ?_)<;>fail_if_success (first|(have:true=true:=h)|(have:false=false:=h)))|fail)
      all_goals(first|(exfalso;first|(simp_all;done)|(simp_all;omega))|skip)
      (try refine uN ?_)
      refine PW_loop (S:=Nat×Nat) (fun s=>slots [(0, .ptr 0 0),(1, .ptr 1 0),(2, .g (.int .i64 1)),(67, .g (.int .i64 l.length)),(68, .g (.int .i64 s.1))])
       (fun s=>⟨[[.g (.int .i64 (s.2:Nat))],[.g (.int .i64 5), .g (.bool y), .g (.int .i64 c), .g (.int .i64 e), .g (.str t), .g (.sl (VVal.gs l))]],[],[]⟩) (fun s=>s.1≤l.length∧s.2≤2000∧lookVs V (l.drop s.1) s.2 2=R) (fun s=>l.length-s.1) (0,1) ⟨Nat.zero_le _,by dsimp only;omega,hR⟩
       (SlotsOk.le ⟨.inl rfl, .inl rfl, .inl rfl, .inl (congrArg (fun k:Nat=>PV.g (.int .i64 k)) g1), .inl rfl,trivial⟩) (HLe.of_eq rfl) (fun s hs=> ?_)
      obtain⟨i,m⟩:=s
      obtain⟨hi,hm,hgo⟩:=hs
      dsimp only at hi hm hgo
      clear h
      (try refine uN ?_)
      refine sQ (fun h=> ?_) fun h=> ?_
      ·have hlt:i<l.length:=by have:=of_decide_eq_true h;omega
       have hg:(VVal.gs l)[((i:Int)).toNat]? =some l[i].g:=by rw[VVal.gs_eq];exact map_get hlt
       have ih:=ih l[i] (List.getElem_mem hlt) m hm
       have hok:=lookV_ok (V:=V) l[i] m 2
       rw[List.drop_eq_getElem_cons hlt,lookVs]at hgo
       generalize l[i]=x at hg ih hgo hok
       generalize lookV V x m 2=r at ih hgo hok
       obtain⟨r1,r2⟩:=r
       obtain⟨x0,x1,x2,x3,x4,x5⟩:=x
       dsimp only at ih hgo hok
       clear h
       (repeat first|refine uA ?_|(apply oR rfl rfl;focus(first|exact cb [] rfl rfl (EN rfl) (ih) rfl rfl rfl rfl rfl rfl rfl rfl rfl rfl rfl|exact iA rfl (EL rfl) (SZ rfl) rfl rfl (Int.natCast_nonneg _) hg rfl|exact mO)))
       refine sQ (fun h=> ?_) fun h=> ?_
       ·have hne: ¬r2=0:=by simpa[bne]using h
        rw[if_neg hne]at hgo
        subst hgo
        (try refine uN ?_)
        refine rB ?_ ?_ ?_
        all_goals rfl
       ·have he:r2=0:=by simpa[bne]using h
        rw[if_pos he]at hgo
        (try refine uN ?_)
        exact⟨(i+1,r1),⟨hlt,(hok he).2,hgo⟩,by dsimp only;omega,SlotsOk.le ⟨.inl rfl, .inl rfl, .inl rfl, .inl rfl, .inl (congrArg (fun k=>PV.g (.int .i64 k)) (wrap64 (by omega))),trivial⟩,HLe.of_eq rfl⟩
      ·have hi':i=l.length:=by have:=of_decide_eq_false h;omega
       subst hi'
       rw[List.drop_length,lookVs]at hgo
       subst hgo
       (try refine uN ?_)
       refine rB ?_ ?_ ?_
       all_goals rfl
    ·rw[if_neg h5]
     refine eN Tryz.func42 ?_
     (repeat' first|refine uC ?_|(apply oR rfl rfl;focus(first|exact mO))|refine xU [16] rfl ?_|(refine sQ (fun h=> ?_) (fun h=> ?_)<;>fail_if_success (first|(have:true=true:=h)|(have:false=false:=h)))|fail)
     all_goals(first|(exfalso;first|(simp_all;done)|(simp_all;omega))|(refine rB ?_ ?_ ?_;all_goals rfl))
theorem wrong_pc{V:ByteArray→Bool}(hV: ∀s:ByteArray,s.size≤maxLen→PC Tryz.prog 59 [.g (.str s)] ⟨[],[],[]⟩ (.g (.bool (V s))) ⟨[],[],[]⟩)(v:VVal)(hz:gsz v.g):
  PC Tryz.prog 23 [.g v.g] ⟨[],[],[]⟩ (.g (.int .i64 (lookV V v 0 1).2)) ⟨[],[],[]⟩:=by
 obtain⟨k,y,c,e,t,l⟩:=v
 have h:=look_ptr hV k y c e t l hz
 generalize lookV V (.mk k y c e t l) 0 1=r at h
 obtain⟨r1,r2⟩:=r
 dsimp only at h
 refine eN Tryz.func23 ?_
 (repeat first|refine uA ?_|(apply oR rfl rfl;focus(first|exact cb [] rfl rfl (EN rfl) (h) rfl rfl rfl rfl rfl rfl rfl rfl rfl rfl rfl|exact mO)))
 refine rT ?_
 rfl
theorem VExpr.gsz_list{k:Int}{v:VVal}{name:ByteArray}{kids:List VExpr}(h:gsz (VExpr.mk k v name kids).g):gsz v.g∧kids.length≤maxLen∧ ∀x∈kids,gsz x.g:=by
 simp only[VExpr.g,gsz]at h
 have h0:=gszs_iff.1 h
 have h1:gsz (.sl (VExpr.gs kids)):=h0 _ (by simp)
 simp only[gsz,VExpr.gs_eq,List.length_map]at h1
 exact⟨gsz_cells.1 (gszs_iff.2 fun x hx=>h0 x (by simp[hx])),h1.1,fun x hx=>gszs_iff.1 h1.2 _ (List.mem_map_of_mem hx)⟩
def kidsR(k:Int):Int×Int×Int:=match kidsN k with
 |none=>(0,0,1)
 |some (m,most)=>(m,most,0)
theorem kids3_pc(k:Int):PC Tryz.prog 22 [.g (.int .i64 k)] ⟨[],[],[]⟩ (.tuple [.g (.int .i64 (kidsR k).1), .g (.int .i64 (kidsR k).2.1), .g (.int .i64 (kidsR k).2.2)]) ⟨[],[],[]⟩:=by
 by_cases h0:k=1∨k=2
 ·rw[show kidsR k=(0,0,0) by unfold kidsR kidsN;rw[if_pos h0]]
  refine eN Tryz.func22 ?_
  (repeat' first|refine uN ?_|(refine sQ (fun h=> ?_) (fun h=> ?_)<;>fail_if_success (first|(have:true=true:=h)|(have:false=false:=h)))|fail)
  all_goals(first|(refine Ret3 (vC vT (vC vT (vC vT vN))) rfl rfl rfl rfl;done)|(exfalso;(try simp only[decide_eq_true_eq,decide_eq_false_iff_not,beq_iff_eq,bne_iff_ne,beq_eq_false_iff_ne,bne_eq_false_iff_eq,Bool.not_eq_true',Bool.not_eq_false',gt_iff_lt,ge_iff_le,ne_eq]at *);omega))
 by_cases h1:k=3
 ·rw[show kidsR k=(1,0,0) by unfold kidsR kidsN;rw[if_neg h0,if_pos h1]]
  refine eN Tryz.func22 ?_
  (repeat' first|refine uN ?_|(refine sQ (fun h=> ?_) (fun h=> ?_)<;>fail_if_success (first|(have:true=true:=h)|(have:false=false:=h)))|fail)
  all_goals(first|(refine Ret3 (vC vT (vC vT (vC vT vN))) rfl rfl rfl rfl;done)|(exfalso;(try simp only[decide_eq_true_eq,decide_eq_false_iff_not,beq_iff_eq,bne_iff_ne,beq_eq_false_iff_ne,bne_eq_false_iff_eq,Bool.not_eq_true',Bool.not_eq_false',gt_iff_lt,ge_iff_le,ne_eq]at *);omega))
 by_cases h2:(4≤k∧k≤16)∨(20≤k∧k≤22)
 ·rw[show kidsR k=(2,0,0) by unfold kidsR kidsN;rw[if_neg h0,if_neg h1,if_pos h2]]
  refine eN Tryz.func22 ?_
  (repeat' first|refine uN ?_|(refine sQ (fun h=> ?_) (fun h=> ?_)<;>fail_if_success (first|(have:true=true:=h)|(have:false=false:=h)))|fail)
  all_goals(first|(refine Ret3 (vC vT (vC vT (vC vT vN))) rfl rfl rfl rfl;done)|(exfalso;(try simp only[decide_eq_true_eq,decide_eq_false_iff_not,beq_iff_eq,bne_iff_ne,beq_eq_false_iff_ne,bne_eq_false_iff_eq,Bool.not_eq_true',Bool.not_eq_false',gt_iff_lt,ge_iff_le,ne_eq]at *);omega))
 by_cases h3:k=17
 ·rw[show kidsR k=(3,0,0) by unfold kidsR kidsN;rw[if_neg h0,if_neg h1,if_neg h2,if_pos h3]]
  refine eN Tryz.func22 ?_
  (repeat' first|refine uN ?_|(refine sQ (fun h=> ?_) (fun h=> ?_)<;>fail_if_success (first|(have:true=true:=h)|(have:false=false:=h)))|fail)
  all_goals(first|(refine Ret3 (vC vT (vC vT (vC vT vN))) rfl rfl rfl rfl;done)|(exfalso;(try simp only[decide_eq_true_eq,decide_eq_false_iff_not,beq_iff_eq,bne_iff_ne,beq_eq_false_iff_ne,bne_eq_false_iff_eq,Bool.not_eq_true',Bool.not_eq_false',gt_iff_lt,ge_iff_le,ne_eq]at *);omega))
 by_cases h4:k=18
 ·rw[show kidsR k=(-1,8,0) by unfold kidsR kidsN;rw[if_neg h0,if_neg h1,if_neg h2,if_neg h3,if_pos h4]]
  refine eN Tryz.func22 ?_
  (repeat' first|refine uN ?_|(refine sQ (fun h=> ?_) (fun h=> ?_)<;>fail_if_success (first|(have:true=true:=h)|(have:false=false:=h)))|fail)
  all_goals(first|(refine Ret3 (vC vT (vC vT (vC vT vN))) rfl rfl rfl rfl;done)|(exfalso;(try simp only[decide_eq_true_eq,decide_eq_false_iff_not,beq_iff_eq,bne_iff_ne,beq_eq_false_iff_ne,bne_eq_false_iff_eq,Bool.not_eq_true',Bool.not_eq_false',gt_iff_lt,ge_iff_le,ne_eq]at *);omega))
 by_cases h5:k=19
 ·rw[show kidsR k=(-1,200,0) by unfold kidsR kidsN;rw[if_neg h0,if_neg h1,if_neg h2,if_neg h3,if_neg h4,if_pos h5]]
  refine eN Tryz.func22 ?_
  (repeat' first|refine uN ?_|(refine sQ (fun h=> ?_) (fun h=> ?_)<;>fail_if_success (first|(have:true=true:=h)|(have:false=false:=h)))|fail)
  all_goals(first|(refine Ret3 (vC vT (vC vT (vC vT vN))) rfl rfl rfl rfl;done)|(exfalso;(try simp only[decide_eq_true_eq,decide_eq_false_iff_not,beq_iff_eq,bne_iff_ne,beq_eq_false_iff_ne,bne_eq_false_iff_eq,Bool.not_eq_true',Bool.not_eq_false',gt_iff_lt,ge_iff_le,ne_eq]at *);omega))
 rw[show kidsR k=(0,0,1) by unfold kidsR kidsN;rw[if_neg h0,if_neg h1,if_neg h2,if_neg h3,if_neg h4,if_neg h5]]
 refine eN Tryz.func22 ?_
 (repeat' first|refine uN ?_|(refine sQ (fun h=> ?_) (fun h=> ?_)<;>fail_if_success (first|(have:true=true:=h)|(have:false=false:=h)))|fail)
 all_goals(first|(refine Ret3 (vC vT (vC vT (vC vT vN))) rfl rfl rfl rfl;done)|(exfalso;(try simp only[decide_eq_true_eq,decide_eq_false_iff_not,beq_iff_eq,bne_iff_ne,beq_eq_false_iff_ne,bne_eq_false_iff_eq,Bool.not_eq_true',Bool.not_eq_false',gt_iff_lt,ge_iff_le,ne_eq]at *);omega))
theorem shape_pat{V nm:ByteArray→Bool}(hV: ∀s:ByteArray,s.size≤maxLen→PC Tryz.prog 59 [.g (.str s)] ⟨[],[],[]⟩ (.g (.bool (V s))) ⟨[],[],[]⟩)
  (hN: ∀s:ByteArray,PC Tryz.prog 9 [.g (.str s)] ⟨[],[],[]⟩ (.g (.bool (nm s))) ⟨[],[],[]⟩):
  ∀(x:VExpr) (n d:Nat),gsz x.g→n≤1000→d≤61→PC Tryz.prog 12 [.ptr 0 0, .pat x.g.cells, .g (.int .i64 d)] ⟨[[.g (.int .i64 n)]],[],[]⟩ (.g (.int .i64 (lookX V nm x n d).2)) ⟨[[.g (.int .i64 ((lookX V nm x n d).1:Nat))]],[],[]⟩
 | .mk k v name kids,n,d,hz,hn,hd=>by
  obtain⟨hzv,hla,hma⟩:=VExpr.gsz_list hz
  have ih: ∀x∈kids,∀m:Nat,m≤1000→d≤60→PC Tryz.prog 12 [.ptr 0 0, .pat x.g.cells, .g (.int .i64 ((d+1:Nat):Int))] ⟨[[.g (.int .i64 m)]],[],[]⟩ (.g (.int .i64 (lookX V nm x m (d+1)).2)) ⟨[[.g (.int .i64 ((lookX V nm x m (d+1)).1:Nat))]],[],[]⟩:=fun x hx m hm hd=>shape_pat hV hN x m (d+1) (hma x hx) hm (by omega)
  clear hma hz
  have g1:(VExpr.gs kids).length=kids.length:=by simp[VExpr.gs_eq]
  have hw:IntKind.i64.wrap ((n:Int)+1)=((n+1:Nat):Int):=by rw[wrap64 (by omega)];omega
  have hWv:=wrong_pc hV v hzv
  have hNm:=hN name
  have hK:=kids3_pc k
  obtain⟨vk,vy,vc,ve,vt,vl⟩:=v
  rw[lookX_eq]
  have hw9: ∀z:Int,IntKind.i64.wrap ((n:Int)+1)=z↔z=((n+1:Nat):Int):=fun z=>by rw[hw];exact⟨fun h=>h.symm,fun h=>h.symm⟩
  by_cases h1:1000<n+1∨60<d
  ·rw[if_pos h1]
   clear ih hK hWv hNm hN hV
   refine eN Tryz.func12 ?_
   (try refine uN ?_)
   refine sQ (fun h=> ?_) fun h=> ?_
   ·clear h
    (try refine uN ?_)
    refine rB ?_ ?_ ?_
    all_goals first|rfl|exact congrArg (fun z=>[[PV.g (.int .i64 z)]]) hw
   ·have h2:=of_decide_eq_false h
    rw[hw]at h2
    (try refine uN ?_)
    refine sQ (fun h=> ?_) fun h=> ?_
    ·clear h
     (try refine uN ?_)
     refine rB ?_ ?_ ?_
     all_goals first|rfl|exact congrArg (fun z=>[[PV.g (.int .i64 z)]]) hw
    ·exfalso
     have h3:=of_decide_eq_false h
     omega
  rw[if_neg h1]
  have hd60:d≤60:=by omega
  have e1: ¬IntKind.i64.wrap ((n:Int)+1)>1000:=by rw[hw];omega
  have e2: ¬(d:Int)>60:=by omega
  unfold kidsR at hK
  cases hm:kidsN k with
  |none=>
   rw[hm]at hK
   dsimp only at hK⊢
   clear ih hWv hNm hN hV
   refine eN Tryz.func12 ?_
   (try refine uN ?_)
   refine sQ (fun h=> ?_) fun h=> ?_
   ·exact absurd (of_decide_eq_true h) e1
   clear h
   (try refine uN ?_)
   refine sQ (fun h=> ?_) fun h=> ?_
   ·exact absurd (of_decide_eq_true h) e2
   clear h
   (repeat first|refine uA ?_|(apply oR rfl rfl;focus(first|exact cqP hK|exact mO)))
   refine rB ?_ ?_ ?_
   all_goals first|rfl|exact congrArg (fun z=>[[PV.g (.int .i64 z)]]) hw
  |some p=>
   obtain⟨m,most⟩:=p
   rw[hm]at hK
   dsimp only at hK⊢
   by_cases hB1:k=1∧litE V (.mk vk vy vc ve vt vl)≠0
   ·rw[if_pos hB1]
    obtain⟨rfl,hB⟩:=hB1
    obtain⟨L,hL⟩: ∃L,litE V (.mk vk vy vc ve vt vl)=L:=⟨_,rfl⟩
    rw[hL]at hB⊢
    unfold litE at hL
    dsimp only at hL
    generalize(lookV V (VVal.mk vk vy vc ve vt vl) 0 1).2=w at hWv hL
    refine eN Tryz.func12 ?_
    (try refine uN ?_)
    refine sQ (fun h=> ?_) fun h=> ?_
    ·exact absurd (of_decide_eq_true h) e1
    clear h
    (try refine uN ?_)
    refine sQ (fun h=> ?_) fun h=> ?_
    ·exact absurd (of_decide_eq_true h) e2
    clear h
    (repeat first|refine uA ?_|(apply oR rfl rfl;focus(first|exact cqP hK|exact cqP hWv|exact mO)))
    refine sQ (fun h=> ?_) fun h=> ?_
    ·have h2:w≠0:=by simpa[bne]using h
     rw[if_pos h2]at hL
     subst hL
     clear h
     (try refine uN ?_)
     refine rB ?_ ?_ ?_
     all_goals first|rfl|exact congrArg (fun z=>[[PV.g (.int .i64 z)]]) hw
    ·have h2:w=0:=by simpa[bne]using h
     rw[if_neg (by omega)]at hL
     have h3:vk=5∨(vk=3∧vc<0):=by
      rcases Classical.em (vk=5∨(vk=3∧vc<0))with h3|h3
      ·exact h3
      ·rw[if_neg h3]at hL;exact absurd hL.symm hB
     rw[if_pos h3]at hL
     subst hL
     clear h hB hK hWv hNm hN hV ih
     (repeat' first|refine uC ?_|(apply oR rfl rfl;focus(first|exact mO))|refine xU [21] rfl ?_|(refine sQ (fun h=> ?_) (fun h=> ?_)<;>fail_if_success (first|(have:true=true:=h)|(have:false=false:=h)))|fail)
     all_goals(first|(refine rB ?_ ?_ ?_;all_goals first|rfl|exact congrArg (fun z=>[[PV.g (.int .i64 z)]]) hw;done)|(exfalso;(try simp only[decide_eq_true_eq,decide_eq_false_iff_not,beq_iff_eq,bne_iff_ne,beq_eq_false_iff_ne,bne_eq_false_iff_eq,Bool.not_eq_true',Bool.not_eq_false',gt_iff_lt,ge_iff_le,ne_eq]at *);omega))
   by_cases hB2:hasName k=true∧nm name=false
   ·rw[if_neg hB1,if_pos hB2]
    rw[hB2.2]at hNm
    have hk5:k=2∨k=18∨k=20∨k=21∨k=22:=of_decide_eq_true hB2.1
    clear hB1 hB2 ih hWv hN hV
    rcases hk5 with rfl|rfl|rfl|rfl|rfl
    all_goals
     refine eN Tryz.func12 ?_
     (try refine uN ?_)
     refine sQ (fun h=> ?_) fun h=> ?_
     ·exact absurd (of_decide_eq_true h) e1
     clear h
     (try refine uN ?_)
     refine sQ (fun h=> ?_) fun h=> ?_
     ·exact absurd (of_decide_eq_true h) e2
     clear h
     (repeat first|refine uA ?_|(apply oR rfl rfl;focus(first|exact cqP hK|exact cqP hNm|exact mO)))
     refine rB ?_ ?_ ?_
     all_goals first|rfl|exact congrArg (fun z=>[[PV.g (.int .i64 z)]]) hw
   rw[if_neg hB1,if_neg hB2]
   refine eN Tryz.func12 ?_
   (try refine uN ?_)
   refine sQ (fun h=> ?_) fun h=> ?_
   ·exact absurd (of_decide_eq_true h) e1
   clear h
   (try refine uN ?_)
   refine sQ (fun h=> ?_) fun h=> ?_
   ·exact absurd (of_decide_eq_true h) e2
   clear h
   (repeat first|refine uC ?_|(apply oR rfl rfl;focus(first|exact cqP hK|exact mO))|refine xU [7] rfl ?_)
   refine PW_cut (slots [(0, .ptr 0 0),(1, .pat (VExpr.mk k (VVal.mk vk vy vc ve vt vl) name kids).g.cells),(2, .g (.int .i64 d)),(7, .g (.int .i64 m)),(8, .g (.int .i64 most))]) ⟨[[.g (.int .i64 (n+1:Nat))]],[],[]⟩ ?_ ?_
   ·by_cases hk1:k=1
    ·subst hk1
     have hl:litE V (.mk vk vy vc ve vt vl)=0:=by
      rcases Classical.em (litE V (.mk vk vy vc ve vt vl)=0)with h3|h3
      ·exact h3
      ·exact absurd ⟨rfl,h3⟩ hB1
     unfold litE at hl
     dsimp only at hl
     generalize(lookV V (VVal.mk vk vy vc ve vt vl) 0 1).2=w at hWv hl
     have hw0:w=0:=by
      rcases Classical.em (w=0)with h3|h3
      ·exact h3
      ·rw[if_pos h3]at hl;exact absurd hl h3
     subst hw0
     rw[if_neg (by decide)]at hl
     have h3: ¬(vk=5∨(vk=3∧vc<0)):=fun h3=>by rw[if_pos h3]at hl;cases hl
     clear hl hB1 hB2 ih hNm hN hV hK
     (repeat first|refine uA ?_|(apply oR rfl rfl;focus(first|exact cqP hWv|exact mO)))
     clear hWv
     (repeat' first|refine uN ?_|(refine sQ (fun h=> ?_) (fun h=> ?_)<;>fail_if_success (first|(have:true=true:=h)|(have:false=false:=h)))|fail)
     all_goals(first|exact⟨SlotsOk.le ⟨.inl rfl, .inl rfl, .inl rfl, .inl rfl, .inl rfl,trivial⟩,HLe.of_eq (congrArg (fun z=>PH.mk [[PV.g (.int .i64 z)]] [] []) hw)⟩|(exfalso;(try simp only[decide_eq_true_eq,decide_eq_false_iff_not,beq_iff_eq,bne_iff_ne,beq_eq_false_iff_ne,bne_eq_false_iff_eq,Bool.not_eq_true',Bool.not_eq_false',gt_iff_lt,ge_iff_le,ne_eq]at *);omega))
    ·by_cases hn5:hasName k=true
     ·have hnt:nm name=true:=by
       cases hq:nm name with
       |true=>rfl
       |false=>exact absurd ⟨hn5,hq⟩ hB2
      rw[hnt]at hNm
      have hk5:k=2∨k=18∨k=20∨k=21∨k=22:=of_decide_eq_true hn5
      clear hB1 hB2 ih hWv hN hV hK hn5
      rcases hk5 with rfl|rfl|rfl|rfl|rfl
      all_goals
       (repeat first|refine uA ?_|(apply oR rfl rfl;focus(first|exact cqP hNm|exact mO)))
       exact⟨SlotsOk.le ⟨.inl rfl, .inl rfl, .inl rfl, .inl rfl, .inl rfl,trivial⟩,HLe.of_eq (congrArg (fun z=>PH.mk [[PV.g (.int .i64 z)]] [] []) hw)⟩
     ·have hk5: ¬(k=2∨k=18∨k=20∨k=21∨k=22):=fun h=>hn5 (decide_eq_true h)
      clear hB1 hB2 ih hWv hN hV hK hNm hn5
      (repeat' first|refine uN ?_|(refine sQ (fun h=> ?_) (fun h=> ?_)<;>fail_if_success (first|(have:true=true:=h)|(have:false=false:=h)))|fail)
      all_goals(first|exact⟨SlotsOk.le ⟨.inl rfl, .inl rfl, .inl rfl, .inl rfl, .inl rfl,trivial⟩,HLe.of_eq (congrArg (fun z=>PH.mk [[PV.g (.int .i64 z)]] [] []) hw)⟩|(exfalso;(try simp only[decide_eq_true_eq,decide_eq_false_iff_not,beq_iff_eq,bne_iff_ne,beq_eq_false_iff_ne,bne_eq_false_iff_eq,Bool.not_eq_true',Bool.not_eq_false',gt_iff_lt,ge_iff_le,ne_eq]at *);omega))
   clear hB1 hB2 hWv hNm hN hV hK e1 e2
   by_cases hC:(0≤m∧(kids.length:Int)≠m)∨(m<0∧most<(kids.length:Int))
   ·rw[if_pos hC]
    clear ih
    (repeat' first|refine uC ?_|(apply oR rfl rfl;focus(first|exact mO))|refine xU [23] rfl ?_|(refine sQ (fun h=> ?_) (fun h=> ?_)<;>fail_if_success (first|(have:true=true:=h)|(have:false=false:=h)))|fail)
    all_goals(first|(refine rB ?_ ?_ ?_;all_goals first|rfl;done)|(exfalso;(try simp only[decide_eq_true_eq,decide_eq_false_iff_not,beq_iff_eq,bne_iff_ne,beq_eq_false_iff_ne,bne_eq_false_iff_eq,Bool.not_eq_true',Bool.not_eq_false',gt_iff_lt,ge_iff_le,ne_eq]at *);omega))
   rw[if_neg hC]
   generalize hR:lookXs V nm kids (n+1) (d+1)=R
   refine PW_cut (slots [(0, .ptr 0 0),(1, .pat (VExpr.mk k (VVal.mk vk vy vc ve vt vl) name kids).g.cells),(2, .g (.int .i64 d)),(113, .g (.bool false))]) ⟨[[.g (.int .i64 (n+1:Nat))]],[],[]⟩ ?_ ?_
   ·clear ih
    (repeat' first|refine uN ?_|(refine sQ (fun h=> ?_) (fun h=> ?_)<;>fail_if_success (first|(have:true=true:=h)|(have:false=false:=h)))|fail)
    all_goals(first|exact⟨SlotsOk.le ⟨.inl rfl, .inl rfl, .inl rfl, .inl rfl,trivial⟩,HLe.of_eq rfl⟩|(exfalso;(try simp only[decide_eq_true_eq,decide_eq_false_iff_not,beq_iff_eq,bne_iff_ne,beq_eq_false_iff_ne,bne_eq_false_iff_eq,Bool.not_eq_true',Bool.not_eq_false',gt_iff_lt,ge_iff_le,ne_eq]at *);omega)|((try simp only[decide_eq_true_eq,decide_eq_false_iff_not,beq_iff_eq,bne_iff_ne,beq_eq_false_iff_ne,bne_eq_false_iff_eq,Bool.not_eq_true',Bool.not_eq_false',gt_iff_lt,ge_iff_le,ne_eq]at *);exact⟨SlotsOk.le ⟨.inl rfl, .inl rfl, .inl rfl, .inl (congrArg (fun b=>PV.g (.bool b)) (decide_eq_false (by omega))),trivial⟩,HLe.of_eq rfl⟩))
   have hwd:IntKind.i64.wrap ((d:Int)+1)=((d+1:Nat):Int):=by rw[wrap64 (by omega)];omega
   clear hC
   (try refine uN ?_)
   refine PW_loop (S:=Nat×Nat) (fun s=>slots [(0, .ptr 0 0),(1, .pat (VExpr.mk k (VVal.mk vk vy vc ve vt vl) name kids).g.cells),(2, .g (.int .i64 d)),(118, .g (.int .i64 kids.length)),(119, .g (.int .i64 s.1))])
    (fun s=>⟨[[.g (.int .i64 (s.2:Nat))]],[],[]⟩) (fun s=>s.1≤kids.length∧s.2≤1000∧lookXs V nm (kids.drop s.1) s.2 (d+1)=R) (fun s=>kids.length-s.1) (0,n+1) ⟨Nat.zero_le _,by dsimp only;omega,hR⟩
    (SlotsOk.le ⟨.inl rfl, .inl rfl, .inl rfl, .inl (congrArg (fun k:Nat=>PV.g (.int .i64 k)) g1), .inl rfl,trivial⟩) (HLe.of_eq rfl) (fun s hs=> ?_)
   obtain⟨i,j⟩:=s
   obtain⟨hi,hj,hgo⟩:=hs
   dsimp only at hi hj hgo
   (try refine uN ?_)
   refine sQ (fun h=> ?_) fun h=> ?_
   ·have hlt:i<kids.length:=by have:=of_decide_eq_true h;dsimp only at this;omega
    have hg:(VExpr.gs kids)[((i:Int)).toNat]? =some kids[i].g:=by rw[VExpr.gs_eq];exact map_get hlt
    have ih:=ih kids[i] (List.getElem_mem hlt) j hj hd60
    have hok:=lookX_ok (V:=V) (nm:=nm) kids[i] j (d+1)
    rw[List.drop_eq_getElem_cons hlt,lookXs_cons]at hgo
    generalize kids[i]=x at hg ih hgo hok
    generalize lookX V nm x j (d+1)=r at ih hgo hok
    obtain⟨r1,r2⟩:=r
    obtain⟨x0,⟨y0,y1,y2,y3,y4,y5⟩,x2,x3⟩:=x
    dsimp only at ih hgo hok
    rw[←hwd]at ih
    clear h
    (repeat first|refine uA ?_|(apply oR rfl rfl;focus(first|exact cb [] rfl rfl (EN rfl) (ih) rfl rfl rfl rfl rfl rfl rfl rfl rfl rfl rfl|exact iA rfl (EL rfl) (SZ rfl) rfl rfl (Int.natCast_nonneg _) hg rfl|exact mO)))
    refine sQ (fun h=> ?_) fun h=> ?_
    ·have hne:r2≠0:=by simpa[bne]using h
     rw[if_pos hne]at hgo
     subst hgo
     (try refine uN ?_)
     refine rB ?_ ?_ ?_
     all_goals rfl
    ·have he:r2=0:=by simpa[bne]using h
     rw[if_neg (fun q=>q he)]at hgo
     (try refine uN ?_)
     exact⟨(i+1,r1),⟨hlt,(hok he).2,hgo⟩,by dsimp only;omega,SlotsOk.le ⟨.inl rfl, .inl rfl, .inl rfl, .inl rfl, .inl (congrArg (fun k=>PV.g (.int .i64 k)) (wrap64 (by unfold maxLen at hla;omega))),trivial⟩,HLe.of_eq rfl⟩
   ·have hi':i=kids.length:=by have:=of_decide_eq_false h;dsimp only at this;omega
    subst hi'
    rw[List.drop_length,lookXs]at hgo
    subst hgo
    (try refine uN ?_)
    refine rB ?_ ?_ ?_
    all_goals rfl
theorem synWrong_pc{V nm:ByteArray→Bool}(hV: ∀s:ByteArray,s.size≤maxLen→PC Tryz.prog 59 [.g (.str s)] ⟨[],[],[]⟩ (.g (.bool (V s))) ⟨[],[],[]⟩)
  (hN: ∀s:ByteArray,PC Tryz.prog 9 [.g (.str s)] ⟨[],[],[]⟩ (.g (.bool (nm s))) ⟨[],[],[]⟩) (x:VExpr) (hz:gsz x.g):PC Tryz.prog 8 [.g x.g] ⟨[],[],[]⟩ (.g (.int .i64 (lookX V nm x 0 1).2)) ⟨[],[],[]⟩:=by
 have h:=shape_pat hV hN x 0 1 hz (by decide) (by decide)
 generalize lookX V nm x 0 1=r at h
 obtain⟨r1,r2⟩:=r
 dsimp only at h
 obtain⟨k,⟨y0,y1,y2,y3,y4,y5⟩,name,kids⟩:=x
 refine eN Tryz.func8 ?_
 refine PW_cutp [(2, .g (.int .i64 0))] 1 (VExpr.mk k (VVal.mk y0 y1 y2 y3 y4 y5) name kids).g.cells ⟨[],[],[]⟩ rfl ?_ ?_
 ·(try refine uN ?_)
  exact⟨SlotsOk.le ⟨.inl rfl,trivial⟩,rfl,HLe.of_eq rfl⟩
 (repeat first|refine uA ?_|(apply oR rfl rfl;focus(first|exact cb [] rfl rfl (EN rfl) (h) rfl rfl rfl rfl rfl rfl rfl rfl rfl rfl rfl|exact mO)))
 refine rT ?_
 rfl
def mayK(kd:Int)(ks:List Int):Bool:=decide (kd=1∨kd=6∨kd∈ks)
def intG(l:List Int):List GV:=l.map (GV.int .i64)
theorem may_pc(kd:Int)(es:List VTy){ks:List Int}(hl:ks.length≤1000):PC Tryz.prog 35 [.g (VTy.mk kd es).g, .g (.sl (intG ks))] ⟨[],[],[]⟩ (.g (.bool (mayK kd ks))) ⟨[],[],[]⟩:=by
 have hgl:(intG ks).length=ks.length:=by simp[intG]
 generalize hR:mayK kd ks=R
 unfold mayK at hR
 refine eN Tryz.func35 ?_
 (try refine uN ?_)
 refine sQ (fun h=> ?_) fun h=> ?_
 ·have h1:kd=1:=eq_of_beq h
  rw[decide_eq_true (.inl h1)]at hR
  subst hR
  clear h
  (try refine uN ?_)
  refine rT ?_
  rfl
 have h1: ¬kd=1:=ne_of_beq_false h
 clear h
 (try refine uN ?_)
 refine sQ (fun h=> ?_) fun h=> ?_
 ·have h2:kd=6:=eq_of_beq h
  rw[decide_eq_true (.inr (.inl h2))]at hR
  subst hR
  clear h
  (try refine uN ?_)
  refine rT ?_
  rfl
 have h2: ¬kd=6:=ne_of_beq_false h
 clear h
 (try refine uN ?_)
 refine PW_loop (S:=Nat) (fun i=>slots [(2, .ptr 0 0),(15, .g (.sl (intG ks))),(16, .g (.int .i64 ks.length)),(17, .g (.int .i64 i))]) (fun _=>⟨[[.g (.int .i64 kd), .g (.sl (VTy.gs es))]],[],[]⟩) (fun i=>i≤ks.length∧ ∀j,j<i→ks[j]? ≠some kd) (fun i=>ks.length-i) 0 ⟨Nat.zero_le _,fun j hj=>absurd hj (Nat.not_lt_zero _)⟩
  (SlotsOk.le ⟨.inl rfl, .inl rfl, .inl (congrArg (fun k:Nat=>PV.g (.int .i64 k)) hgl), .inl rfl,trivial⟩) (HLe.of_eq rfl) (fun i hi=> ?_)
 obtain⟨hi,hno⟩:=hi
 (try refine uN ?_)
 refine sQ (fun h=> ?_) fun h=> ?_
 ·have hlt:i<ks.length:=by have:=of_decide_eq_true h;omega
  clear h
  have hget:ks[i]? =some ks[i]:=List.getElem?_eq_getElem hlt
  have hg:(intG ks)[((i:Int)).toNat]? =some (.int .i64 ks[i]):=by rw[Int.toNat_natCast,intG,List.getElem?_map,hget];rfl
  generalize ks[i]=q at *
  (repeat first|refine uA ?_|(apply oR rfl rfl;focus(first|exact iA rfl (EL rfl) (SZ rfl) rfl rfl (Int.natCast_nonneg _) hg rfl|exact mO)))
  refine sQ (fun h=> ?_) fun h=> ?_
  ·have h3:kd=q:=eq_of_beq h
   rw[decide_eq_true (.inr (.inr (by rw[h3];exact List.mem_of_getElem? hget)))]at hR
   subst hR
   clear h
   (try refine uN ?_)
   refine rT ?_
   rfl
  ·have h3: ¬kd=q:=ne_of_beq_false h
   clear h
   (try refine uN ?_)
   exact⟨i+1,⟨hlt,fun j hj=>by
    rcases Nat.lt_or_ge j i with h|h
    ·exact hno j h
    ·rw[show j=i by omega,hget];exact fun e=>h3 (Option.some.inj e).symm⟩,by omega,SlotsOk.le ⟨.inl rfl, .inl rfl, .inl rfl, .inl (congrArg (fun k=>PV.g (.int .i64 k)) (i64w (by omega))),trivial⟩,HLe.of_eq rfl⟩
 ·have hi':i=ks.length:=by have:=of_decide_eq_false h;omega
  subst hi'
  clear h
  rw[decide_eq_false (fun q=>by
   rcases q with q|q|q
   ·exact h1 q
   ·exact h2 q
   ·obtain⟨j,hj⟩:=List.getElem?_of_mem q
    exact hno j (List.getElem?_eq_some_iff.1 hj).1 hj)]at hR
  subst hR
  (try refine uN ?_)
  refine rT ?_
  rfl
theorem elem_pc{b:Int}(hb:baseK b): ∀n:Nat,PC Tryz.prog 36 [.g (tyL n b).g] ⟨[],[],[]⟩ (.g (tyL (n-1) b).g) ⟨[],[],[]⟩
 |0=>by
  have hof:=of_pc b
  rw[tyZ]
  have h5: ¬b=5:=by rcases hb with rfl|rfl|rfl|rfl|rfl<;>decide
  refine eN Tryz.func36 ?_
  (try refine uN ?_)
  refine sQ (fun h=> ?_) fun h=> ?_
  ·exact absurd (eq_of_beq h) h5
  clear h
  (repeat first|refine uA ?_|(apply oR rfl rfl;focus(first|exact cqP hof|exact mO)))
  refine rT ?_
  rfl
 |n+1=>by
  rw[tyS]
  rw[Nat.add_sub_cancel]
  generalize tyL n b=u
  obtain⟨uk,ues⟩:=u
  refine eN Tryz.func36 ?_
  (repeat first|refine uA ?_|(apply oR rfl rfl;focus(first|exact iA (g:=((VTy.mk uk ues)).g) rfl (EL rfl) (SZ rfl) rfl rfl (by decide) rfl rfl|exact mO)))
  refine rT ?_
  rfl
def kdL(n:Nat)(b:Int):Int:=if n=0 then b else 5
def meetsT:Nat→Int→Nat→Int→Bool
 |m,b,n,c=>if mayK (kdL m b) []=true∨mayK (kdL n c) []=true then true else match m,n with
  |0,0=>decide (b=c)
  |m+1,n+1=>meetsT m b n c
  |_,_=>false
theorem meetsT_eq(m:Nat)(b:Int)(n:Nat)(c:Int):meetsT m b n c=if mayK (kdL m b) []=true∨mayK (kdL n c) []=true then true else match m,n with
  |0,0=>decide (b=c)
  |m+1,n+1=>meetsT m b n c
  |_,_=>false:=meetsT.eq_def m b n c
theorem tyK(n:Nat)(b:Int): ∃es,tyL n b=VTy.mk (kdL n b) es:=by
 cases n with
 |zero=>exact⟨[],rfl⟩
 |succ n=>exact⟨[tyL n b],rfl⟩
theorem meets_pc{b c:Int}(hb:baseK b)(hc:baseK c): ∀m n:Nat,PC Tryz.prog 39 [.g (tyL m b).g, .g (tyL n c).g] ⟨[],[],[]⟩ (.g (.bool (meetsT m b n c))) ⟨[],[],[]⟩
 |m,n=>by
  have ih: ∀m' n',m=m'+1→n=n'+1→PC Tryz.prog 39 [.g (tyL m' b).g, .g (tyL n' c).g] ⟨[],[],[]⟩ (.g (.bool (meetsT m' b n' c))) ⟨[],[],[]⟩:=fun m' n' h1 h2=>meets_pc hb hc m' n'
  have hb5: ¬b=5:=by rcases hb with rfl|rfl|rfl|rfl|rfl<;>decide
  have hc5: ¬c=5:=by rcases hc with rfl|rfl|rfl|rfl|rfl<;>decide
  rw[meetsT_eq]
  match m,n with
  |0,0=>
   have h1:=may_pc b [] (ks:=[]) (by decide)
   have h2:=may_pc c [] (ks:=[]) (by decide)
   rw[show(tyL 0 b).g=(VTy.mk b []).g from rfl,show(tyL 0 c).g=(VTy.mk c []).g from rfl,show kdL 0 b=b from rfl,show kdL 0 c=c from rfl]
   try dsimp only
   clear ih
   generalize mayK b []=B1 at *
   generalize mayK c []=B2 at *
   generalize hR:(if B1=true∨B2=true then true else decide (b=c))=R
   clear hb hc
   refine eN Tryz.func39 ?_
   (repeat' first|refine uE ?_|((first|apply oR rfl rfl|(apply dF rfl rfl rfl;intro _)|(apply dP rfl rfl rfl;intro _)|(apply dL rfl rfl rfl;intro _)|apply dC rfl rfl rfl rfl);(focus(first|exact cqP h1|exact cqP h2|exact mO));try exact kQ)|(refine sQ (fun h=> ?_) (fun h=> ?_)<;>fail_if_success (first|(have:true=true:=h)|(have:false=false:=h)))|fail)
   all_goals(first|(refine rT ?_;first|(simp_all;done)|(simp_all;rfl))|(exfalso;simp_all))
  |0,n+1=>
   have h1:=may_pc b [] (ks:=[]) (by decide)
   have h2:=may_pc 5 [tyL n c] (ks:=[]) (by decide)
   rw[show(tyL 0 b).g=(VTy.mk b []).g from rfl,show(tyL (n+1) c).g=(VTy.mk 5 [tyL n c]).g from rfl,show kdL 0 b=b from rfl,show kdL (n+1) c=5 from rfl]
   try dsimp only
   clear ih
   rw[show mayK 5 []=false from rfl]at h2⊢
   generalize mayK b []=B1 at *
   generalize tyL n c=u at *
   generalize hR:(if B1=true∨false=true then true else false)=R
   clear hb hc
   refine eN Tryz.func39 ?_
   (repeat' first|refine uE ?_|((first|apply oR rfl rfl|(apply dF rfl rfl rfl;intro _)|(apply dP rfl rfl rfl;intro _)|(apply dL rfl rfl rfl;intro _)|apply dC rfl rfl rfl rfl);(focus(first|exact cqP h1|exact cqP h2|exact mO));try exact kQ)|(refine sQ (fun h=> ?_) (fun h=> ?_)<;>fail_if_success (first|(have:true=true:=h)|(have:false=false:=h)))|fail)
   all_goals(first|(refine rT ?_;first|(simp_all;done)|(simp_all;rfl))|(exfalso;simp_all))
  |m+1,0=>
   have h1:=may_pc 5 [tyL m b] (ks:=[]) (by decide)
   have h2:=may_pc c [] (ks:=[]) (by decide)
   rw[show(tyL (m+1) b).g=(VTy.mk 5 [tyL m b]).g from rfl,show(tyL 0 c).g=(VTy.mk c []).g from rfl,show kdL (m+1) b=5 from rfl,show kdL 0 c=c from rfl]
   try dsimp only
   clear ih
   rw[show mayK 5 []=false from rfl]at h1⊢
   generalize mayK c []=B2 at *
   generalize tyL m b=u at *
   generalize hR:(if false=true∨B2=true then true else false)=R
   clear hb hc
   have hc6: ¬5=c:=fun h=>hc5 h.symm
   refine eN Tryz.func39 ?_
   (repeat' first|refine uE ?_|((first|apply oR rfl rfl|(apply dF rfl rfl rfl;intro _)|(apply dP rfl rfl rfl;intro _)|(apply dL rfl rfl rfl;intro _)|apply dC rfl rfl rfl rfl);(focus(first|exact cqP h1|exact cqP h2|exact mO));try exact kQ)|(refine sQ (fun h=> ?_) (fun h=> ?_)<;>fail_if_success (first|(have:true=true:=h)|(have:false=false:=h)))|fail)
   all_goals(first|(refine rT ?_;first|(simp_all;done)|(simp_all;rfl))|(exfalso;simp_all))
  |m+1,n+1=>
   have h1:=may_pc 5 [tyL m b] (ks:=[]) (by decide)
   have h2:=may_pc 5 [tyL n c] (ks:=[]) (by decide)
   have ih:=ih m n rfl rfl
   rw[show(tyL (m+1) b).g=(VTy.mk 5 [tyL m b]).g from rfl,show(tyL (n+1) c).g=(VTy.mk 5 [tyL n c]).g from rfl,show kdL (m+1) b=5 from rfl,show kdL (n+1) c=5 from rfl]
   try dsimp only
   rw[show mayK 5 []=false from rfl]at h1 h2⊢
   rw[if_neg (by decide)]
   generalize meetsT m b n c=R at *
   generalize tyL m b=u at *
   generalize tyL n c=v at *
   obtain⟨uk,ues⟩:=u
   obtain⟨vk,ves⟩:=v
   refine eN Tryz.func39 ?_
   (repeat first|refine uE ?_|((first|apply oR rfl rfl|(apply dF rfl rfl rfl;intro _)|(apply dP rfl rfl rfl;intro _)|(apply dL rfl rfl rfl;intro _)|apply dC rfl rfl rfl rfl);(focus(first|exact cqP h1|exact cqP h2|exact cqP ih|exact iA (g:=((VTy.mk uk ues)).g) rfl (EL rfl) (SZ rfl) rfl rfl (by decide) rfl rfl|exact iA (g:=((VTy.mk vk ves)).g) rfl (EL rfl) (SZ rfl) rfl rfl (by decide) rfl rfl|exact mO));try exact kQ))
   refine rT ?_
   rfl
def sumK(p q:Int):TyP×Bool:=
 if((p=3∨q=3)∧mayK p [3]=true)∧mayK q [3]=true then((0,3),true)
 else if((p=4∨q=4)∧mayK p [4]=true)∧mayK q [4]=true then((0,4),true)else((0,6),mayK p []&&mayK q [])
theorem sum_pc(p q:Int)(es fs:List VTy):PC Tryz.prog 38 [.g (VTy.mk p es).g, .g (VTy.mk q fs).g] ⟨[],[],[]⟩ (.tuple [.g (tyP (sumK p q).1).g, .g (.bool (sumK p q).2)]) ⟨[],[],[]⟩:=by
  have a3:=may_pc p es (ks:=[3]) (by decide)
  have a4:=may_pc p es (ks:=[4]) (by decide)
  have a0:=may_pc p es (ks:=[]) (by decide)
  have b3:=may_pc q fs (ks:=[3]) (by decide)
  have b4:=may_pc q fs (ks:=[4]) (by decide)
  have b0:=may_pc q fs (ks:=[]) (by decide)
  have o3:=of_pc 3
  have o4:=of_pc 4
  have o6:=of_pc 6
  generalize hS:sumK p q=S
  unfold sumK at hS
  generalize mayK p [3]=A3 at *
  generalize mayK p [4]=A4 at *
  generalize mayK p []=A0 at *
  generalize mayK q [3]=B3 at *
  generalize mayK q [4]=B4 at *
  generalize mayK q []=B0 at *
  refine eN Tryz.func38 ?_
  (try refine uD ?_)
  refine PW_loop_n 3 ?_
  (repeat' first|refine uE ?_|((first|apply oR rfl rfl|(apply dF rfl rfl rfl;intro _)|(apply dP rfl rfl rfl;intro _)|(apply dL rfl rfl rfl;intro _)|apply dC rfl rfl rfl rfl);(focus(first|exact cqP a3|exact cqP b3|exact cqP a4|exact cqP b4|exact cqP a0|exact cqP b0|exact cqP o3|exact cqP o4|exact cqP o6|exact iA (g:= .int .i64 3) rfl (EL rfl) (SZ rfl) rfl rfl (by decide) rfl rfl|exact iA (g:= .int .i64 4) rfl (EL rfl) (SZ rfl) rfl rfl (by decide) rfl rfl|exact mO));try exact kQ)|(refine sQ (fun h=> ?_) (fun h=> ?_)<;>fail_if_success (first|(have:true=true:=h)|(have:false=false:=h)))|fail)
  all_goals clear a3 b3 a4 b4 a0 b0 o3 o4 o6
  all_goals(first
    | (have e:S=((0,3),true):=by rw[←hS];exact if_pos (by simp_all)
       subst e
       refine Ret2 (vC (vA (AG rfl) (SZ rfl) rfl rfl (lB rfl)) (vC vT vN)) rfl ?_ ?_<;>rfl)
    | (have e:S=((0,4),true):=by rw[←hS,if_neg (by simp_all)];exact if_pos (by simp_all)
       subst e
       refine Ret2 (vC (vA (AG rfl) (SZ rfl) rfl rfl (lB rfl)) (vC vT vN)) rfl ?_ ?_<;>rfl)
    | (have e:S=((0,6),A0&&B0):=by rw[←hS,if_neg (by simp_all),if_neg (by simp_all)]
       subst e
       refine Ret2 (vC (vA (AG rfl) (SZ rfl) rfl rfl (lB rfl)) (vC vT vN)) rfl ?_ ?_<;>first|rfl|(rw[show(A0&&B0)=false by simp_all];rfl)|(rw[show(A0&&B0)=B0 by simp_all]))
    |(exfalso;simp_all;done))
theorem str_beq(a b:ByteArray):(a==b)=decide (a=b):=by
 rw[Bool.eq_iff_iff,decide_eq_true_eq]
 constructor
 ·intro h
  apply ByteArray.ext
  have:(a.data==b.data)=true:=h
  exact eq_of_beq this
 ·rintro rfl
  show(a.data==a.data)=true
  exact beq_self_eq_true _
theorem PO_packed{P:Program}{o:Oper}{ρ:Operand→PV}{H H':PH}{v:PV}(h:PO P o (fun y=>pack (ρ y)) H v H'):PO P o ρ H v H':=by
 unfold PO at h⊢
 exact fun c ρr hr hx=>h c ρr hr fun x hm=>pack_ok (hx x hm)
def sigT:List (ByteArray×List Int×Int):=[(⟨#[110,111,116]⟩,[2],2),(⟨#[102,108,111,111,114]⟩,[3],3),(⟨#[99,101,105,108,105,110,103]⟩,[3],3),(⟨#[114,111,117,110,100]⟩,[3,3],3),(⟨#[97,98,115]⟩,[3],3),(⟨#[109,105,110]⟩,[5],6),(⟨#[109,97,120]⟩,[5],6),(⟨#[115,117,109]⟩,[5],3),(⟨#[99,111,117,110,116]⟩,[5],3),(⟨#[105,116,101,109]⟩,[5,3],6),(⟨#[99,111,110,99,97,116]⟩,[5,5], -1),(⟨#[114,101,118,101,114,115,101]⟩,[5], -1),(⟨#[100,105,115,116,105,110,99,116]⟩,[5], -1),(⟨#[115,111,114,116]⟩,[5], -1),(⟨#[108,101,110,103,116,104]⟩,[4],3),(⟨#[117,112,112,101,114]⟩,[4],4),(⟨#[108,111,119,101,114]⟩,[4],4),(⟨#[99,111,110,116,97,105,110,115]⟩,[4,4],2),(⟨#[115,116,97,114,116,115]⟩,[4,4],2),(⟨#[101,110,100,115]⟩,[4,4],2),(⟨#[115,117,98,115,116,114,105,110,103]⟩,[4,3,3],4),(⟨#[98,101,116,119,101,101,110]⟩,[0,0,0],2)]
def sigG(p:List Int×Int):GV:= .agg [.sl (intG p.1), .int .i64 p.2]
def sigE(l:List (ByteArray×List Int×Int)):List (GV×GV):=l.map fun p=>(.str p.1,sigG p.2)
def findSig(n:ByteArray):List (ByteArray×List Int×Int)→Option (List Int×Int)
 |[]=>none
 |p::r=>if n=p.1 then some p.2 else findSig n r
theorem findSig_none{n:ByteArray}: ∀{l:List (ByteArray×List Int×Int)},(∀p∈l,n≠p.1)→findSig n l=none
 |[],_=>rfl
 |p::r,h=>by
  rw[findSig,if_neg (h p (by simp))]
  exact findSig_none fun q hq=>h q (by simp[hq])
theorem lookAll_sig(n:ByteArray): ∀(l:List (ByteArray×List Int×Int)),(l.map (·.1)).Nodup→lookAll (.str n) (sigE l)=some ((findSig n l).map sigG)
 |[],_=>rfl
 |p::r,h=>by
  rw[List.map_cons,List.nodup_cons]at h
  have ih:=lookAll_sig n r h.2
  show(match keyEq (.str n) (.str p.1),lookAll (.str n) (sigE r)with|some true,some none=>some (some (sigG p.2))|some false,x=>x|_,_=>none)=_
  rw[ih]
  by_cases hn:n=p.1
  ·have hb:(n==p.1)=true:=(str_beq _ _).trans (decide_eq_true hn)
   rw[findSig_none (fun q hq e=>h.1 (by rw[←hn,e];exact List.mem_map_of_mem hq)),findSig,if_pos hn]
   show(match some (n==p.1),some ((none:Option (List Int×Int)).map sigG)with|some true,some none=>some (some (sigG p.2))|some false,x=>x|_,_=>none)=_
   rw[hb]
   rfl
  ·have hb:(n==p.1)=false:=(str_beq _ _).trans (decide_eq_false hn)
   rw[findSig,if_neg hn]
   show(match some (n==p.1),some ((findSig n r).map sigG)with|some true,some none=>some (some (sigG p.2))|some false,x=>x|_,_=>none)=_
   rw[hb]
theorem sigT_nodup:(sigT.map (·.1)).Nodup:=by decide+kernel
theorem findSig_mem{n:ByteArray}{q:List Int×Int}: ∀{l:List (ByteArray×List Int×Int)},findSig n l=some q→(n,q)∈l
 |p::r,h=>by
  rw[findSig]at h
  split at h
  ·rename_i e
   cases h
   rw[e]
   exact List.mem_cons_self
  ·exact List.mem_cons_of_mem _ (findSig_mem h)
theorem MsS:Tryz.prog.underlying 70=some (.map 9 68):=by kernel_rfl
theorem UsS:Tryz.prog.underlying 9=some .string:=by kernel_rfl
theorem sigs_pc:PC Tryz.prog 19 [] ⟨[],[],[]⟩ (.mp 0) ⟨[],[],[.map (sigE sigT)]⟩:=by
 refine eN Tryz.func19 ?_
 (repeat first|refine uA ?_|(apply oR rfl rfl;focus(first|exact PO_makeMap rfl|exact PO_packed (PO_insert rfl MsS UsS rfl rfl rfl rfl rfl rfl)|exact mO)))
 refine rB ?_ ?_ ?_
 all_goals rfl
end Go.Proofs.YtdoenpeadkoklaaGreatFmtBesafter