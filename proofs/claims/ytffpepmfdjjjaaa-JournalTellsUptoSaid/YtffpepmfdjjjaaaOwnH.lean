/- What the program's functions compute, each shown once; and plain laws of it. -/
import Derived.Test.YtffpepmfdjjjaaaOwnF
import Derived.Test.YtffpepmfdjjjaaaPureG
import Derived.Test.YtffpepmfdjjjaaaPureE
import Derived.Test.YtffpepmfdjjjaaaOwnD
/- What a command that comes in reads as. -/
namespace Go.Proofs.Ytffpepmfdjjjaaa
open Go.Pure

theorem val_in {g : GV} (h : GT Try.prog 113 g) : ∃ v : VVal, g = v.g :=
  val_inv (ti := 3) (tj := 2) (tb := 4) (ts := 9) (TD := 111) (LV := 64) Try.underlying3 Try.underlying2 Try.underlying4 Try.underlying9 ⟨_, Try.underlying113, rfl⟩ ⟨_, Try.underlying111, rfl⟩ Try.underlying64 _ g (Nat.le_refl _) h
theorem expr_in {g : GV} (h : GT Try.prog 121 g) : ∃ v : VExpr, g = v.g :=
  expr_inv (ti := 3) (ts := 9) (TV := 113) (LE := 70) Try.underlying3 Try.underlying9 (fun _ => val_in) ⟨_, Try.underlying121, rfl⟩ Try.underlying70 _ g (Nat.le_refl _) h
theorem test_in {g : GV} (h : GT Try.prog 117 g) : ∃ v : VTest, g = v.g :=
  test_inv (ti := 3) (tb := 4) (TV := 113) (LT := 69) Try.underlying3 Try.underlying4 (fun _ => val_in) ⟨_, Try.underlying117, rfl⟩ Try.underlying69 _ g (Nat.le_refl _) h
theorem col_in {g : GV} (h : GT Try.prog 66 g) : ∃ v : VCol, g = v.g :=
  col_inv (ti := 3) (ts := 9) (LV := 64) Try.underlying3 Try.underlying9 (fun _ => vals_inv (fun _ => val_in) Try.underlying64) ⟨_, Try.underlying66, rfl⟩ h
theorem rule_in {g : GV} (h : GT Try.prog 72 g) : ∃ v : VRule, g = v.g :=
  rule_inv (LT := 69) (LE := 70) (fun _ => tests_inv (fun _ => test_in) Try.underlying69) (fun _ => exprs_inv (fun _ => expr_in) Try.underlying70) ⟨_, Try.underlying72, rfl⟩ h
theorem table_in {g : GV} (h : GT Try.prog 25 g) : ∃ v : VTable, g = v.g :=
  table_inv (ti := 3) (ts := 9) (LC := 22) (LR := 23) Try.underlying3 Try.underlying9 (fun _ => cols_inv (fun _ => col_in) Try.underlying22) (fun _ => rules_inv (fun _ => rule_in) Try.underlying23) ⟨_, Try.underlying25, rfl⟩ h
theorem cmd_in {g : GV} (h : GT Try.prog 27 g) : ∃ v : VCmd, g = v.g :=
  cmd_inv (ti := 3) (ts := 9) (TB := 25) Try.underlying3 Try.underlying9 (fun _ => table_in) ⟨_, Try.underlying27, rfl⟩ h
theorem cmds_in {g : GV} (h : GT Try.prog 51 g) : ∃ l : List VCmd, g = .sl (VCmd.gs l) ∧ gwfs (l.map VCmd.g) := by
  have hw := h.gwf
  obtain ⟨l, rfl⟩ := cmds_inv (TM := 27) (fun _ => cmd_in) Try.underlying51 h
  exact ⟨l, rfl, by simpa [gwf, VCmd.gs] using hw⟩
end Go.Proofs.Ytffpepmfdjjjaaa


namespace Go.Proofs.Ytffpepmfdjjjaaa
open Go.Pure

/-- A number alone. -/
def numT (n : Int) : Tr := .mk 0 n ⟨#[]⟩ []
def flagN (b : Bool) : Int := if b then 1 else 0
/-- A list. -/
def listT (l : List Tr) : Tr := .mk 0 0 ⟨#[]⟩ l
mutual
/-- A value as a tree. -/
def packV : VVal → Tr
  | .mk kind yes coef exp text list => .mk (kind % 256) coef text (numT exp :: numT (flagN yes) :: numT kind :: packVs list)
def packVs : List VVal → List Tr
  | [] => []
  | v :: r => packV v :: packVs r
end
mutual
def packE : VExpr → Tr
  | .mk kind val name kids => .mk 0 kind name [packV val, listT (packEs kids)]
def packEs : List VExpr → List Tr
  | [] => []
  | v :: r => packE v :: packEs r
end
mutual
def packT : VTest → Tr
  | .mk kind a b openA openB kids => .mk 0 kind ⟨#[]⟩ [packV a, packV b, numT (flagN openA), numT (flagN openB), listT (packTs kids)]
def packTs : List VTest → List Tr
  | [] => []
  | v :: r => packT v :: packTs r
end
def packC : VCol → Tr
  | .mk name kind order => .mk 0 kind name [listT (packVs order)]
def packR : VRule → Tr
  | .mk tests outs => .mk 0 0 ⟨#[]⟩ [listT (packTs tests), listT (packEs outs)]
/-- A command as a tree. -/
def packCmd : VCmd → Tr
  | .mk session seq kind (.mk tname policy ins outs rules) name to =>
    .mk 0 kind name [numT session, numT seq, numT to, .mk 0 policy tname [listT (ins.map packC), listT (outs.map packC), listT (rules.map packR)]]
theorem packVs_eq : ∀ l, packVs l = l.map packV
  | [] => rfl
  | v :: r => by simp [packVs, packVs_eq r]
theorem packEs_eq : ∀ l, packEs l = l.map packE
  | [] => rfl
  | v :: r => by simp [packEs, packEs_eq r]
theorem packTs_eq : ∀ l, packTs l = l.map packT
  | [] => rfl
  | v :: r => by simp [packTs, packTs_eq r]
end Go.Proofs.Ytffpepmfdjjjaaa


namespace Go.Proofs.Ytffpepmfdjjjaaa
open Go.Pure

/-! ### Trees taken apart: what comes of it, and whether it was bad. -/
def Tr.tag : Tr → Int | .mk t _ _ _ => t
def Tr.num : Tr → Int | .mk _ n _ _ => n
def Tr.text : Tr → ByteArray | .mk _ _ s _ => s
def partsP (t : Tr) (n : Nat) (b : Bool) : List Tr × Bool := if t.tag = 0 ∧ t.kids.length = n then (t.kids, b) else (List.replicate n (.mk 0 0 ⟨#[]⟩ []), true)
def plainP (t : Tr) (b : Bool) : Int × Bool := (t.num, if t.tag = 0 ∧ t.text = ⟨#[]⟩ ∧ t.kids = [] then b else true)
def flagP (t : Tr) (b : Bool) : Bool × Bool := (decide (t.num = 1), if t.num = 0 ∨ t.num = 1 then (plainP t b).2 else true)
def headP (t : Tr) (b : Bool) : Bool := if t.tag = 0 ∧ t.num = 0 ∧ t.text = ⟨#[]⟩ then b else true
/-- A list's elements, one by one, until one is bad. -/
def goP {α : Type} (one : Tr → Bool → α × Bool) : List Tr → Bool → List α → List α × Bool
  | [], b, acc => (acc, b)
  | k :: r, b, acc => if b = true then ([], true) else goP one r (one k b).2 (acc ++ [(one k b).1])
def listP {α : Type} (one : Tr → Bool → α × Bool) (t : Tr) (b : Bool) : List α × Bool := goP one t.kids (headP t b) []
def noVal : VVal := .mk 0 false 0 0 ⟨#[]⟩ []
mutual
def unV : Tr → Bool → VVal × Bool
  | .mk _ _ _ [], _ => (noVal, true)
  | .mk _ _ _ [_], _ => (noVal, true)
  | .mk _ _ _ [_, _], _ => (noVal, true)
  | .mk tag n text (k0 :: k1 :: k2 :: rest), b =>
    let e := plainP k0 b
    let y := flagP k1 e.2
    let kd := plainP k2 y.2
    let l := goV rest (if tag = kd.1 % 256 then kd.2 else true) []
    (.mk kd.1 y.1 n e.1 text l.1, l.2)
def goV : List Tr → Bool → List VVal → List VVal × Bool
  | [], b, acc => (acc, b)
  | k :: r, b, acc => if b = true then ([], true) else goV r (unV k b).2 (acc ++ [(unV k b).1])
end
mutual
def unE : Tr → Bool → VExpr × Bool
  | .mk tag n text [p0, .mk ptag pn ptext pkids], b =>
    if tag = 0 then
      let v := unV p0 b
      let l := goE pkids (headP (.mk ptag pn ptext pkids) v.2) []
      (.mk n v.1 text l.1, l.2)
    else (.mk n noVal text [], true)
  | .mk _ n text _, _ => (.mk n noVal text [], true)
def goE : List Tr → Bool → List VExpr → List VExpr × Bool
  | [], b, acc => (acc, b)
  | k :: r, b, acc => if b = true then ([], true) else goE r (unE k b).2 (acc ++ [(unE k b).1])
end
mutual
def unT : Tr → Bool → VTest × Bool
  | .mk tag n text [p0, p1, p2, p3, .mk ptag pn ptext pkids], b =>
    if tag = 0 then
      let v := unV p0 (if text = ⟨#[]⟩ then b else true)
      let w := unV p1 v.2
      let f := flagP p2 w.2
      let g := flagP p3 f.2
      let l := goT pkids (headP (.mk ptag pn ptext pkids) g.2) []
      (.mk n v.1 w.1 f.1 g.1 l.1, l.2)
    else (.mk n noVal noVal false false [], true)
  | .mk _ n _ _, _ => (.mk n noVal noVal false false [], true)
def goT : List Tr → Bool → List VTest → List VTest × Bool
  | [], b, acc => (acc, b)
  | k :: r, b, acc => if b = true then ([], true) else goT r (unT k b).2 (acc ++ [(unT k b).1])
end
theorem goV_eq : ∀ l b acc, goV l b acc = goP unV l b acc
  | [], b, acc => by simp [goV, goP]
  | k :: r, b, acc => by simp only [goV, goP, goV_eq r]
theorem goE_eq : ∀ l b acc, goE l b acc = goP unE l b acc
  | [], b, acc => by simp [goE, goP]
  | k :: r, b, acc => by simp only [goE, goP, goE_eq r]
theorem goT_eq : ∀ l b acc, goT l b acc = goP unT l b acc
  | [], b, acc => by simp [goT, goP]
  | k :: r, b, acc => by simp only [goT, goP, goT_eq r]
def unC (t : Tr) (b : Bool) : VCol × Bool :=
  let p := partsP t 1 b
  let l := listP unV (p.1.getD 0 (.mk 0 0 ⟨#[]⟩ [])) p.2
  (.mk t.text t.num l.1, l.2)
def unR (t : Tr) (b : Bool) : VRule × Bool :=
  let p := partsP t 2 b
  let l := listP unT (p.1.getD 0 (.mk 0 0 ⟨#[]⟩ [])) (if t.num = 0 ∧ t.text = ⟨#[]⟩ then p.2 else true)
  let e := listP unE (p.1.getD 1 (.mk 0 0 ⟨#[]⟩ [])) l.2
  (.mk l.1 e.1, e.2)
def noCmd : VCmd := .mk 0 0 0 (.mk ⟨#[]⟩ 0 [] [] []) ⟨#[]⟩ 0
/-- A tree as a command; bad? -/
def unCmd0 (t : Tr) : VCmd × Bool :=
  let p := partsP t 4 false
  let s := plainP (p.1.getD 0 (.mk 0 0 ⟨#[]⟩ [])) p.2
  let q := plainP (p.1.getD 1 (.mk 0 0 ⟨#[]⟩ [])) s.2
  let o := plainP (p.1.getD 2 (.mk 0 0 ⟨#[]⟩ [])) q.2
  let u := p.1.getD 3 (.mk 0 0 ⟨#[]⟩ [])
  let r := partsP u 3 o.2
  let i := listP unC (r.1.getD 0 (.mk 0 0 ⟨#[]⟩ [])) r.2
  let w := listP unC (r.1.getD 1 (.mk 0 0 ⟨#[]⟩ [])) i.2
  let x := listP unR (r.1.getD 2 (.mk 0 0 ⟨#[]⟩ [])) w.2
  (.mk s.1 q.1 t.num (.mk u.text u.num i.1 w.1 x.1) t.text o.1, x.2)
def unCmd (t : Tr) : VCmd × Int := if (unCmd0 t).2 = true then (noCmd, 2) else ((unCmd0 t).1, 0)
end Go.Proofs.Ytffpepmfdjjjaaa


namespace Go.Proofs.Ytffpepmfdjjjaaa
open Go.Pure
attribute [local irreducible] PW POps POpsD PO PC Cond

set_option maxRecDepth 100000 in
set_option maxHeartbeats 4000000 in
theorem manyV_pc (l : List VVal) (h0 : ∀ x ∈ l, PC Try.prog 60 [.g x.g] ⟨[], [], []⟩ (.g (packV x).g) ⟨[], [], []⟩) (hl : gbulks (l.map VVal.g) ≤ 1048576) :
    PC Try.prog 59 [.g (.sl (l.map VVal.g)), .g (.raw (.func (.func 60) #[] #[]))] ⟨[], [], []⟩ (.g (listT (l.map packV)).g) ⟨[], [], []⟩ := by
  have hlen := map_len VVal.one l
  refine PC_of_PW Try.func59 rfl rfl (rs := _) rfl (Nat.le_of_ble_eq_true (by kernel_rfl)) ?_
  (repeat (first | ((first | refine qA ?_ | refine qB ?_ | refine xN ?_ | refine xE ?_ | refine xT ?_); try show PW _ _ _ _ _ _) | refine ro1 tabOk rfl rfl ?_ | refine ro2 tabOk rfl rfl ?_ | refine ro3 tabOk rfl rfl ?_ | refine rd1 tabOk rfl rfl ?_ | refine rd2 tabOk rfl rfl ?_ | refine rd3 tabOk rfl rfl ?_ | ((first | apply oR rfl rfl | (apply dF rfl rfl rfl; intro _) | (apply dP rfl rfl rfl; intro _) | (apply dL rfl rfl rfl; intro _) | apply dC rfl rfl rfl rfl); (focus (first | exact cJ | exact mG | exact bT | exact nD)); try exact kQ) | refine xS ?_ | refine xR ?_ | refine qxa rfl rfl mixed ?_ | refine qxb rfl rfl mixed ?_ | refine qxc rfl rfl mixed ?_ | refine qxd rfl rfl mixed ?_ | refine xB ?_ | refine xt rfl ?_ | refine xf rfl ?_))
  refine PW_bufbox 1 3 30 (SZ rfl) rfl rfl ?_
  refine PW_loop_cut (S := Nat) (fun i => [(0, .g (.sl (l.map VVal.g))), (1, .g (.raw (.func (.func 60) #[] #[]))), (4, .ptr 0 0), (5, .ptr 1 0), (8, .g (.sl (l.map VVal.g))), (9, .g (.int .i64 l.length)), (10, .g (.int .i64 i))])
    (fun i => ⟨[[.g (.int .i64 0), .g (.int .i64 0), .g (.str ⟨#[]⟩), .nils], [.g (.int .i64 0), .g (.int .i64 0), .g (.str ⟨#[]⟩), .own (((l.take i).map packV).map Tr.g) 0]], [(30, i)], []⟩)
    (fun i => i ≤ l.length) (fun i => l.length - i) 0 (Nat.zero_le _) (SlotsOk.le ⟨.inl rfl, .inl rfl, .inl rfl, .inl rfl, .inl rfl, .inl (congrArg (fun k : Nat => PV.g (.int .i64 k)) (List.length_map _)), .inl rfl, trivial⟩) (HLe.of_eq rfl) (fun _ => rfl) (fun i hi => ?_)
  (repeat (first | ((first | refine qA ?_ | refine qB ?_ | refine xN ?_ | refine xE ?_ | refine xT ?_); try show PW _ _ _ _ _ _) | refine ro1 tabOk rfl rfl ?_ | refine ro2 tabOk rfl rfl ?_ | refine ro3 tabOk rfl rfl ?_ | refine rd1 tabOk rfl rfl ?_ | refine rd2 tabOk rfl rfl ?_ | refine rd3 tabOk rfl rfl ?_ | ((first | apply oR rfl rfl | (apply dF rfl rfl rfl; intro _) | (apply dP rfl rfl rfl; intro _) | (apply dL rfl rfl rfl; intro _) | apply dC rfl rfl rfl rfl); (focus (first | exact cJ | exact mG | exact bT | exact nD)); try exact kQ) | refine xS ?_ | refine xR ?_ | refine qxa rfl rfl mixed ?_ | refine qxb rfl rfl mixed ?_ | refine qxc rfl rfl mixed ?_ | refine qxd rfl rfl mixed ?_ | refine xB ?_ | refine xt rfl ?_ | refine xf rfl ?_))
  (first | refine POps_split rfl rfl (fun h => ?_) (fun h => ?_) | refine POpsD_split rfl rfl (fun h => ?_) (fun h => ?_) | refine PW_cond rfl (fun h => ?_) (fun h => ?_))
  · have hlt : i < l.length := by have := of_decide_eq_true h; omega
    have hg := map_get (f := VVal.g) hlt
    have hI := h0 l[i] (List.getElem_mem hlt)
    have hT := map_take (f := fun x => (packV x).g) hlt
    generalize hv : l[i] = v at hg hI hT
    generalize hp : packV v = tr at hI
    obtain ⟨k, y, c, e, s, vs⟩ := v
    obtain ⟨ta, tb, tc, td⟩ := tr
    have hxs : ∀ x ∈ [(Tr.mk ta tb tc td).g], x.cells.length = 4 := by
      intro x hx; rw [List.mem_singleton.1 hx]; exact g_cells _
    (repeat (first | ((first | refine qA ?_ | refine qB ?_ | refine xN ?_ | refine xE ?_ | refine xT ?_); try show PW _ _ _ _ _ _) | refine ro1 tabOk rfl rfl ?_ | refine ro2 tabOk rfl rfl ?_ | refine ro3 tabOk rfl rfl ?_ | refine rd1 tabOk rfl rfl ?_ | refine rd2 tabOk rfl rfl ?_ | refine rd3 tabOk rfl rfl ?_ | ((first | apply oR rfl rfl | (apply dF rfl rfl rfl; intro _) | (apply dP rfl rfl rfl; intro _) | (apply dL rfl rfl rfl; intro _) | apply dC rfl rfl rfl rfl); (focus (first | exact iA rfl (EL rfl) (SZ rfl) rfl rfl (Int.natCast_nonneg _) hg rfl | exact cqP hI | exact aP (xs := [(Tr.mk ta tb tc td).g]) rfl (EL rfl) (SZ rfl) (BY rfl) (ZR rfl) rfl rfl rfl rfl (by simp; omega) hxs (by simp; omega) (by simp [maxLen]; omega) | exact cJ | exact mG | exact bT | exact nD)); try exact kQ) | refine xS ?_ | refine xR ?_ | refine qxa rfl rfl mixed ?_ | refine qxb rfl rfl mixed ?_ | refine qxc rfl rfl mixed ?_ | refine qxd rfl rfl mixed ?_ | refine xB ?_ | refine xt rfl ?_ | refine xf rfl ?_))
    refine ⟨i + 1, hlt, by omega, SlotsOk.le ⟨.inl rfl, .inl rfl, .inl rfl, .inl rfl, .inl rfl, .inl rfl, .inl (congrArg (fun k => PV.g (.int .i64 k)) (wrap64 (by omega))), trivial⟩, Drops.mk [(VVal.mk k y c e s vs).g.cells.map PV.g] [] [] ?_⟩
    rw [List.map_map, List.map_map, show (Tr.g ∘ packV) = (fun x => (packV x).g) from rfl, hT, hp]
    rfl
  · have hi' : i = l.length := by have := of_decide_eq_false h; omega
    subst hi'
    (repeat (first | ((first | refine qA ?_ | refine qB ?_ | refine xN ?_ | refine xE ?_ | refine xT ?_); try show PW _ _ _ _ _ _) | refine ro1 tabOk rfl rfl ?_ | refine ro2 tabOk rfl rfl ?_ | refine ro3 tabOk rfl rfl ?_ | refine rd1 tabOk rfl rfl ?_ | refine rd2 tabOk rfl rfl ?_ | refine rd3 tabOk rfl rfl ?_ | ((first | apply oR rfl rfl | (apply dF rfl rfl rfl; intro _) | (apply dP rfl rfl rfl; intro _) | (apply dL rfl rfl rfl; intro _) | apply dC rfl rfl rfl rfl); (focus (first | exact cJ | exact mG | exact bT | exact nD)); try exact kQ) | refine xS ?_ | refine xR ?_ | refine qxa rfl rfl mixed ?_ | refine qxb rfl rfl mixed ?_ | refine qxc rfl rfl mixed ?_ | refine qxd rfl rfl mixed ?_ | refine xB ?_ | refine xt rfl ?_ | refine xf rfl ?_))
    (first | refine Ret_int (vC vT vN) rfl ?_ | refine Ret_bool (vC vT vN) rfl ?_ | refine Ret_g (vC vT vN) rfl ?_ | refine Ret_int (vC (vA (AG rfl) (SZ rfl) rfl rfl (lB rfl)) vN) rfl ?_ | refine Ret_bool (vC (vA (AG rfl) (SZ rfl) rfl rfl (lB rfl)) vN) rfl ?_ | refine Ret_g (vC (vA (AG rfl) (SZ rfl) rfl rfl (lB rfl)) vN) rfl ?_)
    simp [listT, Tr.g, gs_eq]

set_option maxRecDepth 100000 in
set_option maxHeartbeats 4000000 in
theorem manyE_pc (l : List VExpr) (h0 : ∀ x ∈ l, PC Try.prog 64 [.g x.g] ⟨[], [], []⟩ (.g (packE x).g) ⟨[], [], []⟩) (hl : gbulks (l.map VExpr.g) ≤ 1048576) :
    PC Try.prog 63 [.g (.sl (l.map VExpr.g)), .g (.raw (.func (.func 64) #[] #[]))] ⟨[], [], []⟩ (.g (listT (l.map packE)).g) ⟨[], [], []⟩ := by
  have hlen := map_len VExpr.one l
  refine PC_of_PW Try.func63 rfl rfl (rs := _) rfl (Nat.le_of_ble_eq_true (by kernel_rfl)) ?_
  (repeat (first | ((first | refine qA ?_ | refine qB ?_ | refine xN ?_ | refine xE ?_ | refine xT ?_); try show PW _ _ _ _ _ _) | refine ro1 tabOk rfl rfl ?_ | refine ro2 tabOk rfl rfl ?_ | refine ro3 tabOk rfl rfl ?_ | refine rd1 tabOk rfl rfl ?_ | refine rd2 tabOk rfl rfl ?_ | refine rd3 tabOk rfl rfl ?_ | ((first | apply oR rfl rfl | (apply dF rfl rfl rfl; intro _) | (apply dP rfl rfl rfl; intro _) | (apply dL rfl rfl rfl; intro _) | apply dC rfl rfl rfl rfl); (focus (first | exact cJ | exact mG | exact bT | exact nD)); try exact kQ) | refine xS ?_ | refine xR ?_ | refine qxa rfl rfl mixed ?_ | refine qxb rfl rfl mixed ?_ | refine qxc rfl rfl mixed ?_ | refine qxd rfl rfl mixed ?_ | refine xB ?_ | refine xt rfl ?_ | refine xf rfl ?_))
  refine PW_bufbox 1 3 30 (SZ rfl) rfl rfl ?_
  refine PW_loop_cut (S := Nat) (fun i => [(0, .g (.sl (l.map VExpr.g))), (1, .g (.raw (.func (.func 64) #[] #[]))), (4, .ptr 0 0), (5, .ptr 1 0), (8, .g (.sl (l.map VExpr.g))), (9, .g (.int .i64 l.length)), (10, .g (.int .i64 i))])
    (fun i => ⟨[[.g (.int .i64 0), .g (.int .i64 0), .g (.str ⟨#[]⟩), .nils], [.g (.int .i64 0), .g (.int .i64 0), .g (.str ⟨#[]⟩), .own (((l.take i).map packE).map Tr.g) 0]], [(30, i)], []⟩)
    (fun i => i ≤ l.length) (fun i => l.length - i) 0 (Nat.zero_le _) (SlotsOk.le ⟨.inl rfl, .inl rfl, .inl rfl, .inl rfl, .inl rfl, .inl (congrArg (fun k : Nat => PV.g (.int .i64 k)) (List.length_map _)), .inl rfl, trivial⟩) (HLe.of_eq rfl) (fun _ => rfl) (fun i hi => ?_)
  (repeat (first | ((first | refine qA ?_ | refine qB ?_ | refine xN ?_ | refine xE ?_ | refine xT ?_); try show PW _ _ _ _ _ _) | refine ro1 tabOk rfl rfl ?_ | refine ro2 tabOk rfl rfl ?_ | refine ro3 tabOk rfl rfl ?_ | refine rd1 tabOk rfl rfl ?_ | refine rd2 tabOk rfl rfl ?_ | refine rd3 tabOk rfl rfl ?_ | ((first | apply oR rfl rfl | (apply dF rfl rfl rfl; intro _) | (apply dP rfl rfl rfl; intro _) | (apply dL rfl rfl rfl; intro _) | apply dC rfl rfl rfl rfl); (focus (first | exact cJ | exact mG | exact bT | exact nD)); try exact kQ) | refine xS ?_ | refine xR ?_ | refine qxa rfl rfl mixed ?_ | refine qxb rfl rfl mixed ?_ | refine qxc rfl rfl mixed ?_ | refine qxd rfl rfl mixed ?_ | refine xB ?_ | refine xt rfl ?_ | refine xf rfl ?_))
  (first | refine POps_split rfl rfl (fun h => ?_) (fun h => ?_) | refine POpsD_split rfl rfl (fun h => ?_) (fun h => ?_) | refine PW_cond rfl (fun h => ?_) (fun h => ?_))
  · have hlt : i < l.length := by have := of_decide_eq_true h; omega
    have hg := map_get (f := VExpr.g) hlt
    have hI := h0 l[i] (List.getElem_mem hlt)
    have hT := map_take (f := fun x => (packE x).g) hlt
    generalize hv : l[i] = v at hg hI hT
    generalize hp : packE v = tr at hI
    obtain ⟨k, ⟨vk, vy, vc, ve, vs, vl⟩, n, es⟩ := v
    obtain ⟨ta, tb, tc, td⟩ := tr
    have hxs : ∀ x ∈ [(Tr.mk ta tb tc td).g], x.cells.length = 4 := by
      intro x hx; rw [List.mem_singleton.1 hx]; exact g_cells _
    (repeat (first | ((first | refine qA ?_ | refine qB ?_ | refine xN ?_ | refine xE ?_ | refine xT ?_); try show PW _ _ _ _ _ _) | refine ro1 tabOk rfl rfl ?_ | refine ro2 tabOk rfl rfl ?_ | refine ro3 tabOk rfl rfl ?_ | refine rd1 tabOk rfl rfl ?_ | refine rd2 tabOk rfl rfl ?_ | refine rd3 tabOk rfl rfl ?_ | ((first | apply oR rfl rfl | (apply dF rfl rfl rfl; intro _) | (apply dP rfl rfl rfl; intro _) | (apply dL rfl rfl rfl; intro _) | apply dC rfl rfl rfl rfl); (focus (first | exact iA rfl (EL rfl) (SZ rfl) rfl rfl (Int.natCast_nonneg _) hg rfl | exact cqP hI | exact aP (xs := [(Tr.mk ta tb tc td).g]) rfl (EL rfl) (SZ rfl) (BY rfl) (ZR rfl) rfl rfl rfl rfl (by simp; omega) hxs (by simp; omega) (by simp [maxLen]; omega) | exact cJ | exact mG | exact bT | exact nD)); try exact kQ) | refine xS ?_ | refine xR ?_ | refine qxa rfl rfl mixed ?_ | refine qxb rfl rfl mixed ?_ | refine qxc rfl rfl mixed ?_ | refine qxd rfl rfl mixed ?_ | refine xB ?_ | refine xt rfl ?_ | refine xf rfl ?_))
    refine ⟨i + 1, hlt, by omega, SlotsOk.le ⟨.inl rfl, .inl rfl, .inl rfl, .inl rfl, .inl rfl, .inl rfl, .inl (congrArg (fun k => PV.g (.int .i64 k)) (wrap64 (by omega))), trivial⟩, Drops.mk [(VExpr.mk k (VVal.mk vk vy vc ve vs vl) n es).g.cells.map PV.g] [] [] ?_⟩
    rw [List.map_map, List.map_map, show (Tr.g ∘ packE) = (fun x => (packE x).g) from rfl, hT, hp]
    rfl
  · have hi' : i = l.length := by have := of_decide_eq_false h; omega
    subst hi'
    (repeat (first | ((first | refine qA ?_ | refine qB ?_ | refine xN ?_ | refine xE ?_ | refine xT ?_); try show PW _ _ _ _ _ _) | refine ro1 tabOk rfl rfl ?_ | refine ro2 tabOk rfl rfl ?_ | refine ro3 tabOk rfl rfl ?_ | refine rd1 tabOk rfl rfl ?_ | refine rd2 tabOk rfl rfl ?_ | refine rd3 tabOk rfl rfl ?_ | ((first | apply oR rfl rfl | (apply dF rfl rfl rfl; intro _) | (apply dP rfl rfl rfl; intro _) | (apply dL rfl rfl rfl; intro _) | apply dC rfl rfl rfl rfl); (focus (first | exact cJ | exact mG | exact bT | exact nD)); try exact kQ) | refine xS ?_ | refine xR ?_ | refine qxa rfl rfl mixed ?_ | refine qxb rfl rfl mixed ?_ | refine qxc rfl rfl mixed ?_ | refine qxd rfl rfl mixed ?_ | refine xB ?_ | refine xt rfl ?_ | refine xf rfl ?_))
    (first | refine Ret_int (vC vT vN) rfl ?_ | refine Ret_bool (vC vT vN) rfl ?_ | refine Ret_g (vC vT vN) rfl ?_ | refine Ret_int (vC (vA (AG rfl) (SZ rfl) rfl rfl (lB rfl)) vN) rfl ?_ | refine Ret_bool (vC (vA (AG rfl) (SZ rfl) rfl rfl (lB rfl)) vN) rfl ?_ | refine Ret_g (vC (vA (AG rfl) (SZ rfl) rfl rfl (lB rfl)) vN) rfl ?_)
    simp [listT, Tr.g, gs_eq]

set_option maxRecDepth 100000 in
set_option maxHeartbeats 4000000 in
theorem manyT_pc (l : List VTest) (h0 : ∀ x ∈ l, PC Try.prog 62 [.g x.g] ⟨[], [], []⟩ (.g (packT x).g) ⟨[], [], []⟩) (hl : gbulks (l.map VTest.g) ≤ 1048576) :
    PC Try.prog 61 [.g (.sl (l.map VTest.g)), .g (.raw (.func (.func 62) #[] #[]))] ⟨[], [], []⟩ (.g (listT (l.map packT)).g) ⟨[], [], []⟩ := by
  have hlen := map_len VTest.one l
  refine PC_of_PW Try.func61 rfl rfl (rs := _) rfl (Nat.le_of_ble_eq_true (by kernel_rfl)) ?_
  (repeat (first | ((first | refine qA ?_ | refine qB ?_ | refine xN ?_ | refine xE ?_ | refine xT ?_); try show PW _ _ _ _ _ _) | refine ro1 tabOk rfl rfl ?_ | refine ro2 tabOk rfl rfl ?_ | refine ro3 tabOk rfl rfl ?_ | refine rd1 tabOk rfl rfl ?_ | refine rd2 tabOk rfl rfl ?_ | refine rd3 tabOk rfl rfl ?_ | ((first | apply oR rfl rfl | (apply dF rfl rfl rfl; intro _) | (apply dP rfl rfl rfl; intro _) | (apply dL rfl rfl rfl; intro _) | apply dC rfl rfl rfl rfl); (focus (first | exact cJ | exact mG | exact bT | exact nD)); try exact kQ) | refine xS ?_ | refine xR ?_ | refine qxa rfl rfl mixed ?_ | refine qxb rfl rfl mixed ?_ | refine qxc rfl rfl mixed ?_ | refine qxd rfl rfl mixed ?_ | refine xB ?_ | refine xt rfl ?_ | refine xf rfl ?_))
  refine PW_bufbox 1 3 30 (SZ rfl) rfl rfl ?_
  refine PW_loop_cut (S := Nat) (fun i => [(0, .g (.sl (l.map VTest.g))), (1, .g (.raw (.func (.func 62) #[] #[]))), (4, .ptr 0 0), (5, .ptr 1 0), (8, .g (.sl (l.map VTest.g))), (9, .g (.int .i64 l.length)), (10, .g (.int .i64 i))])
    (fun i => ⟨[[.g (.int .i64 0), .g (.int .i64 0), .g (.str ⟨#[]⟩), .nils], [.g (.int .i64 0), .g (.int .i64 0), .g (.str ⟨#[]⟩), .own (((l.take i).map packT).map Tr.g) 0]], [(30, i)], []⟩)
    (fun i => i ≤ l.length) (fun i => l.length - i) 0 (Nat.zero_le _) (SlotsOk.le ⟨.inl rfl, .inl rfl, .inl rfl, .inl rfl, .inl rfl, .inl (congrArg (fun k : Nat => PV.g (.int .i64 k)) (List.length_map _)), .inl rfl, trivial⟩) (HLe.of_eq rfl) (fun _ => rfl) (fun i hi => ?_)
  (repeat (first | ((first | refine qA ?_ | refine qB ?_ | refine xN ?_ | refine xE ?_ | refine xT ?_); try show PW _ _ _ _ _ _) | refine ro1 tabOk rfl rfl ?_ | refine ro2 tabOk rfl rfl ?_ | refine ro3 tabOk rfl rfl ?_ | refine rd1 tabOk rfl rfl ?_ | refine rd2 tabOk rfl rfl ?_ | refine rd3 tabOk rfl rfl ?_ | ((first | apply oR rfl rfl | (apply dF rfl rfl rfl; intro _) | (apply dP rfl rfl rfl; intro _) | (apply dL rfl rfl rfl; intro _) | apply dC rfl rfl rfl rfl); (focus (first | exact cJ | exact mG | exact bT | exact nD)); try exact kQ) | refine xS ?_ | refine xR ?_ | refine qxa rfl rfl mixed ?_ | refine qxb rfl rfl mixed ?_ | refine qxc rfl rfl mixed ?_ | refine qxd rfl rfl mixed ?_ | refine xB ?_ | refine xt rfl ?_ | refine xf rfl ?_))
  (first | refine POps_split rfl rfl (fun h => ?_) (fun h => ?_) | refine POpsD_split rfl rfl (fun h => ?_) (fun h => ?_) | refine PW_cond rfl (fun h => ?_) (fun h => ?_))
  · have hlt : i < l.length := by have := of_decide_eq_true h; omega
    have hg := map_get (f := VTest.g) hlt
    have hI := h0 l[i] (List.getElem_mem hlt)
    have hT := map_take (f := fun x => (packT x).g) hlt
    generalize hv : l[i] = v at hg hI hT
    generalize hp : packT v = tr at hI
    obtain ⟨k, ⟨vk, vy, vc, ve, vs, vl⟩, ⟨uk, uy, uc, ue, us, ul⟩, oa, ob, es⟩ := v
    obtain ⟨ta, tb, tc, td⟩ := tr
    have hxs : ∀ x ∈ [(Tr.mk ta tb tc td).g], x.cells.length = 4 := by
      intro x hx; rw [List.mem_singleton.1 hx]; exact g_cells _
    (repeat (first | ((first | refine qA ?_ | refine qB ?_ | refine xN ?_ | refine xE ?_ | refine xT ?_); try show PW _ _ _ _ _ _) | refine ro1 tabOk rfl rfl ?_ | refine ro2 tabOk rfl rfl ?_ | refine ro3 tabOk rfl rfl ?_ | refine rd1 tabOk rfl rfl ?_ | refine rd2 tabOk rfl rfl ?_ | refine rd3 tabOk rfl rfl ?_ | ((first | apply oR rfl rfl | (apply dF rfl rfl rfl; intro _) | (apply dP rfl rfl rfl; intro _) | (apply dL rfl rfl rfl; intro _) | apply dC rfl rfl rfl rfl); (focus (first | exact iA rfl (EL rfl) (SZ rfl) rfl rfl (Int.natCast_nonneg _) hg rfl | exact cqP hI | exact aP (xs := [(Tr.mk ta tb tc td).g]) rfl (EL rfl) (SZ rfl) (BY rfl) (ZR rfl) rfl rfl rfl rfl (by simp; omega) hxs (by simp; omega) (by simp [maxLen]; omega) | exact cJ | exact mG | exact bT | exact nD)); try exact kQ) | refine xS ?_ | refine xR ?_ | refine qxa rfl rfl mixed ?_ | refine qxb rfl rfl mixed ?_ | refine qxc rfl rfl mixed ?_ | refine qxd rfl rfl mixed ?_ | refine xB ?_ | refine xt rfl ?_ | refine xf rfl ?_))
    refine ⟨i + 1, hlt, by omega, SlotsOk.le ⟨.inl rfl, .inl rfl, .inl rfl, .inl rfl, .inl rfl, .inl rfl, .inl (congrArg (fun k => PV.g (.int .i64 k)) (wrap64 (by omega))), trivial⟩, Drops.mk [(VTest.mk k (VVal.mk vk vy vc ve vs vl) (VVal.mk uk uy uc ue us ul) oa ob es).g.cells.map PV.g] [] [] ?_⟩
    rw [List.map_map, List.map_map, show (Tr.g ∘ packT) = (fun x => (packT x).g) from rfl, hT, hp]
    rfl
  · have hi' : i = l.length := by have := of_decide_eq_false h; omega
    subst hi'
    (repeat (first | ((first | refine qA ?_ | refine qB ?_ | refine xN ?_ | refine xE ?_ | refine xT ?_); try show PW _ _ _ _ _ _) | refine ro1 tabOk rfl rfl ?_ | refine ro2 tabOk rfl rfl ?_ | refine ro3 tabOk rfl rfl ?_ | refine rd1 tabOk rfl rfl ?_ | refine rd2 tabOk rfl rfl ?_ | refine rd3 tabOk rfl rfl ?_ | ((first | apply oR rfl rfl | (apply dF rfl rfl rfl; intro _) | (apply dP rfl rfl rfl; intro _) | (apply dL rfl rfl rfl; intro _) | apply dC rfl rfl rfl rfl); (focus (first | exact cJ | exact mG | exact bT | exact nD)); try exact kQ) | refine xS ?_ | refine xR ?_ | refine qxa rfl rfl mixed ?_ | refine qxb rfl rfl mixed ?_ | refine qxc rfl rfl mixed ?_ | refine qxd rfl rfl mixed ?_ | refine xB ?_ | refine xt rfl ?_ | refine xf rfl ?_))
    (first | refine Ret_int (vC vT vN) rfl ?_ | refine Ret_bool (vC vT vN) rfl ?_ | refine Ret_g (vC vT vN) rfl ?_ | refine Ret_int (vC (vA (AG rfl) (SZ rfl) rfl rfl (lB rfl)) vN) rfl ?_ | refine Ret_bool (vC (vA (AG rfl) (SZ rfl) rfl rfl (lB rfl)) vN) rfl ?_ | refine Ret_g (vC (vA (AG rfl) (SZ rfl) rfl rfl (lB rfl)) vN) rfl ?_)
    simp [listT, Tr.g, gs_eq]

set_option maxRecDepth 100000 in
set_option maxHeartbeats 4000000 in
theorem manyC_pc (l : List VCol) (h0 : ∀ x ∈ l, PC Try.prog 36 [.g x.g] ⟨[], [], []⟩ (.g (packC x).g) ⟨[], [], []⟩) (hl : gbulks (l.map VCol.g) ≤ 1048576) :
    PC Try.prog 35 [.g (.sl (l.map VCol.g)), .g (.raw (.func (.func 36) #[] #[]))] ⟨[], [], []⟩ (.g (listT (l.map packC)).g) ⟨[], [], []⟩ := by
  have hlen := map_len VCol.one l
  refine PC_of_PW Try.func35 rfl rfl (rs := _) rfl (Nat.le_of_ble_eq_true (by kernel_rfl)) ?_
  (repeat (first | ((first | refine qA ?_ | refine qB ?_ | refine xN ?_ | refine xE ?_ | refine xT ?_); try show PW _ _ _ _ _ _) | refine ro1 tabOk rfl rfl ?_ | refine ro2 tabOk rfl rfl ?_ | refine ro3 tabOk rfl rfl ?_ | refine rd1 tabOk rfl rfl ?_ | refine rd2 tabOk rfl rfl ?_ | refine rd3 tabOk rfl rfl ?_ | ((first | apply oR rfl rfl | (apply dF rfl rfl rfl; intro _) | (apply dP rfl rfl rfl; intro _) | (apply dL rfl rfl rfl; intro _) | apply dC rfl rfl rfl rfl); (focus (first | exact cJ | exact mG | exact bT | exact nD)); try exact kQ) | refine xS ?_ | refine xR ?_ | refine qxa rfl rfl mixed ?_ | refine qxb rfl rfl mixed ?_ | refine qxc rfl rfl mixed ?_ | refine qxd rfl rfl mixed ?_ | refine xB ?_ | refine xt rfl ?_ | refine xf rfl ?_))
  refine PW_bufbox 1 3 30 (SZ rfl) rfl rfl ?_
  refine PW_loop_cut (S := Nat) (fun i => [(0, .g (.sl (l.map VCol.g))), (1, .g (.raw (.func (.func 36) #[] #[]))), (4, .ptr 0 0), (5, .ptr 1 0), (8, .g (.sl (l.map VCol.g))), (9, .g (.int .i64 l.length)), (10, .g (.int .i64 i))])
    (fun i => ⟨[[.g (.int .i64 0), .g (.int .i64 0), .g (.str ⟨#[]⟩), .nils], [.g (.int .i64 0), .g (.int .i64 0), .g (.str ⟨#[]⟩), .own (((l.take i).map packC).map Tr.g) 0]], [(30, i)], []⟩)
    (fun i => i ≤ l.length) (fun i => l.length - i) 0 (Nat.zero_le _) (SlotsOk.le ⟨.inl rfl, .inl rfl, .inl rfl, .inl rfl, .inl rfl, .inl (congrArg (fun k : Nat => PV.g (.int .i64 k)) (List.length_map _)), .inl rfl, trivial⟩) (HLe.of_eq rfl) (fun _ => rfl) (fun i hi => ?_)
  (repeat (first | ((first | refine qA ?_ | refine qB ?_ | refine xN ?_ | refine xE ?_ | refine xT ?_); try show PW _ _ _ _ _ _) | refine ro1 tabOk rfl rfl ?_ | refine ro2 tabOk rfl rfl ?_ | refine ro3 tabOk rfl rfl ?_ | refine rd1 tabOk rfl rfl ?_ | refine rd2 tabOk rfl rfl ?_ | refine rd3 tabOk rfl rfl ?_ | ((first | apply oR rfl rfl | (apply dF rfl rfl rfl; intro _) | (apply dP rfl rfl rfl; intro _) | (apply dL rfl rfl rfl; intro _) | apply dC rfl rfl rfl rfl); (focus (first | exact cJ | exact mG | exact bT | exact nD)); try exact kQ) | refine xS ?_ | refine xR ?_ | refine qxa rfl rfl mixed ?_ | refine qxb rfl rfl mixed ?_ | refine qxc rfl rfl mixed ?_ | refine qxd rfl rfl mixed ?_ | refine xB ?_ | refine xt rfl ?_ | refine xf rfl ?_))
  (first | refine POps_split rfl rfl (fun h => ?_) (fun h => ?_) | refine POpsD_split rfl rfl (fun h => ?_) (fun h => ?_) | refine PW_cond rfl (fun h => ?_) (fun h => ?_))
  · have hlt : i < l.length := by have := of_decide_eq_true h; omega
    have hg := map_get (f := VCol.g) hlt
    have hI := h0 l[i] (List.getElem_mem hlt)
    have hT := map_take (f := fun x => (packC x).g) hlt
    generalize hv : l[i] = v at hg hI hT
    generalize hp : packC v = tr at hI
    obtain ⟨n, k, o⟩ := v
    obtain ⟨ta, tb, tc, td⟩ := tr
    have hxs : ∀ x ∈ [(Tr.mk ta tb tc td).g], x.cells.length = 4 := by
      intro x hx; rw [List.mem_singleton.1 hx]; exact g_cells _
    (repeat (first | ((first | refine qA ?_ | refine qB ?_ | refine xN ?_ | refine xE ?_ | refine xT ?_); try show PW _ _ _ _ _ _) | refine ro1 tabOk rfl rfl ?_ | refine ro2 tabOk rfl rfl ?_ | refine ro3 tabOk rfl rfl ?_ | refine rd1 tabOk rfl rfl ?_ | refine rd2 tabOk rfl rfl ?_ | refine rd3 tabOk rfl rfl ?_ | ((first | apply oR rfl rfl | (apply dF rfl rfl rfl; intro _) | (apply dP rfl rfl rfl; intro _) | (apply dL rfl rfl rfl; intro _) | apply dC rfl rfl rfl rfl); (focus (first | exact iA rfl (EL rfl) (SZ rfl) rfl rfl (Int.natCast_nonneg _) hg rfl | exact cqP hI | exact aP (xs := [(Tr.mk ta tb tc td).g]) rfl (EL rfl) (SZ rfl) (BY rfl) (ZR rfl) rfl rfl rfl rfl (by simp; omega) hxs (by simp; omega) (by simp [maxLen]; omega) | exact cJ | exact mG | exact bT | exact nD)); try exact kQ) | refine xS ?_ | refine xR ?_ | refine qxa rfl rfl mixed ?_ | refine qxb rfl rfl mixed ?_ | refine qxc rfl rfl mixed ?_ | refine qxd rfl rfl mixed ?_ | refine xB ?_ | refine xt rfl ?_ | refine xf rfl ?_))
    refine ⟨i + 1, hlt, by omega, SlotsOk.le ⟨.inl rfl, .inl rfl, .inl rfl, .inl rfl, .inl rfl, .inl rfl, .inl (congrArg (fun k => PV.g (.int .i64 k)) (wrap64 (by omega))), trivial⟩, Drops.mk [(VCol.mk n k o).g.cells.map PV.g] [] [] ?_⟩
    rw [List.map_map, List.map_map, show (Tr.g ∘ packC) = (fun x => (packC x).g) from rfl, hT, hp]
    rfl
  · have hi' : i = l.length := by have := of_decide_eq_false h; omega
    subst hi'
    (repeat (first | ((first | refine qA ?_ | refine qB ?_ | refine xN ?_ | refine xE ?_ | refine xT ?_); try show PW _ _ _ _ _ _) | refine ro1 tabOk rfl rfl ?_ | refine ro2 tabOk rfl rfl ?_ | refine ro3 tabOk rfl rfl ?_ | refine rd1 tabOk rfl rfl ?_ | refine rd2 tabOk rfl rfl ?_ | refine rd3 tabOk rfl rfl ?_ | ((first | apply oR rfl rfl | (apply dF rfl rfl rfl; intro _) | (apply dP rfl rfl rfl; intro _) | (apply dL rfl rfl rfl; intro _) | apply dC rfl rfl rfl rfl); (focus (first | exact cJ | exact mG | exact bT | exact nD)); try exact kQ) | refine xS ?_ | refine xR ?_ | refine qxa rfl rfl mixed ?_ | refine qxb rfl rfl mixed ?_ | refine qxc rfl rfl mixed ?_ | refine qxd rfl rfl mixed ?_ | refine xB ?_ | refine xt rfl ?_ | refine xf rfl ?_))
    (first | refine Ret_int (vC vT vN) rfl ?_ | refine Ret_bool (vC vT vN) rfl ?_ | refine Ret_g (vC vT vN) rfl ?_ | refine Ret_int (vC (vA (AG rfl) (SZ rfl) rfl rfl (lB rfl)) vN) rfl ?_ | refine Ret_bool (vC (vA (AG rfl) (SZ rfl) rfl rfl (lB rfl)) vN) rfl ?_ | refine Ret_g (vC (vA (AG rfl) (SZ rfl) rfl rfl (lB rfl)) vN) rfl ?_)
    simp [listT, Tr.g, gs_eq]

set_option maxRecDepth 100000 in
set_option maxHeartbeats 4000000 in
theorem manyR_pc (l : List VRule) (h0 : ∀ x ∈ l, PC Try.prog 38 [.g x.g] ⟨[], [], []⟩ (.g (packR x).g) ⟨[], [], []⟩) (hl : gbulks (l.map VRule.g) ≤ 1048576) :
    PC Try.prog 37 [.g (.sl (l.map VRule.g)), .g (.raw (.func (.func 38) #[] #[]))] ⟨[], [], []⟩ (.g (listT (l.map packR)).g) ⟨[], [], []⟩ := by
  have hlen := map_len VRule.one l
  refine PC_of_PW Try.func37 rfl rfl (rs := _) rfl (Nat.le_of_ble_eq_true (by kernel_rfl)) ?_
  (repeat (first | ((first | refine qA ?_ | refine qB ?_ | refine xN ?_ | refine xE ?_ | refine xT ?_); try show PW _ _ _ _ _ _) | refine ro1 tabOk rfl rfl ?_ | refine ro2 tabOk rfl rfl ?_ | refine ro3 tabOk rfl rfl ?_ | refine rd1 tabOk rfl rfl ?_ | refine rd2 tabOk rfl rfl ?_ | refine rd3 tabOk rfl rfl ?_ | ((first | apply oR rfl rfl | (apply dF rfl rfl rfl; intro _) | (apply dP rfl rfl rfl; intro _) | (apply dL rfl rfl rfl; intro _) | apply dC rfl rfl rfl rfl); (focus (first | exact cJ | exact mG | exact bT | exact nD)); try exact kQ) | refine xS ?_ | refine xR ?_ | refine qxa rfl rfl mixed ?_ | refine qxb rfl rfl mixed ?_ | refine qxc rfl rfl mixed ?_ | refine qxd rfl rfl mixed ?_ | refine xB ?_ | refine xt rfl ?_ | refine xf rfl ?_))
  refine PW_bufbox 1 3 30 (SZ rfl) rfl rfl ?_
  refine PW_loop_cut (S := Nat) (fun i => [(0, .g (.sl (l.map VRule.g))), (1, .g (.raw (.func (.func 38) #[] #[]))), (4, .ptr 0 0), (5, .ptr 1 0), (8, .g (.sl (l.map VRule.g))), (9, .g (.int .i64 l.length)), (10, .g (.int .i64 i))])
    (fun i => ⟨[[.g (.int .i64 0), .g (.int .i64 0), .g (.str ⟨#[]⟩), .nils], [.g (.int .i64 0), .g (.int .i64 0), .g (.str ⟨#[]⟩), .own (((l.take i).map packR).map Tr.g) 0]], [(30, i)], []⟩)
    (fun i => i ≤ l.length) (fun i => l.length - i) 0 (Nat.zero_le _) (SlotsOk.le ⟨.inl rfl, .inl rfl, .inl rfl, .inl rfl, .inl rfl, .inl (congrArg (fun k : Nat => PV.g (.int .i64 k)) (List.length_map _)), .inl rfl, trivial⟩) (HLe.of_eq rfl) (fun _ => rfl) (fun i hi => ?_)
  (repeat (first | ((first | refine qA ?_ | refine qB ?_ | refine xN ?_ | refine xE ?_ | refine xT ?_); try show PW _ _ _ _ _ _) | refine ro1 tabOk rfl rfl ?_ | refine ro2 tabOk rfl rfl ?_ | refine ro3 tabOk rfl rfl ?_ | refine rd1 tabOk rfl rfl ?_ | refine rd2 tabOk rfl rfl ?_ | refine rd3 tabOk rfl rfl ?_ | ((first | apply oR rfl rfl | (apply dF rfl rfl rfl; intro _) | (apply dP rfl rfl rfl; intro _) | (apply dL rfl rfl rfl; intro _) | apply dC rfl rfl rfl rfl); (focus (first | exact cJ | exact mG | exact bT | exact nD)); try exact kQ) | refine xS ?_ | refine xR ?_ | refine qxa rfl rfl mixed ?_ | refine qxb rfl rfl mixed ?_ | refine qxc rfl rfl mixed ?_ | refine qxd rfl rfl mixed ?_ | refine xB ?_ | refine xt rfl ?_ | refine xf rfl ?_))
  (first | refine POps_split rfl rfl (fun h => ?_) (fun h => ?_) | refine POpsD_split rfl rfl (fun h => ?_) (fun h => ?_) | refine PW_cond rfl (fun h => ?_) (fun h => ?_))
  · have hlt : i < l.length := by have := of_decide_eq_true h; omega
    have hg := map_get (f := VRule.g) hlt
    have hI := h0 l[i] (List.getElem_mem hlt)
    have hT := map_take (f := fun x => (packR x).g) hlt
    generalize hv : l[i] = v at hg hI hT
    generalize hp : packR v = tr at hI
    obtain ⟨t, o⟩ := v
    obtain ⟨ta, tb, tc, td⟩ := tr
    have hxs : ∀ x ∈ [(Tr.mk ta tb tc td).g], x.cells.length = 4 := by
      intro x hx; rw [List.mem_singleton.1 hx]; exact g_cells _
    (repeat (first | ((first | refine qA ?_ | refine qB ?_ | refine xN ?_ | refine xE ?_ | refine xT ?_); try show PW _ _ _ _ _ _) | refine ro1 tabOk rfl rfl ?_ | refine ro2 tabOk rfl rfl ?_ | refine ro3 tabOk rfl rfl ?_ | refine rd1 tabOk rfl rfl ?_ | refine rd2 tabOk rfl rfl ?_ | refine rd3 tabOk rfl rfl ?_ | ((first | apply oR rfl rfl | (apply dF rfl rfl rfl; intro _) | (apply dP rfl rfl rfl; intro _) | (apply dL rfl rfl rfl; intro _) | apply dC rfl rfl rfl rfl); (focus (first | exact iA rfl (EL rfl) (SZ rfl) rfl rfl (Int.natCast_nonneg _) hg rfl | exact cqP hI | exact aP (xs := [(Tr.mk ta tb tc td).g]) rfl (EL rfl) (SZ rfl) (BY rfl) (ZR rfl) rfl rfl rfl rfl (by simp; omega) hxs (by simp; omega) (by simp [maxLen]; omega) | exact cJ | exact mG | exact bT | exact nD)); try exact kQ) | refine xS ?_ | refine xR ?_ | refine qxa rfl rfl mixed ?_ | refine qxb rfl rfl mixed ?_ | refine qxc rfl rfl mixed ?_ | refine qxd rfl rfl mixed ?_ | refine xB ?_ | refine xt rfl ?_ | refine xf rfl ?_))
    refine ⟨i + 1, hlt, by omega, SlotsOk.le ⟨.inl rfl, .inl rfl, .inl rfl, .inl rfl, .inl rfl, .inl rfl, .inl (congrArg (fun k => PV.g (.int .i64 k)) (wrap64 (by omega))), trivial⟩, Drops.mk [(VRule.mk t o).g.cells.map PV.g] [] [] ?_⟩
    rw [List.map_map, List.map_map, show (Tr.g ∘ packR) = (fun x => (packR x).g) from rfl, hT, hp]
    rfl
  · have hi' : i = l.length := by have := of_decide_eq_false h; omega
    subst hi'
    (repeat (first | ((first | refine qA ?_ | refine qB ?_ | refine xN ?_ | refine xE ?_ | refine xT ?_); try show PW _ _ _ _ _ _) | refine ro1 tabOk rfl rfl ?_ | refine ro2 tabOk rfl rfl ?_ | refine ro3 tabOk rfl rfl ?_ | refine rd1 tabOk rfl rfl ?_ | refine rd2 tabOk rfl rfl ?_ | refine rd3 tabOk rfl rfl ?_ | ((first | apply oR rfl rfl | (apply dF rfl rfl rfl; intro _) | (apply dP rfl rfl rfl; intro _) | (apply dL rfl rfl rfl; intro _) | apply dC rfl rfl rfl rfl); (focus (first | exact cJ | exact mG | exact bT | exact nD)); try exact kQ) | refine xS ?_ | refine xR ?_ | refine qxa rfl rfl mixed ?_ | refine qxb rfl rfl mixed ?_ | refine qxc rfl rfl mixed ?_ | refine qxd rfl rfl mixed ?_ | refine xB ?_ | refine xt rfl ?_ | refine xf rfl ?_))
    (first | refine Ret_int (vC vT vN) rfl ?_ | refine Ret_bool (vC vT vN) rfl ?_ | refine Ret_g (vC vT vN) rfl ?_ | refine Ret_int (vC (vA (AG rfl) (SZ rfl) rfl rfl (lB rfl)) vN) rfl ?_ | refine Ret_bool (vC (vA (AG rfl) (SZ rfl) rfl rfl (lB rfl)) vN) rfl ?_ | refine Ret_g (vC (vA (AG rfl) (SZ rfl) rfl rfl (lB rfl)) vN) rfl ?_)
    simp [listT, Tr.g, gs_eq]

end Go.Proofs.Ytffpepmfdjjjaaa


namespace Go.Proofs.Ytffpepmfdjjjaaa
open Go.Pure
attribute [local irreducible] PW POps POpsD PO PC Cond

set_option maxRecDepth 100000 in
set_option maxHeartbeats 4000000 in
theorem node_pc (n : Int) (text : ByteArray) (ks : List Tr) : PC Try.prog 34 [.g (.int .i64 n), .g (.str text), .g (.sl (Tr.gs ks))] ⟨[], [], []⟩ (.g (Tr.mk 0 n text ks).g) ⟨[], [], []⟩ := by
  refine PC_of_PW Try.func34 rfl rfl (rs := _) rfl (Nat.le_of_ble_eq_true (by kernel_rfl)) ?_
  (repeat (first | ((first | refine qA ?_ | refine qB ?_ | refine xN ?_ | refine xE ?_ | refine xT ?_); try show PW _ _ _ _ _ _) | refine ro1 tabOk rfl rfl ?_ | refine ro2 tabOk rfl rfl ?_ | refine ro3 tabOk rfl rfl ?_ | refine rd1 tabOk rfl rfl ?_ | refine rd2 tabOk rfl rfl ?_ | refine rd3 tabOk rfl rfl ?_ | ((first | apply oR rfl rfl | (apply dF rfl rfl rfl; intro _) | (apply dP rfl rfl rfl; intro _) | (apply dL rfl rfl rfl; intro _) | apply dC rfl rfl rfl rfl); (focus (first | exact cJ | exact mG | exact bT | exact nD)); try exact kQ) | refine xS ?_ | refine xR ?_ | refine qxa rfl rfl mixed ?_ | refine qxb rfl rfl mixed ?_ | refine qxc rfl rfl mixed ?_ | refine qxd rfl rfl mixed ?_ | refine xB ?_ | refine xt rfl ?_ | refine xf rfl ?_))
  (first | refine Ret_int (vC vT vN) rfl ?_ | refine Ret_bool (vC vT vN) rfl ?_ | refine Ret_g (vC vT vN) rfl ?_ | refine Ret_int (vC (vA (AG rfl) (SZ rfl) rfl rfl (lB rfl)) vN) rfl ?_ | refine Ret_bool (vC (vA (AG rfl) (SZ rfl) rfl rfl (lB rfl)) vN) rfl ?_ | refine Ret_g (vC (vA (AG rfl) (SZ rfl) rfl rfl (lB rfl)) vN) rfl ?_)
  rfl
theorem node0_pc (n : Int) (text : ByteArray) : PC Try.prog 34 [.g (.int .i64 n), .g (.str text), .g (.sl [])] ⟨[], [], []⟩ (.g (Tr.mk 0 n text []).g) ⟨[], [], []⟩ := node_pc n text []
set_option maxRecDepth 100000 in
set_option maxHeartbeats 4000000 in
theorem flag_pc (b : Bool) : PC Try.prog 87 [.g (.bool b)] ⟨[], [], []⟩ (.g (.int .i64 (flagN b))) ⟨[], [], []⟩ := by
  cases b
  all_goals
    refine PC_of_PW Try.func87 rfl rfl (rs := _) rfl (Nat.le_of_ble_eq_true (by kernel_rfl)) ?_
    (repeat (first | ((first | refine qA ?_ | refine qB ?_ | refine xN ?_ | refine xE ?_ | refine xT ?_); try show PW _ _ _ _ _ _) | refine ro1 tabOk rfl rfl ?_ | refine ro2 tabOk rfl rfl ?_ | refine ro3 tabOk rfl rfl ?_ | refine rd1 tabOk rfl rfl ?_ | refine rd2 tabOk rfl rfl ?_ | refine rd3 tabOk rfl rfl ?_ | ((first | apply oR rfl rfl | (apply dF rfl rfl rfl; intro _) | (apply dP rfl rfl rfl; intro _) | (apply dL rfl rfl rfl; intro _) | apply dC rfl rfl rfl rfl); (focus (first | exact cJ | exact mG | exact bT | exact nD)); try exact kQ) | refine xS ?_ | refine xR ?_ | refine qxa rfl rfl mixed ?_ | refine qxb rfl rfl mixed ?_ | refine qxc rfl rfl mixed ?_ | refine qxd rfl rfl mixed ?_ | refine xB ?_ | refine xt rfl ?_ | refine xf rfl ?_))
    (first | refine Ret_int (vC vT vN) rfl ?_ | refine Ret_bool (vC vT vN) rfl ?_ | refine Ret_g (vC vT vN) rfl ?_ | refine Ret_int (vC (vA (AG rfl) (SZ rfl) rfl rfl (lB rfl)) vN) rfl ?_ | refine Ret_bool (vC (vA (AG rfl) (SZ rfl) rfl rfl (lB rfl)) vN) rfl ?_ | refine Ret_g (vC (vA (AG rfl) (SZ rfl) rfl rfl (lB rfl)) vN) rfl ?_)
    rfl

theorem and255 (k : Int) : IntKind.i64.wrap ((BitVec.ofInt IntKind.i64.bits k &&& BitVec.ofInt IntKind.i64.bits 255).toNat : Int) = k % 256 := by
  have h : (BitVec.ofInt IntKind.i64.bits k &&& BitVec.ofInt IntKind.i64.bits 255).toNat = (k % 256).toNat := by
    show (BitVec.ofInt 64 k &&& BitVec.ofInt 64 255).toNat = _
    rw [BitVec.toNat_and, show (BitVec.ofInt 64 255).toNat = 2 ^ 8 - 1 from rfl, Nat.and_two_pow_sub_one_eq_mod, BitVec.toNat_ofInt]
    omega
  rw [h, wrap64 (by omega)]
  omega
theorem vgs (l : List VVal) : VVal.gs l = l.map VVal.g := VVal.gs_eq l
theorem bulk_list {v : VVal} {kind : Int} {yes : Bool} {coef exp : Int} {text : ByteArray} {list : List VVal} (h : v = .mk kind yes coef exp text list) : gbulks (list.map VVal.g) + 6 ≤ gbulk v.g := by
  subst h; simp [VVal.g, gbulk, gbulks, VVal.gs_eq]; omega

set_option maxRecDepth 100000 in
set_option maxHeartbeats 4000000 in
theorem value_pc : ∀ (m : Nat) (v : VVal), SizeOf.sizeOf v ≤ m → gbulk v.g ≤ 1048576 → PC Try.prog 60 [.g v.g] ⟨[], [], []⟩ (.g (packV v).g) ⟨[], [], []⟩
  | 0, v, hm, _ => by cases v; simp at hm
  | m + 1, .mk kind yes coef exp text list, hm, hb => by
    have hbl := bulk_list (v := .mk kind yes coef exp text list) rfl
    have hln := map_len VVal.one list
    have hM := manyV_pc list (fun x hx => value_pc m x (by have := List.sizeOf_lt_of_mem hx; simp at hm; omega) (by
      obtain ⟨i, hi, rfl⟩ := List.getElem_of_mem hx
      have := map_bulk (f := VVal.g) hi; omega)) (by omega)
    rw [← vgs] at hM
    have hF := flag_pc yes
    have hxs : ∀ x ∈ Tr.gs (list.map packV), x.cells.length = 4 := by
      intro x hx; rw [gs_eq] at hx; obtain ⟨t, _, rfl⟩ := List.mem_map.1 hx; exact g_cells _
    have hes : ∀ x ∈ [(numT exp).g, (numT (flagN yes)).g, (numT kind).g], x.cells.length = 4 := by
      intro x hx; simp at hx; rcases hx with rfl | rfl | rfl <;> exact g_cells _
    refine PC_of_PW Try.func60 rfl rfl (rs := _) rfl (Nat.le_of_ble_eq_true (by kernel_rfl)) ?_
    (repeat (first | ((first | refine qA ?_ | refine qB ?_ | refine xN ?_ | refine xE ?_ | refine xT ?_); try show PW _ _ _ _ _ _) | refine ro1 tabOk rfl rfl ?_ | refine ro2 tabOk rfl rfl ?_ | refine ro3 tabOk rfl rfl ?_ | refine rd1 tabOk rfl rfl ?_ | refine rd2 tabOk rfl rfl ?_ | refine rd3 tabOk rfl rfl ?_ | ((first | apply oR rfl rfl | (apply dF rfl rfl rfl; intro _) | (apply dP rfl rfl rfl; intro _) | (apply dL rfl rfl rfl; intro _) | apply dC rfl rfl rfl rfl); (focus (first | exact cqP hM | exact cqP hF | exact cqP (node0_pc _ _) | exact PO_buildSlice_lit rfl (EL rfl) (SZ rfl) (AG rfl) (ZR rfl) rfl rfl rfl rfl rfl rfl rfl | exact PO_append_litg (es := [(numT exp).g, (numT (flagN yes)).g, (numT kind).g]) rfl (EL rfl) (SZ rfl) (BY rfl) (ZR rfl) rfl rfl rfl rfl hes hxs (by rw [gs_len]; simp; omega) (by rw [gs_len]; simp [maxLen]; omega) | exact cJ | exact mG | exact bT | exact nD)); try exact kQ) | refine xS ?_ | refine xR ?_ | refine qxa rfl rfl mixed ?_ | refine qxb rfl rfl mixed ?_ | refine qxc rfl rfl mixed ?_ | refine qxd rfl rfl mixed ?_ | refine xB ?_ | refine xt rfl ?_ | refine xf rfl ?_))
    (first | refine Ret_int (vC vT vN) rfl ?_ | refine Ret_bool (vC vT vN) rfl ?_ | refine Ret_g (vC vT vN) rfl ?_ | refine Ret_int (vC (vA (AG rfl) (SZ rfl) rfl rfl (lB rfl)) vN) rfl ?_ | refine Ret_bool (vC (vA (AG rfl) (SZ rfl) rfl rfl (lB rfl)) vN) rfl ?_ | refine Ret_g (vC (vA (AG rfl) (SZ rfl) rfl rfl (lB rfl)) vN) rfl ?_)
    rw [and255, packV, packVs_eq]
    rfl
end Go.Proofs.Ytffpepmfdjjjaaa


namespace Go.Proofs.Ytffpepmfdjjjaaa
open Go.Pure
attribute [local irreducible] PW POps POpsD PO PC Cond

def badH (b : Bool) : PH := ⟨[[.g (.bool b)]], [], []⟩
theorem str_eq {a b : ByteArray} : (a.toList == b.toList) = true ↔ a = b := by
  rw [beq_iff_eq]
  refine ⟨fun h => ?_, fun h => by rw [h]⟩
  rw [ByteArray.toList_eq, ByteArray.toList_eq] at h
  exact ByteArray.ext (Array.toList_inj.1 h)

set_option maxRecDepth 100000 in
set_option maxHeartbeats 4000000 in
theorem parts_pc (n : Nat) (hn : n = 1 ∨ n = 2 ∨ n = 3 ∨ n = 4 ∨ n = 5) (t : Tr) (b : Bool) :
    PC Try.prog 43 [.ptr 0 0, .g t.g, .g (.int .i64 n)] (badH b) (.g (.sl (Tr.gs (partsP t n b).1))) (badH (partsP t n b).2) := by
  obtain ⟨tag, tn, text, kids⟩ := t
  have hp : partsP (.mk tag tn text kids) n b = if tag = 0 ∧ kids.length = n then (kids, b) else (List.replicate n (.mk 0 0 ⟨#[]⟩ []), true) := rfl
  obtain ⟨q, hq⟩ : ∃ q : Nat, q = n := ⟨n, rfl⟩
  rcases hn with rfl | rfl | rfl | rfl | rfl
  all_goals
    refine PC_of_PW Try.func43 rfl rfl (rs := _) rfl (Nat.le_of_ble_eq_true (by kernel_rfl)) ?_
    (repeat' (first | (first | ((first | refine qA ?_ | refine qB ?_ | refine xN ?_ | refine xE ?_ | refine xT ?_); try show PW _ _ _ _ _ _) | refine ro1 tabOk rfl rfl ?_ | refine ro2 tabOk rfl rfl ?_ | refine ro3 tabOk rfl rfl ?_ | refine rd1 tabOk rfl rfl ?_ | refine rd2 tabOk rfl rfl ?_ | refine rd3 tabOk rfl rfl ?_ | ((first | apply oR rfl rfl | (apply dF rfl rfl rfl; intro _) | (apply dP rfl rfl rfl; intro _) | (apply dL rfl rfl rfl; intro _) | apply dC rfl rfl rfl rfl); (focus (first | exact PO_makeSlice 1 rfl rfl rfl (EL rfl) (SZ rfl) (AG rfl) (ZR rfl) (BY rfl) rfl rfl rfl rfl rfl rfl rfl | exact PO_makeSlice 2 rfl rfl rfl (EL rfl) (SZ rfl) (AG rfl) (ZR rfl) (BY rfl) rfl rfl rfl rfl rfl rfl rfl | exact PO_makeSlice 3 rfl rfl rfl (EL rfl) (SZ rfl) (AG rfl) (ZR rfl) (BY rfl) rfl rfl rfl rfl rfl rfl rfl | exact PO_makeSlice 4 rfl rfl rfl (EL rfl) (SZ rfl) (AG rfl) (ZR rfl) (BY rfl) rfl rfl rfl rfl rfl rfl rfl | exact PO_makeSlice 5 rfl rfl rfl (EL rfl) (SZ rfl) (AG rfl) (ZR rfl) (BY rfl) rfl rfl rfl rfl rfl rfl rfl | exact cJ | exact mG | exact bT | exact nD)); try exact kQ) | refine xS ?_ | refine xR ?_ | refine qxa rfl rfl mixed ?_ | refine qxb rfl rfl mixed ?_ | refine qxc rfl rfl mixed ?_ | refine qxd rfl rfl mixed ?_ | refine xB ?_ | refine xt rfl ?_ | refine xf rfl ?_) | (refine POps_split rfl rfl (fun h => ?_) (fun h => ?_) <;> fail_if_success (first | (have : true = true := h) | (have : false = false := h))) | (refine POpsD_split rfl rfl (fun h => ?_) (fun h => ?_) <;> fail_if_success (first | (have : true = true := h) | (have : false = false := h))) | refine PW_cond rfl (fun h => ?_) (fun h => ?_)))
    · have h1 : ¬ tag = 0 := by simpa [bne] using h
      rw [hp, if_neg (fun hh => h1 hh.1)]
      (first | refine Ret_boxp (vC vT vN) rfl rfl rfl rfl rfl rfl rfl rfl rfl ?_ ?_ ?_ rfl | refine Ret_boxp (vC (vA (AG rfl) (SZ rfl) rfl rfl (lB rfl)) vN) rfl rfl rfl rfl rfl rfl rfl rfl rfl ?_ ?_ ?_ rfl | refine Ret_boxp (vC vT (vC vT vN)) rfl rfl rfl rfl rfl rfl rfl rfl rfl ?_ ?_ ?_ rfl | refine Ret_boxp (vC (vA (AG rfl) (SZ rfl) rfl rfl (lB rfl)) (vC vT vN)) rfl rfl rfl rfl rfl rfl rfl rfl rfl ?_ ?_ ?_ rfl)
      · rfl
      · rfl
      · rfl
    · rename_i q0
      have h1 : tag = 0 := by simpa [bne] using q0
      have h2 : ¬ kids.length = q := fun e => by rw [gs_len, e, hq] at h; simp at h
      rw [hp, if_neg (fun hh => h2 (hh.2.trans hq.symm))]
      (first | refine Ret_boxp (vC vT vN) rfl rfl rfl rfl rfl rfl rfl rfl rfl ?_ ?_ ?_ rfl | refine Ret_boxp (vC (vA (AG rfl) (SZ rfl) rfl rfl (lB rfl)) vN) rfl rfl rfl rfl rfl rfl rfl rfl rfl ?_ ?_ ?_ rfl | refine Ret_boxp (vC vT (vC vT vN)) rfl rfl rfl rfl rfl rfl rfl rfl rfl ?_ ?_ ?_ rfl | refine Ret_boxp (vC (vA (AG rfl) (SZ rfl) rfl rfl (lB rfl)) (vC vT vN)) rfl rfl rfl rfl rfl rfl rfl rfl rfl ?_ ?_ ?_ rfl)
      · rfl
      · rfl
      · rfl
    · rename_i q0
      have h1 : tag = 0 := by simpa [bne] using q0
      rw [gs_len, ← hq] at h
      have h2 : kids.length = q := by
        have : (kids.length : Int) = q := by simpa [bne] using h
        omega
      rw [hp, if_pos ⟨h1, h2.trans hq⟩]
      (first | refine Ret_boxp (vC vT vN) rfl rfl rfl rfl rfl rfl rfl rfl rfl ?_ ?_ ?_ rfl | refine Ret_boxp (vC (vA (AG rfl) (SZ rfl) rfl rfl (lB rfl)) vN) rfl rfl rfl rfl rfl rfl rfl rfl rfl ?_ ?_ ?_ rfl | refine Ret_boxp (vC vT (vC vT vN)) rfl rfl rfl rfl rfl rfl rfl rfl rfl ?_ ?_ ?_ rfl | refine Ret_boxp (vC (vA (AG rfl) (SZ rfl) rfl rfl (lB rfl)) (vC vT vN)) rfl rfl rfl rfl rfl rfl rfl rfl rfl ?_ ?_ ?_ rfl)
      · rfl
      · rfl
      · rfl

set_option maxRecDepth 100000 in
set_option maxHeartbeats 4000000 in
theorem plain_pc (t : Tr) (b : Bool) : PC Try.prog 44 [.ptr 0 0, .g t.g] (badH b) (.g (.int .i64 (plainP t b).1)) (badH (plainP t b).2) := by
  obtain ⟨tag, tn, text, kids⟩ := t
  have hp : plainP (.mk tag tn text kids) b = (tn, if tag = 0 ∧ text = ⟨#[]⟩ ∧ kids = [] then b else true) := rfl
  rw [hp]
  refine PC_of_PW Try.func44 rfl rfl (rs := _) rfl (Nat.le_of_ble_eq_true (by kernel_rfl)) ?_
  (repeat' (first | (first | ((first | refine qA ?_ | refine qB ?_ | refine xN ?_ | refine xE ?_ | refine xT ?_); try show PW _ _ _ _ _ _) | refine ro1 tabOk rfl rfl ?_ | refine ro2 tabOk rfl rfl ?_ | refine ro3 tabOk rfl rfl ?_ | refine rd1 tabOk rfl rfl ?_ | refine rd2 tabOk rfl rfl ?_ | refine rd3 tabOk rfl rfl ?_ | ((first | apply oR rfl rfl | (apply dF rfl rfl rfl; intro _) | (apply dP rfl rfl rfl; intro _) | (apply dL rfl rfl rfl; intro _) | apply dC rfl rfl rfl rfl); (focus (first | exact cJ | exact mG | exact bT | exact nD)); try exact kQ) | refine xS ?_ | refine xR ?_ | refine qxa rfl rfl mixed ?_ | refine qxb rfl rfl mixed ?_ | refine qxc rfl rfl mixed ?_ | refine qxd rfl rfl mixed ?_ | refine xB ?_ | refine xt rfl ?_ | refine xf rfl ?_) | (refine POps_split rfl rfl (fun h => ?_) (fun h => ?_) <;> fail_if_success (first | (have : true = true := h) | (have : false = false := h))) | (refine POpsD_split rfl rfl (fun h => ?_) (fun h => ?_) <;> fail_if_success (first | (have : true = true := h) | (have : false = false := h))) | refine PW_cond rfl (fun h => ?_) (fun h => ?_)))
  · have h1 : ¬ tag = 0 := by simpa [bne] using h
    rw [if_neg (fun hh => h1 hh.1)]
    (first | refine Ret_boxp (vC vT vN) rfl rfl rfl rfl rfl rfl rfl rfl rfl ?_ ?_ ?_ rfl | refine Ret_boxp (vC (vA (AG rfl) (SZ rfl) rfl rfl (lB rfl)) vN) rfl rfl rfl rfl rfl rfl rfl rfl rfl ?_ ?_ ?_ rfl | refine Ret_boxp (vC vT (vC vT vN)) rfl rfl rfl rfl rfl rfl rfl rfl rfl ?_ ?_ ?_ rfl | refine Ret_boxp (vC (vA (AG rfl) (SZ rfl) rfl rfl (lB rfl)) (vC vT vN)) rfl rfl rfl rfl rfl rfl rfl rfl rfl ?_ ?_ ?_ rfl)
    · rfl
    · rfl
    · rfl
  · have h1 : ¬ text = ⟨#[]⟩ := fun e => by subst e; simp at h
    rw [if_neg (fun hh => h1 hh.2.1)]
    (first | refine Ret_boxp (vC vT vN) rfl rfl rfl rfl rfl rfl rfl rfl rfl ?_ ?_ ?_ rfl | refine Ret_boxp (vC (vA (AG rfl) (SZ rfl) rfl rfl (lB rfl)) vN) rfl rfl rfl rfl rfl rfl rfl rfl rfl ?_ ?_ ?_ rfl | refine Ret_boxp (vC vT (vC vT vN)) rfl rfl rfl rfl rfl rfl rfl rfl rfl ?_ ?_ ?_ rfl | refine Ret_boxp (vC (vA (AG rfl) (SZ rfl) rfl rfl (lB rfl)) (vC vT vN)) rfl rfl rfl rfl rfl rfl rfl rfl rfl ?_ ?_ ?_ rfl)
    · rfl
    · rfl
    · rfl
  · have h1 : ¬ kids = [] := fun e => by subst e; simp [Tr.gs] at h
    rw [if_neg (fun hh => h1 hh.2.2)]
    (first | refine Ret_boxp (vC vT vN) rfl rfl rfl rfl rfl rfl rfl rfl rfl ?_ ?_ ?_ rfl | refine Ret_boxp (vC (vA (AG rfl) (SZ rfl) rfl rfl (lB rfl)) vN) rfl rfl rfl rfl rfl rfl rfl rfl rfl ?_ ?_ ?_ rfl | refine Ret_boxp (vC vT (vC vT vN)) rfl rfl rfl rfl rfl rfl rfl rfl rfl ?_ ?_ ?_ rfl | refine Ret_boxp (vC (vA (AG rfl) (SZ rfl) rfl rfl (lB rfl)) (vC vT vN)) rfl rfl rfl rfl rfl rfl rfl rfl rfl ?_ ?_ ?_ rfl)
    · rfl
    · rfl
    · rfl
  · rename_i q1 q2
    have h1 : tag = 0 := by simpa [bne] using q1
    have h2 : text = ⟨#[]⟩ := str_eq.1 (by simpa using q2)
    have h3 : kids = [] := by
      cases kids with
      | nil => rfl
      | cons k r => exfalso; simp [Tr.gs] at h <;> omega
    rw [if_pos ⟨h1, h2, h3⟩]
    (first | refine Ret_boxp (vC vT vN) rfl rfl rfl rfl rfl rfl rfl rfl rfl ?_ ?_ ?_ rfl | refine Ret_boxp (vC (vA (AG rfl) (SZ rfl) rfl rfl (lB rfl)) vN) rfl rfl rfl rfl rfl rfl rfl rfl rfl ?_ ?_ ?_ rfl | refine Ret_boxp (vC vT (vC vT vN)) rfl rfl rfl rfl rfl rfl rfl rfl rfl ?_ ?_ ?_ rfl | refine Ret_boxp (vC (vA (AG rfl) (SZ rfl) rfl rfl (lB rfl)) (vC vT vN)) rfl rfl rfl rfl rfl rfl rfl rfl rfl ?_ ?_ ?_ rfl)
    · rfl
    · rfl
    · rfl

set_option maxRecDepth 100000 in
set_option maxHeartbeats 4000000 in
theorem uflag_pc (t : Tr) (b : Bool) : PC Try.prog 88 [.ptr 0 0, .g t.g] (badH b) (.g (.bool (flagP t b).1)) (badH (flagP t b).2) := by
  have hp := plain_pc t b
  have hf : flagP t b = (decide ((plainP t b).1 = 1), if (plainP t b).1 = 0 ∨ (plainP t b).1 = 1 then (plainP t b).2 else true) := rfl
  rw [hf]
  generalize plainP t b = p at hp
  obtain ⟨n, c⟩ := p
  obtain ⟨tag, tn, text, kids⟩ := t
  dsimp only at hp ⊢
  refine PC_of_PW Try.func88 rfl rfl (rs := _) rfl (Nat.le_of_ble_eq_true (by kernel_rfl)) ?_
  (repeat' (first | (first | ((first | refine qA ?_ | refine qB ?_ | refine xN ?_ | refine xE ?_ | refine xT ?_); try show PW _ _ _ _ _ _) | refine ro1 tabOk rfl rfl ?_ | refine ro2 tabOk rfl rfl ?_ | refine ro3 tabOk rfl rfl ?_ | refine rd1 tabOk rfl rfl ?_ | refine rd2 tabOk rfl rfl ?_ | refine rd3 tabOk rfl rfl ?_ | ((first | apply oR rfl rfl | (apply dF rfl rfl rfl; intro _) | (apply dP rfl rfl rfl; intro _) | (apply dL rfl rfl rfl; intro _) | apply dC rfl rfl rfl rfl); (focus (first | exact cb [] rfl rfl (EN rfl) (hp) rfl rfl rfl rfl rfl rfl rfl rfl rfl rfl rfl | exact cJ | exact mG | exact bT | exact nD)); try exact kQ) | refine xS ?_ | refine xR ?_ | refine qxa rfl rfl mixed ?_ | refine qxb rfl rfl mixed ?_ | refine qxc rfl rfl mixed ?_ | refine qxd rfl rfl mixed ?_ | refine xB ?_ | refine xt rfl ?_ | refine xf rfl ?_) | (refine POps_split rfl rfl (fun h => ?_) (fun h => ?_) <;> fail_if_success (first | (have : true = true := h) | (have : false = false := h))) | (refine POpsD_split rfl rfl (fun h => ?_) (fun h => ?_) <;> fail_if_success (first | (have : true = true := h) | (have : false = false := h))) | refine PW_cond rfl (fun h => ?_) (fun h => ?_)))
  · have h1 : ¬ n = 1 := by simpa [bne] using h
    rename_i q
    have h0 : ¬ n = 0 := by simpa [bne] using q
    rw [if_neg (fun hh => hh.elim h0 h1)]
    (first | refine Ret_boxp (vC vT vN) rfl rfl rfl rfl rfl rfl rfl rfl rfl ?_ ?_ ?_ rfl | refine Ret_boxp (vC (vA (AG rfl) (SZ rfl) rfl rfl (lB rfl)) vN) rfl rfl rfl rfl rfl rfl rfl rfl rfl ?_ ?_ ?_ rfl | refine Ret_boxp (vC vT (vC vT vN)) rfl rfl rfl rfl rfl rfl rfl rfl rfl ?_ ?_ ?_ rfl | refine Ret_boxp (vC (vA (AG rfl) (SZ rfl) rfl rfl (lB rfl)) (vC vT vN)) rfl rfl rfl rfl rfl rfl rfl rfl rfl ?_ ?_ ?_ rfl)
    · exact congrArg (fun b => PV.g (.bool b)) (by rw [Bool.eq_iff_iff]; simp)
    · rfl
    · rfl
  · have h1 : n = 1 := by simpa [bne] using h
    rw [if_pos (.inr h1)]
    (first | refine Ret_boxp (vC vT vN) rfl rfl rfl rfl rfl rfl rfl rfl rfl ?_ ?_ ?_ rfl | refine Ret_boxp (vC (vA (AG rfl) (SZ rfl) rfl rfl (lB rfl)) vN) rfl rfl rfl rfl rfl rfl rfl rfl rfl ?_ ?_ ?_ rfl | refine Ret_boxp (vC vT (vC vT vN)) rfl rfl rfl rfl rfl rfl rfl rfl rfl ?_ ?_ ?_ rfl | refine Ret_boxp (vC (vA (AG rfl) (SZ rfl) rfl rfl (lB rfl)) (vC vT vN)) rfl rfl rfl rfl rfl rfl rfl rfl rfl ?_ ?_ ?_ rfl)
    · exact congrArg (fun b => PV.g (.bool b)) (by rw [Bool.eq_iff_iff]; simp)
    · rfl
    · rfl
  · have h1 : n = 0 := by simpa [bne] using h
    rw [if_pos (.inl h1)]
    (first | refine Ret_boxp (vC vT vN) rfl rfl rfl rfl rfl rfl rfl rfl rfl ?_ ?_ ?_ rfl | refine Ret_boxp (vC (vA (AG rfl) (SZ rfl) rfl rfl (lB rfl)) vN) rfl rfl rfl rfl rfl rfl rfl rfl rfl ?_ ?_ ?_ rfl | refine Ret_boxp (vC vT (vC vT vN)) rfl rfl rfl rfl rfl rfl rfl rfl rfl ?_ ?_ ?_ rfl | refine Ret_boxp (vC (vA (AG rfl) (SZ rfl) rfl rfl (lB rfl)) (vC vT vN)) rfl rfl rfl rfl rfl rfl rfl rfl rfl ?_ ?_ ?_ rfl)
    · exact congrArg (fun b => PV.g (.bool b)) (by rw [Bool.eq_iff_iff]; simp)
    · rfl
    · rfl
end Go.Proofs.Ytffpepmfdjjjaaa


namespace Go.Proofs.Ytffpepmfdjjjaaa
open Go.Pure
attribute [local irreducible] PW POps POpsD PO PC Cond

set_option maxRecDepth 100000 in
set_option maxHeartbeats 4000000 in
theorem unpV_pc (t : Tr) (b : Bool) (h0 : ∀ k ∈ t.kids, ∀ b, PC Try.prog 69 [.ptr 0 0, .g k.g] (badH b) (.g (unV k b).1.g) (badH (unV k b).2)) (hb : t.kids.length ≤ 100000000) :
    PC Try.prog 68 [.ptr 0 0, .g t.g, .clo (.func 69) [.ptr 0 0] []] (badH b) (.g (.sl ((listP unV t b).1.map VVal.g))) (badH (listP unV t b).2) := by
  have hlp : listP unV t b = goP unV t.kids (headP t b) [] := rfl
  obtain ⟨tag, tn, text, kids⟩ := t
  dsimp only [Tr.kids] at h0 hb hlp
  have hh : headP (.mk tag tn text kids) b = if tag = 0 ∧ tn = 0 ∧ text = ⟨#[]⟩ then b else true := rfl
  generalize hL : listP unV (.mk tag tn text kids) b = L at hlp ⊢
  generalize headP (.mk tag tn text kids) b = hd at hh hlp
  refine PC_of_PW Try.func68 rfl rfl (rs := _) rfl (Nat.le_of_ble_eq_true (by kernel_rfl)) ?_
  (repeat (first | ((first | refine qA ?_ | refine qB ?_ | refine xN ?_ | refine xE ?_ | refine xT ?_); try show PW _ _ _ _ _ _) | refine ro1 tabOk rfl rfl ?_ | refine ro2 tabOk rfl rfl ?_ | refine ro3 tabOk rfl rfl ?_ | refine rd1 tabOk rfl rfl ?_ | refine rd2 tabOk rfl rfl ?_ | refine rd3 tabOk rfl rfl ?_ | ((first | apply oR rfl rfl | (apply dF rfl rfl rfl; intro _) | (apply dP rfl rfl rfl; intro _) | (apply dL rfl rfl rfl; intro _) | apply dC rfl rfl rfl rfl); (focus (first | exact cJ | exact mG | exact bT | exact nD)); try exact kQ) | refine xU [1] rfl ?_ | refine xR ?_ | refine qxa rfl rfl mixed ?_ | refine qxb rfl rfl mixed ?_ | refine qxc rfl rfl mixed ?_ | refine qxd rfl rfl mixed ?_ | refine xB ?_ | refine xt rfl ?_ | refine xf rfl ?_))
  refine PW_cut (slots [(0, .ptr 0 0), (2, .clo (.func 69) [.ptr 0 0] []), (4, .ptr 1 0)]) ⟨[[.g (.bool hd)], [.g (.int .i64 tag), .g (.int .i64 tn), .g (.str text), .g (.sl (Tr.gs kids))]], [], []⟩ ?_ ?_
  · (repeat' (first | (first | ((first | refine qA ?_ | refine qB ?_ | refine xN ?_ | refine xE ?_ | refine xT ?_); try show PW _ _ _ _ _ _) | refine ro1 tabOk rfl rfl ?_ | refine ro2 tabOk rfl rfl ?_ | refine ro3 tabOk rfl rfl ?_ | refine rd1 tabOk rfl rfl ?_ | refine rd2 tabOk rfl rfl ?_ | refine rd3 tabOk rfl rfl ?_ | ((first | apply oR rfl rfl | (apply dF rfl rfl rfl; intro _) | (apply dP rfl rfl rfl; intro _) | (apply dL rfl rfl rfl; intro _) | apply dC rfl rfl rfl rfl); (focus (first | exact cJ | exact mG | exact bT | exact nD)); try exact kQ) | refine xS ?_ | refine xR ?_ | refine qxa rfl rfl mixed ?_ | refine qxb rfl rfl mixed ?_ | refine qxc rfl rfl mixed ?_ | refine qxd rfl rfl mixed ?_ | refine xB ?_ | refine xt rfl ?_ | refine xf rfl ?_) | (refine POps_split rfl rfl (fun h => ?_) (fun h => ?_) <;> fail_if_success (first | (have : true = true := h) | (have : false = false := h))) | (refine POpsD_split rfl rfl (fun h => ?_) (fun h => ?_) <;> fail_if_success (first | (have : true = true := h) | (have : false = false := h))) | refine PW_cond rfl (fun h => ?_) (fun h => ?_)))
    · have h1 : ¬ tag = 0 := by simpa [bne] using h
      rw [hh, if_neg (fun q => h1 q.1)]
      (refine ⟨SlotsOk.le ?_, HLe.of_eq ?_⟩; (repeat (first | exact meet_nil | refine meet_cons (.inl rfl) ?_ | refine meet_cons (.inr rfl) ?_ | refine meet_cons (.inl (by simp_all)) ?_)); (try rfl))
    · have h1 : ¬ tn = 0 := by simpa [bne] using h
      rw [hh, if_neg (fun q => h1 q.2.1)]
      (refine ⟨SlotsOk.le ?_, HLe.of_eq ?_⟩; (repeat (first | exact meet_nil | refine meet_cons (.inl rfl) ?_ | refine meet_cons (.inr rfl) ?_ | refine meet_cons (.inl (by simp_all)) ?_)); (try rfl))
    · have h1 : ¬ text = ⟨#[]⟩ := fun e => by subst e; simp at h
      rw [hh, if_neg (fun q => h1 q.2.2)]
      (refine ⟨SlotsOk.le ?_, HLe.of_eq ?_⟩; (repeat (first | exact meet_nil | refine meet_cons (.inl rfl) ?_ | refine meet_cons (.inr rfl) ?_ | refine meet_cons (.inl (by simp_all)) ?_)); (try rfl))
    · rename_i q1 q2
      have h1 : tag = 0 := by simpa [bne] using q1
      have h2 : tn = 0 := by simpa [bne] using q2
      have h3 : text = ⟨#[]⟩ := str_eq.1 (by simpa using h)
      rw [hh, if_pos ⟨h1, h2, h3⟩]
      (refine ⟨SlotsOk.le ?_, HLe.of_eq ?_⟩; (repeat (first | exact meet_nil | refine meet_cons (.inl rfl) ?_ | refine meet_cons (.inr rfl) ?_ | refine meet_cons (.inl (by simp_all)) ?_)); (try rfl))
  (repeat (first | ((first | refine qA ?_ | refine qB ?_ | refine xN ?_ | refine xE ?_ | refine xT ?_); try show PW _ _ _ _ _ _) | refine ro1 tabOk rfl rfl ?_ | refine ro2 tabOk rfl rfl ?_ | refine ro3 tabOk rfl rfl ?_ | refine rd1 tabOk rfl rfl ?_ | refine rd2 tabOk rfl rfl ?_ | refine rd3 tabOk rfl rfl ?_ | ((first | apply oR rfl rfl | (apply dF rfl rfl rfl; intro _) | (apply dP rfl rfl rfl; intro _) | (apply dL rfl rfl rfl; intro _) | apply dC rfl rfl rfl rfl); (focus (first | exact cJ | exact mG | exact bT | exact nD)); try exact kQ) | refine xS ?_ | refine xR ?_ | refine qxa rfl rfl mixed ?_ | refine qxb rfl rfl mixed ?_ | refine qxc rfl rfl mixed ?_ | refine qxd rfl rfl mixed ?_ | refine xB ?_ | refine xt rfl ?_ | refine xf rfl ?_))
  refine PW_buf 7 113 (SZ rfl) rfl ?_
  refine PW_loop_cut (S := Nat × Bool × List VVal) (fun s => [(0, .ptr 0 0), (2, .clo (.func 69) [.ptr 0 0] []), (7, .own (s.2.2.map VVal.g) 0), (27, .g (.sl (Tr.gs kids))), (28, .g (.int .i64 kids.length)), (29, .g (.int .i64 s.1))])
    (fun s => ⟨[[.g (.bool s.2.1)], [.g (.int .i64 tag), .g (.int .i64 tn), .g (.str text), .g (.sl (Tr.gs kids))]], [(113, s.1)], []⟩)
    (fun s => s.1 ≤ kids.length ∧ s.2.2.length = s.1 ∧ goP unV (kids.drop s.1) s.2.1 s.2.2 = L) (fun s => kids.length - s.1) (0, hd, []) ⟨Nat.zero_le _, rfl, hlp.symm⟩
    (SlotsOk.le ⟨.inl rfl, .inl rfl, .inl rfl, .inl rfl, .inl (congrArg (fun k : Nat => PV.g (.int .i64 k)) (gs_len kids)), .inl rfl, trivial⟩) (HLe.of_eq rfl) (fun _ => rfl) (fun s hs => ?_)
  obtain ⟨i, bc, acc⟩ := s
  obtain ⟨hi, hacc, hgo⟩ := hs
  dsimp only at hi hacc hgo
  (repeat (first | ((first | refine qA ?_ | refine qB ?_ | refine xN ?_ | refine xE ?_ | refine xT ?_); try show PW _ _ _ _ _ _) | refine ro1 tabOk rfl rfl ?_ | refine ro2 tabOk rfl rfl ?_ | refine ro3 tabOk rfl rfl ?_ | refine rd1 tabOk rfl rfl ?_ | refine rd2 tabOk rfl rfl ?_ | refine rd3 tabOk rfl rfl ?_ | ((first | apply oR rfl rfl | (apply dF rfl rfl rfl; intro _) | (apply dP rfl rfl rfl; intro _) | (apply dL rfl rfl rfl; intro _) | apply dC rfl rfl rfl rfl); (focus (first | exact cJ | exact mG | exact bT | exact nD)); try exact kQ) | refine xS ?_ | refine xR ?_ | refine qxa rfl rfl mixed ?_ | refine qxb rfl rfl mixed ?_ | refine qxc rfl rfl mixed ?_ | refine qxd rfl rfl mixed ?_ | refine xB ?_ | refine xt rfl ?_ | refine xf rfl ?_))
  (first | refine POps_split rfl rfl (fun h => ?_) (fun h => ?_) | refine POpsD_split rfl rfl (fun h => ?_) (fun h => ?_) | refine PW_cond rfl (fun h => ?_) (fun h => ?_))
  · have hlt : i < kids.length := by have := of_decide_eq_true h; dsimp only at this; omega
    have hg := gs_get hlt
    have hdr : kids.drop i = kids[i] :: kids.drop (i + 1) := List.drop_eq_getElem_cons hlt
    rw [hdr, goP] at hgo
    have hI := h0 kids[i] (List.getElem_mem hlt) bc
    generalize kids[i] = kid at hg hI hgo
    cases bc with
    | true =>
      rw [if_pos rfl] at hgo
      obtain ⟨ta, tb, tc, td⟩ := kid
      (repeat (first | ((first | refine qA ?_ | refine qB ?_ | refine xN ?_ | refine xE ?_ | refine xT ?_); try show PW _ _ _ _ _ _) | refine ro1 tabOk rfl rfl ?_ | refine ro2 tabOk rfl rfl ?_ | refine ro3 tabOk rfl rfl ?_ | refine rd1 tabOk rfl rfl ?_ | refine rd2 tabOk rfl rfl ?_ | refine rd3 tabOk rfl rfl ?_ | ((first | apply oR rfl rfl | (apply dF rfl rfl rfl; intro _) | (apply dP rfl rfl rfl; intro _) | (apply dL rfl rfl rfl; intro _) | apply dC rfl rfl rfl rfl); (focus (first | exact iA rfl (EL rfl) (SZ rfl) rfl rfl (Int.natCast_nonneg _) hg rfl | exact cJ | exact mG | exact bT | exact nD)); try exact kQ) | refine xS ?_ | refine xR ?_ | refine qxa rfl rfl mixed ?_ | refine qxb rfl rfl mixed ?_ | refine qxc rfl rfl mixed ?_ | refine qxd rfl rfl mixed ?_ | refine xB ?_ | refine xt rfl ?_ | refine xf rfl ?_))
      (first | refine Ret_boxp (vC vT vN) rfl rfl rfl rfl rfl rfl rfl rfl rfl ?_ ?_ ?_ rfl | refine Ret_boxp (vC (vA (AG rfl) (SZ rfl) rfl rfl (lB rfl)) vN) rfl rfl rfl rfl rfl rfl rfl rfl rfl ?_ ?_ ?_ rfl | refine Ret_boxp (vC vT (vC vT vN)) rfl rfl rfl rfl rfl rfl rfl rfl rfl ?_ ?_ ?_ rfl | refine Ret_boxp (vC (vA (AG rfl) (SZ rfl) rfl rfl (lB rfl)) (vC vT vN)) rfl rfl rfl rfl rfl rfl rfl rfl rfl ?_ ?_ ?_ rfl)
      · rw [← hgo]; rfl
      · rw [← hgo]; rfl
      · rfl
    | false =>
      rw [if_neg (by decide)] at hgo
      generalize unV kid false = r at hI hgo
      obtain ⟨v, rb⟩ := r
      obtain ⟨ta, tb, tc, td⟩ := kid
      have hxs : ∀ x ∈ [v.g], x.cells.length = 6 := by
        intro x hx; rw [List.mem_singleton.1 hx]; exact VVal.cells v
      obtain ⟨k, y, c, e, s, vs⟩ := v
      dsimp only at hI hgo
      (repeat (first | ((first | refine qA ?_ | refine qB ?_ | refine xN ?_ | refine xE ?_ | refine xT ?_); try show PW _ _ _ _ _ _) | refine ro1 tabOk rfl rfl ?_ | refine ro2 tabOk rfl rfl ?_ | refine ro3 tabOk rfl rfl ?_ | refine rd1 tabOk rfl rfl ?_ | refine rd2 tabOk rfl rfl ?_ | refine rd3 tabOk rfl rfl ?_ | ((first | apply oR rfl rfl | (apply dF rfl rfl rfl; intro _) | (apply dP rfl rfl rfl; intro _) | (apply dL rfl rfl rfl; intro _) | apply dC rfl rfl rfl rfl); (focus (first | exact iA rfl (EL rfl) (SZ rfl) rfl rfl (Int.natCast_nonneg _) hg rfl | exact ck [] rfl rfl (EN rfl) (hI) rfl rfl rfl rfl rfl rfl rfl rfl rfl rfl rfl | exact aP (xs := [(VVal.mk k y c e s vs).g]) rfl (EL rfl) (SZ rfl) (BY rfl) (ZR rfl) rfl rfl rfl rfl (by simp; omega) hxs (by simp; omega) (by simp [maxLen]; omega) | exact cJ | exact mG | exact bT | exact nD)); try exact kQ) | refine xS ?_ | refine xR ?_ | refine qxa rfl rfl mixed ?_ | refine qxb rfl rfl mixed ?_ | refine qxc rfl rfl mixed ?_ | refine qxd rfl rfl mixed ?_ | refine xB ?_ | refine xt rfl ?_ | refine xf rfl ?_))
      refine ⟨(i + 1, rb, acc ++ [(VVal.mk k y c e s vs)]), ⟨hlt, by simp [hacc], hgo⟩, by dsimp only; omega, SlotsOk.le ⟨.inl rfl, .inl rfl, .inl ?_, .inl rfl, .inl rfl, .inl (congrArg (fun k => PV.g (.int .i64 k)) (wrap64 (by dsimp only; omega))), trivial⟩, Drops.mk [(Tr.mk ta tb tc td).g.cells.map PV.g] [] [] rfl⟩
      rw [List.map_append]
      rfl
  · have hi' : i = kids.length := by have := of_decide_eq_false h; dsimp only at this; omega
    subst hi'
    rw [List.drop_length, goP] at hgo
    (repeat (first | ((first | refine qA ?_ | refine qB ?_ | refine xN ?_ | refine xE ?_ | refine xT ?_); try show PW _ _ _ _ _ _) | refine ro1 tabOk rfl rfl ?_ | refine ro2 tabOk rfl rfl ?_ | refine ro3 tabOk rfl rfl ?_ | refine rd1 tabOk rfl rfl ?_ | refine rd2 tabOk rfl rfl ?_ | refine rd3 tabOk rfl rfl ?_ | ((first | apply oR rfl rfl | (apply dF rfl rfl rfl; intro _) | (apply dP rfl rfl rfl; intro _) | (apply dL rfl rfl rfl; intro _) | apply dC rfl rfl rfl rfl); (focus (first | exact cJ | exact mG | exact bT | exact nD)); try exact kQ) | refine xS ?_ | refine xR ?_ | refine qxa rfl rfl mixed ?_ | refine qxb rfl rfl mixed ?_ | refine qxc rfl rfl mixed ?_ | refine qxd rfl rfl mixed ?_ | refine xB ?_ | refine xt rfl ?_ | refine xf rfl ?_))
    (first | refine Ret_boxp (vC vT vN) rfl rfl rfl rfl rfl rfl rfl rfl rfl ?_ ?_ ?_ rfl | refine Ret_boxp (vC (vA (AG rfl) (SZ rfl) rfl rfl (lB rfl)) vN) rfl rfl rfl rfl rfl rfl rfl rfl rfl ?_ ?_ ?_ rfl | refine Ret_boxp (vC vT (vC vT vN)) rfl rfl rfl rfl rfl rfl rfl rfl rfl ?_ ?_ ?_ rfl | refine Ret_boxp (vC (vA (AG rfl) (SZ rfl) rfl rfl (lB rfl)) (vC vT vN)) rfl rfl rfl rfl rfl rfl rfl rfl rfl ?_ ?_ ?_ rfl)
    · rw [← hgo]
    · rw [← hgo]; rfl
    · rfl

set_option maxRecDepth 100000 in
set_option maxHeartbeats 4000000 in
theorem unpE_pc (t : Tr) (b : Bool) (h0 : ∀ k ∈ t.kids, ∀ b, PC Try.prog 73 [.ptr 0 0, .g k.g] (badH b) (.g (unE k b).1.g) (badH (unE k b).2)) (hb : t.kids.length ≤ 100000000) :
    PC Try.prog 72 [.ptr 0 0, .g t.g, .clo (.func 73) [.ptr 0 0] []] (badH b) (.g (.sl ((listP unE t b).1.map VExpr.g))) (badH (listP unE t b).2) := by
  have hlp : listP unE t b = goP unE t.kids (headP t b) [] := rfl
  obtain ⟨tag, tn, text, kids⟩ := t
  dsimp only [Tr.kids] at h0 hb hlp
  have hh : headP (.mk tag tn text kids) b = if tag = 0 ∧ tn = 0 ∧ text = ⟨#[]⟩ then b else true := rfl
  generalize hL : listP unE (.mk tag tn text kids) b = L at hlp ⊢
  generalize headP (.mk tag tn text kids) b = hd at hh hlp
  refine PC_of_PW Try.func72 rfl rfl (rs := _) rfl (Nat.le_of_ble_eq_true (by kernel_rfl)) ?_
  (repeat (first | ((first | refine qA ?_ | refine qB ?_ | refine xN ?_ | refine xE ?_ | refine xT ?_); try show PW _ _ _ _ _ _) | refine ro1 tabOk rfl rfl ?_ | refine ro2 tabOk rfl rfl ?_ | refine ro3 tabOk rfl rfl ?_ | refine rd1 tabOk rfl rfl ?_ | refine rd2 tabOk rfl rfl ?_ | refine rd3 tabOk rfl rfl ?_ | ((first | apply oR rfl rfl | (apply dF rfl rfl rfl; intro _) | (apply dP rfl rfl rfl; intro _) | (apply dL rfl rfl rfl; intro _) | apply dC rfl rfl rfl rfl); (focus (first | exact cJ | exact mG | exact bT | exact nD)); try exact kQ) | refine xU [1] rfl ?_ | refine xR ?_ | refine qxa rfl rfl mixed ?_ | refine qxb rfl rfl mixed ?_ | refine qxc rfl rfl mixed ?_ | refine qxd rfl rfl mixed ?_ | refine xB ?_ | refine xt rfl ?_ | refine xf rfl ?_))
  refine PW_cut (slots [(0, .ptr 0 0), (2, .clo (.func 73) [.ptr 0 0] []), (4, .ptr 1 0)]) ⟨[[.g (.bool hd)], [.g (.int .i64 tag), .g (.int .i64 tn), .g (.str text), .g (.sl (Tr.gs kids))]], [], []⟩ ?_ ?_
  · (repeat' (first | (first | ((first | refine qA ?_ | refine qB ?_ | refine xN ?_ | refine xE ?_ | refine xT ?_); try show PW _ _ _ _ _ _) | refine ro1 tabOk rfl rfl ?_ | refine ro2 tabOk rfl rfl ?_ | refine ro3 tabOk rfl rfl ?_ | refine rd1 tabOk rfl rfl ?_ | refine rd2 tabOk rfl rfl ?_ | refine rd3 tabOk rfl rfl ?_ | ((first | apply oR rfl rfl | (apply dF rfl rfl rfl; intro _) | (apply dP rfl rfl rfl; intro _) | (apply dL rfl rfl rfl; intro _) | apply dC rfl rfl rfl rfl); (focus (first | exact cJ | exact mG | exact bT | exact nD)); try exact kQ) | refine xS ?_ | refine xR ?_ | refine qxa rfl rfl mixed ?_ | refine qxb rfl rfl mixed ?_ | refine qxc rfl rfl mixed ?_ | refine qxd rfl rfl mixed ?_ | refine xB ?_ | refine xt rfl ?_ | refine xf rfl ?_) | (refine POps_split rfl rfl (fun h => ?_) (fun h => ?_) <;> fail_if_success (first | (have : true = true := h) | (have : false = false := h))) | (refine POpsD_split rfl rfl (fun h => ?_) (fun h => ?_) <;> fail_if_success (first | (have : true = true := h) | (have : false = false := h))) | refine PW_cond rfl (fun h => ?_) (fun h => ?_)))
    · have h1 : ¬ tag = 0 := by simpa [bne] using h
      rw [hh, if_neg (fun q => h1 q.1)]
      (refine ⟨SlotsOk.le ?_, HLe.of_eq ?_⟩; (repeat (first | exact meet_nil | refine meet_cons (.inl rfl) ?_ | refine meet_cons (.inr rfl) ?_ | refine meet_cons (.inl (by simp_all)) ?_)); (try rfl))
    · have h1 : ¬ tn = 0 := by simpa [bne] using h
      rw [hh, if_neg (fun q => h1 q.2.1)]
      (refine ⟨SlotsOk.le ?_, HLe.of_eq ?_⟩; (repeat (first | exact meet_nil | refine meet_cons (.inl rfl) ?_ | refine meet_cons (.inr rfl) ?_ | refine meet_cons (.inl (by simp_all)) ?_)); (try rfl))
    · have h1 : ¬ text = ⟨#[]⟩ := fun e => by subst e; simp at h
      rw [hh, if_neg (fun q => h1 q.2.2)]
      (refine ⟨SlotsOk.le ?_, HLe.of_eq ?_⟩; (repeat (first | exact meet_nil | refine meet_cons (.inl rfl) ?_ | refine meet_cons (.inr rfl) ?_ | refine meet_cons (.inl (by simp_all)) ?_)); (try rfl))
    · rename_i q1 q2
      have h1 : tag = 0 := by simpa [bne] using q1
      have h2 : tn = 0 := by simpa [bne] using q2
      have h3 : text = ⟨#[]⟩ := str_eq.1 (by simpa using h)
      rw [hh, if_pos ⟨h1, h2, h3⟩]
      (refine ⟨SlotsOk.le ?_, HLe.of_eq ?_⟩; (repeat (first | exact meet_nil | refine meet_cons (.inl rfl) ?_ | refine meet_cons (.inr rfl) ?_ | refine meet_cons (.inl (by simp_all)) ?_)); (try rfl))
  (repeat (first | ((first | refine qA ?_ | refine qB ?_ | refine xN ?_ | refine xE ?_ | refine xT ?_); try show PW _ _ _ _ _ _) | refine ro1 tabOk rfl rfl ?_ | refine ro2 tabOk rfl rfl ?_ | refine ro3 tabOk rfl rfl ?_ | refine rd1 tabOk rfl rfl ?_ | refine rd2 tabOk rfl rfl ?_ | refine rd3 tabOk rfl rfl ?_ | ((first | apply oR rfl rfl | (apply dF rfl rfl rfl; intro _) | (apply dP rfl rfl rfl; intro _) | (apply dL rfl rfl rfl; intro _) | apply dC rfl rfl rfl rfl); (focus (first | exact cJ | exact mG | exact bT | exact nD)); try exact kQ) | refine xS ?_ | refine xR ?_ | refine qxa rfl rfl mixed ?_ | refine qxb rfl rfl mixed ?_ | refine qxc rfl rfl mixed ?_ | refine qxd rfl rfl mixed ?_ | refine xB ?_ | refine xt rfl ?_ | refine xf rfl ?_))
  refine PW_buf 7 121 (SZ rfl) rfl ?_
  refine PW_loop_cut (S := Nat × Bool × List VExpr) (fun s => [(0, .ptr 0 0), (2, .clo (.func 73) [.ptr 0 0] []), (7, .own (s.2.2.map VExpr.g) 0), (27, .g (.sl (Tr.gs kids))), (28, .g (.int .i64 kids.length)), (29, .g (.int .i64 s.1))])
    (fun s => ⟨[[.g (.bool s.2.1)], [.g (.int .i64 tag), .g (.int .i64 tn), .g (.str text), .g (.sl (Tr.gs kids))]], [(121, s.1)], []⟩)
    (fun s => s.1 ≤ kids.length ∧ s.2.2.length = s.1 ∧ goP unE (kids.drop s.1) s.2.1 s.2.2 = L) (fun s => kids.length - s.1) (0, hd, []) ⟨Nat.zero_le _, rfl, hlp.symm⟩
    (SlotsOk.le ⟨.inl rfl, .inl rfl, .inl rfl, .inl rfl, .inl (congrArg (fun k : Nat => PV.g (.int .i64 k)) (gs_len kids)), .inl rfl, trivial⟩) (HLe.of_eq rfl) (fun _ => rfl) (fun s hs => ?_)
  obtain ⟨i, bc, acc⟩ := s
  obtain ⟨hi, hacc, hgo⟩ := hs
  dsimp only at hi hacc hgo
  (repeat (first | ((first | refine qA ?_ | refine qB ?_ | refine xN ?_ | refine xE ?_ | refine xT ?_); try show PW _ _ _ _ _ _) | refine ro1 tabOk rfl rfl ?_ | refine ro2 tabOk rfl rfl ?_ | refine ro3 tabOk rfl rfl ?_ | refine rd1 tabOk rfl rfl ?_ | refine rd2 tabOk rfl rfl ?_ | refine rd3 tabOk rfl rfl ?_ | ((first | apply oR rfl rfl | (apply dF rfl rfl rfl; intro _) | (apply dP rfl rfl rfl; intro _) | (apply dL rfl rfl rfl; intro _) | apply dC rfl rfl rfl rfl); (focus (first | exact cJ | exact mG | exact bT | exact nD)); try exact kQ) | refine xS ?_ | refine xR ?_ | refine qxa rfl rfl mixed ?_ | refine qxb rfl rfl mixed ?_ | refine qxc rfl rfl mixed ?_ | refine qxd rfl rfl mixed ?_ | refine xB ?_ | refine xt rfl ?_ | refine xf rfl ?_))
  (first | refine POps_split rfl rfl (fun h => ?_) (fun h => ?_) | refine POpsD_split rfl rfl (fun h => ?_) (fun h => ?_) | refine PW_cond rfl (fun h => ?_) (fun h => ?_))
  · have hlt : i < kids.length := by have := of_decide_eq_true h; dsimp only at this; omega
    have hg := gs_get hlt
    have hdr : kids.drop i = kids[i] :: kids.drop (i + 1) := List.drop_eq_getElem_cons hlt
    rw [hdr, goP] at hgo
    have hI := h0 kids[i] (List.getElem_mem hlt) bc
    generalize kids[i] = kid at hg hI hgo
    cases bc with
    | true =>
      rw [if_pos rfl] at hgo
      obtain ⟨ta, tb, tc, td⟩ := kid
      (repeat (first | ((first | refine qA ?_ | refine qB ?_ | refine xN ?_ | refine xE ?_ | refine xT ?_); try show PW _ _ _ _ _ _) | refine ro1 tabOk rfl rfl ?_ | refine ro2 tabOk rfl rfl ?_ | refine ro3 tabOk rfl rfl ?_ | refine rd1 tabOk rfl rfl ?_ | refine rd2 tabOk rfl rfl ?_ | refine rd3 tabOk rfl rfl ?_ | ((first | apply oR rfl rfl | (apply dF rfl rfl rfl; intro _) | (apply dP rfl rfl rfl; intro _) | (apply dL rfl rfl rfl; intro _) | apply dC rfl rfl rfl rfl); (focus (first | exact iA rfl (EL rfl) (SZ rfl) rfl rfl (Int.natCast_nonneg _) hg rfl | exact cJ | exact mG | exact bT | exact nD)); try exact kQ) | refine xS ?_ | refine xR ?_ | refine qxa rfl rfl mixed ?_ | refine qxb rfl rfl mixed ?_ | refine qxc rfl rfl mixed ?_ | refine qxd rfl rfl mixed ?_ | refine xB ?_ | refine xt rfl ?_ | refine xf rfl ?_))
      (first | refine Ret_boxp (vC vT vN) rfl rfl rfl rfl rfl rfl rfl rfl rfl ?_ ?_ ?_ rfl | refine Ret_boxp (vC (vA (AG rfl) (SZ rfl) rfl rfl (lB rfl)) vN) rfl rfl rfl rfl rfl rfl rfl rfl rfl ?_ ?_ ?_ rfl | refine Ret_boxp (vC vT (vC vT vN)) rfl rfl rfl rfl rfl rfl rfl rfl rfl ?_ ?_ ?_ rfl | refine Ret_boxp (vC (vA (AG rfl) (SZ rfl) rfl rfl (lB rfl)) (vC vT vN)) rfl rfl rfl rfl rfl rfl rfl rfl rfl ?_ ?_ ?_ rfl)
      · rw [← hgo]; rfl
      · rw [← hgo]; rfl
      · rfl
    | false =>
      rw [if_neg (by decide)] at hgo
      generalize unE kid false = r at hI hgo
      obtain ⟨v, rb⟩ := r
      obtain ⟨ta, tb, tc, td⟩ := kid
      have hxs : ∀ x ∈ [v.g], x.cells.length = 9 := by
        intro x hx; rw [List.mem_singleton.1 hx]; exact VExpr.cells v
      obtain ⟨k, ⟨vk, vy, vc, ve, vs, vl⟩, n, es⟩ := v
      dsimp only at hI hgo
      (repeat (first | ((first | refine qA ?_ | refine qB ?_ | refine xN ?_ | refine xE ?_ | refine xT ?_); try show PW _ _ _ _ _ _) | refine ro1 tabOk rfl rfl ?_ | refine ro2 tabOk rfl rfl ?_ | refine ro3 tabOk rfl rfl ?_ | refine rd1 tabOk rfl rfl ?_ | refine rd2 tabOk rfl rfl ?_ | refine rd3 tabOk rfl rfl ?_ | ((first | apply oR rfl rfl | (apply dF rfl rfl rfl; intro _) | (apply dP rfl rfl rfl; intro _) | (apply dL rfl rfl rfl; intro _) | apply dC rfl rfl rfl rfl); (focus (first | exact iA rfl (EL rfl) (SZ rfl) rfl rfl (Int.natCast_nonneg _) hg rfl | exact ck [] rfl rfl (EN rfl) (hI) rfl rfl rfl rfl rfl rfl rfl rfl rfl rfl rfl | exact aP (xs := [(VExpr.mk k (VVal.mk vk vy vc ve vs vl) n es).g]) rfl (EL rfl) (SZ rfl) (BY rfl) (ZR rfl) rfl rfl rfl rfl (by simp; omega) hxs (by simp; omega) (by simp [maxLen]; omega) | exact cJ | exact mG | exact bT | exact nD)); try exact kQ) | refine xS ?_ | refine xR ?_ | refine qxa rfl rfl mixed ?_ | refine qxb rfl rfl mixed ?_ | refine qxc rfl rfl mixed ?_ | refine qxd rfl rfl mixed ?_ | refine xB ?_ | refine xt rfl ?_ | refine xf rfl ?_))
      refine ⟨(i + 1, rb, acc ++ [(VExpr.mk k (VVal.mk vk vy vc ve vs vl) n es)]), ⟨hlt, by simp [hacc], hgo⟩, by dsimp only; omega, SlotsOk.le ⟨.inl rfl, .inl rfl, .inl ?_, .inl rfl, .inl rfl, .inl (congrArg (fun k => PV.g (.int .i64 k)) (wrap64 (by dsimp only; omega))), trivial⟩, Drops.mk [(Tr.mk ta tb tc td).g.cells.map PV.g] [] [] rfl⟩
      rw [List.map_append]
      rfl
  · have hi' : i = kids.length := by have := of_decide_eq_false h; dsimp only at this; omega
    subst hi'
    rw [List.drop_length, goP] at hgo
    (repeat (first | ((first | refine qA ?_ | refine qB ?_ | refine xN ?_ | refine xE ?_ | refine xT ?_); try show PW _ _ _ _ _ _) | refine ro1 tabOk rfl rfl ?_ | refine ro2 tabOk rfl rfl ?_ | refine ro3 tabOk rfl rfl ?_ | refine rd1 tabOk rfl rfl ?_ | refine rd2 tabOk rfl rfl ?_ | refine rd3 tabOk rfl rfl ?_ | ((first | apply oR rfl rfl | (apply dF rfl rfl rfl; intro _) | (apply dP rfl rfl rfl; intro _) | (apply dL rfl rfl rfl; intro _) | apply dC rfl rfl rfl rfl); (focus (first | exact cJ | exact mG | exact bT | exact nD)); try exact kQ) | refine xS ?_ | refine xR ?_ | refine qxa rfl rfl mixed ?_ | refine qxb rfl rfl mixed ?_ | refine qxc rfl rfl mixed ?_ | refine qxd rfl rfl mixed ?_ | refine xB ?_ | refine xt rfl ?_ | refine xf rfl ?_))
    (first | refine Ret_boxp (vC vT vN) rfl rfl rfl rfl rfl rfl rfl rfl rfl ?_ ?_ ?_ rfl | refine Ret_boxp (vC (vA (AG rfl) (SZ rfl) rfl rfl (lB rfl)) vN) rfl rfl rfl rfl rfl rfl rfl rfl rfl ?_ ?_ ?_ rfl | refine Ret_boxp (vC vT (vC vT vN)) rfl rfl rfl rfl rfl rfl rfl rfl rfl ?_ ?_ ?_ rfl | refine Ret_boxp (vC (vA (AG rfl) (SZ rfl) rfl rfl (lB rfl)) (vC vT vN)) rfl rfl rfl rfl rfl rfl rfl rfl rfl ?_ ?_ ?_ rfl)
    · rw [← hgo]
    · rw [← hgo]; rfl
    · rfl

set_option maxRecDepth 100000 in
set_option maxHeartbeats 4000000 in
theorem unpT_pc (t : Tr) (b : Bool) (h0 : ∀ k ∈ t.kids, ∀ b, PC Try.prog 71 [.ptr 0 0, .g k.g] (badH b) (.g (unT k b).1.g) (badH (unT k b).2)) (hb : t.kids.length ≤ 100000000) :
    PC Try.prog 70 [.ptr 0 0, .g t.g, .clo (.func 71) [.ptr 0 0] []] (badH b) (.g (.sl ((listP unT t b).1.map VTest.g))) (badH (listP unT t b).2) := by
  have hlp : listP unT t b = goP unT t.kids (headP t b) [] := rfl
  obtain ⟨tag, tn, text, kids⟩ := t
  dsimp only [Tr.kids] at h0 hb hlp
  have hh : headP (.mk tag tn text kids) b = if tag = 0 ∧ tn = 0 ∧ text = ⟨#[]⟩ then b else true := rfl
  generalize hL : listP unT (.mk tag tn text kids) b = L at hlp ⊢
  generalize headP (.mk tag tn text kids) b = hd at hh hlp
  refine PC_of_PW Try.func70 rfl rfl (rs := _) rfl (Nat.le_of_ble_eq_true (by kernel_rfl)) ?_
  (repeat (first | ((first | refine qA ?_ | refine qB ?_ | refine xN ?_ | refine xE ?_ | refine xT ?_); try show PW _ _ _ _ _ _) | refine ro1 tabOk rfl rfl ?_ | refine ro2 tabOk rfl rfl ?_ | refine ro3 tabOk rfl rfl ?_ | refine rd1 tabOk rfl rfl ?_ | refine rd2 tabOk rfl rfl ?_ | refine rd3 tabOk rfl rfl ?_ | ((first | apply oR rfl rfl | (apply dF rfl rfl rfl; intro _) | (apply dP rfl rfl rfl; intro _) | (apply dL rfl rfl rfl; intro _) | apply dC rfl rfl rfl rfl); (focus (first | exact cJ | exact mG | exact bT | exact nD)); try exact kQ) | refine xU [1] rfl ?_ | refine xR ?_ | refine qxa rfl rfl mixed ?_ | refine qxb rfl rfl mixed ?_ | refine qxc rfl rfl mixed ?_ | refine qxd rfl rfl mixed ?_ | refine xB ?_ | refine xt rfl ?_ | refine xf rfl ?_))
  refine PW_cut (slots [(0, .ptr 0 0), (2, .clo (.func 71) [.ptr 0 0] []), (4, .ptr 1 0)]) ⟨[[.g (.bool hd)], [.g (.int .i64 tag), .g (.int .i64 tn), .g (.str text), .g (.sl (Tr.gs kids))]], [], []⟩ ?_ ?_
  · (repeat' (first | (first | ((first | refine qA ?_ | refine qB ?_ | refine xN ?_ | refine xE ?_ | refine xT ?_); try show PW _ _ _ _ _ _) | refine ro1 tabOk rfl rfl ?_ | refine ro2 tabOk rfl rfl ?_ | refine ro3 tabOk rfl rfl ?_ | refine rd1 tabOk rfl rfl ?_ | refine rd2 tabOk rfl rfl ?_ | refine rd3 tabOk rfl rfl ?_ | ((first | apply oR rfl rfl | (apply dF rfl rfl rfl; intro _) | (apply dP rfl rfl rfl; intro _) | (apply dL rfl rfl rfl; intro _) | apply dC rfl rfl rfl rfl); (focus (first | exact cJ | exact mG | exact bT | exact nD)); try exact kQ) | refine xS ?_ | refine xR ?_ | refine qxa rfl rfl mixed ?_ | refine qxb rfl rfl mixed ?_ | refine qxc rfl rfl mixed ?_ | refine qxd rfl rfl mixed ?_ | refine xB ?_ | refine xt rfl ?_ | refine xf rfl ?_) | (refine POps_split rfl rfl (fun h => ?_) (fun h => ?_) <;> fail_if_success (first | (have : true = true := h) | (have : false = false := h))) | (refine POpsD_split rfl rfl (fun h => ?_) (fun h => ?_) <;> fail_if_success (first | (have : true = true := h) | (have : false = false := h))) | refine PW_cond rfl (fun h => ?_) (fun h => ?_)))
    · have h1 : ¬ tag = 0 := by simpa [bne] using h
      rw [hh, if_neg (fun q => h1 q.1)]
      (refine ⟨SlotsOk.le ?_, HLe.of_eq ?_⟩; (repeat (first | exact meet_nil | refine meet_cons (.inl rfl) ?_ | refine meet_cons (.inr rfl) ?_ | refine meet_cons (.inl (by simp_all)) ?_)); (try rfl))
    · have h1 : ¬ tn = 0 := by simpa [bne] using h
      rw [hh, if_neg (fun q => h1 q.2.1)]
      (refine ⟨SlotsOk.le ?_, HLe.of_eq ?_⟩; (repeat (first | exact meet_nil | refine meet_cons (.inl rfl) ?_ | refine meet_cons (.inr rfl) ?_ | refine meet_cons (.inl (by simp_all)) ?_)); (try rfl))
    · have h1 : ¬ text = ⟨#[]⟩ := fun e => by subst e; simp at h
      rw [hh, if_neg (fun q => h1 q.2.2)]
      (refine ⟨SlotsOk.le ?_, HLe.of_eq ?_⟩; (repeat (first | exact meet_nil | refine meet_cons (.inl rfl) ?_ | refine meet_cons (.inr rfl) ?_ | refine meet_cons (.inl (by simp_all)) ?_)); (try rfl))
    · rename_i q1 q2
      have h1 : tag = 0 := by simpa [bne] using q1
      have h2 : tn = 0 := by simpa [bne] using q2
      have h3 : text = ⟨#[]⟩ := str_eq.1 (by simpa using h)
      rw [hh, if_pos ⟨h1, h2, h3⟩]
      (refine ⟨SlotsOk.le ?_, HLe.of_eq ?_⟩; (repeat (first | exact meet_nil | refine meet_cons (.inl rfl) ?_ | refine meet_cons (.inr rfl) ?_ | refine meet_cons (.inl (by simp_all)) ?_)); (try rfl))
  (repeat (first | ((first | refine qA ?_ | refine qB ?_ | refine xN ?_ | refine xE ?_ | refine xT ?_); try show PW _ _ _ _ _ _) | refine ro1 tabOk rfl rfl ?_ | refine ro2 tabOk rfl rfl ?_ | refine ro3 tabOk rfl rfl ?_ | refine rd1 tabOk rfl rfl ?_ | refine rd2 tabOk rfl rfl ?_ | refine rd3 tabOk rfl rfl ?_ | ((first | apply oR rfl rfl | (apply dF rfl rfl rfl; intro _) | (apply dP rfl rfl rfl; intro _) | (apply dL rfl rfl rfl; intro _) | apply dC rfl rfl rfl rfl); (focus (first | exact cJ | exact mG | exact bT | exact nD)); try exact kQ) | refine xS ?_ | refine xR ?_ | refine qxa rfl rfl mixed ?_ | refine qxb rfl rfl mixed ?_ | refine qxc rfl rfl mixed ?_ | refine qxd rfl rfl mixed ?_ | refine xB ?_ | refine xt rfl ?_ | refine xf rfl ?_))
  refine PW_buf 7 117 (SZ rfl) rfl ?_
  refine PW_loop_cut (S := Nat × Bool × List VTest) (fun s => [(0, .ptr 0 0), (2, .clo (.func 71) [.ptr 0 0] []), (7, .own (s.2.2.map VTest.g) 0), (27, .g (.sl (Tr.gs kids))), (28, .g (.int .i64 kids.length)), (29, .g (.int .i64 s.1))])
    (fun s => ⟨[[.g (.bool s.2.1)], [.g (.int .i64 tag), .g (.int .i64 tn), .g (.str text), .g (.sl (Tr.gs kids))]], [(117, s.1)], []⟩)
    (fun s => s.1 ≤ kids.length ∧ s.2.2.length = s.1 ∧ goP unT (kids.drop s.1) s.2.1 s.2.2 = L) (fun s => kids.length - s.1) (0, hd, []) ⟨Nat.zero_le _, rfl, hlp.symm⟩
    (SlotsOk.le ⟨.inl rfl, .inl rfl, .inl rfl, .inl rfl, .inl (congrArg (fun k : Nat => PV.g (.int .i64 k)) (gs_len kids)), .inl rfl, trivial⟩) (HLe.of_eq rfl) (fun _ => rfl) (fun s hs => ?_)
  obtain ⟨i, bc, acc⟩ := s
  obtain ⟨hi, hacc, hgo⟩ := hs
  dsimp only at hi hacc hgo
  (repeat (first | ((first | refine qA ?_ | refine qB ?_ | refine xN ?_ | refine xE ?_ | refine xT ?_); try show PW _ _ _ _ _ _) | refine ro1 tabOk rfl rfl ?_ | refine ro2 tabOk rfl rfl ?_ | refine ro3 tabOk rfl rfl ?_ | refine rd1 tabOk rfl rfl ?_ | refine rd2 tabOk rfl rfl ?_ | refine rd3 tabOk rfl rfl ?_ | ((first | apply oR rfl rfl | (apply dF rfl rfl rfl; intro _) | (apply dP rfl rfl rfl; intro _) | (apply dL rfl rfl rfl; intro _) | apply dC rfl rfl rfl rfl); (focus (first | exact cJ | exact mG | exact bT | exact nD)); try exact kQ) | refine xS ?_ | refine xR ?_ | refine qxa rfl rfl mixed ?_ | refine qxb rfl rfl mixed ?_ | refine qxc rfl rfl mixed ?_ | refine qxd rfl rfl mixed ?_ | refine xB ?_ | refine xt rfl ?_ | refine xf rfl ?_))
  (first | refine POps_split rfl rfl (fun h => ?_) (fun h => ?_) | refine POpsD_split rfl rfl (fun h => ?_) (fun h => ?_) | refine PW_cond rfl (fun h => ?_) (fun h => ?_))
  · have hlt : i < kids.length := by have := of_decide_eq_true h; dsimp only at this; omega
    have hg := gs_get hlt
    have hdr : kids.drop i = kids[i] :: kids.drop (i + 1) := List.drop_eq_getElem_cons hlt
    rw [hdr, goP] at hgo
    have hI := h0 kids[i] (List.getElem_mem hlt) bc
    generalize kids[i] = kid at hg hI hgo
    cases bc with
    | true =>
      rw [if_pos rfl] at hgo
      obtain ⟨ta, tb, tc, td⟩ := kid
      (repeat (first | ((first | refine qA ?_ | refine qB ?_ | refine xN ?_ | refine xE ?_ | refine xT ?_); try show PW _ _ _ _ _ _) | refine ro1 tabOk rfl rfl ?_ | refine ro2 tabOk rfl rfl ?_ | refine ro3 tabOk rfl rfl ?_ | refine rd1 tabOk rfl rfl ?_ | refine rd2 tabOk rfl rfl ?_ | refine rd3 tabOk rfl rfl ?_ | ((first | apply oR rfl rfl | (apply dF rfl rfl rfl; intro _) | (apply dP rfl rfl rfl; intro _) | (apply dL rfl rfl rfl; intro _) | apply dC rfl rfl rfl rfl); (focus (first | exact iA rfl (EL rfl) (SZ rfl) rfl rfl (Int.natCast_nonneg _) hg rfl | exact cJ | exact mG | exact bT | exact nD)); try exact kQ) | refine xS ?_ | refine xR ?_ | refine qxa rfl rfl mixed ?_ | refine qxb rfl rfl mixed ?_ | refine qxc rfl rfl mixed ?_ | refine qxd rfl rfl mixed ?_ | refine xB ?_ | refine xt rfl ?_ | refine xf rfl ?_))
      (first | refine Ret_boxp (vC vT vN) rfl rfl rfl rfl rfl rfl rfl rfl rfl ?_ ?_ ?_ rfl | refine Ret_boxp (vC (vA (AG rfl) (SZ rfl) rfl rfl (lB rfl)) vN) rfl rfl rfl rfl rfl rfl rfl rfl rfl ?_ ?_ ?_ rfl | refine Ret_boxp (vC vT (vC vT vN)) rfl rfl rfl rfl rfl rfl rfl rfl rfl ?_ ?_ ?_ rfl | refine Ret_boxp (vC (vA (AG rfl) (SZ rfl) rfl rfl (lB rfl)) (vC vT vN)) rfl rfl rfl rfl rfl rfl rfl rfl rfl ?_ ?_ ?_ rfl)
      · rw [← hgo]; rfl
      · rw [← hgo]; rfl
      · rfl
    | false =>
      rw [if_neg (by decide)] at hgo
      generalize unT kid false = r at hI hgo
      obtain ⟨v, rb⟩ := r
      obtain ⟨ta, tb, tc, td⟩ := kid
      have hxs : ∀ x ∈ [v.g], x.cells.length = 16 := by
        intro x hx; rw [List.mem_singleton.1 hx]; exact VTest.cells v
      obtain ⟨k, ⟨vk, vy, vc, ve, vs, vl⟩, ⟨uk, uy, uc, ue, us, ul⟩, oa, ob, es⟩ := v
      dsimp only at hI hgo
      (repeat (first | ((first | refine qA ?_ | refine qB ?_ | refine xN ?_ | refine xE ?_ | refine xT ?_); try show PW _ _ _ _ _ _) | refine ro1 tabOk rfl rfl ?_ | refine ro2 tabOk rfl rfl ?_ | refine ro3 tabOk rfl rfl ?_ | refine rd1 tabOk rfl rfl ?_ | refine rd2 tabOk rfl rfl ?_ | refine rd3 tabOk rfl rfl ?_ | ((first | apply oR rfl rfl | (apply dF rfl rfl rfl; intro _) | (apply dP rfl rfl rfl; intro _) | (apply dL rfl rfl rfl; intro _) | apply dC rfl rfl rfl rfl); (focus (first | exact iA rfl (EL rfl) (SZ rfl) rfl rfl (Int.natCast_nonneg _) hg rfl | exact ck [] rfl rfl (EN rfl) (hI) rfl rfl rfl rfl rfl rfl rfl rfl rfl rfl rfl | exact aP (xs := [(VTest.mk k (VVal.mk vk vy vc ve vs vl) (VVal.mk uk uy uc ue us ul) oa ob es).g]) rfl (EL rfl) (SZ rfl) (BY rfl) (ZR rfl) rfl rfl rfl rfl (by simp; omega) hxs (by simp; omega) (by simp [maxLen]; omega) | exact cJ | exact mG | exact bT | exact nD)); try exact kQ) | refine xS ?_ | refine xR ?_ | refine qxa rfl rfl mixed ?_ | refine qxb rfl rfl mixed ?_ | refine qxc rfl rfl mixed ?_ | refine qxd rfl rfl mixed ?_ | refine xB ?_ | refine xt rfl ?_ | refine xf rfl ?_))
      refine ⟨(i + 1, rb, acc ++ [(VTest.mk k (VVal.mk vk vy vc ve vs vl) (VVal.mk uk uy uc ue us ul) oa ob es)]), ⟨hlt, by simp [hacc], hgo⟩, by dsimp only; omega, SlotsOk.le ⟨.inl rfl, .inl rfl, .inl ?_, .inl rfl, .inl rfl, .inl (congrArg (fun k => PV.g (.int .i64 k)) (wrap64 (by dsimp only; omega))), trivial⟩, Drops.mk [(Tr.mk ta tb tc td).g.cells.map PV.g] [] [] rfl⟩
      rw [List.map_append]
      rfl
  · have hi' : i = kids.length := by have := of_decide_eq_false h; dsimp only at this; omega
    subst hi'
    rw [List.drop_length, goP] at hgo
    (repeat (first | ((first | refine qA ?_ | refine qB ?_ | refine xN ?_ | refine xE ?_ | refine xT ?_); try show PW _ _ _ _ _ _) | refine ro1 tabOk rfl rfl ?_ | refine ro2 tabOk rfl rfl ?_ | refine ro3 tabOk rfl rfl ?_ | refine rd1 tabOk rfl rfl ?_ | refine rd2 tabOk rfl rfl ?_ | refine rd3 tabOk rfl rfl ?_ | ((first | apply oR rfl rfl | (apply dF rfl rfl rfl; intro _) | (apply dP rfl rfl rfl; intro _) | (apply dL rfl rfl rfl; intro _) | apply dC rfl rfl rfl rfl); (focus (first | exact cJ | exact mG | exact bT | exact nD)); try exact kQ) | refine xS ?_ | refine xR ?_ | refine qxa rfl rfl mixed ?_ | refine qxb rfl rfl mixed ?_ | refine qxc rfl rfl mixed ?_ | refine qxd rfl rfl mixed ?_ | refine xB ?_ | refine xt rfl ?_ | refine xf rfl ?_))
    (first | refine Ret_boxp (vC vT vN) rfl rfl rfl rfl rfl rfl rfl rfl rfl ?_ ?_ ?_ rfl | refine Ret_boxp (vC (vA (AG rfl) (SZ rfl) rfl rfl (lB rfl)) vN) rfl rfl rfl rfl rfl rfl rfl rfl rfl ?_ ?_ ?_ rfl | refine Ret_boxp (vC vT (vC vT vN)) rfl rfl rfl rfl rfl rfl rfl rfl rfl ?_ ?_ ?_ rfl | refine Ret_boxp (vC (vA (AG rfl) (SZ rfl) rfl rfl (lB rfl)) (vC vT vN)) rfl rfl rfl rfl rfl rfl rfl rfl rfl ?_ ?_ ?_ rfl)
    · rw [← hgo]
    · rw [← hgo]; rfl
    · rfl

set_option maxRecDepth 100000 in
set_option maxHeartbeats 4000000 in
theorem unpC_pc (t : Tr) (b : Bool) (h0 : ∀ k ∈ t.kids, ∀ b, PC Try.prog 46 [.ptr 0 0, .g k.g] (badH b) (.g (unC k b).1.g) (badH (unC k b).2)) (hb : t.kids.length ≤ 100000000) :
    PC Try.prog 45 [.ptr 0 0, .g t.g, .clo (.func 46) [.ptr 0 0] []] (badH b) (.g (.sl ((listP unC t b).1.map VCol.g))) (badH (listP unC t b).2) := by
  have hlp : listP unC t b = goP unC t.kids (headP t b) [] := rfl
  obtain ⟨tag, tn, text, kids⟩ := t
  dsimp only [Tr.kids] at h0 hb hlp
  have hh : headP (.mk tag tn text kids) b = if tag = 0 ∧ tn = 0 ∧ text = ⟨#[]⟩ then b else true := rfl
  generalize hL : listP unC (.mk tag tn text kids) b = L at hlp ⊢
  generalize headP (.mk tag tn text kids) b = hd at hh hlp
  refine PC_of_PW Try.func45 rfl rfl (rs := _) rfl (Nat.le_of_ble_eq_true (by kernel_rfl)) ?_
  (repeat (first | ((first | refine qA ?_ | refine qB ?_ | refine xN ?_ | refine xE ?_ | refine xT ?_); try show PW _ _ _ _ _ _) | refine ro1 tabOk rfl rfl ?_ | refine ro2 tabOk rfl rfl ?_ | refine ro3 tabOk rfl rfl ?_ | refine rd1 tabOk rfl rfl ?_ | refine rd2 tabOk rfl rfl ?_ | refine rd3 tabOk rfl rfl ?_ | ((first | apply oR rfl rfl | (apply dF rfl rfl rfl; intro _) | (apply dP rfl rfl rfl; intro _) | (apply dL rfl rfl rfl; intro _) | apply dC rfl rfl rfl rfl); (focus (first | exact cJ | exact mG | exact bT | exact nD)); try exact kQ) | refine xU [1] rfl ?_ | refine xR ?_ | refine qxa rfl rfl mixed ?_ | refine qxb rfl rfl mixed ?_ | refine qxc rfl rfl mixed ?_ | refine qxd rfl rfl mixed ?_ | refine xB ?_ | refine xt rfl ?_ | refine xf rfl ?_))
  refine PW_cut (slots [(0, .ptr 0 0), (2, .clo (.func 46) [.ptr 0 0] []), (4, .ptr 1 0)]) ⟨[[.g (.bool hd)], [.g (.int .i64 tag), .g (.int .i64 tn), .g (.str text), .g (.sl (Tr.gs kids))]], [], []⟩ ?_ ?_
  · (repeat' (first | (first | ((first | refine qA ?_ | refine qB ?_ | refine xN ?_ | refine xE ?_ | refine xT ?_); try show PW _ _ _ _ _ _) | refine ro1 tabOk rfl rfl ?_ | refine ro2 tabOk rfl rfl ?_ | refine ro3 tabOk rfl rfl ?_ | refine rd1 tabOk rfl rfl ?_ | refine rd2 tabOk rfl rfl ?_ | refine rd3 tabOk rfl rfl ?_ | ((first | apply oR rfl rfl | (apply dF rfl rfl rfl; intro _) | (apply dP rfl rfl rfl; intro _) | (apply dL rfl rfl rfl; intro _) | apply dC rfl rfl rfl rfl); (focus (first | exact cJ | exact mG | exact bT | exact nD)); try exact kQ) | refine xS ?_ | refine xR ?_ | refine qxa rfl rfl mixed ?_ | refine qxb rfl rfl mixed ?_ | refine qxc rfl rfl mixed ?_ | refine qxd rfl rfl mixed ?_ | refine xB ?_ | refine xt rfl ?_ | refine xf rfl ?_) | (refine POps_split rfl rfl (fun h => ?_) (fun h => ?_) <;> fail_if_success (first | (have : true = true := h) | (have : false = false := h))) | (refine POpsD_split rfl rfl (fun h => ?_) (fun h => ?_) <;> fail_if_success (first | (have : true = true := h) | (have : false = false := h))) | refine PW_cond rfl (fun h => ?_) (fun h => ?_)))
    · have h1 : ¬ tag = 0 := by simpa [bne] using h
      rw [hh, if_neg (fun q => h1 q.1)]
      (refine ⟨SlotsOk.le ?_, HLe.of_eq ?_⟩; (repeat (first | exact meet_nil | refine meet_cons (.inl rfl) ?_ | refine meet_cons (.inr rfl) ?_ | refine meet_cons (.inl (by simp_all)) ?_)); (try rfl))
    · have h1 : ¬ tn = 0 := by simpa [bne] using h
      rw [hh, if_neg (fun q => h1 q.2.1)]
      (refine ⟨SlotsOk.le ?_, HLe.of_eq ?_⟩; (repeat (first | exact meet_nil | refine meet_cons (.inl rfl) ?_ | refine meet_cons (.inr rfl) ?_ | refine meet_cons (.inl (by simp_all)) ?_)); (try rfl))
    · have h1 : ¬ text = ⟨#[]⟩ := fun e => by subst e; simp at h
      rw [hh, if_neg (fun q => h1 q.2.2)]
      (refine ⟨SlotsOk.le ?_, HLe.of_eq ?_⟩; (repeat (first | exact meet_nil | refine meet_cons (.inl rfl) ?_ | refine meet_cons (.inr rfl) ?_ | refine meet_cons (.inl (by simp_all)) ?_)); (try rfl))
    · rename_i q1 q2
      have h1 : tag = 0 := by simpa [bne] using q1
      have h2 : tn = 0 := by simpa [bne] using q2
      have h3 : text = ⟨#[]⟩ := str_eq.1 (by simpa using h)
      rw [hh, if_pos ⟨h1, h2, h3⟩]
      (refine ⟨SlotsOk.le ?_, HLe.of_eq ?_⟩; (repeat (first | exact meet_nil | refine meet_cons (.inl rfl) ?_ | refine meet_cons (.inr rfl) ?_ | refine meet_cons (.inl (by simp_all)) ?_)); (try rfl))
  (repeat (first | ((first | refine qA ?_ | refine qB ?_ | refine xN ?_ | refine xE ?_ | refine xT ?_); try show PW _ _ _ _ _ _) | refine ro1 tabOk rfl rfl ?_ | refine ro2 tabOk rfl rfl ?_ | refine ro3 tabOk rfl rfl ?_ | refine rd1 tabOk rfl rfl ?_ | refine rd2 tabOk rfl rfl ?_ | refine rd3 tabOk rfl rfl ?_ | ((first | apply oR rfl rfl | (apply dF rfl rfl rfl; intro _) | (apply dP rfl rfl rfl; intro _) | (apply dL rfl rfl rfl; intro _) | apply dC rfl rfl rfl rfl); (focus (first | exact cJ | exact mG | exact bT | exact nD)); try exact kQ) | refine xS ?_ | refine xR ?_ | refine qxa rfl rfl mixed ?_ | refine qxb rfl rfl mixed ?_ | refine qxc rfl rfl mixed ?_ | refine qxd rfl rfl mixed ?_ | refine xB ?_ | refine xt rfl ?_ | refine xf rfl ?_))
  refine PW_buf 7 66 (SZ rfl) rfl ?_
  refine PW_loop_cut (S := Nat × Bool × List VCol) (fun s => [(0, .ptr 0 0), (2, .clo (.func 46) [.ptr 0 0] []), (7, .own (s.2.2.map VCol.g) 0), (27, .g (.sl (Tr.gs kids))), (28, .g (.int .i64 kids.length)), (29, .g (.int .i64 s.1))])
    (fun s => ⟨[[.g (.bool s.2.1)], [.g (.int .i64 tag), .g (.int .i64 tn), .g (.str text), .g (.sl (Tr.gs kids))]], [(66, s.1)], []⟩)
    (fun s => s.1 ≤ kids.length ∧ s.2.2.length = s.1 ∧ goP unC (kids.drop s.1) s.2.1 s.2.2 = L) (fun s => kids.length - s.1) (0, hd, []) ⟨Nat.zero_le _, rfl, hlp.symm⟩
    (SlotsOk.le ⟨.inl rfl, .inl rfl, .inl rfl, .inl rfl, .inl (congrArg (fun k : Nat => PV.g (.int .i64 k)) (gs_len kids)), .inl rfl, trivial⟩) (HLe.of_eq rfl) (fun _ => rfl) (fun s hs => ?_)
  obtain ⟨i, bc, acc⟩ := s
  obtain ⟨hi, hacc, hgo⟩ := hs
  dsimp only at hi hacc hgo
  (repeat (first | ((first | refine qA ?_ | refine qB ?_ | refine xN ?_ | refine xE ?_ | refine xT ?_); try show PW _ _ _ _ _ _) | refine ro1 tabOk rfl rfl ?_ | refine ro2 tabOk rfl rfl ?_ | refine ro3 tabOk rfl rfl ?_ | refine rd1 tabOk rfl rfl ?_ | refine rd2 tabOk rfl rfl ?_ | refine rd3 tabOk rfl rfl ?_ | ((first | apply oR rfl rfl | (apply dF rfl rfl rfl; intro _) | (apply dP rfl rfl rfl; intro _) | (apply dL rfl rfl rfl; intro _) | apply dC rfl rfl rfl rfl); (focus (first | exact cJ | exact mG | exact bT | exact nD)); try exact kQ) | refine xS ?_ | refine xR ?_ | refine qxa rfl rfl mixed ?_ | refine qxb rfl rfl mixed ?_ | refine qxc rfl rfl mixed ?_ | refine qxd rfl rfl mixed ?_ | refine xB ?_ | refine xt rfl ?_ | refine xf rfl ?_))
  (first | refine POps_split rfl rfl (fun h => ?_) (fun h => ?_) | refine POpsD_split rfl rfl (fun h => ?_) (fun h => ?_) | refine PW_cond rfl (fun h => ?_) (fun h => ?_))
  · have hlt : i < kids.length := by have := of_decide_eq_true h; dsimp only at this; omega
    have hg := gs_get hlt
    have hdr : kids.drop i = kids[i] :: kids.drop (i + 1) := List.drop_eq_getElem_cons hlt
    rw [hdr, goP] at hgo
    have hI := h0 kids[i] (List.getElem_mem hlt) bc
    generalize kids[i] = kid at hg hI hgo
    cases bc with
    | true =>
      rw [if_pos rfl] at hgo
      obtain ⟨ta, tb, tc, td⟩ := kid
      (repeat (first | ((first | refine qA ?_ | refine qB ?_ | refine xN ?_ | refine xE ?_ | refine xT ?_); try show PW _ _ _ _ _ _) | refine ro1 tabOk rfl rfl ?_ | refine ro2 tabOk rfl rfl ?_ | refine ro3 tabOk rfl rfl ?_ | refine rd1 tabOk rfl rfl ?_ | refine rd2 tabOk rfl rfl ?_ | refine rd3 tabOk rfl rfl ?_ | ((first | apply oR rfl rfl | (apply dF rfl rfl rfl; intro _) | (apply dP rfl rfl rfl; intro _) | (apply dL rfl rfl rfl; intro _) | apply dC rfl rfl rfl rfl); (focus (first | exact iA rfl (EL rfl) (SZ rfl) rfl rfl (Int.natCast_nonneg _) hg rfl | exact cJ | exact mG | exact bT | exact nD)); try exact kQ) | refine xS ?_ | refine xR ?_ | refine qxa rfl rfl mixed ?_ | refine qxb rfl rfl mixed ?_ | refine qxc rfl rfl mixed ?_ | refine qxd rfl rfl mixed ?_ | refine xB ?_ | refine xt rfl ?_ | refine xf rfl ?_))
      (first | refine Ret_boxp (vC vT vN) rfl rfl rfl rfl rfl rfl rfl rfl rfl ?_ ?_ ?_ rfl | refine Ret_boxp (vC (vA (AG rfl) (SZ rfl) rfl rfl (lB rfl)) vN) rfl rfl rfl rfl rfl rfl rfl rfl rfl ?_ ?_ ?_ rfl | refine Ret_boxp (vC vT (vC vT vN)) rfl rfl rfl rfl rfl rfl rfl rfl rfl ?_ ?_ ?_ rfl | refine Ret_boxp (vC (vA (AG rfl) (SZ rfl) rfl rfl (lB rfl)) (vC vT vN)) rfl rfl rfl rfl rfl rfl rfl rfl rfl ?_ ?_ ?_ rfl)
      · rw [← hgo]; rfl
      · rw [← hgo]; rfl
      · rfl
    | false =>
      rw [if_neg (by decide)] at hgo
      generalize unC kid false = r at hI hgo
      obtain ⟨v, rb⟩ := r
      obtain ⟨ta, tb, tc, td⟩ := kid
      have hxs : ∀ x ∈ [v.g], x.cells.length = 3 := by
        intro x hx; rw [List.mem_singleton.1 hx]; exact VCol.cells v
      obtain ⟨n, k, o⟩ := v
      dsimp only at hI hgo
      (repeat (first | ((first | refine qA ?_ | refine qB ?_ | refine xN ?_ | refine xE ?_ | refine xT ?_); try show PW _ _ _ _ _ _) | refine ro1 tabOk rfl rfl ?_ | refine ro2 tabOk rfl rfl ?_ | refine ro3 tabOk rfl rfl ?_ | refine rd1 tabOk rfl rfl ?_ | refine rd2 tabOk rfl rfl ?_ | refine rd3 tabOk rfl rfl ?_ | ((first | apply oR rfl rfl | (apply dF rfl rfl rfl; intro _) | (apply dP rfl rfl rfl; intro _) | (apply dL rfl rfl rfl; intro _) | apply dC rfl rfl rfl rfl); (focus (first | exact iA rfl (EL rfl) (SZ rfl) rfl rfl (Int.natCast_nonneg _) hg rfl | exact ck [] rfl rfl (EN rfl) (hI) rfl rfl rfl rfl rfl rfl rfl rfl rfl rfl rfl | exact aP (xs := [(VCol.mk n k o).g]) rfl (EL rfl) (SZ rfl) (BY rfl) (ZR rfl) rfl rfl rfl rfl (by simp; omega) hxs (by simp; omega) (by simp [maxLen]; omega) | exact cJ | exact mG | exact bT | exact nD)); try exact kQ) | refine xS ?_ | refine xR ?_ | refine qxa rfl rfl mixed ?_ | refine qxb rfl rfl mixed ?_ | refine qxc rfl rfl mixed ?_ | refine qxd rfl rfl mixed ?_ | refine xB ?_ | refine xt rfl ?_ | refine xf rfl ?_))
      refine ⟨(i + 1, rb, acc ++ [(VCol.mk n k o)]), ⟨hlt, by simp [hacc], hgo⟩, by dsimp only; omega, SlotsOk.le ⟨.inl rfl, .inl rfl, .inl ?_, .inl rfl, .inl rfl, .inl (congrArg (fun k => PV.g (.int .i64 k)) (wrap64 (by dsimp only; omega))), trivial⟩, Drops.mk [(Tr.mk ta tb tc td).g.cells.map PV.g] [] [] rfl⟩
      rw [List.map_append]
      rfl
  · have hi' : i = kids.length := by have := of_decide_eq_false h; dsimp only at this; omega
    subst hi'
    rw [List.drop_length, goP] at hgo
    (repeat (first | ((first | refine qA ?_ | refine qB ?_ | refine xN ?_ | refine xE ?_ | refine xT ?_); try show PW _ _ _ _ _ _) | refine ro1 tabOk rfl rfl ?_ | refine ro2 tabOk rfl rfl ?_ | refine ro3 tabOk rfl rfl ?_ | refine rd1 tabOk rfl rfl ?_ | refine rd2 tabOk rfl rfl ?_ | refine rd3 tabOk rfl rfl ?_ | ((first | apply oR rfl rfl | (apply dF rfl rfl rfl; intro _) | (apply dP rfl rfl rfl; intro _) | (apply dL rfl rfl rfl; intro _) | apply dC rfl rfl rfl rfl); (focus (first | exact cJ | exact mG | exact bT | exact nD)); try exact kQ) | refine xS ?_ | refine xR ?_ | refine qxa rfl rfl mixed ?_ | refine qxb rfl rfl mixed ?_ | refine qxc rfl rfl mixed ?_ | refine qxd rfl rfl mixed ?_ | refine xB ?_ | refine xt rfl ?_ | refine xf rfl ?_))
    (first | refine Ret_boxp (vC vT vN) rfl rfl rfl rfl rfl rfl rfl rfl rfl ?_ ?_ ?_ rfl | refine Ret_boxp (vC (vA (AG rfl) (SZ rfl) rfl rfl (lB rfl)) vN) rfl rfl rfl rfl rfl rfl rfl rfl rfl ?_ ?_ ?_ rfl | refine Ret_boxp (vC vT (vC vT vN)) rfl rfl rfl rfl rfl rfl rfl rfl rfl ?_ ?_ ?_ rfl | refine Ret_boxp (vC (vA (AG rfl) (SZ rfl) rfl rfl (lB rfl)) (vC vT vN)) rfl rfl rfl rfl rfl rfl rfl rfl rfl ?_ ?_ ?_ rfl)
    · rw [← hgo]
    · rw [← hgo]; rfl
    · rfl

set_option maxRecDepth 100000 in
set_option maxHeartbeats 4000000 in
theorem unpR_pc (t : Tr) (b : Bool) (h0 : ∀ k ∈ t.kids, ∀ b, PC Try.prog 48 [.ptr 0 0, .g k.g] (badH b) (.g (unR k b).1.g) (badH (unR k b).2)) (hb : t.kids.length ≤ 100000000) :
    PC Try.prog 47 [.ptr 0 0, .g t.g, .clo (.func 48) [.ptr 0 0] []] (badH b) (.g (.sl ((listP unR t b).1.map VRule.g))) (badH (listP unR t b).2) := by
  have hlp : listP unR t b = goP unR t.kids (headP t b) [] := rfl
  obtain ⟨tag, tn, text, kids⟩ := t
  dsimp only [Tr.kids] at h0 hb hlp
  have hh : headP (.mk tag tn text kids) b = if tag = 0 ∧ tn = 0 ∧ text = ⟨#[]⟩ then b else true := rfl
  generalize hL : listP unR (.mk tag tn text kids) b = L at hlp ⊢
  generalize headP (.mk tag tn text kids) b = hd at hh hlp
  refine PC_of_PW Try.func47 rfl rfl (rs := _) rfl (Nat.le_of_ble_eq_true (by kernel_rfl)) ?_
  (repeat (first | ((first | refine qA ?_ | refine qB ?_ | refine xN ?_ | refine xE ?_ | refine xT ?_); try show PW _ _ _ _ _ _) | refine ro1 tabOk rfl rfl ?_ | refine ro2 tabOk rfl rfl ?_ | refine ro3 tabOk rfl rfl ?_ | refine rd1 tabOk rfl rfl ?_ | refine rd2 tabOk rfl rfl ?_ | refine rd3 tabOk rfl rfl ?_ | ((first | apply oR rfl rfl | (apply dF rfl rfl rfl; intro _) | (apply dP rfl rfl rfl; intro _) | (apply dL rfl rfl rfl; intro _) | apply dC rfl rfl rfl rfl); (focus (first | exact cJ | exact mG | exact bT | exact nD)); try exact kQ) | refine xU [1] rfl ?_ | refine xR ?_ | refine qxa rfl rfl mixed ?_ | refine qxb rfl rfl mixed ?_ | refine qxc rfl rfl mixed ?_ | refine qxd rfl rfl mixed ?_ | refine xB ?_ | refine xt rfl ?_ | refine xf rfl ?_))
  refine PW_cut (slots [(0, .ptr 0 0), (2, .clo (.func 48) [.ptr 0 0] []), (4, .ptr 1 0)]) ⟨[[.g (.bool hd)], [.g (.int .i64 tag), .g (.int .i64 tn), .g (.str text), .g (.sl (Tr.gs kids))]], [], []⟩ ?_ ?_
  · (repeat' (first | (first | ((first | refine qA ?_ | refine qB ?_ | refine xN ?_ | refine xE ?_ | refine xT ?_); try show PW _ _ _ _ _ _) | refine ro1 tabOk rfl rfl ?_ | refine ro2 tabOk rfl rfl ?_ | refine ro3 tabOk rfl rfl ?_ | refine rd1 tabOk rfl rfl ?_ | refine rd2 tabOk rfl rfl ?_ | refine rd3 tabOk rfl rfl ?_ | ((first | apply oR rfl rfl | (apply dF rfl rfl rfl; intro _) | (apply dP rfl rfl rfl; intro _) | (apply dL rfl rfl rfl; intro _) | apply dC rfl rfl rfl rfl); (focus (first | exact cJ | exact mG | exact bT | exact nD)); try exact kQ) | refine xS ?_ | refine xR ?_ | refine qxa rfl rfl mixed ?_ | refine qxb rfl rfl mixed ?_ | refine qxc rfl rfl mixed ?_ | refine qxd rfl rfl mixed ?_ | refine xB ?_ | refine xt rfl ?_ | refine xf rfl ?_) | (refine POps_split rfl rfl (fun h => ?_) (fun h => ?_) <;> fail_if_success (first | (have : true = true := h) | (have : false = false := h))) | (refine POpsD_split rfl rfl (fun h => ?_) (fun h => ?_) <;> fail_if_success (first | (have : true = true := h) | (have : false = false := h))) | refine PW_cond rfl (fun h => ?_) (fun h => ?_)))
    · have h1 : ¬ tag = 0 := by simpa [bne] using h
      rw [hh, if_neg (fun q => h1 q.1)]
      (refine ⟨SlotsOk.le ?_, HLe.of_eq ?_⟩; (repeat (first | exact meet_nil | refine meet_cons (.inl rfl) ?_ | refine meet_cons (.inr rfl) ?_ | refine meet_cons (.inl (by simp_all)) ?_)); (try rfl))
    · have h1 : ¬ tn = 0 := by simpa [bne] using h
      rw [hh, if_neg (fun q => h1 q.2.1)]
      (refine ⟨SlotsOk.le ?_, HLe.of_eq ?_⟩; (repeat (first | exact meet_nil | refine meet_cons (.inl rfl) ?_ | refine meet_cons (.inr rfl) ?_ | refine meet_cons (.inl (by simp_all)) ?_)); (try rfl))
    · have h1 : ¬ text = ⟨#[]⟩ := fun e => by subst e; simp at h
      rw [hh, if_neg (fun q => h1 q.2.2)]
      (refine ⟨SlotsOk.le ?_, HLe.of_eq ?_⟩; (repeat (first | exact meet_nil | refine meet_cons (.inl rfl) ?_ | refine meet_cons (.inr rfl) ?_ | refine meet_cons (.inl (by simp_all)) ?_)); (try rfl))
    · rename_i q1 q2
      have h1 : tag = 0 := by simpa [bne] using q1
      have h2 : tn = 0 := by simpa [bne] using q2
      have h3 : text = ⟨#[]⟩ := str_eq.1 (by simpa using h)
      rw [hh, if_pos ⟨h1, h2, h3⟩]
      (refine ⟨SlotsOk.le ?_, HLe.of_eq ?_⟩; (repeat (first | exact meet_nil | refine meet_cons (.inl rfl) ?_ | refine meet_cons (.inr rfl) ?_ | refine meet_cons (.inl (by simp_all)) ?_)); (try rfl))
  (repeat (first | ((first | refine qA ?_ | refine qB ?_ | refine xN ?_ | refine xE ?_ | refine xT ?_); try show PW _ _ _ _ _ _) | refine ro1 tabOk rfl rfl ?_ | refine ro2 tabOk rfl rfl ?_ | refine ro3 tabOk rfl rfl ?_ | refine rd1 tabOk rfl rfl ?_ | refine rd2 tabOk rfl rfl ?_ | refine rd3 tabOk rfl rfl ?_ | ((first | apply oR rfl rfl | (apply dF rfl rfl rfl; intro _) | (apply dP rfl rfl rfl; intro _) | (apply dL rfl rfl rfl; intro _) | apply dC rfl rfl rfl rfl); (focus (first | exact cJ | exact mG | exact bT | exact nD)); try exact kQ) | refine xS ?_ | refine xR ?_ | refine qxa rfl rfl mixed ?_ | refine qxb rfl rfl mixed ?_ | refine qxc rfl rfl mixed ?_ | refine qxd rfl rfl mixed ?_ | refine xB ?_ | refine xt rfl ?_ | refine xf rfl ?_))
  refine PW_buf 7 72 (SZ rfl) rfl ?_
  refine PW_loop_cut (S := Nat × Bool × List VRule) (fun s => [(0, .ptr 0 0), (2, .clo (.func 48) [.ptr 0 0] []), (7, .own (s.2.2.map VRule.g) 0), (27, .g (.sl (Tr.gs kids))), (28, .g (.int .i64 kids.length)), (29, .g (.int .i64 s.1))])
    (fun s => ⟨[[.g (.bool s.2.1)], [.g (.int .i64 tag), .g (.int .i64 tn), .g (.str text), .g (.sl (Tr.gs kids))]], [(72, s.1)], []⟩)
    (fun s => s.1 ≤ kids.length ∧ s.2.2.length = s.1 ∧ goP unR (kids.drop s.1) s.2.1 s.2.2 = L) (fun s => kids.length - s.1) (0, hd, []) ⟨Nat.zero_le _, rfl, hlp.symm⟩
    (SlotsOk.le ⟨.inl rfl, .inl rfl, .inl rfl, .inl rfl, .inl (congrArg (fun k : Nat => PV.g (.int .i64 k)) (gs_len kids)), .inl rfl, trivial⟩) (HLe.of_eq rfl) (fun _ => rfl) (fun s hs => ?_)
  obtain ⟨i, bc, acc⟩ := s
  obtain ⟨hi, hacc, hgo⟩ := hs
  dsimp only at hi hacc hgo
  (repeat (first | ((first | refine qA ?_ | refine qB ?_ | refine xN ?_ | refine xE ?_ | refine xT ?_); try show PW _ _ _ _ _ _) | refine ro1 tabOk rfl rfl ?_ | refine ro2 tabOk rfl rfl ?_ | refine ro3 tabOk rfl rfl ?_ | refine rd1 tabOk rfl rfl ?_ | refine rd2 tabOk rfl rfl ?_ | refine rd3 tabOk rfl rfl ?_ | ((first | apply oR rfl rfl | (apply dF rfl rfl rfl; intro _) | (apply dP rfl rfl rfl; intro _) | (apply dL rfl rfl rfl; intro _) | apply dC rfl rfl rfl rfl); (focus (first | exact cJ | exact mG | exact bT | exact nD)); try exact kQ) | refine xS ?_ | refine xR ?_ | refine qxa rfl rfl mixed ?_ | refine qxb rfl rfl mixed ?_ | refine qxc rfl rfl mixed ?_ | refine qxd rfl rfl mixed ?_ | refine xB ?_ | refine xt rfl ?_ | refine xf rfl ?_))
  (first | refine POps_split rfl rfl (fun h => ?_) (fun h => ?_) | refine POpsD_split rfl rfl (fun h => ?_) (fun h => ?_) | refine PW_cond rfl (fun h => ?_) (fun h => ?_))
  · have hlt : i < kids.length := by have := of_decide_eq_true h; dsimp only at this; omega
    have hg := gs_get hlt
    have hdr : kids.drop i = kids[i] :: kids.drop (i + 1) := List.drop_eq_getElem_cons hlt
    rw [hdr, goP] at hgo
    have hI := h0 kids[i] (List.getElem_mem hlt) bc
    generalize kids[i] = kid at hg hI hgo
    cases bc with
    | true =>
      rw [if_pos rfl] at hgo
      obtain ⟨ta, tb, tc, td⟩ := kid
      (repeat (first | ((first | refine qA ?_ | refine qB ?_ | refine xN ?_ | refine xE ?_ | refine xT ?_); try show PW _ _ _ _ _ _) | refine ro1 tabOk rfl rfl ?_ | refine ro2 tabOk rfl rfl ?_ | refine ro3 tabOk rfl rfl ?_ | refine rd1 tabOk rfl rfl ?_ | refine rd2 tabOk rfl rfl ?_ | refine rd3 tabOk rfl rfl ?_ | ((first | apply oR rfl rfl | (apply dF rfl rfl rfl; intro _) | (apply dP rfl rfl rfl; intro _) | (apply dL rfl rfl rfl; intro _) | apply dC rfl rfl rfl rfl); (focus (first | exact iA rfl (EL rfl) (SZ rfl) rfl rfl (Int.natCast_nonneg _) hg rfl | exact cJ | exact mG | exact bT | exact nD)); try exact kQ) | refine xS ?_ | refine xR ?_ | refine qxa rfl rfl mixed ?_ | refine qxb rfl rfl mixed ?_ | refine qxc rfl rfl mixed ?_ | refine qxd rfl rfl mixed ?_ | refine xB ?_ | refine xt rfl ?_ | refine xf rfl ?_))
      (first | refine Ret_boxp (vC vT vN) rfl rfl rfl rfl rfl rfl rfl rfl rfl ?_ ?_ ?_ rfl | refine Ret_boxp (vC (vA (AG rfl) (SZ rfl) rfl rfl (lB rfl)) vN) rfl rfl rfl rfl rfl rfl rfl rfl rfl ?_ ?_ ?_ rfl | refine Ret_boxp (vC vT (vC vT vN)) rfl rfl rfl rfl rfl rfl rfl rfl rfl ?_ ?_ ?_ rfl | refine Ret_boxp (vC (vA (AG rfl) (SZ rfl) rfl rfl (lB rfl)) (vC vT vN)) rfl rfl rfl rfl rfl rfl rfl rfl rfl ?_ ?_ ?_ rfl)
      · rw [← hgo]; rfl
      · rw [← hgo]; rfl
      · rfl
    | false =>
      rw [if_neg (by decide)] at hgo
      generalize unR kid false = r at hI hgo
      obtain ⟨v, rb⟩ := r
      obtain ⟨ta, tb, tc, td⟩ := kid
      have hxs : ∀ x ∈ [v.g], x.cells.length = 2 := by
        intro x hx; rw [List.mem_singleton.1 hx]; exact VRule.cells v
      obtain ⟨t, o⟩ := v
      dsimp only at hI hgo
      (repeat (first | ((first | refine qA ?_ | refine qB ?_ | refine xN ?_ | refine xE ?_ | refine xT ?_); try show PW _ _ _ _ _ _) | refine ro1 tabOk rfl rfl ?_ | refine ro2 tabOk rfl rfl ?_ | refine ro3 tabOk rfl rfl ?_ | refine rd1 tabOk rfl rfl ?_ | refine rd2 tabOk rfl rfl ?_ | refine rd3 tabOk rfl rfl ?_ | ((first | apply oR rfl rfl | (apply dF rfl rfl rfl; intro _) | (apply dP rfl rfl rfl; intro _) | (apply dL rfl rfl rfl; intro _) | apply dC rfl rfl rfl rfl); (focus (first | exact iA rfl (EL rfl) (SZ rfl) rfl rfl (Int.natCast_nonneg _) hg rfl | exact ck [] rfl rfl (EN rfl) (hI) rfl rfl rfl rfl rfl rfl rfl rfl rfl rfl rfl | exact aP (xs := [(VRule.mk t o).g]) rfl (EL rfl) (SZ rfl) (BY rfl) (ZR rfl) rfl rfl rfl rfl (by simp; omega) hxs (by simp; omega) (by simp [maxLen]; omega) | exact cJ | exact mG | exact bT | exact nD)); try exact kQ) | refine xS ?_ | refine xR ?_ | refine qxa rfl rfl mixed ?_ | refine qxb rfl rfl mixed ?_ | refine qxc rfl rfl mixed ?_ | refine qxd rfl rfl mixed ?_ | refine xB ?_ | refine xt rfl ?_ | refine xf rfl ?_))
      refine ⟨(i + 1, rb, acc ++ [(VRule.mk t o)]), ⟨hlt, by simp [hacc], hgo⟩, by dsimp only; omega, SlotsOk.le ⟨.inl rfl, .inl rfl, .inl ?_, .inl rfl, .inl rfl, .inl (congrArg (fun k => PV.g (.int .i64 k)) (wrap64 (by dsimp only; omega))), trivial⟩, Drops.mk [(Tr.mk ta tb tc td).g.cells.map PV.g] [] [] rfl⟩
      rw [List.map_append]
      rfl
  · have hi' : i = kids.length := by have := of_decide_eq_false h; dsimp only at this; omega
    subst hi'
    rw [List.drop_length, goP] at hgo
    (repeat (first | ((first | refine qA ?_ | refine qB ?_ | refine xN ?_ | refine xE ?_ | refine xT ?_); try show PW _ _ _ _ _ _) | refine ro1 tabOk rfl rfl ?_ | refine ro2 tabOk rfl rfl ?_ | refine ro3 tabOk rfl rfl ?_ | refine rd1 tabOk rfl rfl ?_ | refine rd2 tabOk rfl rfl ?_ | refine rd3 tabOk rfl rfl ?_ | ((first | apply oR rfl rfl | (apply dF rfl rfl rfl; intro _) | (apply dP rfl rfl rfl; intro _) | (apply dL rfl rfl rfl; intro _) | apply dC rfl rfl rfl rfl); (focus (first | exact cJ | exact mG | exact bT | exact nD)); try exact kQ) | refine xS ?_ | refine xR ?_ | refine qxa rfl rfl mixed ?_ | refine qxb rfl rfl mixed ?_ | refine qxc rfl rfl mixed ?_ | refine qxd rfl rfl mixed ?_ | refine xB ?_ | refine xt rfl ?_ | refine xf rfl ?_))
    (first | refine Ret_boxp (vC vT vN) rfl rfl rfl rfl rfl rfl rfl rfl rfl ?_ ?_ ?_ rfl | refine Ret_boxp (vC (vA (AG rfl) (SZ rfl) rfl rfl (lB rfl)) vN) rfl rfl rfl rfl rfl rfl rfl rfl rfl ?_ ?_ ?_ rfl | refine Ret_boxp (vC vT (vC vT vN)) rfl rfl rfl rfl rfl rfl rfl rfl rfl ?_ ?_ ?_ rfl | refine Ret_boxp (vC (vA (AG rfl) (SZ rfl) rfl rfl (lB rfl)) (vC vT vN)) rfl rfl rfl rfl rfl rfl rfl rfl rfl ?_ ?_ ?_ rfl)
    · rw [← hgo]
    · rw [← hgo]; rfl
    · rfl

end Go.Proofs.Ytffpepmfdjjjaaa


namespace Go.Proofs.Ytffpepmfdjjjaaa
open Go.Pure
attribute [local irreducible] PW POps POpsD PO PC Cond

theorem ebulk {kind : Int} {val : VVal} {name : ByteArray} {kids : List VExpr} : gbulk val.g + gbulks (kids.map VExpr.g) + 2 ≤ gbulk (VExpr.mk kind val name kids).g := by
  simp [VExpr.g, gbulk, gbulks, gbulks_append, VExpr.gs_eq, gbulk_cells]; omega
theorem tbulk {kind : Int} {a b : VVal} {oa ob : Bool} {kids : List VTest} : gbulk a.g + gbulk b.g + gbulks (kids.map VTest.g) + 2 ≤ gbulk (VTest.mk kind a b oa ob kids).g := by
  simp [VTest.g, gbulk, gbulks, gbulks_append, VTest.gs_eq, gbulk_cells]; omega
theorem cbulk {name : ByteArray} {kind : Int} {order : List VVal} : gbulks (order.map VVal.g) + 2 ≤ gbulk (VCol.mk name kind order).g := by
  simp [VCol.g, gbulk, gbulks, VVal.gs_eq]; omega
theorem rbulk {t : List VTest} {o : List VExpr} : gbulks (t.map VTest.g) + gbulks (o.map VExpr.g) + 2 ≤ gbulk (VRule.mk t o).g := by
  simp [VRule.g, gbulk, gbulks, VTest.gs_eq, VExpr.gs_eq]; omega

set_option maxRecDepth 100000 in
set_option maxHeartbeats 4000000 in
theorem expr_pc : ∀ (m : Nat) (e : VExpr), SizeOf.sizeOf e ≤ m → gbulk e.g ≤ 1048576 → PC Try.prog 64 [.g e.g] ⟨[], [], []⟩ (.g (packE e).g) ⟨[], [], []⟩
  | 0, v, hm, _ => by cases v; simp at hm
  | m + 1, .mk kind val name kids, hm, hb => by
    have hbl := ebulk (kind := kind) (val := val) (name := name) (kids := kids)
    have hM := manyE_pc kids (fun x hx => expr_pc m x (by have := List.sizeOf_lt_of_mem hx; simp at hm; omega) (by
      obtain ⟨i, hi, rfl⟩ := List.getElem_of_mem hx
      have := map_bulk (f := VExpr.g) hi; omega)) (by omega)
    rw [← VExpr.gs_eq] at hM
    have hV := value_pc _ val (Nat.le_refl _) (by omega)
    have hN := node_pc kind name [packV val, listT (kids.map packE)]
    obtain ⟨vk, vy, vc, ve, vs, vl⟩ := val
    refine PC_of_PW Try.func64 rfl rfl (rs := _) rfl (Nat.le_of_ble_eq_true (by kernel_rfl)) ?_
    (repeat (first | ((first | refine qA ?_ | refine qB ?_ | refine xN ?_ | refine xE ?_ | refine xT ?_); try show PW _ _ _ _ _ _) | refine ro1 tabOk rfl rfl ?_ | refine ro2 tabOk rfl rfl ?_ | refine ro3 tabOk rfl rfl ?_ | refine rd1 tabOk rfl rfl ?_ | refine rd2 tabOk rfl rfl ?_ | refine rd3 tabOk rfl rfl ?_ | ((first | apply oR rfl rfl | (apply dF rfl rfl rfl; intro _) | (apply dP rfl rfl rfl; intro _) | (apply dL rfl rfl rfl; intro _) | apply dC rfl rfl rfl rfl); (focus (first | exact cqP hM | exact cqP hV | exact cqP hN | exact cJ | exact mG | exact bT | exact nD)); try exact kQ) | refine xS ?_ | refine xR ?_ | refine qxa rfl rfl mixed ?_ | refine qxb rfl rfl mixed ?_ | refine qxc rfl rfl mixed ?_ | refine qxd rfl rfl mixed ?_ | refine xB ?_ | refine xt rfl ?_ | refine xf rfl ?_))
    (first | refine Ret_int (vC vT vN) rfl ?_ | refine Ret_bool (vC vT vN) rfl ?_ | refine Ret_g (vC vT vN) rfl ?_ | refine Ret_int (vC (vA (AG rfl) (SZ rfl) rfl rfl (lB rfl)) vN) rfl ?_ | refine Ret_bool (vC (vA (AG rfl) (SZ rfl) rfl rfl (lB rfl)) vN) rfl ?_ | refine Ret_g (vC (vA (AG rfl) (SZ rfl) rfl rfl (lB rfl)) vN) rfl ?_)
    rw [packE, packEs_eq]
    all_goals rfl

set_option maxRecDepth 100000 in
set_option maxHeartbeats 4000000 in
theorem test_pc : ∀ (m : Nat) (e : VTest), SizeOf.sizeOf e ≤ m → gbulk e.g ≤ 1048576 → PC Try.prog 62 [.g e.g] ⟨[], [], []⟩ (.g (packT e).g) ⟨[], [], []⟩
  | 0, v, hm, _ => by cases v; simp at hm
  | m + 1, .mk kind a b oa ob kids, hm, hb => by
    have hbl := tbulk (kind := kind) (a := a) (b := b) (oa := oa) (ob := ob) (kids := kids)
    have hM := manyT_pc kids (fun x hx => test_pc m x (by have := List.sizeOf_lt_of_mem hx; simp at hm; omega) (by
      obtain ⟨i, hi, rfl⟩ := List.getElem_of_mem hx
      have := map_bulk (f := VTest.g) hi; omega)) (by omega)
    rw [← VTest.gs_eq] at hM
    have hA := value_pc _ a (Nat.le_refl _) (by omega)
    have hB := value_pc _ b (Nat.le_refl _) (by omega)
    have hN := node_pc kind ⟨#[]⟩ [packV a, packV b, numT (flagN oa), numT (flagN ob), listT (kids.map packT)]
    have h1 := flag_pc oa
    have h2 := flag_pc ob
    obtain ⟨vk, vy, vc, ve, vs, vl⟩ := a
    obtain ⟨uk, uy, uc, ue, us, ul⟩ := b
    refine PC_of_PW Try.func62 rfl rfl (rs := _) rfl (Nat.le_of_ble_eq_true (by kernel_rfl)) ?_
    (repeat (first | ((first | refine qA ?_ | refine qB ?_ | refine xN ?_ | refine xE ?_ | refine xT ?_); try show PW _ _ _ _ _ _) | refine ro1 tabOk rfl rfl ?_ | refine ro2 tabOk rfl rfl ?_ | refine ro3 tabOk rfl rfl ?_ | refine rd1 tabOk rfl rfl ?_ | refine rd2 tabOk rfl rfl ?_ | refine rd3 tabOk rfl rfl ?_ | ((first | apply oR rfl rfl | (apply dF rfl rfl rfl; intro _) | (apply dP rfl rfl rfl; intro _) | (apply dL rfl rfl rfl; intro _) | apply dC rfl rfl rfl rfl); (focus (first | exact cqP hM | exact cqP hA | exact cqP hB | exact cqP hN | exact cqP h1 | exact cqP h2 | exact cqP (node0_pc _ _) | exact cJ | exact mG | exact bT | exact nD)); try exact kQ) | refine xS ?_ | refine xR ?_ | refine qxa rfl rfl mixed ?_ | refine qxb rfl rfl mixed ?_ | refine qxc rfl rfl mixed ?_ | refine qxd rfl rfl mixed ?_ | refine xB ?_ | refine xt rfl ?_ | refine xf rfl ?_))
    (first | refine Ret_int (vC vT vN) rfl ?_ | refine Ret_bool (vC vT vN) rfl ?_ | refine Ret_g (vC vT vN) rfl ?_ | refine Ret_int (vC (vA (AG rfl) (SZ rfl) rfl rfl (lB rfl)) vN) rfl ?_ | refine Ret_bool (vC (vA (AG rfl) (SZ rfl) rfl rfl (lB rfl)) vN) rfl ?_ | refine Ret_g (vC (vA (AG rfl) (SZ rfl) rfl rfl (lB rfl)) vN) rfl ?_)
    rw [packT, packTs_eq]
    all_goals rfl

set_option maxRecDepth 100000 in
set_option maxHeartbeats 4000000 in
theorem column_pc (e : VCol) (hb : gbulk e.g ≤ 1048576) : PC Try.prog 36 [.g e.g] ⟨[], [], []⟩ (.g (packC e).g) ⟨[], [], []⟩ := by
  obtain ⟨name, kind, order⟩ := e
  have hbl := cbulk (name := name) (kind := kind) (order := order)
  have hM := manyV_pc order (fun x hx => value_pc _ x (Nat.le_refl _) (by
      obtain ⟨i, hi, rfl⟩ := List.getElem_of_mem hx
      have := map_bulk (f := VVal.g) hi; omega)) (by omega)
  rw [← VVal.gs_eq] at hM
  have hN := node_pc kind name [listT (order.map packV)]
  refine PC_of_PW Try.func36 rfl rfl (rs := _) rfl (Nat.le_of_ble_eq_true (by kernel_rfl)) ?_
  (repeat (first | ((first | refine qA ?_ | refine qB ?_ | refine xN ?_ | refine xE ?_ | refine xT ?_); try show PW _ _ _ _ _ _) | refine ro1 tabOk rfl rfl ?_ | refine ro2 tabOk rfl rfl ?_ | refine ro3 tabOk rfl rfl ?_ | refine rd1 tabOk rfl rfl ?_ | refine rd2 tabOk rfl rfl ?_ | refine rd3 tabOk rfl rfl ?_ | ((first | apply oR rfl rfl | (apply dF rfl rfl rfl; intro _) | (apply dP rfl rfl rfl; intro _) | (apply dL rfl rfl rfl; intro _) | apply dC rfl rfl rfl rfl); (focus (first | exact cqP hM | exact cqP hN | exact cJ | exact mG | exact bT | exact nD)); try exact kQ) | refine xS ?_ | refine xR ?_ | refine qxa rfl rfl mixed ?_ | refine qxb rfl rfl mixed ?_ | refine qxc rfl rfl mixed ?_ | refine qxd rfl rfl mixed ?_ | refine xB ?_ | refine xt rfl ?_ | refine xf rfl ?_))
  (first | refine Ret_int (vC vT vN) rfl ?_ | refine Ret_bool (vC vT vN) rfl ?_ | refine Ret_g (vC vT vN) rfl ?_ | refine Ret_int (vC (vA (AG rfl) (SZ rfl) rfl rfl (lB rfl)) vN) rfl ?_ | refine Ret_bool (vC (vA (AG rfl) (SZ rfl) rfl rfl (lB rfl)) vN) rfl ?_ | refine Ret_g (vC (vA (AG rfl) (SZ rfl) rfl rfl (lB rfl)) vN) rfl ?_)
  rw [packC, packVs_eq]
  all_goals rfl

set_option maxRecDepth 100000 in
set_option maxHeartbeats 4000000 in
theorem rule_pc (e : VRule) (hb : gbulk e.g ≤ 1048576) : PC Try.prog 38 [.g e.g] ⟨[], [], []⟩ (.g (packR e).g) ⟨[], [], []⟩ := by
  obtain ⟨t, o⟩ := e
  have hbl := rbulk (t := t) (o := o)
  have hM := manyT_pc t (fun x hx => test_pc _ x (Nat.le_refl _) (by
      obtain ⟨i, hi, rfl⟩ := List.getElem_of_mem hx
      have := map_bulk (f := VTest.g) hi; omega)) (by omega)
  rw [← VTest.gs_eq] at hM
  have hE := manyE_pc o (fun x hx => expr_pc _ x (Nat.le_refl _) (by
      obtain ⟨i, hi, rfl⟩ := List.getElem_of_mem hx
      have := map_bulk (f := VExpr.g) hi; omega)) (by omega)
  rw [← VExpr.gs_eq] at hE
  have hN := node_pc 0 ⟨#[]⟩ [listT (t.map packT), listT (o.map packE)]
  refine PC_of_PW Try.func38 rfl rfl (rs := _) rfl (Nat.le_of_ble_eq_true (by kernel_rfl)) ?_
  (repeat (first | ((first | refine qA ?_ | refine qB ?_ | refine xN ?_ | refine xE ?_ | refine xT ?_); try show PW _ _ _ _ _ _) | refine ro1 tabOk rfl rfl ?_ | refine ro2 tabOk rfl rfl ?_ | refine ro3 tabOk rfl rfl ?_ | refine rd1 tabOk rfl rfl ?_ | refine rd2 tabOk rfl rfl ?_ | refine rd3 tabOk rfl rfl ?_ | ((first | apply oR rfl rfl | (apply dF rfl rfl rfl; intro _) | (apply dP rfl rfl rfl; intro _) | (apply dL rfl rfl rfl; intro _) | apply dC rfl rfl rfl rfl); (focus (first | exact cqP hM | exact cqP hE | exact cqP hN | exact cJ | exact mG | exact bT | exact nD)); try exact kQ) | refine xS ?_ | refine xR ?_ | refine qxa rfl rfl mixed ?_ | refine qxb rfl rfl mixed ?_ | refine qxc rfl rfl mixed ?_ | refine qxd rfl rfl mixed ?_ | refine xB ?_ | refine xt rfl ?_ | refine xf rfl ?_))
  (first | refine Ret_int (vC vT vN) rfl ?_ | refine Ret_bool (vC vT vN) rfl ?_ | refine Ret_g (vC vT vN) rfl ?_ | refine Ret_int (vC (vA (AG rfl) (SZ rfl) rfl rfl (lB rfl)) vN) rfl ?_ | refine Ret_bool (vC (vA (AG rfl) (SZ rfl) rfl rfl (lB rfl)) vN) rfl ?_ | refine Ret_g (vC (vA (AG rfl) (SZ rfl) rfl rfl (lB rfl)) vN) rfl ?_)
  rw [packR, packTs_eq, packEs_eq]
  all_goals rfl

theorem tabbulk {name : ByteArray} {pol : Int} {ins outs : List VCol} {rules : List VRule} : gbulks (ins.map VCol.g) + gbulks (outs.map VCol.g) + gbulks (rules.map VRule.g) + 2 ≤ gbulk (VTable.mk name pol ins outs rules).g := by
  simp [VTable.g, gbulk, gbulks, VCol.gs, VRule.gs]; omega
theorem cmdbulk {a b c : Int} {t : VTable} {n : ByteArray} {d : Int} : gbulk t.g + 4 ≤ gbulk (VCmd.mk a b c t n d).g := by
  simp [VCmd.g, gbulk, gbulks, gbulks_append, gbulk_cells]; omega
set_option maxRecDepth 100000 in
set_option maxHeartbeats 4000000 in
theorem pack_pc (e : VCmd) (hb : gbulk e.g ≤ 1048576) : PC Try.prog 12 [.g e.g] ⟨[], [], []⟩ (.g (packCmd e).g) ⟨[], [], []⟩ := by
  obtain ⟨session, seq, kind, ⟨tname, policy, ins, outs, rules⟩, name, to⟩ := e
  have hb1 := cmdbulk (a := session) (b := seq) (c := kind) (t := ⟨tname, policy, ins, outs, rules⟩) (n := name) (d := to)
  have hb2 := tabbulk (name := tname) (pol := policy) (ins := ins) (outs := outs) (rules := rules)
  have hI := manyC_pc ins (fun x hx => column_pc x (by
      obtain ⟨i, hi, rfl⟩ := List.getElem_of_mem hx
      have := map_bulk (f := VCol.g) hi; omega)) (by omega)
  have hO := manyC_pc outs (fun x hx => column_pc x (by
      obtain ⟨i, hi, rfl⟩ := List.getElem_of_mem hx
      have := map_bulk (f := VCol.g) hi; omega)) (by omega)
  have hR := manyR_pc rules (fun x hx => rule_pc x (by
      obtain ⟨i, hi, rfl⟩ := List.getElem_of_mem hx
      have := map_bulk (f := VRule.g) hi; omega)) (by omega)
  have hN1 := node_pc policy tname [listT (ins.map packC), listT (outs.map packC), listT (rules.map packR)]
  have hN2 := node_pc kind name [numT session, numT seq, numT to, .mk 0 policy tname [listT (ins.map packC), listT (outs.map packC), listT (rules.map packR)]]
  refine PC_of_PW Try.func12 rfl rfl (rs := _) rfl (Nat.le_of_ble_eq_true (by kernel_rfl)) ?_
  (repeat (first | ((first | refine qA ?_ | refine qB ?_ | refine xN ?_ | refine xE ?_ | refine xT ?_); try show PW _ _ _ _ _ _) | refine ro1 tabOk rfl rfl ?_ | refine ro2 tabOk rfl rfl ?_ | refine ro3 tabOk rfl rfl ?_ | refine rd1 tabOk rfl rfl ?_ | refine rd2 tabOk rfl rfl ?_ | refine rd3 tabOk rfl rfl ?_ | ((first | apply oR rfl rfl | (apply dF rfl rfl rfl; intro _) | (apply dP rfl rfl rfl; intro _) | (apply dL rfl rfl rfl; intro _) | apply dC rfl rfl rfl rfl); (focus (first | exact cqP hI | exact cqP hO | exact cqP hR | exact cqP hN1 | exact cqP hN2 | exact cqP (node0_pc _ _) | exact cJ | exact mG | exact bT | exact nD)); try exact kQ) | refine xS ?_ | refine xR ?_ | refine qxa rfl rfl mixed ?_ | refine qxb rfl rfl mixed ?_ | refine qxc rfl rfl mixed ?_ | refine qxd rfl rfl mixed ?_ | refine xB ?_ | refine xt rfl ?_ | refine xf rfl ?_))
  (first | refine Ret_int (vC vT vN) rfl ?_ | refine Ret_bool (vC vT vN) rfl ?_ | refine Ret_g (vC vT vN) rfl ?_ | refine Ret_int (vC (vA (AG rfl) (SZ rfl) rfl rfl (lB rfl)) vN) rfl ?_ | refine Ret_bool (vC (vA (AG rfl) (SZ rfl) rfl rfl (lB rfl)) vN) rfl ?_ | refine Ret_g (vC (vA (AG rfl) (SZ rfl) rfl rfl (lB rfl)) vN) rfl ?_)
  rfl
end Go.Proofs.Ytffpepmfdjjjaaa


namespace Go.Proofs.Ytffpepmfdjjjaaa
open Go.Pure
attribute [local irreducible] PW POps POpsD PO PC Cond

set_option maxRecDepth 100000 in
set_option maxHeartbeats 4000000 in
theorem of_pc (tag n : Int) (text : ByteArray) (ks : List Tr) : PC Try.prog 39 [.g (.int .i64 tag), .g (.int .i64 n), .g (.str text), .g (.sl (Tr.gs ks))] ⟨[], [], []⟩ (.g (Tr.mk tag n text ks).g) ⟨[], [], []⟩ := by
  refine PC_of_PW Try.func39 rfl rfl (rs := _) rfl (Nat.le_of_ble_eq_true (by kernel_rfl)) ?_
  (repeat (first | ((first | refine qA ?_ | refine qB ?_ | refine xN ?_ | refine xE ?_ | refine xT ?_); try show PW _ _ _ _ _ _) | refine ro1 tabOk rfl rfl ?_ | refine ro2 tabOk rfl rfl ?_ | refine ro3 tabOk rfl rfl ?_ | refine rd1 tabOk rfl rfl ?_ | refine rd2 tabOk rfl rfl ?_ | refine rd3 tabOk rfl rfl ?_ | ((first | apply oR rfl rfl | (apply dF rfl rfl rfl; intro _) | (apply dP rfl rfl rfl; intro _) | (apply dL rfl rfl rfl; intro _) | apply dC rfl rfl rfl rfl); (focus (first | exact cJ | exact mG | exact bT | exact nD)); try exact kQ) | refine xS ?_ | refine xR ?_ | refine qxa rfl rfl mixed ?_ | refine qxb rfl rfl mixed ?_ | refine qxc rfl rfl mixed ?_ | refine qxd rfl rfl mixed ?_ | refine xB ?_ | refine xt rfl ?_ | refine xf rfl ?_))
  (first | refine Ret_int (vC vT vN) rfl ?_ | refine Ret_bool (vC vT vN) rfl ?_ | refine Ret_g (vC vT vN) rfl ?_ | refine Ret_int (vC (vA (AG rfl) (SZ rfl) rfl rfl (lB rfl)) vN) rfl ?_ | refine Ret_bool (vC (vA (AG rfl) (SZ rfl) rfl rfl (lB rfl)) vN) rfl ?_ | refine Ret_g (vC (vA (AG rfl) (SZ rfl) rfl rfl (lB rfl)) vN) rfl ?_)
  rfl
theorem of0_pc (tag n : Int) (text : ByteArray) : PC Try.prog 39 [.g (.int .i64 tag), .g (.int .i64 n), .g (.str text), .g (.sl [])] ⟨[], [], []⟩ (.g (Tr.mk tag n text []).g) ⟨[], [], []⟩ := of_pc tag n text []
set_option maxRecDepth 100000 in
set_option maxHeartbeats 4000000 in
theorem oflit_pc (tag n : Int) (text : ByteArray) (es : List GV) : PC Try.prog 39 [.g (.int .i64 tag), .g (.int .i64 n), .g (.str text), .lit es] ⟨[], [], []⟩ (.agg [.g (.int .i64 tag), .g (.int .i64 n), .g (.str text), .lit es]) ⟨[], [], []⟩ := by
  refine PC_of_PW Try.func39 rfl rfl (rs := _) rfl (Nat.le_of_ble_eq_true (by kernel_rfl)) ?_
  (repeat (first | ((first | refine qA ?_ | refine qB ?_ | refine xN ?_ | refine xE ?_ | refine xT ?_); try show PW _ _ _ _ _ _) | refine ro1 tabOk rfl rfl ?_ | refine ro2 tabOk rfl rfl ?_ | refine ro3 tabOk rfl rfl ?_ | refine rd1 tabOk rfl rfl ?_ | refine rd2 tabOk rfl rfl ?_ | refine rd3 tabOk rfl rfl ?_ | ((first | apply oR rfl rfl | (apply dF rfl rfl rfl; intro _) | (apply dP rfl rfl rfl; intro _) | (apply dL rfl rfl rfl; intro _) | apply dC rfl rfl rfl rfl); (focus (first | exact cJ | exact mG | exact bT | exact nD)); try exact kQ) | refine xS ?_ | refine xR ?_ | refine qxa rfl rfl mixed ?_ | refine qxb rfl rfl mixed ?_ | refine qxc rfl rfl mixed ?_ | refine qxd rfl rfl mixed ?_ | refine xB ?_ | refine xt rfl ?_ | refine xf rfl ?_))
  (first | refine Ret_box (wC vT wN) rfl rfl rfl rfl rfl rfl rfl rfl rfl ?_ ?_ ?_ rfl | refine Ret_box (wC (vA (AG rfl) (SZ rfl) rfl rfl (lB rfl)) wN) rfl rfl rfl rfl rfl rfl rfl rfl rfl ?_ ?_ ?_ rfl | refine Ret_box (wC vT (wC vT wN)) rfl rfl rfl rfl rfl rfl rfl rfl rfl ?_ ?_ ?_ rfl | refine Ret_box (wC (vA (AG rfl) (SZ rfl) rfl rfl (lB rfl)) (wC vT wN)) rfl rfl rfl rfl rfl rfl rfl rfl rfl ?_ ?_ ?_ rfl)
  · rfl
  · rfl
  · rfl
set_option maxRecDepth 100000 in
set_option maxHeartbeats 4000000 in
theorem yes_pc (b : Bool) : PC Try.prog 66 [.g (.bool b)] ⟨[], [], []⟩ (.g (numT (flagN b)).g) ⟨[], [], []⟩ := by
  cases b
  all_goals
    refine PC_of_PW Try.func66 rfl rfl (rs := _) rfl (Nat.le_of_ble_eq_true (by kernel_rfl)) ?_
    (repeat (first | ((first | refine qA ?_ | refine qB ?_ | refine xN ?_ | refine xE ?_ | refine xT ?_); try show PW _ _ _ _ _ _) | refine ro1 tabOk rfl rfl ?_ | refine ro2 tabOk rfl rfl ?_ | refine ro3 tabOk rfl rfl ?_ | refine rd1 tabOk rfl rfl ?_ | refine rd2 tabOk rfl rfl ?_ | refine rd3 tabOk rfl rfl ?_ | ((first | apply oR rfl rfl | (apply dF rfl rfl rfl; intro _) | (apply dP rfl rfl rfl; intro _) | (apply dL rfl rfl rfl; intro _) | apply dC rfl rfl rfl rfl); (focus (first | exact cqP (of0_pc _ _ _) | exact cJ | exact mG | exact bT | exact nD)); try exact kQ) | refine xS ?_ | refine xR ?_ | refine qxa rfl rfl mixed ?_ | refine qxb rfl rfl mixed ?_ | refine qxc rfl rfl mixed ?_ | refine qxd rfl rfl mixed ?_ | refine xB ?_ | refine xt rfl ?_ | refine xf rfl ?_))
    (first | refine Ret_int (vC vT vN) rfl ?_ | refine Ret_bool (vC vT vN) rfl ?_ | refine Ret_g (vC vT vN) rfl ?_ | refine Ret_int (vC (vA (AG rfl) (SZ rfl) rfl rfl (lB rfl)) vN) rfl ?_ | refine Ret_bool (vC (vA (AG rfl) (SZ rfl) rfl rfl (lB rfl)) vN) rfl ?_ | refine Ret_g (vC (vA (AG rfl) (SZ rfl) rfl rfl (lB rfl)) vN) rfl ?_)
    rfl

theorem tmod_neg (k : Int) (h : k < 0) : k.tmod 256 = - ((-k) % 256) := by
  have : k.tmod 256 = - ((-k).tmod 256) := by rw [Int.neg_tmod]; omega
  rw [this, Int.tmod_eq_emod_of_nonneg (by omega)]
theorem tmod256 (k : Int) (h : k.tmod 256 < 0) : IntKind.i64.wrap (k.tmod 256 + 256) = k % 256 := by
  rcases Int.lt_or_le k 0 with h0 | h0
  · rw [tmod_neg k h0] at h ⊢
    rw [wrap64 (by omega)]; omega
  · rw [Int.tmod_eq_emod_of_nonneg h0] at h; omega
theorem tmod256' (k : Int) (h : ¬ k.tmod 256 < 0) : k.tmod 256 = k % 256 := by
  rcases Int.lt_or_le k 0 with h0 | h0
  · rw [tmod_neg k h0] at h ⊢; omega
  · rw [Int.tmod_eq_emod_of_nonneg h0]

set_option maxRecDepth 100000 in
set_option maxHeartbeats 4000000 in
theorem refvalues_pc (l : List VVal) (h0 : ∀ x ∈ l, PC Try.prog 65 [.g x.g] ⟨[], [], []⟩ (.g (packV x).g) ⟨[], [], []⟩) (hl : gbulks (l.map VVal.g) ≤ 250000000) :
    PC Try.prog 67 [.g (.sl (l.map VVal.g))] ⟨[], [], []⟩ (.g (.sl ((l.map packV).map Tr.g))) ⟨[], [], []⟩ := by
  have hlen := map_len VVal.one l
  refine PC_of_PW Try.func67 rfl rfl (rs := _) rfl (Nat.le_of_ble_eq_true (by kernel_rfl)) ?_
  (repeat (first | ((first | refine qA ?_ | refine qB ?_ | refine xN ?_ | refine xE ?_ | refine xT ?_); try show PW _ _ _ _ _ _) | refine ro1 tabOk rfl rfl ?_ | refine ro2 tabOk rfl rfl ?_ | refine ro3 tabOk rfl rfl ?_ | refine rd1 tabOk rfl rfl ?_ | refine rd2 tabOk rfl rfl ?_ | refine rd3 tabOk rfl rfl ?_ | ((first | apply oR rfl rfl | (apply dF rfl rfl rfl; intro _) | (apply dP rfl rfl rfl; intro _) | (apply dL rfl rfl rfl; intro _) | apply dC rfl rfl rfl rfl); (focus (first | exact cJ | exact mG | exact bT | exact nD)); try exact kQ) | refine xS ?_ | refine xR ?_ | refine qxa rfl rfl mixed ?_ | refine qxb rfl rfl mixed ?_ | refine qxc rfl rfl mixed ?_ | refine qxd rfl rfl mixed ?_ | refine xB ?_ | refine xt rfl ?_ | refine xf rfl ?_))
  refine PW_buf 3 30 (SZ rfl) rfl ?_
  refine PW_loop_cut (S := Nat) (fun i => [(6, .g (.sl (l.map VVal.g))), (3, .own (((l.take i).map packV).map Tr.g) 0), (7, .g (.int .i64 l.length)), (8, .g (.int .i64 i))])
    (fun i => ⟨[], [(30, i)], []⟩)
    (fun i => i ≤ l.length) (fun i => l.length - i) 0 (Nat.zero_le _) (SlotsOk.le ⟨.inl rfl, .inl rfl, .inl (congrArg (fun k : Nat => PV.g (.int .i64 k)) (List.length_map _)), .inl rfl, trivial⟩) (HLe.of_eq rfl) (fun _ => rfl) (fun i hi => ?_)
  (repeat (first | ((first | refine qA ?_ | refine qB ?_ | refine xN ?_ | refine xE ?_ | refine xT ?_); try show PW _ _ _ _ _ _) | refine ro1 tabOk rfl rfl ?_ | refine ro2 tabOk rfl rfl ?_ | refine ro3 tabOk rfl rfl ?_ | refine rd1 tabOk rfl rfl ?_ | refine rd2 tabOk rfl rfl ?_ | refine rd3 tabOk rfl rfl ?_ | ((first | apply oR rfl rfl | (apply dF rfl rfl rfl; intro _) | (apply dP rfl rfl rfl; intro _) | (apply dL rfl rfl rfl; intro _) | apply dC rfl rfl rfl rfl); (focus (first | exact cJ | exact mG | exact bT | exact nD)); try exact kQ) | refine xS ?_ | refine xR ?_ | refine qxa rfl rfl mixed ?_ | refine qxb rfl rfl mixed ?_ | refine qxc rfl rfl mixed ?_ | refine qxd rfl rfl mixed ?_ | refine xB ?_ | refine xt rfl ?_ | refine xf rfl ?_))
  (first | refine POps_split rfl rfl (fun h => ?_) (fun h => ?_) | refine POpsD_split rfl rfl (fun h => ?_) (fun h => ?_) | refine PW_cond rfl (fun h => ?_) (fun h => ?_))
  · have hlt : i < l.length := by have := of_decide_eq_true h; omega
    have hg := map_get (f := VVal.g) hlt
    have hI := h0 l[i] (List.getElem_mem hlt)
    have hT := map_take (f := fun x => (packV x).g) hlt
    generalize hv : l[i] = v at hg hI hT
    generalize hp : packV v = tr at hI
    obtain ⟨k, y, c, e, s, vs⟩ := v
    obtain ⟨ta, tb, tc, td⟩ := tr
    have hxs : ∀ x ∈ [(Tr.mk ta tb tc td).g], x.cells.length = 4 := by
      intro x hx; rw [List.mem_singleton.1 hx]; exact g_cells _
    (repeat (first | ((first | refine qA ?_ | refine qB ?_ | refine xN ?_ | refine xE ?_ | refine xT ?_); try show PW _ _ _ _ _ _) | refine ro1 tabOk rfl rfl ?_ | refine ro2 tabOk rfl rfl ?_ | refine ro3 tabOk rfl rfl ?_ | refine rd1 tabOk rfl rfl ?_ | refine rd2 tabOk rfl rfl ?_ | refine rd3 tabOk rfl rfl ?_ | ((first | apply oR rfl rfl | (apply dF rfl rfl rfl; intro _) | (apply dP rfl rfl rfl; intro _) | (apply dL rfl rfl rfl; intro _) | apply dC rfl rfl rfl rfl); (focus (first | exact iA rfl (EL rfl) (SZ rfl) rfl rfl (Int.natCast_nonneg _) hg rfl | exact cqP hI | exact aP (xs := [(Tr.mk ta tb tc td).g]) rfl (EL rfl) (SZ rfl) (BY rfl) (ZR rfl) rfl rfl rfl rfl (by simp; omega) hxs (by simp; omega) (by simp [maxLen]; omega) | exact cJ | exact mG | exact bT | exact nD)); try exact kQ) | refine xS ?_ | refine xR ?_ | refine qxa rfl rfl mixed ?_ | refine qxb rfl rfl mixed ?_ | refine qxc rfl rfl mixed ?_ | refine qxd rfl rfl mixed ?_ | refine xB ?_ | refine xt rfl ?_ | refine xf rfl ?_))
    refine ⟨i + 1, hlt, by omega, SlotsOk.le ⟨.inl rfl, .inl ?_, .inl rfl, .inl (congrArg (fun k => PV.g (.int .i64 k)) (wrap64 (by omega))), trivial⟩, Drops.mk [(VVal.mk k y c e s vs).g.cells.map PV.g] [] [] rfl⟩
    rw [List.map_map, List.map_map, show (Tr.g ∘ packV) = (fun x => (packV x).g) from rfl, hT, hp]
    rfl
  · have hi' : i = l.length := by have := of_decide_eq_false h; omega
    subst hi'
    (repeat (first | ((first | refine qA ?_ | refine qB ?_ | refine xN ?_ | refine xE ?_ | refine xT ?_); try show PW _ _ _ _ _ _) | refine ro1 tabOk rfl rfl ?_ | refine ro2 tabOk rfl rfl ?_ | refine ro3 tabOk rfl rfl ?_ | refine rd1 tabOk rfl rfl ?_ | refine rd2 tabOk rfl rfl ?_ | refine rd3 tabOk rfl rfl ?_ | ((first | apply oR rfl rfl | (apply dF rfl rfl rfl; intro _) | (apply dP rfl rfl rfl; intro _) | (apply dL rfl rfl rfl; intro _) | apply dC rfl rfl rfl rfl); (focus (first | exact cJ | exact mG | exact bT | exact nD)); try exact kQ) | refine xS ?_ | refine xR ?_ | refine qxa rfl rfl mixed ?_ | refine qxb rfl rfl mixed ?_ | refine qxc rfl rfl mixed ?_ | refine qxd rfl rfl mixed ?_ | refine xB ?_ | refine xt rfl ?_ | refine xf rfl ?_))
    (first | refine Ret_int (vC vT vN) rfl ?_ | refine Ret_bool (vC vT vN) rfl ?_ | refine Ret_g (vC vT vN) rfl ?_ | refine Ret_int (vC (vA (AG rfl) (SZ rfl) rfl rfl (lB rfl)) vN) rfl ?_ | refine Ret_bool (vC (vA (AG rfl) (SZ rfl) rfl rfl (lB rfl)) vN) rfl ?_ | refine Ret_g (vC (vA (AG rfl) (SZ rfl) rfl rfl (lB rfl)) vN) rfl ?_)
    simp

set_option maxRecDepth 100000 in
set_option maxHeartbeats 4000000 in
theorem refvalue_pc : ∀ (m : Nat) (v : VVal), SizeOf.sizeOf v ≤ m → gbulk v.g ≤ 250000000 → PC Try.prog 65 [.g v.g] ⟨[], [], []⟩ (.g (packV v).g) ⟨[], [], []⟩
  | 0, v, hm, _ => by cases v; simp at hm
  | m + 1, .mk kind yes coef exp text list, hm, hb => by
    have hbl := bulk_list (v := .mk kind yes coef exp text list) rfl
    have hln := map_len VVal.one list
    have hM := refvalues_pc list (fun x hx => refvalue_pc m x (by have := List.sizeOf_lt_of_mem hx; simp at hm; omega) (by
      obtain ⟨i, hi, rfl⟩ := List.getElem_of_mem hx
      have := map_bulk (f := VVal.g) hi; omega)) (by omega)
    rw [← vgs, ← gs_eq] at hM
    have hF := yes_pc yes
    have hxs : ∀ x ∈ Tr.gs (list.map packV), x.cells.length = 4 := by
      intro x hx; rw [gs_eq] at hx; obtain ⟨t, _, rfl⟩ := List.mem_map.1 hx; exact g_cells _
    have hes : ∀ x ∈ [(numT exp).g, (numT (flagN yes)).g, (numT kind).g], x.cells.length = 4 := by
      intro x hx; simp at hx; rcases hx with rfl | rfl | rfl <;> exact g_cells _
    refine PC_of_PW Try.func65 rfl rfl (rs := _) rfl (Nat.le_of_ble_eq_true (by kernel_rfl)) ?_
    (repeat (first | ((first | refine qA ?_ | refine qB ?_ | refine xN ?_ | refine xE ?_ | refine xT ?_); try show PW _ _ _ _ _ _) | refine ro1 tabOk rfl rfl ?_ | refine ro2 tabOk rfl rfl ?_ | refine ro3 tabOk rfl rfl ?_ | refine rd1 tabOk rfl rfl ?_ | refine rd2 tabOk rfl rfl ?_ | refine rd3 tabOk rfl rfl ?_ | ((first | apply oR rfl rfl | (apply dF rfl rfl rfl; intro _) | (apply dP rfl rfl rfl; intro _) | (apply dL rfl rfl rfl; intro _) | apply dC rfl rfl rfl rfl); (focus (first | exact PO_rem rfl rfl rfl (by decide) | exact cJ | exact mG | exact bT | exact nD)); try exact kQ) | refine xU [2] rfl ?_ | refine xR ?_ | refine qxa rfl rfl mixed ?_ | refine qxb rfl rfl mixed ?_ | refine qxc rfl rfl mixed ?_ | refine qxd rfl rfl mixed ?_ | refine xB ?_ | refine xt rfl ?_ | refine xf rfl ?_))
    refine PW_cut (slots [(1, .ptr 0 0), (2, .ptr 1 0), (3, .g (.int .i64 (kind % 256)))]) ⟨[(VVal.mk kind yes coef exp text list).g.cells.map PV.g, [.g (.int .i64 0), .g (.int .i64 0), .g (.str ⟨#[]⟩), .nils]], [], []⟩ ?_ ?_
    · (repeat' (first | (first | ((first | refine qA ?_ | refine qB ?_ | refine xN ?_ | refine xE ?_ | refine xT ?_); try show PW _ _ _ _ _ _) | refine ro1 tabOk rfl rfl ?_ | refine ro2 tabOk rfl rfl ?_ | refine ro3 tabOk rfl rfl ?_ | refine rd1 tabOk rfl rfl ?_ | refine rd2 tabOk rfl rfl ?_ | refine rd3 tabOk rfl rfl ?_ | ((first | apply oR rfl rfl | (apply dF rfl rfl rfl; intro _) | (apply dP rfl rfl rfl; intro _) | (apply dL rfl rfl rfl; intro _) | apply dC rfl rfl rfl rfl); (focus (first | exact cJ | exact mG | exact bT | exact nD)); try exact kQ) | refine xS ?_ | refine xR ?_ | refine qxa rfl rfl mixed ?_ | refine qxb rfl rfl mixed ?_ | refine qxc rfl rfl mixed ?_ | refine qxd rfl rfl mixed ?_ | refine xB ?_ | refine xt rfl ?_ | refine xf rfl ?_) | (refine POps_split rfl rfl (fun h => ?_) (fun h => ?_) <;> fail_if_success (first | (have : true = true := h) | (have : false = false := h))) | (refine POpsD_split rfl rfl (fun h => ?_) (fun h => ?_) <;> fail_if_success (first | (have : true = true := h) | (have : false = false := h))) | refine PW_cond rfl (fun h => ?_) (fun h => ?_)))
      · (try simp only [decide_eq_true_eq, decide_eq_false_iff_not, beq_iff_eq, bne_iff_ne, beq_eq_false_iff_ne, bne_eq_false_iff_eq, Bool.not_eq_true', Bool.not_eq_false', gt_iff_lt, ge_iff_le, ne_eq] at *)
        (refine ⟨SlotsOk.le ?_, HLe.of_eq ?_⟩; (repeat (first | exact meet_nil | refine meet_cons (.inl rfl) ?_ | refine meet_cons (.inr rfl) ?_ | refine meet_cons (.inl (congrArg (fun n => PV.g (.int .i64 n)) (tmod256 _ h))) ?_)); (try rfl))
      · (try simp only [decide_eq_true_eq, decide_eq_false_iff_not, beq_iff_eq, bne_iff_ne, beq_eq_false_iff_ne, bne_eq_false_iff_eq, Bool.not_eq_true', Bool.not_eq_false', gt_iff_lt, ge_iff_le, ne_eq] at *)
        (refine ⟨SlotsOk.le ?_, HLe.of_eq ?_⟩; (repeat (first | exact meet_nil | refine meet_cons (.inl rfl) ?_ | refine meet_cons (.inr rfl) ?_ | refine meet_cons (.inl (congrArg (fun n => PV.g (.int .i64 n)) (tmod256' _ (by omega)))) ?_)); (try rfl))
    · (repeat (first | ((first | refine qA ?_ | refine qB ?_ | refine xN ?_ | refine xE ?_ | refine xT ?_); try show PW _ _ _ _ _ _) | refine ro1 tabOk rfl rfl ?_ | refine ro2 tabOk rfl rfl ?_ | refine ro3 tabOk rfl rfl ?_ | refine rd1 tabOk rfl rfl ?_ | refine rd2 tabOk rfl rfl ?_ | refine rd3 tabOk rfl rfl ?_ | ((first | apply oR rfl rfl | (apply dF rfl rfl rfl; intro _) | (apply dP rfl rfl rfl; intro _) | (apply dL rfl rfl rfl; intro _) | apply dC rfl rfl rfl rfl); (focus (first | exact cqP hM | exact cqP hF | exact cqP (of0_pc _ _ _) | exact PO_buildSlice_lit rfl (EL rfl) (SZ rfl) (AG rfl) (ZR rfl) rfl rfl rfl rfl rfl rfl rfl | exact cb [true, true, true, true] rfl rfl (EN rfl) (oflit_pc _ _ _ _) rfl rfl rfl rfl rfl rfl rfl rfl rfl rfl rfl | exact PO_append_litg (es := [(numT exp).g, (numT (flagN yes)).g, (numT kind).g]) rfl (EL rfl) (SZ rfl) (BY rfl) (ZR rfl) rfl rfl rfl rfl hes hxs (by rw [gs_len]; simp; omega) (by rw [gs_len]; simp [maxLen]; omega) | exact cJ | exact mG | exact bT | exact nD)); try exact kQ) | refine xS ?_ | refine xR ?_ | refine qxa rfl rfl mixed ?_ | refine qxb rfl rfl mixed ?_ | refine qxc rfl rfl mixed ?_ | refine qxd rfl rfl mixed ?_ | refine xB ?_ | refine xt rfl ?_ | refine xf rfl ?_))
      (first | refine Ret_int (vC vT vN) rfl ?_ | refine Ret_bool (vC vT vN) rfl ?_ | refine Ret_g (vC vT vN) rfl ?_ | refine Ret_int (vC (vA (AG rfl) (SZ rfl) rfl rfl (lB rfl)) vN) rfl ?_ | refine Ret_bool (vC (vA (AG rfl) (SZ rfl) rfl rfl (lB rfl)) vN) rfl ?_ | refine Ret_g (vC (vA (AG rfl) (SZ rfl) rfl rfl (lB rfl)) vN) rfl ?_)
      rw [packV, packVs_eq]
      rfl
end Go.Proofs.Ytffpepmfdjjjaaa


namespace Go.Proofs.Ytffpepmfdjjjaaa
open Go.Pure
attribute [local irreducible] PW POps POpsD PO PC Cond

theorem trbulk {tag n : Int} {text : ByteArray} {kids : List Tr} : gbulks (kids.map Tr.g) + 2 ≤ gbulk (Tr.mk tag n text kids).g := by
  simp [Tr.g, gbulk, gbulks, gs_eq]; omega
theorem Tr.one (t : Tr) : 1 ≤ gbulk t.g := by cases t; simp [Tr.g, gbulk, gbulks] <;> omega
theorem tr_mem {l : List Tr} {k : Tr} (h : k ∈ l) : gbulk k.g ≤ gbulks (l.map Tr.g) := by
  obtain ⟨i, hi, rfl⟩ := List.getElem_of_mem h
  exact map_bulk (f := Tr.g) hi
theorem tr_len (l : List Tr) : l.length ≤ gbulks (l.map Tr.g) := map_len Tr.one l

set_option maxRecDepth 100000 in
set_option maxHeartbeats 4000000 in
theorem unvalue_short (tag n : Int) (text : ByteArray) (kids : List Tr) (b : Bool) (h : kids.length < 3) : PC Try.prog 69 [.ptr 0 0, .g (Tr.mk tag n text kids).g] (badH b) (.g noVal.g) (badH true) := by
  refine PC_of_PW Try.func69 rfl rfl (rs := _) rfl (Nat.le_of_ble_eq_true (by kernel_rfl)) ?_
  (repeat (first | ((first | refine qA ?_ | refine qB ?_ | refine xN ?_ | refine xE ?_ | refine xT ?_); try show PW _ _ _ _ _ _) | refine ro1 tabOk rfl rfl ?_ | refine ro2 tabOk rfl rfl ?_ | refine ro3 tabOk rfl rfl ?_ | refine rd1 tabOk rfl rfl ?_ | refine rd2 tabOk rfl rfl ?_ | refine rd3 tabOk rfl rfl ?_ | ((first | apply oR rfl rfl | (apply dF rfl rfl rfl; intro _) | (apply dP rfl rfl rfl; intro _) | (apply dL rfl rfl rfl; intro _) | apply dC rfl rfl rfl rfl); (focus (first | exact cJ | exact mG | exact bT | exact nD)); try exact kQ) | refine xS ?_ | refine xR ?_ | refine qxa rfl rfl mixed ?_ | refine qxb rfl rfl mixed ?_ | refine qxc rfl rfl mixed ?_ | refine qxd rfl rfl mixed ?_ | refine xB ?_ | refine xt rfl ?_ | refine xf rfl ?_))
  (first | refine POps_split rfl rfl (fun h => ?_) (fun h => ?_) | refine POpsD_split rfl rfl (fun h => ?_) (fun h => ?_) | refine PW_cond rfl (fun h => ?_) (fun h => ?_))
  · (repeat (first | ((first | refine qA ?_ | refine qB ?_ | refine xN ?_ | refine xE ?_ | refine xT ?_); try show PW _ _ _ _ _ _) | refine ro1 tabOk rfl rfl ?_ | refine ro2 tabOk rfl rfl ?_ | refine ro3 tabOk rfl rfl ?_ | refine rd1 tabOk rfl rfl ?_ | refine rd2 tabOk rfl rfl ?_ | refine rd3 tabOk rfl rfl ?_ | ((first | apply oR rfl rfl | (apply dF rfl rfl rfl; intro _) | (apply dP rfl rfl rfl; intro _) | (apply dL rfl rfl rfl; intro _) | apply dC rfl rfl rfl rfl); (focus (first | exact cJ | exact mG | exact bT | exact nD)); try exact kQ) | refine xS ?_ | refine xR ?_ | refine qxa rfl rfl mixed ?_ | refine qxb rfl rfl mixed ?_ | refine qxc rfl rfl mixed ?_ | refine qxd rfl rfl mixed ?_ | refine xB ?_ | refine xt rfl ?_ | refine xf rfl ?_))
    (first | refine Ret_boxp (vC vT vN) rfl rfl rfl rfl rfl rfl rfl rfl rfl ?_ ?_ ?_ rfl | refine Ret_boxp (vC (vA (AG rfl) (SZ rfl) rfl rfl (lB rfl)) vN) rfl rfl rfl rfl rfl rfl rfl rfl rfl ?_ ?_ ?_ rfl | refine Ret_boxp (vC vT (vC vT vN)) rfl rfl rfl rfl rfl rfl rfl rfl rfl ?_ ?_ ?_ rfl | refine Ret_boxp (vC (vA (AG rfl) (SZ rfl) rfl rfl (lB rfl)) (vC vT vN)) rfl rfl rfl rfl rfl rfl rfl rfl rfl ?_ ?_ ?_ rfl)
    · rfl
    · rfl
    · rfl
  · have := of_decide_eq_false h
    rw [gs_len] at this
    omega

set_option maxRecDepth 100000 in
set_option maxHeartbeats 8000000 in
theorem unvalue_pc : ∀ (m : Nat) (t : Tr) (b : Bool), SizeOf.sizeOf t ≤ m → gbulk t.g ≤ 100000000 → PC Try.prog 69 [.ptr 0 0, .g t.g] (badH b) (.g (unV t b).1.g) (badH (unV t b).2)
  | 0, t, b, hm, _ => by cases t; simp at hm
  | m + 1, .mk tag n text [], b, hm, hb => unvalue_short tag n text [] b (by simp)
  | m + 1, .mk tag n text [_], b, hm, hb => unvalue_short tag n text [_] b (by simp)
  | m + 1, .mk tag n text [_, _], b, hm, hb => unvalue_short tag n text [_, _] b (by simp)
  | m + 1, .mk tag n text (k0 :: k1 :: k2 :: rest), b, hm, hb => by
    have hbl := trbulk (tag := tag) (n := n) (text := text) (kids := k0 :: k1 :: k2 :: rest)
    simp only [List.map_cons, gbulks] at hbl
    have hln := tr_len rest
    have hrest : SizeOf.sizeOf rest ≤ m := by simp at hm; omega
    have h1 := plain_pc k0 b
    have hun : unV (.mk tag n text (k0 :: k1 :: k2 :: rest)) b = ((.mk (plainP k2 (flagP k1 (plainP k0 b).2).2).1 (flagP k1 (plainP k0 b).2).1 n (plainP k0 b).1 text
        (goP unV rest (if tag = (plainP k2 (flagP k1 (plainP k0 b).2).2).1 % 256 then (plainP k2 (flagP k1 (plainP k0 b).2).2).2 else true) []).1),
        (goP unV rest (if tag = (plainP k2 (flagP k1 (plainP k0 b).2).2).1 % 256 then (plainP k2 (flagP k1 (plainP k0 b).2).2).2 else true) []).2) := by
      rw [unV]; simp only [goV_eq]
    generalize plainP k0 b = p0 at h1 hun
    have h2 := uflag_pc k1 p0.2
    generalize flagP k1 p0.2 = p1 at h2 hun
    have h3 := plain_pc k2 p1.2
    generalize plainP k2 p1.2 = p2 at h3 hun
    generalize hbd : (if tag = p2.1 % 256 then p2.2 else true) = bd at hun
    have hL := unpV_pc (.mk 0 0 ⟨#[]⟩ rest) bd (fun k hk b => unvalue_pc m k b (by have := List.sizeOf_lt_of_mem hk; dsimp only [Tr.kids] at this; omega) (by have := tr_mem hk; dsimp only [Tr.kids] at this; omega)) (by dsimp only [Tr.kids]; omega)
    have hlp : listP unV (.mk 0 0 ⟨#[]⟩ rest) bd = goP unV rest bd [] := by simp [listP, headP, Tr.kids, Tr.tag, Tr.num, Tr.text]
    rw [hlp] at hL
    generalize goP unV rest bd [] = L at hL hun
    obtain ⟨l, lb⟩ := L
    obtain ⟨e, be⟩ := p0
    obtain ⟨y, by_⟩ := p1
    obtain ⟨kd, bk⟩ := p2
    dsimp only at h1 h2 h3 hL hun hbd
    rw [hun]
    obtain ⟨a0, a1, a2, a3⟩ := k0
    obtain ⟨c0, c1, c2, c3⟩ := k1
    obtain ⟨d0, d1, d2, d3⟩ := k2
    have hlo : loOf (some (IntKind.i64, 3)) ≤ hiOf (Tr.gs (Tr.mk a0 a1 a2 a3 :: Tr.mk c0 c1 c2 c3 :: Tr.mk d0 d1 d2 d3 :: rest)).length none := by simp [loOf, hiOf, Tr.gs]; omega
    have hcl : ∀ x ∈ Tr.gs (Tr.mk a0 a1 a2 a3 :: Tr.mk c0 c1 c2 c3 :: Tr.mk d0 d1 d2 d3 :: rest), x.cells.length = 4 := by
      intro x hx; rw [gs_eq] at hx; obtain ⟨t, _, rfl⟩ := List.mem_map.1 hx; exact g_cells _
    have hsl : ((Tr.gs (Tr.mk a0 a1 a2 a3 :: Tr.mk c0 c1 c2 c3 :: Tr.mk d0 d1 d2 d3 :: rest)).drop (loOf (some (IntKind.i64, 3))).toNat).take ((hiOf (Tr.gs (Tr.mk a0 a1 a2 a3 :: Tr.mk c0 c1 c2 c3 :: Tr.mk d0 d1 d2 d3 :: rest)).length none).toNat - (loOf (some (IntKind.i64, 3))).toNat) = Tr.gs rest := by
      simp only [loOf, hiOf]
      rw [List.take_of_length_le (by simp)]
      simp [Tr.gs]
    refine PC_of_PW Try.func69 rfl rfl (rs := _) rfl (Nat.le_of_ble_eq_true (by kernel_rfl)) ?_
    (repeat (first | ((first | refine qA ?_ | refine qB ?_ | refine xN ?_ | refine xE ?_ | refine xT ?_); try show PW _ _ _ _ _ _) | refine ro1 tabOk rfl rfl ?_ | refine ro2 tabOk rfl rfl ?_ | refine ro3 tabOk rfl rfl ?_ | refine rd1 tabOk rfl rfl ?_ | refine rd2 tabOk rfl rfl ?_ | refine rd3 tabOk rfl rfl ?_ | ((first | apply oR rfl rfl | (apply dF rfl rfl rfl; intro _) | (apply dP rfl rfl rfl; intro _) | (apply dL rfl rfl rfl; intro _) | apply dC rfl rfl rfl rfl); (focus (first | exact cb [] rfl rfl (EN rfl) (h1) rfl rfl rfl rfl rfl rfl rfl rfl rfl rfl rfl | exact cb [] rfl rfl (EN rfl) (h2) rfl rfl rfl rfl rfl rfl rfl rfl rfl rfl rfl | exact cb [] rfl rfl (EN rfl) (h3) rfl rfl rfl rfl rfl rfl rfl rfl rfl rfl rfl | exact iA (g := (Tr.mk a0 a1 a2 a3).g) rfl (EL rfl) (SZ rfl) rfl rfl (by decide) rfl rfl | exact iA (g := (Tr.mk c0 c1 c2 c3).g) rfl (EL rfl) (SZ rfl) rfl rfl (by decide) rfl rfl | exact iA (g := (Tr.mk d0 d1 d2 d3).g) rfl (EL rfl) (SZ rfl) rfl rfl (by decide) rfl rfl | exact cJ | exact mG | exact bT | exact nD)); try exact kQ) | refine xU [7] rfl ?_ | refine xR ?_ | refine xK false false [1, 2, 3] rfl mixed (by decide +kernel) ?_ | refine xK false true [1, 2, 3] rfl mixed (by decide +kernel) ?_ | refine xK true false [1, 2, 3] rfl mixed (by decide +kernel) ?_ | refine xK true true [1, 2, 3] rfl mixed (by decide +kernel) ?_ | refine xB ?_ | refine xt rfl ?_ | refine xf rfl ?_))
    refine PW_cut (slots [(0, .ptr 0 0), (3, .ptr 1 0), (4, .ptr 2 0), (5, .ptr 3 0)]) ⟨[[.g (.bool bd)], [.g (.int .i64 tag), .g (.int .i64 n), .g (.str text), .g (.sl (Tr.gs (Tr.mk a0 a1 a2 a3 :: Tr.mk c0 c1 c2 c3 :: Tr.mk d0 d1 d2 d3 :: rest)))],
      [.g (.int .i64 0), .g (.bool false), .g (.int .i64 0), .g (.int .i64 0), .g (.str ⟨#[]⟩), .nils], [.g (.int .i64 kd), .g (.bool y), .g (.int .i64 n), .g (.int .i64 e), .g (.str text), .nils]], [], []⟩ ?_ ?_
    · (repeat' (first | (first | ((first | refine qA ?_ | refine qB ?_ | refine xN ?_ | refine xE ?_ | refine xT ?_); try show PW _ _ _ _ _ _) | refine ro1 tabOk rfl rfl ?_ | refine ro2 tabOk rfl rfl ?_ | refine ro3 tabOk rfl rfl ?_ | refine rd1 tabOk rfl rfl ?_ | refine rd2 tabOk rfl rfl ?_ | refine rd3 tabOk rfl rfl ?_ | ((first | apply oR rfl rfl | (apply dF rfl rfl rfl; intro _) | (apply dP rfl rfl rfl; intro _) | (apply dL rfl rfl rfl; intro _) | apply dC rfl rfl rfl rfl); (focus (first | exact cJ | exact mG | exact bT | exact nD)); try exact kQ) | refine xS ?_ | refine xR ?_ | refine qxa rfl rfl mixed ?_ | refine qxb rfl rfl mixed ?_ | refine qxc rfl rfl mixed ?_ | refine qxd rfl rfl mixed ?_ | refine xB ?_ | refine xt rfl ?_ | refine xf rfl ?_) | (refine POps_split rfl rfl (fun h => ?_) (fun h => ?_) <;> fail_if_success (first | (have : true = true := h) | (have : false = false := h))) | (refine POpsD_split rfl rfl (fun h => ?_) (fun h => ?_) <;> fail_if_success (first | (have : true = true := h) | (have : false = false := h))) | refine PW_cond rfl (fun h => ?_) (fun h => ?_)))
      · rw [and255] at h
        have h1 : ¬ tag = kd % 256 := by simpa [bne] using h
        rw [if_neg h1] at hbd
        subst hbd
        (refine ⟨SlotsOk.le ?_, HLe.of_eq ?_⟩; (repeat (first | exact meet_nil | refine meet_cons (.inl rfl) ?_ | refine meet_cons (.inr rfl) ?_ | refine meet_cons (.inl (by simp_all)) ?_)); (try rfl))
      · rw [and255] at h
        have h1 : tag = kd % 256 := by simpa [bne] using h
        rw [if_pos h1] at hbd
        subst hbd
        (refine ⟨SlotsOk.le ?_, HLe.of_eq ?_⟩; (repeat (first | exact meet_nil | refine meet_cons (.inl rfl) ?_ | refine meet_cons (.inr rfl) ?_ | refine meet_cons (.inl (by simp_all)) ?_)); (try rfl))
    · (repeat (first | ((first | refine qA ?_ | refine qB ?_ | refine xN ?_ | refine xE ?_ | refine xT ?_); try show PW _ _ _ _ _ _) | refine ro1 tabOk rfl rfl ?_ | refine ro2 tabOk rfl rfl ?_ | refine ro3 tabOk rfl rfl ?_ | refine rd1 tabOk rfl rfl ?_ | refine rd2 tabOk rfl rfl ?_ | refine rd3 tabOk rfl rfl ?_ | ((first | apply oR rfl rfl | (apply dF rfl rfl rfl; intro _) | (apply dP rfl rfl rfl; intro _) | (apply dL rfl rfl rfl; intro _) | apply dC rfl rfl rfl rfl); (focus (first | exact cb [] rfl rfl (EN rfl) (hL) rfl rfl rfl rfl rfl rfl rfl rfl rfl rfl rfl | exact PO_as (PO_slice_sl rfl (EL rfl) (SZ rfl) rfl rfl rfl (by decide) hlo (Int.le_refl _) hcl) (congrArg (fun z => PV.g (.sl z)) hsl) | exact cJ | exact mG | exact bT | exact nD)); try exact kQ) | refine xS ?_ | refine xR ?_ | refine qxa rfl rfl mixed ?_ | refine qxb rfl rfl mixed ?_ | refine qxc rfl rfl mixed ?_ | refine qxd rfl rfl mixed ?_ | refine xB ?_ | refine xt rfl ?_ | refine xf rfl ?_))
      (first | refine Ret_boxp (vC vT vN) rfl rfl rfl rfl rfl rfl rfl rfl rfl ?_ ?_ ?_ rfl | refine Ret_boxp (vC (vA (AG rfl) (SZ rfl) rfl rfl (lB rfl)) vN) rfl rfl rfl rfl rfl rfl rfl rfl rfl ?_ ?_ ?_ rfl | refine Ret_boxp (vC vT (vC vT vN)) rfl rfl rfl rfl rfl rfl rfl rfl rfl ?_ ?_ ?_ rfl | refine Ret_boxp (vC (vA (AG rfl) (SZ rfl) rfl rfl (lB rfl)) (vC vT vN)) rfl rfl rfl rfl rfl rfl rfl rfl rfl ?_ ?_ ?_ rfl)
      · simp [VVal.g, VVal.gs_eq]
      · rfl
      · rfl
end Go.Proofs.Ytffpepmfdjjjaaa


namespace Go.Proofs.Ytffpepmfdjjjaaa
open Go.Pure
attribute [local irreducible] PW POps POpsD PO PC Cond

theorem neStr {a b : ByteArray} (h : (!(a.toList == b.toList)) = true) : ¬ a = b := fun e => by subst e; simp at h
theorem eqStr {a b : ByteArray} (h : (!(a.toList == b.toList)) = false) : a = b := str_eq.1 (by simpa using h)
def noTr : Tr := .mk 0 0 ⟨#[]⟩ []
theorem unV_no : unV noTr true = (noVal, true) := by simp [noTr, unV]
theorem flag_no : flagP noTr true = (false, true) := by
  have : (plainP noTr true).2 = true := by unfold plainP; dsimp only; split <;> rfl
  unfold flagP
  rw [this, ite_self]
  rfl
theorem list_no {α : Type} (f : Tr → Bool → α × Bool) : listP f noTr true = ([], true) := by
  unfold listP headP
  rw [ite_self]
  rfl
theorem noTr_bulk : gbulk noTr.g = 4 := by simp [noTr, Tr.g, gbulk, gbulks, Tr.gs]; rfl
theorem kid_bulk {tag n : Int} {text : ByteArray} {kids : List Tr} {k : Tr} (h : k ∈ kids) : gbulk k.g + 2 ≤ gbulk (Tr.mk tag n text kids).g := by
  have := trbulk (tag := tag) (n := n) (text := text) (kids := kids)
  have := tr_mem h
  omega
/-- What a kid's kids are bounded by. -/
structure Below (m B : Nat) (q : Tr) : Prop where
  size : ∀ k ∈ q.kids, SizeOf.sizeOf k < m
  bulk : ∀ k ∈ q.kids, gbulk k.g ≤ B
  len : q.kids.length ≤ B
  self : gbulk q.g ≤ B + 4
theorem below_no (m B : Nat) : Below m B noTr := ⟨by simp [noTr, Tr.kids], by simp [noTr, Tr.kids], by simp [noTr, Tr.kids], by rw [noTr_bulk]; omega⟩
theorem below_kid {tag n : Int} {text : ByteArray} {kids : List Tr} {q : Tr} (h : q ∈ kids) : Below (SizeOf.sizeOf (Tr.mk tag n text kids)) (gbulk (Tr.mk tag n text kids).g) q := by
  have h1 := kid_bulk (tag := tag) (n := n) (text := text) h
  obtain ⟨a, b, c, d⟩ := q
  have h2 := trbulk (tag := a) (n := b) (text := c) (kids := d)
  have h3 := tr_len d
  refine ⟨fun k hk => ?_, fun k hk => ?_, ?_, by omega⟩
  · have e1 := List.sizeOf_lt_of_mem h
    have e2 := List.sizeOf_lt_of_mem hk
    simp only [Tr.kids] at e2
    simp only [Tr.mk.sizeOf_spec] at *
    omega
  · have := tr_mem hk
    simp only [Tr.kids] at *
    omega
  · simp only [Tr.kids]; omega
def UnE (t : Tr) (b : Bool) : Prop := ∃ q0 q1 pb, partsP t 2 b = ([q0, q1], pb) ∧ unE t b = (.mk t.num (unV q0 pb).1 t.text (listP unE q1 (unV q0 pb).2).1, (listP unE q1 (unV q0 pb).2).2) ∧
    Below (SizeOf.sizeOf t) (gbulk t.g) q0 ∧ Below (SizeOf.sizeOf t) (gbulk t.g) q1
theorem unE_bad {t : Tr} {b : Bool} (h1 : partsP t 2 b = (List.replicate 2 (.mk 0 0 ⟨#[]⟩ []), true)) (h2 : unE t b = (.mk t.num noVal t.text [], true)) : UnE t b := ⟨noTr, noTr, true, h1, by rw [h2, unV_no, list_no], below_no _ _, below_no _ _⟩
theorem unE_eq (t : Tr) (b : Bool) : UnE t b := by
  match t with
  | .mk tag n text [] => exact unE_bad (by simp [partsP, Tr.tag, Tr.kids]) rfl
  | .mk tag n text [_] => exact unE_bad (by simp [partsP, Tr.tag, Tr.kids]) rfl
  | .mk tag n text (_ :: .mk _ _ _ _ :: _ :: r) => exact unE_bad (by simp [partsP, Tr.tag, Tr.kids]) rfl
  | .mk tag n text [p0, .mk a1 a2 a3 a4] =>
    by_cases h : tag = 0
    · refine ⟨p0, .mk a1 a2 a3 a4, b, by simp [partsP, Tr.tag, Tr.kids, h], ?_, below_kid (by simp), below_kid (by simp)⟩
      rw [unE, if_pos h]
      simp only [goE_eq, listP, Tr.kids, Tr.num, Tr.text]
    · exact unE_bad (by simp [partsP, Tr.tag, h]) (by rw [unE, if_neg h]; rfl)

def UnT (t : Tr) (b : Bool) : Prop := ∃ q0 q1 q2 q3 q4 pb, partsP t 5 b = ([q0, q1, q2, q3, q4], pb) ∧ ∃ pb', pb' = (if t.text = ⟨#[]⟩ then pb else true) ∧
    unT t b = (.mk t.num (unV q0 pb').1 (unV q1 (unV q0 pb').2).1 (flagP q2 (unV q1 (unV q0 pb').2).2).1 (flagP q3 (flagP q2 (unV q1 (unV q0 pb').2).2).2).1 (listP unT q4 (flagP q3 (flagP q2 (unV q1 (unV q0 pb').2).2).2).2).1, (listP unT q4 (flagP q3 (flagP q2 (unV q1 (unV q0 pb').2).2).2).2).2) ∧
    Below (SizeOf.sizeOf t) (gbulk t.g) q0 ∧ Below (SizeOf.sizeOf t) (gbulk t.g) q1 ∧ Below (SizeOf.sizeOf t) (gbulk t.g) q4
theorem unT_bad {t : Tr} {b : Bool} (h1 : partsP t 5 b = (List.replicate 5 (.mk 0 0 ⟨#[]⟩ []), true)) (h2 : unT t b = (.mk t.num noVal noVal false false [], true)) : UnT t b := ⟨noTr, noTr, noTr, noTr, noTr, true, h1, true, by split <;> rfl, by rw [h2, unV_no, unV_no, flag_no, flag_no, list_no], below_no _ _, below_no _ _, below_no _ _⟩
theorem unT_eq (t : Tr) (b : Bool) : UnT t b := by
  match t with
  | .mk tag n text [] => exact unT_bad (by simp [partsP, Tr.tag, Tr.kids]) rfl
  | .mk tag n text [_] => exact unT_bad (by simp [partsP, Tr.tag, Tr.kids]) rfl
  | .mk tag n text [_, _] => exact unT_bad (by simp [partsP, Tr.tag, Tr.kids]) rfl
  | .mk tag n text [_, _, _] => exact unT_bad (by simp [partsP, Tr.tag, Tr.kids]) rfl
  | .mk tag n text [_, _, _, _] => exact unT_bad (by simp [partsP, Tr.tag, Tr.kids]) rfl
  | .mk tag n text (_ :: _ :: _ :: _ :: .mk _ _ _ _ :: _ :: r) => exact unT_bad (by simp [partsP, Tr.tag, Tr.kids]) rfl
  | .mk tag n text [p0, p1, p2, p3, .mk a1 a2 a3 a4] =>
    by_cases h : tag = 0
    · refine ⟨p0, p1, p2, p3, .mk a1 a2 a3 a4, b, by simp [partsP, Tr.tag, Tr.kids, h], _, rfl, ?_, below_kid (by simp), below_kid (by simp), below_kid (by simp)⟩
      rw [unT, if_pos h]
      simp only [goT_eq, listP, Tr.kids, Tr.num, Tr.text]
      rfl
    · exact unT_bad (by simp [partsP, Tr.tag, h]) (by rw [unT, if_neg h]; rfl)

set_option maxRecDepth 100000 in
set_option maxHeartbeats 8000000 in
theorem unexpr_pc : ∀ (m : Nat) (t : Tr) (b : Bool), SizeOf.sizeOf t ≤ m → gbulk t.g ≤ 50000000 → PC Try.prog 73 [.ptr 0 0, .g t.g] (badH b) (.g (unE t b).1.g) (badH (unE t b).2)
  | 0, t, b, hm, _ => by cases t; simp at hm
  | m + 1, t, b, hm, hb => by
    obtain ⟨q0, q1, pb, hp, hu, b0, b1⟩ := unE_eq t b
    have h1 := parts_pc 2 (by decide) t b
    rw [hp] at h1
    have h2 := unvalue_pc _ q0 pb (Nat.le_refl _) (by have := b0.self; omega)
    generalize unV q0 pb = v at h2 hu
    have h3 := unpE_pc q1 v.2 (fun k hk b => unexpr_pc m k b (by have := b1.size k hk; omega) (by have := b1.bulk k hk; omega)) (by have := b1.len; omega)
    generalize listP unE q1 v.2 = l at h3 hu
    obtain ⟨l, lb⟩ := l
    obtain ⟨⟨vk, vy, vc, ve, vs, vl⟩, vb⟩ := v
    obtain ⟨tag, n, text, kids⟩ := t
    obtain ⟨a0, a1, a2, a3⟩ := q0
    obtain ⟨c0, c1, c2, c3⟩ := q1
    dsimp only at h1 h2 h3 hu
    rw [hu]
    clear hb b0 b1 hp hu hm
    refine PC_of_PW Try.func73 rfl rfl (rs := _) rfl (Nat.le_of_ble_eq_true (by kernel_rfl)) ?_
    (repeat (first | ((first | refine qA ?_ | refine qB ?_ | refine xN ?_ | refine xE ?_ | refine xT ?_); try show PW _ _ _ _ _ _) | refine ro1 tabOk rfl rfl ?_ | refine ro2 tabOk rfl rfl ?_ | refine ro3 tabOk rfl rfl ?_ | refine rd1 tabOk rfl rfl ?_ | refine rd2 tabOk rfl rfl ?_ | refine rd3 tabOk rfl rfl ?_ | ((first | apply oR rfl rfl | (apply dF rfl rfl rfl; intro _) | (apply dP rfl rfl rfl; intro _) | (apply dL rfl rfl rfl; intro _) | apply dC rfl rfl rfl rfl); (focus (first | exact cb [] rfl rfl (EN rfl) (h1) rfl rfl rfl rfl rfl rfl rfl rfl rfl rfl rfl | exact cb [] rfl rfl (EN rfl) (h2) rfl rfl rfl rfl rfl rfl rfl rfl rfl rfl rfl | exact cb [] rfl rfl (EN rfl) (h3) rfl rfl rfl rfl rfl rfl rfl rfl rfl rfl rfl | exact iA (g := (Tr.mk a0 a1 a2 a3).g) rfl (EL rfl) (SZ rfl) rfl rfl (by decide) rfl rfl | exact iA (g := (Tr.mk c0 c1 c2 c3).g) rfl (EL rfl) (SZ rfl) rfl rfl (by decide) rfl rfl | exact cJ | exact mG | exact bT | exact nD)); try exact kQ) | refine xS ?_ | refine xR ?_ | refine xK false false [1, 2] rfl mixed (by decide +kernel) ?_ | refine xK false true [1, 2] rfl mixed (by decide +kernel) ?_ | refine xK true false [1, 2] rfl mixed (by decide +kernel) ?_ | refine xK true true [1, 2] rfl mixed (by decide +kernel) ?_ | refine xB ?_ | refine xt rfl ?_ | refine xf rfl ?_))
    (first | refine Ret_boxp (vC vT vN) rfl rfl rfl rfl rfl rfl rfl rfl rfl ?_ ?_ ?_ rfl | refine Ret_boxp (vC (vA (AG rfl) (SZ rfl) rfl rfl (lB rfl)) vN) rfl rfl rfl rfl rfl rfl rfl rfl rfl ?_ ?_ ?_ rfl | refine Ret_boxp (vC vT (vC vT vN)) rfl rfl rfl rfl rfl rfl rfl rfl rfl ?_ ?_ ?_ rfl | refine Ret_boxp (vC (vA (AG rfl) (SZ rfl) rfl rfl (lB rfl)) (vC vT vN)) rfl rfl rfl rfl rfl rfl rfl rfl rfl ?_ ?_ ?_ rfl)
    · simp only [VExpr.g, VExpr.gs_eq]; rfl
    · rfl
    · rfl

set_option maxRecDepth 100000 in
set_option maxHeartbeats 8000000 in
theorem untest_pc : ∀ (m : Nat) (t : Tr) (b : Bool), SizeOf.sizeOf t ≤ m → gbulk t.g ≤ 50000000 → PC Try.prog 71 [.ptr 0 0, .g t.g] (badH b) (.g (unT t b).1.g) (badH (unT t b).2)
  | 0, t, b, hm, _ => by cases t; simp at hm
  | m + 1, t, b, hm, hb => by
    obtain ⟨q0, q1, q2, q3, q4, pb, hp, pb', hpb, hu, b0, b1, b4⟩ := unT_eq t b
    have h1 := parts_pc 5 (by decide) t b
    rw [hp] at h1
    have h2 := unvalue_pc _ q0 pb' (Nat.le_refl _) (by have := b0.self; omega)
    generalize unV q0 pb' = v at h2 hu
    have h3 := unvalue_pc _ q1 v.2 (Nat.le_refl _) (by have := b1.self; omega)
    generalize unV q1 v.2 = w at h3 hu
    have h4 := uflag_pc q2 w.2
    generalize flagP q2 w.2 = f at h4 hu
    have h5 := uflag_pc q3 f.2
    generalize flagP q3 f.2 = g at h5 hu
    have h6 := unpT_pc q4 g.2 (fun k hk b => untest_pc m k b (by have := b4.size k hk; omega) (by have := b4.bulk k hk; omega)) (by have := b4.len; omega)
    generalize listP unT q4 g.2 = l at h6 hu
    obtain ⟨l, lb⟩ := l
    obtain ⟨f, fb⟩ := f
    obtain ⟨g, gb⟩ := g
    obtain ⟨⟨vk, vy, vc, ve, vs, vl⟩, vb⟩ := v
    obtain ⟨⟨uk, uy, uc, ue, us, ul⟩, ub⟩ := w
    obtain ⟨tag, n, text, kids⟩ := t
    obtain ⟨a0, a1, a2, a3⟩ := q0
    obtain ⟨c0, c1, c2, c3⟩ := q1
    obtain ⟨d0, d1, d2, d3⟩ := q2
    obtain ⟨e0, e1, e2, e3⟩ := q3
    obtain ⟨j0, j1, j2, j3⟩ := q4
    dsimp only [Tr.text] at h1 h2 h3 h4 h5 h6 hu hpb
    rw [hu]
    clear hb b0 b1 b4 hp hu hm
    refine PC_of_PW Try.func71 rfl rfl (rs := _) rfl (Nat.le_of_ble_eq_true (by kernel_rfl)) ?_
    (repeat (first | ((first | refine qA ?_ | refine qB ?_ | refine xN ?_ | refine xE ?_ | refine xT ?_); try show PW _ _ _ _ _ _) | refine ro1 tabOk rfl rfl ?_ | refine ro2 tabOk rfl rfl ?_ | refine ro3 tabOk rfl rfl ?_ | refine rd1 tabOk rfl rfl ?_ | refine rd2 tabOk rfl rfl ?_ | refine rd3 tabOk rfl rfl ?_ | ((first | apply oR rfl rfl | (apply dF rfl rfl rfl; intro _) | (apply dP rfl rfl rfl; intro _) | (apply dL rfl rfl rfl; intro _) | apply dC rfl rfl rfl rfl); (focus (first | exact cb [] rfl rfl (EN rfl) (h1) rfl rfl rfl rfl rfl rfl rfl rfl rfl rfl rfl | exact cJ | exact mG | exact bT | exact nD)); try exact kQ) | refine xU [2] rfl ?_ | refine xR ?_ | refine qxa rfl rfl mixed ?_ | refine qxb rfl rfl mixed ?_ | refine qxc rfl rfl mixed ?_ | refine qxd rfl rfl mixed ?_ | refine xB ?_ | refine xt rfl ?_ | refine xf rfl ?_))
    refine PW_cut (slots [(0, .ptr 0 0), (3, .ptr 1 0), (4, .ptr 2 0), (5, .g (.sl (Tr.gs [Tr.mk a0 a1 a2 a3, Tr.mk c0 c1 c2 c3, Tr.mk d0 d1 d2 d3, Tr.mk e0 e1 e2 e3, Tr.mk j0 j1 j2 j3])))]) ⟨[[.g (.bool pb')], [.g (.int .i64 tag), .g (.int .i64 n), .g (.str text), .g (.sl (Tr.gs kids))],
      [.g (.int .i64 0), .g (.int .i64 0), .g (.bool false), .g (.int .i64 0), .g (.int .i64 0), .g (.str ⟨#[]⟩), .nils, .g (.int .i64 0), .g (.bool false), .g (.int .i64 0), .g (.int .i64 0), .g (.str ⟨#[]⟩), .nils, .g (.bool false), .g (.bool false), .nils]], [], []⟩ ?_ ?_
    · (repeat' (first | (first | ((first | refine qA ?_ | refine qB ?_ | refine xN ?_ | refine xE ?_ | refine xT ?_); try show PW _ _ _ _ _ _) | refine ro1 tabOk rfl rfl ?_ | refine ro2 tabOk rfl rfl ?_ | refine ro3 tabOk rfl rfl ?_ | refine rd1 tabOk rfl rfl ?_ | refine rd2 tabOk rfl rfl ?_ | refine rd3 tabOk rfl rfl ?_ | ((first | apply oR rfl rfl | (apply dF rfl rfl rfl; intro _) | (apply dP rfl rfl rfl; intro _) | (apply dL rfl rfl rfl; intro _) | apply dC rfl rfl rfl rfl); (focus (first | exact cJ | exact mG | exact bT | exact nD)); try exact kQ) | refine xS ?_ | refine xR ?_ | refine qxa rfl rfl mixed ?_ | refine qxb rfl rfl mixed ?_ | refine qxc rfl rfl mixed ?_ | refine qxd rfl rfl mixed ?_ | refine xB ?_ | refine xt rfl ?_ | refine xf rfl ?_) | (refine POps_split rfl rfl (fun h => ?_) (fun h => ?_) <;> fail_if_success (first | (have : true = true := h) | (have : false = false := h))) | (refine POpsD_split rfl rfl (fun h => ?_) (fun h => ?_) <;> fail_if_success (first | (have : true = true := h) | (have : false = false := h))) | refine PW_cond rfl (fun h => ?_) (fun h => ?_)))
      · have h1 : ¬ text = ⟨#[]⟩ := neStr h
        have hpb : pb' = true := hpb.trans (if_neg h1)
        subst hpb
        refine ⟨SlotsOk.le ⟨.inl rfl, .inl rfl, .inl rfl, .inl rfl, trivial⟩, HLe.of_eq rfl⟩
      · have h1 : text = ⟨#[]⟩ := eqStr h
        have hpb : pb' = pb := hpb.trans (if_pos h1)
        subst hpb
        refine ⟨SlotsOk.le ⟨.inl rfl, .inl rfl, .inl rfl, .inl rfl, trivial⟩, HLe.of_eq rfl⟩
    · (repeat (first | ((first | refine qA ?_ | refine qB ?_ | refine xN ?_ | refine xE ?_ | refine xT ?_); try show PW _ _ _ _ _ _) | refine ro1 tabOk rfl rfl ?_ | refine ro2 tabOk rfl rfl ?_ | refine ro3 tabOk rfl rfl ?_ | refine rd1 tabOk rfl rfl ?_ | refine rd2 tabOk rfl rfl ?_ | refine rd3 tabOk rfl rfl ?_ | ((first | apply oR rfl rfl | (apply dF rfl rfl rfl; intro _) | (apply dP rfl rfl rfl; intro _) | (apply dL rfl rfl rfl; intro _) | apply dC rfl rfl rfl rfl); (focus (first | exact cb [] rfl rfl (EN rfl) (h2) rfl rfl rfl rfl rfl rfl rfl rfl rfl rfl rfl | exact cb [] rfl rfl (EN rfl) (h3) rfl rfl rfl rfl rfl rfl rfl rfl rfl rfl rfl | exact cb [] rfl rfl (EN rfl) (h4) rfl rfl rfl rfl rfl rfl rfl rfl rfl rfl rfl | exact cb [] rfl rfl (EN rfl) (h5) rfl rfl rfl rfl rfl rfl rfl rfl rfl rfl rfl | exact cb [] rfl rfl (EN rfl) (h6) rfl rfl rfl rfl rfl rfl rfl rfl rfl rfl rfl | exact iA (g := (Tr.mk a0 a1 a2 a3).g) rfl (EL rfl) (SZ rfl) rfl rfl (by decide) rfl rfl | exact iA (g := (Tr.mk c0 c1 c2 c3).g) rfl (EL rfl) (SZ rfl) rfl rfl (by decide) rfl rfl | exact iA (g := (Tr.mk d0 d1 d2 d3).g) rfl (EL rfl) (SZ rfl) rfl rfl (by decide) rfl rfl | exact iA (g := (Tr.mk e0 e1 e2 e3).g) rfl (EL rfl) (SZ rfl) rfl rfl (by decide) rfl rfl | exact iA (g := (Tr.mk j0 j1 j2 j3).g) rfl (EL rfl) (SZ rfl) rfl rfl (by decide) rfl rfl | exact cJ | exact mG | exact bT | exact nD)); try exact kQ) | refine xS ?_ | refine xR ?_ | refine xK false false [1, 2] rfl mixed (by decide +kernel) ?_ | refine xK false true [1, 2] rfl mixed (by decide +kernel) ?_ | refine xK true false [1, 2] rfl mixed (by decide +kernel) ?_ | refine xK true true [1, 2] rfl mixed (by decide +kernel) ?_ | refine xB ?_ | refine xt rfl ?_ | refine xf rfl ?_))
      (first | refine Ret_boxp (vC vT vN) rfl rfl rfl rfl rfl rfl rfl rfl rfl ?_ ?_ ?_ rfl | refine Ret_boxp (vC (vA (AG rfl) (SZ rfl) rfl rfl (lB rfl)) vN) rfl rfl rfl rfl rfl rfl rfl rfl rfl ?_ ?_ ?_ rfl | refine Ret_boxp (vC vT (vC vT vN)) rfl rfl rfl rfl rfl rfl rfl rfl rfl ?_ ?_ ?_ rfl | refine Ret_boxp (vC (vA (AG rfl) (SZ rfl) rfl rfl (lB rfl)) (vC vT vN)) rfl rfl rfl rfl rfl rfl rfl rfl rfl ?_ ?_ ?_ rfl)
      · simp only [VTest.g, VTest.gs_eq]; rfl
      · rfl
      · rfl
end Go.Proofs.Ytffpepmfdjjjaaa


namespace Go.Proofs.Ytffpepmfdjjjaaa
open Go.Pure
attribute [local irreducible] PW POps POpsD PO PC Cond

theorem parts_len (t : Tr) (n : Nat) (b : Bool) : (partsP t n b).1.length = n := by
  unfold partsP
  split
  · rename_i h; exact h.2
  · simp
theorem parts_below (t : Tr) (n : Nat) (b : Bool) : ∀ q ∈ (partsP t n b).1, Below (SizeOf.sizeOf t) (gbulk t.g) q := by
  unfold partsP
  split
  · obtain ⟨tag, k, text, kids⟩ := t
    intro q hq
    exact below_kid hq
  · intro q hq
    rw [List.eq_of_mem_replicate hq]
    exact below_no _ _
theorem parts1 (t : Tr) (b : Bool) : ∃ q0 pb, partsP t 1 b = ([q0], pb) ∧ Below (SizeOf.sizeOf t) (gbulk t.g) q0 := by
  have h1 := parts_len t 1 b
  have h2 := parts_below t 1 b
  cases hp : partsP t 1 b with
  | mk l pb =>
    rw [hp] at h1 h2
    match l, h1 with
    | [q0], _ => exact ⟨q0, pb, rfl, h2 _ (by simp)⟩
theorem parts2 (t : Tr) (b : Bool) : ∃ q0 q1 pb, partsP t 2 b = ([q0, q1], pb) ∧ Below (SizeOf.sizeOf t) (gbulk t.g) q0 ∧ Below (SizeOf.sizeOf t) (gbulk t.g) q1 := by
  have h1 := parts_len t 2 b
  have h2 := parts_below t 2 b
  cases hp : partsP t 2 b with
  | mk l pb =>
    rw [hp] at h1 h2
    match l, h1 with
    | [q0, q1], _ => exact ⟨q0, q1, pb, rfl, h2 _ (by simp), h2 _ (by simp)⟩
theorem parts3 (t : Tr) (b : Bool) : ∃ q0 q1 q2 pb, partsP t 3 b = ([q0, q1, q2], pb) ∧ Below (SizeOf.sizeOf t) (gbulk t.g) q0 ∧ Below (SizeOf.sizeOf t) (gbulk t.g) q1 ∧ Below (SizeOf.sizeOf t) (gbulk t.g) q2 := by
  have h1 := parts_len t 3 b
  have h2 := parts_below t 3 b
  cases hp : partsP t 3 b with
  | mk l pb =>
    rw [hp] at h1 h2
    match l, h1 with
    | [q0, q1, q2], _ => exact ⟨q0, q1, q2, pb, rfl, h2 _ (by simp), h2 _ (by simp), h2 _ (by simp)⟩
theorem parts4 (t : Tr) (b : Bool) : ∃ q0 q1 q2 q3 pb, partsP t 4 b = ([q0, q1, q2, q3], pb) ∧ Below (SizeOf.sizeOf t) (gbulk t.g) q3 := by
  have h1 := parts_len t 4 b
  have h2 := parts_below t 4 b
  cases hp : partsP t 4 b with
  | mk l pb =>
    rw [hp] at h1 h2
    match l, h1 with
    | [q0, q1, q2, q3], _ => exact ⟨q0, q1, q2, q3, pb, rfl, h2 _ (by simp)⟩

set_option maxRecDepth 100000 in
set_option maxHeartbeats 8000000 in
theorem uncol_pc (t : Tr) (b : Bool) (hb : gbulk t.g ≤ 50000000) : PC Try.prog 46 [.ptr 0 0, .g t.g] (badH b) (.g (unC t b).1.g) (badH (unC t b).2) := by
  obtain ⟨q0, pb, hp, b0⟩ := parts1 t b
  have h1 := parts_pc 1 (by decide) t b
  rw [hp] at h1
  have hu : unC t b = (.mk t.text t.num (listP unV q0 pb).1, (listP unV q0 pb).2) := by unfold unC; rw [hp]; rfl
  have h3 := unpV_pc q0 pb (fun k hk b => unvalue_pc _ k b (Nat.le_refl _) (by have := b0.bulk k hk; omega)) (by have := b0.len; omega)
  generalize listP unV q0 pb = l at h3 hu
  obtain ⟨l, lb⟩ := l
  obtain ⟨tag, n, text, kids⟩ := t
  obtain ⟨a0, a1, a2, a3⟩ := q0
  dsimp only at h1 h3 hu
  rw [hu]
  clear hb b0 hp hu
  refine PC_of_PW Try.func46 rfl rfl (rs := _) rfl (Nat.le_of_ble_eq_true (by kernel_rfl)) ?_
  (repeat (first | ((first | refine qA ?_ | refine qB ?_ | refine xN ?_ | refine xE ?_ | refine xT ?_); try show PW _ _ _ _ _ _) | refine ro1 tabOk rfl rfl ?_ | refine ro2 tabOk rfl rfl ?_ | refine ro3 tabOk rfl rfl ?_ | refine rd1 tabOk rfl rfl ?_ | refine rd2 tabOk rfl rfl ?_ | refine rd3 tabOk rfl rfl ?_ | ((first | apply oR rfl rfl | (apply dF rfl rfl rfl; intro _) | (apply dP rfl rfl rfl; intro _) | (apply dL rfl rfl rfl; intro _) | apply dC rfl rfl rfl rfl); (focus (first | exact cb [] rfl rfl (EN rfl) (h1) rfl rfl rfl rfl rfl rfl rfl rfl rfl rfl rfl | exact cb [] rfl rfl (EN rfl) (h3) rfl rfl rfl rfl rfl rfl rfl rfl rfl rfl rfl | exact iA (g := (Tr.mk a0 a1 a2 a3).g) rfl (EL rfl) (SZ rfl) rfl rfl (by decide) rfl rfl | exact cJ | exact mG | exact bT | exact nD)); try exact kQ) | refine xS ?_ | refine xR ?_ | refine xK false false [1, 2] rfl mixed (by decide +kernel) ?_ | refine xK false true [1, 2] rfl mixed (by decide +kernel) ?_ | refine xK true false [1, 2] rfl mixed (by decide +kernel) ?_ | refine xK true true [1, 2] rfl mixed (by decide +kernel) ?_ | refine xB ?_ | refine xt rfl ?_ | refine xf rfl ?_))
  (first | refine Ret_boxp (vC vT vN) rfl rfl rfl rfl rfl rfl rfl rfl rfl ?_ ?_ ?_ rfl | refine Ret_boxp (vC (vA (AG rfl) (SZ rfl) rfl rfl (lB rfl)) vN) rfl rfl rfl rfl rfl rfl rfl rfl rfl ?_ ?_ ?_ rfl | refine Ret_boxp (vC vT (vC vT vN)) rfl rfl rfl rfl rfl rfl rfl rfl rfl ?_ ?_ ?_ rfl | refine Ret_boxp (vC (vA (AG rfl) (SZ rfl) rfl rfl (lB rfl)) (vC vT vN)) rfl rfl rfl rfl rfl rfl rfl rfl rfl ?_ ?_ ?_ rfl)
  · simp only [VCol.g, VVal.gs_eq]; rfl
  · rfl
  · rfl

set_option maxRecDepth 100000 in
set_option maxHeartbeats 8000000 in
theorem unrule_pc (t : Tr) (b : Bool) (hb : gbulk t.g ≤ 50000000) : PC Try.prog 48 [.ptr 0 0, .g t.g] (badH b) (.g (unR t b).1.g) (badH (unR t b).2) := by
  obtain ⟨q0, q1, pb, hp, b0, b1⟩ := parts2 t b
  have h1 := parts_pc 2 (by decide) t b
  rw [hp] at h1
  obtain ⟨pb', hpb⟩ : ∃ pb', pb' = (if t.num = 0 ∧ t.text = ⟨#[]⟩ then pb else true) := ⟨_, rfl⟩
  have hu : unR t b = (.mk (listP unT q0 pb').1 (listP unE q1 (listP unT q0 pb').2).1, (listP unE q1 (listP unT q0 pb').2).2) := by unfold unR; rw [hp, hpb]; rfl
  have h3 := unpT_pc q0 pb' (fun k hk b => untest_pc _ k b (Nat.le_refl _) (by have := b0.bulk k hk; omega)) (by have := b0.len; omega)
  generalize listP unT q0 pb' = l at h3 hu
  have h4 := unpE_pc q1 l.2 (fun k hk b => unexpr_pc _ k b (Nat.le_refl _) (by have := b1.bulk k hk; omega)) (by have := b1.len; omega)
  generalize listP unE q1 l.2 = e at h4 hu
  obtain ⟨l, lb⟩ := l
  obtain ⟨e, eb⟩ := e
  obtain ⟨tag, n, text, kids⟩ := t
  obtain ⟨a0, a1, a2, a3⟩ := q0
  obtain ⟨c0, c1, c2, c3⟩ := q1
  dsimp only [Tr.text, Tr.num] at h1 h3 h4 hu hpb
  rw [hu]
  clear hb b0 b1 hp hu
  refine PC_of_PW Try.func48 rfl rfl (rs := _) rfl (Nat.le_of_ble_eq_true (by kernel_rfl)) ?_
  (repeat (first | ((first | refine qA ?_ | refine qB ?_ | refine xN ?_ | refine xE ?_ | refine xT ?_); try show PW _ _ _ _ _ _) | refine ro1 tabOk rfl rfl ?_ | refine ro2 tabOk rfl rfl ?_ | refine ro3 tabOk rfl rfl ?_ | refine rd1 tabOk rfl rfl ?_ | refine rd2 tabOk rfl rfl ?_ | refine rd3 tabOk rfl rfl ?_ | ((first | apply oR rfl rfl | (apply dF rfl rfl rfl; intro _) | (apply dP rfl rfl rfl; intro _) | (apply dL rfl rfl rfl; intro _) | apply dC rfl rfl rfl rfl); (focus (first | exact cb [] rfl rfl (EN rfl) (h1) rfl rfl rfl rfl rfl rfl rfl rfl rfl rfl rfl | exact cJ | exact mG | exact bT | exact nD)); try exact kQ) | refine xU [2] rfl ?_ | refine xR ?_ | refine qxa rfl rfl mixed ?_ | refine qxb rfl rfl mixed ?_ | refine qxc rfl rfl mixed ?_ | refine qxd rfl rfl mixed ?_ | refine xB ?_ | refine xt rfl ?_ | refine xf rfl ?_))
  refine PW_cut (slots [(0, .ptr 0 0), (3, .ptr 1 0), (4, .ptr 2 0), (5, .g (.sl (Tr.gs [Tr.mk a0 a1 a2 a3, Tr.mk c0 c1 c2 c3])))]) ⟨[[.g (.bool pb')], [.g (.int .i64 tag), .g (.int .i64 n), .g (.str text), .g (.sl (Tr.gs kids))],
    [.nils, .nils]], [], []⟩ ?_ ?_
  · (repeat' (first | (first | ((first | refine qA ?_ | refine qB ?_ | refine xN ?_ | refine xE ?_ | refine xT ?_); try show PW _ _ _ _ _ _) | refine ro1 tabOk rfl rfl ?_ | refine ro2 tabOk rfl rfl ?_ | refine ro3 tabOk rfl rfl ?_ | refine rd1 tabOk rfl rfl ?_ | refine rd2 tabOk rfl rfl ?_ | refine rd3 tabOk rfl rfl ?_ | ((first | apply oR rfl rfl | (apply dF rfl rfl rfl; intro _) | (apply dP rfl rfl rfl; intro _) | (apply dL rfl rfl rfl; intro _) | apply dC rfl rfl rfl rfl); (focus (first | exact cJ | exact mG | exact bT | exact nD)); try exact kQ) | refine xS ?_ | refine xR ?_ | refine qxa rfl rfl mixed ?_ | refine qxb rfl rfl mixed ?_ | refine qxc rfl rfl mixed ?_ | refine qxd rfl rfl mixed ?_ | refine xB ?_ | refine xt rfl ?_ | refine xf rfl ?_) | (refine POps_split rfl rfl (fun h => ?_) (fun h => ?_) <;> fail_if_success (first | (have : true = true := h) | (have : false = false := h))) | (refine POpsD_split rfl rfl (fun h => ?_) (fun h => ?_) <;> fail_if_success (first | (have : true = true := h) | (have : false = false := h))) | refine PW_cond rfl (fun h => ?_) (fun h => ?_)))
    · have h1 : ¬ n = 0 := by simpa [bne] using h
      have hpb : pb' = true := hpb.trans (if_neg (fun q => h1 q.1))
      subst hpb
      refine ⟨SlotsOk.le ⟨.inl rfl, .inl rfl, .inl rfl, .inl rfl, trivial⟩, HLe.of_eq rfl⟩
    · have hpb : pb' = true := hpb.trans (if_neg (fun q => neStr h q.2))
      subst hpb
      refine ⟨SlotsOk.le ⟨.inl rfl, .inl rfl, .inl rfl, .inl rfl, trivial⟩, HLe.of_eq rfl⟩
    · rename_i q
      have h1 : n = 0 := by simpa [bne] using q
      have hpb : pb' = pb := hpb.trans (if_pos ⟨h1, eqStr h⟩)
      subst hpb
      refine ⟨SlotsOk.le ⟨.inl rfl, .inl rfl, .inl rfl, .inl rfl, trivial⟩, HLe.of_eq rfl⟩
  · (repeat (first | ((first | refine qA ?_ | refine qB ?_ | refine xN ?_ | refine xE ?_ | refine xT ?_); try show PW _ _ _ _ _ _) | refine ro1 tabOk rfl rfl ?_ | refine ro2 tabOk rfl rfl ?_ | refine ro3 tabOk rfl rfl ?_ | refine rd1 tabOk rfl rfl ?_ | refine rd2 tabOk rfl rfl ?_ | refine rd3 tabOk rfl rfl ?_ | ((first | apply oR rfl rfl | (apply dF rfl rfl rfl; intro _) | (apply dP rfl rfl rfl; intro _) | (apply dL rfl rfl rfl; intro _) | apply dC rfl rfl rfl rfl); (focus (first | exact cb [] rfl rfl (EN rfl) (h3) rfl rfl rfl rfl rfl rfl rfl rfl rfl rfl rfl | exact cb [] rfl rfl (EN rfl) (h4) rfl rfl rfl rfl rfl rfl rfl rfl rfl rfl rfl | exact iA (g := (Tr.mk a0 a1 a2 a3).g) rfl (EL rfl) (SZ rfl) rfl rfl (by decide) rfl rfl | exact iA (g := (Tr.mk c0 c1 c2 c3).g) rfl (EL rfl) (SZ rfl) rfl rfl (by decide) rfl rfl | exact cJ | exact mG | exact bT | exact nD)); try exact kQ) | refine xS ?_ | refine xR ?_ | refine xK false false [1, 2] rfl mixed (by decide +kernel) ?_ | refine xK false true [1, 2] rfl mixed (by decide +kernel) ?_ | refine xK true false [1, 2] rfl mixed (by decide +kernel) ?_ | refine xK true true [1, 2] rfl mixed (by decide +kernel) ?_ | refine xB ?_ | refine xt rfl ?_ | refine xf rfl ?_))
    (first | refine Ret_boxp (vC vT vN) rfl rfl rfl rfl rfl rfl rfl rfl rfl ?_ ?_ ?_ rfl | refine Ret_boxp (vC (vA (AG rfl) (SZ rfl) rfl rfl (lB rfl)) vN) rfl rfl rfl rfl rfl rfl rfl rfl rfl ?_ ?_ ?_ rfl | refine Ret_boxp (vC vT (vC vT vN)) rfl rfl rfl rfl rfl rfl rfl rfl rfl ?_ ?_ ?_ rfl | refine Ret_boxp (vC (vA (AG rfl) (SZ rfl) rfl rfl (lB rfl)) (vC vT vN)) rfl rfl rfl rfl rfl rfl rfl rfl rfl ?_ ?_ ?_ rfl)
    · simp only [VRule.g, VTest.gs_eq, VExpr.gs_eq]
    · rfl
    · rfl

set_option maxRecDepth 100000 in
set_option maxHeartbeats 8000000 in
theorem unpack_pc (t : Tr) (hb : gbulk t.g ≤ 40000000) : PC Try.prog 15 [.g t.g] ⟨[], [], []⟩ (.tuple [.g (unCmd t).1.g, .g (.int .i64 (unCmd t).2)]) ⟨[], [], []⟩ := by
  obtain ⟨p0, p1, p2, p3, pb, hp, b3⟩ := parts4 t false
  have h1 := parts_pc 4 (by decide) t false
  rw [hp] at h1
  have h2 := plain_pc p0 pb
  have h3 := plain_pc p1 (plainP p0 pb).2
  have h4 := plain_pc p2 (plainP p1 (plainP p0 pb).2).2
  obtain ⟨q0, q1, q2, qb, hq, c0, c1, c2⟩ := parts3 p3 (plainP p2 (plainP p1 (plainP p0 pb).2).2).2
  have h5 := parts_pc 3 (by decide) p3 (plainP p2 (plainP p1 (plainP p0 pb).2).2).2
  rw [hq] at h5
  have h6 := unpC_pc q0 qb (fun k hk b => uncol_pc k b (by have := c0.bulk k hk; have := b3.self; omega)) (by have := c0.len; have := b3.self; omega)
  have h7 := unpC_pc q1 (listP unC q0 qb).2 (fun k hk b => uncol_pc k b (by have := c1.bulk k hk; have := b3.self; omega)) (by have := c1.len; have := b3.self; omega)
  have h8 := unpR_pc q2 (listP unC q1 (listP unC q0 qb).2).2 (fun k hk b => unrule_pc k b (by have := c2.bulk k hk; have := b3.self; omega)) (by have := c2.len; have := b3.self; omega)
  have hu : unCmd0 t = (.mk (plainP p0 pb).1 (plainP p1 (plainP p0 pb).2).1 t.num (.mk p3.text p3.num (listP unC q0 qb).1 (listP unC q1 (listP unC q0 qb).2).1 (listP unR q2 (listP unC q1 (listP unC q0 qb).2).2).1) t.text (plainP p2 (plainP p1 (plainP p0 pb).2).2).1,
      (listP unR q2 (listP unC q1 (listP unC q0 qb).2).2).2) := by
    unfold unCmd0
    rw [hp]
    simp only [List.getD_cons_zero, List.getD_cons_succ]
    rw [hq]
    simp only [List.getD_cons_zero, List.getD_cons_succ]
  clear hp hq
  generalize plainP p0 pb = x0 at h2 h3 h4 h5 hu
  generalize plainP p1 x0.2 = x1 at h3 h4 h5 hu
  generalize plainP p2 x1.2 = x2 at h4 h5 hu
  generalize listP unC q0 qb = l0 at h6 h7 h8 hu
  generalize listP unC q1 l0.2 = l1 at h7 h8 hu
  generalize listP unR q2 l1.2 = l2 at h8 hu
  obtain ⟨x0, y0⟩ := x0
  obtain ⟨x1, y1⟩ := x1
  obtain ⟨x2, y2⟩ := x2
  obtain ⟨l0, z0⟩ := l0
  obtain ⟨l1, z1⟩ := l1
  obtain ⟨l2, z2⟩ := l2
  clear hb b3 c0 c1 c2
  obtain ⟨tag, n, text, kids⟩ := t
  obtain ⟨p00, p01, p02, p03⟩ := p0
  obtain ⟨p10, p11, p12, p13⟩ := p1
  obtain ⟨p20, p21, p22, p23⟩ := p2
  obtain ⟨p30, p31, p32, p33⟩ := p3
  obtain ⟨q00, q01, q02, q03⟩ := q0
  obtain ⟨q10, q11, q12, q13⟩ := q1
  obtain ⟨q20, q21, q22, q23⟩ := q2
  dsimp only [Tr.num, Tr.text] at h1 h2 h3 h4 h5 h6 h7 h8 hu
  unfold unCmd
  rw [hu]
  clear hu
  cases z2
  all_goals
    refine PC_of_PW Try.func15 rfl rfl (rs := _) rfl (Nat.le_of_ble_eq_true (by kernel_rfl)) ?_
    (repeat (first | ((first | refine qA ?_ | refine qB ?_ | refine xN ?_ | refine xE ?_ | refine xT ?_); try show PW _ _ _ _ _ _) | refine ro1 tabOk rfl rfl ?_ | refine ro2 tabOk rfl rfl ?_ | refine ro3 tabOk rfl rfl ?_ | refine rd1 tabOk rfl rfl ?_ | refine rd2 tabOk rfl rfl ?_ | refine rd3 tabOk rfl rfl ?_ | ((first | apply oR rfl rfl | (apply dF rfl rfl rfl; intro _) | (apply dP rfl rfl rfl; intro _) | (apply dL rfl rfl rfl; intro _) | apply dC rfl rfl rfl rfl); (focus (first | exact cb [] rfl rfl (EN rfl) (h1) rfl rfl rfl rfl rfl rfl rfl rfl rfl rfl rfl | exact cb [] rfl rfl (EN rfl) (h2) rfl rfl rfl rfl rfl rfl rfl rfl rfl rfl rfl | exact cb [] rfl rfl (EN rfl) (h3) rfl rfl rfl rfl rfl rfl rfl rfl rfl rfl rfl | exact cb [] rfl rfl (EN rfl) (h4) rfl rfl rfl rfl rfl rfl rfl rfl rfl rfl rfl | exact cb [] rfl rfl (EN rfl) (h5) rfl rfl rfl rfl rfl rfl rfl rfl rfl rfl rfl | exact cb [] rfl rfl (EN rfl) (h6) rfl rfl rfl rfl rfl rfl rfl rfl rfl rfl rfl | exact cb [] rfl rfl (EN rfl) (h7) rfl rfl rfl rfl rfl rfl rfl rfl rfl rfl rfl | exact cb [] rfl rfl (EN rfl) (h8) rfl rfl rfl rfl rfl rfl rfl rfl rfl rfl rfl | exact iA (g := (Tr.mk p00 p01 p02 p03).g) rfl (EL rfl) (SZ rfl) rfl rfl (by decide) rfl rfl | exact iA (g := (Tr.mk p10 p11 p12 p13).g) rfl (EL rfl) (SZ rfl) rfl rfl (by decide) rfl rfl | exact iA (g := (Tr.mk p20 p21 p22 p23).g) rfl (EL rfl) (SZ rfl) rfl rfl (by decide) rfl rfl | exact iA (g := (Tr.mk p30 p31 p32 p33).g) rfl (EL rfl) (SZ rfl) rfl rfl (by decide) rfl rfl | exact iA (g := (Tr.mk q00 q01 q02 q03).g) rfl (EL rfl) (SZ rfl) rfl rfl (by decide) rfl rfl | exact iA (g := (Tr.mk q10 q11 q12 q13).g) rfl (EL rfl) (SZ rfl) rfl rfl (by decide) rfl rfl | exact iA (g := (Tr.mk q20 q21 q22 q23).g) rfl (EL rfl) (SZ rfl) rfl rfl (by decide) rfl rfl | exact cJ | exact mG | exact bT | exact nD)); try exact kQ) | refine xS ?_ | refine xR ?_ | refine xK false false [0, 1] rfl mixed (by decide +kernel) ?_ | refine xK false true [0, 1] rfl mixed (by decide +kernel) ?_ | refine xK true false [0, 1] rfl mixed (by decide +kernel) ?_ | refine xK true true [0, 1] rfl mixed (by decide +kernel) ?_ | refine xB ?_ | refine xt rfl ?_ | refine xf rfl ?_))
  · refine Ret_two (resVs_cons (resV_agg (AG rfl) (SZ rfl) rfl rfl (Nat.le_of_ble_eq_true rfl)) (resVs_cons resV_tmp resVs_nil)) rfl ?_ rfl
    simp only [VCmd.g, VTable.g, VCol.gs, VRule.gs]
    rfl
  · exact Ret_two (resVs_cons (resV_agg (AG rfl) (SZ rfl) rfl rfl (Nat.le_of_ble_eq_true rfl)) (resVs_cons resV_tmp resVs_nil)) rfl rfl rfl
end Go.Proofs.Ytffpepmfdjjjaaa


namespace Go.Proofs.Ytffpepmfdjjjaaa
open Go.Pure
attribute [local irreducible] PW POps POpsD PO PC Cond

set_option maxRecDepth 100000 in
set_option maxHeartbeats 4000000 in
theorem samev_pc : ∀ (m : Nat) (v : VVal), SizeOf.sizeOf v ≤ m → gbulk v.g ≤ 1000000000 → PC Try.prog 90 [.g v.g, .g v.g] ⟨[], [], []⟩ (.g (.bool true)) ⟨[], [], []⟩
  | 0, v, hm, _ => by cases v; simp at hm
  | m + 1, .mk kind yes coef exp text list, hm, hb => by
    have hbl := bulk_list (v := .mk kind yes coef exp text list) rfl
    have hln := map_len VVal.one list
    have hI := fun (x : VVal) (hx : x ∈ list) => samev_pc m x (by have := List.sizeOf_lt_of_mem hx; simp at hm; omega) (by
      obtain ⟨i, hi, rfl⟩ := List.getElem_of_mem hx
      have := map_bulk (f := VVal.g) hi; omega)
    have hgl : (VVal.gs list).length = list.length := by rw [vgs]; simp
    refine PC_of_PW Try.func90 rfl rfl (rs := _) rfl (Nat.le_of_ble_eq_true (by kernel_rfl)) ?_
    (repeat' (first | (first | ((first | refine qA ?_ | refine qB ?_ | refine xN ?_ | refine xE ?_ | refine xT ?_); try show PW _ _ _ _ _ _) | refine ro1 tabOk rfl rfl ?_ | refine ro2 tabOk rfl rfl ?_ | refine ro3 tabOk rfl rfl ?_ | refine rd1 tabOk rfl rfl ?_ | refine rd2 tabOk rfl rfl ?_ | refine rd3 tabOk rfl rfl ?_ | ((first | apply oR rfl rfl | (apply dF rfl rfl rfl; intro _) | (apply dP rfl rfl rfl; intro _) | (apply dL rfl rfl rfl; intro _) | apply dC rfl rfl rfl rfl); (focus (first | exact cJ | exact mG | exact bT | exact nD)); try exact kQ) | refine xU [3] rfl ?_ | refine xR ?_ | refine qxa rfl rfl mixed ?_ | refine qxb rfl rfl mixed ?_ | refine qxc rfl rfl mixed ?_ | refine qxd rfl rfl mixed ?_ | refine xB ?_ | refine xt rfl ?_ | refine xf rfl ?_) | (refine POps_split rfl rfl (fun h => ?_) (fun h => ?_) <;> fail_if_success (first | (have : true = true := h) | (have : false = false := h))) | (refine POpsD_split rfl rfl (fun h => ?_) (fun h => ?_) <;> fail_if_success (first | (have : true = true := h) | (have : false = false := h))) | refine PW_cond rfl (fun h => ?_) (fun h => ?_)))
    all_goals (try (exfalso; simp at h; done))
    clear h
    (repeat (first | ((first | refine qA ?_ | refine qB ?_ | refine xN ?_ | refine xE ?_ | refine xT ?_); try show PW _ _ _ _ _ _) | refine ro1 tabOk rfl rfl ?_ | refine ro2 tabOk rfl rfl ?_ | refine ro3 tabOk rfl rfl ?_ | refine rd1 tabOk rfl rfl ?_ | refine rd2 tabOk rfl rfl ?_ | refine rd3 tabOk rfl rfl ?_ | ((first | apply oR rfl rfl | (apply dF rfl rfl rfl; intro _) | (apply dP rfl rfl rfl; intro _) | (apply dL rfl rfl rfl; intro _) | apply dC rfl rfl rfl rfl); (focus (first | exact cJ | exact mG | exact bT | exact nD)); try exact kQ) | refine xS ?_ | refine xR ?_ | refine qxa rfl rfl mixed ?_ | refine qxb rfl rfl mixed ?_ | refine qxc rfl rfl mixed ?_ | refine qxd rfl rfl mixed ?_ | refine xB ?_ | refine xt rfl ?_ | refine xf rfl ?_))
    refine PW_loop_cut (S := Nat) (fun i => [(2, .ptr 0 0), (3, .ptr 1 0), (43, .g (.int .i64 list.length)), (44, .g (.int .i64 i))])
      (fun _ => ⟨[(VVal.mk kind yes coef exp text list).g.cells.map PV.g, (VVal.mk kind yes coef exp text list).g.cells.map PV.g], [], []⟩) (fun i => i ≤ list.length) (fun i => list.length - i) 0 (Nat.zero_le _)
      (SlotsOk.le ⟨.inl rfl, .inl rfl, .inl (congrArg (fun k : Nat => PV.g (.int .i64 k)) hgl), .inl rfl, trivial⟩) (HLe.of_eq rfl) (fun _ => rfl) (fun i hi => ?_)
    (repeat (first | ((first | refine qA ?_ | refine qB ?_ | refine xN ?_ | refine xE ?_ | refine xT ?_); try show PW _ _ _ _ _ _) | refine ro1 tabOk rfl rfl ?_ | refine ro2 tabOk rfl rfl ?_ | refine ro3 tabOk rfl rfl ?_ | refine rd1 tabOk rfl rfl ?_ | refine rd2 tabOk rfl rfl ?_ | refine rd3 tabOk rfl rfl ?_ | ((first | apply oR rfl rfl | (apply dF rfl rfl rfl; intro _) | (apply dP rfl rfl rfl; intro _) | (apply dL rfl rfl rfl; intro _) | apply dC rfl rfl rfl rfl); (focus (first | exact cJ | exact mG | exact bT | exact nD)); try exact kQ) | refine xS ?_ | refine xR ?_ | refine qxa rfl rfl mixed ?_ | refine qxb rfl rfl mixed ?_ | refine qxc rfl rfl mixed ?_ | refine qxd rfl rfl mixed ?_ | refine xB ?_ | refine xt rfl ?_ | refine xf rfl ?_))
    (first | refine POps_split rfl rfl (fun h => ?_) (fun h => ?_) | refine POpsD_split rfl rfl (fun h => ?_) (fun h => ?_) | refine PW_cond rfl (fun h => ?_) (fun h => ?_))
    · have hlt : i < list.length := by have := of_decide_eq_true h; omega
      have hg : (VVal.gs list)[((i : Int)).toNat]? = some list[i].g := by rw [vgs]; exact map_get hlt
      have hC := hI list[i] (List.getElem_mem hlt)
      generalize list[i] = x at hg hC
      obtain ⟨xk, xy, xc, xe, xs, xl⟩ := x
      (repeat (first | ((first | refine qA ?_ | refine qB ?_ | refine xN ?_ | refine xE ?_ | refine xT ?_); try show PW _ _ _ _ _ _) | refine ro1 tabOk rfl rfl ?_ | refine ro2 tabOk rfl rfl ?_ | refine ro3 tabOk rfl rfl ?_ | refine rd1 tabOk rfl rfl ?_ | refine rd2 tabOk rfl rfl ?_ | refine rd3 tabOk rfl rfl ?_ | ((first | apply oR rfl rfl | (apply dF rfl rfl rfl; intro _) | (apply dP rfl rfl rfl; intro _) | (apply dL rfl rfl rfl; intro _) | apply dC rfl rfl rfl rfl); (focus (first | exact cqP hC | exact iA rfl (EL rfl) (SZ rfl) rfl rfl (Int.natCast_nonneg _) hg rfl | exact cJ | exact mG | exact bT | exact nD)); try exact kQ) | refine xS ?_ | refine xR ?_ | refine xK false false [0, 1] rfl mixed (by decide +kernel) ?_ | refine xK false true [0, 1] rfl mixed (by decide +kernel) ?_ | refine xK true false [0, 1] rfl mixed (by decide +kernel) ?_ | refine xK true true [0, 1] rfl mixed (by decide +kernel) ?_ | refine xB ?_ | refine xt rfl ?_ | refine xf rfl ?_))
      refine ⟨i + 1, hlt, by omega, SlotsOk.le ⟨.inl rfl, .inl rfl, .inl rfl, .inl (congrArg (fun x => PV.g (.int .i64 x)) (wrap64 (by omega))), trivial⟩, Drops.mk [] [] [] rfl⟩
    · (repeat (first | ((first | refine qA ?_ | refine qB ?_ | refine xN ?_ | refine xE ?_ | refine xT ?_); try show PW _ _ _ _ _ _) | refine ro1 tabOk rfl rfl ?_ | refine ro2 tabOk rfl rfl ?_ | refine ro3 tabOk rfl rfl ?_ | refine rd1 tabOk rfl rfl ?_ | refine rd2 tabOk rfl rfl ?_ | refine rd3 tabOk rfl rfl ?_ | ((first | apply oR rfl rfl | (apply dF rfl rfl rfl; intro _) | (apply dP rfl rfl rfl; intro _) | (apply dL rfl rfl rfl; intro _) | apply dC rfl rfl rfl rfl); (focus (first | exact cJ | exact mG | exact bT | exact nD)); try exact kQ) | refine xS ?_ | refine xR ?_ | refine qxa rfl rfl mixed ?_ | refine qxb rfl rfl mixed ?_ | refine qxc rfl rfl mixed ?_ | refine qxd rfl rfl mixed ?_ | refine xB ?_ | refine xt rfl ?_ | refine xf rfl ?_))
      (first | refine Ret_int (vC vT vN) rfl ?_ | refine Ret_bool (vC vT vN) rfl ?_ | refine Ret_g (vC vT vN) rfl ?_ | refine Ret_int (vC (vA (AG rfl) (SZ rfl) rfl rfl (lB rfl)) vN) rfl ?_ | refine Ret_bool (vC (vA (AG rfl) (SZ rfl) rfl rfl (lB rfl)) vN) rfl ?_ | refine Ret_g (vC (vA (AG rfl) (SZ rfl) rfl rfl (lB rfl)) vN) rfl ?_)
      rfl

set_option maxRecDepth 100000 in
set_option maxHeartbeats 4000000 in
theorem sameall_pc (list : List VVal) (hb : gbulks (list.map VVal.g) ≤ 1000000000) : PC Try.prog 89 [.g (.sl (VVal.gs list)), .g (.sl (VVal.gs list))] ⟨[], [], []⟩ (.g (.bool true)) ⟨[], [], []⟩ := by
  have hln := map_len VVal.one list
  have hgl : (VVal.gs list).length = list.length := by rw [vgs]; simp
  refine PC_of_PW Try.func89 rfl rfl (rs := _) rfl (Nat.le_of_ble_eq_true (by kernel_rfl)) ?_
  (repeat' (first | (first | ((first | refine qA ?_ | refine qB ?_ | refine xN ?_ | refine xE ?_ | refine xT ?_); try show PW _ _ _ _ _ _) | refine ro1 tabOk rfl rfl ?_ | refine ro2 tabOk rfl rfl ?_ | refine ro3 tabOk rfl rfl ?_ | refine rd1 tabOk rfl rfl ?_ | refine rd2 tabOk rfl rfl ?_ | refine rd3 tabOk rfl rfl ?_ | ((first | apply oR rfl rfl | (apply dF rfl rfl rfl; intro _) | (apply dP rfl rfl rfl; intro _) | (apply dL rfl rfl rfl; intro _) | apply dC rfl rfl rfl rfl); (focus (first | exact cJ | exact mG | exact bT | exact nD)); try exact kQ) | refine xU [3] rfl ?_ | refine xR ?_ | refine qxa rfl rfl mixed ?_ | refine qxb rfl rfl mixed ?_ | refine qxc rfl rfl mixed ?_ | refine qxd rfl rfl mixed ?_ | refine xB ?_ | refine xt rfl ?_ | refine xf rfl ?_) | (refine POps_split rfl rfl (fun h => ?_) (fun h => ?_) <;> fail_if_success (first | (have : true = true := h) | (have : false = false := h))) | (refine POpsD_split rfl rfl (fun h => ?_) (fun h => ?_) <;> fail_if_success (first | (have : true = true := h) | (have : false = false := h))) | refine PW_cond rfl (fun h => ?_) (fun h => ?_)))
  all_goals (try (exfalso; simp at h; done))
  clear h
  (repeat (first | ((first | refine qA ?_ | refine qB ?_ | refine xN ?_ | refine xE ?_ | refine xT ?_); try show PW _ _ _ _ _ _) | refine ro1 tabOk rfl rfl ?_ | refine ro2 tabOk rfl rfl ?_ | refine ro3 tabOk rfl rfl ?_ | refine rd1 tabOk rfl rfl ?_ | refine rd2 tabOk rfl rfl ?_ | refine rd3 tabOk rfl rfl ?_ | ((first | apply oR rfl rfl | (apply dF rfl rfl rfl; intro _) | (apply dP rfl rfl rfl; intro _) | (apply dL rfl rfl rfl; intro _) | apply dC rfl rfl rfl rfl); (focus (first | exact cJ | exact mG | exact bT | exact nD)); try exact kQ) | refine xS ?_ | refine xR ?_ | refine qxa rfl rfl mixed ?_ | refine qxb rfl rfl mixed ?_ | refine qxc rfl rfl mixed ?_ | refine qxd rfl rfl mixed ?_ | refine xB ?_ | refine xt rfl ?_ | refine xf rfl ?_))
  refine PW_loop (S := Nat) (fun i => slots [(0, .g (.sl (VVal.gs list))), (1, .g (.sl (VVal.gs list))), (12, .g (.int .i64 list.length)), (13, .g (.int .i64 i))])
    (fun _ => ⟨[], [], []⟩) (fun i => i ≤ list.length) (fun i => list.length - i) 0 (Nat.zero_le _)
    (SlotsOk.le ⟨.inl rfl, .inl rfl, .inl (congrArg (fun k : Nat => PV.g (.int .i64 k)) hgl), .inl rfl, trivial⟩) (HLe.of_eq rfl) (fun i hi => ?_)
  (repeat (first | ((first | refine qA ?_ | refine qB ?_ | refine xN ?_ | refine xE ?_ | refine xT ?_); try show PW _ _ _ _ _ _) | refine ro1 tabOk rfl rfl ?_ | refine ro2 tabOk rfl rfl ?_ | refine ro3 tabOk rfl rfl ?_ | refine rd1 tabOk rfl rfl ?_ | refine rd2 tabOk rfl rfl ?_ | refine rd3 tabOk rfl rfl ?_ | ((first | apply oR rfl rfl | (apply dF rfl rfl rfl; intro _) | (apply dP rfl rfl rfl; intro _) | (apply dL rfl rfl rfl; intro _) | apply dC rfl rfl rfl rfl); (focus (first | exact cJ | exact mG | exact bT | exact nD)); try exact kQ) | refine xS ?_ | refine xR ?_ | refine qxa rfl rfl mixed ?_ | refine qxb rfl rfl mixed ?_ | refine qxc rfl rfl mixed ?_ | refine qxd rfl rfl mixed ?_ | refine xB ?_ | refine xt rfl ?_ | refine xf rfl ?_))
  (first | refine POps_split rfl rfl (fun h => ?_) (fun h => ?_) | refine POpsD_split rfl rfl (fun h => ?_) (fun h => ?_) | refine PW_cond rfl (fun h => ?_) (fun h => ?_))
  · have hlt : i < list.length := by have := of_decide_eq_true h; omega
    have hg : (VVal.gs list)[((i : Int)).toNat]? = some list[i].g := by rw [vgs]; exact map_get hlt
    have hC := samev_pc _ list[i] (Nat.le_refl _) (by have := map_bulk (f := VVal.g) hlt; omega)
    generalize list[i] = x at hg hC
    obtain ⟨xk, xy, xc, xe, xs, xl⟩ := x
    (repeat (first | ((first | refine qA ?_ | refine qB ?_ | refine xN ?_ | refine xE ?_ | refine xT ?_); try show PW _ _ _ _ _ _) | refine ro1 tabOk rfl rfl ?_ | refine ro2 tabOk rfl rfl ?_ | refine ro3 tabOk rfl rfl ?_ | refine rd1 tabOk rfl rfl ?_ | refine rd2 tabOk rfl rfl ?_ | refine rd3 tabOk rfl rfl ?_ | ((first | apply oR rfl rfl | (apply dF rfl rfl rfl; intro _) | (apply dP rfl rfl rfl; intro _) | (apply dL rfl rfl rfl; intro _) | apply dC rfl rfl rfl rfl); (focus (first | exact cqP hC | exact iA rfl (EL rfl) (SZ rfl) rfl rfl (Int.natCast_nonneg _) hg rfl | exact cJ | exact mG | exact bT | exact nD)); try exact kQ) | refine xS ?_ | refine xR ?_ | refine qxa rfl rfl mixed ?_ | refine qxb rfl rfl mixed ?_ | refine qxc rfl rfl mixed ?_ | refine qxd rfl rfl mixed ?_ | refine xB ?_ | refine xt rfl ?_ | refine xf rfl ?_))
    refine ⟨i + 1, hlt, by omega, SlotsOk.le ⟨.inl rfl, .inl rfl, .inl rfl, .inl (congrArg (fun x => PV.g (.int .i64 x)) (wrap64 (by omega))), trivial⟩, HLe.refl _⟩
  · (repeat (first | ((first | refine qA ?_ | refine qB ?_ | refine xN ?_ | refine xE ?_ | refine xT ?_); try show PW _ _ _ _ _ _) | refine ro1 tabOk rfl rfl ?_ | refine ro2 tabOk rfl rfl ?_ | refine ro3 tabOk rfl rfl ?_ | refine rd1 tabOk rfl rfl ?_ | refine rd2 tabOk rfl rfl ?_ | refine rd3 tabOk rfl rfl ?_ | ((first | apply oR rfl rfl | (apply dF rfl rfl rfl; intro _) | (apply dP rfl rfl rfl; intro _) | (apply dL rfl rfl rfl; intro _) | apply dC rfl rfl rfl rfl); (focus (first | exact cJ | exact mG | exact bT | exact nD)); try exact kQ) | refine xS ?_ | refine xR ?_ | refine qxa rfl rfl mixed ?_ | refine qxb rfl rfl mixed ?_ | refine qxc rfl rfl mixed ?_ | refine qxd rfl rfl mixed ?_ | refine xB ?_ | refine xt rfl ?_ | refine xf rfl ?_))
    (first | refine Ret_int (vC vT vN) rfl ?_ | refine Ret_bool (vC vT vN) rfl ?_ | refine Ret_g (vC vT vN) rfl ?_ | refine Ret_int (vC (vA (AG rfl) (SZ rfl) rfl rfl (lB rfl)) vN) rfl ?_ | refine Ret_bool (vC (vA (AG rfl) (SZ rfl) rfl rfl (lB rfl)) vN) rfl ?_ | refine Ret_g (vC (vA (AG rfl) (SZ rfl) rfl rfl (lB rfl)) vN) rfl ?_)
    rfl

set_option maxRecDepth 100000 in
set_option maxHeartbeats 4000000 in
theorem samee_pc : ∀ (m : Nat) (v : VExpr), SizeOf.sizeOf v ≤ m → gbulk v.g ≤ 1000000000 → PC Try.prog 76 [.g v.g, .g v.g] ⟨[], [], []⟩ (.g (.bool true)) ⟨[], [], []⟩
  | 0, v, hm, _ => by cases v; simp at hm
  | m + 1, .mk kind val name kids, hm, hb => by
    have hbl := ebulk (kind := kind) (val := val) (name := name) (kids := kids)
    have hln := map_len VExpr.one kids
    have hI := fun (x : VExpr) (hx : x ∈ kids) => samee_pc m x (by have := List.sizeOf_lt_of_mem hx; simp at hm; omega) (by
      obtain ⟨i, hi, rfl⟩ := List.getElem_of_mem hx
      have := map_bulk (f := VExpr.g) hi; omega)
    have hV := samev_pc _ val (Nat.le_refl _) (by omega)
    have hgl : (VExpr.gs kids).length = kids.length := by rw [VExpr.gs_eq]; simp
    obtain ⟨vk, vy, vc, ve, vs, vl⟩ := val
    refine PC_of_PW Try.func76 rfl rfl (rs := _) rfl (Nat.le_of_ble_eq_true (by kernel_rfl)) ?_
    (repeat' (first | (first | ((first | refine qA ?_ | refine qB ?_ | refine xN ?_ | refine xE ?_ | refine xT ?_); try show PW _ _ _ _ _ _) | refine ro1 tabOk rfl rfl ?_ | refine ro2 tabOk rfl rfl ?_ | refine ro3 tabOk rfl rfl ?_ | refine rd1 tabOk rfl rfl ?_ | refine rd2 tabOk rfl rfl ?_ | refine rd3 tabOk rfl rfl ?_ | ((first | apply oR rfl rfl | (apply dF rfl rfl rfl; intro _) | (apply dP rfl rfl rfl; intro _) | (apply dL rfl rfl rfl; intro _) | apply dC rfl rfl rfl rfl); (focus (first | exact cqP hV | exact cJ | exact mG | exact bT | exact nD)); try exact kQ) | refine xU [3] rfl ?_ | refine xR ?_ | refine qxa rfl rfl mixed ?_ | refine qxb rfl rfl mixed ?_ | refine qxc rfl rfl mixed ?_ | refine qxd rfl rfl mixed ?_ | refine xB ?_ | refine xt rfl ?_ | refine xf rfl ?_) | (refine POps_split rfl rfl (fun h => ?_) (fun h => ?_) <;> fail_if_success (first | (have : true = true := h) | (have : false = false := h))) | (refine POpsD_split rfl rfl (fun h => ?_) (fun h => ?_) <;> fail_if_success (first | (have : true = true := h) | (have : false = false := h))) | refine PW_cond rfl (fun h => ?_) (fun h => ?_)))
    all_goals (try (exfalso; simp at h; done))
    clear h
    (repeat (first | ((first | refine qA ?_ | refine qB ?_ | refine xN ?_ | refine xE ?_ | refine xT ?_); try show PW _ _ _ _ _ _) | refine ro1 tabOk rfl rfl ?_ | refine ro2 tabOk rfl rfl ?_ | refine ro3 tabOk rfl rfl ?_ | refine rd1 tabOk rfl rfl ?_ | refine rd2 tabOk rfl rfl ?_ | refine rd3 tabOk rfl rfl ?_ | ((first | apply oR rfl rfl | (apply dF rfl rfl rfl; intro _) | (apply dP rfl rfl rfl; intro _) | (apply dL rfl rfl rfl; intro _) | apply dC rfl rfl rfl rfl); (focus (first | exact cJ | exact mG | exact bT | exact nD)); try exact kQ) | refine xS ?_ | refine xR ?_ | refine qxa rfl rfl mixed ?_ | refine qxb rfl rfl mixed ?_ | refine qxc rfl rfl mixed ?_ | refine qxd rfl rfl mixed ?_ | refine xB ?_ | refine xt rfl ?_ | refine xf rfl ?_))
    refine PW_loop_cut (S := Nat) (fun i => [(2, .ptr 0 0), (3, .ptr 1 0), (37, .g (.int .i64 kids.length)), (38, .g (.int .i64 i))])
      (fun _ => ⟨[(VExpr.mk kind (.mk vk vy vc ve vs vl) name kids).g.cells.map PV.g, (VExpr.mk kind (.mk vk vy vc ve vs vl) name kids).g.cells.map PV.g], [], []⟩) (fun i => i ≤ kids.length) (fun i => kids.length - i) 0 (Nat.zero_le _)
      (SlotsOk.le ⟨.inl rfl, .inl rfl, .inl (congrArg (fun k : Nat => PV.g (.int .i64 k)) hgl), .inl rfl, trivial⟩) (HLe.of_eq rfl) (fun _ => rfl) (fun i hi => ?_)
    (repeat (first | ((first | refine qA ?_ | refine qB ?_ | refine xN ?_ | refine xE ?_ | refine xT ?_); try show PW _ _ _ _ _ _) | refine ro1 tabOk rfl rfl ?_ | refine ro2 tabOk rfl rfl ?_ | refine ro3 tabOk rfl rfl ?_ | refine rd1 tabOk rfl rfl ?_ | refine rd2 tabOk rfl rfl ?_ | refine rd3 tabOk rfl rfl ?_ | ((first | apply oR rfl rfl | (apply dF rfl rfl rfl; intro _) | (apply dP rfl rfl rfl; intro _) | (apply dL rfl rfl rfl; intro _) | apply dC rfl rfl rfl rfl); (focus (first | exact cJ | exact mG | exact bT | exact nD)); try exact kQ) | refine xS ?_ | refine xR ?_ | refine qxa rfl rfl mixed ?_ | refine qxb rfl rfl mixed ?_ | refine qxc rfl rfl mixed ?_ | refine qxd rfl rfl mixed ?_ | refine xB ?_ | refine xt rfl ?_ | refine xf rfl ?_))
    (first | refine POps_split rfl rfl (fun h => ?_) (fun h => ?_) | refine POpsD_split rfl rfl (fun h => ?_) (fun h => ?_) | refine PW_cond rfl (fun h => ?_) (fun h => ?_))
    · have hlt : i < kids.length := by have := of_decide_eq_true h; omega
      have hg : (VExpr.gs kids)[((i : Int)).toNat]? = some kids[i].g := by rw [VExpr.gs_eq]; exact map_get hlt
      have hC := hI kids[i] (List.getElem_mem hlt)
      generalize kids[i] = x at hg hC
      obtain ⟨xk, ⟨ak, ay, ac, ae, as_, al⟩, xn, xl⟩ := x
      (repeat (first | ((first | refine qA ?_ | refine qB ?_ | refine xN ?_ | refine xE ?_ | refine xT ?_); try show PW _ _ _ _ _ _) | refine ro1 tabOk rfl rfl ?_ | refine ro2 tabOk rfl rfl ?_ | refine ro3 tabOk rfl rfl ?_ | refine rd1 tabOk rfl rfl ?_ | refine rd2 tabOk rfl rfl ?_ | refine rd3 tabOk rfl rfl ?_ | ((first | apply oR rfl rfl | (apply dF rfl rfl rfl; intro _) | (apply dP rfl rfl rfl; intro _) | (apply dL rfl rfl rfl; intro _) | apply dC rfl rfl rfl rfl); (focus (first | exact cqP hC | exact iA rfl (EL rfl) (SZ rfl) rfl rfl (Int.natCast_nonneg _) hg rfl | exact cJ | exact mG | exact bT | exact nD)); try exact kQ) | refine xS ?_ | refine xR ?_ | refine xK false false [0, 1] rfl mixed (by decide +kernel) ?_ | refine xK false true [0, 1] rfl mixed (by decide +kernel) ?_ | refine xK true false [0, 1] rfl mixed (by decide +kernel) ?_ | refine xK true true [0, 1] rfl mixed (by decide +kernel) ?_ | refine xB ?_ | refine xt rfl ?_ | refine xf rfl ?_))
      refine ⟨i + 1, hlt, by omega, SlotsOk.le ⟨.inl rfl, .inl rfl, .inl rfl, .inl (congrArg (fun x => PV.g (.int .i64 x)) (wrap64 (by omega))), trivial⟩, Drops.mk [] [] [] rfl⟩
    · (repeat (first | ((first | refine qA ?_ | refine qB ?_ | refine xN ?_ | refine xE ?_ | refine xT ?_); try show PW _ _ _ _ _ _) | refine ro1 tabOk rfl rfl ?_ | refine ro2 tabOk rfl rfl ?_ | refine ro3 tabOk rfl rfl ?_ | refine rd1 tabOk rfl rfl ?_ | refine rd2 tabOk rfl rfl ?_ | refine rd3 tabOk rfl rfl ?_ | ((first | apply oR rfl rfl | (apply dF rfl rfl rfl; intro _) | (apply dP rfl rfl rfl; intro _) | (apply dL rfl rfl rfl; intro _) | apply dC rfl rfl rfl rfl); (focus (first | exact cJ | exact mG | exact bT | exact nD)); try exact kQ) | refine xS ?_ | refine xR ?_ | refine qxa rfl rfl mixed ?_ | refine qxb rfl rfl mixed ?_ | refine qxc rfl rfl mixed ?_ | refine qxd rfl rfl mixed ?_ | refine xB ?_ | refine xt rfl ?_ | refine xf rfl ?_))
      (first | refine Ret_int (vC vT vN) rfl ?_ | refine Ret_bool (vC vT vN) rfl ?_ | refine Ret_g (vC vT vN) rfl ?_ | refine Ret_int (vC (vA (AG rfl) (SZ rfl) rfl rfl (lB rfl)) vN) rfl ?_ | refine Ret_bool (vC (vA (AG rfl) (SZ rfl) rfl rfl (lB rfl)) vN) rfl ?_ | refine Ret_g (vC (vA (AG rfl) (SZ rfl) rfl rfl (lB rfl)) vN) rfl ?_)
      rfl

set_option maxRecDepth 100000 in
set_option maxHeartbeats 4000000 in
theorem samet_pc : ∀ (m : Nat) (v : VTest), SizeOf.sizeOf v ≤ m → gbulk v.g ≤ 1000000000 → PC Try.prog 75 [.g v.g, .g v.g] ⟨[], [], []⟩ (.g (.bool true)) ⟨[], [], []⟩
  | 0, v, hm, _ => by cases v; simp at hm
  | m + 1, .mk kind a b oa ob kids, hm, hb => by
    have hbl := tbulk (kind := kind) (a := a) (b := b) (oa := oa) (ob := ob) (kids := kids)
    have hln := map_len VTest.one kids
    have hI := fun (x : VTest) (hx : x ∈ kids) => samet_pc m x (by have := List.sizeOf_lt_of_mem hx; simp at hm; omega) (by
      obtain ⟨i, hi, rfl⟩ := List.getElem_of_mem hx
      have := map_bulk (f := VTest.g) hi; omega)
    have hA := samev_pc _ a (Nat.le_refl _) (by omega)
    have hB := samev_pc _ b (Nat.le_refl _) (by omega)
    have hgl : (VTest.gs kids).length = kids.length := by rw [VTest.gs_eq]; simp
    obtain ⟨vk, vy, vc, ve, vs, vl⟩ := a
    obtain ⟨uk, uy, uc, ue, us, ul⟩ := b
    refine PC_of_PW Try.func75 rfl rfl (rs := _) rfl (Nat.le_of_ble_eq_true (by kernel_rfl)) ?_
    (repeat' (first | (first | ((first | refine qA ?_ | refine qB ?_ | refine xN ?_ | refine xE ?_ | refine xT ?_); try show PW _ _ _ _ _ _) | refine ro1 tabOk rfl rfl ?_ | refine ro2 tabOk rfl rfl ?_ | refine ro3 tabOk rfl rfl ?_ | refine rd1 tabOk rfl rfl ?_ | refine rd2 tabOk rfl rfl ?_ | refine rd3 tabOk rfl rfl ?_ | ((first | apply oR rfl rfl | (apply dF rfl rfl rfl; intro _) | (apply dP rfl rfl rfl; intro _) | (apply dL rfl rfl rfl; intro _) | apply dC rfl rfl rfl rfl); (focus (first | exact cqP hA | exact cqP hB | exact cJ | exact mG | exact bT | exact nD)); try exact kQ) | refine xU [3] rfl ?_ | refine xR ?_ | refine qxa rfl rfl mixed ?_ | refine qxb rfl rfl mixed ?_ | refine qxc rfl rfl mixed ?_ | refine qxd rfl rfl mixed ?_ | refine xB ?_ | refine xt rfl ?_ | refine xf rfl ?_) | (refine POps_split rfl rfl (fun h => ?_) (fun h => ?_) <;> fail_if_success (first | (have : true = true := h) | (have : false = false := h))) | (refine POpsD_split rfl rfl (fun h => ?_) (fun h => ?_) <;> fail_if_success (first | (have : true = true := h) | (have : false = false := h))) | refine PW_cond rfl (fun h => ?_) (fun h => ?_)))
    all_goals (try (exfalso; simp at h; done))
    clear h
    (repeat (first | ((first | refine qA ?_ | refine qB ?_ | refine xN ?_ | refine xE ?_ | refine xT ?_); try show PW _ _ _ _ _ _) | refine ro1 tabOk rfl rfl ?_ | refine ro2 tabOk rfl rfl ?_ | refine ro3 tabOk rfl rfl ?_ | refine rd1 tabOk rfl rfl ?_ | refine rd2 tabOk rfl rfl ?_ | refine rd3 tabOk rfl rfl ?_ | ((first | apply oR rfl rfl | (apply dF rfl rfl rfl; intro _) | (apply dP rfl rfl rfl; intro _) | (apply dL rfl rfl rfl; intro _) | apply dC rfl rfl rfl rfl); (focus (first | exact cJ | exact mG | exact bT | exact nD)); try exact kQ) | refine xS ?_ | refine xR ?_ | refine qxa rfl rfl mixed ?_ | refine qxb rfl rfl mixed ?_ | refine qxc rfl rfl mixed ?_ | refine qxd rfl rfl mixed ?_ | refine xB ?_ | refine xt rfl ?_ | refine xf rfl ?_))
    refine PW_loop_cut (S := Nat) (fun i => [(2, .ptr 0 0), (3, .ptr 1 0), (52, .g (.int .i64 kids.length)), (53, .g (.int .i64 i))])
      (fun _ => ⟨[(VTest.mk kind (.mk vk vy vc ve vs vl) (.mk uk uy uc ue us ul) oa ob kids).g.cells.map PV.g, (VTest.mk kind (.mk vk vy vc ve vs vl) (.mk uk uy uc ue us ul) oa ob kids).g.cells.map PV.g], [], []⟩) (fun i => i ≤ kids.length) (fun i => kids.length - i) 0 (Nat.zero_le _)
      (SlotsOk.le ⟨.inl rfl, .inl rfl, .inl (congrArg (fun k : Nat => PV.g (.int .i64 k)) hgl), .inl rfl, trivial⟩) (HLe.of_eq rfl) (fun _ => rfl) (fun i hi => ?_)
    (repeat (first | ((first | refine qA ?_ | refine qB ?_ | refine xN ?_ | refine xE ?_ | refine xT ?_); try show PW _ _ _ _ _ _) | refine ro1 tabOk rfl rfl ?_ | refine ro2 tabOk rfl rfl ?_ | refine ro3 tabOk rfl rfl ?_ | refine rd1 tabOk rfl rfl ?_ | refine rd2 tabOk rfl rfl ?_ | refine rd3 tabOk rfl rfl ?_ | ((first | apply oR rfl rfl | (apply dF rfl rfl rfl; intro _) | (apply dP rfl rfl rfl; intro _) | (apply dL rfl rfl rfl; intro _) | apply dC rfl rfl rfl rfl); (focus (first | exact cJ | exact mG | exact bT | exact nD)); try exact kQ) | refine xS ?_ | refine xR ?_ | refine qxa rfl rfl mixed ?_ | refine qxb rfl rfl mixed ?_ | refine qxc rfl rfl mixed ?_ | refine qxd rfl rfl mixed ?_ | refine xB ?_ | refine xt rfl ?_ | refine xf rfl ?_))
    (first | refine POps_split rfl rfl (fun h => ?_) (fun h => ?_) | refine POpsD_split rfl rfl (fun h => ?_) (fun h => ?_) | refine PW_cond rfl (fun h => ?_) (fun h => ?_))
    · have hlt : i < kids.length := by have := of_decide_eq_true h; omega
      have hg : (VTest.gs kids)[((i : Int)).toNat]? = some kids[i].g := by rw [VTest.gs_eq]; exact map_get hlt
      have hC := hI kids[i] (List.getElem_mem hlt)
      generalize kids[i] = x at hg hC
      obtain ⟨xk, ⟨ak, ay, ac, ae, as_, al⟩, ⟨bk, by_, bc, be, bs, bl⟩, xoa, xob, xl⟩ := x
      (repeat (first | ((first | refine qA ?_ | refine qB ?_ | refine xN ?_ | refine xE ?_ | refine xT ?_); try show PW _ _ _ _ _ _) | refine ro1 tabOk rfl rfl ?_ | refine ro2 tabOk rfl rfl ?_ | refine ro3 tabOk rfl rfl ?_ | refine rd1 tabOk rfl rfl ?_ | refine rd2 tabOk rfl rfl ?_ | refine rd3 tabOk rfl rfl ?_ | ((first | apply oR rfl rfl | (apply dF rfl rfl rfl; intro _) | (apply dP rfl rfl rfl; intro _) | (apply dL rfl rfl rfl; intro _) | apply dC rfl rfl rfl rfl); (focus (first | exact cqP hC | exact iA rfl (EL rfl) (SZ rfl) rfl rfl (Int.natCast_nonneg _) hg rfl | exact cJ | exact mG | exact bT | exact nD)); try exact kQ) | refine xS ?_ | refine xR ?_ | refine xK false false [0, 1] rfl mixed (by decide +kernel) ?_ | refine xK false true [0, 1] rfl mixed (by decide +kernel) ?_ | refine xK true false [0, 1] rfl mixed (by decide +kernel) ?_ | refine xK true true [0, 1] rfl mixed (by decide +kernel) ?_ | refine xB ?_ | refine xt rfl ?_ | refine xf rfl ?_))
      refine ⟨i + 1, hlt, by omega, SlotsOk.le ⟨.inl rfl, .inl rfl, .inl rfl, .inl (congrArg (fun x => PV.g (.int .i64 x)) (wrap64 (by omega))), trivial⟩, Drops.mk [] [] [] rfl⟩
    · (repeat (first | ((first | refine qA ?_ | refine qB ?_ | refine xN ?_ | refine xE ?_ | refine xT ?_); try show PW _ _ _ _ _ _) | refine ro1 tabOk rfl rfl ?_ | refine ro2 tabOk rfl rfl ?_ | refine ro3 tabOk rfl rfl ?_ | refine rd1 tabOk rfl rfl ?_ | refine rd2 tabOk rfl rfl ?_ | refine rd3 tabOk rfl rfl ?_ | ((first | apply oR rfl rfl | (apply dF rfl rfl rfl; intro _) | (apply dP rfl rfl rfl; intro _) | (apply dL rfl rfl rfl; intro _) | apply dC rfl rfl rfl rfl); (focus (first | exact cJ | exact mG | exact bT | exact nD)); try exact kQ) | refine xS ?_ | refine xR ?_ | refine qxa rfl rfl mixed ?_ | refine qxb rfl rfl mixed ?_ | refine qxc rfl rfl mixed ?_ | refine qxd rfl rfl mixed ?_ | refine xB ?_ | refine xt rfl ?_ | refine xf rfl ?_))
      (first | refine Ret_int (vC vT vN) rfl ?_ | refine Ret_bool (vC vT vN) rfl ?_ | refine Ret_g (vC vT vN) rfl ?_ | refine Ret_int (vC (vA (AG rfl) (SZ rfl) rfl rfl (lB rfl)) vN) rfl ?_ | refine Ret_bool (vC (vA (AG rfl) (SZ rfl) rfl rfl (lB rfl)) vN) rfl ?_ | refine Ret_g (vC (vA (AG rfl) (SZ rfl) rfl rfl (lB rfl)) vN) rfl ?_)
      rfl

set_option maxRecDepth 100000 in
set_option maxHeartbeats 4000000 in
theorem samecols_pc (list : List VCol) (hb : gbulks (list.map VCol.g) ≤ 1000000000) : PC Try.prog 74 [.g (.sl (VCol.gs list)), .g (.sl (VCol.gs list))] ⟨[], [], []⟩ (.g (.bool true)) ⟨[], [], []⟩ := by
  have hln := map_len VCol.one list
  have hgl : (VCol.gs list).length = list.length := by simp [VCol.gs]
  refine PC_of_PW Try.func74 rfl rfl (rs := _) rfl (Nat.le_of_ble_eq_true (by kernel_rfl)) ?_
  (repeat' (first | (first | ((first | refine qA ?_ | refine qB ?_ | refine xN ?_ | refine xE ?_ | refine xT ?_); try show PW _ _ _ _ _ _) | refine ro1 tabOk rfl rfl ?_ | refine ro2 tabOk rfl rfl ?_ | refine ro3 tabOk rfl rfl ?_ | refine rd1 tabOk rfl rfl ?_ | refine rd2 tabOk rfl rfl ?_ | refine rd3 tabOk rfl rfl ?_ | ((first | apply oR rfl rfl | (apply dF rfl rfl rfl; intro _) | (apply dP rfl rfl rfl; intro _) | (apply dL rfl rfl rfl; intro _) | apply dC rfl rfl rfl rfl); (focus (first | exact cJ | exact mG | exact bT | exact nD)); try exact kQ) | refine xU [3] rfl ?_ | refine xR ?_ | refine qxa rfl rfl mixed ?_ | refine qxb rfl rfl mixed ?_ | refine qxc rfl rfl mixed ?_ | refine qxd rfl rfl mixed ?_ | refine xB ?_ | refine xt rfl ?_ | refine xf rfl ?_) | (refine POps_split rfl rfl (fun h => ?_) (fun h => ?_) <;> fail_if_success (first | (have : true = true := h) | (have : false = false := h))) | (refine POpsD_split rfl rfl (fun h => ?_) (fun h => ?_) <;> fail_if_success (first | (have : true = true := h) | (have : false = false := h))) | refine PW_cond rfl (fun h => ?_) (fun h => ?_)))
  all_goals (try (exfalso; simp at h; done))
  clear h
  (repeat (first | ((first | refine qA ?_ | refine qB ?_ | refine xN ?_ | refine xE ?_ | refine xT ?_); try show PW _ _ _ _ _ _) | refine ro1 tabOk rfl rfl ?_ | refine ro2 tabOk rfl rfl ?_ | refine ro3 tabOk rfl rfl ?_ | refine rd1 tabOk rfl rfl ?_ | refine rd2 tabOk rfl rfl ?_ | refine rd3 tabOk rfl rfl ?_ | ((first | apply oR rfl rfl | (apply dF rfl rfl rfl; intro _) | (apply dP rfl rfl rfl; intro _) | (apply dL rfl rfl rfl; intro _) | apply dC rfl rfl rfl rfl); (focus (first | exact cJ | exact mG | exact bT | exact nD)); try exact kQ) | refine xS ?_ | refine xR ?_ | refine qxa rfl rfl mixed ?_ | refine qxb rfl rfl mixed ?_ | refine qxc rfl rfl mixed ?_ | refine qxd rfl rfl mixed ?_ | refine xB ?_ | refine xt rfl ?_ | refine xf rfl ?_))
  refine PW_loop (S := Nat) (fun i => slots [(0, .g (.sl (VCol.gs list))), (1, .g (.sl (VCol.gs list))), (12, .g (.int .i64 list.length)), (13, .g (.int .i64 i))])
    (fun _ => ⟨[], [], []⟩) (fun i => i ≤ list.length) (fun i => list.length - i) 0 (Nat.zero_le _)
    (SlotsOk.le ⟨.inl rfl, .inl rfl, .inl (congrArg (fun k : Nat => PV.g (.int .i64 k)) hgl), .inl rfl, trivial⟩) (HLe.of_eq rfl) (fun i hi => ?_)
  (repeat (first | ((first | refine qA ?_ | refine qB ?_ | refine xN ?_ | refine xE ?_ | refine xT ?_); try show PW _ _ _ _ _ _) | refine ro1 tabOk rfl rfl ?_ | refine ro2 tabOk rfl rfl ?_ | refine ro3 tabOk rfl rfl ?_ | refine rd1 tabOk rfl rfl ?_ | refine rd2 tabOk rfl rfl ?_ | refine rd3 tabOk rfl rfl ?_ | ((first | apply oR rfl rfl | (apply dF rfl rfl rfl; intro _) | (apply dP rfl rfl rfl; intro _) | (apply dL rfl rfl rfl; intro _) | apply dC rfl rfl rfl rfl); (focus (first | exact cJ | exact mG | exact bT | exact nD)); try exact kQ) | refine xS ?_ | refine xR ?_ | refine qxa rfl rfl mixed ?_ | refine qxb rfl rfl mixed ?_ | refine qxc rfl rfl mixed ?_ | refine qxd rfl rfl mixed ?_ | refine xB ?_ | refine xt rfl ?_ | refine xf rfl ?_))
  (first | refine POps_split rfl rfl (fun h => ?_) (fun h => ?_) | refine POpsD_split rfl rfl (fun h => ?_) (fun h => ?_) | refine PW_cond rfl (fun h => ?_) (fun h => ?_))
  · have hlt : i < list.length := by have := of_decide_eq_true h; omega
    have hg : (VCol.gs list)[((i : Int)).toNat]? = some list[i].g := map_get hlt
    have hbi := map_bulk (f := VCol.g) hlt
    generalize list[i] = x at hg hbi
    obtain ⟨xn, xk, xo⟩ := x
    have hC := sameall_pc xo (by have := cbulk (name := xn) (kind := xk) (order := xo); omega)
    (repeat' (first | (first | ((first | refine qA ?_ | refine qB ?_ | refine xN ?_ | refine xE ?_ | refine xT ?_); try show PW _ _ _ _ _ _) | refine ro1 tabOk rfl rfl ?_ | refine ro2 tabOk rfl rfl ?_ | refine ro3 tabOk rfl rfl ?_ | refine rd1 tabOk rfl rfl ?_ | refine rd2 tabOk rfl rfl ?_ | refine rd3 tabOk rfl rfl ?_ | ((first | apply oR rfl rfl | (apply dF rfl rfl rfl; intro _) | (apply dP rfl rfl rfl; intro _) | (apply dL rfl rfl rfl; intro _) | apply dC rfl rfl rfl rfl); (focus (first | exact cqP hC | exact iA rfl (EL rfl) (SZ rfl) rfl rfl (Int.natCast_nonneg _) hg rfl | exact cJ | exact mG | exact bT | exact nD)); try exact kQ) | refine xU [8] rfl ?_ | refine xR ?_ | refine qxa rfl rfl mixed ?_ | refine qxb rfl rfl mixed ?_ | refine qxc rfl rfl mixed ?_ | refine qxd rfl rfl mixed ?_ | refine xB ?_ | refine xt rfl ?_ | refine xf rfl ?_) | (refine POps_split rfl rfl (fun h => ?_) (fun h => ?_) <;> fail_if_success (first | (have : true = true := h) | (have : false = false := h))) | (refine POpsD_split rfl rfl (fun h => ?_) (fun h => ?_) <;> fail_if_success (first | (have : true = true := h) | (have : false = false := h))) | refine PW_cond rfl (fun h => ?_) (fun h => ?_)))
    all_goals (try (exfalso; simp at h; done))
    (repeat (first | ((first | refine qA ?_ | refine qB ?_ | refine xN ?_ | refine xE ?_ | refine xT ?_); try show PW _ _ _ _ _ _) | refine ro1 tabOk rfl rfl ?_ | refine ro2 tabOk rfl rfl ?_ | refine ro3 tabOk rfl rfl ?_ | refine rd1 tabOk rfl rfl ?_ | refine rd2 tabOk rfl rfl ?_ | refine rd3 tabOk rfl rfl ?_ | ((first | apply oR rfl rfl | (apply dF rfl rfl rfl; intro _) | (apply dP rfl rfl rfl; intro _) | (apply dL rfl rfl rfl; intro _) | apply dC rfl rfl rfl rfl); (focus (first | exact cJ | exact mG | exact bT | exact nD)); try exact kQ) | refine xS ?_ | refine xR ?_ | refine qxa rfl rfl mixed ?_ | refine qxb rfl rfl mixed ?_ | refine qxc rfl rfl mixed ?_ | refine qxd rfl rfl mixed ?_ | refine xB ?_ | refine xt rfl ?_ | refine xf rfl ?_))
    refine ⟨i + 1, hlt, by omega, SlotsOk.le ⟨.inl rfl, .inl rfl, .inl rfl, .inl (congrArg (fun x => PV.g (.int .i64 x)) (wrap64 (by omega))), trivial⟩, HLe.refl _⟩
  · (repeat (first | ((first | refine qA ?_ | refine qB ?_ | refine xN ?_ | refine xE ?_ | refine xT ?_); try show PW _ _ _ _ _ _) | refine ro1 tabOk rfl rfl ?_ | refine ro2 tabOk rfl rfl ?_ | refine ro3 tabOk rfl rfl ?_ | refine rd1 tabOk rfl rfl ?_ | refine rd2 tabOk rfl rfl ?_ | refine rd3 tabOk rfl rfl ?_ | ((first | apply oR rfl rfl | (apply dF rfl rfl rfl; intro _) | (apply dP rfl rfl rfl; intro _) | (apply dL rfl rfl rfl; intro _) | apply dC rfl rfl rfl rfl); (focus (first | exact cJ | exact mG | exact bT | exact nD)); try exact kQ) | refine xS ?_ | refine xR ?_ | refine qxa rfl rfl mixed ?_ | refine qxb rfl rfl mixed ?_ | refine qxc rfl rfl mixed ?_ | refine qxd rfl rfl mixed ?_ | refine xB ?_ | refine xt rfl ?_ | refine xf rfl ?_))
    (first | refine Ret_int (vC vT vN) rfl ?_ | refine Ret_bool (vC vT vN) rfl ?_ | refine Ret_g (vC vT vN) rfl ?_ | refine Ret_int (vC (vA (AG rfl) (SZ rfl) rfl rfl (lB rfl)) vN) rfl ?_ | refine Ret_bool (vC (vA (AG rfl) (SZ rfl) rfl rfl (lB rfl)) vN) rfl ?_ | refine Ret_g (vC (vA (AG rfl) (SZ rfl) rfl rfl (lB rfl)) vN) rfl ?_)
    rfl
end Go.Proofs.Ytffpepmfdjjjaaa


namespace Go.Proofs.Ytffpepmfdjjjaaa
open Go.Pure
attribute [local irreducible] PW POps POpsD PO PC Cond

set_option maxRecDepth 100000 in
set_option maxHeartbeats 8000000 in
theorem sametab_pc (t : VTable) (hb : gbulk t.g ≤ 1000000000) : PC Try.prog 49 [.g t.g, .g t.g] ⟨[], [], []⟩ (.g (.bool true)) ⟨[], [], []⟩ := by
  obtain ⟨name, pol, ins, outs, rules⟩ := t
  have hb2 := tabbulk (name := name) (pol := pol) (ins := ins) (outs := outs) (rules := rules)
  have hI := samecols_pc ins (by omega)
  have hO := samecols_pc outs (by omega)
  have hln := map_len VRule.one rules
  have hgl : (VRule.gs rules).length = rules.length := by simp [VRule.gs]
  refine PC_of_PW Try.func49 rfl rfl (rs := _) rfl (Nat.le_of_ble_eq_true (by kernel_rfl)) ?_
  (repeat' (first | (first | ((first | refine qA ?_ | refine qB ?_ | refine xN ?_ | refine xE ?_ | refine xT ?_); try show PW _ _ _ _ _ _) | refine ro1 tabOk rfl rfl ?_ | refine ro2 tabOk rfl rfl ?_ | refine ro3 tabOk rfl rfl ?_ | refine rd1 tabOk rfl rfl ?_ | refine rd2 tabOk rfl rfl ?_ | refine rd3 tabOk rfl rfl ?_ | ((first | apply oR rfl rfl | (apply dF rfl rfl rfl; intro _) | (apply dP rfl rfl rfl; intro _) | (apply dL rfl rfl rfl; intro _) | apply dC rfl rfl rfl rfl); (focus (first | exact cqP hI | exact cqP hO | exact cJ | exact mG | exact bT | exact nD)); try exact kQ) | refine xU [3] rfl ?_ | refine xR ?_ | refine qxa rfl rfl mixed ?_ | refine qxb rfl rfl mixed ?_ | refine qxc rfl rfl mixed ?_ | refine qxd rfl rfl mixed ?_ | refine xB ?_ | refine xt rfl ?_ | refine xf rfl ?_) | (refine POps_split rfl rfl (fun h => ?_) (fun h => ?_) <;> fail_if_success (first | (have : true = true := h) | (have : false = false := h))) | (refine POpsD_split rfl rfl (fun h => ?_) (fun h => ?_) <;> fail_if_success (first | (have : true = true := h) | (have : false = false := h))) | refine PW_cond rfl (fun h => ?_) (fun h => ?_)))
  all_goals (try (exfalso; simp at h; done))
  clear h
  (repeat (first | ((first | refine qA ?_ | refine qB ?_ | refine xN ?_ | refine xE ?_ | refine xT ?_); try show PW _ _ _ _ _ _) | refine ro1 tabOk rfl rfl ?_ | refine ro2 tabOk rfl rfl ?_ | refine ro3 tabOk rfl rfl ?_ | refine rd1 tabOk rfl rfl ?_ | refine rd2 tabOk rfl rfl ?_ | refine rd3 tabOk rfl rfl ?_ | ((first | apply oR rfl rfl | (apply dF rfl rfl rfl; intro _) | (apply dP rfl rfl rfl; intro _) | (apply dL rfl rfl rfl; intro _) | apply dC rfl rfl rfl rfl); (focus (first | exact cJ | exact mG | exact bT | exact nD)); try exact kQ) | refine xS ?_ | refine xR ?_ | refine qxa rfl rfl mixed ?_ | refine qxb rfl rfl mixed ?_ | refine qxc rfl rfl mixed ?_ | refine qxd rfl rfl mixed ?_ | refine xB ?_ | refine xt rfl ?_ | refine xf rfl ?_))
  refine PW_loop_cut (S := Nat) (fun i => [(2, .ptr 0 0), (3, .ptr 1 0), (49, .g (.int .i64 rules.length)), (50, .g (.int .i64 i))])
    (fun _ => ⟨[(VTable.mk name pol ins outs rules).g.cells.map PV.g, (VTable.mk name pol ins outs rules).g.cells.map PV.g], [], []⟩) (fun i => i ≤ rules.length) (fun i => rules.length - i) 0 (Nat.zero_le _)
    (SlotsOk.le ⟨.inl rfl, .inl rfl, .inl (congrArg (fun k : Nat => PV.g (.int .i64 k)) hgl), .inl rfl, trivial⟩) (HLe.of_eq rfl) (fun _ => rfl) (fun i hi => ?_)
  (repeat (first | ((first | refine qA ?_ | refine qB ?_ | refine xN ?_ | refine xE ?_ | refine xT ?_); try show PW _ _ _ _ _ _) | refine ro1 tabOk rfl rfl ?_ | refine ro2 tabOk rfl rfl ?_ | refine ro3 tabOk rfl rfl ?_ | refine rd1 tabOk rfl rfl ?_ | refine rd2 tabOk rfl rfl ?_ | refine rd3 tabOk rfl rfl ?_ | ((first | apply oR rfl rfl | (apply dF rfl rfl rfl; intro _) | (apply dP rfl rfl rfl; intro _) | (apply dL rfl rfl rfl; intro _) | apply dC rfl rfl rfl rfl); (focus (first | exact cJ | exact mG | exact bT | exact nD)); try exact kQ) | refine xS ?_ | refine xR ?_ | refine qxa rfl rfl mixed ?_ | refine qxb rfl rfl mixed ?_ | refine qxc rfl rfl mixed ?_ | refine qxd rfl rfl mixed ?_ | refine xB ?_ | refine xt rfl ?_ | refine xf rfl ?_))
  (first | refine POps_split rfl rfl (fun h => ?_) (fun h => ?_) | refine POpsD_split rfl rfl (fun h => ?_) (fun h => ?_) | refine PW_cond rfl (fun h => ?_) (fun h => ?_))
  · have hlt : i < rules.length := by have := of_decide_eq_true h; omega
    have hg : (VRule.gs rules)[((i : Int)).toNat]? = some rules[i].g := map_get hlt
    have hbi := map_bulk (f := VRule.g) hlt
    generalize rules[i] = x at hg hbi
    obtain ⟨ts, os⟩ := x
    have hbr := rbulk (t := ts) (o := os)
    have hlt1 := map_len VTest.one ts
    have hlt2 := map_len VExpr.one os
    have hgt : (VTest.gs ts).length = ts.length := by rw [VTest.gs_eq]; simp
    have hge : (VExpr.gs os).length = os.length := by rw [VExpr.gs_eq]; simp
    clear h
    (repeat' (first | (first | ((first | refine qA ?_ | refine qB ?_ | refine xN ?_ | refine xE ?_ | refine xT ?_); try show PW _ _ _ _ _ _) | refine ro1 tabOk rfl rfl ?_ | refine ro2 tabOk rfl rfl ?_ | refine ro3 tabOk rfl rfl ?_ | refine rd1 tabOk rfl rfl ?_ | refine rd2 tabOk rfl rfl ?_ | refine rd3 tabOk rfl rfl ?_ | ((first | apply oR rfl rfl | (apply dF rfl rfl rfl; intro _) | (apply dP rfl rfl rfl; intro _) | (apply dL rfl rfl rfl; intro _) | apply dC rfl rfl rfl rfl); (focus (first | exact iA rfl (EL rfl) (SZ rfl) rfl rfl (Int.natCast_nonneg _) hg rfl | exact cJ | exact mG | exact bT | exact nD)); try exact kQ) | refine xU [9] rfl ?_ | refine xR ?_ | refine qxa rfl rfl mixed ?_ | refine qxb rfl rfl mixed ?_ | refine qxc rfl rfl mixed ?_ | refine qxd rfl rfl mixed ?_ | refine xB ?_ | refine xt rfl ?_ | refine xf rfl ?_) | (refine POps_split rfl rfl (fun h => ?_) (fun h => ?_) <;> fail_if_success (first | (have : true = true := h) | (have : false = false := h))) | (refine POpsD_split rfl rfl (fun h => ?_) (fun h => ?_) <;> fail_if_success (first | (have : true = true := h) | (have : false = false := h))) | refine PW_cond rfl (fun h => ?_) (fun h => ?_)))
    all_goals (try (exfalso; simp at h; done))
    clear h
    (repeat (first | ((first | refine qA ?_ | refine qB ?_ | refine xN ?_ | refine xE ?_ | refine xT ?_); try show PW _ _ _ _ _ _) | refine ro1 tabOk rfl rfl ?_ | refine ro2 tabOk rfl rfl ?_ | refine ro3 tabOk rfl rfl ?_ | refine rd1 tabOk rfl rfl ?_ | refine rd2 tabOk rfl rfl ?_ | refine rd3 tabOk rfl rfl ?_ | ((first | apply oR rfl rfl | (apply dF rfl rfl rfl; intro _) | (apply dP rfl rfl rfl; intro _) | (apply dL rfl rfl rfl; intro _) | apply dC rfl rfl rfl rfl); (focus (first | exact cJ | exact mG | exact bT | exact nD)); try exact kQ) | refine xS ?_ | refine xR ?_ | refine qxa rfl rfl mixed ?_ | refine qxb rfl rfl mixed ?_ | refine qxc rfl rfl mixed ?_ | refine qxd rfl rfl mixed ?_ | refine xB ?_ | refine xt rfl ?_ | refine xf rfl ?_))
    refine PW_loop_cut (S := Nat) (fun j => [(2, .ptr 0 0), (3, .ptr 1 0), (6, .ptr 2 0), (7, .ptr 3 0), (49, .g (.int .i64 rules.length)), (50, .g (.int .i64 i)), (81, .g (.int .i64 ts.length)), (82, .g (.int .i64 j))])
      (fun _ => ⟨[(VTable.mk name pol ins outs rules).g.cells.map PV.g, (VTable.mk name pol ins outs rules).g.cells.map PV.g, (VRule.mk ts os).g.cells.map PV.g, (VRule.mk ts os).g.cells.map PV.g], [], []⟩) (fun j => j ≤ ts.length) (fun j => ts.length - j) 0 (Nat.zero_le _)
      (SlotsOk.le ⟨.inl rfl, .inl rfl, .inl rfl, .inl rfl, .inl rfl, .inl rfl, .inl (congrArg (fun k : Nat => PV.g (.int .i64 k)) hgt), .inl rfl, trivial⟩) (HLe.of_eq rfl) (fun _ => rfl) (fun j hj => ?_)
    (repeat (first | ((first | refine qA ?_ | refine qB ?_ | refine xN ?_ | refine xE ?_ | refine xT ?_); try show PW _ _ _ _ _ _) | refine ro1 tabOk rfl rfl ?_ | refine ro2 tabOk rfl rfl ?_ | refine ro3 tabOk rfl rfl ?_ | refine rd1 tabOk rfl rfl ?_ | refine rd2 tabOk rfl rfl ?_ | refine rd3 tabOk rfl rfl ?_ | ((first | apply oR rfl rfl | (apply dF rfl rfl rfl; intro _) | (apply dP rfl rfl rfl; intro _) | (apply dL rfl rfl rfl; intro _) | apply dC rfl rfl rfl rfl); (focus (first | exact cJ | exact mG | exact bT | exact nD)); try exact kQ) | refine xS ?_ | refine xR ?_ | refine qxa rfl rfl mixed ?_ | refine qxb rfl rfl mixed ?_ | refine qxc rfl rfl mixed ?_ | refine qxd rfl rfl mixed ?_ | refine xB ?_ | refine xt rfl ?_ | refine xf rfl ?_))
    (first | refine POps_split rfl rfl (fun h => ?_) (fun h => ?_) | refine POpsD_split rfl rfl (fun h => ?_) (fun h => ?_) | refine PW_cond rfl (fun h => ?_) (fun h => ?_))
    · have hlj : j < ts.length := by have := of_decide_eq_true h; omega
      have hgj : (VTest.gs ts)[((j : Int)).toNat]? = some ts[j].g := by rw [VTest.gs_eq]; exact map_get hlj
      have hC := samet_pc _ ts[j] (Nat.le_refl _) (by have := map_bulk (f := VTest.g) hlj; omega)
      generalize ts[j] = x at hgj hC
      obtain ⟨xk, ⟨ak, ay, ac, ae, as_, al⟩, ⟨bk, by_, bc, be, bs, bl⟩, xoa, xob, xl⟩ := x
      (repeat (first | ((first | refine qA ?_ | refine qB ?_ | refine xN ?_ | refine xE ?_ | refine xT ?_); try show PW _ _ _ _ _ _) | refine ro1 tabOk rfl rfl ?_ | refine ro2 tabOk rfl rfl ?_ | refine ro3 tabOk rfl rfl ?_ | refine rd1 tabOk rfl rfl ?_ | refine rd2 tabOk rfl rfl ?_ | refine rd3 tabOk rfl rfl ?_ | ((first | apply oR rfl rfl | (apply dF rfl rfl rfl; intro _) | (apply dP rfl rfl rfl; intro _) | (apply dL rfl rfl rfl; intro _) | apply dC rfl rfl rfl rfl); (focus (first | exact cqP hC | exact iA rfl (EL rfl) (SZ rfl) rfl rfl (Int.natCast_nonneg _) hgj rfl | exact cJ | exact mG | exact bT | exact nD)); try exact kQ) | refine xS ?_ | refine xR ?_ | refine xK false false [0, 1, 2, 3] rfl mixed (by decide +kernel) ?_ | refine xK false true [0, 1, 2, 3] rfl mixed (by decide +kernel) ?_ | refine xK true false [0, 1, 2, 3] rfl mixed (by decide +kernel) ?_ | refine xK true true [0, 1, 2, 3] rfl mixed (by decide +kernel) ?_ | refine xB ?_ | refine xt rfl ?_ | refine xf rfl ?_))
      refine ⟨j + 1, hlj, by omega, SlotsOk.le ⟨.inl rfl, .inl rfl, .inl rfl, .inl rfl, .inl rfl, .inl rfl, .inl rfl, .inl (congrArg (fun x => PV.g (.int .i64 x)) (wrap64 (by omega))), trivial⟩, Drops.mk [] [] [] rfl⟩
    · (repeat (first | ((first | refine qA ?_ | refine qB ?_ | refine xN ?_ | refine xE ?_ | refine xT ?_); try show PW _ _ _ _ _ _) | refine ro1 tabOk rfl rfl ?_ | refine ro2 tabOk rfl rfl ?_ | refine ro3 tabOk rfl rfl ?_ | refine rd1 tabOk rfl rfl ?_ | refine rd2 tabOk rfl rfl ?_ | refine rd3 tabOk rfl rfl ?_ | ((first | apply oR rfl rfl | (apply dF rfl rfl rfl; intro _) | (apply dP rfl rfl rfl; intro _) | (apply dL rfl rfl rfl; intro _) | apply dC rfl rfl rfl rfl); (focus (first | exact cJ | exact mG | exact bT | exact nD)); try exact kQ) | refine xS ?_ | refine xR ?_ | refine qxa rfl rfl mixed ?_ | refine qxb rfl rfl mixed ?_ | refine qxc rfl rfl mixed ?_ | refine qxd rfl rfl mixed ?_ | refine xB ?_ | refine xt rfl ?_ | refine xf rfl ?_))
      refine PW_loop_cut (S := Nat) (fun j => [(2, .ptr 0 0), (3, .ptr 1 0), (6, .ptr 2 0), (7, .ptr 3 0), (49, .g (.int .i64 rules.length)), (50, .g (.int .i64 i)), (100, .g (.int .i64 os.length)), (101, .g (.int .i64 j))])
        (fun _ => ⟨[(VTable.mk name pol ins outs rules).g.cells.map PV.g, (VTable.mk name pol ins outs rules).g.cells.map PV.g, (VRule.mk ts os).g.cells.map PV.g, (VRule.mk ts os).g.cells.map PV.g], [], []⟩) (fun j => j ≤ os.length) (fun j => os.length - j) 0 (Nat.zero_le _)
        (SlotsOk.le ⟨.inl rfl, .inl rfl, .inl rfl, .inl rfl, .inl rfl, .inl rfl, .inl (congrArg (fun k : Nat => PV.g (.int .i64 k)) hge), .inl rfl, trivial⟩) (HLe.of_eq rfl) (fun _ => rfl) (fun j hj => ?_)
      (repeat (first | ((first | refine qA ?_ | refine qB ?_ | refine xN ?_ | refine xE ?_ | refine xT ?_); try show PW _ _ _ _ _ _) | refine ro1 tabOk rfl rfl ?_ | refine ro2 tabOk rfl rfl ?_ | refine ro3 tabOk rfl rfl ?_ | refine rd1 tabOk rfl rfl ?_ | refine rd2 tabOk rfl rfl ?_ | refine rd3 tabOk rfl rfl ?_ | ((first | apply oR rfl rfl | (apply dF rfl rfl rfl; intro _) | (apply dP rfl rfl rfl; intro _) | (apply dL rfl rfl rfl; intro _) | apply dC rfl rfl rfl rfl); (focus (first | exact cJ | exact mG | exact bT | exact nD)); try exact kQ) | refine xS ?_ | refine xR ?_ | refine qxa rfl rfl mixed ?_ | refine qxb rfl rfl mixed ?_ | refine qxc rfl rfl mixed ?_ | refine qxd rfl rfl mixed ?_ | refine xB ?_ | refine xt rfl ?_ | refine xf rfl ?_))
      (first | refine POps_split rfl rfl (fun h => ?_) (fun h => ?_) | refine POpsD_split rfl rfl (fun h => ?_) (fun h => ?_) | refine PW_cond rfl (fun h => ?_) (fun h => ?_))
      · have hlj : j < os.length := by have := of_decide_eq_true h; omega
        have hgj : (VExpr.gs os)[((j : Int)).toNat]? = some os[j].g := by rw [VExpr.gs_eq]; exact map_get hlj
        have hC := samee_pc _ os[j] (Nat.le_refl _) (by have := map_bulk (f := VExpr.g) hlj; omega)
        generalize os[j] = x at hgj hC
        obtain ⟨xk, ⟨ak, ay, ac, ae, as_, al⟩, xn, xl⟩ := x
        (repeat (first | ((first | refine qA ?_ | refine qB ?_ | refine xN ?_ | refine xE ?_ | refine xT ?_); try show PW _ _ _ _ _ _) | refine ro1 tabOk rfl rfl ?_ | refine ro2 tabOk rfl rfl ?_ | refine ro3 tabOk rfl rfl ?_ | refine rd1 tabOk rfl rfl ?_ | refine rd2 tabOk rfl rfl ?_ | refine rd3 tabOk rfl rfl ?_ | ((first | apply oR rfl rfl | (apply dF rfl rfl rfl; intro _) | (apply dP rfl rfl rfl; intro _) | (apply dL rfl rfl rfl; intro _) | apply dC rfl rfl rfl rfl); (focus (first | exact cqP hC | exact iA rfl (EL rfl) (SZ rfl) rfl rfl (Int.natCast_nonneg _) hgj rfl | exact cJ | exact mG | exact bT | exact nD)); try exact kQ) | refine xS ?_ | refine xR ?_ | refine xK false false [0, 1, 2, 3] rfl mixed (by decide +kernel) ?_ | refine xK false true [0, 1, 2, 3] rfl mixed (by decide +kernel) ?_ | refine xK true false [0, 1, 2, 3] rfl mixed (by decide +kernel) ?_ | refine xK true true [0, 1, 2, 3] rfl mixed (by decide +kernel) ?_ | refine xB ?_ | refine xt rfl ?_ | refine xf rfl ?_))
        refine ⟨j + 1, hlj, by omega, SlotsOk.le ⟨.inl rfl, .inl rfl, .inl rfl, .inl rfl, .inl rfl, .inl rfl, .inl rfl, .inl (congrArg (fun x => PV.g (.int .i64 x)) (wrap64 (by omega))), trivial⟩, Drops.mk [] [] [] rfl⟩
      · (repeat (first | ((first | refine qA ?_ | refine qB ?_ | refine xN ?_ | refine xE ?_ | refine xT ?_); try show PW _ _ _ _ _ _) | refine ro1 tabOk rfl rfl ?_ | refine ro2 tabOk rfl rfl ?_ | refine ro3 tabOk rfl rfl ?_ | refine rd1 tabOk rfl rfl ?_ | refine rd2 tabOk rfl rfl ?_ | refine rd3 tabOk rfl rfl ?_ | ((first | apply oR rfl rfl | (apply dF rfl rfl rfl; intro _) | (apply dP rfl rfl rfl; intro _) | (apply dL rfl rfl rfl; intro _) | apply dC rfl rfl rfl rfl); (focus (first | exact cJ | exact mG | exact bT | exact nD)); try exact kQ) | refine xS ?_ | refine xR ?_ | refine qxa rfl rfl mixed ?_ | refine qxb rfl rfl mixed ?_ | refine qxc rfl rfl mixed ?_ | refine qxd rfl rfl mixed ?_ | refine xB ?_ | refine xt rfl ?_ | refine xf rfl ?_))
        refine ⟨i + 1, hlt, by omega, SlotsOk.le ⟨.inl rfl, .inl rfl, .inl rfl, .inl (congrArg (fun x => PV.g (.int .i64 x)) (wrap64 (by omega))), trivial⟩, Drops.mk [(VRule.mk ts os).g.cells.map PV.g, (VRule.mk ts os).g.cells.map PV.g] [] [] rfl⟩
  · (repeat (first | ((first | refine qA ?_ | refine qB ?_ | refine xN ?_ | refine xE ?_ | refine xT ?_); try show PW _ _ _ _ _ _) | refine ro1 tabOk rfl rfl ?_ | refine ro2 tabOk rfl rfl ?_ | refine ro3 tabOk rfl rfl ?_ | refine rd1 tabOk rfl rfl ?_ | refine rd2 tabOk rfl rfl ?_ | refine rd3 tabOk rfl rfl ?_ | ((first | apply oR rfl rfl | (apply dF rfl rfl rfl; intro _) | (apply dP rfl rfl rfl; intro _) | (apply dL rfl rfl rfl; intro _) | apply dC rfl rfl rfl rfl); (focus (first | exact cJ | exact mG | exact bT | exact nD)); try exact kQ) | refine xS ?_ | refine xR ?_ | refine qxa rfl rfl mixed ?_ | refine qxb rfl rfl mixed ?_ | refine qxc rfl rfl mixed ?_ | refine qxd rfl rfl mixed ?_ | refine xB ?_ | refine xt rfl ?_ | refine xf rfl ?_))
    (first | refine Ret_int (vC vT vN) rfl ?_ | refine Ret_bool (vC vT vN) rfl ?_ | refine Ret_g (vC vT vN) rfl ?_ | refine Ret_int (vC (vA (AG rfl) (SZ rfl) rfl rfl (lB rfl)) vN) rfl ?_ | refine Ret_bool (vC (vA (AG rfl) (SZ rfl) rfl rfl (lB rfl)) vN) rfl ?_ | refine Ret_g (vC (vA (AG rfl) (SZ rfl) rfl rfl (lB rfl)) vN) rfl ?_)
    rfl

set_option maxRecDepth 100000 in
set_option maxHeartbeats 4000000 in
theorem samecmd_pc (c : VCmd) (hb : gbulk c.g ≤ 1000000000) : PC Try.prog 16 [.g c.g, .g c.g] ⟨[], [], []⟩ (.g (.bool true)) ⟨[], [], []⟩ := by
  obtain ⟨session, seq, kind, t, name, to⟩ := c
  have hb1 := cmdbulk (a := session) (b := seq) (c := kind) (t := t) (n := name) (d := to)
  have hT := sametab_pc t (by omega)
  obtain ⟨tname, policy, ins, outs, rules⟩ := t
  refine PC_of_PW Try.func16 rfl rfl (rs := _) rfl (Nat.le_of_ble_eq_true (by kernel_rfl)) ?_
  (repeat' (first | (first | ((first | refine qA ?_ | refine qB ?_ | refine xN ?_ | refine xE ?_ | refine xT ?_); try show PW _ _ _ _ _ _) | refine ro1 tabOk rfl rfl ?_ | refine ro2 tabOk rfl rfl ?_ | refine ro3 tabOk rfl rfl ?_ | refine rd1 tabOk rfl rfl ?_ | refine rd2 tabOk rfl rfl ?_ | refine rd3 tabOk rfl rfl ?_ | ((first | apply oR rfl rfl | (apply dF rfl rfl rfl; intro _) | (apply dP rfl rfl rfl; intro _) | (apply dL rfl rfl rfl; intro _) | apply dC rfl rfl rfl rfl); (focus (first | exact cqP hT | exact cJ | exact mG | exact bT | exact nD)); try exact kQ) | refine xS ?_ | refine xR ?_ | refine qxa rfl rfl mixed ?_ | refine qxb rfl rfl mixed ?_ | refine qxc rfl rfl mixed ?_ | refine qxd rfl rfl mixed ?_ | refine xB ?_ | refine xt rfl ?_ | refine xf rfl ?_) | (refine POps_split rfl rfl (fun h => ?_) (fun h => ?_) <;> fail_if_success (first | (have : true = true := h) | (have : false = false := h))) | (refine POpsD_split rfl rfl (fun h => ?_) (fun h => ?_) <;> fail_if_success (first | (have : true = true := h) | (have : false = false := h))) | refine PW_cond rfl (fun h => ?_) (fun h => ?_)))
  all_goals (first | (exfalso; simp at h; done) | ((first | refine Ret_int (vC vT vN) rfl ?_ | refine Ret_bool (vC vT vN) rfl ?_ | refine Ret_g (vC vT vN) rfl ?_ | refine Ret_int (vC (vA (AG rfl) (SZ rfl) rfl rfl (lB rfl)) vN) rfl ?_ | refine Ret_bool (vC (vA (AG rfl) (SZ rfl) rfl rfl (lB rfl)) vN) rfl ?_ | refine Ret_g (vC (vA (AG rfl) (SZ rfl) rfl rfl (lB rfl)) vN) rfl ?_); rfl))

end Go.Proofs.Ytffpepmfdjjjaaa

