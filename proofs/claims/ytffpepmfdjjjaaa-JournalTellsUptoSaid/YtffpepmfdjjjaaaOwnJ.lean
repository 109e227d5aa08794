/- What the program's functions compute, each shown once; and plain laws of it. -/
import Derived.Test.YtffpepmfdjjjaaaOwnH
import Derived.Test.YtffpepmfdjjjaaaPureG
import Derived.Test.YtffpepmfdjjjaaaOwnD
import Derived.Test.YtffpepmfdjjjaaaOwnF
namespace Go.Proofs.Ytffpepmfdjjjaaa
open Go.Pure
attribute [local irreducible] PW POps POpsD PO PC Cond

set_option maxRecDepth 100000 in
set_option maxHeartbeats 4000000 in
theorem ofnil_pc (tag n : Int) (text : ByteArray) : PC Try.prog 39 [.g (.int .i64 tag), .g (.int .i64 n), .g (.str text), .nils] ⟨[], [], []⟩ (.agg [.g (.int .i64 tag), .g (.int .i64 n), .g (.str text), .nils]) ⟨[], [], []⟩ := by
  refine PC_of_PW Try.func39 rfl rfl (rs := _) rfl (Nat.le_of_ble_eq_true (by kernel_rfl)) ?_
  (repeat (first | ((first | refine qA ?_ | refine qB ?_ | refine xN ?_ | refine xE ?_ | refine xT ?_); try show PW _ _ _ _ _ _) | refine ro1 tabOk rfl rfl ?_ | refine ro2 tabOk rfl rfl ?_ | refine ro3 tabOk rfl rfl ?_ | refine rd1 tabOk rfl rfl ?_ | refine rd2 tabOk rfl rfl ?_ | refine rd3 tabOk rfl rfl ?_ | ((first | apply oR rfl rfl | (apply dF rfl rfl rfl; intro _) | (apply dP rfl rfl rfl; intro _) | (apply dL rfl rfl rfl; intro _) | apply dC rfl rfl rfl rfl); (focus (first | exact cJ | exact mG | exact bT | exact nD)); try exact kQ) | refine xS ?_ | refine xR ?_ | refine qxa rfl rfl mixed ?_ | refine qxb rfl rfl mixed ?_ | refine qxc rfl rfl mixed ?_ | refine qxd rfl rfl mixed ?_ | refine xB ?_ | refine xt rfl ?_ | refine xf rfl ?_))
  (first | refine Ret_box (wC vT wN) rfl rfl rfl rfl rfl rfl rfl rfl rfl ?_ ?_ ?_ rfl | refine Ret_box (wC (vA (AG rfl) (SZ rfl) rfl rfl (lB rfl)) wN) rfl rfl rfl rfl rfl rfl rfl rfl rfl ?_ ?_ ?_ rfl | refine Ret_box (wC vT (wC vT wN)) rfl rfl rfl rfl rfl rfl rfl rfl rfl ?_ ?_ ?_ rfl | refine Ret_box (wC (vA (AG rfl) (SZ rfl) rfl rfl (lB rfl)) (wC vT wN)) rfl rfl rfl rfl rfl rfl rfl rfl rfl ?_ ?_ ?_ rfl)
  · rfl
  · rfl
  · rfl

set_option maxRecDepth 100000 in
set_option maxHeartbeats 8000000 in
theorem refexprs_pc : ∀ (m : Nat) (l : List VExpr), SizeOf.sizeOf l ≤ m → gbulks (l.map VExpr.g) ≤ 250000000 → PC Try.prog 41 [.g (.sl (VExpr.gs l))] ⟨[], [], []⟩ (.g (listT (packEs l)).g) ⟨[], [], []⟩
  | 0, l, hm, _ => by cases l <;> simp at hm
  | m + 1, l, hm, hb => by
    have hln : l.length ≤ 250000000 := by have := map_len VExpr.one l; omega
    have hgl : (VExpr.gs l).length = l.length := by rw [VExpr.gs_eq]; simp
    refine PC_of_PW Try.func41 rfl rfl (rs := _) rfl (Nat.le_of_ble_eq_true (by kernel_rfl)) ?_
    (repeat (first | ((first | refine qA ?_ | refine qB ?_ | refine xN ?_ | refine xE ?_ | refine xT ?_); try show PW _ _ _ _ _ _) | refine ro1 tabOk rfl rfl ?_ | refine ro2 tabOk rfl rfl ?_ | refine ro3 tabOk rfl rfl ?_ | refine rd1 tabOk rfl rfl ?_ | refine rd2 tabOk rfl rfl ?_ | refine rd3 tabOk rfl rfl ?_ | ((first | apply oR rfl rfl | (apply dF rfl rfl rfl; intro _) | (apply dP rfl rfl rfl; intro _) | (apply dL rfl rfl rfl; intro _) | apply dC rfl rfl rfl rfl); (focus (first | exact cb [true, true, true, true] rfl rfl (EN rfl) (ofnil_pc _ _ _) rfl rfl rfl rfl rfl rfl rfl rfl rfl rfl rfl | exact cJ | exact mG | exact bT | exact nD)); try exact kQ) | refine xS ?_ | refine xR ?_ | refine qxa rfl rfl mixed ?_ | refine qxb rfl rfl mixed ?_ | refine qxc rfl rfl mixed ?_ | refine qxd rfl rfl mixed ?_ | refine xB ?_ | refine xt rfl ?_ | refine xf rfl ?_))
    refine PW_bufbox 1 3 30 (SZ rfl) rfl rfl ?_
    refine PW_loop_cut (S := Nat) (fun i => [(2, .ptr 0 0), (3, .ptr 1 0), (7, .g (.sl (VExpr.gs l))), (8, .g (.int .i64 l.length)), (9, .g (.int .i64 i))])
      (fun i => ⟨[[.g (.int .i64 0), .g (.int .i64 0), .g (.str ⟨#[]⟩), .nils], [.g (.int .i64 0), .g (.int .i64 0), .g (.str ⟨#[]⟩), .own (((l.take i).map packE).map Tr.g) 0]], [(30, i)], []⟩)
      (fun i => i ≤ l.length) (fun i => l.length - i) 0 (Nat.zero_le _) (SlotsOk.le ⟨.inl rfl, .inl rfl, .inl rfl, .inl (congrArg (fun k : Nat => PV.g (.int .i64 k)) hgl), .inl rfl, trivial⟩) (HLe.of_eq rfl) (fun _ => rfl) (fun i hi => ?_)
    (repeat (first | ((first | refine qA ?_ | refine qB ?_ | refine xN ?_ | refine xE ?_ | refine xT ?_); try show PW _ _ _ _ _ _) | refine ro1 tabOk rfl rfl ?_ | refine ro2 tabOk rfl rfl ?_ | refine ro3 tabOk rfl rfl ?_ | refine rd1 tabOk rfl rfl ?_ | refine rd2 tabOk rfl rfl ?_ | refine rd3 tabOk rfl rfl ?_ | ((first | apply oR rfl rfl | (apply dF rfl rfl rfl; intro _) | (apply dP rfl rfl rfl; intro _) | (apply dL rfl rfl rfl; intro _) | apply dC rfl rfl rfl rfl); (focus (first | exact cJ | exact mG | exact bT | exact nD)); try exact kQ) | refine xS ?_ | refine xR ?_ | refine qxa rfl rfl mixed ?_ | refine qxb rfl rfl mixed ?_ | refine qxc rfl rfl mixed ?_ | refine qxd rfl rfl mixed ?_ | refine xB ?_ | refine xt rfl ?_ | refine xf rfl ?_))
    (first | refine POps_split rfl rfl (fun h => ?_) (fun h => ?_) | refine POpsD_split rfl rfl (fun h => ?_) (fun h => ?_) | refine PW_cond rfl (fun h => ?_) (fun h => ?_))
    · have hlt : i < l.length := by have := of_decide_eq_true h; omega
      have hg : (VExpr.gs l)[((i : Int)).toNat]? = some l[i].g := by rw [VExpr.gs_eq]; exact map_get hlt
      have hT := map_take (f := fun x => (packE x).g) hlt
      have hbi := map_bulk (f := VExpr.g) hlt
      have hsz := List.sizeOf_lt_of_mem (List.getElem_mem hlt)
      generalize l[i] = v at hg hT hbi hsz
      obtain ⟨k, val, n, es⟩ := v
      have hbl := ebulk (kind := k) (val := val) (name := n) (kids := es)
      have hI := refexprs_pc m es (by simp at hsz; omega) (by omega)
      have hV := refvalue_pc _ val (Nat.le_refl _) (by omega)
      have hO := of_pc 0 k n [packV val, listT (packEs es)]
      have hxs : ∀ x ∈ [(packE (.mk k val n es)).g], x.cells.length = 4 := by
        intro x hx; rw [List.mem_singleton.1 hx]; exact g_cells _
      obtain ⟨vk, vy, vc, ve, vs, vl⟩ := val
      clear hsz hbi hbl hm hb
      (repeat (first | ((first | refine qA ?_ | refine qB ?_ | refine xN ?_ | refine xE ?_ | refine xT ?_); try show PW _ _ _ _ _ _) | refine ro1 tabOk rfl rfl ?_ | refine ro2 tabOk rfl rfl ?_ | refine ro3 tabOk rfl rfl ?_ | refine rd1 tabOk rfl rfl ?_ | refine rd2 tabOk rfl rfl ?_ | refine rd3 tabOk rfl rfl ?_ | ((first | apply oR rfl rfl | (apply dF rfl rfl rfl; intro _) | (apply dP rfl rfl rfl; intro _) | (apply dL rfl rfl rfl; intro _) | apply dC rfl rfl rfl rfl); (focus (first | exact iA rfl (EL rfl) (SZ rfl) rfl rfl (Int.natCast_nonneg _) hg rfl | exact cqP hI | exact cqP hV | exact cqP hO | exact aP (xs := [(packE (.mk k (.mk vk vy vc ve vs vl) n es)).g]) rfl (EL rfl) (SZ rfl) (BY rfl) (ZR rfl) rfl rfl rfl rfl (by simp; omega) hxs (by simp; omega) (by simp [maxLen]; omega) | exact cJ | exact mG | exact bT | exact nD)); try exact kQ) | refine xS ?_ | refine xR ?_ | refine qxa rfl rfl mixed ?_ | refine qxb rfl rfl mixed ?_ | refine qxc rfl rfl mixed ?_ | refine qxd rfl rfl mixed ?_ | refine xB ?_ | refine xt rfl ?_ | refine xf rfl ?_))
      refine ⟨i + 1, hlt, by omega, SlotsOk.le ⟨.inl rfl, .inl rfl, .inl rfl, .inl rfl, .inl (congrArg (fun k => PV.g (.int .i64 k)) (wrap64 (by omega))), trivial⟩, Drops.mk [(VExpr.mk k (.mk vk vy vc ve vs vl) n es).g.cells.map PV.g] [] [] ?_⟩
      rw [List.map_map, List.map_map, show (Tr.g ∘ packE) = (fun x => (packE x).g) from rfl, hT]
      rfl
    · have hi' : i = l.length := by have := of_decide_eq_false h; omega
      subst hi'
      (repeat (first | ((first | refine qA ?_ | refine qB ?_ | refine xN ?_ | refine xE ?_ | refine xT ?_); try show PW _ _ _ _ _ _) | refine ro1 tabOk rfl rfl ?_ | refine ro2 tabOk rfl rfl ?_ | refine ro3 tabOk rfl rfl ?_ | refine rd1 tabOk rfl rfl ?_ | refine rd2 tabOk rfl rfl ?_ | refine rd3 tabOk rfl rfl ?_ | ((first | apply oR rfl rfl | (apply dF rfl rfl rfl; intro _) | (apply dP rfl rfl rfl; intro _) | (apply dL rfl rfl rfl; intro _) | apply dC rfl rfl rfl rfl); (focus (first | exact cJ | exact mG | exact bT | exact nD)); try exact kQ) | refine xS ?_ | refine xR ?_ | refine qxa rfl rfl mixed ?_ | refine qxb rfl rfl mixed ?_ | refine qxc rfl rfl mixed ?_ | refine qxd rfl rfl mixed ?_ | refine xB ?_ | refine xt rfl ?_ | refine xf rfl ?_))
      (first | refine Ret_int (vC vT vN) rfl ?_ | refine Ret_bool (vC vT vN) rfl ?_ | refine Ret_g (vC vT vN) rfl ?_ | refine Ret_int (vC (vA (AG rfl) (SZ rfl) rfl rfl (lB rfl)) vN) rfl ?_ | refine Ret_bool (vC (vA (AG rfl) (SZ rfl) rfl rfl (lB rfl)) vN) rfl ?_ | refine Ret_g (vC (vA (AG rfl) (SZ rfl) rfl rfl (lB rfl)) vN) rfl ?_)
      simp [listT, Tr.g, gs_eq, packEs_eq]
set_option maxRecDepth 100000 in
set_option maxHeartbeats 8000000 in
theorem reftests_pc : ∀ (m : Nat) (l : List VTest), SizeOf.sizeOf l ≤ m → gbulks (l.map VTest.g) ≤ 250000000 → PC Try.prog 40 [.g (.sl (VTest.gs l))] ⟨[], [], []⟩ (.g (listT (packTs l)).g) ⟨[], [], []⟩
  | 0, l, hm, _ => by cases l <;> simp at hm
  | m + 1, l, hm, hb => by
    have hln : l.length ≤ 250000000 := by have := map_len VTest.one l; omega
    have hgl : (VTest.gs l).length = l.length := by rw [VTest.gs_eq]; simp
    refine PC_of_PW Try.func40 rfl rfl (rs := _) rfl (Nat.le_of_ble_eq_true (by kernel_rfl)) ?_
    (repeat (first | ((first | refine qA ?_ | refine qB ?_ | refine xN ?_ | refine xE ?_ | refine xT ?_); try show PW _ _ _ _ _ _) | refine ro1 tabOk rfl rfl ?_ | refine ro2 tabOk rfl rfl ?_ | refine ro3 tabOk rfl rfl ?_ | refine rd1 tabOk rfl rfl ?_ | refine rd2 tabOk rfl rfl ?_ | refine rd3 tabOk rfl rfl ?_ | ((first | apply oR rfl rfl | (apply dF rfl rfl rfl; intro _) | (apply dP rfl rfl rfl; intro _) | (apply dL rfl rfl rfl; intro _) | apply dC rfl rfl rfl rfl); (focus (first | exact cb [true, true, true, true] rfl rfl (EN rfl) (ofnil_pc _ _ _) rfl rfl rfl rfl rfl rfl rfl rfl rfl rfl rfl | exact cJ | exact mG | exact bT | exact nD)); try exact kQ) | refine xS ?_ | refine xR ?_ | refine qxa rfl rfl mixed ?_ | refine qxb rfl rfl mixed ?_ | refine qxc rfl rfl mixed ?_ | refine qxd rfl rfl mixed ?_ | refine xB ?_ | refine xt rfl ?_ | refine xf rfl ?_))
    refine PW_bufbox 1 3 30 (SZ rfl) rfl rfl ?_
    refine PW_loop_cut (S := Nat) (fun i => [(2, .ptr 0 0), (3, .ptr 1 0), (7, .g (.sl (VTest.gs l))), (8, .g (.int .i64 l.length)), (9, .g (.int .i64 i))])
      (fun i => ⟨[[.g (.int .i64 0), .g (.int .i64 0), .g (.str ⟨#[]⟩), .nils], [.g (.int .i64 0), .g (.int .i64 0), .g (.str ⟨#[]⟩), .own (((l.take i).map packT).map Tr.g) 0]], [(30, i)], []⟩)
      (fun i => i ≤ l.length) (fun i => l.length - i) 0 (Nat.zero_le _) (SlotsOk.le ⟨.inl rfl, .inl rfl, .inl rfl, .inl (congrArg (fun k : Nat => PV.g (.int .i64 k)) hgl), .inl rfl, trivial⟩) (HLe.of_eq rfl) (fun _ => rfl) (fun i hi => ?_)
    (repeat (first | ((first | refine qA ?_ | refine qB ?_ | refine xN ?_ | refine xE ?_ | refine xT ?_); try show PW _ _ _ _ _ _) | refine ro1 tabOk rfl rfl ?_ | refine ro2 tabOk rfl rfl ?_ | refine ro3 tabOk rfl rfl ?_ | refine rd1 tabOk rfl rfl ?_ | refine rd2 tabOk rfl rfl ?_ | refine rd3 tabOk rfl rfl ?_ | ((first | apply oR rfl rfl | (apply dF rfl rfl rfl; intro _) | (apply dP rfl rfl rfl; intro _) | (apply dL rfl rfl rfl; intro _) | apply dC rfl rfl rfl rfl); (focus (first | exact cJ | exact mG | exact bT | exact nD)); try exact kQ) | refine xS ?_ | refine xR ?_ | refine qxa rfl rfl mixed ?_ | refine qxb rfl rfl mixed ?_ | refine qxc rfl rfl mixed ?_ | refine qxd rfl rfl mixed ?_ | refine xB ?_ | refine xt rfl ?_ | refine xf rfl ?_))
    (first | refine POps_split rfl rfl (fun h => ?_) (fun h => ?_) | refine POpsD_split rfl rfl (fun h => ?_) (fun h => ?_) | refine PW_cond rfl (fun h => ?_) (fun h => ?_))
    · have hlt : i < l.length := by have := of_decide_eq_true h; omega
      have hg : (VTest.gs l)[((i : Int)).toNat]? = some l[i].g := by rw [VTest.gs_eq]; exact map_get hlt
      have hT := map_take (f := fun x => (packT x).g) hlt
      have hbi := map_bulk (f := VTest.g) hlt
      have hsz := List.sizeOf_lt_of_mem (List.getElem_mem hlt)
      generalize l[i] = v at hg hT hbi hsz
      obtain ⟨k, a, b, oa, ob, es⟩ := v
      have hbl := tbulk (kind := k) (a := a) (b := b) (oa := oa) (ob := ob) (kids := es)
      have hI := reftests_pc m es (by simp at hsz; omega) (by omega)
      have hA := refvalue_pc _ a (Nat.le_refl _) (by omega)
      have hB := refvalue_pc _ b (Nat.le_refl _) (by omega)
      have h1 := yes_pc oa
      have h2 := yes_pc ob
      have hO := of_pc 0 k ⟨#[]⟩ [packV a, packV b, numT (flagN oa), numT (flagN ob), listT (packTs es)]
      have hxs : ∀ x ∈ [(packT (.mk k a b oa ob es)).g], x.cells.length = 4 := by
        intro x hx; rw [List.mem_singleton.1 hx]; exact g_cells _
      obtain ⟨vk, vy, vc, ve, vs, vl⟩ := a
      obtain ⟨uk, uy, uc, ue, us, ul⟩ := b
      clear hsz hbi hbl hm hb
      (repeat (first | ((first | refine qA ?_ | refine qB ?_ | refine xN ?_ | refine xE ?_ | refine xT ?_); try show PW _ _ _ _ _ _) | refine ro1 tabOk rfl rfl ?_ | refine ro2 tabOk rfl rfl ?_ | refine ro3 tabOk rfl rfl ?_ | refine rd1 tabOk rfl rfl ?_ | refine rd2 tabOk rfl rfl ?_ | refine rd3 tabOk rfl rfl ?_ | ((first | apply oR rfl rfl | (apply dF rfl rfl rfl; intro _) | (apply dP rfl rfl rfl; intro _) | (apply dL rfl rfl rfl; intro _) | apply dC rfl rfl rfl rfl); (focus (first | exact iA rfl (EL rfl) (SZ rfl) rfl rfl (Int.natCast_nonneg _) hg rfl | exact cqP hI | exact cqP hA | exact cqP hB | exact cqP h1 | exact cqP h2 | exact cqP hO | exact aP (xs := [(packT (.mk k (.mk vk vy vc ve vs vl) (.mk uk uy uc ue us ul) oa ob es)).g]) rfl (EL rfl) (SZ rfl) (BY rfl) (ZR rfl) rfl rfl rfl rfl (by simp; omega) hxs (by simp; omega) (by simp [maxLen]; omega) | exact cJ | exact mG | exact bT | exact nD)); try exact kQ) | refine xS ?_ | refine xR ?_ | refine qxa rfl rfl mixed ?_ | refine qxb rfl rfl mixed ?_ | refine qxc rfl rfl mixed ?_ | refine qxd rfl rfl mixed ?_ | refine xB ?_ | refine xt rfl ?_ | refine xf rfl ?_))
      refine ⟨i + 1, hlt, by omega, SlotsOk.le ⟨.inl rfl, .inl rfl, .inl rfl, .inl rfl, .inl (congrArg (fun k => PV.g (.int .i64 k)) (wrap64 (by omega))), trivial⟩, Drops.mk [(VTest.mk k (.mk vk vy vc ve vs vl) (.mk uk uy uc ue us ul) oa ob es).g.cells.map PV.g] [] [] ?_⟩
      rw [List.map_map, List.map_map, show (Tr.g ∘ packT) = (fun x => (packT x).g) from rfl, hT]
      rfl
    · have hi' : i = l.length := by have := of_decide_eq_false h; omega
      subst hi'
      (repeat (first | ((first | refine qA ?_ | refine qB ?_ | refine xN ?_ | refine xE ?_ | refine xT ?_); try show PW _ _ _ _ _ _) | refine ro1 tabOk rfl rfl ?_ | refine ro2 tabOk rfl rfl ?_ | refine ro3 tabOk rfl rfl ?_ | refine rd1 tabOk rfl rfl ?_ | refine rd2 tabOk rfl rfl ?_ | refine rd3 tabOk rfl rfl ?_ | ((first | apply oR rfl rfl | (apply dF rfl rfl rfl; intro _) | (apply dP rfl rfl rfl; intro _) | (apply dL rfl rfl rfl; intro _) | apply dC rfl rfl rfl rfl); (focus (first | exact cJ | exact mG | exact bT | exact nD)); try exact kQ) | refine xS ?_ | refine xR ?_ | refine qxa rfl rfl mixed ?_ | refine qxb rfl rfl mixed ?_ | refine qxc rfl rfl mixed ?_ | refine qxd rfl rfl mixed ?_ | refine xB ?_ | refine xt rfl ?_ | refine xf rfl ?_))
      (first | refine Ret_int (vC vT vN) rfl ?_ | refine Ret_bool (vC vT vN) rfl ?_ | refine Ret_g (vC vT vN) rfl ?_ | refine Ret_int (vC (vA (AG rfl) (SZ rfl) rfl rfl (lB rfl)) vN) rfl ?_ | refine Ret_bool (vC (vA (AG rfl) (SZ rfl) rfl rfl (lB rfl)) vN) rfl ?_ | refine Ret_g (vC (vA (AG rfl) (SZ rfl) rfl rfl (lB rfl)) vN) rfl ?_)
      simp [listT, Tr.g, gs_eq, packTs_eq]
set_option maxRecDepth 100000 in
set_option maxHeartbeats 8000000 in
theorem refcols_pc (l : List VCol) (hb : gbulks (l.map VCol.g) ≤ 250000000) : PC Try.prog 42 [.g (.sl (VCol.gs l))] ⟨[], [], []⟩ (.g (listT (l.map packC)).g) ⟨[], [], []⟩ := by
  have hln : l.length ≤ 250000000 := by have := map_len VCol.one l; omega
  have hgl : (VCol.gs l).length = l.length := by simp [VCol.gs]
  refine PC_of_PW Try.func42 rfl rfl (rs := _) rfl (Nat.le_of_ble_eq_true (by kernel_rfl)) ?_
  (repeat (first | ((first | refine qA ?_ | refine qB ?_ | refine xN ?_ | refine xE ?_ | refine xT ?_); try show PW _ _ _ _ _ _) | refine ro1 tabOk rfl rfl ?_ | refine ro2 tabOk rfl rfl ?_ | refine ro3 tabOk rfl rfl ?_ | refine rd1 tabOk rfl rfl ?_ | refine rd2 tabOk rfl rfl ?_ | refine rd3 tabOk rfl rfl ?_ | ((first | apply oR rfl rfl | (apply dF rfl rfl rfl; intro _) | (apply dP rfl rfl rfl; intro _) | (apply dL rfl rfl rfl; intro _) | apply dC rfl rfl rfl rfl); (focus (first | exact cb [true, true, true, true] rfl rfl (EN rfl) (ofnil_pc _ _ _) rfl rfl rfl rfl rfl rfl rfl rfl rfl rfl rfl | exact cJ | exact mG | exact bT | exact nD)); try exact kQ) | refine xS ?_ | refine xR ?_ | refine qxa rfl rfl mixed ?_ | refine qxb rfl rfl mixed ?_ | refine qxc rfl rfl mixed ?_ | refine qxd rfl rfl mixed ?_ | refine xB ?_ | refine xt rfl ?_ | refine xf rfl ?_))
  refine PW_bufbox 1 3 30 (SZ rfl) rfl rfl ?_
  refine PW_loop_cut (S := Nat) (fun i => [(2, .ptr 0 0), (3, .ptr 1 0), (7, .g (.sl (VCol.gs l))), (8, .g (.int .i64 l.length)), (9, .g (.int .i64 i))])
    (fun i => ⟨[[.g (.int .i64 0), .g (.int .i64 0), .g (.str ⟨#[]⟩), .nils], [.g (.int .i64 0), .g (.int .i64 0), .g (.str ⟨#[]⟩), .own (((l.take i).map packC).map Tr.g) 0]], [(30, i)], []⟩)
    (fun i => i ≤ l.length) (fun i => l.length - i) 0 (Nat.zero_le _) (SlotsOk.le ⟨.inl rfl, .inl rfl, .inl rfl, .inl (congrArg (fun k : Nat => PV.g (.int .i64 k)) hgl), .inl rfl, trivial⟩) (HLe.of_eq rfl) (fun _ => rfl) (fun i hi => ?_)
  (repeat (first | ((first | refine qA ?_ | refine qB ?_ | refine xN ?_ | refine xE ?_ | refine xT ?_); try show PW _ _ _ _ _ _) | refine ro1 tabOk rfl rfl ?_ | refine ro2 tabOk rfl rfl ?_ | refine ro3 tabOk rfl rfl ?_ | refine rd1 tabOk rfl rfl ?_ | refine rd2 tabOk rfl rfl ?_ | refine rd3 tabOk rfl rfl ?_ | ((first | apply oR rfl rfl | (apply dF rfl rfl rfl; intro _) | (apply dP rfl rfl rfl; intro _) | (apply dL rfl rfl rfl; intro _) | apply dC rfl rfl rfl rfl); (focus (first | exact cJ | exact mG | exact bT | exact nD)); try exact kQ) | refine xS ?_ | refine xR ?_ | refine qxa rfl rfl mixed ?_ | refine qxb rfl rfl mixed ?_ | refine qxc rfl rfl mixed ?_ | refine qxd rfl rfl mixed ?_ | refine xB ?_ | refine xt rfl ?_ | refine xf rfl ?_))
  (first | refine POps_split rfl rfl (fun h => ?_) (fun h => ?_) | refine POpsD_split rfl rfl (fun h => ?_) (fun h => ?_) | refine PW_cond rfl (fun h => ?_) (fun h => ?_))
  · have hlt : i < l.length := by have := of_decide_eq_true h; omega
    have hg : (VCol.gs l)[((i : Int)).toNat]? = some l[i].g := map_get hlt
    have hT := map_take (f := fun x => (packC x).g) hlt
    have hbi := map_bulk (f := VCol.g) hlt
    generalize l[i] = v at hg hT hbi
    obtain ⟨n, k, o⟩ := v
    have hbl := cbulk (name := n) (kind := k) (order := o)
    have hV := refvalues_pc o (fun x hx => refvalue_pc _ x (Nat.le_refl _) (by
      obtain ⟨j, hj, rfl⟩ := List.getElem_of_mem hx
      have := map_bulk (f := VVal.g) hj; omega)) (by omega)
    rw [← vgs, ← gs_eq, ← packVs_eq] at hV
    have hO1 := of_pc 0 0 ⟨#[]⟩ (packVs o)
    have hO2 := of_pc 0 k n [listT (packVs o)]
    have hxs : ∀ x ∈ [(packC (.mk n k o)).g], x.cells.length = 4 := by
      intro x hx; rw [List.mem_singleton.1 hx]; exact g_cells _
    clear hbi hbl hb
    (repeat (first | ((first | refine qA ?_ | refine qB ?_ | refine xN ?_ | refine xE ?_ | refine xT ?_); try show PW _ _ _ _ _ _) | refine ro1 tabOk rfl rfl ?_ | refine ro2 tabOk rfl rfl ?_ | refine ro3 tabOk rfl rfl ?_ | refine rd1 tabOk rfl rfl ?_ | refine rd2 tabOk rfl rfl ?_ | refine rd3 tabOk rfl rfl ?_ | ((first | apply oR rfl rfl | (apply dF rfl rfl rfl; intro _) | (apply dP rfl rfl rfl; intro _) | (apply dL rfl rfl rfl; intro _) | apply dC rfl rfl rfl rfl); (focus (first | exact iA rfl (EL rfl) (SZ rfl) rfl rfl (Int.natCast_nonneg _) hg rfl | exact cqP hV | exact cqP hO1 | exact cqP hO2 | exact aP (xs := [(packC (.mk n k o)).g]) rfl (EL rfl) (SZ rfl) (BY rfl) (ZR rfl) rfl rfl rfl rfl (by simp; omega) hxs (by simp; omega) (by simp [maxLen]; omega) | exact cJ | exact mG | exact bT | exact nD)); try exact kQ) | refine xS ?_ | refine xR ?_ | refine qxa rfl rfl mixed ?_ | refine qxb rfl rfl mixed ?_ | refine qxc rfl rfl mixed ?_ | refine qxd rfl rfl mixed ?_ | refine xB ?_ | refine xt rfl ?_ | refine xf rfl ?_))
    refine ⟨i + 1, hlt, by omega, SlotsOk.le ⟨.inl rfl, .inl rfl, .inl rfl, .inl rfl, .inl (congrArg (fun k => PV.g (.int .i64 k)) (wrap64 (by omega))), trivial⟩, Drops.mk [(VCol.mk n k o).g.cells.map PV.g] [] [] ?_⟩
    rw [List.map_map, List.map_map, show (Tr.g ∘ packC) = (fun x => (packC x).g) from rfl, hT]
    rfl
  · have hi' : i = l.length := by have := of_decide_eq_false h; omega
    subst hi'
    (repeat (first | ((first | refine qA ?_ | refine qB ?_ | refine xN ?_ | refine xE ?_ | refine xT ?_); try show PW _ _ _ _ _ _) | refine ro1 tabOk rfl rfl ?_ | refine ro2 tabOk rfl rfl ?_ | refine ro3 tabOk rfl rfl ?_ | refine rd1 tabOk rfl rfl ?_ | refine rd2 tabOk rfl rfl ?_ | refine rd3 tabOk rfl rfl ?_ | ((first | apply oR rfl rfl | (apply dF rfl rfl rfl; intro _) | (apply dP rfl rfl rfl; intro _) | (apply dL rfl rfl rfl; intro _) | apply dC rfl rfl rfl rfl); (focus (first | exact cJ | exact mG | exact bT | exact nD)); try exact kQ) | refine xS ?_ | refine xR ?_ | refine qxa rfl rfl mixed ?_ | refine qxb rfl rfl mixed ?_ | refine qxc rfl rfl mixed ?_ | refine qxd rfl rfl mixed ?_ | refine xB ?_ | refine xt rfl ?_ | refine xf rfl ?_))
    (first | refine Ret_int (vC vT vN) rfl ?_ | refine Ret_bool (vC vT vN) rfl ?_ | refine Ret_g (vC vT vN) rfl ?_ | refine Ret_int (vC (vA (AG rfl) (SZ rfl) rfl rfl (lB rfl)) vN) rfl ?_ | refine Ret_bool (vC (vA (AG rfl) (SZ rfl) rfl rfl (lB rfl)) vN) rfl ?_ | refine Ret_g (vC (vA (AG rfl) (SZ rfl) rfl rfl (lB rfl)) vN) rfl ?_)
    simp [listT, Tr.g, gs_eq]

set_option maxRecDepth 100000 in
set_option maxHeartbeats 8000000 in
theorem refpack_pc (e : VCmd) (hb : gbulk e.g ≤ 250000000) : PC Try.prog 14 [.g e.g] ⟨[], [], []⟩ (.g (packCmd e).g) ⟨[], [], []⟩ := by
  obtain ⟨session, seq, kind, ⟨tname, policy, ins, outs, rules⟩, name, to⟩ := e
  have hb1 := cmdbulk (a := session) (b := seq) (c := kind) (t := ⟨tname, policy, ins, outs, rules⟩) (n := name) (d := to)
  have hb2 := tabbulk (name := tname) (pol := policy) (ins := ins) (outs := outs) (rules := rules)
  have hln : rules.length ≤ 250000000 := by have := map_len VRule.one rules; omega
  have hgl : (VRule.gs rules).length = rules.length := by simp [VRule.gs]
  have hI := refcols_pc ins (by omega)
  have hU := refcols_pc outs (by omega)
  have hO1 := of_pc 0 policy tname [listT (ins.map packC), listT (outs.map packC), listT (rules.map packR)]
  have hO2 := of_pc 0 kind name [numT session, numT seq, numT to, .mk 0 policy tname [listT (ins.map packC), listT (outs.map packC), listT (rules.map packR)]]
  refine PC_of_PW Try.func14 rfl rfl (rs := _) rfl (Nat.le_of_ble_eq_true (by kernel_rfl)) ?_
  (repeat (first | ((first | refine qA ?_ | refine qB ?_ | refine xN ?_ | refine xE ?_ | refine xT ?_); try show PW _ _ _ _ _ _) | refine ro1 tabOk rfl rfl ?_ | refine ro2 tabOk rfl rfl ?_ | refine ro3 tabOk rfl rfl ?_ | refine rd1 tabOk rfl rfl ?_ | refine rd2 tabOk rfl rfl ?_ | refine rd3 tabOk rfl rfl ?_ | ((first | apply oR rfl rfl | (apply dF rfl rfl rfl; intro _) | (apply dP rfl rfl rfl; intro _) | (apply dL rfl rfl rfl; intro _) | apply dC rfl rfl rfl rfl); (focus (first | exact cb [true, true, true, true] rfl rfl (EN rfl) (ofnil_pc _ _ _) rfl rfl rfl rfl rfl rfl rfl rfl rfl rfl rfl | exact cJ | exact mG | exact bT | exact nD)); try exact kQ) | refine xS ?_ | refine xR ?_ | refine qxa rfl rfl mixed ?_ | refine qxb rfl rfl mixed ?_ | refine qxc rfl rfl mixed ?_ | refine qxd rfl rfl mixed ?_ | refine xB ?_ | refine xt rfl ?_ | refine xf rfl ?_))
  refine PW_bufbox 2 3 30 (SZ rfl) rfl rfl ?_
  refine PW_loop_cut (S := Nat) (fun i => [(1, .ptr 0 0), (2, .ptr 1 0), (3, .ptr 2 0), (9, .g (.sl (VRule.gs rules))), (10, .g (.int .i64 rules.length)), (11, .g (.int .i64 i))])
    (fun i => ⟨[(VCmd.mk session seq kind ⟨tname, policy, ins, outs, rules⟩ name to).g.cells.map PV.g, [.g (.int .i64 0), .g (.int .i64 0), .g (.str ⟨#[]⟩), .nils], [.g (.int .i64 0), .g (.int .i64 0), .g (.str ⟨#[]⟩), .own (((rules.take i).map packR).map Tr.g) 0]], [(30, i)], []⟩)
    (fun i => i ≤ rules.length) (fun i => rules.length - i) 0 (Nat.zero_le _) (SlotsOk.le ⟨.inl rfl, .inl rfl, .inl rfl, .inl rfl, .inl (congrArg (fun k : Nat => PV.g (.int .i64 k)) hgl), .inl rfl, trivial⟩) (HLe.of_eq rfl) (fun _ => rfl) (fun i hi => ?_)
  (repeat (first | ((first | refine qA ?_ | refine qB ?_ | refine xN ?_ | refine xE ?_ | refine xT ?_); try show PW _ _ _ _ _ _) | refine ro1 tabOk rfl rfl ?_ | refine ro2 tabOk rfl rfl ?_ | refine ro3 tabOk rfl rfl ?_ | refine rd1 tabOk rfl rfl ?_ | refine rd2 tabOk rfl rfl ?_ | refine rd3 tabOk rfl rfl ?_ | ((first | apply oR rfl rfl | (apply dF rfl rfl rfl; intro _) | (apply dP rfl rfl rfl; intro _) | (apply dL rfl rfl rfl; intro _) | apply dC rfl rfl rfl rfl); (focus (first | exact cJ | exact mG | exact bT | exact nD)); try exact kQ) | refine xS ?_ | refine xR ?_ | refine qxa rfl rfl mixed ?_ | refine qxb rfl rfl mixed ?_ | refine qxc rfl rfl mixed ?_ | refine qxd rfl rfl mixed ?_ | refine xB ?_ | refine xt rfl ?_ | refine xf rfl ?_))
  (first | refine POps_split rfl rfl (fun h => ?_) (fun h => ?_) | refine POpsD_split rfl rfl (fun h => ?_) (fun h => ?_) | refine PW_cond rfl (fun h => ?_) (fun h => ?_))
  · have hlt : i < rules.length := by have := of_decide_eq_true h; omega
    have hg : (VRule.gs rules)[((i : Int)).toNat]? = some rules[i].g := map_get hlt
    have hT := map_take (f := fun x => (packR x).g) hlt
    have hbi := map_bulk (f := VRule.g) hlt
    generalize rules[i] = v at hg hT hbi
    obtain ⟨ts, os⟩ := v
    have hbl := rbulk (t := ts) (o := os)
    have hA := reftests_pc _ ts (Nat.le_refl _) (by omega)
    have hB := refexprs_pc _ os (Nat.le_refl _) (by omega)
    have hO := of_pc 0 0 ⟨#[]⟩ [listT (packTs ts), listT (packEs os)]
    have hxs : ∀ x ∈ [(packR (.mk ts os)).g], x.cells.length = 4 := by
      intro x hx; rw [List.mem_singleton.1 hx]; exact g_cells _
    clear hbi hbl hb
    (repeat (first | ((first | refine qA ?_ | refine qB ?_ | refine xN ?_ | refine xE ?_ | refine xT ?_); try show PW _ _ _ _ _ _) | refine ro1 tabOk rfl rfl ?_ | refine ro2 tabOk rfl rfl ?_ | refine ro3 tabOk rfl rfl ?_ | refine rd1 tabOk rfl rfl ?_ | refine rd2 tabOk rfl rfl ?_ | refine rd3 tabOk rfl rfl ?_ | ((first | apply oR rfl rfl | (apply dF rfl rfl rfl; intro _) | (apply dP rfl rfl rfl; intro _) | (apply dL rfl rfl rfl; intro _) | apply dC rfl rfl rfl rfl); (focus (first | exact iA rfl (EL rfl) (SZ rfl) rfl rfl (Int.natCast_nonneg _) hg rfl | exact cqP hA | exact cqP hB | exact cqP hO | exact aP (xs := [(packR (.mk ts os)).g]) rfl (EL rfl) (SZ rfl) (BY rfl) (ZR rfl) rfl rfl rfl rfl (by simp; omega) hxs (by simp; omega) (by simp [maxLen]; omega) | exact cJ | exact mG | exact bT | exact nD)); try exact kQ) | refine xS ?_ | refine xR ?_ | refine qxa rfl rfl mixed ?_ | refine qxb rfl rfl mixed ?_ | refine qxc rfl rfl mixed ?_ | refine qxd rfl rfl mixed ?_ | refine xB ?_ | refine xt rfl ?_ | refine xf rfl ?_))
    refine ⟨i + 1, hlt, by omega, SlotsOk.le ⟨.inl rfl, .inl rfl, .inl rfl, .inl rfl, .inl rfl, .inl (congrArg (fun k => PV.g (.int .i64 k)) (wrap64 (by omega))), trivial⟩, Drops.mk [(VRule.mk ts os).g.cells.map PV.g] [] [] ?_⟩
    rw [List.map_map, List.map_map, show (Tr.g ∘ packR) = (fun x => (packR x).g) from rfl, hT]
    rfl
  · have hi' : i = rules.length := by have := of_decide_eq_false h; omega
    subst hi'
    rw [List.take_length, ← gs_eq]
    clear h
    (repeat (first | ((first | refine qA ?_ | refine qB ?_ | refine xN ?_ | refine xE ?_ | refine xT ?_); try show PW _ _ _ _ _ _) | refine ro1 tabOk rfl rfl ?_ | refine ro2 tabOk rfl rfl ?_ | refine ro3 tabOk rfl rfl ?_ | refine rd1 tabOk rfl rfl ?_ | refine rd2 tabOk rfl rfl ?_ | refine rd3 tabOk rfl rfl ?_ | ((first | apply oR rfl rfl | (apply dF rfl rfl rfl; intro _) | (apply dP rfl rfl rfl; intro _) | (apply dL rfl rfl rfl; intro _) | apply dC rfl rfl rfl rfl); (focus (first | exact cqP hI | exact cqP hU | exact cqP hO1 | exact cqP hO2 | exact cqP (of0_pc _ _ _) | exact cJ | exact mG | exact bT | exact nD)); try exact kQ) | refine xS ?_ | refine xR ?_ | refine qxa rfl rfl mixed ?_ | refine qxb rfl rfl mixed ?_ | refine qxc rfl rfl mixed ?_ | refine qxd rfl rfl mixed ?_ | refine xB ?_ | refine xt rfl ?_ | refine xf rfl ?_))
    (first | refine Ret_int (vC vT vN) rfl ?_ | refine Ret_bool (vC vT vN) rfl ?_ | refine Ret_g (vC vT vN) rfl ?_ | refine Ret_int (vC (vA (AG rfl) (SZ rfl) rfl rfl (lB rfl)) vN) rfl ?_ | refine Ret_bool (vC (vA (AG rfl) (SZ rfl) rfl rfl (lB rfl)) vN) rfl ?_ | refine Ret_g (vC (vA (AG rfl) (SZ rfl) rfl rfl (lB rfl)) vN) rfl ?_)
    rfl
end Go.Proofs.Ytffpepmfdjjjaaa


namespace Go.Proofs.Ytffpepmfdjjjaaa
open Go.Pure

/-! ### How much a packed thing holds -/
theorem packs_lo {α : Type} {f : α → GV} {pk : α → Tr} : ∀ {l : List α}, (∀ x ∈ l, gbulk (f x) ≤ gbulk (pk x).g) → gbulks (l.map f) ≤ gbulks (Tr.gs (l.map pk))
  | [], _ => by simp [Tr.gs]
  | x :: l, h => by
    have h1 := h x (by simp)
    have h2 := packs_lo (l := l) fun y hy => h y (List.mem_cons_of_mem _ hy)
    simp only [List.map_cons, gbulks, Tr.gs]; omega
theorem packs_hi {α : Type} {f : α → GV} {pk : α → Tr} : ∀ {l : List α}, (∀ x ∈ l, gbulk (pk x).g ≤ 8 * gbulk (f x)) → gbulks (Tr.gs (l.map pk)) ≤ 8 * gbulks (l.map f)
  | [], _ => by simp [Tr.gs, gbulks]
  | x :: l, h => by
    have h1 := h x (by simp)
    have h2 := packs_hi (l := l) fun y hy => h y (List.mem_cons_of_mem _ hy)
    simp only [List.map_cons, gbulks, Tr.gs]; omega
theorem tr_bulk (tag n : Int) (text : ByteArray) (kids : List Tr) : gbulk (Tr.mk tag n text kids).g = text.size + gbulks (Tr.gs kids) + 4 := by
  simp [Tr.g, gbulk, gbulks]; omega
theorem num_bulk (n : Int) : gbulk (numT n).g = 4 := by rw [numT, tr_bulk]; rfl
theorem list_bulk (l : List Tr) : gbulk (listT l).g = gbulks (Tr.gs l) + 4 := by
  rw [listT, tr_bulk, show (⟨#[]⟩ : ByteArray).size = 0 from rfl]; omega
theorem val_bulk (kind : Int) (yes : Bool) (coef exp : Int) (text : ByteArray) (list : List VVal) : gbulk (VVal.mk kind yes coef exp text list).g = text.size + gbulks (list.map VVal.g) + 6 := by
  simp [VVal.g, gbulk, gbulks, VVal.gs_eq]; omega
theorem expr_bulk (kind : Int) (val : VVal) (name : ByteArray) (kids : List VExpr) : gbulk (VExpr.mk kind val name kids).g = gbulk val.g + name.size + gbulks (kids.map VExpr.g) + 3 := by
  simp [VExpr.g, gbulk, gbulks, gbulks_append, VExpr.gs_eq, gbulk_cells]; omega
theorem test_bulk (kind : Int) (a b : VVal) (oa ob : Bool) (kids : List VTest) : gbulk (VTest.mk kind a b oa ob kids).g = gbulk a.g + gbulk b.g + gbulks (kids.map VTest.g) + 4 := by
  simp [VTest.g, gbulk, gbulks, gbulks_append, VTest.gs_eq, gbulk_cells]; omega
theorem col_bulk (name : ByteArray) (kind : Int) (order : List VVal) : gbulk (VCol.mk name kind order).g = name.size + gbulks (order.map VVal.g) + 3 := by
  simp [VCol.g, gbulk, gbulks, VVal.gs_eq]; omega
theorem rule_bulk (t : List VTest) (o : List VExpr) : gbulk (VRule.mk t o).g = gbulks (t.map VTest.g) + gbulks (o.map VExpr.g) + 2 := by
  simp [VRule.g, gbulk, gbulks, VTest.gs_eq, VExpr.gs_eq]; omega
theorem cmd_bulk (session seq kind : Int) (tname : ByteArray) (policy : Int) (ins outs : List VCol) (rules : List VRule) (name : ByteArray) (to : Int) :
    gbulk (VCmd.mk session seq kind (.mk tname policy ins outs rules) name to).g = tname.size + name.size + gbulks (ins.map VCol.g) + gbulks (outs.map VCol.g) + gbulks (rules.map VRule.g) + 10 := by
  simp [VCmd.g, VTable.g, GV.cells, gbulk, gbulks, VCol.gs, VRule.gs]; omega
theorem value_bulk : ∀ (m : Nat) (v : VVal), SizeOf.sizeOf v ≤ m → gbulk v.g ≤ gbulk (packV v).g ∧ gbulk (packV v).g ≤ 8 * gbulk v.g
  | 0, v, hm => by cases v; simp at hm
  | m + 1, .mk kind yes coef exp text list, hm => by
    have ih := fun (x : VVal) (hx : x ∈ list) => value_bulk m x (by have := List.sizeOf_lt_of_mem hx; simp at hm; omega)
    have h1 := packs_lo (fun x hx => (ih x hx).1)
    have h2 := packs_hi (fun x hx => (ih x hx).2)
    rw [packV, tr_bulk, val_bulk, packVs_eq]
    simp only [Tr.gs, gbulks, num_bulk]
    omega
theorem expr_bulks : ∀ (m : Nat) (v : VExpr), SizeOf.sizeOf v ≤ m → gbulk v.g ≤ gbulk (packE v).g ∧ gbulk (packE v).g ≤ 8 * gbulk v.g
  | 0, v, hm => by cases v; simp at hm
  | m + 1, .mk kind val name kids, hm => by
    have ih := fun (x : VExpr) (hx : x ∈ kids) => expr_bulks m x (by have := List.sizeOf_lt_of_mem hx; simp at hm; omega)
    have h1 := packs_lo (fun x hx => (ih x hx).1)
    have h2 := packs_hi (fun x hx => (ih x hx).2)
    have h3 := value_bulk _ val (Nat.le_refl _)
    rw [packE, tr_bulk, expr_bulk, packEs_eq]
    simp only [Tr.gs, gbulks, list_bulk]
    omega
theorem test_bulks : ∀ (m : Nat) (v : VTest), SizeOf.sizeOf v ≤ m → gbulk v.g ≤ gbulk (packT v).g ∧ gbulk (packT v).g ≤ 8 * gbulk v.g
  | 0, v, hm => by cases v; simp at hm
  | m + 1, .mk kind a b oa ob kids, hm => by
    have ih := fun (x : VTest) (hx : x ∈ kids) => test_bulks m x (by have := List.sizeOf_lt_of_mem hx; simp at hm; omega)
    have h1 := packs_lo (fun x hx => (ih x hx).1)
    have h2 := packs_hi (fun x hx => (ih x hx).2)
    have h3 := value_bulk _ a (Nat.le_refl _)
    have h4 := value_bulk _ b (Nat.le_refl _)
    rw [packT, tr_bulk, test_bulk, packTs_eq, show (⟨#[]⟩ : ByteArray).size = 0 from rfl]
    simp only [Tr.gs, gbulks, list_bulk, num_bulk]
    omega
theorem col_bulks (v : VCol) : gbulk v.g ≤ gbulk (packC v).g ∧ gbulk (packC v).g ≤ 8 * gbulk v.g := by
  obtain ⟨name, kind, order⟩ := v
  have ih := fun (x : VVal) (_ : x ∈ order) => value_bulk _ x (Nat.le_refl _)
  have h1 := packs_lo (fun x hx => (ih x hx).1)
  have h2 := packs_hi (fun x hx => (ih x hx).2)
  rw [packC, tr_bulk, col_bulk, packVs_eq]
  simp only [Tr.gs, gbulks, list_bulk]
  omega
theorem rule_bulks (v : VRule) : gbulk v.g ≤ gbulk (packR v).g ∧ gbulk (packR v).g ≤ 8 * gbulk v.g := by
  obtain ⟨t, o⟩ := v
  have ih := fun (x : VTest) (_ : x ∈ t) => test_bulks _ x (Nat.le_refl _)
  have ih2 := fun (x : VExpr) (_ : x ∈ o) => expr_bulks _ x (Nat.le_refl _)
  have h1 := packs_lo (fun x hx => (ih x hx).1)
  have h2 := packs_hi (fun x hx => (ih x hx).2)
  have h3 := packs_lo (fun x hx => (ih2 x hx).1)
  have h4 := packs_hi (fun x hx => (ih2 x hx).2)
  rw [packR, tr_bulk, rule_bulk, packTs_eq, packEs_eq, show (⟨#[]⟩ : ByteArray).size = 0 from rfl]
  simp only [Tr.gs, gbulks, list_bulk]
  omega
theorem cmd_bulks (v : VCmd) : gbulk v.g ≤ gbulk (packCmd v).g ∧ gbulk (packCmd v).g ≤ 8 * gbulk v.g := by
  obtain ⟨session, seq, kind, ⟨tname, policy, ins, outs, rules⟩, name, to⟩ := v
  have h1 := packs_lo (l := ins) (fun x _ => (col_bulks x).1)
  have h2 := packs_hi (l := ins) (fun x _ => (col_bulks x).2)
  have h3 := packs_lo (l := outs) (fun x _ => (col_bulks x).1)
  have h4 := packs_hi (l := outs) (fun x _ => (col_bulks x).2)
  have h5 := packs_lo (l := rules) (fun x _ => (rule_bulks x).1)
  have h6 := packs_hi (l := rules) (fun x _ => (rule_bulks x).2)
  rw [packCmd, tr_bulk, cmd_bulk]
  simp only [Tr.gs, gbulks, num_bulk, tr_bulk, list_bulk]
  omega

/-! ### What is packed comes back -/
theorem goP_pack {α : Type} {one : Tr → Bool → α × Bool} {pk : α → Tr} : ∀ (l : List α) (acc : List α), (∀ x ∈ l, one (pk x) false = (x, false)) → goP one (l.map pk) false acc = (acc ++ l, false)
  | [], acc, _ => by simp [goP]
  | x :: l, acc, h => by
    rw [List.map_cons, goP, if_neg (by decide), h x (by simp), goP_pack l _ fun y hy => h y (List.mem_cons_of_mem _ hy)]
    simp
theorem listP_pack {α : Type} {one : Tr → Bool → α × Bool} {pk : α → Tr} (l : List α) (h : ∀ x ∈ l, one (pk x) false = (x, false)) : listP one (listT (l.map pk)) false = (l, false) := by
  unfold listP headP listT
  have := goP_pack l [] h
  simpa [Tr.tag, Tr.num, Tr.text, Tr.kids] using this
theorem plain_num (n : Int) (b : Bool) : plainP (numT n) b = (n, b) := by
  unfold plainP numT
  simp [Tr.tag, Tr.num, Tr.text, Tr.kids]
theorem flag_num (y b : Bool) : flagP (numT (flagN y)) b = (y, b) := by
  unfold flagP
  rw [plain_num]
  cases y <;> simp [numT, flagN, Tr.num]
theorem unV_pack : ∀ (m : Nat) (v : VVal), SizeOf.sizeOf v ≤ m → unV (packV v) false = (v, false)
  | 0, v, hm => by cases v; simp at hm
  | m + 1, .mk kind yes coef exp text list, hm => by
    have ih := fun (x : VVal) (hx : x ∈ list) => unV_pack m x (by have := List.sizeOf_lt_of_mem hx; simp at hm; omega)
    rw [packV, unV]
    simp only [plain_num, flag_num, goV_eq, packVs_eq, if_true]
    rw [goP_pack list [] ih]
    simp
theorem unE_pack : ∀ (m : Nat) (v : VExpr), SizeOf.sizeOf v ≤ m → unE (packE v) false = (v, false)
  | 0, v, hm => by cases v; simp at hm
  | m + 1, .mk kind val name kids, hm => by
    have ih := fun (x : VExpr) (hx : x ∈ kids) => unE_pack m x (by have := List.sizeOf_lt_of_mem hx; simp at hm; omega)
    have h := listP_pack kids ih
    rw [packE, packEs_eq]
    unfold listT at h ⊢
    rw [unE, if_pos rfl]
    simp only [unV_pack _ val (Nat.le_refl _), goE_eq]
    unfold listP at h
    simp only [Tr.kids] at h
    rw [h]
theorem unT_pack : ∀ (m : Nat) (v : VTest), SizeOf.sizeOf v ≤ m → unT (packT v) false = (v, false)
  | 0, v, hm => by cases v; simp at hm
  | m + 1, .mk kind a b oa ob kids, hm => by
    have ih := fun (x : VTest) (hx : x ∈ kids) => unT_pack m x (by have := List.sizeOf_lt_of_mem hx; simp at hm; omega)
    have h := listP_pack kids ih
    rw [packT, packTs_eq]
    unfold listT at h ⊢
    rw [unT, if_pos rfl]
    simp only [if_true, unV_pack _ a (Nat.le_refl _), unV_pack _ b (Nat.le_refl _), flag_num, goT_eq]
    unfold listP at h
    simp only [Tr.kids] at h
    rw [h]
theorem unC_pack (v : VCol) : unC (packC v) false = (v, false) := by
  obtain ⟨name, kind, order⟩ := v
  have h := listP_pack order fun x _ => unV_pack _ x (Nat.le_refl _)
  rw [packC, packVs_eq]
  unfold unC
  have hp : partsP (.mk 0 kind name [listT (order.map packV)]) 1 false = ([listT (order.map packV)], false) := by simp [partsP, Tr.tag, Tr.kids]
  rw [hp]
  simp only [List.getD_cons_zero, h]
  rfl
theorem unR_pack (v : VRule) : unR (packR v) false = (v, false) := by
  obtain ⟨t, o⟩ := v
  have h1 := listP_pack t fun x _ => unT_pack _ x (Nat.le_refl _)
  have h2 := listP_pack o fun x _ => unE_pack _ x (Nat.le_refl _)
  rw [packR, packTs_eq, packEs_eq]
  unfold unR
  have hp : partsP (.mk 0 0 ⟨#[]⟩ [listT (t.map packT), listT (o.map packE)]) 2 false = ([listT (t.map packT), listT (o.map packE)], false) := by simp [partsP, Tr.tag, Tr.kids]
  rw [hp]
  simp only [List.getD_cons_zero, List.getD_cons_succ, Tr.num, Tr.text, and_self, if_true, h1, h2]
theorem unCmd_pack (v : VCmd) : unCmd (packCmd v) = (v, 0) := by
  obtain ⟨session, seq, kind, ⟨tname, policy, ins, outs, rules⟩, name, to⟩ := v
  have h1 := listP_pack ins fun x _ => unC_pack x
  have h2 := listP_pack outs fun x _ => unC_pack x
  have h3 := listP_pack rules fun x _ => unR_pack x
  have h0 : unCmd0 (packCmd (.mk session seq kind (.mk tname policy ins outs rules) name to)) = (.mk session seq kind (.mk tname policy ins outs rules) name to, false) := by
    rw [packCmd]
    unfold unCmd0
    have hp : partsP (.mk 0 kind name [numT session, numT seq, numT to, .mk 0 policy tname [listT (ins.map packC), listT (outs.map packC), listT (rules.map packR)]]) 4 false = ([numT session, numT seq, numT to, .mk 0 policy tname [listT (ins.map packC), listT (outs.map packC), listT (rules.map packR)]], false) := by simp [partsP, Tr.tag, Tr.kids]
    have hq : partsP (.mk 0 policy tname [listT (ins.map packC), listT (outs.map packC), listT (rules.map packR)]) 3 false = ([listT (ins.map packC), listT (outs.map packC), listT (rules.map packR)], false) := by simp [partsP, Tr.tag, Tr.kids]
    rw [hp]
    simp only [List.getD_cons_zero, List.getD_cons_succ, plain_num, hq, h1, h2, h3, Tr.num, Tr.text]
  unfold unCmd
  rw [h0]
  rfl

/-! ### What is taken apart well was packed -/
theorem goP_back {α : Type} {one : Tr → Bool → α × Bool} {pk : α → Tr} : ∀ (l : List Tr) (b : Bool) (acc r : List α), (∀ k ∈ l, ∀ b v, one k b = (v, false) → b = false ∧ pk v = k) → goP one l b acc = (r, false) → b = false ∧ ∃ xs, r = acc ++ xs ∧ xs.map pk = l
  | [], b, acc, r, _, h => by
    simp only [goP, Prod.mk.injEq] at h
    exact ⟨h.2, [], by simp [h.1], rfl⟩
  | k :: l, b, acc, r, hk, h => by
    rw [goP] at h
    cases b with
    | true => simp at h
    | false =>
      rw [if_neg (by decide)] at h
      obtain ⟨h1, xs, h2, h3⟩ := goP_back l _ _ _ (fun q hq => hk q (List.mem_cons_of_mem _ hq)) h
      have h4 := hk k (by simp) false (one k false).1 (Prod.ext rfl h1)
      exact ⟨rfl, (one k false).1 :: xs, by rw [h2]; simp, by rw [List.map_cons, h4.2, h3]⟩
theorem listP_back {α : Type} {one : Tr → Bool → α × Bool} {pk : α → Tr} {t : Tr} {b : Bool} {r : List α} (hk : ∀ k ∈ t.kids, ∀ b v, one k b = (v, false) → b = false ∧ pk v = k) (h : listP one t b = (r, false)) : b = false ∧ listT (r.map pk) = t := by
  obtain ⟨tag, n, text, kids⟩ := t
  unfold listP at h
  obtain ⟨h1, xs, h2, h3⟩ := goP_back _ _ _ _ hk h
  unfold headP at h1
  split at h1
  · rename_i h4
    simp only [Tr.tag, Tr.num, Tr.text] at h4
    obtain ⟨rfl, rfl, rfl⟩ := h4
    refine ⟨h1, ?_⟩
    rw [h2, List.nil_append, h3]
    rfl
  · cases h1
theorem plain_back {t : Tr} {b : Bool} (h : (plainP t b).2 = false) : b = false ∧ numT (plainP t b).1 = t := by
  obtain ⟨tag, n, text, kids⟩ := t
  unfold plainP at h ⊢
  dsimp only at h ⊢
  split at h
  · rename_i h1
    simp only [Tr.tag, Tr.text, Tr.kids] at h1
    obtain ⟨rfl, rfl, rfl⟩ := h1
    exact ⟨h, rfl⟩
  · cases h
theorem flag_back {t : Tr} {b : Bool} (h : (flagP t b).2 = false) : b = false ∧ numT (flagN (flagP t b).1) = t := by
  unfold flagP at h ⊢
  dsimp only at h ⊢
  split at h
  · rename_i h1
    obtain ⟨h2, h3⟩ := plain_back h
    refine ⟨h2, ?_⟩
    rw [← h3]
    have : (plainP t b).1 = t.num := rfl
    rw [this]
    rcases h1 with h1 | h1 <;> rw [h1] <;> rfl
  · cases h
theorem unV_back : ∀ (m : Nat) (t : Tr) (b : Bool) (v : VVal), SizeOf.sizeOf t ≤ m → unV t b = (v, false) → b = false ∧ packV v = t
  | 0, t, b, v, hm, _ => by cases t; simp at hm
  | m + 1, .mk tag n text [], b, v, hm, h => by simp [unV] at h
  | m + 1, .mk tag n text [_], b, v, hm, h => by simp [unV] at h
  | m + 1, .mk tag n text [_, _], b, v, hm, h => by simp [unV] at h
  | m + 1, .mk tag n text (k0 :: k1 :: k2 :: rest), b, v, hm, h => by
    rw [unV] at h
    simp only [goV_eq] at h
    generalize hbt : (if tag = (plainP k2 (flagP k1 (plainP k0 b).2).2).1 % 256 then (plainP k2 (flagP k1 (plainP k0 b).2).2).2 else true) = bt at h
    generalize hG : goP unV rest bt [] = G at h
    obtain ⟨r, rb⟩ := G
    simp only [Prod.mk.injEq] at h
    obtain ⟨hv, rfl⟩ := h
    have hrest : SizeOf.sizeOf rest ≤ m := by simp at hm; omega
    obtain ⟨h1, xs, h2, h3⟩ := goP_back rest _ [] _ (fun k hk b v hu => unV_back m k b v (by have := List.sizeOf_lt_of_mem hk; omega) hu) hG
    rw [h1] at hbt
    split at hbt
    · rename_i ht
      have h1 := hbt
      obtain ⟨g1, g2⟩ := plain_back h1
      obtain ⟨g3, g4⟩ := flag_back g1
      obtain ⟨g5, g6⟩ := plain_back g3
      refine ⟨g5, ?_⟩
      rw [← hv, h2, packV, packVs_eq, List.nil_append, h3, g2, g4, g6, ht]
    · cases hbt
theorem unE_back : ∀ (m : Nat) (t : Tr) (b : Bool) (v : VExpr), SizeOf.sizeOf t ≤ m → unE t b = (v, false) → b = false ∧ packE v = t
  | 0, t, b, v, hm, _ => by cases t; simp at hm
  | m + 1, .mk tag n text [], b, v, hm, h => by have := congrArg Prod.snd h; cases this
  | m + 1, .mk tag n text [_], b, v, hm, h => by have := congrArg Prod.snd h; cases this
  | m + 1, .mk tag n text (_ :: .mk _ _ _ _ :: _ :: _), b, v, hm, h => by have := congrArg Prod.snd h; cases this
  | m + 1, .mk tag n text [p0, .mk a1 a2 a3 a4], b, v, hm, h => by
    rw [unE] at h
    split at h
    · rename_i ht
      simp only [goE_eq, Prod.mk.injEq] at h
      obtain ⟨hv, hb⟩ := h
      have hL : listP unE (.mk a1 a2 a3 a4) (unV p0 b).2 = (goP unE a4 (headP (.mk a1 a2 a3 a4) (unV p0 b).2) [], false).1 := rfl
      obtain ⟨h1, h2⟩ := listP_back (pk := packE) (fun k hk b v hu => unE_back m k b v (by have := List.sizeOf_lt_of_mem hk; simp only [Tr.kids] at this; simp at hm; omega) hu) (hL.trans (Prod.ext rfl hb))
      obtain ⟨h3, h4⟩ := unV_back _ p0 b (unV p0 b).1 (Nat.le_refl _) (Prod.ext rfl h1)
      refine ⟨h3, ?_⟩
      rw [← hv, packE, packEs_eq, h2, h4, ht]
    · have := congrArg Prod.snd h; cases this
theorem unT_back : ∀ (m : Nat) (t : Tr) (b : Bool) (v : VTest), SizeOf.sizeOf t ≤ m → unT t b = (v, false) → b = false ∧ packT v = t
  | 0, t, b, v, hm, _ => by cases t; simp at hm
  | m + 1, .mk tag n text [], b, v, hm, h => by have := congrArg Prod.snd h; cases this
  | m + 1, .mk tag n text [_], b, v, hm, h => by have := congrArg Prod.snd h; cases this
  | m + 1, .mk tag n text [_, _], b, v, hm, h => by have := congrArg Prod.snd h; cases this
  | m + 1, .mk tag n text [_, _, _], b, v, hm, h => by have := congrArg Prod.snd h; cases this
  | m + 1, .mk tag n text [_, _, _, _], b, v, hm, h => by have := congrArg Prod.snd h; cases this
  | m + 1, .mk tag n text (_ :: _ :: _ :: _ :: .mk _ _ _ _ :: _ :: _), b, v, hm, h => by have := congrArg Prod.snd h; cases this
  | m + 1, .mk tag n text [p0, p1, p2, p3, .mk a1 a2 a3 a4], b, v, hm, h => by
    rw [unT] at h
    split at h
    · rename_i ht
      simp only [goT_eq, Prod.mk.injEq] at h
      generalize hbt : (if text = ⟨#[]⟩ then b else true) = bt at h
      obtain ⟨hv, hb⟩ := h
      obtain ⟨h1, h2⟩ := listP_back (t := .mk a1 a2 a3 a4) (pk := packT) (fun k hk b v hu => unT_back m k b v (by have := List.sizeOf_lt_of_mem hk; simp only [Tr.kids] at this; simp at hm; omega) hu) (Prod.ext rfl hb)
      obtain ⟨h3, h4⟩ := flag_back h1
      obtain ⟨h5, h6⟩ := flag_back h3
      obtain ⟨h7, h8⟩ := unV_back _ p1 _ _ (Nat.le_refl _) (Prod.ext rfl h5)
      obtain ⟨h9, h10⟩ := unV_back _ p0 _ _ (Nat.le_refl _) (Prod.ext rfl h7)
      rw [h9] at hbt
      split at hbt
      · rename_i hx
        refine ⟨hbt, ?_⟩
        unfold listP at h2
        simp only [Tr.kids] at h2
        rw [← hv, packT, packTs_eq, h2, h4, h6, h8, h10, ht, hx]
      · cases hbt
    · have := congrArg Prod.snd h; cases this
end Go.Proofs.Ytffpepmfdjjjaaa


namespace Go.Proofs.Ytffpepmfdjjjaaa
open Go.Pure

theorem parts_back {t : Tr} {n : Nat} {b : Bool} (h : (partsP t n b).2 = false) : b = false ∧ t.tag = 0 ∧ (partsP t n b).1 = t.kids ∧ t.kids.length = n := by
  unfold partsP at h ⊢
  split at h
  · rename_i h1
    rw [if_pos h1]
    exact ⟨h, h1.1, rfl, h1.2⟩
  · cases h
theorem unC_back (t : Tr) (b : Bool) (v : VCol) (h : unC t b = (v, false)) : b = false ∧ packC v = t := by
  unfold unC at h
  simp only [Prod.mk.injEq] at h
  obtain ⟨hv, hb⟩ := h
  obtain ⟨h1, h2⟩ := listP_back (pk := packV) (fun k _ b v hu => unV_back _ k b v (Nat.le_refl _) hu) (Prod.ext rfl hb)
  obtain ⟨h3, h4, h5, h6⟩ := parts_back h1
  obtain ⟨tag, n, text, kids⟩ := t
  simp only [Tr.tag, Tr.kids] at h4 h5 h6
  refine ⟨h3, ?_⟩
  rw [← hv, packC, packVs_eq, h2, h5, ← h4]
  match kids, h6 with
  | [k], _ => rfl
theorem unR_back (t : Tr) (b : Bool) (v : VRule) (h : unR t b = (v, false)) : b = false ∧ packR v = t := by
  unfold unR at h
  simp only [Prod.mk.injEq] at h
  obtain ⟨hv, hb⟩ := h
  obtain ⟨h1, h2⟩ := listP_back (pk := packE) (fun k _ b v hu => unE_back _ k b v (Nat.le_refl _) hu) (Prod.ext rfl hb)
  obtain ⟨h3, h4⟩ := listP_back (pk := packT) (fun k _ b v hu => unT_back _ k b v (Nat.le_refl _) hu) (Prod.ext rfl h1)
  split at h3
  · rename_i hz
    obtain ⟨h5, h6, h7, h8⟩ := parts_back h3
    rw [if_pos hz] at hv h2 h4
    obtain ⟨tag, n, text, kids⟩ := t
    simp only [Tr.tag, Tr.kids, Tr.num, Tr.text] at h6 h7 h8 hz
    refine ⟨h5, ?_⟩
    rw [← hv, packR, packTs_eq, packEs_eq, h2, h4, h7]
    clear h2 h4 h7 hv hb h1 h3
    obtain ⟨rfl, rfl⟩ := hz
    subst h6
    match kids, h8 with
    | [k, l], _ => rfl
  · cases h3
theorem unCmd_back (t : Tr) (h : (unCmd0 t).2 = false) : packCmd (unCmd0 t).1 = t := by
  generalize hu : unCmd0 t = u at h
  obtain ⟨v, vb⟩ := u
  simp only at h
  subst h
  unfold unCmd0 at hu
  simp only [Prod.mk.injEq] at hu
  obtain ⟨hv, hb⟩ := hu
  obtain ⟨a1, a2⟩ := listP_back (pk := packR) (fun k _ b v hu => unR_back k b v hu) (Prod.ext rfl hb)
  obtain ⟨b1, b2⟩ := listP_back (pk := packC) (fun k _ b v hu => unC_back k b v hu) (Prod.ext rfl a1)
  obtain ⟨c1, c2⟩ := listP_back (pk := packC) (fun k _ b v hu => unC_back k b v hu) (Prod.ext rfl b1)
  obtain ⟨d1, d2, d3, d4⟩ := parts_back c1
  obtain ⟨e1, e2⟩ := plain_back d1
  obtain ⟨f1, f2⟩ := plain_back e1
  obtain ⟨g1, g2⟩ := plain_back f1
  obtain ⟨_, i2, i3, i4⟩ := parts_back g1
  rw [← hv, packCmd, a2, b2, c2, d3, e2, f2, g2]
  rw [i3] at d2 d3 d4 ⊢
  obtain ⟨tag, n, text, kids⟩ := t
  simp only [Tr.tag, Tr.kids, Tr.num, Tr.text] at i2 i4 ⊢
  match kids, i4 with
  | [k0, k1, k2, .mk tag3 n3 text3 kids3], _ =>
    simp only [Tr.kids, List.getD_cons_zero, List.getD_cons_succ, Tr.tag, Tr.num, Tr.text] at d2 d4 ⊢
    subst i2 d2
    match kids3, d4 with
    | [q0, q1, q2], _ => rfl

/-! ### Bounds -/
theorem ok_of_bulk : ∀ (m : Nat) (t : Tr), SizeOf.sizeOf t ≤ m → gbulk t.g ≤ maxLen → t.ok
  | 0, t, hm, _ => by cases t; simp at hm
  | m + 1, .mk tag n text kids, hm, hb => by
    rw [tr_bulk] at hb
    have hl : kids.length ≤ gbulks (Tr.gs kids) := by
      rw [gs_eq]
      exact map_len (fun t => by obtain ⟨a, b, c, d⟩ := t; rw [tr_bulk]; omega) kids
    simp only [Tr.ok]
    refine ⟨by omega, ?_⟩
    have key : ∀ l : List Tr, (∀ x ∈ l, x.ok) → Tr.oks l := by
      intro l
      induction l with
      | nil => intro _; simp [Tr.oks]
      | cons x l ih => intro h; simp only [Tr.oks]; exact ⟨h x (by simp), ih fun y hy => h y (List.mem_cons_of_mem _ hy)⟩
    refine key kids fun x hx => ok_of_bulk m x (by have := List.sizeOf_lt_of_mem hx; simp at hm; omega) ?_
    obtain ⟨i, hi, rfl⟩ := List.getElem_of_mem hx
    have := map_bulk (f := Tr.g) hi
    rw [← gs_eq] at this
    omega

/-! ### A packed command's numbers are small enough, its tags are bytes -/
def tagged : Tr → Prop | t => ∀ d n, (look d n t).1 = 0 ∨ (look d n t).1 = 4
theorem looks_tagged : ∀ (l : List Tr) (d n : Int), (∀ t ∈ l, tagged t) → (looks d n l).1 = 0 ∨ (looks d n l).1 = 4
  | [], d, n, _ => by simp [looks]
  | t :: l, d, n, h => by
    rw [looks]
    split
    · exact looks_tagged l _ _ fun x hx => h x (List.mem_cons_of_mem _ hx)
    · exact h t (by simp) _ _
theorem tagged_mk {tag n : Int} {text : ByteArray} {kids : List Tr} (ht : 0 ≤ tag ∧ tag ≤ 255) (h : ∀ t ∈ kids, tagged t) : tagged (.mk tag n text kids) := by
  intro d k
  simp only [look]
  split
  · exact .inr rfl
  · split
    · omega
    · exact looks_tagged kids _ _ h
/-- Well made: tags are bytes, numbers are numbers. -/
def fit (t : Tr) : Prop := tagged t ∧ t.wf
theorem wfs_of : ∀ {l : List Tr}, (∀ t ∈ l, t.wf) → Tr.wfs l
  | [], _ => by simp [Tr.wfs]
  | x :: l, h => by simp only [Tr.wfs]; exact ⟨h x (by simp), wfs_of fun y hy => h y (List.mem_cons_of_mem _ hy)⟩
theorem fit_mk {tag n : Int} {text : ByteArray} {kids : List Tr} (ht : 0 ≤ tag ∧ tag ≤ 255) (hn : (Lit.int .i64 n).wf = true) (h : ∀ t ∈ kids, fit t) : fit (.mk tag n text kids) := by
  refine ⟨tagged_mk ht fun t hk => (h t hk).1, ?_⟩
  simp only [Tr.wf]
  exact ⟨by omega, wf64 hn, wfs_of fun t hk => (h t hk).2⟩
theorem fit_num {n : Int} (hn : (Lit.int .i64 n).wf = true) : fit (numT n) := fit_mk (by omega) hn (by simp)
theorem fit_flag (b : Bool) : fit (numT (flagN b)) := fit_num (by cases b <;> decide)
theorem fit_list {l : List Tr} (h : ∀ t ∈ l, fit t) : fit (listT l) := fit_mk (by omega) (by decide) h
theorem fit_map {α : Type} {pk : α → Tr} {f : α → GV} {l : List α} (h : ∀ x ∈ l, gwf (f x) → fit (pk x)) (hw : gwfs (l.map f)) : ∀ t ∈ l.map pk, fit t := by
  intro t ht
  obtain ⟨x, hx, rfl⟩ := List.mem_map.1 ht
  exact h x hx (gwfs_iff.1 hw _ (List.mem_map_of_mem hx))
theorem fit_value : ∀ (m : Nat) (v : VVal), SizeOf.sizeOf v ≤ m → gwf v.g → fit (packV v)
  | 0, v, hm, _ => by cases v; simp at hm
  | m + 1, .mk kind yes coef exp text list, hm, hw => by
    simp only [VVal.g, gwf, gwfs, VVal.gs_eq] at hw
    obtain ⟨w1, _, w3, w4, _, w6, _⟩ := hw
    have hl := fit_map (pk := packV) (fun x hx hg => fit_value m x (by have := List.sizeOf_lt_of_mem hx; simp at hm; omega) hg) w6
    rw [packV, packVs_eq]
    refine fit_mk (by omega) w3 fun t ht => ?_
    simp only [List.mem_cons] at ht
    rcases ht with rfl | rfl | rfl | ht
    · exact fit_num w4
    · exact fit_flag yes
    · exact fit_num w1
    · exact hl t ht
theorem fit_expr : ∀ (m : Nat) (v : VExpr), SizeOf.sizeOf v ≤ m → gwf v.g → fit (packE v)
  | 0, v, hm, _ => by cases v; simp at hm
  | m + 1, .mk kind val name kids, hm, hw => by
    simp only [VExpr.g, gwf, gwfs, gwfs_append, gwf_cells, VExpr.gs_eq] at hw
    obtain ⟨w1, w2, _, w4, _⟩ := hw
    have hl := fit_map (pk := packE) (fun x hx hg => fit_expr m x (by have := List.sizeOf_lt_of_mem hx; simp at hm; omega) hg) w4
    rw [packE, packEs_eq]
    refine fit_mk (by omega) w1 fun t ht => ?_
    simp only [List.mem_cons, List.not_mem_nil, or_false] at ht
    rcases ht with rfl | rfl
    · exact fit_value _ val (Nat.le_refl _) w2
    · exact fit_list hl
theorem fit_test : ∀ (m : Nat) (v : VTest), SizeOf.sizeOf v ≤ m → gwf v.g → fit (packT v)
  | 0, v, hm, _ => by cases v; simp at hm
  | m + 1, .mk kind a b oa ob kids, hm, hw => by
    simp only [VTest.g, gwf, gwfs, gwfs_append, gwf_cells, VTest.gs_eq] at hw
    obtain ⟨w1, w2, w3, _, _, w4, _⟩ := hw
    have hl := fit_map (pk := packT) (fun x hx hg => fit_test m x (by have := List.sizeOf_lt_of_mem hx; simp at hm; omega) hg) w4
    rw [packT, packTs_eq]
    refine fit_mk (by omega) w1 fun t ht => ?_
    simp only [List.mem_cons, List.not_mem_nil, or_false] at ht
    rcases ht with rfl | rfl | rfl | rfl | rfl
    · exact fit_value _ a (Nat.le_refl _) w2
    · exact fit_value _ b (Nat.le_refl _) w3
    · exact fit_flag oa
    · exact fit_flag ob
    · exact fit_list hl
theorem fit_col (v : VCol) (hw : gwf v.g) : fit (packC v) := by
  obtain ⟨name, kind, order⟩ := v
  simp only [VCol.g, gwf, gwfs, VVal.gs_eq] at hw
  obtain ⟨_, w2, w3, _⟩ := hw
  rw [packC, packVs_eq]
  refine fit_mk (by omega) w2 fun t ht => ?_
  simp only [List.mem_cons, List.not_mem_nil, or_false] at ht
  subst ht
  exact fit_list (fit_map (fun x _ hg => fit_value _ x (Nat.le_refl _) hg) w3)
theorem fit_rule (v : VRule) (hw : gwf v.g) : fit (packR v) := by
  obtain ⟨t, o⟩ := v
  simp only [VRule.g, gwf, gwfs, VTest.gs_eq, VExpr.gs_eq] at hw
  obtain ⟨w1, w2, _⟩ := hw
  rw [packR, packTs_eq, packEs_eq]
  refine fit_mk (by omega) (by decide) fun t ht => ?_
  simp only [List.mem_cons, List.not_mem_nil, or_false] at ht
  rcases ht with rfl | rfl
  · exact fit_list (fit_map (fun x _ hg => fit_test _ x (Nat.le_refl _) hg) w1)
  · exact fit_list (fit_map (fun x _ hg => fit_expr _ x (Nat.le_refl _) hg) w2)
theorem fit_cmd (v : VCmd) (hw : gwf v.g) : fit (packCmd v) := by
  obtain ⟨session, seq, kind, ⟨tname, policy, ins, outs, rules⟩, name, to⟩ := v
  simp only [VCmd.g, VTable.g, GV.cells, gwf, gwfs, gwfs_append, VCol.gs, VRule.gs, List.cons_append, List.nil_append] at hw
  obtain ⟨w1, w2, w3, _, w5, w6, w7, w8, _, w10, _⟩ := hw
  rw [packCmd]
  refine fit_mk (by omega) w3 fun t ht => ?_
  simp only [List.mem_cons, List.not_mem_nil, or_false] at ht
  rcases ht with rfl | rfl | rfl | rfl
  · exact fit_num w1
  · exact fit_num w2
  · exact fit_num w10
  · refine fit_mk (by omega) w5 fun t ht => ?_
    simp only [List.mem_cons, List.not_mem_nil, or_false] at ht
    rcases ht with rfl | rfl | rfl
    · exact fit_list (fit_map (fun x _ hg => fit_col x hg) w6)
    · exact fit_list (fit_map (fun x _ hg => fit_col x hg) w7)
    · exact fit_list (fit_map (fun x _ hg => fit_rule x hg) w8)
end Go.Proofs.Ytffpepmfdjjjaaa


namespace Go.Proofs.Ytffpepmfdjjjaaa
open Go.Pure
attribute [local irreducible] PW POps POpsD PO PC Cond

end Go.Proofs.Ytffpepmfdjjjaaa

