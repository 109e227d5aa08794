/- The law JournalTells holds in the second form: for any bytes, every command and every list of commands, of bulk at most 1048576, the program returns true, and leaves them as they were. Conditions: the bulk's bound, nothing else. -/
import Derived.Test.YtffpepmfdjjjaaaOwnM
import Derived.Test.YtffpepmfdjjjaaaPureN
import Derived.Test.YtffpepmfdjjjaaaOwnH
namespace Go.Proofs.Ytffpepmfdjjjaaa
open Go.Pure
attribute [local irreducible] PW POps POpsD PO PC Cond

/-- The code after so many pieces. -/
def dropC : Nat → Code → Code
  | n + 1, .seq _ y => dropC n y
  | _, c => c
theorem PW_rest {P : Program} {N : Nat} {Q : Exit → Env → PH → Prop} {env : Env} {H : PH} {code : Code} (n : Nat) (E : Env) (F : Nat → PH) (h : ∀ m, PW P N (dropC n code) Q E (F m)) (k : (∀ m, PW P N (dropC n code) Q E (F m)) → PW P N code Q env H) : PW P N code Q env H := k h
theorem PW_dead {P : Program} {N : Nat} {Q : Exit → Env → PH → Prop} {env : Env} {H : PH} {code : Code} (e : Nat) {size : Nat} (hs : szB P e = some size) (h : PW P N code Q env ⟨H.bx, H.tk ++ [(e, 0)], H.mu⟩) : PW P N code Q env H := by
  unfold PW at h ⊢
  intro c a hr he
  obtain ⟨r1, e1⟩ := hr.addDead hs
  have hE : ER ⟨c.σ, c.τ ++ [⟨false, 0, e, size, 0, 0⟩], c.μ, c.hid, c.w⟩ N env a := ⟨he.defers, he.size, fun t => (he.slot t).mono e1⟩
  refine wp_mono (h ⟨c.σ, c.τ ++ [⟨false, 0, e, size, 0, 0⟩], c.μ, c.hid, c.w⟩ a r1 hE) ?_
  rintro x a' w' ⟨c', env', H', q, rfl, hr', hE', he'⟩
  exact ⟨c', env', H', q, rfl, hr', e1.trans hE', he'⟩

theorem body_err (c : VCmd) (hw : gwf c.g) : (body c).2 = 0 ∨ (body c).2 = 4 := by
  have h := (fit_cmd c hw).1 1 0
  unfold body bytesT
  split
  · split
    · exact .inr rfl
    · exact .inl rfl
  · rename_i h0
    rcases h with h | h
    · exact absurd h h0
    · exact .inr h

set_option maxRecDepth 100000 in
set_option maxHeartbeats 2000000 in
theorem jtells_pc (file : List UInt8) (c : VCmd) (l : List VCmd) (hc : gbulk c.g ≤ 1048576) (hf : file.length ≤ 1048576) (hb : gbulks (l.map VCmd.g) ≤ 1048576) (hwc : gwf c.g) (hwl : gwfs (l.map VCmd.g)) :
    PC Try.prog 8 [.g (.sl (bys file)), .g c.g, .g (.sl (VCmd.gs l))] ⟨[], [], []⟩ (.g (.bool true)) ⟨[], [], []⟩ := by
  have hA := append_pc file c hc (by omega)
  have hR := record_ref c hc hwc
  have hl := body_len c
  have hbe := body_err c hwc
  unfold appendJ at hA
  unfold recordR recB at hR
  generalize body c = r at hA hR hl hbe
  obtain ⟨b, e⟩ := r
  dsimp only at hA hR hl hbe
  have b1 : (bys file).length = file.length := bys_len _
  have hfl4 : (bys (be4 b.length ++ b)).length = b.length + 4 := by rw [bys_len]; simp [be4]
  obtain ⟨session, seq, kind, ⟨tname, policy, ins, outs, rules⟩, name, to⟩ := c
  refine PC_of_PW Try.func8 rfl rfl (rs := _) rfl (Nat.le_of_ble_eq_true (by kernel_rfl)) ?_
  refine PW_rest 5 (slots [(0, .g (.sl (bys file))), (2, .g (.sl (VCmd.gs l)))]) (fun m => ⟨[(VCmd.mk session seq kind ⟨tname, policy, ins, outs, rules⟩ name to).g.cells.map PV.g], [(5, m)], []⟩) (fun m => ?_) (fun hrest => ?_)
  · have hRc := recover_pc file
    have hRr := recover_ref file
    have hrl : gbulks ((recoverJ file).1.map VCmd.g) ≤ 1000000 ∧ ((recoverJ file).2.2 = 0 ∨ (recoverJ file).2.2 = 4) := by
      by_cases h0 : 1000000 < file.length
      · unfold recoverJ; rw [if_pos h0]; exact ⟨by simp [gbulks], .inr rfl⟩
      · have h1 : (recoverJ file).2.2 = 0 := by unfold recoverJ; rw [if_neg h0]
        exact ⟨(goes_plain (l := (recoverJ file).1) (n := (recoverJ file).2.1) (e := (recoverJ file).2.2) rfl h1).2.2.2.2.1, .inl h1⟩
    have hS := samecmds_pc (recoverJ file).1 (by omega)
    have hW := write_pc l hb
    have hgl : (VCmd.gs l).length = l.length := by simp [VCmd.gs]
    have hln : l.length ≤ 1048576 := by have := map_len VCmd.one l; omega
    generalize recoverJ file = rj at hRc hRr hS hrl
    obtain ⟨xs, n, e0⟩ := rj
    dsimp only at hRc hRr hS hrl
    replace hrl := hrl.2
    clear hA hR hbe hfl4 hl hc hwc b
    generalize hwj : writeJ l [] = wj at hW
    obtain ⟨f, ew⟩ := wj
    dsimp only at hW
    simp only [dropC]
    refine PW_rest 3 (slots [(2, .g (.sl (VCmd.gs l)))]) (fun _ => ⟨[(VCmd.mk session seq kind ⟨tname, policy, ins, outs, rules⟩ name to).g.cells.map PV.g], [(5, m)], []⟩) (fun _ => ?_) (fun hrest => ?_)
    · simp only [dropC]
      (repeat (first | ((first | refine qA ?_ | refine qB ?_ | refine xN ?_ | refine xE ?_ | refine xT ?_); try show PW _ _ _ _ _ _) | refine ro1 tabOk rfl rfl ?_ | refine ro2 tabOk rfl rfl ?_ | refine ro3 tabOk rfl rfl ?_ | refine rd1 tabOk rfl rfl ?_ | refine rd2 tabOk rfl rfl ?_ | refine rd3 tabOk rfl rfl ?_ | ((first | apply oR rfl rfl | (apply dF rfl rfl rfl; intro _) | (apply dP rfl rfl rfl; intro _) | (apply dL rfl rfl rfl; intro _) | apply dC rfl rfl rfl rfl); (focus (first | exact cqP hW | exact cJ | exact mG | exact bT | exact nD)); try exact kQ) | refine xS ?_ | refine xR ?_ | refine qxa rfl rfl mixed ?_ | refine qxb rfl rfl mixed ?_ | refine qxc rfl rfl mixed ?_ | refine qxd rfl rfl mixed ?_ | refine xB ?_ | refine xt rfl ?_ | refine xf rfl ?_))
      refine PW_buf 16 5 (SZ rfl) rfl ?_
      refine PW_loop_cut (S := Nat) (fun i => [(8, .g (.int .i64 ew)), (15, .g (.sl (bys f))), (16, .own (bys (allB (l.take i))) 1), (99, .g (.sl (VCmd.gs l))), (100, .g (.int .i64 l.length)), (101, .g (.int .i64 i))])
        (fun i => ⟨[(VCmd.mk session seq kind ⟨tname, policy, ins, outs, rules⟩ name to).g.cells.map PV.g], [(5, m), (5, (allB (l.take i)).length)], []⟩) (fun i => i ≤ l.length ∧ (allB (l.take i)).length ≤ 1000000 ∧ writeJ (l.drop i) (allB (l.take i)) = (f, ew)) (fun i => l.length - i) 0 ⟨Nat.zero_le _, by simp [allB], by simpa [allB] using hwj⟩
        (SlotsOk.le ⟨.inl rfl, .inl rfl, .inl rfl, .inl rfl, .inl (congrArg (fun k : Nat => PV.g (.int .i64 k)) hgl), .inl rfl, trivial⟩) (HLe.of_eq rfl) (fun _ => rfl) (fun i hs => ?_)
      obtain ⟨hi, hal, hgo⟩ := hs
      (repeat (first | ((first | refine qA ?_ | refine qB ?_ | refine xN ?_ | refine xE ?_ | refine xT ?_); try show PW _ _ _ _ _ _) | refine ro1 tabOk rfl rfl ?_ | refine ro2 tabOk rfl rfl ?_ | refine ro3 tabOk rfl rfl ?_ | refine rd1 tabOk rfl rfl ?_ | refine rd2 tabOk rfl rfl ?_ | refine rd3 tabOk rfl rfl ?_ | ((first | apply oR rfl rfl | (apply dF rfl rfl rfl; intro _) | (apply dP rfl rfl rfl; intro _) | (apply dL rfl rfl rfl; intro _) | apply dC rfl rfl rfl rfl); (focus (first | exact cJ | exact mG | exact bT | exact nD)); try exact kQ) | refine xS ?_ | refine xR ?_ | refine qxa rfl rfl mixed ?_ | refine qxb rfl rfl mixed ?_ | refine qxc rfl rfl mixed ?_ | refine qxd rfl rfl mixed ?_ | refine xB ?_ | refine xt rfl ?_ | refine xf rfl ?_))
      (first | refine POps_split rfl rfl (fun h => ?_) (fun h => ?_) | refine POpsD_split rfl rfl (fun h => ?_) (fun h => ?_) | refine PW_cond rfl (fun h => ?_) (fun h => ?_))
      · have hlt : i < l.length := by have := of_decide_eq_true h; omega
        have hg : (VCmd.gs l)[((i : Int)).toNat]? = some l[i].g := map_get hlt
        have hdr : l.drop i = l[i] :: l.drop (i + 1) := List.drop_eq_getElem_cons hlt
        have hbk := map_bulk (f := VCmd.g) hlt
        have hwi := gwfs_iff.1 hwl _ (List.mem_map_of_mem (List.getElem_mem hlt))
        have hR := record_ref l[i] (by omega) hwi
        have hbe := body_err l[i] hwi
        have hbl := body_len l[i]
        have hrl := recB_len l[i]
        have htk : allB (l.take (i + 1)) = allB (l.take i) ++ recB l[i] := by rw [List.take_succ_eq_append_getElem hlt, allB_append, allB_one]
        rw [hdr, writeJ] at hgo
        unfold appendJ at hgo
        unfold recordR at hR
        have hre : recB l[i] = be4 (body l[i]).1.length ++ (body l[i]).1 := rfl
        generalize l[i] = c at hg hR hbe hbl hrl htk hgo hre
        rw [← hre] at hgo
        generalize recB c = d at hR hrl htk hgo hre
        generalize body c = r at hR hbe hbl hrl hgo hre
        obtain ⟨b, e⟩ := r
        obtain ⟨session, seq, kind, ⟨tname, policy, ins, outs, rules⟩, name, to⟩ := c
        dsimp only at hR hbe hbl hrl hgo
        clear h
        have hdl : (bys d).length = d.length := bys_len _
        have hacc : (bys (allB (l.take i))).length = (allB (l.take i)).length := bys_len _
        generalize allB (l.take i) = acc at hal hgo htk hacc
        rcases hbe with rfl | rfl
        · rw [if_pos rfl] at hgo hR
          dsimp only at hgo hR
          (repeat (first | ((first | refine qA ?_ | refine qB ?_ | refine xN ?_ | refine xE ?_ | refine xT ?_); try show PW _ _ _ _ _ _) | refine ro1 tabOk rfl rfl ?_ | refine ro2 tabOk rfl rfl ?_ | refine ro3 tabOk rfl rfl ?_ | refine rd1 tabOk rfl rfl ?_ | refine rd2 tabOk rfl rfl ?_ | refine rd3 tabOk rfl rfl ?_ | ((first | apply oR rfl rfl | (apply dF rfl rfl rfl; intro _) | (apply dP rfl rfl rfl; intro _) | (apply dL rfl rfl rfl; intro _) | apply dC rfl rfl rfl rfl); (focus (first | exact iA rfl (EL rfl) (SZ rfl) rfl rfl (Int.natCast_nonneg _) hg rfl | exact cqP hR | exact cJ | exact mG | exact bT | exact nD)); try exact kQ) | refine xS ?_ | refine xR ?_ | refine qxa rfl rfl mixed ?_ | refine qxb rfl rfl mixed ?_ | refine qxc rfl rfl mixed ?_ | refine qxd rfl rfl mixed ?_ | refine xB ?_ | refine xt rfl ?_ | refine xf rfl ?_))
          (first | refine POps_split rfl rfl (fun h => ?_) (fun h => ?_) | refine POpsD_split rfl rfl (fun h => ?_) (fun h => ?_) | refine PW_cond rfl (fun h => ?_) (fun h => ?_))
          · rw [hacc, hdl, wrap64 (by omega)] at h
            have hbig : 1000000 < acc.length + 4 + b.length := by have := of_decide_eq_true h; omega
            rw [if_pos hbig, if_neg (by decide)] at hgo
            obtain ⟨rfl, rfl⟩ := Prod.mk.inj hgo
            (repeat (first | ((first | refine qA ?_ | refine qB ?_ | refine xN ?_ | refine xE ?_ | refine xT ?_); try show PW _ _ _ _ _ _) | refine ro1 tabOk rfl rfl ?_ | refine ro2 tabOk rfl rfl ?_ | refine ro3 tabOk rfl rfl ?_ | refine rd1 tabOk rfl rfl ?_ | refine rd2 tabOk rfl rfl ?_ | refine rd3 tabOk rfl rfl ?_ | ((first | apply oR rfl rfl | (apply dF rfl rfl rfl; intro _) | (apply dP rfl rfl rfl; intro _) | (apply dL rfl rfl rfl; intro _) | apply dC rfl rfl rfl rfl); (focus (first | exact cJ | exact mG | exact bT | exact nD)); try exact kQ) | refine xS ?_ | refine xR ?_ | refine qxa rfl rfl mixed ?_ | refine qxb rfl rfl mixed ?_ | refine qxc rfl rfl mixed ?_ | refine qxd rfl rfl mixed ?_ | refine xB ?_ | refine xt rfl ?_ | refine xf rfl ?_))
            (first | refine Ret_int (vC vT vN) rfl ?_ | refine Ret_bool (vC vT vN) rfl ?_ | refine Ret_g (vC vT vN) rfl ?_ | refine Ret_int (vC (vA (AG rfl) (SZ rfl) rfl rfl (lB rfl)) vN) rfl ?_ | refine Ret_bool (vC (vA (AG rfl) (SZ rfl) rfl rfl (lB rfl)) vN) rfl ?_ | refine Ret_g (vC (vA (AG rfl) (SZ rfl) rfl rfl (lB rfl)) vN) rfl ?_)
            rfl
          · rw [hacc, hdl, wrap64 (by omega)] at h
            have hbig : ¬ 1000000 < acc.length + 4 + b.length := by have := of_decide_eq_false h; omega
            rw [if_neg hbig, if_pos rfl] at hgo
            (repeat (first | ((first | refine qA ?_ | refine qB ?_ | refine xN ?_ | refine xE ?_ | refine xT ?_); try show PW _ _ _ _ _ _) | refine ro1 tabOk rfl rfl ?_ | refine ro2 tabOk rfl rfl ?_ | refine ro3 tabOk rfl rfl ?_ | refine rd1 tabOk rfl rfl ?_ | refine rd2 tabOk rfl rfl ?_ | refine rd3 tabOk rfl rfl ?_ | ((first | apply oR rfl rfl | (apply dF rfl rfl rfl; intro _) | (apply dP rfl rfl rfl; intro _) | (apply dL rfl rfl rfl; intro _) | apply dC rfl rfl rfl rfl); (focus (first | exact PO_appb (b := acc) d rfl (EL rfl) (SZ rfl) (BY rfl) (ZR rfl) rfl rfl rfl rfl rfl (by simp; omega) (by simp [maxLen]; omega) | exact cJ | exact mG | exact bT | exact nD)); try exact kQ) | refine xS ?_ | refine xR ?_ | refine qxa rfl rfl mixed ?_ | refine qxb rfl rfl mixed ?_ | refine qxc rfl rfl mixed ?_ | refine qxd rfl rfl mixed ?_ | refine xB ?_ | refine xt rfl ?_ | refine xf rfl ?_))
            refine ⟨i + 1, ⟨hlt, by rw [htk, List.length_append]; omega, by rw [htk]; exact hgo⟩, by omega, SlotsOk.le ⟨.inl rfl, .inl rfl, .inl (congrArg (fun z => PV.own (bys z) 1) htk.symm), .inl rfl, .inl rfl, .inl (congrArg (fun k => PV.g (.int .i64 k)) (wrap64 (by omega))), trivial⟩, Drops.mk [(VCmd.mk session seq kind ⟨tname, policy, ins, outs, rules⟩ name to).g.cells.map PV.g] [] [] ?_⟩
            rw [htk, List.length_append]
            rfl
        · have h40 : ¬ (4 : Int) = 0 := by decide
          rw [if_neg h40] at hgo hR
          dsimp only at hgo hR
          rw [if_neg h40] at hgo
          obtain ⟨rfl, rfl⟩ := Prod.mk.inj hgo
          (repeat (first | ((first | refine qA ?_ | refine qB ?_ | refine xN ?_ | refine xE ?_ | refine xT ?_); try show PW _ _ _ _ _ _) | refine ro1 tabOk rfl rfl ?_ | refine ro2 tabOk rfl rfl ?_ | refine ro3 tabOk rfl rfl ?_ | refine rd1 tabOk rfl rfl ?_ | refine rd2 tabOk rfl rfl ?_ | refine rd3 tabOk rfl rfl ?_ | ((first | apply oR rfl rfl | (apply dF rfl rfl rfl; intro _) | (apply dP rfl rfl rfl; intro _) | (apply dL rfl rfl rfl; intro _) | apply dC rfl rfl rfl rfl); (focus (first | exact iA rfl (EL rfl) (SZ rfl) rfl rfl (Int.natCast_nonneg _) hg rfl | exact cqP hR | exact cJ | exact mG | exact bT | exact nD)); try exact kQ) | refine xS ?_ | refine xR ?_ | refine qxa rfl rfl mixed ?_ | refine qxb rfl rfl mixed ?_ | refine qxc rfl rfl mixed ?_ | refine qxd rfl rfl mixed ?_ | refine xB ?_ | refine xt rfl ?_ | refine xf rfl ?_))
          (first | refine Ret_int (vC vT vN) rfl ?_ | refine Ret_bool (vC vT vN) rfl ?_ | refine Ret_g (vC vT vN) rfl ?_ | refine Ret_int (vC (vA (AG rfl) (SZ rfl) rfl rfl (lB rfl)) vN) rfl ?_ | refine Ret_bool (vC (vA (AG rfl) (SZ rfl) rfl rfl (lB rfl)) vN) rfl ?_ | refine Ret_g (vC (vA (AG rfl) (SZ rfl) rfl rfl (lB rfl)) vN) rfl ?_)
          rfl
      · have hi' : i = l.length := by have := of_decide_eq_false h; omega
        subst hi'
        rw [List.drop_length, writeJ] at hgo
        obtain ⟨rfl, rfl⟩ := Prod.mk.inj hgo
        have hB := samebytes_pc (allB (l.take l.length)) (by omega)
        (repeat (first | ((first | refine qA ?_ | refine qB ?_ | refine xN ?_ | refine xE ?_ | refine xT ?_); try show PW _ _ _ _ _ _) | refine ro1 tabOk rfl rfl ?_ | refine ro2 tabOk rfl rfl ?_ | refine ro3 tabOk rfl rfl ?_ | refine rd1 tabOk rfl rfl ?_ | refine rd2 tabOk rfl rfl ?_ | refine rd3 tabOk rfl rfl ?_ | ((first | apply oR rfl rfl | (apply dF rfl rfl rfl; intro _) | (apply dP rfl rfl rfl; intro _) | (apply dL rfl rfl rfl; intro _) | apply dC rfl rfl rfl rfl); (focus (first | exact cqP hB | exact cJ | exact mG | exact bT | exact nD)); try exact kQ) | refine xS ?_ | refine xR ?_ | refine qxa rfl rfl mixed ?_ | refine qxb rfl rfl mixed ?_ | refine qxc rfl rfl mixed ?_ | refine qxd rfl rfl mixed ?_ | refine xB ?_ | refine xt rfl ?_ | refine xf rfl ?_))
        (first | refine Ret_int (vC vT vN) rfl ?_ | refine Ret_bool (vC vT vN) rfl ?_ | refine Ret_g (vC vT vN) rfl ?_ | refine Ret_int (vC (vA (AG rfl) (SZ rfl) rfl rfl (lB rfl)) vN) rfl ?_ | refine Ret_bool (vC (vA (AG rfl) (SZ rfl) rfl rfl (lB rfl)) vN) rfl ?_ | refine Ret_g (vC (vA (AG rfl) (SZ rfl) rfl rfl (lB rfl)) vN) rfl ?_)
        rfl
    · simp only [dropC] at hrest
      rcases hrl with rfl | rfl
      all_goals
        (repeat' (first | (first | ((first | refine qA ?_ | refine qB ?_ | refine xN ?_ | refine xE ?_ | refine xT ?_); try show PW _ _ _ _ _ _) | refine ro1 tabOk rfl rfl ?_ | refine ro2 tabOk rfl rfl ?_ | refine ro3 tabOk rfl rfl ?_ | refine rd1 tabOk rfl rfl ?_ | refine rd2 tabOk rfl rfl ?_ | refine rd3 tabOk rfl rfl ?_ | ((first | apply oR rfl rfl | (apply dF rfl rfl rfl; intro _) | (apply dP rfl rfl rfl; intro _) | (apply dL rfl rfl rfl; intro _) | apply dC rfl rfl rfl rfl); (focus (first | exact cqP hRc | exact cqP hRr | exact cqP hS | exact cJ | exact mG | exact bT | exact nD)); try exact kQ) | refine xU [11] rfl ?_ | refine xR ?_ | refine qxa rfl rfl mixed ?_ | refine qxb rfl rfl mixed ?_ | refine qxc rfl rfl mixed ?_ | refine qxd rfl rfl mixed ?_ | refine xB ?_ | refine xt rfl ?_ | refine xf rfl ?_) | (refine POps_split rfl rfl (fun h => ?_) (fun h => ?_) <;> fail_if_success (first | (have : true = true := h) | (have : false = false := h))) | (refine POpsD_split rfl rfl (fun h => ?_) (fun h => ?_) <;> fail_if_success (first | (have : true = true := h) | (have : false = false := h))) | refine PW_cond rfl (fun h => ?_) (fun h => ?_)))
        all_goals (first | (exfalso; simp at h; done) | skip)
        exact PW_weak (env' := slots [(2, .g (.sl (VCmd.gs l)))]) (SlotsOk.le ⟨.inl rfl, trivial⟩) (HLe.of_eq rfl) (hrest 0)
  · simp only [dropC] at hrest
    rcases hbe with rfl | rfl
    · rw [if_pos rfl] at hA hR
      dsimp only at hA hR
      by_cases hm : 1000000 < file.length + 4 + b.length
      · rw [if_pos hm] at hA
        (repeat' (first | (first | ((first | refine qA ?_ | refine qB ?_ | refine xN ?_ | refine xE ?_ | refine xT ?_); try show PW _ _ _ _ _ _) | refine ro1 tabOk rfl rfl ?_ | refine ro2 tabOk rfl rfl ?_ | refine ro3 tabOk rfl rfl ?_ | refine rd1 tabOk rfl rfl ?_ | refine rd2 tabOk rfl rfl ?_ | refine rd3 tabOk rfl rfl ?_ | ((first | apply oR rfl rfl | (apply dF rfl rfl rfl; intro _) | (apply dP rfl rfl rfl; intro _) | (apply dL rfl rfl rfl; intro _) | apply dC rfl rfl rfl rfl); (focus (first | exact cqP hA | exact cqP hR | exact cJ | exact mG | exact bT | exact nD)); try exact kQ) | refine xU [7] rfl ?_ | refine xR ?_ | refine qxa rfl rfl mixed ?_ | refine qxb rfl rfl mixed ?_ | refine qxc rfl rfl mixed ?_ | refine qxd rfl rfl mixed ?_ | refine xB ?_ | refine xt rfl ?_ | refine xf rfl ?_) | (refine POps_split rfl rfl (fun h => ?_) (fun h => ?_) <;> fail_if_success (first | (have : true = true := h) | (have : false = false := h))) | (refine POpsD_split rfl rfl (fun h => ?_) (fun h => ?_) <;> fail_if_success (first | (have : true = true := h) | (have : false = false := h))) | refine PW_cond rfl (fun h => ?_) (fun h => ?_)))
        · exact PW_dead 5 (SZ rfl) (PW_weak (env' := slots [(0, .g (.sl (bys file))), (2, .g (.sl (VCmd.gs l)))]) (SlotsOk.le ⟨.inl rfl, .inl rfl, trivial⟩) (HLe.of_eq rfl) (hrest 0))
        · exfalso
          rw [b1, hfl4, wrap64 (by omega)] at h
          have := of_decide_eq_false h
          omega
      · rw [if_neg hm] at hA
        have hB := samebytes_pc (file ++ (be4 b.length ++ b)) (by simp [be4]; omega)
        have hbl : (be4 b.length ++ b).length = b.length + 4 := by simp [be4]
        generalize be4 b.length ++ b = d at hA hR hB hbl hfl4
        by_cases hfe : file.length = 0
        · have hfn : file = [] := List.length_eq_zero_iff.1 hfe
          subst hfn
          (repeat' (first | (first | ((first | refine qA ?_ | refine qB ?_ | refine xN ?_ | refine xE ?_ | refine xT ?_); try show PW _ _ _ _ _ _) | refine ro1 tabOk rfl rfl ?_ | refine ro2 tabOk rfl rfl ?_ | refine ro3 tabOk rfl rfl ?_ | refine rd1 tabOk rfl rfl ?_ | refine rd2 tabOk rfl rfl ?_ | refine rd3 tabOk rfl rfl ?_ | ((first | apply oR rfl rfl | (apply dF rfl rfl rfl; intro _) | (apply dP rfl rfl rfl; intro _) | (apply dL rfl rfl rfl; intro _) | apply dC rfl rfl rfl rfl); (focus (first | exact cqP hA | exact cqP hR | exact cqP hB | exact PO_buildSlice_lit rfl (EL rfl) (SZ rfl) (AG rfl) (ZR rfl) rfl rfl rfl rfl rfl rfl rfl | exact cJ | exact mG | exact bT | exact nD)); try exact kQ) | refine xU [5] rfl ?_ | refine xR ?_ | refine qxa rfl rfl mixed ?_ | refine qxb rfl rfl mixed ?_ | refine qxc rfl rfl mixed ?_ | refine qxd rfl rfl mixed ?_ | refine xB ?_ | refine xt rfl ?_ | refine xf rfl ?_) | (refine POps_split rfl rfl (fun h => ?_) (fun h => ?_) <;> fail_if_success (first | (have : true = true := h) | (have : false = false := h))) | (refine POpsD_split rfl rfl (fun h => ?_) (fun h => ?_) <;> fail_if_success (first | (have : true = true := h) | (have : false = false := h))) | refine PW_cond rfl (fun h => ?_) (fun h => ?_)))
          all_goals try (exfalso; have := of_decide_eq_true h; rw [b1, hfl4, wrap64 (by omega)] at this; omega)
          clear h
          (repeat' (first | (first | ((first | refine qA ?_ | refine qB ?_ | refine xN ?_ | refine xE ?_ | refine xT ?_); try show PW _ _ _ _ _ _) | refine ro1 tabOk rfl rfl ?_ | refine ro2 tabOk rfl rfl ?_ | refine ro3 tabOk rfl rfl ?_ | refine rd1 tabOk rfl rfl ?_ | refine rd2 tabOk rfl rfl ?_ | refine rd3 tabOk rfl rfl ?_ | ((first | apply oR rfl rfl | (apply dF rfl rfl rfl; intro _) | (apply dP rfl rfl rfl; intro _) | (apply dL rfl rfl rfl; intro _) | apply dC rfl rfl rfl rfl); (focus (first | exact cqP hB | exact PO_buildSlice_lit rfl (EL rfl) (SZ rfl) (AG rfl) (ZR rfl) rfl rfl rfl rfl rfl rfl rfl | exact PO_append_lit0 rfl (EL rfl) (SZ rfl) rfl rfl | exact PO_appb_lit [] d rfl (EL rfl) (SZ rfl) (BY rfl) (ZR rfl) rfl rfl rfl rfl (by omega) (by simp; omega) (by simp [maxLen]; omega) | exact cJ | exact mG | exact bT | exact nD)); try exact kQ) | refine xU [7] rfl ?_ | refine xR ?_ | refine qxa rfl rfl mixed ?_ | refine qxb rfl rfl mixed ?_ | refine qxc rfl rfl mixed ?_ | refine qxd rfl rfl mixed ?_ | refine xB ?_ | refine xt rfl ?_ | refine xf rfl ?_) | (refine POps_split rfl rfl (fun h => ?_) (fun h => ?_) <;> fail_if_success (first | (have : true = true := h) | (have : false = false := h))) | (refine POpsD_split rfl rfl (fun h => ?_) (fun h => ?_) <;> fail_if_success (first | (have : true = true := h) | (have : false = false := h))) | refine PW_cond rfl (fun h => ?_) (fun h => ?_)))
          exact PW_weak (env' := slots [(0, .g (.sl (bys []))), (2, .g (.sl (VCmd.gs l)))]) (SlotsOk.le ⟨.inl rfl, .inl rfl, trivial⟩) (HLe.of_eq (by rfl)) (hrest ([] ++ d).length)
        · (repeat' (first | (first | ((first | refine qA ?_ | refine qB ?_ | refine xN ?_ | refine xE ?_ | refine xT ?_); try show PW _ _ _ _ _ _) | refine ro1 tabOk rfl rfl ?_ | refine ro2 tabOk rfl rfl ?_ | refine ro3 tabOk rfl rfl ?_ | refine rd1 tabOk rfl rfl ?_ | refine rd2 tabOk rfl rfl ?_ | refine rd3 tabOk rfl rfl ?_ | ((first | apply oR rfl rfl | (apply dF rfl rfl rfl; intro _) | (apply dP rfl rfl rfl; intro _) | (apply dL rfl rfl rfl; intro _) | apply dC rfl rfl rfl rfl); (focus (first | exact cqP hA | exact cqP hR | exact cqP hB | exact PO_buildSlice_lit rfl (EL rfl) (SZ rfl) (AG rfl) (ZR rfl) rfl rfl rfl rfl rfl rfl rfl | exact PO_appb_lit [] file rfl (EL rfl) (SZ rfl) (BY rfl) (ZR rfl) rfl rfl rfl rfl (by omega) (by simp; omega) (by simp [maxLen]; omega) | exact PO_appb d rfl (EL rfl) (SZ rfl) (BY rfl) (ZR rfl) rfl rfl rfl rfl rfl (by simp; omega) (by simp [maxLen]; omega) | exact cJ | exact mG | exact bT | exact nD)); try exact kQ) | refine xU [5] rfl ?_ | refine xR ?_ | refine qxa rfl rfl mixed ?_ | refine qxb rfl rfl mixed ?_ | refine qxc rfl rfl mixed ?_ | refine qxd rfl rfl mixed ?_ | refine xB ?_ | refine xt rfl ?_ | refine xf rfl ?_) | (refine POps_split rfl rfl (fun h => ?_) (fun h => ?_) <;> fail_if_success (first | (have : true = true := h) | (have : false = false := h))) | (refine POpsD_split rfl rfl (fun h => ?_) (fun h => ?_) <;> fail_if_success (first | (have : true = true := h) | (have : false = false := h))) | refine PW_cond rfl (fun h => ?_) (fun h => ?_)))
          all_goals try (exfalso; have := of_decide_eq_true h; rw [b1, hfl4, wrap64 (by omega)] at this; omega)
          clear h
          (repeat' (first | (first | ((first | refine qA ?_ | refine qB ?_ | refine xN ?_ | refine xE ?_ | refine xT ?_); try show PW _ _ _ _ _ _) | refine ro1 tabOk rfl rfl ?_ | refine ro2 tabOk rfl rfl ?_ | refine ro3 tabOk rfl rfl ?_ | refine rd1 tabOk rfl rfl ?_ | refine rd2 tabOk rfl rfl ?_ | refine rd3 tabOk rfl rfl ?_ | ((first | apply oR rfl rfl | (apply dF rfl rfl rfl; intro _) | (apply dP rfl rfl rfl; intro _) | (apply dL rfl rfl rfl; intro _) | apply dC rfl rfl rfl rfl); (focus (first | exact cqP hB | exact PO_buildSlice_lit rfl (EL rfl) (SZ rfl) (AG rfl) (ZR rfl) rfl rfl rfl rfl rfl rfl rfl | exact PO_appb_lit [] file rfl (EL rfl) (SZ rfl) (BY rfl) (ZR rfl) rfl rfl rfl rfl (by omega) (by simp; omega) (by simp [maxLen]; omega) | exact PO_appb d rfl (EL rfl) (SZ rfl) (BY rfl) (ZR rfl) rfl rfl rfl rfl rfl (by simp; omega) (by simp [maxLen]; omega) | exact cJ | exact mG | exact bT | exact nD)); try exact kQ) | refine xU [7] rfl ?_ | refine xR ?_ | refine qxa rfl rfl mixed ?_ | refine qxb rfl rfl mixed ?_ | refine qxc rfl rfl mixed ?_ | refine qxd rfl rfl mixed ?_ | refine xB ?_ | refine xt rfl ?_ | refine xf rfl ?_) | (refine POps_split rfl rfl (fun h => ?_) (fun h => ?_) <;> fail_if_success (first | (have : true = true := h) | (have : false = false := h))) | (refine POpsD_split rfl rfl (fun h => ?_) (fun h => ?_) <;> fail_if_success (first | (have : true = true := h) | (have : false = false := h))) | refine PW_cond rfl (fun h => ?_) (fun h => ?_)))
          exact PW_weak (env' := slots [(0, .g (.sl (bys file))), (2, .g (.sl (VCmd.gs l)))]) (SlotsOk.le ⟨.inl rfl, .inl rfl, trivial⟩) (HLe.of_eq (by rfl)) (hrest ([] ++ file ++ d).length)
    · rw [if_neg (by decide)] at hA hR
      (repeat' (first | (first | ((first | refine qA ?_ | refine qB ?_ | refine xN ?_ | refine xE ?_ | refine xT ?_); try show PW _ _ _ _ _ _) | refine ro1 tabOk rfl rfl ?_ | refine ro2 tabOk rfl rfl ?_ | refine ro3 tabOk rfl rfl ?_ | refine rd1 tabOk rfl rfl ?_ | refine rd2 tabOk rfl rfl ?_ | refine rd3 tabOk rfl rfl ?_ | ((first | apply oR rfl rfl | (apply dF rfl rfl rfl; intro _) | (apply dP rfl rfl rfl; intro _) | (apply dL rfl rfl rfl; intro _) | apply dC rfl rfl rfl rfl); (focus (first | exact cqP hA | exact cqP hR | exact cJ | exact mG | exact bT | exact nD)); try exact kQ) | refine xU [7] rfl ?_ | refine xR ?_ | refine qxa rfl rfl mixed ?_ | refine qxb rfl rfl mixed ?_ | refine qxc rfl rfl mixed ?_ | refine qxd rfl rfl mixed ?_ | refine xB ?_ | refine xt rfl ?_ | refine xf rfl ?_) | (refine POps_split rfl rfl (fun h => ?_) (fun h => ?_) <;> fail_if_success (first | (have : true = true := h) | (have : false = false := h))) | (refine POpsD_split rfl rfl (fun h => ?_) (fun h => ?_) <;> fail_if_success (first | (have : true = true := h) | (have : false = false := h))) | refine PW_cond rfl (fun h => ?_) (fun h => ?_)))
      exact PW_dead 5 (SZ rfl) (PW_weak (env' := slots [(0, .g (.sl (bys file))), (2, .g (.sl (VCmd.gs l)))]) (SlotsOk.le ⟨.inl rfl, .inl rfl, trivial⟩) (HLe.of_eq rfl) (hrest 0))
end Go.Proofs.Ytffpepmfdjjjaaa


namespace Go.Proofs.Ytffpepmfdjjjaaa
open Go.Pure Go.ChangeShapes Go.WideShapes Go.ChangeAt Go.RowKit

set_option maxRecDepth 100000 in
theorem journalTells_lifted (os : Os) (started : os.Started) (H : Type) (enc : TypeId × Value → H) (F : Stop.Interp) :
    ReturnsInHanded {} Try.checked os 8 .any ((Rows.OpenSpec.upto Rows.journalTellsSpec).pre6 enc Try.prog Try.f8 Rows.journalTellsUptoRow.domain false) (((Rows.OpenSpec.upto Rows.journalTellsSpec).at F).post enc Try.prog Try.f8 false true false false) := by
  refine returnsInHanded_of_cond (C := Try.checked) (s := Rows.OpenSpec.upto Rows.journalTellsSpec) (k := Rows.uptoSmall) rfl own started (by kernel_rfl) Try.func8
    (OpenSpec.witness (enc := enc) (C := Try.checked) (s := Rows.OpenSpec.upto Rows.journalTellsSpec) (k := Rows.uptoSmall) rfl false ⟨#[], #[.slice none 0 0, .agg #[.int .i64 0, .int .i64 0, .int .i64 0, .string ⟨#[]⟩, .int .i64 0, .slice none 0 0, .slice none 0 0, .slice none 0 0, .string ⟨#[]⟩, .int .i64 0], .slice none 0 0], []⟩ 8 (by kernel_rfl) (by kernel_rfl) (by kernel_rfl)
      (x := ([.nil, .agg [.lit (.int .i64 0), .lit (.int .i64 0), .lit (.int .i64 0), .agg [.lit (.string []), .lit (.int .i64 0), .nil, .nil, .nil], .lit (.string []), .lit (.int .i64 0)], .nil], [], [])) (by kernel_rfl) rfl (by kernel_rfl)) ?_
  intro W base args ds gs before hval hW _ hk _
  refine law_calls (s := Rows.journalTellsSpec) (set := [2, 3, 4, 9, 22, 23, 25, 27, 64, 66, 69, 70, 72, 111, 113, 117, 121, 51, 5, 38]) (B := 4) (by kernel_rfl) (by kernel_rfl) laidOut rfl rfl Try.underlying4 (fun ds hl => ?_) W base args ds gs before hval hW (fun xs hl hl2 hD hT => ?_)
  · match ds, hl with
    | [a0, a1, a2], _ => rfl
  · match xs, hl with
    | [a0, a1, a2], _ =>
      have hbk := bulk_all hl2 hD
      have hs : Rows.uptoBulkAll (ds ++ gs) ≤ 1048576 := of_decide_eq_true hk
      rw [bulkAll_append] at hs
      obtain ⟨f, rfl, hl⟩ := bytes_inv (hT 0 38 _ rfl rfl)
      have wc := (hT 1 27 _ rfl rfl).gwf
      obtain ⟨c, rfl⟩ := cmd_in (hT 1 27 _ rfl rfl)
      obtain ⟨l, rfl, wl⟩ := cmds_in (hT 2 51 _ rfl rfl)
      simp only [gbulks, gbulk, VCmd.gs] at hbk
      have hfb := bys_bulk f
      simp only [gbulk] at hfb
      exact jtells_pc f c l (by omega) (by omega) (by omega) wc wl

theorem journalTells_holds : Rows.JournalTellsUptoSaid :=
  OpenClaim.holds_of_cond 8 Try.f8 rfl rfl rfl rfl rfl rfl rfl ⟨rfl, rfl, rfl, rfl, rfl⟩ rfl rfl rfl rfl rfl (by kernel_rfl) Try.func8 (by kernel_rfl)
    (of_decide_eq_true (by kernel_rfl)) (by unfold Func.isWrapper; first | (rw [if_pos (by decide +kernel)]; kernel_rfl) | (rw [if_neg (by decide +kernel)]; exact ⟨rfl, rfl⟩))
    (fun os started H enc _ F => journalTells_lifted os started H enc F)
#print axioms journalTells_holds
end Go.Proofs.Ytffpepmfdjjjaaa
