/- What the program's functions compute, each shown once; and plain laws of it. -/
import Derived.Test.YtdicineiaifahaaGreatDoorOwnF
import Derived.Test.YtdicineiaifahaaGreatDoorPureG
namespace Go.Pure.V
open Go Go.Proofs Go.Proofs.YtdicineiaifahaaGreatDoor
attribute [local irreducible] PW POps POpsD PO PC Cond

/-! Package verdictbig: numbers by words of 32 bits -/
abbrev W32 : Nat := 103
abbrev AR (g : Nat) (ws : List Nat) : MO := .arr g W32 (wsG ws)
theorem trim_g {l : List Nat} (hw : okW l) (hm : l.length ≤ maxLen) : PC Tryz.prog 74 [.g (.sl (wsG l))] ⟨[], [], []⟩ (.g (.sl (wsG (dig (val l))))) ⟨[], [], []⟩ := by
  rw [dig_val hw]
  have hlen := wsG_length l
  refine PC_of_PW Tryz.func74 rfl rfl (rs := _) rfl (Nat.le_of_ble_eq_true (by kernel_rfl)) ?_
  (repeat (first|((first|refine qA ?_|refine qB ?_|refine xN ?_|refine xE ?_|refine xT ?_); try show PW _ _ _ _ _ _)|refine ro1 tabOk rfl rfl ?_|refine ro2 tabOk rfl rfl ?_|refine ro3 tabOk rfl rfl ?_|(apply oR rfl rfl; (focus (first|exact cJ|exact mG|exact bT|exact nD)))|refine xS ?_|refine xR ?_|refine xB ?_|refine xt rfl ?_|refine xf rfl ?_))
  refine PW_loop (S := Nat) (fun i => slots [(0, .g (.sl (wsG l))), (3, .g (.int .i64 i))]) (fun i => ⟨[], [], []⟩) (fun i => i ≤ l.length ∧ ∀ j, i ≤ j → ∀ x, l[j]? = some x → x = 0) (fun i => i) l.length ⟨Nat.le_refl _, fun j hj x hx => by rw [List.getElem?_eq_none (by omega)] at hx; cases hx⟩
    (SlotsOk.le ⟨.inl rfl, .inl (congrArg (fun k : Nat => PV.g (.int .i64 k)) hlen), trivial⟩) (HLe.of_eq rfl) (fun i hi => ?_)
  obtain ⟨hi, hz⟩ := hi
  have cut : ∀ k : Nat, k ≤ l.length → ((wsG l).drop 0).take (k - 0) = wsG (l.take k) := fun k _ => by rw [List.drop_zero, Nat.sub_zero]; unfold wsG; rw [List.map_take]
  cases i with
  | zero =>
    have hk : nlen l = 0 := nlen_none fun x hx => by
      obtain ⟨j, hj⟩ := List.getElem?_of_mem hx
      exact hz j (Nat.zero_le _) x hj
    (repeat (first|((first|refine qA ?_|refine qB ?_|refine xN ?_|refine xE ?_|refine xT ?_); try show PW _ _ _ _ _ _)|refine ro1 tabOk rfl rfl ?_|refine ro2 tabOk rfl rfl ?_|refine ro3 tabOk rfl rfl ?_|(apply oR rfl rfl; (focus (first|exact PO_slice_sl rfl (EL rfl) (SZ rfl) rfl rfl rfl (by decide) (Int.natCast_nonneg 0) (by show ((0 : Nat) : Int) ≤ ((wsG l).length : Int); omega) (fun x hx => by rw [wsG_cells x hx]; rfl)|exact cJ|exact mG|exact bT|exact nD)))|refine xS ?_|refine xR ?_|refine xB ?_|refine xt rfl ?_|refine xf rfl ?_))
    rw [hk]
    (first|refine Ret_int (vC vT vN) rfl ?_|refine Ret_bool (vC vT vN) rfl ?_|refine Ret_g (vC vT vN) rfl ?_)
    exact congrArg GV.sl (cut 0 (Nat.zero_le _))
  | succ i =>
    have hli : l[i]? = some (l[i]'(by omega)) := List.getElem?_eq_getElem (by omega)
    generalize l[i]'(by omega) = x at hli
    have hg : (wsG l)[i]? = some (wG x) := wsG_get hli
    have hsub : IntKind.i64.wrap (((i + 1 : Nat) : Int) - 1) = (i : Int) := by rw [w64 (by unfold maxLen at hm; omega)]; omega
    have hgi : (wsG l)[(IntKind.i64.wrap (((i + 1 : Nat) : Int) - 1)).toNat]? = some (wG x) := by rw [hsub, Int.toNat_natCast]; exact hg
    have hpos : decide ((0 : Int) < ((i + 1 : Nat) : Int)) = true := decide_eq_true (by omega)
    (repeat (first|((first|refine qA ?_|refine qB ?_|refine xN ?_|refine xE ?_|refine xT ?_); try show PW _ _ _ _ _ _)|refine ro1 tabOk rfl rfl ?_|refine ro2 tabOk rfl rfl ?_|refine ro3 tabOk rfl rfl ?_|(apply oR rfl rfl; (focus (first|exact cJ|exact mG|exact bT|exact nD)))|refine xS ?_|refine xR ?_|refine xB ?_|refine xt rfl ?_|refine xf rfl ?_))
    (first|refine POps_split rfl rfl (fun h => ?_) (fun h => ?_)|refine PW_cond rfl (fun h => ?_) (fun h => ?_))
    · clear h
      (repeat (first|((first|refine qA ?_|refine qB ?_|refine xN ?_|refine xE ?_|refine xT ?_); try show PW _ _ _ _ _ _)|refine ro1 tabOk rfl rfl ?_|refine ro2 tabOk rfl rfl ?_|refine ro3 tabOk rfl rfl ?_|(apply oR rfl rfl; (focus (first|exact iA (g := wG x) rfl (EL rfl) (SZ rfl) rfl rfl (by rw [hsub]; exact Int.natCast_nonneg _) hgi rfl|exact cJ|exact mG|exact bT|exact nD)))|refine xS ?_|refine xR ?_|refine xB ?_|refine xt rfl ?_|refine xf rfl ?_))
      (first|refine POps_split rfl rfl (fun h => ?_) (fun h => ?_)|refine PW_cond rfl (fun h => ?_) (fun h => ?_))
      · have hx0 : x = 0 := by have := of_decide_eq_true h; omega
        subst hx0
        clear h
        (repeat (first|((first|refine qA ?_|refine qB ?_|refine xN ?_|refine xE ?_|refine xT ?_); try show PW _ _ _ _ _ _)|refine ro1 tabOk rfl rfl ?_|refine ro2 tabOk rfl rfl ?_|refine ro3 tabOk rfl rfl ?_|(apply oR rfl rfl; (focus (first|exact cJ|exact mG|exact bT|exact nD)))|refine xS ?_|refine xR ?_|refine xB ?_|refine xt rfl ?_|refine xf rfl ?_))
        refine ⟨i, ⟨by omega, fun j hj x hx => ?_⟩, by omega, SlotsOk.le ⟨.inl rfl, .inl (congrArg (fun k => PV.g (.int .i64 k)) hsub), trivial⟩, HLe.of_eq rfl⟩
        by_cases hji : j = i
        · subst hji; rw [hli] at hx; exact (Option.some.inj hx).symm
        · exact hz j (by omega) x hx
      · have hx0 : x ≠ 0 := fun e => by subst e; simp at h
        have hk : nlen l = i + 1 := nlen_step hli (fun j hj y hy => hz j hj y hy) hx0
        clear h
        (repeat (first|((first|refine qA ?_|refine qB ?_|refine xN ?_|refine xE ?_|refine xT ?_); try show PW _ _ _ _ _ _)|refine ro1 tabOk rfl rfl ?_|refine ro2 tabOk rfl rfl ?_|refine ro3 tabOk rfl rfl ?_|(apply oR rfl rfl; (focus (first|exact PO_slice_sl rfl (EL rfl) (SZ rfl) rfl rfl rfl (by decide) (Int.natCast_nonneg _) (by show ((i + 1 : Nat) : Int) ≤ ((wsG l).length : Int); rw [hlen]; omega) (fun x hx => by rw [wsG_cells x hx]; rfl)|exact cJ|exact mG|exact bT|exact nD)))|refine xS ?_|refine xR ?_|refine xB ?_|refine xt rfl ?_|refine xf rfl ?_))
        rw [hk]
        (first|refine Ret_int (vC vT vN) rfl ?_|refine Ret_bool (vC vT vN) rfl ?_|refine Ret_g (vC vT vN) rfl ?_)
        exact congrArg GV.sl (cut (i + 1) hi)
    · have := of_decide_eq_false h; omega
end Go.Pure.V

