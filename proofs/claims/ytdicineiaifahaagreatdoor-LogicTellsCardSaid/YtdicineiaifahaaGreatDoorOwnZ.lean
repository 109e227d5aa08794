/- What the program's functions compute, each shown once; and plain laws of it. -/
import Derived.Test.YtdicineiaifahaaGreatDoorOwnV
import Derived.Test.YtdicineiaifahaaGreatDoorOwnX
import Derived.Test.YtdicineiaifahaaGreatDoorOwnY
import Derived.Test.YtdicineiaifahaaGreatDoorOwnD
import Derived.Shelf.Unicode.ValidAny
import Derived.Test.YtdicineiaifahaaGreatDoorPureB
import Derived.Test.YtdicineiaifahaaGreatDoorPureQ
import Derived.Lib.LaidIn
import Derived.Lib.LaidU8T
import Derived.PinnedBridge
import Derived.Test.YtdicineiaifahaaGreatDoorCards
import Derived.Test.YtdicineiaifahaaGreatDoorTie
import Derived.Deep.DeepHandedRow
import Derived.Deep.DeepWitnessRowRef
import Derived.Lay
import Derived.OpenVars
import Derived.OpenShut
import Derived.LaidMore
import Derived.LaidOnce
import Derived.SevenTiedAt
import Derived.Clock
import Derived.JoinedCond
import Derived.ProofKit
import Derived.SizedLaws
namespace Go.Proofs.YtdicineiaifahaaGreatDoor
open Go Go.Pure
attribute [local irreducible] PW POps POpsD PO PC Cond

set_option maxRecDepth 100000 in
set_option maxHeartbeats 8000000 in
theorem same_pc : ∀ (a b : VVal), gsz a.g → gsz b.g → PC Tryz.prog 10 [.g a.g, .g b.g] ⟨[], [], []⟩ (.g (.bool (sameV a b))) ⟨[], [], []⟩
  | .mk k y c e t l, .mk k' y' c' e' t' l', ha, hb => by
    obtain ⟨hla, hma⟩ := VVal.gsz_list ha
    obtain ⟨hlb, hmb⟩ := VVal.gsz_list hb
    have ih : ∀ x ∈ l, ∀ z ∈ l', PC Tryz.prog 10 [.g x.g, .g z.g] ⟨[], [], []⟩ (.g (.bool (sameV x z))) ⟨[], [], []⟩ := fun x hx z hz => same_pc x z (hma x hx) (hmb z hz)
    have g1 : (VVal.gs l).length = l.length := by simp [VVal.gs_eq]
    have g2 : (VVal.gs l').length = l'.length := by simp [VVal.gs_eq]
    by_cases hs : k = k' ∧ y = y' ∧ (c = c' ∧ e = e') ∧ t = t' ∧ l.length = l'.length
    · obtain ⟨rfl, rfl, ⟨rfl, rfl⟩, rfl, hl⟩ := hs
      have hv : sameV (.mk k y c e t l) (.mk k y c e t l') = sameVs l l' := by rw [sameV]; simp
      rw [hv]
      refine PC_of_PW Tryz.func10 rfl rfl (rs := _) rfl (Nat.le_of_ble_eq_true (by kernel_rfl)) ?_
      (repeat' (first|(first|((first|refine qA ?_|refine qB ?_|refine xN ?_|refine xE ?_|refine xT ?_); try show PW _ _ _ _ _ _)|refine ro1 tabOk rfl rfl ?_|refine ro2 tabOk rfl rfl ?_|refine ro3 tabOk rfl rfl ?_|refine rd1 tabOk rfl rfl ?_|refine rd2 tabOk rfl rfl ?_|refine rd3 tabOk rfl rfl ?_|((first|apply oR rfl rfl|(apply dF rfl rfl rfl; intro _)|(apply dP rfl rfl rfl; intro _)|(apply dL rfl rfl rfl; intro _)|apply dC rfl rfl rfl rfl); (focus (first|exact cJ|exact mG|exact bT|exact nD)); try exact kQ)|refine xU [3] rfl ?_|refine xR ?_|refine qxa rfl rfl mixed ?_|refine qxb rfl rfl mixed ?_|refine qxi rfl rfl rfl rfl rfl mixed ?_|refine qxc rfl rfl mixed ?_|refine qxd rfl rfl mixed ?_|refine xB ?_|refine xt rfl ?_|refine xf rfl ?_)|(refine POps_split rfl rfl (fun h => ?_) (fun h => ?_) <;> fail_if_success (first|(have : true = true := h)|(have : false = false := h)))|(refine POpsD_split rfl rfl (fun h => ?_) (fun h => ?_) <;> fail_if_success (first|(have : true = true := h)|(have : false = false := h)))|refine PW_cond rfl (fun h => ?_) (fun h => ?_)))
      all_goals (first | (exfalso; simp_all; done) | skip)
      (repeat (first|((first|refine qA ?_|refine qB ?_|refine xN ?_|refine xE ?_|refine xT ?_); try show PW _ _ _ _ _ _)|refine ro1 tabOk rfl rfl ?_|refine ro2 tabOk rfl rfl ?_|refine ro3 tabOk rfl rfl ?_|refine rd1 tabOk rfl rfl ?_|refine rd2 tabOk rfl rfl ?_|refine rd3 tabOk rfl rfl ?_|((first|apply oR rfl rfl|(apply dF rfl rfl rfl; intro _)|(apply dP rfl rfl rfl; intro _)|(apply dL rfl rfl rfl; intro _)|apply dC rfl rfl rfl rfl); (focus (first|exact cJ|exact mG|exact bT|exact nD)); try exact kQ)|refine xS ?_|refine xR ?_|refine qxa rfl rfl mixed ?_|refine qxb rfl rfl mixed ?_|refine qxi rfl rfl rfl rfl rfl mixed ?_|refine qxc rfl rfl mixed ?_|refine qxd rfl rfl mixed ?_|refine xB ?_|refine xt rfl ?_|refine xf rfl ?_))
      refine PW_loop (S := Nat) (fun i => slots [(2, .ptr 0 0), (3, .ptr 1 0), (43, .g (.int .i64 l.length)), (44, .g (.int .i64 i))])
        (fun _ => ⟨[[.g (.int .i64 k), .g (.bool y), .g (.int .i64 c), .g (.int .i64 e), .g (.str t), .g (.sl (VVal.gs l))], [.g (.int .i64 k), .g (.bool y), .g (.int .i64 c), .g (.int .i64 e), .g (.str t), .g (.sl (VVal.gs l'))]], [], []⟩)
        (fun i => i ≤ l.length ∧ sameVs (l.drop i) (l'.drop i) = sameVs l l') (fun i => l.length - i) 0 ⟨Nat.zero_le _, rfl⟩
        (SlotsOk.le ⟨.inl rfl, .inl rfl, .inl (congrArg (fun k : Nat => PV.g (.int .i64 k)) g1), .inl rfl, trivial⟩) (HLe.of_eq rfl) (fun i hs => ?_)
      obtain ⟨hi, hgo⟩ := hs
      clear h
      (repeat (first|((first|refine qA ?_|refine qB ?_|refine xN ?_|refine xE ?_|refine xT ?_); try show PW _ _ _ _ _ _)|refine ro1 tabOk rfl rfl ?_|refine ro2 tabOk rfl rfl ?_|refine ro3 tabOk rfl rfl ?_|refine rd1 tabOk rfl rfl ?_|refine rd2 tabOk rfl rfl ?_|refine rd3 tabOk rfl rfl ?_|((first|apply oR rfl rfl|(apply dF rfl rfl rfl; intro _)|(apply dP rfl rfl rfl; intro _)|(apply dL rfl rfl rfl; intro _)|apply dC rfl rfl rfl rfl); (focus (first|exact cJ|exact mG|exact bT|exact nD)); try exact kQ)|refine xS ?_|refine xR ?_|refine qxa rfl rfl mixed ?_|refine qxb rfl rfl mixed ?_|refine qxi rfl rfl rfl rfl rfl mixed ?_|refine qxc rfl rfl mixed ?_|refine qxd rfl rfl mixed ?_|refine xB ?_|refine xt rfl ?_|refine xf rfl ?_))
      (first|refine POps_split rfl rfl (fun h => ?_) (fun h => ?_)|refine POpsD_split rfl rfl (fun h => ?_) (fun h => ?_)|refine PW_cond rfl (fun h => ?_) (fun h => ?_))
      · have hlt : i < l.length := by have := of_decide_eq_true h; omega
        have hlt' : i < l'.length := by omega
        have hg : (VVal.gs l)[((i : Int)).toNat]? = some l[i].g := by rw [VVal.gs_eq]; exact map_get hlt
        have hg' : (VVal.gs l')[((i : Int)).toNat]? = some l'[i].g := by rw [VVal.gs_eq]; exact map_get hlt'
        have ih := ih l[i] (List.getElem_mem hlt) l'[i] (List.getElem_mem hlt')
        rw [List.drop_eq_getElem_cons hlt, List.drop_eq_getElem_cons hlt', sameVs] at hgo
        generalize l[i] = x at hg ih hgo
        generalize l'[i] = z at hg' ih hgo
        generalize sameV x z = r at ih hgo
        obtain ⟨x0, x1, x2, x3, x4, x5⟩ := x
        obtain ⟨z0, z1, z2, z3, z4, z5⟩ := z
        clear h
        cases r with
        | true =>
          (repeat (first|((first|refine qA ?_|refine qB ?_|refine xN ?_|refine xE ?_|refine xT ?_); try show PW _ _ _ _ _ _)|refine ro1 tabOk rfl rfl ?_|refine ro2 tabOk rfl rfl ?_|refine ro3 tabOk rfl rfl ?_|refine rd1 tabOk rfl rfl ?_|refine rd2 tabOk rfl rfl ?_|refine rd3 tabOk rfl rfl ?_|((first|apply oR rfl rfl|(apply dF rfl rfl rfl; intro _)|(apply dP rfl rfl rfl; intro _)|(apply dL rfl rfl rfl; intro _)|apply dC rfl rfl rfl rfl); (focus (first|exact cqP ih|exact iA rfl (EL rfl) (SZ rfl) rfl rfl (Int.natCast_nonneg _) hg rfl|exact iA rfl (EL rfl) (SZ rfl) rfl rfl (Int.natCast_nonneg _) hg' rfl|exact cJ|exact mG|exact bT|exact nD)); try exact kQ)|refine xS ?_|refine xR ?_|refine qxa rfl rfl mixed ?_|refine qxb rfl rfl mixed ?_|refine qxi rfl rfl rfl rfl rfl mixed ?_|refine qxc rfl rfl mixed ?_|refine qxd rfl rfl mixed ?_|refine xB ?_|refine xt rfl ?_|refine xf rfl ?_))
          exact ⟨i + 1, ⟨hlt, by simpa using hgo⟩, by omega, SlotsOk.le ⟨.inl rfl, .inl rfl, .inl rfl, .inl (congrArg (fun k => PV.g (.int .i64 k)) (wrap64 (by simp only [maxLen] at hla; omega))), trivial⟩, HLe.of_eq rfl⟩
        | false =>
          (repeat (first|((first|refine qA ?_|refine qB ?_|refine xN ?_|refine xE ?_|refine xT ?_); try show PW _ _ _ _ _ _)|refine ro1 tabOk rfl rfl ?_|refine ro2 tabOk rfl rfl ?_|refine ro3 tabOk rfl rfl ?_|refine rd1 tabOk rfl rfl ?_|refine rd2 tabOk rfl rfl ?_|refine rd3 tabOk rfl rfl ?_|((first|apply oR rfl rfl|(apply dF rfl rfl rfl; intro _)|(apply dP rfl rfl rfl; intro _)|(apply dL rfl rfl rfl; intro _)|apply dC rfl rfl rfl rfl); (focus (first|exact cqP ih|exact iA rfl (EL rfl) (SZ rfl) rfl rfl (Int.natCast_nonneg _) hg rfl|exact iA rfl (EL rfl) (SZ rfl) rfl rfl (Int.natCast_nonneg _) hg' rfl|exact cJ|exact mG|exact bT|exact nD)); try exact kQ)|refine xS ?_|refine xR ?_|refine qxa rfl rfl mixed ?_|refine qxb rfl rfl mixed ?_|refine qxi rfl rfl rfl rfl rfl mixed ?_|refine qxc rfl rfl mixed ?_|refine qxd rfl rfl mixed ?_|refine xB ?_|refine xt rfl ?_|refine xf rfl ?_))
          (first|refine Ret_int (vC vT vN) rfl ?_|refine Ret_bool (vC vT vN) rfl ?_|refine Ret_g (vC vT vN) rfl ?_)
          simpa using hgo
      · have hi' : i = l.length := by have := of_decide_eq_false h; omega
        subst hi'
        rw [List.drop_length, hl, List.drop_length, sameVs] at hgo
        (repeat (first|((first|refine qA ?_|refine qB ?_|refine xN ?_|refine xE ?_|refine xT ?_); try show PW _ _ _ _ _ _)|refine ro1 tabOk rfl rfl ?_|refine ro2 tabOk rfl rfl ?_|refine ro3 tabOk rfl rfl ?_|refine rd1 tabOk rfl rfl ?_|refine rd2 tabOk rfl rfl ?_|refine rd3 tabOk rfl rfl ?_|((first|apply oR rfl rfl|(apply dF rfl rfl rfl; intro _)|(apply dP rfl rfl rfl; intro _)|(apply dL rfl rfl rfl; intro _)|apply dC rfl rfl rfl rfl); (focus (first|exact cJ|exact mG|exact bT|exact nD)); try exact kQ)|refine xS ?_|refine xR ?_|refine qxa rfl rfl mixed ?_|refine qxb rfl rfl mixed ?_|refine qxi rfl rfl rfl rfl rfl mixed ?_|refine qxc rfl rfl mixed ?_|refine qxd rfl rfl mixed ?_|refine xB ?_|refine xt rfl ?_|refine xf rfl ?_))
        (first|refine Ret_int (vC vT vN) rfl ?_|refine Ret_bool (vC vT vN) rfl ?_|refine Ret_g (vC vT vN) rfl ?_)
        exact hgo
    · have hv : sameV (.mk k y c e t l) (.mk k' y' c' e' t' l') = false := by
        cases hq : sameV (.mk k y c e t l) (.mk k' y' c' e' t' l') with
        | false => rfl
        | true =>
          have := (sameV_iff _ _).1 hq
          simp only [VVal.mk.injEq] at this
          obtain ⟨h1, h2, h3, h4, h5, h6⟩ := this
          exact absurd ⟨h1, h2, ⟨h3, h4⟩, h5, by rw [h6]⟩ hs
      rw [hv]
      have hlz : ((VVal.gs l).length : Int) = ((VVal.gs l').length : Int) → l.length = l'.length := by rw [g1, g2]; omega
      have htz : t.toList = t'.toList → t = t' := text_inj
      refine PC_of_PW Tryz.func10 rfl rfl (rs := _) rfl (Nat.le_of_ble_eq_true (by kernel_rfl)) ?_
      (repeat' (first|(first|((first|refine qA ?_|refine qB ?_|refine xN ?_|refine xE ?_|refine xT ?_); try show PW _ _ _ _ _ _)|refine ro1 tabOk rfl rfl ?_|refine ro2 tabOk rfl rfl ?_|refine ro3 tabOk rfl rfl ?_|refine rd1 tabOk rfl rfl ?_|refine rd2 tabOk rfl rfl ?_|refine rd3 tabOk rfl rfl ?_|((first|apply oR rfl rfl|(apply dF rfl rfl rfl; intro _)|(apply dP rfl rfl rfl; intro _)|(apply dL rfl rfl rfl; intro _)|apply dC rfl rfl rfl rfl); (focus (first|exact cJ|exact mG|exact bT|exact nD)); try exact kQ)|refine xU [3] rfl ?_|refine xR ?_|refine qxa rfl rfl mixed ?_|refine qxb rfl rfl mixed ?_|refine qxi rfl rfl rfl rfl rfl mixed ?_|refine qxc rfl rfl mixed ?_|refine qxd rfl rfl mixed ?_|refine xB ?_|refine xt rfl ?_|refine xf rfl ?_)|(refine POps_split rfl rfl (fun h => ?_) (fun h => ?_) <;> fail_if_success (first|(have : true = true := h)|(have : false = false := h)))|(refine POpsD_split rfl rfl (fun h => ?_) (fun h => ?_) <;> fail_if_success (first|(have : true = true := h)|(have : false = false := h)))|refine PW_cond rfl (fun h => ?_) (fun h => ?_)))
      all_goals (first | ((first|refine Ret_int (vC vT vN) rfl ?_|refine Ret_bool (vC vT vN) rfl ?_|refine Ret_g (vC vT vN) rfl ?_); rfl) | (exfalso; simp_all; done))

end Go.Proofs.YtdicineiaifahaaGreatDoor


namespace Go.Proofs.YtdicineiaifahaaGreatDoor
open Go Go.Pure
attribute [local irreducible] PW POps POpsD PO PC Cond

theorem gsz_told (n : Int) : gsz (toldV n).g := by
  rw [toldV_eq]
  exact gsz_mk (by show (0 : Nat) ≤ maxLen; exact Nat.zero_le _) (by show (0 : Nat) ≤ maxLen; exact Nat.zero_le _) (fun v hv => by cases hv)
theorem same_told (n : Int) : PC Tryz.prog 10 [.g (toldV n).g, .g (toldV n).g] ⟨[], [], []⟩ (.g (.bool true)) ⟨[], [], []⟩ := by
  have := same_pc (toldV n) (toldV n) (gsz_told n) (gsz_told n)
  rwa [(sameV_iff _ _).2 rfl] at this

set_option maxRecDepth 100000 in
set_option maxHeartbeats 8000000 in
theorem tells_law (hV : ∀ s : ByteArray, s.size ≤ maxLen → PC Tryz.prog 30 [.g (.str s)] ⟨[], [], []⟩ (.g (.bool (VD s))) ⟨[], [], []⟩) (a b : VVal) (ha : gsz a.g) (hb : gsz b.g) :
    PC Tryz.prog 4 [.g a.g, .g b.g] ⟨[], [], []⟩ (.g (.bool true)) ⟨[], [], []⟩ := by
  have w1 := wrong_pc hV a ha
  have w2 := rwrongv_pc a ha
  have w3 := rwrongv_pc b hb
  have a1 := and_pc a b
  rw [← toldV_g] at a1
  have a2 := rand_pc a b
  have s1 := same_told (min (truthV a) (truthV b))
  have o1 := or_pc a b
  rw [← toldV_g] at o1
  have o2 := ror_pc a b
  have s2 := same_told (max (truthV a) (truthV b))
  have n1 := not_pc a
  have n2 := rnot_pc a
  have s3 := same_told (-truthV a)
  generalize toldV (min (truthV a) (truthV b)) = x1 at *
  generalize toldV (max (truthV a) (truthV b)) = x2 at *
  generalize toldV (-truthV a) = x3 at *
  by_cases hok : (lookV VD a 0 1).2 = 0 ∧ (lookV VD b 0 1).2 = 0
  · have ka := (lookV_ok (V := VD) a 0 1 hok.1).1
    have kb := (lookV_ok (V := VD) b 0 1 hok.2).1
    have e1 := equal_pc a b ha hb
    rw [← toldV_g] at e1
    have e2 := requal_pc a b ha hb
    rw [eqH_eqV a b ka kb] at e2
    have e3 := of_pc (n := eqV a b) (by have := eqV_rng a b; first | exact this | (rcases this with h | h | h <;> simp [h]))
    have s4 := same_told (eqV a b)
    have l1 := less_pc a b
    rw [← toldV_g] at l1
    have l2 := rless_pc a b (by
      intro k y c e t l k' y' c' e' t' l' p q k3 k3'
      subst p q k3 k3'
      exact ⟨lookV_num hok.1, lookV_num hok.2⟩)
    rw [lessH_lessV hok.1 hok.2] at l2
    have l3 := of_pc (n := lessV a b) (lessV_rng a b)
    have s5 := same_told (lessV a b)
    rw [hok.1] at w1 w2
    rw [hok.2] at w3
    generalize toldV (eqV a b) = x4 at *
    generalize toldV (lessV a b) = x5 at *
    generalize eqV a b + 1 = r1 at *
    generalize lessV a b + 1 = r2 at *
    clear hok ka kb hV ha hb
    obtain ⟨k, y, c, e, t, l⟩ := a
    obtain ⟨k', y', c', e', t', l'⟩ := b
    refine PC_of_PW Tryz.func4 rfl rfl (rs := _) rfl (Nat.le_of_ble_eq_true (by kernel_rfl)) ?_
    (repeat (first|((first|refine qA ?_|refine qB ?_|refine xN ?_|refine xE ?_|refine xT ?_); try show PW _ _ _ _ _ _)|refine ro1 tabOk rfl rfl ?_|refine ro2 tabOk rfl rfl ?_|refine ro3 tabOk rfl rfl ?_|refine rd1 tabOk rfl rfl ?_|refine rd2 tabOk rfl rfl ?_|refine rd3 tabOk rfl rfl ?_|((first|apply oR rfl rfl|(apply dF rfl rfl rfl; intro _)|(apply dP rfl rfl rfl; intro _)|(apply dL rfl rfl rfl; intro _)|apply dC rfl rfl rfl rfl); (focus (first|exact cqP w1|exact cqP w2|exact cqP w3|exact cqP a1|exact cqP a2|exact cqP s1|exact cqP o1|exact cqP o2|exact cqP s2|exact cqP n1|exact cqP n2|exact cqP s3|exact cqP e1|exact cqP e2|exact cqP e3|exact cqP s4|exact cqP l1|exact cqP l2|exact cqP l3|exact cqP s5|exact cJ|exact mG|exact bT|exact nD)); try exact kQ)|refine xS ?_|refine xR ?_|refine qxa rfl rfl mixed ?_|refine qxb rfl rfl mixed ?_|refine qxi rfl rfl rfl rfl rfl mixed ?_|refine qxc rfl rfl mixed ?_|refine qxd rfl rfl mixed ?_|refine xB ?_|refine xt rfl ?_|refine xf rfl ?_))
    (first|refine Ret_int (vC vT vN) rfl ?_|refine Ret_bool (vC vT vN) rfl ?_|refine Ret_g (vC vT vN) rfl ?_)
    rfl
  · generalize (lookV VD a 0 1).2 = p at *
    generalize (lookV VD b 0 1).2 = q at *
    clear hV ha hb
    obtain ⟨k, y, c, e, t, l⟩ := a
    obtain ⟨k', y', c', e', t', l'⟩ := b
    refine PC_of_PW Tryz.func4 rfl rfl (rs := _) rfl (Nat.le_of_ble_eq_true (by kernel_rfl)) ?_
    (repeat' (first|(first|((first|refine qA ?_|refine qB ?_|refine xN ?_|refine xE ?_|refine xT ?_); try show PW _ _ _ _ _ _)|refine ro1 tabOk rfl rfl ?_|refine ro2 tabOk rfl rfl ?_|refine ro3 tabOk rfl rfl ?_|refine rd1 tabOk rfl rfl ?_|refine rd2 tabOk rfl rfl ?_|refine rd3 tabOk rfl rfl ?_|((first|apply oR rfl rfl|(apply dF rfl rfl rfl; intro _)|(apply dP rfl rfl rfl; intro _)|(apply dL rfl rfl rfl; intro _)|apply dC rfl rfl rfl rfl); (focus (first|exact cqP w1|exact cqP w2|exact cqP w3|exact cqP a1|exact cqP a2|exact cqP s1|exact cqP o1|exact cqP o2|exact cqP s2|exact cqP n1|exact cqP n2|exact cqP s3|exact cJ|exact mG|exact bT|exact nD)); try exact kQ)|refine xU [5] rfl ?_|refine xR ?_|refine qxa rfl rfl mixed ?_|refine qxb rfl rfl mixed ?_|refine qxi rfl rfl rfl rfl rfl mixed ?_|refine qxc rfl rfl mixed ?_|refine qxd rfl rfl mixed ?_|refine xB ?_|refine xt rfl ?_|refine xf rfl ?_)|(refine POps_split rfl rfl (fun h => ?_) (fun h => ?_) <;> fail_if_success (first|(have : true = true := h)|(have : false = false := h)))|(refine POpsD_split rfl rfl (fun h => ?_) (fun h => ?_) <;> fail_if_success (first|(have : true = true := h)|(have : false = false := h)))|refine PW_cond rfl (fun h => ?_) (fun h => ?_)))
    all_goals (first | (exfalso; simp at h; done) | (exfalso; simp_all; done) | ((first|refine Ret_int (vC vT vN) rfl ?_|refine Ret_bool (vC vT vN) rfl ?_|refine Ret_g (vC vT vN) rfl ?_); rfl))
end Go.Proofs.YtdicineiaifahaaGreatDoor


namespace Go.Proofs.YtdicineiaifahaaGreatDoor
open Go Go.Pure Go.Shelf
def layValid_ren : Go.Shelf.Ren := ⟨fun | 196 => 30 | 259 => 38 | n => n, fun | 9 => 9 | 4 => 4 | 3 => 3 | 5 => 5 | 12 => 12 | 119 => 60 | 0 => 0 | 46 => 64 | 139 => 63 | 138 => 62 | 53 => 89 | n => n, fun | 3 => 0 | 4 => 1 | n => n⟩
theorem layValid : Go.Proofs.Lays.n196 Tryz.prog layValid_ren := {
  mixed := by kernel_rfl
  f196 := Tryz.func30.trans (congrArg some (by kernel_rfl))
  f259 := Tryz.func38.trans (congrArg some (by kernel_rfl))
  t0 := Tryz.underlying0
  a0 := Tryz.isAgg0
  z0 := Tryz.sizeOf0
  v0 := Tryz.zeroValue0
  t3 := Tryz.underlying3
  a3 := Tryz.isAgg3
  z3 := Tryz.sizeOf3
  v3 := Tryz.zeroValue3
  t4 := Tryz.underlying4
  a4 := Tryz.isAgg4
  z4 := Tryz.sizeOf4
  v4 := Tryz.zeroValue4
  t5 := Tryz.underlying5
  a5 := Tryz.isAgg5
  z5 := Tryz.sizeOf5
  v5 := Tryz.zeroValue5
  t9 := Tryz.underlying9
  a9 := Tryz.isAgg9
  z9 := Tryz.sizeOf9
  v9 := Tryz.zeroValue9
  t12 := Tryz.underlying12
  a12 := Tryz.isAgg12
  z12 := Tryz.sizeOf12
  v12 := Tryz.zeroValue12
  t46 := Tryz.underlying64
  a46 := Tryz.isAgg64
  z46 := Tryz.sizeOf64
  v46 := Tryz.zeroValue64
  t53 := Tryz.underlying89
  a53 := Tryz.isAgg89
  z53 := Tryz.sizeOf89
  v53 := Tryz.zeroValue89
  t119 := Tryz.underlying60
  a119 := Tryz.isAgg60
  z119 := Tryz.sizeOf60
  t138 := Tryz.underlying62
  a138 := Tryz.isAgg62
  z138 := Tryz.sizeOf62
  v138 := Tryz.zeroValue62
  t139 := Tryz.underlying63
  a139 := Tryz.isAgg63
  z139 := Tryz.sizeOf63
  v139 := Tryz.zeroValue63
  g3 := by kernel_rfl
  g4 := by kernel_rfl }
end Go.Proofs.YtdicineiaifahaaGreatDoor


namespace Go.Proofs.YtdicineiaifahaaGreatDoor
open Go Go.Pure Go.Shelf Go.Lib

theorem own : ownKnob Tryz.prog.godebug = none := by kernel_rfl
theorem laidOut : laidOutB Tryz.prog = true := by kernel_rfl

theorem var_int {l : List (String × DataW Unit)} {W : World} {name : String} {g t : Nat} {k : IntKind} {z : Int} (h : laidMet Tryz.prog l W) (hm : (name, DataW.lit (.int k z)) ∈ l) (hg : Tryz.prog.globalNamed name = some g) (ht : (Tryz.prog.globals[g]?).map (·.type) = some t) (hu : Tryz.prog.underlying t = some (.int k)) :
    W.cell? ⟨g, 0, none⟩ = some (.int k z) := by
  obtain ⟨g', t', cs, fuel, p, h1, h2, h3, h4⟩ := Lib.laidMet.reads h hm
  obtain rfl := Option.some.inj (hg.symm.trans h1)
  obtain rfl := Option.some.inj (ht.symm.trans h2)
  obtain ⟨n, e1, e2, _⟩ := DataW.trod_int hu h4
  cases e2
  rw [World.var?_cell hg h3 0, ← Array.getElem?_toList, e1]
  rfl

theorem tabs_of_gl {c : Ctx} (h : GL c) : Lib.Utf8Tabs 0 1 c.w := by
  obtain ⟨⟨β, _, h⟩, _⟩ := h
  have h0 := h (0, (List.range 256).map fun c => Value.int .u8 (Lib.firstT c)) (by simp [gfacts])
  have h1 := h (1, (List.range 32).map fun k => Value.int .u8 (if k % 2 = 0 then Lib.accLo (k / 2) else Lib.accHi (k / 2))) (by simp [gfacts])
  refine ⟨fun k hk => (h0 k _ ?_).1, fun i hi => ⟨(h1 (2 * i) _ ?_).1, (h1 (2 * i + 1) _ ?_).1⟩⟩
  · simp [hk]
  · have e1 : (2 * i) % 2 = 0 := by omega
    have e2 : (2 * i) / 2 = i := by omega
    simp [show 2 * i < 32 by omega]
  · have e1 : (2 * i + 1) % 2 = 1 := by omega
    have e2 : (2 * i + 1) / 2 = i := by omega
    simp [show 2 * i + 1 < 32 by omega, e1, e2]
theorem one_cell {W : World} {g : Nat} {v : Value} (h : W.cell? ⟨g, 0, none⟩ = some v) : ∀ (k : Nat) (u : Value), [v][k]? = some u → W.cell? ⟨g, k, none⟩ = some u := by
  intro k u hu
  cases k with
  | zero => simp at hu; subst hu; exact h
  | succ k => simp at hu
theorem gl_of {W : World} (h1 : W.cell? ⟨2, 0, none⟩ = some (.int .i64 12)) (h2 : W.cell? ⟨3, 0, none⟩ = some (.int .i64 80)) (h3 : W.cell? ⟨4, 0, none⟩ = some (.int .i64 40)) (h4 : W.cell? ⟨8, 0, none⟩ = some (.int .i64 40))
    (h : Lib.Utf8Tabs 0 1 W) : (∃ β, gok β ∧ ∀ x ∈ gfacts β, ∀ (k : Nat) (v : Value), x.2[k]? = some v → W.cell? ⟨x.1, k, none⟩ = some v) ∧ ∀ w' : World, (∀ (a : Addr) (v : Value), a.spot = none → W.cell? a = some v → w'.cell? a = some v) → gq w' := by
  refine ⟨⟨fun _ => undef, trivial, ?_⟩, fun _ _ => trivial⟩
  intro x hx
  simp only [gfacts, List.mem_cons, List.not_mem_nil, or_false] at hx
  rcases hx with rfl | rfl | rfl | rfl | rfl | rfl
  · exact one_cell h1
  · exact one_cell h2
  · exact one_cell h3
  · exact one_cell h4
  · intro k v hv
    simp only [List.getElem?_map, Option.map_eq_some_iff] at hv
    obtain ⟨c, hc, rfl⟩ := hv
    obtain ⟨hlt, rfl⟩ := List.getElem?_eq_some_iff.1 hc
    simp only [List.length_range] at hlt
    simpa using h.1 k hlt
  · intro k v hv
    simp only [List.getElem?_map, Option.map_eq_some_iff] at hv
    obtain ⟨c, hc, rfl⟩ := hv
    obtain ⟨hlt, rfl⟩ := List.getElem?_eq_some_iff.1 hc
    simp only [List.length_range] at hlt
    have h2 := h.2 (k / 2) (by omega)
    simp only [List.getElem_range]
    by_cases he : k % 2 = 0
    · rw [if_pos he, ← h2.1, show 2 * (k / 2) = k by omega]
    · rw [if_neg he, ← h2.2, show 2 * (k / 2) + 1 = k by omega]
theorem gl_of_laid {l : List (String × DataW Unit)} {W : World} (hL : laidMet Tryz.prog l W) (m1 : ("math/big.basicSqrThreshold", DataW.lit (.int .i64 12)) ∈ l) (m2 : ("math/big.karatsubaSqrThreshold", DataW.lit (.int .i64 80)) ∈ l) (m3 : ("math/big.karatsubaThreshold", DataW.lit (.int .i64 40)) ∈ l) (m4 : ("math/big.divRecursiveThreshold", DataW.lit (.int .i64 40)) ∈ l)
    (m5 : ("unicode/utf8.first", Lib.firstData) ∈ l) (m6 : ("unicode/utf8.acceptRanges", Lib.acceptData) ∈ l) : (∃ β, gok β ∧ ∀ x ∈ gfacts β, ∀ (k : Nat) (v : Value), x.2[k]? = some v → W.cell? ⟨x.1, k, none⟩ = some v) ∧ ∀ w' : World, (∀ (a : Addr) (v : Value), a.spot = none → W.cell? a = some v → w'.cell? a = some v) → gq w' :=
  gl_of (var_int (t := 3) hL m1 (by kernel_rfl) (by kernel_rfl) Tryz.underlying3) (var_int (t := 3) hL m2 (by kernel_rfl) (by kernel_rfl) Tryz.underlying3) (var_int (t := 3) hL m3 (by kernel_rfl) (by kernel_rfl) Tryz.underlying3) (var_int (t := 3) hL m4 (by kernel_rfl) (by kernel_rfl) Tryz.underlying3)
    (utf8Tabs_of_readsT (U8Types.of196 layValid) ⟨by kernel_rfl, by kernel_rfl, by kernel_rfl, by kernel_rfl, by kernel_rfl, by kernel_rfl, by kernel_rfl⟩ (Lib.laidMet.reads hL m5) (Lib.laidMet.reads hL m6))

theorem valid_pc (s : ByteArray) (hs : s.size ≤ maxLen) : PC Tryz.prog 30 [.g (.str s)] ⟨[], [], []⟩ (.g (.bool (Lib.validD s.data.toList))) ⟨[], [], []⟩ := by
  intro c vs hr ha
  obtain ⟨hl, hv⟩ := ha
  obtain ⟨v, rfl⟩ : ∃ v, vs = #[v] := by
    obtain ⟨l⟩ := vs
    match l, hl with
    | [v], _ => exact ⟨v, rfl⟩
  have h0 := hv 0 _ v rfl rfl
  cases h0 with
  | g _ _ hg =>
  cases hg
  have hT := tabs_of_gl hr.gl
  refine (Any.utf8_ValidString layValid s c.w (by unfold maxLen at hs; omega) hT).mono ?_
  rintro e w' ⟨rfl, hb⟩
  obtain ⟨r1, r2⟩ := hr.grow ⟨hb.os, ⟨hb.tape, fun h => h.elim⟩, hb.output, hb.size, hb.block⟩
  exact ⟨_, ⟨c.σ, c.τ, c.μ, c.hid, w'⟩, rfl, rfl, r1, r2, .g _ _ (.bool _)⟩
theorem val_in {g : GV} (h : GT Tryz.prog 26 g) : ∃ v : VVal, g = v.g :=
  val_inv (ti := 3) (tj := 2) (tb := 4) (ts := 9) (TD := 23) (LV := 24) Tryz.underlying3 Tryz.underlying2 Tryz.underlying4 Tryz.underlying9 ⟨_, Tryz.underlying26, rfl⟩ ⟨_, Tryz.underlying23, rfl⟩ Tryz.underlying24 _ g (Nat.le_refl _) h
end Go.Proofs.YtdicineiaifahaaGreatDoor


namespace Go.Proofs.YtdicineiaifahaaGreatDoor
open Go Go.Pure Go.Shelf Go.Lib Go.ChangeShapes Go.WideShapes Go.ChangeAt Go.RowKit Go.Clock

theorem accept_eq : (Rows.laid_unicode_utf8_acceptRanges : DataW Unit) = Lib.acceptData := by kernel_rfl
theorem first_eq : (Rows.laid_unicode_utf8_first : DataW Unit) = Lib.firstData := Pinned.utf8First_eq

set_option maxRecDepth 100000 in
theorem law_here (H : Type) (enc : TypeId × Value → H) (W : World) (base : Nat) (args : Array Value) (ds gs : List (DataW H)) (before : List MemPlace)
    (hval : ∀ (j : Nat) t v, Tryz.f4.params[j]? = some t → args[j]? = some v → Value.okWide Tryz.prog W .any base t v)
    (hW : DataW.Whole enc Tryz.prog Tryz.f4.params.toList Rows.logicTellsSpec.vars false W args.toList ds gs before) (hL : laidMet Tryz.prog Rows.logicTellsRow.laid W) :
    Calls Tryz.prog 4 args W fun e W' => ∃ v, e = .returned v ∧ Rows.logicTellsSpec.post enc Tryz.prog Tryz.f4 false true false false W args v W' ∧ W'.os = W.os := by
  have hL' : laidMet Tryz.prog Rows.logicTellsRow.laid W := hL
  unfold Rows.logicTellsRow at hL
  dsimp only at hL
  rw [accept_eq, first_eq] at hL
  refine law_calls_os (s := Rows.logicTellsSpec) (set := [3, 4, 2, 9, 24, 23, 26]) (B := 4) (by kernel_rfl) (by kernel_rfl) laidOut rfl rfl Tryz.underlying4 (fun ds hl => ?_) W base args ds gs before hval hW (fun xs hl hl2 hD hT => ?_) (gl_of_laid hL (by repeat (first | exact .head _ | apply List.Mem.tail)) (by repeat (first | exact .head _ | apply List.Mem.tail)) (by repeat (first | exact .head _ | apply List.Mem.tail)) (by repeat (first | exact .head _ | apply List.Mem.tail)) (by repeat (first | exact .head _ | apply List.Mem.tail)) (by repeat (first | exact .head _ | apply List.Mem.tail)))
  · match ds, hl with
    | [d0, d1], _ => rfl
  · match xs, hl with
    | [a0, a1], _ =>
      have ha := (hT 0 26 _ rfl rfl).gsz
      have hb := (hT 1 26 _ rfl rfl).gsz
      obtain ⟨a, rfl⟩ := val_in (hT 0 26 _ rfl rfl)
      obtain ⟨b, rfl⟩ := val_in (hT 1 26 _ rfl rfl)
      exact tells_law valid_pc a b ha hb
def arg0 : Array Value := #[.agg #[.int .i64 0, .bool false, .int .i64 0, .int .i64 0, .string ⟨#[]⟩, .slice none 0 0], .agg #[.int .i64 0, .bool false, .int .i64 0, .int .i64 0, .string ⟨#[]⟩, .slice none 0 0]]
theorem reads0 (os : Os) {H : Type} (enc : TypeId × Value → H) : ∃ ds places, DataW.whole enc Tryz.prog ((World.laidAll Tryz.prog os Rows.logicTellsRow.laid).forCall (fun _ _ => 0) ⟨#[], arg0, []⟩).memory Tryz.f4.params.toList Rows.logicTellsSpec.vars false arg0.toList 8 = some (ds, [], places) :=
  ⟨[.agg [.lit (.int .i64 0), .lit (.bool false), .agg [.lit (.int .i64 0), .lit (.int .i64 0)], .lit (.string []), .nil], .agg [.lit (.int .i64 0), .lit (.bool false), .agg [.lit (.int .i64 0), .lit (.int .i64 0)], .lit (.string []), .nil]], [], by kernel_rfl⟩
set_option maxRecDepth 100000 in
theorem logicTells_lifted (os : Os) (started : os.Started) (H : Type) (enc : TypeId × Value → H) (F : Stop.Interp) :
    ReturnsInHanded {} Tryz.checked os 4 .any ((OpenSpec.ofChange Rows.logicTellsSpec).preRow enc Tryz.prog Tryz.f4 Rows.logicTellsRow.domain false Rows.logicTellsRow.laid) (((OpenSpec.ofChange Rows.logicTellsSpec).at F).post enc Tryz.prog Tryz.f4 false true false false) := by
  obtain ⟨ds, places, hx⟩ := reads0 os enc
  refine returnsInHanded_of_row (C := Tryz.checked) (s := OpenSpec.ofChange Rows.logicTellsSpec) own started (by kernel_rfl) Tryz.func4
    (witness_row_atRef (enc := enc) (C := Tryz.checked) false (World.laidAll Tryz.prog os Rows.logicTellsRow.laid) arg0 rfl (by kernel_rfl) (by kernel_rfl) (by kernel_rfl)
      (OpenSpec.preRow_of_cond 8 hx (by kernel_rfl) (fun k hk => by cases hk) (by kernel_rfl) (laidMet_laidAll _ (by kernel_rfl) (by kernel_rfl)))) ?_
  intro W base args ds gs before hval hW _ _ _ hL _ _
  exact (law_here H enc W base args ds gs before hval hW hL).mono fun e W' ⟨v, he, hp, _⟩ => ⟨v, he, hp⟩
end Go.Proofs.YtdicineiaifahaaGreatDoor

