/- What the program's functions compute, each shown once; and plain laws of it. -/
import Derived.Test.YtdicineiaifahaaGreatDoorOwnT
import Derived.Test.YtdicineiaifahaaGreatDoorPureU
import Derived.Test.YtdicineiaifahaaGreatDoorPureQ
namespace Go.Proofs.YtdicineiaifahaaGreatDoor
open Go Go.Pure Go.Lib
attribute [local irreducible] PW POps POpsD PO PC Cond

set_option maxRecDepth 100000 in
set_option maxHeartbeats 8000000 in
theorem utf8_pc (s : ByteArray) (hm : s.size ≤ 1000) : PC Tryz.prog 35 [.g (.str s)] ⟨[], [], []⟩ (.g (.bool (validD s.data.toList))) ⟨[], [], []⟩ := by
  have hsz : s.data.toList.length = s.size := by rw [Array.length_toList]; rfl
  refine PC_of_PW Tryz.func35 rfl rfl (rs := _) rfl (Nat.le_of_ble_eq_true (by kernel_rfl)) ?_
  (repeat (first|((first|refine qA ?_|refine qB ?_|refine xN ?_|refine xE ?_|refine xT ?_); try show PW _ _ _ _ _ _)|refine ro1 tabOk rfl rfl ?_|refine ro2 tabOk rfl rfl ?_|refine ro3 tabOk rfl rfl ?_|(apply oR rfl rfl; (focus (first|exact cJ|exact mG|exact bT|exact nD)))|refine xS ?_|refine xR ?_|refine xB ?_|refine xt rfl ?_|refine xf rfl ?_))
  refine PW_loop (S := Nat) (fun i => slots [(0, .g (.str s)), (3, .g (.int .i64 i))]) (fun _ => ⟨[], [], []⟩) (fun i => i ≤ s.size ∧ validD (s.data.toList.drop i) = validD s.data.toList) (fun i => s.size - i) 0 ⟨Nat.zero_le _, rfl⟩
    (SlotsOk.le ⟨.inl rfl, .inl rfl, trivial⟩) (HLe.of_eq rfl) (fun i hi => ?_)
  obtain ⟨hi, hv⟩ := hi
  (repeat (first|((first|refine qA ?_|refine qB ?_|refine xN ?_|refine xE ?_|refine xT ?_); try show PW _ _ _ _ _ _)|refine ro1 tabOk rfl rfl ?_|refine ro2 tabOk rfl rfl ?_|refine ro3 tabOk rfl rfl ?_|(apply oR rfl rfl; (focus (first|exact cJ|exact mG|exact bT|exact nD)))|refine xS ?_|refine xR ?_|refine xB ?_|refine xt rfl ?_|refine xf rfl ?_))
  (first|refine POps_split rfl rfl (fun h => ?_) (fun h => ?_)|refine PW_cond rfl (fun h => ?_) (fun h => ?_))
  · have hlt : i < s.size := by have := of_decide_eq_true h; omega
    obtain ⟨b0, g0, g1⟩ := byte_at hlt
    have hg0 : s[((i : Int)).toNat]? = some b0 := g0
    have hlen : (s.data.toList.drop i).length = s.size - i := by rw [List.length_drop, hsz]
    have hne : s.data.toList.drop i ≠ [] := fun e => by rw [e] at hlen; simp at hlen; omega
    have hd0 : (s.data.toList.drop i).getD 0 0 = b0 := by rw [List.getD_eq_getElem?_getD, List.getElem?_drop, Nat.add_zero, g1]; rfl
    have hb0 := b0.toNat_lt
    have hw0 : IntKind.i64.wrap ((b0.toNat : Nat) : Int) = ((b0.toNat : Nat) : Int) := wrap64 (by omega)
    clear h
    (repeat (first|((first|refine qA ?_|refine qB ?_|refine xN ?_|refine xE ?_|refine xT ?_); try show PW _ _ _ _ _ _)|refine ro1 tabOk rfl rfl ?_|refine ro2 tabOk rfl rfl ?_|refine ro3 tabOk rfl rfl ?_|(apply oR rfl rfl; (focus (first|exact PO_index rfl (ST rfl) rfl rfl (Int.natCast_nonneg _) hg0|exact cJ|exact mG|exact bT|exact nD)))|refine xU [4] rfl ?_|refine xR ?_|refine xB ?_|refine xt rfl ?_|refine xf rfl ?_))
    refine PW_weak (env' := slots [(0, .g (.str s)), (3, .g (.int .i64 i)), (4, .g (.int .i64 (b0.toNat : Nat)))]) (H' := ⟨[], [], []⟩) (SlotsOk.le ⟨.inl rfl, .inl rfl, .inl (congrArg (fun k => PV.g (.int .i64 k)) hw0), trivial⟩) (HLe.of_eq rfl) ?_
    by_cases c0 : b0.toNat < 128
    · have hs : validD (s.data.toList.drop (i + 1)) = validD s.data.toList := by
        rw [← hv]
        have hq : s.data.toList.drop i = b0 :: s.data.toList.drop (i + 1) := by
          rw [List.drop_eq_getElem_cons (show i < s.data.toList.length by omega)]
          rw [List.getElem?_eq_getElem (by omega)] at g1
          rw [Option.some.inj g1]
        rw [hq, validD_cons b0 _ c0]
      generalize b0.toNat = B at *
      (repeat' (first|(first|((first|refine qA ?_|refine qB ?_|refine xN ?_|refine xE ?_|refine xT ?_); try show PW _ _ _ _ _ _)|refine ro1 tabOk rfl rfl ?_|refine ro2 tabOk rfl rfl ?_|refine ro3 tabOk rfl rfl ?_|(apply oR rfl rfl; (focus (first|exact cJ|exact mG|exact bT|exact nD)))|refine xU [14] rfl ?_|refine xR ?_|refine xB ?_|refine xt rfl ?_|refine xf rfl ?_)|(refine POps_split rfl rfl (fun h => ?_) (fun h => ?_) <;> fail_if_success (first|(have : true = true := h)|(have : false = false := h)))|refine PW_cond rfl (fun h => ?_) (fun h => ?_)))
      all_goals (first | (exfalso; (try simp only [fX] at *); omega) | skip)
      exact ⟨i + 1, ⟨hlt, hs⟩, by omega, SlotsOk.le ⟨.inl rfl, .inl (congrArg (fun k => PV.g (.int .i64 k)) (wrap64 (by omega))), trivial⟩, HLe.of_eq rfl⟩
    · by_cases cb : b0.toNat < 192 ∨ 248 ≤ b0.toNat
      · have hf : validD s.data.toList = false := by rw [← hv]; exact lead_bad hne (by rw [hd0]; omega) (by rw [hd0]; exact cb)
        rw [hf]
        generalize b0.toNat = B at *
        (repeat' (first|(first|((first|refine qA ?_|refine qB ?_|refine xN ?_|refine xE ?_|refine xT ?_); try show PW _ _ _ _ _ _)|refine ro1 tabOk rfl rfl ?_|refine ro2 tabOk rfl rfl ?_|refine ro3 tabOk rfl rfl ?_|(apply oR rfl rfl; (focus (first|exact cJ|exact mG|exact bT|exact nD)))|refine xU [14] rfl ?_|refine xR ?_|refine xB ?_|refine xt rfl ?_|refine xf rfl ?_)|(refine POps_split rfl rfl (fun h => ?_) (fun h => ?_) <;> fail_if_success (first|(have : true = true := h)|(have : false = false := h)))|refine PW_cond rfl (fun h => ?_) (fun h => ?_)))
        all_goals (first | ((first|refine Ret_int (vC vT vN) rfl ?_|refine Ret_bool (vC vT vN) rfl ?_|refine Ret_g (vC vT vN) rfl ?_); rfl) | (exfalso; (try simp only [fX] at *); omega))
      · obtain ⟨n, least, off, hc⟩ : ∃ n least off, clsD b0.toNat n least off := by
          unfold clsD
          rcases (by omega : (192 ≤ b0.toNat ∧ b0.toNat < 224) ∨ (224 ≤ b0.toNat ∧ b0.toNat < 240) ∨ (240 ≤ b0.toNat ∧ b0.toNat < 248)) with h | h | h
          · exact ⟨1, 128, 192, .inl ⟨h.1, h.2, rfl, rfl, rfl⟩⟩
          · exact ⟨2, 2048, 224, .inr (.inl ⟨h.1, h.2, rfl, rfl, rfl⟩)⟩
          · exact ⟨3, 65536, 240, .inr (.inr ⟨h.1, h.2, rfl, rfl, rfl⟩)⟩
        (repeat (first|((first|refine qA ?_|refine qB ?_|refine xN ?_|refine xE ?_|refine xT ?_); try show PW _ _ _ _ _ _)|refine ro1 tabOk rfl rfl ?_|refine ro2 tabOk rfl rfl ?_|refine ro3 tabOk rfl rfl ?_|(apply oR rfl rfl; (focus (first|exact cJ|exact mG|exact bT|exact nD)))|refine xU [6] rfl ?_|refine xR ?_|refine xB ?_|refine xt rfl ?_|refine xf rfl ?_))
        refine PW_cut (slots [(0, .g (.str s)), (3, .g (.int .i64 i)), (4, .g (.int .i64 ((b0.toNat - off : Nat) : Int))), (5, .g (.int .i64 n)), (6, .g (.int .i64 least))]) ⟨[], [], []⟩ ?_ ?_
        · have hw : IntKind.i64.wrap (((b0.toNat : Nat) : Int) - (off : Int)) = ((b0.toNat - off : Nat) : Int) := by
            rcases hc with ⟨a, b, rfl, rfl, rfl⟩ | ⟨a, b, rfl, rfl, rfl⟩ | ⟨a, b, rfl, rfl, rfl⟩ <;> (rw [wrap64 (by omega)]; omega)
          rcases hc with ⟨a, b, rfl, rfl, rfl⟩ | ⟨a, b, rfl, rfl, rfl⟩ | ⟨a, b, rfl, rfl, rfl⟩
          all_goals
            generalize b0.toNat = B at *
            (repeat' (first|(first|((first|refine qA ?_|refine qB ?_|refine xN ?_|refine xE ?_|refine xT ?_); try show PW _ _ _ _ _ _)|refine ro1 tabOk rfl rfl ?_|refine ro2 tabOk rfl rfl ?_|refine ro3 tabOk rfl rfl ?_|(apply oR rfl rfl; (focus (first|exact cJ|exact mG|exact bT|exact nD)))|refine xU [14] rfl ?_|refine xR ?_|refine xB ?_|refine xt rfl ?_|refine xf rfl ?_)|(refine POps_split rfl rfl (fun h => ?_) (fun h => ?_) <;> fail_if_success (first|(have : true = true := h)|(have : false = false := h)))|refine PW_cond rfl (fun h => ?_) (fun h => ?_)))
            all_goals (first | exact ⟨SlotsOk.le ⟨.inl rfl, .inl rfl, .inl (congrArg (fun k => PV.g (.int .i64 k)) hw), .inl rfl, .inl rfl, trivial⟩, HLe.of_eq rfl⟩ | (exfalso; (try simp only [fX] at *); omega))
        · have hn3 : 1 ≤ n ∧ n ≤ 3 ∧ b0.toNat - off < 32 := by rcases hc with ⟨a, b, rfl, rfl, rfl⟩ | ⟨a, b, rfl, rfl, rfl⟩ | ⟨a, b, rfl, rfl, rfl⟩ <;> omega
          obtain ⟨n1, n3, hb32⟩ := hn3
          have hadd : IntKind.i64.wrap ((i : Int) + (n : Int)) = ((i + n : Nat) : Int) := by rw [wrap64 (by omega)]; omega
          (repeat (first|((first|refine qA ?_|refine qB ?_|refine xN ?_|refine xE ?_|refine xT ?_); try show PW _ _ _ _ _ _)|refine ro1 tabOk rfl rfl ?_|refine ro2 tabOk rfl rfl ?_|refine ro3 tabOk rfl rfl ?_|(apply oR rfl rfl; (focus (first|exact cJ|exact mG|exact bT|exact nD)))|refine xS ?_|refine xR ?_|refine xB ?_|refine xt rfl ?_|refine xf rfl ?_))
          (first|refine POps_split rfl rfl (fun h => ?_) (fun h => ?_)|refine PW_cond rfl (fun h => ?_) (fun h => ?_))
          · have hf : validD s.data.toList = false := by
              rw [← hv]
              rw [hadd] at h
              have := of_decide_eq_true h
              refine lead_short (n := n) hne (by rw [hd0]; omega) ?_ (by omega)
              rw [hd0]
              rcases hc with ⟨a, b, rfl, rfl, rfl⟩ | ⟨a, b, rfl, rfl, rfl⟩ | ⟨a, b, rfl, rfl, rfl⟩ <;> omega
            rw [hf]
            clear h
            (repeat (first|((first|refine qA ?_|refine qB ?_|refine xN ?_|refine xE ?_|refine xT ?_); try show PW _ _ _ _ _ _)|refine ro1 tabOk rfl rfl ?_|refine ro2 tabOk rfl rfl ?_|refine ro3 tabOk rfl rfl ?_|(apply oR rfl rfl; (focus (first|exact cJ|exact mG|exact bT|exact nD)))|refine xS ?_|refine xR ?_|refine xB ?_|refine xt rfl ?_|refine xf rfl ?_))
            (first|refine Ret_int (vC vT vN) rfl ?_|refine Ret_bool (vC vT vN) rfl ?_|refine Ret_g (vC vT vN) rfl ?_)
            rfl
          · have hl : n < (s.data.toList.drop i).length := by
              rw [hadd] at h
              have := of_decide_eq_false h
              omega
            have hld := lead_n (l := s.data.toList.drop i) (n := n) (least := least) (off := off) (by rw [hd0]; exact hc) hl
            rw [hd0] at hld
            obtain ⟨hbad, hgood⟩ := hld
            have hgo : s.data.toList.drop (i + n + 1) = (s.data.toList.drop i).drop (n + 1) := by rw [List.drop_drop]; rfl
            have hget : ∀ k, (s.data.toList.drop i)[k]? = s.data.toList[i + k]? := fun k => List.getElem?_drop
            clear h
            (repeat (first|((first|refine qA ?_|refine qB ?_|refine xN ?_|refine xE ?_|refine xT ?_); try show PW _ _ _ _ _ _)|refine ro1 tabOk rfl rfl ?_|refine ro2 tabOk rfl rfl ?_|refine ro3 tabOk rfl rfl ?_|(apply oR rfl rfl; (focus (first|exact cJ|exact mG|exact bT|exact nD)))|refine xS ?_|refine xR ?_|refine xB ?_|refine xt rfl ?_|refine xf rfl ?_))
            refine PW_loop (S := Nat) (fun k => slots [(0, .g (.str s)), (3, .g (.int .i64 i)), (4, .g (.int .i64 (cc (s.data.toList.drop i) (b0.toNat - off) k : Nat))), (5, .g (.int .i64 n)), (6, .g (.int .i64 least)), (7, .g (.int .i64 ((k + 1 : Nat) : Int)))]) (fun _ => ⟨[], [], []⟩) (fun k => k ≤ n ∧ ∀ j, 1 ≤ j → j ≤ k → okD (s.data.toList.drop i) j) (fun k => n - k) 0 ⟨Nat.zero_le _, fun j h1 h2 => by omega⟩
              (SlotsOk.le ⟨.inl rfl, .inl rfl, .inl rfl, .inl rfl, .inl rfl, .inl rfl, trivial⟩) (HLe.of_eq rfl) (fun k hk => ?_)
            obtain ⟨hk, hok⟩ := hk
            have hcl := cc_lt (l := s.data.toList.drop i) hb32 k hok
            have hp : 32 * 64 ^ k ≤ 8388608 := by
              have : 64 ^ k ≤ 64 ^ 3 := Nat.pow_le_pow_right (by decide) (by omega)
              omega
            (repeat (first|((first|refine qA ?_|refine qB ?_|refine xN ?_|refine xE ?_|refine xT ?_); try show PW _ _ _ _ _ _)|refine ro1 tabOk rfl rfl ?_|refine ro2 tabOk rfl rfl ?_|refine ro3 tabOk rfl rfl ?_|(apply oR rfl rfl; (focus (first|exact cJ|exact mG|exact bT|exact nD)))|refine xS ?_|refine xR ?_|refine xB ?_|refine xt rfl ?_|refine xf rfl ?_))
            (first|refine POps_split rfl rfl (fun h => ?_) (fun h => ?_)|refine PW_cond rfl (fun h => ?_) (fun h => ?_))
            · have hkn : k < n := by have := of_decide_eq_true h; omega
              obtain ⟨b, q0, q1⟩ := byte_at (show i + (k + 1) < s.size by omega)
              have hik : IntKind.i64.wrap ((i : Int) + ((k + 1 : Nat) : Int)) = ((i + (k + 1) : Nat) : Int) := by rw [wrap64 (by omega)]; omega
              have hgb : s[(IntKind.i64.wrap ((i : Int) + ((k + 1 : Nat) : Int))).toNat]? = some b := by rw [hik]; exact q0
              have hgn : 0 ≤ IntKind.i64.wrap ((i : Int) + ((k + 1 : Nat) : Int)) := by rw [hik]; omega
              have hbd : (s.data.toList.drop i).getD (k + 1) 0 = b := by rw [List.getD_eq_getElem?_getD, hget, q1]; rfl
              have hbl := b.toNat_lt
              have hwb : IntKind.i64.wrap ((b.toNat : Nat) : Int) = ((b.toNat : Nat) : Int) := wrap64 (by omega)
              have hbad := hbad (k + 1) (by omega) (by omega)
              have hccs : cc (s.data.toList.drop i) (b0.toNat - off) (k + 1) = cc (s.data.toList.drop i) (b0.toNat - off) k * 64 + (b.toNat - 128) := by rw [cc_succ, hbd]
              have hokb : okD (s.data.toList.drop i) (k + 1) ↔ 128 ≤ b.toNat ∧ b.toNat < 192 := by unfold okD; rw [hbd]
              rw [hokb, hv] at hbad
              clear h
              by_cases hob : 128 ≤ b.toNat ∧ b.toNat < 192
              · have hcs : IntKind.i64.wrap (IntKind.i64.wrap (IntKind.i64.wrap ((cc (s.data.toList.drop i) (b0.toNat - off) k : Int) * 64) + IntKind.i64.wrap ((b.toNat : Nat) : Int)) - 128) = (cc (s.data.toList.drop i) (b0.toNat - off) (k + 1) : Int) := by
                  rw [hccs, hwb]
                  generalize cc (s.data.toList.drop i) (b0.toNat - off) k = C at *
                  rw [wrap64 (n := (C : Int) * 64) (by omega), wrap64 (n := (C : Int) * 64 + ((b.toNat : Nat) : Int)) (by omega), wrap64 (by omega)]
                  omega
                (repeat (first|((first|refine qA ?_|refine qB ?_|refine xN ?_|refine xE ?_|refine xT ?_); try show PW _ _ _ _ _ _)|refine ro1 tabOk rfl rfl ?_|refine ro2 tabOk rfl rfl ?_|refine ro3 tabOk rfl rfl ?_|(apply oR rfl rfl; (focus (first|exact PO_index rfl (ST rfl) rfl rfl hgn hgb|exact cJ|exact mG|exact bT|exact nD)))|refine xS ?_|refine xR ?_|refine xB ?_|refine xt rfl ?_|refine xf rfl ?_))
                (first|refine POps_split rfl rfl (fun h => ?_) (fun h => ?_)|refine PW_cond rfl (fun h => ?_) (fun h => ?_))
                · exfalso; rw [hwb] at h; have := of_decide_eq_true h; omega
                clear h
                (repeat (first|((first|refine qA ?_|refine qB ?_|refine xN ?_|refine xE ?_|refine xT ?_); try show PW _ _ _ _ _ _)|refine ro1 tabOk rfl rfl ?_|refine ro2 tabOk rfl rfl ?_|refine ro3 tabOk rfl rfl ?_|(apply oR rfl rfl; (focus (first|exact cJ|exact mG|exact bT|exact nD)))|refine xS ?_|refine xR ?_|refine xB ?_|refine xt rfl ?_|refine xf rfl ?_))
                (first|refine POps_split rfl rfl (fun h => ?_) (fun h => ?_)|refine PW_cond rfl (fun h => ?_) (fun h => ?_))
                · exfalso; rw [hwb] at h; have := of_decide_eq_true h; omega
                clear h
                (repeat (first|((first|refine qA ?_|refine qB ?_|refine xN ?_|refine xE ?_|refine xT ?_); try show PW _ _ _ _ _ _)|refine ro1 tabOk rfl rfl ?_|refine ro2 tabOk rfl rfl ?_|refine ro3 tabOk rfl rfl ?_|(apply oR rfl rfl; (focus (first|exact cJ|exact mG|exact bT|exact nD)))|refine xS ?_|refine xR ?_|refine xB ?_|refine xt rfl ?_|refine xf rfl ?_))
                exact ⟨k + 1, ⟨hkn, fun j h1 h2 => by
                  by_cases hj : j = k + 1
                  · subst hj; exact hokb.2 hob
                  · exact hok j h1 (by omega)⟩, by omega, SlotsOk.le ⟨.inl rfl, .inl rfl, .inl (congrArg (fun k => PV.g (.int .i64 k)) hcs), .inl rfl, .inl rfl, .inl (congrArg (fun k => PV.g (.int .i64 k)) (wrap64 (by omega))), trivial⟩, HLe.of_eq rfl⟩
              · rw [hbad hob]
                (repeat' (first|(first|((first|refine qA ?_|refine qB ?_|refine xN ?_|refine xE ?_|refine xT ?_); try show PW _ _ _ _ _ _)|refine ro1 tabOk rfl rfl ?_|refine ro2 tabOk rfl rfl ?_|refine ro3 tabOk rfl rfl ?_|(apply oR rfl rfl; (focus (first|exact PO_index rfl (ST rfl) rfl rfl hgn hgb|exact cJ|exact mG|exact bT|exact nD)))|refine xU [22] rfl ?_|refine xR ?_|refine xB ?_|refine xt rfl ?_|refine xf rfl ?_)|(refine POps_split rfl rfl (fun h => ?_) (fun h => ?_) <;> fail_if_success (first|(have : true = true := h)|(have : false = false := h)))|refine PW_cond rfl (fun h => ?_) (fun h => ?_)))
                all_goals (first | ((first|refine Ret_int (vC vT vN) rfl ?_|refine Ret_bool (vC vT vN) rfl ?_|refine Ret_g (vC vT vN) rfl ?_); rfl) | (exfalso; rw [hwb] at *; (try simp only [fX] at *); omega) | (exfalso; simp only [hwb] at *; (try simp only [fX] at *); omega))
            · have hkn : k = n := by have := of_decide_eq_false h; omega
              subst hkn
              have hgood := hgood hok
              clear h hbad
              generalize cc (s.data.toList.drop i) (b0.toNat - off) k = C at *
              obtain ⟨Z, hZ⟩ : ∃ Z : Int, Z = ((C : Nat) : Int) := ⟨_, rfl⟩
              obtain ⟨Y, hY⟩ : ∃ Y : Int, Y = ((least : Nat) : Int) := ⟨_, rfl⟩
              rw [← hZ, ← hY]
              by_cases hq : C < least ∨ 1114111 < C ∨ (55296 ≤ C ∧ C < 57344)
              · rw [if_pos hq, hv] at hgood
                rw [hgood]
                (repeat' (first|(first|((first|refine qA ?_|refine qB ?_|refine xN ?_|refine xE ?_|refine xT ?_); try show PW _ _ _ _ _ _)|refine ro1 tabOk rfl rfl ?_|refine ro2 tabOk rfl rfl ?_|refine ro3 tabOk rfl rfl ?_|(apply oR rfl rfl; (focus (first|exact cJ|exact mG|exact bT|exact nD)))|refine xU [25] rfl ?_|refine xR ?_|refine xB ?_|refine xt rfl ?_|refine xf rfl ?_)|(refine POps_split rfl rfl (fun h => ?_) (fun h => ?_) <;> fail_if_success (first|(have : true = true := h)|(have : false = false := h)))|refine PW_cond rfl (fun h => ?_) (fun h => ?_)))
                all_goals (first | ((first|refine Ret_int (vC vT vN) rfl ?_|refine Ret_bool (vC vT vN) rfl ?_|refine Ret_g (vC vT vN) rfl ?_); rfl) | (exfalso; (try simp only [fX] at *); omega))
              · rw [if_neg hq, hv, ← hgo] at hgood
                (repeat' (first|(first|((first|refine qA ?_|refine qB ?_|refine xN ?_|refine xE ?_|refine xT ?_); try show PW _ _ _ _ _ _)|refine ro1 tabOk rfl rfl ?_|refine ro2 tabOk rfl rfl ?_|refine ro3 tabOk rfl rfl ?_|(apply oR rfl rfl; (focus (first|exact cJ|exact mG|exact bT|exact nD)))|refine xU [25] rfl ?_|refine xR ?_|refine xB ?_|refine xt rfl ?_|refine xf rfl ?_)|(refine POps_split rfl rfl (fun h => ?_) (fun h => ?_) <;> fail_if_success (first|(have : true = true := h)|(have : false = false := h)))|refine PW_cond rfl (fun h => ?_) (fun h => ?_)))
                all_goals (first | (exfalso; (try simp only [fX] at *); omega) | skip)
                all_goals
                  (repeat (first|((first|refine qA ?_|refine qB ?_|refine xN ?_|refine xE ?_|refine xT ?_); try show PW _ _ _ _ _ _)|refine ro1 tabOk rfl rfl ?_|refine ro2 tabOk rfl rfl ?_|refine ro3 tabOk rfl rfl ?_|(apply oR rfl rfl; (focus (first|exact cJ|exact mG|exact bT|exact nD)))|refine xS ?_|refine xR ?_|refine xB ?_|refine xt rfl ?_|refine xf rfl ?_))
                  exact ⟨i + k + 1, ⟨by omega, hgood.symm⟩, by omega, SlotsOk.le ⟨.inl rfl, .inl (congrArg (fun k => PV.g (.int .i64 k)) (by rw [hadd, wrap64 (by omega)]; omega)), trivial⟩, HLe.of_eq rfl⟩
  · have hi' : i = s.size := by have := of_decide_eq_false h; omega
    subst hi'
    rw [List.drop_of_length_le (by omega)] at hv
    rw [← hv]
    clear h
    (repeat (first|((first|refine qA ?_|refine qB ?_|refine xN ?_|refine xE ?_|refine xT ?_); try show PW _ _ _ _ _ _)|refine ro1 tabOk rfl rfl ?_|refine ro2 tabOk rfl rfl ?_|refine ro3 tabOk rfl rfl ?_|(apply oR rfl rfl; (focus (first|exact cJ|exact mG|exact bT|exact nD)))|refine xS ?_|refine xR ?_|refine xB ?_|refine xt rfl ?_|refine xf rfl ?_))
    (first|refine Ret_int (vC vT vN) rfl ?_|refine Ret_bool (vC vT vN) rfl ?_|refine Ret_g (vC vT vN) rfl ?_)
    rfl
end Go.Proofs.YtdicineiaifahaaGreatDoor


namespace Go.Proofs.YtdicineiaifahaaGreatDoor
open Go Go.Pure
attribute [local irreducible] PW POps POpsD PO PC Cond

set_option maxRecDepth 100000 in
set_option maxHeartbeats 8000000 in
theorem equal_pc : ∀ (a b : VVal), gsz a.g → gsz b.g → PC Tryz.prog 8 [.g a.g, .g b.g] ⟨[], [], []⟩ (.g (VVal.mk (tk (eqV a b)) (ty (eqV a b)) 0 0 ⟨#[]⟩ []).g) ⟨[], [], []⟩
  | .mk k y c e t l, .mk k' y' c' e' t' l', ha, hb => by
    obtain ⟨hla, hma⟩ := VVal.gsz_list ha
    obtain ⟨hlb, hmb⟩ := VVal.gsz_list hb
    have ih : ∀ x ∈ l, ∀ z ∈ l', PC Tryz.prog 8 [.g x.g, .g z.g] ⟨[], [], []⟩ (.g (VVal.mk (tk (eqV x z)) (ty (eqV x z)) 0 0 ⟨#[]⟩ []).g) ⟨[], [], []⟩ := fun x hx z hz => equal_pc x z (hma x hx) (hmb z hz)
    have g1 : (VVal.gs l).length = l.length := by simp [VVal.gs_eq]
    have g2 : (VVal.gs l').length = l'.length := by simp [VVal.gs_eq]
    have n0 := null_pc
    have bF := bool_pc false
    have bT := bool_pc true
    have b2 := bool_pc (y == y')
    have b3 : ∀ r : Bool, PC Tryz.prog 23 [.g (.bool r)] ⟨[], [], []⟩ (.g (VVal.mk 2 r 0 0 ⟨#[]⟩ []).g) ⟨[], [], []⟩ := bool_pc
    rw [eqV_eq]
    by_cases hk : k = k'
    · subst hk
      rw [if_pos rfl]
      by_cases k2 : k = 2
      · subst k2
        rw [if_pos rfl, ← toldV_eq, told_tB]
        refine PC_of_PW Tryz.func8 rfl rfl (rs := _) rfl (Nat.le_of_ble_eq_true (by kernel_rfl)) ?_
        (repeat (first|((first|refine qA ?_|refine qB ?_|refine xN ?_|refine xE ?_|refine xT ?_); try show PW _ _ _ _ _ _)|refine ro1 tabOk rfl rfl ?_|refine ro2 tabOk rfl rfl ?_|refine ro3 tabOk rfl rfl ?_|refine rd1 tabOk rfl rfl ?_|refine rd2 tabOk rfl rfl ?_|refine rd3 tabOk rfl rfl ?_|((first|apply oR rfl rfl|(apply dF rfl rfl rfl; intro _)|(apply dP rfl rfl rfl; intro _)|(apply dL rfl rfl rfl; intro _)|apply dC rfl rfl rfl rfl); (focus (first|exact cqP b2|exact cJ|exact mG|exact bT|exact nD)); try exact kQ)|refine xS ?_|refine xR ?_|refine qxa rfl rfl mixed ?_|refine qxb rfl rfl mixed ?_|refine qxi rfl rfl rfl rfl rfl mixed ?_|refine qxc rfl rfl mixed ?_|refine qxd rfl rfl mixed ?_|refine xB ?_|refine xt rfl ?_|refine xf rfl ?_))
        (first|refine Ret_int (vC (vA (AG rfl) (SZ rfl) rfl rfl (lB rfl)) vN) rfl ?_|refine Ret_bool (vC (vA (AG rfl) (SZ rfl) rfl rfl (lB rfl)) vN) rfl ?_|refine Ret_g (vC (vA (AG rfl) (SZ rfl) rfl rfl (lB rfl)) vN) rfl ?_)
        rfl
      · rw [if_neg k2]
        by_cases k3 : k = 3
        · subst k3
          rw [if_pos rfl, ← toldV_eq, told_tB]
          refine PC_of_PW Tryz.func8 rfl rfl (rs := _) rfl (Nat.le_of_ble_eq_true (by kernel_rfl)) ?_
          (repeat' (first|(first|((first|refine qA ?_|refine qB ?_|refine xN ?_|refine xE ?_|refine xT ?_); try show PW _ _ _ _ _ _)|refine ro1 tabOk rfl rfl ?_|refine ro2 tabOk rfl rfl ?_|refine ro3 tabOk rfl rfl ?_|refine rd1 tabOk rfl rfl ?_|refine rd2 tabOk rfl rfl ?_|refine rd3 tabOk rfl rfl ?_|((first|apply oR rfl rfl|(apply dF rfl rfl rfl; intro _)|(apply dP rfl rfl rfl; intro _)|(apply dL rfl rfl rfl; intro _)|apply dC rfl rfl rfl rfl); (focus (first|exact cqP (b3 _)|exact cJ|exact mG|exact bT|exact nD)); try exact kQ)|refine xS ?_|refine xR ?_|refine qxa rfl rfl mixed ?_|refine qxb rfl rfl mixed ?_|refine qxi rfl rfl rfl rfl rfl mixed ?_|refine qxc rfl rfl mixed ?_|refine qxd rfl rfl mixed ?_|refine xB ?_|refine xt rfl ?_|refine xf rfl ?_)|(refine POps_split rfl rfl (fun h => ?_) (fun h => ?_) <;> fail_if_success (first|(have : true = true := h)|(have : false = false := h)))|(refine POpsD_split rfl rfl (fun h => ?_) (fun h => ?_) <;> fail_if_success (first|(have : true = true := h)|(have : false = false := h)))|refine PW_cond rfl (fun h => ?_) (fun h => ?_)))
          all_goals ((first|refine Ret_int (vC (vA (AG rfl) (SZ rfl) rfl rfl (lB rfl)) vN) rfl ?_|refine Ret_bool (vC (vA (AG rfl) (SZ rfl) rfl rfl (lB rfl)) vN) rfl ?_|refine Ret_g (vC (vA (AG rfl) (SZ rfl) rfl rfl (lB rfl)) vN) rfl ?_); refine congrArg (fun r => (VVal.mk 2 r 0 0 ⟨#[]⟩ []).g) ?_; rw [Bool.eq_iff_iff]; simp)
        · rw [if_neg k3]
          by_cases k4 : k = 4
          · subst k4
            rw [if_pos rfl, ← toldV_eq, told_tB]
            refine PC_of_PW Tryz.func8 rfl rfl (rs := _) rfl (Nat.le_of_ble_eq_true (by kernel_rfl)) ?_
            (repeat (first|((first|refine qA ?_|refine qB ?_|refine xN ?_|refine xE ?_|refine xT ?_); try show PW _ _ _ _ _ _)|refine ro1 tabOk rfl rfl ?_|refine ro2 tabOk rfl rfl ?_|refine ro3 tabOk rfl rfl ?_|refine rd1 tabOk rfl rfl ?_|refine rd2 tabOk rfl rfl ?_|refine rd3 tabOk rfl rfl ?_|((first|apply oR rfl rfl|(apply dF rfl rfl rfl; intro _)|(apply dP rfl rfl rfl; intro _)|(apply dL rfl rfl rfl; intro _)|apply dC rfl rfl rfl rfl); (focus (first|exact cqP (b3 _)|exact cJ|exact mG|exact bT|exact nD)); try exact kQ)|refine xS ?_|refine xR ?_|refine qxa rfl rfl mixed ?_|refine qxb rfl rfl mixed ?_|refine qxi rfl rfl rfl rfl rfl mixed ?_|refine qxc rfl rfl mixed ?_|refine qxd rfl rfl mixed ?_|refine xB ?_|refine xt rfl ?_|refine xf rfl ?_))
            (first|refine Ret_int (vC (vA (AG rfl) (SZ rfl) rfl rfl (lB rfl)) vN) rfl ?_|refine Ret_bool (vC (vA (AG rfl) (SZ rfl) rfl rfl (lB rfl)) vN) rfl ?_|refine Ret_g (vC (vA (AG rfl) (SZ rfl) rfl rfl (lB rfl)) vN) rfl ?_)
            rfl
          · rw [if_neg k4]
            by_cases k5 : k = 5
            · subst k5
              rw [if_pos rfl]
              by_cases hl : l.length = l'.length
              · rw [if_pos hl]
                refine PC_of_PW Tryz.func8 rfl rfl (rs := _) rfl (Nat.le_of_ble_eq_true (by kernel_rfl)) ?_
                (repeat' (first|(first|((first|refine qA ?_|refine qB ?_|refine xN ?_|refine xE ?_|refine xT ?_); try show PW _ _ _ _ _ _)|refine ro1 tabOk rfl rfl ?_|refine ro2 tabOk rfl rfl ?_|refine ro3 tabOk rfl rfl ?_|refine rd1 tabOk rfl rfl ?_|refine rd2 tabOk rfl rfl ?_|refine rd3 tabOk rfl rfl ?_|((first|apply oR rfl rfl|(apply dF rfl rfl rfl; intro _)|(apply dP rfl rfl rfl; intro _)|(apply dL rfl rfl rfl; intro _)|apply dC rfl rfl rfl rfl); (focus (first|exact cqP bT|exact cJ|exact mG|exact bT|exact nD)); try exact kQ)|refine xU [15] rfl ?_|refine xR ?_|refine qxa rfl rfl mixed ?_|refine qxb rfl rfl mixed ?_|refine qxi rfl rfl rfl rfl rfl mixed ?_|refine qxc rfl rfl mixed ?_|refine qxd rfl rfl mixed ?_|refine xB ?_|refine xt rfl ?_|refine xf rfl ?_)|(refine POps_split rfl rfl (fun h => ?_) (fun h => ?_) <;> fail_if_success (first|(have : true = true := h)|(have : false = false := h)))|(refine POpsD_split rfl rfl (fun h => ?_) (fun h => ?_) <;> fail_if_success (first|(have : true = true := h)|(have : false = false := h)))|refine PW_cond rfl (fun h => ?_) (fun h => ?_)))
                all_goals (first | (exfalso; simp_all; done) | skip)
                (repeat (first|((first|refine qA ?_|refine qB ?_|refine xN ?_|refine xE ?_|refine xT ?_); try show PW _ _ _ _ _ _)|refine ro1 tabOk rfl rfl ?_|refine ro2 tabOk rfl rfl ?_|refine ro3 tabOk rfl rfl ?_|refine rd1 tabOk rfl rfl ?_|refine rd2 tabOk rfl rfl ?_|refine rd3 tabOk rfl rfl ?_|((first|apply oR rfl rfl|(apply dF rfl rfl rfl; intro _)|(apply dP rfl rfl rfl; intro _)|(apply dL rfl rfl rfl; intro _)|apply dC rfl rfl rfl rfl); (focus (first|exact cqP bT|exact cJ|exact mG|exact bT|exact nD)); try exact kQ)|refine xS ?_|refine xR ?_|refine qxa rfl rfl mixed ?_|refine qxb rfl rfl mixed ?_|refine qxi rfl rfl rfl rfl rfl mixed ?_|refine qxc rfl rfl mixed ?_|refine qxd rfl rfl mixed ?_|refine xB ?_|refine xt rfl ?_|refine xf rfl ?_))
                refine PW_loop (S := Nat × Int) (fun s => slots [(2, .ptr 0 0), (3, .ptr 1 0), (4, .ptr 2 0), (5, .ptr 3 0), (61, .g (.int .i64 l.length)), (62, .g (.int .i64 s.1))])
                  (fun s => ⟨[[.g (.int .i64 5), .g (.bool y), .g (.int .i64 c), .g (.int .i64 e), .g (.str t), .g (.sl (VVal.gs l))], [.g (.int .i64 5), .g (.bool y'), .g (.int .i64 c'), .g (.int .i64 e'), .g (.str t'), .g (.sl (VVal.gs l'))],
                    [.g (.int .i64 0), .g (.bool false), .g (.int .i64 0), .g (.int .i64 0), .g (.str ⟨#[]⟩), .nils], [.g (.int .i64 (tk s.2)), .g (.bool (ty s.2)), .g (.int .i64 0), .g (.int .i64 0), .g (.str ⟨#[]⟩), .g (.sl [])]], [], []⟩)
                  (fun s => s.1 ≤ l.length ∧ rng s.2 ∧ eqVs (l.drop s.1) (l'.drop s.1) s.2 = eqVs l l' 1) (fun s => l.length - s.1) (0, 1) ⟨Nat.zero_le _, by simp [rng], rfl⟩
                  (SlotsOk.le ⟨.inl rfl, .inl rfl, .inl rfl, .inl rfl, .inl (congrArg (fun k : Nat => PV.g (.int .i64 k)) g1), .inl rfl, trivial⟩) (HLe.of_eq rfl) (fun s hs => ?_)
                obtain ⟨i, acc⟩ := s
                obtain ⟨hi, hr, hgo⟩ := hs
                dsimp only at hi hr hgo
                clear h
                (repeat (first|((first|refine qA ?_|refine qB ?_|refine xN ?_|refine xE ?_|refine xT ?_); try show PW _ _ _ _ _ _)|refine ro1 tabOk rfl rfl ?_|refine ro2 tabOk rfl rfl ?_|refine ro3 tabOk rfl rfl ?_|refine rd1 tabOk rfl rfl ?_|refine rd2 tabOk rfl rfl ?_|refine rd3 tabOk rfl rfl ?_|((first|apply oR rfl rfl|(apply dF rfl rfl rfl; intro _)|(apply dP rfl rfl rfl; intro _)|(apply dL rfl rfl rfl; intro _)|apply dC rfl rfl rfl rfl); (focus (first|exact cJ|exact mG|exact bT|exact nD)); try exact kQ)|refine xS ?_|refine xR ?_|refine qxa rfl rfl mixed ?_|refine qxb rfl rfl mixed ?_|refine qxi rfl rfl rfl rfl rfl mixed ?_|refine qxc rfl rfl mixed ?_|refine qxd rfl rfl mixed ?_|refine xB ?_|refine xt rfl ?_|refine xf rfl ?_))
                (first|refine POps_split rfl rfl (fun h => ?_) (fun h => ?_)|refine POpsD_split rfl rfl (fun h => ?_) (fun h => ?_)|refine PW_cond rfl (fun h => ?_) (fun h => ?_))
                · have hlt : i < l.length := by have := of_decide_eq_true h; omega
                  have hlt' : i < l'.length := by omega
                  have hg : (VVal.gs l)[((i : Int)).toNat]? = some l[i].g := by rw [VVal.gs_eq]; exact map_get hlt
                  have hg' : (VVal.gs l')[((i : Int)).toNat]? = some l'[i].g := by rw [VVal.gs_eq]; exact map_get hlt'
                  have ih := ih l[i] (List.getElem_mem hlt) l'[i] (List.getElem_mem hlt')
                  have hre := eqV_rng l[i] l'[i]
                  rw [List.drop_eq_getElem_cons hlt, List.drop_eq_getElem_cons hlt', eqVs] at hgo
                  generalize l[i] = x at hg ih hgo hre
                  generalize l'[i] = z at hg' ih hgo hre
                  generalize eqV x z = r at ih hgo hre
                  have hA := and_pc (.mk (tk acc) (ty acc) 0 0 ⟨#[]⟩ []) (.mk (tk r) (ty r) 0 0 ⟨#[]⟩ [])
                  rw [truth_told hr, truth_told hre] at hA
                  obtain ⟨x0, x1, x2, x3, x4, x5⟩ := x
                  obtain ⟨z0, z1, z2, z3, z4, z5⟩ := z
                  clear h
                  (repeat (first|((first|refine qA ?_|refine qB ?_|refine xN ?_|refine xE ?_|refine xT ?_); try show PW _ _ _ _ _ _)|refine ro1 tabOk rfl rfl ?_|refine ro2 tabOk rfl rfl ?_|refine ro3 tabOk rfl rfl ?_|refine rd1 tabOk rfl rfl ?_|refine rd2 tabOk rfl rfl ?_|refine rd3 tabOk rfl rfl ?_|((first|apply oR rfl rfl|(apply dF rfl rfl rfl; intro _)|(apply dP rfl rfl rfl; intro _)|(apply dL rfl rfl rfl; intro _)|apply dC rfl rfl rfl rfl); (focus (first|exact cqP ih|exact cqP hA|exact iA rfl (EL rfl) (SZ rfl) rfl rfl (Int.natCast_nonneg _) hg rfl|exact iA rfl (EL rfl) (SZ rfl) rfl rfl (Int.natCast_nonneg _) hg' rfl|exact cJ|exact mG|exact bT|exact nD)); try exact kQ)|refine xS ?_|refine xR ?_|refine qxa rfl rfl mixed ?_|refine qxb rfl rfl mixed ?_|refine qxi rfl rfl rfl rfl rfl mixed ?_|refine qxc rfl rfl mixed ?_|refine qxd rfl rfl mixed ?_|refine xB ?_|refine xt rfl ?_|refine xf rfl ?_))
                  exact ⟨(i + 1, min acc r), ⟨hlt, rng_min hr hre, hgo⟩, by dsimp only; omega, SlotsOk.le ⟨.inl rfl, .inl rfl, .inl rfl, .inl rfl, .inl rfl, .inl (congrArg (fun k => PV.g (.int .i64 k)) (wrap64 (by simp only [maxLen] at hla; omega))), trivial⟩, HLe.of_eq rfl⟩
                · have hi' : i = l.length := by have := of_decide_eq_false h; omega
                  subst hi'
                  rw [List.drop_length, hl, List.drop_length, eqVs] at hgo
                  subst hgo
                  (repeat (first|((first|refine qA ?_|refine qB ?_|refine xN ?_|refine xE ?_|refine xT ?_); try show PW _ _ _ _ _ _)|refine ro1 tabOk rfl rfl ?_|refine ro2 tabOk rfl rfl ?_|refine ro3 tabOk rfl rfl ?_|refine rd1 tabOk rfl rfl ?_|refine rd2 tabOk rfl rfl ?_|refine rd3 tabOk rfl rfl ?_|((first|apply oR rfl rfl|(apply dF rfl rfl rfl; intro _)|(apply dP rfl rfl rfl; intro _)|(apply dL rfl rfl rfl; intro _)|apply dC rfl rfl rfl rfl); (focus (first|exact cJ|exact mG|exact bT|exact nD)); try exact kQ)|refine xS ?_|refine xR ?_|refine qxa rfl rfl mixed ?_|refine qxb rfl rfl mixed ?_|refine qxi rfl rfl rfl rfl rfl mixed ?_|refine qxc rfl rfl mixed ?_|refine qxd rfl rfl mixed ?_|refine xB ?_|refine xt rfl ?_|refine xf rfl ?_))
                  (first|refine Ret_int (vC (vA (AG rfl) (SZ rfl) rfl rfl (lB rfl)) vN) rfl ?_|refine Ret_bool (vC (vA (AG rfl) (SZ rfl) rfl rfl (lB rfl)) vN) rfl ?_|refine Ret_g (vC (vA (AG rfl) (SZ rfl) rfl rfl (lB rfl)) vN) rfl ?_)
                  rfl
                  all_goals simp
              · rw [if_neg hl, ← toldV_eq, show toldV (-1) = .mk 2 false 0 0 ⟨#[]⟩ [] from rfl]
                refine PC_of_PW Tryz.func8 rfl rfl (rs := _) rfl (Nat.le_of_ble_eq_true (by kernel_rfl)) ?_
                (repeat' (first|(first|((first|refine qA ?_|refine qB ?_|refine xN ?_|refine xE ?_|refine xT ?_); try show PW _ _ _ _ _ _)|refine ro1 tabOk rfl rfl ?_|refine ro2 tabOk rfl rfl ?_|refine ro3 tabOk rfl rfl ?_|refine rd1 tabOk rfl rfl ?_|refine rd2 tabOk rfl rfl ?_|refine rd3 tabOk rfl rfl ?_|((first|apply oR rfl rfl|(apply dF rfl rfl rfl; intro _)|(apply dP rfl rfl rfl; intro _)|(apply dL rfl rfl rfl; intro _)|apply dC rfl rfl rfl rfl); (focus (first|exact cqP bF|exact cJ|exact mG|exact bT|exact nD)); try exact kQ)|refine xU [15] rfl ?_|refine xR ?_|refine qxa rfl rfl mixed ?_|refine qxb rfl rfl mixed ?_|refine qxi rfl rfl rfl rfl rfl mixed ?_|refine qxc rfl rfl mixed ?_|refine qxd rfl rfl mixed ?_|refine xB ?_|refine xt rfl ?_|refine xf rfl ?_)|(refine POps_split rfl rfl (fun h => ?_) (fun h => ?_) <;> fail_if_success (first|(have : true = true := h)|(have : false = false := h)))|(refine POpsD_split rfl rfl (fun h => ?_) (fun h => ?_) <;> fail_if_success (first|(have : true = true := h)|(have : false = false := h)))|refine PW_cond rfl (fun h => ?_) (fun h => ?_)))
                all_goals (first | (exfalso; simp_all; omega) | ((first|refine Ret_int (vC (vA (AG rfl) (SZ rfl) rfl rfl (lB rfl)) vN) rfl ?_|refine Ret_bool (vC (vA (AG rfl) (SZ rfl) rfl rfl (lB rfl)) vN) rfl ?_|refine Ret_g (vC (vA (AG rfl) (SZ rfl) rfl rfl (lB rfl)) vN) rfl ?_); rfl))
            · rw [if_neg k5, ← toldV_eq, show toldV 1 = .mk 2 true 0 0 ⟨#[]⟩ [] from rfl]
              refine PC_of_PW Tryz.func8 rfl rfl (rs := _) rfl (Nat.le_of_ble_eq_true (by kernel_rfl)) ?_
              (repeat' (first|(first|((first|refine qA ?_|refine qB ?_|refine xN ?_|refine xE ?_|refine xT ?_); try show PW _ _ _ _ _ _)|refine ro1 tabOk rfl rfl ?_|refine ro2 tabOk rfl rfl ?_|refine ro3 tabOk rfl rfl ?_|refine rd1 tabOk rfl rfl ?_|refine rd2 tabOk rfl rfl ?_|refine rd3 tabOk rfl rfl ?_|((first|apply oR rfl rfl|(apply dF rfl rfl rfl; intro _)|(apply dP rfl rfl rfl; intro _)|(apply dL rfl rfl rfl; intro _)|apply dC rfl rfl rfl rfl); (focus (first|exact cqP bT|exact cJ|exact mG|exact bT|exact nD)); try exact kQ)|refine xU [13] rfl ?_|refine xR ?_|refine qxa rfl rfl mixed ?_|refine qxb rfl rfl mixed ?_|refine qxi rfl rfl rfl rfl rfl mixed ?_|refine qxc rfl rfl mixed ?_|refine qxd rfl rfl mixed ?_|refine xB ?_|refine xt rfl ?_|refine xf rfl ?_)|(refine POps_split rfl rfl (fun h => ?_) (fun h => ?_) <;> fail_if_success (first|(have : true = true := h)|(have : false = false := h)))|(refine POpsD_split rfl rfl (fun h => ?_) (fun h => ?_) <;> fail_if_success (first|(have : true = true := h)|(have : false = false := h)))|refine PW_cond rfl (fun h => ?_) (fun h => ?_)))
              all_goals (first | (exfalso; simp_all; done) | ((first|refine Ret_int (vC (vA (AG rfl) (SZ rfl) rfl rfl (lB rfl)) vN) rfl ?_|refine Ret_bool (vC (vA (AG rfl) (SZ rfl) rfl rfl (lB rfl)) vN) rfl ?_|refine Ret_g (vC (vA (AG rfl) (SZ rfl) rfl rfl (lB rfl)) vN) rfl ?_); rfl))
    · rw [if_neg hk]
      by_cases k1 : k = 1 ∨ k' = 1
      · rw [if_pos k1, ← toldV_eq, show toldV (-1) = .mk 2 false 0 0 ⟨#[]⟩ [] from rfl]
        refine PC_of_PW Tryz.func8 rfl rfl (rs := _) rfl (Nat.le_of_ble_eq_true (by kernel_rfl)) ?_
        (repeat' (first|(first|((first|refine qA ?_|refine qB ?_|refine xN ?_|refine xE ?_|refine xT ?_); try show PW _ _ _ _ _ _)|refine ro1 tabOk rfl rfl ?_|refine ro2 tabOk rfl rfl ?_|refine ro3 tabOk rfl rfl ?_|refine rd1 tabOk rfl rfl ?_|refine rd2 tabOk rfl rfl ?_|refine rd3 tabOk rfl rfl ?_|((first|apply oR rfl rfl|(apply dF rfl rfl rfl; intro _)|(apply dP rfl rfl rfl; intro _)|(apply dL rfl rfl rfl; intro _)|apply dC rfl rfl rfl rfl); (focus (first|exact cqP bF|exact cJ|exact mG|exact bT|exact nD)); try exact kQ)|refine xU [4] rfl ?_|refine xR ?_|refine qxa rfl rfl mixed ?_|refine qxb rfl rfl mixed ?_|refine qxi rfl rfl rfl rfl rfl mixed ?_|refine qxc rfl rfl mixed ?_|refine qxd rfl rfl mixed ?_|refine xB ?_|refine xt rfl ?_|refine xf rfl ?_)|(refine POps_split rfl rfl (fun h => ?_) (fun h => ?_) <;> fail_if_success (first|(have : true = true := h)|(have : false = false := h)))|(refine POpsD_split rfl rfl (fun h => ?_) (fun h => ?_) <;> fail_if_success (first|(have : true = true := h)|(have : false = false := h)))|refine PW_cond rfl (fun h => ?_) (fun h => ?_)))
        all_goals (first | (exfalso; simp_all; done) | ((first|refine Ret_int (vC (vA (AG rfl) (SZ rfl) rfl rfl (lB rfl)) vN) rfl ?_|refine Ret_bool (vC (vA (AG rfl) (SZ rfl) rfl rfl (lB rfl)) vN) rfl ?_|refine Ret_g (vC (vA (AG rfl) (SZ rfl) rfl rfl (lB rfl)) vN) rfl ?_); rfl))
      · rw [if_neg k1, ← toldV_eq, show toldV 0 = .mk 1 false 0 0 ⟨#[]⟩ [] from rfl]
        refine PC_of_PW Tryz.func8 rfl rfl (rs := _) rfl (Nat.le_of_ble_eq_true (by kernel_rfl)) ?_
        (repeat' (first|(first|((first|refine qA ?_|refine qB ?_|refine xN ?_|refine xE ?_|refine xT ?_); try show PW _ _ _ _ _ _)|refine ro1 tabOk rfl rfl ?_|refine ro2 tabOk rfl rfl ?_|refine ro3 tabOk rfl rfl ?_|refine rd1 tabOk rfl rfl ?_|refine rd2 tabOk rfl rfl ?_|refine rd3 tabOk rfl rfl ?_|((first|apply oR rfl rfl|(apply dF rfl rfl rfl; intro _)|(apply dP rfl rfl rfl; intro _)|(apply dL rfl rfl rfl; intro _)|apply dC rfl rfl rfl rfl); (focus (first|exact cqP n0|exact cJ|exact mG|exact bT|exact nD)); try exact kQ)|refine xU [5] rfl ?_|refine xR ?_|refine qxa rfl rfl mixed ?_|refine qxb rfl rfl mixed ?_|refine qxi rfl rfl rfl rfl rfl mixed ?_|refine qxc rfl rfl mixed ?_|refine qxd rfl rfl mixed ?_|refine xB ?_|refine xt rfl ?_|refine xf rfl ?_)|(refine POps_split rfl rfl (fun h => ?_) (fun h => ?_) <;> fail_if_success (first|(have : true = true := h)|(have : false = false := h)))|(refine POpsD_split rfl rfl (fun h => ?_) (fun h => ?_) <;> fail_if_success (first|(have : true = true := h)|(have : false = false := h)))|refine PW_cond rfl (fun h => ?_) (fun h => ?_)))
        all_goals (first | (exfalso; simp_all; done) | ((first|refine Ret_int (vC (vA (AG rfl) (SZ rfl) rfl rfl (lB rfl)) vN) rfl ?_|refine Ret_bool (vC (vA (AG rfl) (SZ rfl) rfl rfl (lB rfl)) vN) rfl ?_|refine Ret_g (vC (vA (AG rfl) (SZ rfl) rfl rfl (lB rfl)) vN) rfl ?_); rfl))
end Go.Proofs.YtdicineiaifahaaGreatDoor


namespace Go.Proofs.YtdicineiaifahaaGreatDoor
open Go Go.Pure Go.Lib
attribute [local irreducible] PW POps POpsD PO PC Cond

def VD (s : ByteArray) : Bool := validD s.data.toList
set_option maxRecDepth 100000 in
set_option maxHeartbeats 4000000 in
theorem rwrong_pc (c e : Int) : PC Tryz.prog 34 [.g (.agg [.int .i64 c, .int .i64 e])] ⟨[], [], []⟩ (.g (.int .i64 (wrongD c e))) ⟨[], [], []⟩ := by
  by_cases h1 : 999999999999999999 < c ∨ c < -999999999999999999 ∨ 40 < e ∨ e < -40
  · rw [show wrongD c e = 3 by unfold wrongD; rw [if_pos h1]]
    refine PC_of_PW Tryz.func34 rfl rfl (rs := _) rfl (Nat.le_of_ble_eq_true (by kernel_rfl)) ?_
    (repeat' (first|(first|((first|refine qA ?_|refine qB ?_|refine xN ?_|refine xE ?_|refine xT ?_); try show PW _ _ _ _ _ _)|refine ro1 tabOk rfl rfl ?_|refine ro2 tabOk rfl rfl ?_|refine ro3 tabOk rfl rfl ?_|(apply oR rfl rfl; (focus (first|exact cJ|exact mG|exact bT|exact nD)))|refine xU [3] rfl ?_|refine xR ?_|refine xB ?_|refine xt rfl ?_|refine xf rfl ?_)|(refine POps_split rfl rfl (fun h => ?_) (fun h => ?_) <;> fail_if_success (first|(have : true = true := h)|(have : false = false := h)))|refine PW_cond rfl (fun h => ?_) (fun h => ?_)))
    all_goals (first | ((first|refine Ret_int (vC vT vN) rfl ?_|refine Ret_bool (vC vT vN) rfl ?_|refine Ret_g (vC vT vN) rfl ?_); rfl) | (exfalso; (try simp only [fX] at *); first | done | omega) | (exfalso; simp at h; done) | (exfalso; simp_all; done))
  · by_cases h2 : c.tmod 10 = 0 ∧ (c ≠ 0 ∨ e ≠ 0)
    · rw [show wrongD c e = 2 by
        unfold wrongD
        rw [if_neg h1]
        by_cases h3 : c = 0 ∧ e ≠ 0
        · rw [if_pos h3]
        · rw [if_neg h3, if_pos ⟨by omega, h2.1⟩]]
      refine PC_of_PW Tryz.func34 rfl rfl (rs := _) rfl (Nat.le_of_ble_eq_true (by kernel_rfl)) ?_
      (repeat' (first|(first|((first|refine qA ?_|refine qB ?_|refine xN ?_|refine xE ?_|refine xT ?_); try show PW _ _ _ _ _ _)|refine ro1 tabOk rfl rfl ?_|refine ro2 tabOk rfl rfl ?_|refine ro3 tabOk rfl rfl ?_|(apply oR rfl rfl; (focus (first|exact PO_rem rfl rfl rfl (by decide)|exact cJ|exact mG|exact bT|exact nD)))|refine xU [5] rfl ?_|refine xR ?_|refine xB ?_|refine xt rfl ?_|refine xf rfl ?_)|(refine POps_split rfl rfl (fun h => ?_) (fun h => ?_) <;> fail_if_success (first|(have : true = true := h)|(have : false = false := h)))|refine PW_cond rfl (fun h => ?_) (fun h => ?_)))
      all_goals (first | ((first|refine Ret_int (vC vT vN) rfl ?_|refine Ret_bool (vC vT vN) rfl ?_|refine Ret_g (vC vT vN) rfl ?_); rfl) | (exfalso; (try simp only [fX] at *); first | done | omega) | (exfalso; simp at h; done) | (exfalso; simp_all; done) | (exfalso; simp_all; omega))
    · rw [show wrongD c e = 0 by
        unfold wrongD
        rw [if_neg h1]
        have h0 : (0 : Int).tmod 10 = 0 := rfl
        by_cases h3 : c = 0
        · subst h3
          rw [if_neg (fun h => h2 ⟨h0, .inr h.2⟩), if_neg (fun h => h.1 rfl)]
        · rw [if_neg (fun h => h3 h.1), if_neg (fun h => h2 ⟨h.2, .inl h3⟩)]]
      refine PC_of_PW Tryz.func34 rfl rfl (rs := _) rfl (Nat.le_of_ble_eq_true (by kernel_rfl)) ?_
      (repeat' (first|(first|((first|refine qA ?_|refine qB ?_|refine xN ?_|refine xE ?_|refine xT ?_); try show PW _ _ _ _ _ _)|refine ro1 tabOk rfl rfl ?_|refine ro2 tabOk rfl rfl ?_|refine ro3 tabOk rfl rfl ?_|(apply oR rfl rfl; (focus (first|exact PO_rem rfl rfl rfl (by decide)|exact cJ|exact mG|exact bT|exact nD)))|refine xU [5] rfl ?_|refine xR ?_|refine xB ?_|refine xt rfl ?_|refine xf rfl ?_)|(refine POps_split rfl rfl (fun h => ?_) (fun h => ?_) <;> fail_if_success (first|(have : true = true := h)|(have : false = false := h)))|refine PW_cond rfl (fun h => ?_) (fun h => ?_)))
      all_goals (first | (exfalso; (try simp only [fX] at *); first | done | omega) | (exfalso; simp at h; done) | (exfalso; simp_all; done) | (exfalso; simp_all; done) | skip)
      all_goals ((repeat (first|((first|refine qA ?_|refine qB ?_|refine xN ?_|refine xE ?_|refine xT ?_); try show PW _ _ _ _ _ _)|refine ro1 tabOk rfl rfl ?_|refine ro2 tabOk rfl rfl ?_|refine ro3 tabOk rfl rfl ?_|(apply oR rfl rfl; (focus (first|exact cJ|exact mG|exact bT|exact nD)))|refine xS ?_|refine xR ?_|refine xB ?_|refine xt rfl ?_|refine xf rfl ?_)); (first|refine Ret_int (vC vT vN) rfl ?_|refine Ret_bool (vC vT vN) rfl ?_|refine Ret_g (vC vT vN) rfl ?_); rfl)

set_option maxRecDepth 100000 in
set_option maxHeartbeats 8000000 in
theorem rlook_pc : ∀ (v : VVal) (n d : Nat), gsz v.g → n ≤ 2000 → d ≤ 21 → PC Tryz.prog 24 [.ptr 0 0, .g v.g, .g (.int .i64 d)] ⟨[[.g (.int .i64 n)]], [], []⟩ (.g (.int .i64 (lookV VD v n d).2)) ⟨[[.g (.int .i64 ((lookV VD v n d).1 : Nat))]], [], []⟩
  | .mk k y c e t l, n, d, hz, hn, hd => by
    obtain ⟨hla, hma⟩ := VVal.gsz_list hz
    have g1 : (VVal.gs l).length = l.length := by simp [VVal.gs_eq]
    have hw : IntKind.i64.wrap ((n : Int) + 1) = ((n + 1 : Nat) : Int) := by rw [wrap64 (by omega)]; omega
    have hD := rwrong_pc c e
    rw [lookV_eq]
    refine PC_of_PW Tryz.func24 rfl rfl (rs := _) rfl (Nat.le_of_ble_eq_true (by kernel_rfl)) ?_
    (repeat (first|((first|refine qA ?_|refine qB ?_|refine xN ?_|refine xE ?_|refine xT ?_); try show PW _ _ _ _ _ _)|refine ro1 tabOk rfl rfl ?_|refine ro2 tabOk rfl rfl ?_|refine ro3 tabOk rfl rfl ?_|(apply oR rfl rfl; (focus (first|exact cJ|exact mG|exact bT|exact nD)))|refine xU [2] rfl ?_|refine xR ?_|refine xB ?_|refine xt rfl ?_|refine xf rfl ?_))
    refine PW_weak (env' := slots [(0, .ptr 0 0), (2, .g (.int .i64 d)), (4, .ptr 1 0)]) (H' := ⟨[[.g (.int .i64 (n + 1 : Nat))], [.g (.int .i64 k), .g (.bool y), .g (.int .i64 c), .g (.int .i64 e), .g (.str t), .g (.sl (VVal.gs l))]], [], []⟩) (SlotsOk.le ⟨.inl rfl, .inl rfl, .inl rfl, trivial⟩) (HLe.of_eq (congrArg (fun z => (⟨[[PV.g (.int .i64 z)], [.g (.int .i64 k), .g (.bool y), .g (.int .i64 c), .g (.int .i64 e), .g (.str t), .g (.sl (VVal.gs l))]], [], []⟩ : PH)) hw)) ?_
    by_cases h1 : 2000 < n + 1 ∨ 20 < d
    · rw [if_pos h1]
      (repeat' (first|(first|((first|refine qA ?_|refine qB ?_|refine xN ?_|refine xE ?_|refine xT ?_); try show PW _ _ _ _ _ _)|refine ro1 tabOk rfl rfl ?_|refine ro2 tabOk rfl rfl ?_|refine ro3 tabOk rfl rfl ?_|(apply oR rfl rfl; (focus (first|exact cJ|exact mG|exact bT|exact nD)))|refine xU [4] rfl ?_|refine xR ?_|refine xB ?_|refine xt rfl ?_|refine xf rfl ?_)|(refine POps_split rfl rfl (fun h => ?_) (fun h => ?_) <;> fail_if_success (first|(have : true = true := h)|(have : false = false := h)))|refine PW_cond rfl (fun h => ?_) (fun h => ?_)))
      all_goals (first | ((first|refine Ret_box (wC vT wN) rfl rfl rfl rfl rfl rfl rfl rfl rfl ?_ ?_ ?_ rfl); all_goals rfl) | (exfalso; (try simp only [fX] at *); first | done | omega) | (exfalso; simp at h; done) | (exfalso; simp_all; done))
    · rw [if_neg h1]
      (repeat' (first|(first|((first|refine qA ?_|refine qB ?_|refine xN ?_|refine xE ?_|refine xT ?_); try show PW _ _ _ _ _ _)|refine ro1 tabOk rfl rfl ?_|refine ro2 tabOk rfl rfl ?_|refine ro3 tabOk rfl rfl ?_|(apply oR rfl rfl; (focus (first|exact cJ|exact mG|exact bT|exact nD)))|refine xU [4] rfl ?_|refine xR ?_|refine xB ?_|refine xt rfl ?_|refine xf rfl ?_)|(refine POps_split rfl rfl (fun h => ?_) (fun h => ?_) <;> fail_if_success (first|(have : true = true := h)|(have : false = false := h)))|refine PW_cond rfl (fun h => ?_) (fun h => ?_)))
      all_goals (first | (exfalso; (try simp only [fX] at *); first | done | omega) | (exfalso; simp at h; done) | (exfalso; simp_all; done) | skip)
      all_goals try clear h
      by_cases h2 : k = 1 ∨ k = 2
      · rw [if_pos h2]
        rcases h2 with rfl | rfl
        all_goals
          (repeat (first|((first|refine qA ?_|refine qB ?_|refine xN ?_|refine xE ?_|refine xT ?_); try show PW _ _ _ _ _ _)|refine ro1 tabOk rfl rfl ?_|refine ro2 tabOk rfl rfl ?_|refine ro3 tabOk rfl rfl ?_|(apply oR rfl rfl; (focus (first|exact cJ|exact mG|exact bT|exact nD)))|refine xS ?_|refine xR ?_|refine xB ?_|refine xt rfl ?_|refine xf rfl ?_))
          (first|refine Ret_box (wC vT wN) rfl rfl rfl rfl rfl rfl rfl rfl rfl ?_ ?_ ?_ rfl)
          all_goals rfl
      · rw [if_neg h2]
        by_cases h3 : k = 3
        · subst h3
          rw [if_pos rfl]
          (repeat (first|((first|refine qA ?_|refine qB ?_|refine xN ?_|refine xE ?_|refine xT ?_); try show PW _ _ _ _ _ _)|refine ro1 tabOk rfl rfl ?_|refine ro2 tabOk rfl rfl ?_|refine ro3 tabOk rfl rfl ?_|(apply oR rfl rfl; (focus (first|exact cqP hD|exact cJ|exact mG|exact bT|exact nD)))|refine xS ?_|refine xR ?_|refine xB ?_|refine xt rfl ?_|refine xf rfl ?_))
          (first|refine Ret_box (wC vT wN) rfl rfl rfl rfl rfl rfl rfl rfl rfl ?_ ?_ ?_ rfl)
          all_goals rfl
        · rw [if_neg h3]
          by_cases h4 : k = 4
          · subst h4
            rw [if_pos rfl]
            by_cases hs : 1000 < t.size
            · rw [if_pos hs]
              (repeat' (first|(first|((first|refine qA ?_|refine qB ?_|refine xN ?_|refine xE ?_|refine xT ?_); try show PW _ _ _ _ _ _)|refine ro1 tabOk rfl rfl ?_|refine ro2 tabOk rfl rfl ?_|refine ro3 tabOk rfl rfl ?_|(apply oR rfl rfl; (focus (first|exact cJ|exact mG|exact bT|exact nD)))|refine xU [11] rfl ?_|refine xR ?_|refine xB ?_|refine xt rfl ?_|refine xf rfl ?_)|(refine POps_split rfl rfl (fun h => ?_) (fun h => ?_) <;> fail_if_success (first|(have : true = true := h)|(have : false = false := h)))|refine PW_cond rfl (fun h => ?_) (fun h => ?_)))
              all_goals (first | ((first|refine Ret_box (wC vT wN) rfl rfl rfl rfl rfl rfl rfl rfl rfl ?_ ?_ ?_ rfl); all_goals rfl) | (exfalso; (try simp only [fX] at *); first | done | omega) | (exfalso; simp at h; done) | (exfalso; simp_all; done))
            · rw [if_neg hs]
              have hT := utf8_pc t (by omega)
              have hVd : VD t = validD t.data.toList := rfl
              rw [hVd]
              cases hb : validD t.data.toList with
              | true =>
                rw [if_pos rfl]
                rw [hb] at hT
                (repeat' (first|(first|((first|refine qA ?_|refine qB ?_|refine xN ?_|refine xE ?_|refine xT ?_); try show PW _ _ _ _ _ _)|refine ro1 tabOk rfl rfl ?_|refine ro2 tabOk rfl rfl ?_|refine ro3 tabOk rfl rfl ?_|(apply oR rfl rfl; (focus (first|exact cqP hT|exact cJ|exact mG|exact bT|exact nD)))|refine xS ?_|refine xR ?_|refine xB ?_|refine xt rfl ?_|refine xf rfl ?_)|(refine POps_split rfl rfl (fun h => ?_) (fun h => ?_) <;> fail_if_success (first|(have : true = true := h)|(have : false = false := h)))|refine PW_cond rfl (fun h => ?_) (fun h => ?_)))
                all_goals (first | (exfalso; (try simp only [fX] at *); first | done | omega) | (exfalso; simp at h; done) | (exfalso; simp_all; done) | ((first|refine Ret_box (wC vT wN) rfl rfl rfl rfl rfl rfl rfl rfl rfl ?_ ?_ ?_ rfl); all_goals rfl))
              | false =>
                rw [if_neg (by decide)]
                rw [hb] at hT
                (repeat' (first|(first|((first|refine qA ?_|refine qB ?_|refine xN ?_|refine xE ?_|refine xT ?_); try show PW _ _ _ _ _ _)|refine ro1 tabOk rfl rfl ?_|refine ro2 tabOk rfl rfl ?_|refine ro3 tabOk rfl rfl ?_|(apply oR rfl rfl; (focus (first|exact cqP hT|exact cJ|exact mG|exact bT|exact nD)))|refine xS ?_|refine xR ?_|refine xB ?_|refine xt rfl ?_|refine xf rfl ?_)|(refine POps_split rfl rfl (fun h => ?_) (fun h => ?_) <;> fail_if_success (first|(have : true = true := h)|(have : false = false := h)))|refine PW_cond rfl (fun h => ?_) (fun h => ?_)))
                all_goals (first | (exfalso; (try simp only [fX] at *); first | done | omega) | (exfalso; simp at h; done) | (exfalso; simp_all; done) | ((first|refine Ret_box (wC vT wN) rfl rfl rfl rfl rfl rfl rfl rfl rfl ?_ ?_ ?_ rfl); all_goals rfl))
          · rw [if_neg h4]
            by_cases h5 : k = 5
            · subst h5
              rw [if_pos rfl]
              by_cases h6 : 200 < l.length
              · rw [if_pos h6]
                (repeat' (first|(first|((first|refine qA ?_|refine qB ?_|refine xN ?_|refine xE ?_|refine xT ?_); try show PW _ _ _ _ _ _)|refine ro1 tabOk rfl rfl ?_|refine ro2 tabOk rfl rfl ?_|refine ro3 tabOk rfl rfl ?_|(apply oR rfl rfl; (focus (first|exact cJ|exact mG|exact bT|exact nD)))|refine xU [16] rfl ?_|refine xR ?_|refine xB ?_|refine xt rfl ?_|refine xf rfl ?_)|(refine POps_split rfl rfl (fun h => ?_) (fun h => ?_) <;> fail_if_success (first|(have : true = true := h)|(have : false = false := h)))|refine PW_cond rfl (fun h => ?_) (fun h => ?_)))
                all_goals (first | ((first|refine Ret_box (wC vT wN) rfl rfl rfl rfl rfl rfl rfl rfl rfl ?_ ?_ ?_ rfl); all_goals rfl) | (exfalso; (try simp only [fX] at *); first | done | omega) | (exfalso; simp at h; done) | (exfalso; simp_all; done))
              · rw [if_neg h6]
                have ih : ∀ x ∈ l, ∀ m : Nat, m ≤ 2000 → PC Tryz.prog 24 [.ptr 0 0, .g x.g, .g (.int .i64 ((d + 1 : Nat) : Int))] ⟨[[.g (.int .i64 m)]], [], []⟩ (.g (.int .i64 (lookV VD x m (d + 1)).2)) ⟨[[.g (.int .i64 ((lookV VD x m (d + 1)).1 : Nat))]], [], []⟩ := fun x hx m hm => rlook_pc x m (d + 1) (hma x hx) hm (by omega)
                have hwd : IntKind.i64.wrap ((d : Int) + 1) = ((d + 1 : Nat) : Int) := by rw [wrap64 (by omega)]; omega
                generalize hR : lookVs VD l (n + 1) (d + 1) = R
                (repeat' (first|(first|((first|refine qA ?_|refine qB ?_|refine xN ?_|refine xE ?_|refine xT ?_); try show PW _ _ _ _ _ _)|refine ro1 tabOk rfl rfl ?_|refine ro2 tabOk rfl rfl ?_|refine ro3 tabOk rfl rfl ?_|(apply oR rfl rfl; (focus (first|exact cJ|exact mG|exact bT|exact nD)))|refine xU [16] rfl ?_|refine xR ?_|refine xB ?_|refine xt rfl ?_|refine xf rfl ?_)|(refine POps_split rfl rfl (fun h => ?_) (fun h => ?_) <;> fail_if_success (first|(have : true = true := h)|(have : false = false := h)))|refine PW_cond rfl (fun h => ?_) (fun h => ?_)))
                all_goals (first | (exfalso; (try simp only [fX] at *); first | done | omega) | (exfalso; simp at h; done) | (exfalso; simp_all; done) | skip)
                try clear h
                (repeat (first|((first|refine qA ?_|refine qB ?_|refine xN ?_|refine xE ?_|refine xT ?_); try show PW _ _ _ _ _ _)|refine ro1 tabOk rfl rfl ?_|refine ro2 tabOk rfl rfl ?_|refine ro3 tabOk rfl rfl ?_|(apply oR rfl rfl; (focus (first|exact cJ|exact mG|exact bT|exact nD)))|refine xS ?_|refine xR ?_|refine xB ?_|refine xt rfl ?_|refine xf rfl ?_))
                refine PW_loop_cut (S := Nat × Nat) (fun s => [(0, .ptr 0 0), (2, .g (.int .i64 d)), (59, .g (.sl (VVal.gs l))), (60, .g (.int .i64 l.length)), (61, .g (.int .i64 s.1))])
                  (fun s => ⟨[[.g (.int .i64 (s.2 : Nat))], [.g (.int .i64 5), .g (.bool y), .g (.int .i64 c), .g (.int .i64 e), .g (.str t), .g (.sl (VVal.gs l))]], [], []⟩) (fun s => s.1 ≤ l.length ∧ s.2 ≤ 2000 ∧ lookVs VD (l.drop s.1) s.2 (d + 1) = R) (fun s => l.length - s.1) (0, n + 1) ⟨Nat.zero_le _, by dsimp only; omega, hR⟩
                  (SlotsOk.le ⟨.inl rfl, .inl rfl, .inl rfl, .inl (congrArg (fun k : Nat => PV.g (.int .i64 k)) g1), .inl rfl, trivial⟩) (HLe.of_eq rfl) (fun _ => rfl) (fun s hs => ?_)
                obtain ⟨i, m⟩ := s
                obtain ⟨hi, hm, hgo⟩ := hs
                dsimp only at hi hm hgo
                (repeat (first|((first|refine qA ?_|refine qB ?_|refine xN ?_|refine xE ?_|refine xT ?_); try show PW _ _ _ _ _ _)|refine ro1 tabOk rfl rfl ?_|refine ro2 tabOk rfl rfl ?_|refine ro3 tabOk rfl rfl ?_|(apply oR rfl rfl; (focus (first|exact cJ|exact mG|exact bT|exact nD)))|refine xS ?_|refine xR ?_|refine xB ?_|refine xt rfl ?_|refine xf rfl ?_))
                (first|refine POps_split rfl rfl (fun h => ?_) (fun h => ?_)|refine PW_cond rfl (fun h => ?_) (fun h => ?_))
                · have hlt : i < l.length := by have := of_decide_eq_true h; omega
                  have hg : (VVal.gs l)[((i : Int)).toNat]? = some l[i].g := by rw [VVal.gs_eq]; exact map_get hlt
                  have ih := ih l[i] (List.getElem_mem hlt) m hm
                  have hok := lookV_ok (V := VD) l[i] m (d + 1)
                  rw [List.drop_eq_getElem_cons hlt, lookVs] at hgo
                  generalize l[i] = x at hg ih hgo hok
                  generalize lookV VD x m (d + 1) = r at ih hgo hok
                  obtain ⟨r1, r2⟩ := r
                  obtain ⟨x0, x1, x2, x3, x4, x5⟩ := x
                  dsimp only at ih hgo hok
                  rw [← hwd] at ih
                  clear h
                  (repeat (first|((first|refine qA ?_|refine qB ?_|refine xN ?_|refine xE ?_|refine xT ?_); try show PW _ _ _ _ _ _)|refine ro1 tabOk rfl rfl ?_|refine ro2 tabOk rfl rfl ?_|refine ro3 tabOk rfl rfl ?_|(apply oR rfl rfl; (focus (first|exact cb [] rfl rfl (EN rfl) (ih) rfl rfl rfl rfl rfl rfl rfl rfl rfl rfl rfl|exact iA rfl (EL rfl) (SZ rfl) rfl rfl (Int.natCast_nonneg _) hg rfl|exact cJ|exact mG|exact bT|exact nD)))|refine xS ?_|refine xR ?_|refine xB ?_|refine xt rfl ?_|refine xf rfl ?_))
                  (first|refine POps_split rfl rfl (fun h => ?_) (fun h => ?_)|refine PW_cond rfl (fun h => ?_) (fun h => ?_))
                  · have hne : ¬ r2 = 0 := by simpa [bne] using h
                    rw [if_neg hne] at hgo
                    subst hgo
                    (repeat (first|((first|refine qA ?_|refine qB ?_|refine xN ?_|refine xE ?_|refine xT ?_); try show PW _ _ _ _ _ _)|refine ro1 tabOk rfl rfl ?_|refine ro2 tabOk rfl rfl ?_|refine ro3 tabOk rfl rfl ?_|(apply oR rfl rfl; (focus (first|exact cJ|exact mG|exact bT|exact nD)))|refine xS ?_|refine xR ?_|refine xB ?_|refine xt rfl ?_|refine xf rfl ?_))
                    (first|refine Ret_box (wC vT wN) rfl rfl rfl rfl rfl rfl rfl rfl rfl ?_ ?_ ?_ rfl)
                    all_goals rfl
                  · have he : r2 = 0 := by simpa [bne] using h
                    rw [if_pos he] at hgo
                    (repeat (first|((first|refine qA ?_|refine qB ?_|refine xN ?_|refine xE ?_|refine xT ?_); try show PW _ _ _ _ _ _)|refine ro1 tabOk rfl rfl ?_|refine ro2 tabOk rfl rfl ?_|refine ro3 tabOk rfl rfl ?_|(apply oR rfl rfl; (focus (first|exact cJ|exact mG|exact bT|exact nD)))|refine xS ?_|refine xR ?_|refine xB ?_|refine xt rfl ?_|refine xf rfl ?_))
                    exact ⟨(i + 1, r1), ⟨hlt, (hok he).2, hgo⟩, by dsimp only; omega, SlotsOk.le ⟨.inl rfl, .inl rfl, .inl rfl, .inl rfl, .inl (congrArg (fun k => PV.g (.int .i64 k)) (wrap64 (by omega))), trivial⟩, Drops.mk [(VVal.mk x0 x1 x2 x3 x4 x5).g.cells.map PV.g] [] [] rfl⟩
                · have hi' : i = l.length := by have := of_decide_eq_false h; omega
                  subst hi'
                  rw [List.drop_length, lookVs] at hgo
                  subst hgo
                  (repeat (first|((first|refine qA ?_|refine qB ?_|refine xN ?_|refine xE ?_|refine xT ?_); try show PW _ _ _ _ _ _)|refine ro1 tabOk rfl rfl ?_|refine ro2 tabOk rfl rfl ?_|refine ro3 tabOk rfl rfl ?_|(apply oR rfl rfl; (focus (first|exact cJ|exact mG|exact bT|exact nD)))|refine xS ?_|refine xR ?_|refine xB ?_|refine xt rfl ?_|refine xf rfl ?_))
                  (first|refine Ret_box (wC vT wN) rfl rfl rfl rfl rfl rfl rfl rfl rfl ?_ ?_ ?_ rfl)
                  all_goals rfl
            · rw [if_neg h5]
              (repeat' (first|(first|((first|refine qA ?_|refine qB ?_|refine xN ?_|refine xE ?_|refine xT ?_); try show PW _ _ _ _ _ _)|refine ro1 tabOk rfl rfl ?_|refine ro2 tabOk rfl rfl ?_|refine ro3 tabOk rfl rfl ?_|(apply oR rfl rfl; (focus (first|exact cJ|exact mG|exact bT|exact nD)))|refine xU [6] rfl ?_|refine xR ?_|refine xB ?_|refine xt rfl ?_|refine xf rfl ?_)|(refine POps_split rfl rfl (fun h => ?_) (fun h => ?_) <;> fail_if_success (first|(have : true = true := h)|(have : false = false := h)))|refine PW_cond rfl (fun h => ?_) (fun h => ?_)))
              all_goals (first | ((first|refine Ret_box (wC vT wN) rfl rfl rfl rfl rfl rfl rfl rfl rfl ?_ ?_ ?_ rfl); all_goals rfl) | (exfalso; (try simp only [fX] at *); first | done | omega) | (exfalso; simp at h; done) | (exfalso; simp_all; done))
set_option maxRecDepth 100000 in
set_option maxHeartbeats 8000000 in
theorem rwrongv_pc (v : VVal) (hz : gsz v.g) : PC Tryz.prog 9 [.g v.g] ⟨[], [], []⟩ (.g (.int .i64 (lookV VD v 0 1).2)) ⟨[], [], []⟩ := by
  have h := rlook_pc v 0 1 hz (by omega) (by omega)
  generalize lookV VD v 0 1 = r at h ⊢
  obtain ⟨r1, r2⟩ := r
  obtain ⟨k, y, c, e, t, l⟩ := v
  dsimp only at h
  refine PC_of_PW Tryz.func9 rfl rfl (rs := _) rfl (Nat.le_of_ble_eq_true (by kernel_rfl)) ?_
  (repeat (first|((first|refine qA ?_|refine qB ?_|refine xN ?_|refine xE ?_|refine xT ?_); try show PW _ _ _ _ _ _)|refine ro1 tabOk rfl rfl ?_|refine ro2 tabOk rfl rfl ?_|refine ro3 tabOk rfl rfl ?_|(apply oR rfl rfl; (focus (first|exact cb [] rfl rfl (EN rfl) (h) rfl rfl rfl rfl rfl rfl rfl rfl rfl rfl rfl|exact cJ|exact mG|exact bT|exact nD)))|refine xS ?_|refine xR ?_|refine xB ?_|refine xt rfl ?_|refine xf rfl ?_))
  (first|refine Ret_int (vC vT vN) rfl ?_|refine Ret_bool (vC vT vN) rfl ?_|refine Ret_g (vC vT vN) rfl ?_)
  rfl
end Go.Proofs.YtdicineiaifahaaGreatDoor

