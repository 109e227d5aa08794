/- Plain laws: what is written is read, in one way alone. -/
import Derived.Test.YtffpepmfdjjjaaaL2
import Derived.Test.YtffpepmfdjjjaaaS13
namespace Go.Proofs.Ytffpepmfdjjjaaa
open Go.Pure

mutual
/-- Numbers of 64 bits. -/
def Tr.wf : Tr → Prop
  | .mk tag n _ kids => (-9223372036854775808 ≤ tag ∧ tag < 9223372036854775808) ∧ (-9223372036854775808 ≤ n ∧ n < 9223372036854775808) ∧ Tr.wfs kids
def Tr.wfs : List Tr → Prop
  | [] => True
  | t :: r => t.wf ∧ Tr.wfs r
end
mutual
theorem look_zero : ∀ (t : Tr) (d n : Int), (look d n t).1 = 0 → t.wf → d + t.tall ≤ 41 ∧ t.fine
  | .mk tag tn text kids, d, n, h, hw => by
    simp only [Tr.wf] at hw
    simp only [look] at h
    split at h
    · simp at h
    · split at h
      · simp at h
      · have := looks_zero kids (d + 1) (n + 1) h hw.2.2
        simp only [Tr.tall, Tr.fine]
        refine ⟨?_, by omega, hw.2.1, this.2⟩
        rcases this.1 with rfl | h3
        · simp only [Tr.talls]; omega
        · omega
theorem looks_zero : ∀ (l : List Tr) (d n : Int), (looks d n l).1 = 0 → Tr.wfs l → (l = [] ∨ d + Tr.talls l ≤ 41) ∧ Tr.fines l
  | [], d, n, h, _ => by simp [Tr.fines]
  | t :: r, d, n, h, hw => by
    simp only [Tr.wfs] at hw
    simp only [looks] at h
    split at h
    · rename_i h0
      have h1 := look_zero t d n h0 hw.1
      have h2 := looks_zero r d _ h hw.2
      simp only [Tr.talls, Tr.fines]
      refine ⟨.inr ?_, h1.2, h2.2⟩
      rcases h2.1 with rfl | h3
      · simp only [Tr.talls]; omega
      · omega
    · rename_i h0
      exact absurd h h0
end
theorem wrong_zero {t : Tr} (h : wrongT t = 0) (hw : t.wf) : t.tall ≤ 40 ∧ t.fine := by
  have := look_zero t 1 0 h hw
  exact ⟨by omega, this.2⟩

theorem four_back (x : BitVec 32) : ∃ a b c d, four x = [a, b, c, d] ∧ le32 a b c d = x := by
  refine ⟨_, _, _, _, rfl, ?_⟩
  have := x.isLt
  apply BitVec.eq_of_toNat_eq
  unfold le32
  simp
  omega
theorem four_le32 (a b c d : UInt8) : four (le32 a b c d) = [a, b, c, d] := by
  have ha := a.toNat_lt; have hb := b.toNat_lt; have hc := c.toNat_lt; have hd := d.toNat_lt
  have e : (le32 a b c d).toNat = a.toNat + 256 * b.toNat + 65536 * c.toNat + 16777216 * d.toNat := by
    unfold le32; simp; omega
  unfold four
  rw [e]
  have e1 : (a.toNat + 256 * b.toNat + 65536 * c.toNat + 16777216 * d.toNat) % 256 = a.toNat := by omega
  have e2 : (a.toNat + 256 * b.toNat + 65536 * c.toNat + 16777216 * d.toNat) / 256 % 256 = b.toNat := by omega
  have e3 : (a.toNat + 256 * b.toNat + 65536 * c.toNat + 16777216 * d.toNat) / 65536 % 256 = c.toNat := by omega
  have e4 : (a.toNat + 256 * b.toNat + 65536 * c.toNat + 16777216 * d.toNat) / 16777216 % 256 = d.toNat := by omega
  rw [e1, e2, e3, e4]
  simp

/-- Any bytes' tree, and what is wrong. -/
def parseT (l : List UInt8) : Tr × Int :=
  if 100000 < l.length then (noTree, 4) else
  match l.drop (l.length - 4), l.length with
  | [a, b, c, d], _ => parseB (l.take (l.length - 4)) (le32 a b c d)
  | _, _ => (noTree, 2)
theorem parseT_four (body : List UInt8) (a b c d : UInt8) (h : body.length + 4 ≤ 100000) : parseT (body ++ [a, b, c, d]) = parseB body (le32 a b c d) := by
  unfold parseT
  have hl : (body ++ [a, b, c, d]).length = body.length + 4 := by simp
  rw [if_neg (by omega)]
  have e1 : (body ++ [a, b, c, d]).length - 4 = body.length := by omega
  rw [e1, List.drop_left, List.take_left]
theorem last_four (l : List UInt8) (h : 4 ≤ l.length) : ∃ body a b c d, l = body ++ [a, b, c, d] := by
  have h1 : (l.drop (l.length - 4)).length = 4 := by simp; omega
  match hd : l.drop (l.length - 4), h1 with
  | [a, b, c, d], _ => exact ⟨l.take (l.length - 4), a, b, c, d, by rw [← hd, List.take_append_drop]⟩
theorem parse_all (l : List UInt8) (hm : l.length ≤ 1000000000) : PC Try.prog 24 [.g (.sl (bys l))] ⟨[], [], []⟩ (.tuple [.g (parseT l).1.g, .g (.int .i64 (parseT l).2)]) ⟨[], [], []⟩ := by
  by_cases h1 : 100000 < l.length
  · have : parseT l = (noTree, 4) := by unfold parseT; rw [if_pos h1]
    rw [this]
    exact parse_long l h1 hm
  · by_cases h2 : l.length < 4
    · have : parseT l = (noTree, 2) := by
        unfold parseT
        rw [if_neg h1]
        have : (l.drop (l.length - 4)).length ≠ 4 := by simp; omega
        split
        · rename_i hd; rw [hd] at this; simp at this
        · rfl
      rw [this]
      exact parse_short l h2
    · obtain ⟨body, a, b, c, d, rfl⟩ := last_four l (by omega)
      have hl : (body ++ [a, b, c, d]).length = body.length + 4 := by simp
      rw [parseT_four _ _ _ _ _ (by omega)]
      exact parse_pc body a b c d (by omega)

/-- What is written is read. -/
theorem bytes_parse {t : Tr} {x : List UInt8} (hw : t.wf) (h : bytesT t = (x, 0)) : parseT x = (t, 0) := by
  unfold bytesT at h
  split at h
  · rename_i h0
    split at h
    · simp at h
    · rename_i hl
      cases h
      obtain ⟨a, b, c, d, h4, h5⟩ := four_back (sumB (enc t))
      obtain ⟨ht, hf⟩ := wrong_zero h0 hw
      have hr := tree_read 40 t [] hf ht (by simp; omega)
      rw [List.append_nil] at hr
      rw [h4, parseT_four _ _ _ _ _ (by omega), h5]
      unfold parseB
      rw [if_neg (fun hn => hn rfl), hr]
      dsimp only
      rw [if_neg (by simp [h0])]
  · rename_i h0
    have := congrArg (fun x => x.2) h
    exact absurd this h0
/-- What is read was written. -/
theorem parse_bytes {u : Tr} {l : List UInt8} (h : parseT l = (u, 0)) : bytesT u = (l, 0) ∧ u.fine ∧ l.length ≤ 100000 := by
  by_cases h1 : 100000 < l.length
  · have : parseT l = (noTree, 4) := by unfold parseT; rw [if_pos h1]
    rw [this] at h; simp at h
  · by_cases h2 : l.length < 4
    · have : parseT l = (noTree, 2) := by
        unfold parseT
        rw [if_neg h1]
        have : (l.drop (l.length - 4)).length ≠ 4 := by simp; omega
        split
        · rename_i hd; rw [hd] at this; simp at this
        · rfl
      rw [this] at h; simp at h
    · obtain ⟨body, a, b, c, d, rfl⟩ := last_four l (by omega)
      have hl : (body ++ [a, b, c, d]).length = body.length + 4 := by simp
      rw [parseT_four _ _ _ _ _ (by omega)] at h
      unfold parseB at h
      split at h
      · simp at h
      · rename_i hs
        split at h
        · simp at h
        · rename_i hh
          have hb : (treeGo 40 body false).2.2 = false := by
            cases hx : (treeGo 40 body false).2.2 with
            | false => rfl
            | true => exact absurd (.inl hx) hh
          have hn : (treeGo 40 body false).2.1 = [] := by
            apply List.eq_nil_of_length_eq_zero
            omega
          have hu : (treeGo 40 body false).1 = u := congrArg (fun x => x.1) h
          have e : treeGo 40 body false = (u, [], false) := Prod.ext hu (Prod.ext hn hb)
          obtain ⟨_, e2, e3⟩ := tree_was 40 body false u [] e
          rw [List.append_nil] at e2
          have hz : wrongT u = 0 := by
            rw [← hu]
            exact Classical.byContradiction fun hne => hh (.inr (.inr hne))
          refine ⟨?_, e3, by omega⟩
          have hs' : sumB body = le32 a b c d := Classical.byContradiction fun hne => hs hne
          unfold bytesT
          rw [if_pos hz, ← e2, if_neg (by omega), hs', four_le32]
end Go.Proofs.Ytffpepmfdjjjaaa
