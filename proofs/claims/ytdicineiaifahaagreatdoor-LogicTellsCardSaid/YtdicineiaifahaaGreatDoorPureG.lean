/- A generic layer: values without memory, and code over them. -/
import Derived.Test.YtdicineiaifahaaGreatDoorPureA
/- Natural numbers as lists of words, the least first. -/
namespace Go.Pure.V
open Go Go.Pure

abbrev WB : Nat := 4294967296
def wG (n : Nat) : GV := .int .u32 n
def wsG (l : List Nat) : List GV := l.map wG
def okW (l : List Nat) : Prop := ∀ w ∈ l, w < WB
def val : List Nat → Nat
  | [] => 0
  | w :: r => w + WB * val r

theorem wsG_length (l : List Nat) : (wsG l).length = l.length := by simp [wsG]
theorem wsG_cells {l : List Nat} : ∀ x ∈ wsG l, x.cells = [x] := by
  intro x hx
  obtain ⟨n, _, rfl⟩ := List.mem_map.1 hx
  rfl
theorem wsG_get {l : List Nat} {i : Nat} {w : Nat} (h : l[i]? = some w) : (wsG l)[i]? = some (wG w) := by simp [wsG, h]

theorem okW_nil : okW [] := by simp [okW]
theorem okW_cons {w : Nat} {l : List Nat} : okW (w :: l) ↔ w < WB ∧ okW l := by simp [okW]
theorem okW_append {a b : List Nat} : okW (a ++ b) ↔ okW a ∧ okW b := by
  simp only [okW, List.mem_append]
  exact ⟨fun h => ⟨fun w hw => h w (.inl hw), fun w hw => h w (.inr hw)⟩, fun h w hw => hw.elim (h.1 w) (h.2 w)⟩
theorem okW.take {l : List Nat} (h : okW l) (n : Nat) : okW (l.take n) := fun w hw => h w (List.mem_of_mem_take hw)
theorem okW.drop {l : List Nat} (h : okW l) (n : Nat) : okW (l.drop n) := fun w hw => h w (List.mem_of_mem_drop hw)
theorem okW.at {l : List Nat} (h : okW l) {i w : Nat} (hi : l[i]? = some w) : w < WB := h w (List.mem_of_getElem? hi)
theorem okW_rep (n : Nat) : okW (List.replicate n 0) := fun w hw => by rw [(List.mem_replicate.1 hw).2]; decide

theorem val_nil : val [] = 0 := rfl
theorem val_cons (w : Nat) (l : List Nat) : val (w :: l) = w + WB * val l := rfl
theorem val_append : ∀ a b : List Nat, val (a ++ b) = val a + WB ^ a.length * val b
  | [], b => by simp [val]
  | w :: a, b => by
    simp only [List.cons_append, val, val_append a b, List.length_cons, Nat.pow_succ]
    rw [Nat.mul_add, ← Nat.add_assoc]
    congr 1
    rw [← Nat.mul_assoc, Nat.mul_comm WB]
theorem val_rep : ∀ n : Nat, val (List.replicate n 0) = 0
  | 0 => rfl
  | n + 1 => by simp [List.replicate_succ, val, val_rep n]
theorem val_lt : ∀ {l : List Nat}, okW l → val l < WB ^ l.length
  | [], _ => by simp [val]
  | w :: l, h => by
    obtain ⟨h1, h2⟩ := okW_cons.1 h
    have := val_lt h2
    simp only [val, List.length_cons, Nat.pow_succ]
    have h3 : WB * (val l + 1) ≤ WB * WB ^ l.length := Nat.mul_le_mul_left _ this
    rw [Nat.mul_add, Nat.mul_one] at h3
    rw [Nat.mul_comm (WB ^ l.length)]
    omega
theorem val_inj : ∀ {a b : List Nat}, okW a → okW b → a.length = b.length → val a = val b → a = b
  | [], [], _, _, _, _ => rfl
  | [], _ :: _, _, _, h, _ => by cases h
  | _ :: _, [], _, _, h, _ => by cases h
  | x :: a, y :: b, ha, hb, hl, h => by
    obtain ⟨h1, h2⟩ := okW_cons.1 ha
    obtain ⟨h3, h4⟩ := okW_cons.1 hb
    simp only [val] at h
    have e1 : x = y := by
      have := congrArg (· % WB) h
      simpa [Nat.add_mul_mod_self_left, Nat.mod_eq_of_lt h1, Nat.mod_eq_of_lt h3] using this
    subst e1
    have e2 : val a = val b := Nat.eq_of_mul_eq_mul_left (show 0 < WB by decide) (by omega)
    rw [val_inj h2 h4 (by simpa using hl) e2]

def dig (n : Nat) : List Nat := if h : n = 0 then [] else (n % WB) :: dig (n / WB)
termination_by n
decreasing_by exact Nat.div_lt_self (Nat.pos_of_ne_zero h) (by decide)
theorem dig_zero : dig 0 = [] := by rw [dig]; simp
theorem dig_pos {n : Nat} (h : n ≠ 0) : dig n = (n % WB) :: dig (n / WB) := by rw [dig]; simp [h]
theorem dig_nil {n : Nat} (h : dig n = []) : n = 0 := by
  by_cases hn : n = 0
  · exact hn
  · rw [dig_pos hn] at h; cases h
theorem val_dig (n : Nat) : val (dig n) = n := by
  induction n using Nat.strongRecOn with
  | ind n ih =>
    by_cases hn : n = 0
    · rw [hn, dig_zero]; rfl
    · rw [dig_pos hn, val, ih _ (Nat.div_lt_self (Nat.pos_of_ne_zero hn) (by decide))]
      exact Nat.mod_add_div n WB
theorem okW_dig (n : Nat) : okW (dig n) := by
  induction n using Nat.strongRecOn with
  | ind n ih =>
    by_cases hn : n = 0
    · rw [hn, dig_zero]; exact okW_nil
    · rw [dig_pos hn]
      exact okW_cons.2 ⟨Nat.mod_lt _ (by decide), ih _ (Nat.div_lt_self (Nat.pos_of_ne_zero hn) (by decide))⟩
theorem dig_inj {a b : Nat} (h : dig a = dig b) : a = b := by rw [← val_dig a, h, val_dig]
theorem dig_one {n : Nat} (h0 : n ≠ 0) (h : n < WB) : dig n = [n] := by
  rw [dig_pos h0, Nat.mod_eq_of_lt h, Nat.div_eq_of_lt h, dig_zero]

def nlen : List Nat → Nat
  | [] => 0
  | w :: r => if nlen r = 0 then (if w = 0 then 0 else 1) else nlen r + 1
theorem nlen_le : ∀ l : List Nat, nlen l ≤ l.length
  | [] => Nat.le_refl _
  | w :: r => by
    have := nlen_le r
    simp only [nlen, List.length_cons]
    split
    · split <;> omega
    · omega
theorem nlen_zero : ∀ {l : List Nat}, nlen l = 0 → val l = 0
  | [], _ => rfl
  | w :: r, h => by
    simp only [nlen] at h
    split at h
    · rename_i h1
      split at h
      · rename_i h2; subst h2; simp [val, nlen_zero h1]
      · cases h
    · cases h
theorem dig_val : ∀ {l : List Nat}, okW l → dig (val l) = l.take (nlen l)
  | [], _ => by simp [val, dig_zero, nlen]
  | w :: r, h => by
    obtain ⟨h1, h2⟩ := okW_cons.1 h
    have ih := dig_val h2
    simp only [val, nlen]
    by_cases hr : nlen r = 0
    · rw [if_pos hr, nlen_zero hr]
      by_cases hw : w = 0
      · subst hw; simp [dig_zero]
      · rw [if_neg hw, Nat.mul_zero, Nat.add_zero, dig_one hw h1]; simp
    · rw [if_neg hr]
      have hv : val r ≠ 0 := fun hv => by
        rw [hv, dig_zero] at ih
        have := congrArg List.length ih
        have hl := nlen_le r
        simp at this
        omega
      rw [dig_pos (by have : 0 < WB * val r := Nat.mul_pos (by decide) (Nat.pos_of_ne_zero hv); omega), List.take_succ_cons, ← ih]
      rw [Nat.add_mul_mod_self_left, Nat.mod_eq_of_lt h1, Nat.add_mul_div_left _ _ (by decide), Nat.div_eq_of_lt h1, Nat.zero_add]
theorem nlen_dig {l : List Nat} (h : okW l) : (dig (val l)).length = nlen l := by
  rw [dig_val h, List.length_take]
  exact Nat.min_eq_left (nlen_le l)
theorem dig_length_le {n k : Nat} (h : n < WB ^ k) : (dig n).length ≤ k := by
  induction k generalizing n with
  | zero => have : n = 0 := by simpa using h
            subst this; simp [dig_zero]
  | succ k ih =>
    by_cases hn : n = 0
    · subst hn; simp [dig_zero]
    · rw [dig_pos hn, List.length_cons]
      have : n / WB < WB ^ k := Nat.div_lt_of_lt_mul (by rw [Nat.pow_succ, Nat.mul_comm] at h; exact h)
      have := ih this
      omega
theorem nlen_step {l : List Nat} {w : Nat} {k : Nat} (hk : l[k]? = some w) (hz : ∀ j, k < j → ∀ x, l[j]? = some x → x = 0) (hw : w ≠ 0) : nlen l = k + 1 := by
  induction l generalizing k with
  | nil => simp at hk
  | cons x r ih =>
    cases k with
    | zero =>
      simp at hk
      subst hk
      have : nlen r = 0 := by
        have hall : ∀ y ∈ r, y = 0 := fun y hy => by
          obtain ⟨j, hj⟩ := List.getElem?_of_mem hy
          exact hz (j + 1) (by omega) y (by simpa using hj)
        clear ih hz
        induction r with
        | nil => rfl
        | cons y r ih2 =>
          simp only [nlen]
          rw [ih2 fun z hz => hall z (List.mem_cons_of_mem _ hz), if_pos rfl, if_pos (hall y List.mem_cons_self)]
      simp [nlen, this, hw]
    | succ k =>
      have := ih (by simpa using hk) fun j hj y hy => hz (j + 1) (by omega) y (by simpa using hy)
      simp [nlen, this]
theorem nlen_none {l : List Nat} (h : ∀ x ∈ l, x = 0) : nlen l = 0 := by
  induction l with
  | nil => rfl
  | cons y r ih =>
    simp only [nlen]
    rw [ih fun z hz => h z (List.mem_cons_of_mem _ hz), if_pos rfl, if_pos (h y List.mem_cons_self)]

/-! ### A word times a number, and more -/
def mulAddW : List Nat → Nat → Nat → List Nat
  | [], _, _ => []
  | x :: r, y, c => (x * y + c) % WB :: mulAddW r y ((x * y + c) / WB)
def mulAddC : List Nat → Nat → Nat → Nat
  | [], _, c => c
  | x :: r, y, c => mulAddC r y ((x * y + c) / WB)
theorem mulAddW_length : ∀ (l : List Nat) (y c : Nat), (mulAddW l y c).length = l.length
  | [], _, _ => rfl
  | x :: r, y, c => by simp [mulAddW, mulAddW_length r]
theorem mulAddW_ok : ∀ (l : List Nat) (y c : Nat), okW (mulAddW l y c)
  | [], _, _ => okW_nil
  | x :: r, y, c => okW_cons.2 ⟨Nat.mod_lt _ (by decide), mulAddW_ok r _ _⟩
theorem word_step {x y c : Nat} (hx : x < WB) (hy : y < WB) (hc : c < WB) : (x * y + c) / WB < WB := by
  refine Nat.div_lt_of_lt_mul ?_
  have : x * y ≤ (WB - 1) * (WB - 1) := Nat.mul_le_mul (by omega) (by omega)
  have : (WB - 1) * (WB - 1) + WB ≤ WB * WB := by decide
  omega
theorem mulAddC_lt : ∀ {l : List Nat} {y c : Nat}, okW l → y < WB → c < WB → mulAddC l y c < WB
  | [], _, _, _, _, hc => hc
  | x :: r, y, c, h, hy, hc => by
    obtain ⟨h1, h2⟩ := okW_cons.1 h
    show mulAddC r y ((x * y + c) / WB) < WB
    exact mulAddC_lt h2 hy (word_step h1 hy hc)
theorem mulAdd_val : ∀ (l : List Nat) (y c : Nat), val (mulAddW l y c) + WB ^ l.length * mulAddC l y c = val l * y + c
  | [], _, _ => by simp [mulAddW, mulAddC, val]
  | x :: r, y, c => by
    have ih := mulAdd_val r y ((x * y + c) / WB)
    simp only [mulAddW, mulAddC, val, List.length_cons, Nat.pow_succ]
    have h1 : WB * (val (mulAddW r y ((x * y + c) / WB)) + WB ^ r.length * mulAddC r y ((x * y + c) / WB)) = WB * (val r * y + (x * y + c) / WB) := by rw [ih]
    have h2 := Nat.mod_add_div (x * y + c) WB
    rw [Nat.mul_add, Nat.mul_add, ← Nat.mul_assoc, ← Nat.mul_assoc] at h1
    rw [Nat.add_mul, Nat.mul_comm (WB ^ r.length) WB]
    omega

def addMulW : List Nat → List Nat → Nat → Nat → List Nat
  | z :: zs, y :: ys, m, c => (y * m + z + c) % WB :: addMulW zs ys m ((y * m + z + c) / WB)
  | _, _, _, _ => []
def addMulC : List Nat → List Nat → Nat → Nat → Nat
  | z :: zs, y :: ys, m, c => addMulC zs ys m ((y * m + z + c) / WB)
  | _, _, _, c => c
theorem addMulW_length : ∀ {z y : List Nat} {m c : Nat}, z.length = y.length → (addMulW z y m c).length = z.length
  | [], [], _, _, _ => rfl
  | [], _ :: _, _, _, h => by cases h
  | _ :: _, [], _, _, h => by cases h
  | z :: zs, y :: ys, m, c, h => by simp [addMulW, addMulW_length (z := zs) (y := ys) (by simpa using h)]
theorem addMulW_ok : ∀ (z y : List Nat) (m c : Nat), okW (addMulW z y m c)
  | [], _, _, _ => by simp [addMulW, okW_nil]
  | _ :: _, [], _, _ => by simp [addMulW, okW_nil]
  | z :: zs, y :: ys, m, c => okW_cons.2 ⟨Nat.mod_lt _ (by decide), addMulW_ok zs ys _ _⟩
theorem word_step2 {x y z c : Nat} (hx : x < WB) (hy : y < WB) (hz : z < WB) (hc : c < WB) : (x * y + z + c) / WB < WB := by
  refine Nat.div_lt_of_lt_mul ?_
  have : x * y ≤ (WB - 1) * (WB - 1) := Nat.mul_le_mul (by omega) (by omega)
  have : (WB - 1) * (WB - 1) + WB + WB ≤ WB * WB + 1 := by decide
  omega
theorem addMulC_lt : ∀ {z y : List Nat} {m c : Nat}, okW z → okW y → m < WB → c < WB → addMulC z y m c < WB
  | [], _, _, _, _, _, _, hc => by simpa [addMulC] using hc
  | _ :: _, [], _, _, _, _, _, hc => by simpa [addMulC] using hc
  | z :: zs, y :: ys, m, c, hz, hy, hm, hc => by
    obtain ⟨h1, h2⟩ := okW_cons.1 hz
    obtain ⟨h3, h4⟩ := okW_cons.1 hy
    show addMulC zs ys m ((y * m + z + c) / WB) < WB
    exact addMulC_lt h2 h4 hm (word_step2 h3 hm h1 hc)
theorem addMul_val : ∀ {z y : List Nat} (m c : Nat), z.length = y.length → val (addMulW z y m c) + WB ^ z.length * addMulC z y m c = val z + val y * m + c
  | [], [], _, _, _ => by simp [addMulW, addMulC, val]
  | [], _ :: _, _, _, h => by cases h
  | _ :: _, [], _, _, h => by cases h
  | z :: zs, y :: ys, m, c, h => by
    have ih := addMul_val (z := zs) (y := ys) m ((y * m + z + c) / WB) (by simpa using h)
    simp only [addMulW, addMulC, val, List.length_cons, Nat.pow_succ]
    have h1 : WB * (val (addMulW zs ys m ((y * m + z + c) / WB)) + WB ^ zs.length * addMulC zs ys m ((y * m + z + c) / WB)) = WB * (val zs + val ys * m + (y * m + z + c) / WB) := by rw [ih]
    have h2 := Nat.mod_add_div (y * m + z + c) WB
    rw [Nat.mul_add, Nat.mul_add, Nat.mul_add, ← Nat.mul_assoc, ← Nat.mul_assoc] at h1
    rw [Nat.add_mul, Nat.mul_comm (WB ^ zs.length) WB]
    omega

/-! ### Product, by lines -/
def putL (ws : List Nat) (off : Nat) (us : List Nat) : List Nat := ws.take off ++ us ++ ws.drop (off + us.length)
theorem putL_length {ws us : List Nat} {off : Nat} (h : off + us.length ≤ ws.length) : (putL ws off us).length = ws.length := by simp [putL]; omega
theorem putL_ok {ws us : List Nat} (off : Nat) (h1 : okW ws) (h2 : okW us) : okW (putL ws off us) := okW_append.2 ⟨okW_append.2 ⟨h1.take _, h2⟩, h1.drop _⟩
def rowW (zs x : List Nat) (i d : Nat) : List Nat :=
  putL zs i (addMulW ((zs.drop i).take x.length) x d 0 ++ [addMulC ((zs.drop i).take x.length) x d 0])
structure MulInv (x y zs : List Nat) (i : Nat) : Prop where
  ok : okW zs
  len : zs.length = x.length + y.length
  v : val zs = val x * val (y.take i)
  z : ∀ k, x.length + i ≤ k → ∀ w, zs[k]? = some w → w = 0

theorem val_put {zs us : List Nat} {i : Nat} (h : i + us.length ≤ zs.length) : val (putL zs i us) + WB ^ i * val ((zs.drop i).take us.length) = val zs + WB ^ i * val us := by
  have e1 : (zs.take i).length = i := by simp; omega
  have hz : val zs = val (zs.take i) + WB ^ i * (val ((zs.drop i).take us.length) + WB ^ us.length * val (zs.drop (i + us.length))) := by
    conv => lhs; rw [← List.take_append_drop i zs, ← List.take_append_drop us.length (zs.drop i)]
    rw [val_append, val_append, e1, List.drop_drop]
    have : ((zs.drop i).take us.length).length = us.length := by simp; omega
    rw [this]
  have hp : val (putL zs i us) = val (zs.take i) + WB ^ i * (val us + WB ^ us.length * val (zs.drop (i + us.length))) := by
    unfold putL
    rw [List.append_assoc, val_append, val_append, e1]
  rw [hz, hp]
  simp only [Nat.mul_add]
  omega

theorem MulInv.start (x y : List Nat) : MulInv x y (List.replicate (x.length + y.length) 0) 0 :=
  ⟨okW_rep _, by simp, by simp [val_rep, val], fun k _ w hw => by rw [List.getElem?_replicate] at hw; split at hw <;> simp_all⟩
theorem MulInv.skip {x y zs : List Nat} {i : Nat} (h : MulInv x y zs i) (hd : y[i]? = some 0) : MulInv x y zs (i + 1) := by
  refine ⟨h.ok, h.len, ?_, fun k hk => h.z k (by omega)⟩
  have hi := (List.getElem?_eq_some_iff.1 hd).1
  rw [h.v, List.take_add_one, hd, Option.toList_some, val_append]
  simp [val]
theorem MulInv.step {x y zs : List Nat} {i d : Nat} (hx : okW x) (h : MulInv x y zs i) (hd : y[i]? = some d) (hdw : d < WB) : MulInv x y (rowW zs x i d) (i + 1) := by
  have hi := (List.getElem?_eq_some_iff.1 hd).1
  have hl := h.len
  have hp : ((zs.drop i).take x.length).length = x.length := by simp; omega
  have hokp : okW ((zs.drop i).take x.length) := (h.ok.drop i).take _
  have hul : (addMulW ((zs.drop i).take x.length) x d 0 ++ [addMulC ((zs.drop i).take x.length) x d 0]).length = x.length + 1 := by
    rw [List.length_append, addMulW_length hp, hp]; rfl
  have hc := addMulC_lt hokp hx hdw (show 0 < WB by decide)
  have hfit : i + (addMulW ((zs.drop i).take x.length) x d 0 ++ [addMulC ((zs.drop i).take x.length) x d 0]).length ≤ zs.length := by rw [hul]; omega
  have hzero : ∀ k, x.length + i ≤ k → ∀ w, zs[k]? = some w → w = 0 := h.z
  have hold : val ((zs.drop i).take (x.length + 1)) = val ((zs.drop i).take x.length) := by
    rw [List.take_add_one, val_append]
    have : ((zs.drop i)[x.length]?).toList = [0] := by
      rw [List.getElem?_drop]
      have hlt : i + x.length < zs.length := by omega
      rw [List.getElem?_eq_getElem hlt]
      have := hzero (i + x.length) (by omega) _ (List.getElem?_eq_getElem hlt)
      simp [this]
    rw [this]
    simp [val]
  have hnew : val (addMulW ((zs.drop i).take x.length) x d 0 ++ [addMulC ((zs.drop i).take x.length) x d 0]) = val ((zs.drop i).take x.length) + val x * d := by
    have := addMul_val (z := (zs.drop i).take x.length) (y := x) d 0 hp
    rw [val_append, addMulW_length hp]
    simp only [val, Nat.mul_zero, Nat.add_zero] at this ⊢
    exact this
  refine ⟨putL_ok _ h.ok (okW_append.2 ⟨addMulW_ok _ _ _ _, okW_cons.2 ⟨hc, okW_nil⟩⟩), ?_, ?_, ?_⟩
  · unfold rowW
    rw [putL_length hfit, hl]
  · have hv := val_put hfit
    rw [hul, hold, hnew, h.v] at hv
    unfold rowW
    rw [List.take_add_one, hd, Option.toList_some, val_append, List.length_take, Nat.min_eq_left (by omega)]
    simp only [val, Nat.mul_zero, Nat.add_zero, Nat.mul_add] at hv ⊢
    have : val x * (WB ^ i * d) = WB ^ i * (val x * d) := by rw [← Nat.mul_assoc, ← Nat.mul_assoc, Nat.mul_comm (val x)]
    omega
  · intro k hk w hw
    unfold rowW at hw
    generalize addMulW ((zs.drop i).take x.length) x d 0 ++ [addMulC ((zs.drop i).take x.length) x d 0] = us at hul hfit hw
    unfold putL at hw
    have h1 : (zs.take i ++ us).length = i + us.length := by simp; omega
    rw [List.getElem?_append_right (by omega), List.getElem?_drop, h1] at hw
    exact hzero _ (by omega) w hw
theorem MulInv.done {x y zs : List Nat} (h : MulInv x y zs y.length) : val zs = val x * val y := by rw [h.v, List.take_length]

/-! ### So many words -/
def padD : Nat → Nat → List Nat
  | 0, _ => []
  | k + 1, v => v % WB :: padD k (v / WB)
theorem padD_length : ∀ k v : Nat, (padD k v).length = k
  | 0, _ => rfl
  | k + 1, v => by simp [padD, padD_length k]
theorem padD_ok : ∀ k v : Nat, okW (padD k v)
  | 0, _ => okW_nil
  | k + 1, v => okW_cons.2 ⟨Nat.mod_lt _ (by decide), padD_ok k _⟩
theorem padD_val : ∀ {l : List Nat}, okW l → padD l.length (val l) = l
  | [], _ => rfl
  | w :: r, h => by
    obtain ⟨h1, h2⟩ := okW_cons.1 h
    simp only [List.length_cons, padD, val]
    rw [Nat.add_mul_mod_self_left, Nat.mod_eq_of_lt h1, Nat.add_mul_div_left _ _ (by decide), Nat.div_eq_of_lt h1, Nat.zero_add, padD_val h2]
theorem val_padD : ∀ {k v : Nat}, v < WB ^ k → val (padD k v) = v
  | 0, v, h => by have : v = 0 := by simpa using h
                  subst this; rfl
  | k + 1, v, h => by
    have : v / WB < WB ^ k := Nat.div_lt_of_lt_mul (by rw [Nat.pow_succ, Nat.mul_comm] at h; exact h)
    simp only [padD, val]
    rw [val_padD this]
    exact Nat.mod_add_div v WB
theorem nlen_padD {k v : Nat} (h : v < WB ^ k) : nlen (padD k v) = (dig v).length := by rw [← nlen_dig (padD_ok k v), val_padD h]
theorem take_padD {k v : Nat} (h : v < WB ^ k) : (padD k v).take (dig v).length = dig v := by
  have := dig_val (padD_ok k v)
  rw [val_padD h, nlen_padD h] at this
  exact this.symm
theorem MulInv.pad {x y zs : List Nat} {i : Nat} (h : MulInv x y zs i) : zs = padD (x.length + y.length) (val x * val (y.take i)) := by
  rw [← h.v, ← h.len, padD_val h.ok]
end Go.Pure.V


/- Rows of words of 32 bits: what is told of rows of words of 64 bits in BgC .. BgJ. -/
namespace Go.Pure.V
open Go

theorem wsG_set {ws : List Nat} {i w : Nat} : (wsG ws).set i (wG w) = wsG (ws.set i w) := by unfold wsG; rw [List.map_set]
theorem set_putL {ws us : List Nat} {off n w : Nat} (hl : us.length = n) (h : off + n < ws.length) : (putL ws off us).set (off + n) w = putL ws off (us ++ [w]) := by
  subst hl
  have hlen : (putL ws off us).length = ws.length := putL_length (by omega)
  apply List.ext_getElem?
  intro k
  rw [List.getElem?_set]
  unfold putL
  have e1 : (ws.take off).length = off := by simp; omega
  by_cases hk : off + us.length = k
  · subst hk
    rw [if_pos rfl, if_pos (by have := hlen; unfold putL at this; rw [this]; exact h)]
    rw [List.append_assoc, List.getElem?_append_right (by omega), e1, List.getElem?_append_left (by simp), List.getElem?_append_right (by omega)]
    simp
  · rw [if_neg hk]
    have e2 : (ws.take off ++ us).length = off + us.length := by rw [List.length_append, e1]
    have e3 : ws.take off ++ (us ++ [w]) ++ ws.drop (off + (us ++ [w]).length) = (ws.take off ++ us) ++ ([w] ++ ws.drop (off + (us ++ [w]).length)) := by simp
    rw [e3]
    by_cases h1 : k < off + us.length
    · rw [List.getElem?_append_left (by omega), List.getElem?_append_left (l₁ := ws.take off ++ us) (by omega)]
    · rw [List.getElem?_append_right (by omega), List.getElem?_append_right (l₁ := ws.take off ++ us) (by omega), e2, List.getElem?_append_right (by simp; omega), List.getElem?_drop, List.getElem?_drop]
      congr 1
      simp
      omega
theorem putL_nil (ws : List Nat) (off : Nat) : putL ws off [] = ws := by simp [putL]
theorem putL_get {ws us : List Nat} {off k : Nat} (h : off + us.length ≤ k) : (putL ws off us)[k]? = ws[k]? := by
  unfold putL
  by_cases hk : k < ws.length
  · rw [List.getElem?_append_right (by simp; omega), List.getElem?_drop]
    congr 1
    simp
    omega
  · rw [List.getElem?_eq_none (by simp; omega), List.getElem?_eq_none (by omega)]
theorem mulAdd_step : ∀ {l : List Nat} {y c i x : Nat}, l[i]? = some x → mulAddW (l.take (i + 1)) y c = mulAddW (l.take i) y c ++ [(x * y + mulAddC (l.take i) y c) % WB] ∧ mulAddC (l.take (i + 1)) y c = (x * y + mulAddC (l.take i) y c) / WB
  | [], _, _, _, _, h => by simp at h
  | z :: r, y, c, 0, x, h => by simp at h; subst h; simp [mulAddW, mulAddC]
  | z :: r, y, c, i + 1, x, h => by
    have := mulAdd_step (l := r) (y := y) (c := (z * y + c) / WB) (i := i) (x := x) (by simpa using h)
    simp only [List.take_succ_cons, mulAddW, mulAddC, List.cons_append]
    exact ⟨by rw [this.1], this.2⟩
theorem addMul_step : ∀ {z l : List Nat} {m c i x y : Nat}, z[i]? = some x → l[i]? = some y → addMulW (z.take (i + 1)) (l.take (i + 1)) m c = addMulW (z.take i) (l.take i) m c ++ [(y * m + x + addMulC (z.take i) (l.take i) m c) % WB] ∧ addMulC (z.take (i + 1)) (l.take (i + 1)) m c = (y * m + x + addMulC (z.take i) (l.take i) m c) / WB
  | [], _, _, _, _, _, _, h, _ => by simp at h
  | _ :: _, [], _, _, _, _, _, _, h => by simp at h
  | z :: zs, q :: l, m, c, 0, x, y, h, h' => by simp at h h'; subst h; subst h'; simp [addMulW, addMulC]
  | z :: zs, q :: l, m, c, i + 1, x, y, h, h' => by
    have := addMul_step (z := zs) (l := l) (m := m) (c := (q * m + z + c) / WB) (i := i) (x := x) (y := y) (by simpa using h) (by simpa using h')
    simp only [List.take_succ_cons, addMulW, addMulC, List.cons_append]
    exact ⟨by rw [this.1], this.2⟩
theorem putL_zero (ws zs : List Nat) : putL ws 0 zs = zs ++ ws.drop zs.length := by simp [putL]
theorem putL_in {ws zs us : List Nat} {i : Nat} (h : i + us.length ≤ zs.length) : putL (putL ws 0 zs) i us = putL ws 0 (putL zs i us) := by
  rw [putL_zero, putL_zero, putL_length h]
  unfold putL
  rw [List.take_append_of_le_length (by omega), List.drop_append_of_le_length h]
  simp
theorem part_in {ws zs : List Nat} {i n : Nat} (h : i + n ≤ zs.length) : ((putL ws 0 zs).drop i).take n = (zs.drop i).take n := by
  rw [putL_zero, List.drop_append_of_le_length (by omega), List.take_append_of_le_length (by simp; omega)]
theorem putL0_ok {ws zs : List Nat} (h1 : okW ws) (h2 : okW zs) : okW (putL ws 0 zs) := putL_ok 0 h1 h2
theorem prod_lt {xs ys : List Nat} (hx : okW xs) (hy : okW ys) : val xs * val ys < WB ^ (xs.length + ys.length) := by
  have h1 := val_lt hx
  have h2 := val_lt hy
  rw [Nat.pow_add]
  exact Nat.mul_lt_mul'' h1 h2
theorem part0 {ws us : List Nat} {k : Nat} (h : us.length = k) : ((putL ws 0 us).drop 0).take k = us := by
  rw [List.drop_zero, putL_zero, List.take_append_of_le_length (by omega), List.take_of_length_le (by omega)]
theorem dig_wlen (X : Nat) : (wsG (dig X)).length = (dig X).length := wsG_length _
theorem dig_len_pos {X : Nat} (h : X ≠ 0) : 1 ≤ (wsG (dig X)).length := by
  rw [dig_wlen]
  cases hd : dig X with
  | nil => exact absurd (dig_nil hd) h
  | cons a l => simp
theorem dig_one_of {X : Nat} (h : (wsG (dig X)).length = 1) : X < WB ∧ dig X = [X] := by
  rw [dig_wlen] at h
  obtain ⟨d, hd⟩ : ∃ d, dig X = [d] := by
    match hx : dig X, h with
    | [d], _ => exact ⟨d, rfl⟩
  have := val_dig X
  rw [hd] at this
  simp [val] at this
  subst this
  exact ⟨by have := okW_dig d; rw [hd] at this; exact this d (by simp), hd⟩
theorem val_lt_at : ∀ {xs ys : List Nat} {i a b : Nat}, okW xs → okW ys → xs.length = ys.length → xs[i]? = some a → ys[i]? = some b → xs.drop (i + 1) = ys.drop (i + 1) → a < b → val xs < val ys
  | [], _, _, _, _, _, _, _, h, _, _, _ => by simp at h
  | _ :: _, [], _, _, _, _, _, _, _, h, _, _ => by simp at h
  | x :: xs, y :: ys, 0, a, b, hx, hy, hl, ha, hb, hd, h => by
    simp only [List.getElem?_cons_zero, Option.some.injEq] at ha hb
    subst ha hb
    simp only [List.drop_succ_cons, List.drop_zero] at hd
    subst hd
    simp only [val_cons]
    omega
  | x :: xs, y :: ys, i + 1, a, b, hx, hy, hl, ha, hb, hd, h => by
    obtain ⟨hx1, hx2⟩ := okW_cons.1 hx
    obtain ⟨hy1, hy2⟩ := okW_cons.1 hy
    have ih := val_lt_at (i := i) (a := a) (b := b) hx2 hy2 (by simpa using hl) (by simpa using ha) (by simpa using hb) (by simpa using hd) h
    simp only [val_cons]
    have := Nat.mul_le_mul_left WB (Nat.succ_le_of_lt ih)
    rw [Nat.mul_succ] at this
    omega
theorem dig_len_lt {X Y : Nat} (h : (dig X).length < (dig Y).length) : X < Y := by
  have h1 := val_lt (okW_dig X)
  rw [val_dig] at h1
  by_cases hc : Y < WB ^ (dig X).length
  · have := dig_length_le hc; omega
  · omega
end Go.Pure.V

