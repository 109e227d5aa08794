/- A generic layer: calls that hand boxes and arrays over. -/
import Derived.Test.YtffpepmfdjjjaaaPureV
namespace Go.Pure
open Go

/-- An argument: handed over as it is (with its array), or as what it reads as. -/
def argP (k : Bool) (p : PV) : PV := bif k then p else pack p
def argsK (ρ : Operand → PV) : List Bool → List Operand → List PV
  | _, [] => []
  | [], x :: r => pack (ρ x) :: argsK ρ [] r
  | k :: ks, x :: r => argP k (ρ x) :: argsK ρ ks r
theorem argP_ok {c : Ctx} {k : Bool} {p : PV} {v : Value} (h : RV c p v) : RV c (argP k p) v := by
  cases k with
  | true => exact h
  | false => exact pack_ok h
theorem argsK_length (ρ : Operand → PV) : ∀ (ks : List Bool) (l : List Operand), (argsK ρ ks l).length = l.length
  | _, [] => by simp [argsK]
  | [], x :: r => by simp [argsK, argsK_length ρ [] r]
  | k :: ks, x :: r => by simp [argsK, argsK_length ρ ks r]
theorem argsK_get {c : Ctx} {ρ : Operand → PV} {ρr : Operand → Value} : ∀ (ks : List Bool) (l : List Operand), (∀ x ∈ l, RV c (ρ x) (ρr x)) → ∀ (i : Nat) (p : PV) (x : Operand), (argsK ρ ks l)[i]? = some p → l[i]? = some x → RV c p (ρr x)
  | _, [], _, i, p, x, _, h => by simp at h
  | [], y :: r, hx, i, p, x, hp, h => by
    cases i with
    | zero => simp [argsK] at hp h; subst hp; subst h; exact pack_ok (hx y (by simp))
    | succ i => exact argsK_get [] r (fun z hz => hx z (by simp [hz])) i p x (by simpa [argsK] using hp) (by simpa using h)
  | k :: ks, y :: r, hx, i, p, x, hp, h => by
    cases i with
    | zero => simp [argsK] at hp h; subst hp; subst h; exact argP_ok (hx y (by simp))
    | succ i => exact argsK_get ks r (fun z hz => hx z (by simp [hz])) i p x (by simpa [argsK] using hp) (by simpa using h)

section
variable {P : Program} {o : Oper} {ρ : Operand → PV} {H H' : PH} {v : PV}

/-- A call, over the caller's own boxes and arrays. -/
theorem PO_call_at (ks : List Bool) {f : Operand} {args : Array Operand} {ts : Array TypeId} {id : FuncId} {ps : List PV} (ho : o.op = .call { callee := .value f, args := args, argTypes := ts })
    (hf : ρ f = .g (.raw (.func (.func id) #[] #[]))) (he : enterB P id = true) (ha : argsK ρ ks args.toList = ps) (hp : PC P id ps H v H') : PO P o ρ H v H' := by
  intro c ρr hr hx
  have hops : ∀ x, x = f ∨ x ∈ args.toList → x ∈ o.op.operands.toList := by
    intro x hx
    simp [ho, Op.operands, Call.operands]
    rcases hx with rfl | hx
    · exact .inl rfl
    · exact .inr (by simpa using hx)
  have hf1 := hx f (hops f (.inl rfl))
  rw [hf] at hf1
  have hf2 := RV_raw hf1
  have hrun : (execOp ρr o).run P c.w = .ok (.enter id (args.map ρr)) c.w := by
    simp [execOp, ho, resolve, hf2, Deferred.ofValue, invoke, run_callFunc he]
  unfold OpGoes
  rw [hrun]
  refine (hp c _ hr ⟨by rw [← ha, argsK_length]; simp, fun i p u hp' hu => ?_⟩).mono ?_
  · simp only [Array.getElem?_map, Option.map_eq_some_iff] at hu
    obtain ⟨x, hx1, rfl⟩ := hu
    rw [← ha] at hp'
    exact argsK_get ks args.toList (fun z hz => hx z (hops z (.inr hz))) i p x hp' (by simpa using hx1)
  · rintro e w' ⟨rv, c', rfl, rfl, hr', hE, hv'⟩
    exact ⟨rv, rfl, c', rfl, hr', hE, hv'⟩

/-- A call of a function value that has captured. -/
theorem PO_call_clo (ks : List Bool) {f : Operand} {args : Array Operand} {ts : Array TypeId} {id : FuncId} {first cap ps : List PV} (ho : o.op = .call { callee := .value f, args := args, argTypes := ts })
    (hf : ρ f = .clo (.func id) first cap) (he : enterB P id = true) (ha : first ++ argsK ρ ks args.toList ++ cap = ps) (hp : PC P id ps H v H') : PO P o ρ H v H' := by
  intro c ρr hr hx
  have hops : ∀ x, x = f ∨ x ∈ args.toList → x ∈ o.op.operands.toList := by
    intro x hx
    simp [ho, Op.operands, Call.operands]
    rcases hx with rfl | hx
    · exact .inl rfl
    · exact .inr (by simpa using hx)
  have hf1 := hx f (hops f (.inl rfl))
  rw [hf] at hf1
  generalize hvf : ρr f = vf at hf1
  cases hf1 with
  | clo _ _ _ us vs hl1 hl2 h1 h2 =>
  have hrun : (execOp ρr o).run P c.w = .ok (.enter id (us ++ args.map ρr ++ vs)) c.w := by
    simp [execOp, ho, resolve, hvf, Deferred.ofValue, invoke, run_callFunc he]
  unfold OpGoes
  rw [hrun]
  refine (hp c _ hr ⟨by rw [← ha]; simp [argsK_length, hl1, hl2], fun i p u hp' hu => ?_⟩).mono ?_
  · rw [← ha] at hp'
    by_cases i1 : i < first.length
    · rw [List.append_assoc, List.getElem?_append_left i1] at hp'
      rw [Array.append_assoc, Array.getElem?_append_left (by omega)] at hu
      exact h1 i p u hp' hu
    · by_cases i2 : i < first.length + args.size
      · rw [List.getElem?_append_left (by simp [argsK_length]; omega), List.getElem?_append_right (by omega)] at hp'
        rw [Array.getElem?_append_left (by simp; omega), Array.getElem?_append_right (by omega)] at hu
        simp only [Array.getElem?_map, Option.map_eq_some_iff] at hu
        obtain ⟨x, hx1, rfl⟩ := hu
        exact argsK_get ks args.toList (fun z hz => hx z (hops z (.inr hz))) _ p x hp' (by rw [hl1]; simpa using hx1)
      · rw [List.getElem?_append_right (by simp [argsK_length]; omega)] at hp'
        rw [Array.getElem?_append_right (by simp; omega)] at hu
        refine h2 _ p u hp' ?_
        rw [← hu]
        congr 1
        simp [argsK_length]; omega
  · rintro e w' ⟨rv, c', rfl, rfl, hr', hE, hv'⟩
    exact ⟨rv, rfl, c', rfl, hr', hE, hv'⟩

/-- A function value is made. -/
theorem PO_makeFunc {fn : Fn} {first cap : Array Operand} (ho : o.op = .makeFunc fn first cap) : PO P o ρ H (.clo fn (first.toList.map ρ) (cap.toList.map ρ)) H :=
  PO_val fun c ρr hr hx => by
    refine ⟨.func fn (first.map ρr) (cap.map ρr), by simp [execOp, ho, Instr.makeFunc], .clo fn _ _ _ _ (by simp) (by simp) (fun i p u hp hu => ?_) (fun i p u hp hu => ?_)⟩
    · simp only [List.getElem?_map, Array.getElem?_map, Option.map_eq_some_iff] at hp hu
      obtain ⟨x, hx1, rfl⟩ := hp
      obtain ⟨y, hy1, rfl⟩ := hu
      have : x = y := by simpa [hy1] using hx1.symm
      subst this
      exact hx x (by rw [ho]; simp [Op.operands]; exact .inl (by simpa using List.mem_of_getElem? hx1))
    · simp only [List.getElem?_map, Array.getElem?_map, Option.map_eq_some_iff] at hp hu
      obtain ⟨x, hx1, rfl⟩ := hp
      obtain ⟨y, hy1, rfl⟩ := hu
      have : x = y := by simpa [hy1] using hx1.symm
      subst this
      exact hx x (by rw [ho]; simp [Op.operands]; exact .inr (by simpa using List.mem_of_getElem? hx1))
end

/-! ### Only what is handed over -/
mutual
/-- The boxes that a value names. -/
def refB : PV → List Nat
  | .ptr b _ => [b]
  | .clo _ a b => refBL a ++ refBL b
  | .agg cs => refBL cs
  | .tuple cs => refBL cs
  | _ => []
def refBL : List PV → List Nat
  | [] => []
  | p :: r => refB p ++ refBL r
end
def refT : List PV → List Nat
  | [] => []
  | .own _ id :: r => id :: refT r
  | _ :: r => refT r
mutual
/-- What may be written that a value names. -/
def refM : PV → List Nat
  | .mar id _ => [id]
  | .mref id _ _ _ => [id]
  | .mp id => [id]
  | .clo _ a b => refML a ++ refML b
  | .agg cs => refML cs
  | .tuple cs => refML cs
  | _ => []
def refML : List PV → List Nat
  | [] => []
  | p :: r => refM p ++ refML r
end
mutual
/-- The arrays that a value names. -/
def refO : PV → List Nat
  | .own _ id => [id]
  | .clo _ a b => refOL a ++ refOL b
  | .agg cs => refOL cs
  | .tuple cs => refOL cs
  | _ => []
def refOL : List PV → List Nat
  | [] => []
  | p :: r => refO p ++ refOL r
end
def dedup : List Nat → List Nat → List Nat
  | acc, [] => acc
  | acc, x :: r => bif memB acc x then dedup acc r else dedup (acc ++ [x]) r
def nodupB : List Nat → Bool
  | [] => true
  | x :: r => !(memB r x) && nodupB r
theorem nodupB_spec : ∀ {l : List Nat}, nodupB l = true → l.Nodup
  | [], _ => List.nodup_nil
  | x :: r, h => by
    simp only [nodupB, Bool.and_eq_true, Bool.not_eq_true'] at h
    refine List.nodup_cons.2 ⟨fun hm => ?_, nodupB_spec h.2⟩
    rw [memB_iff.2 hm] at h
    cases h.1
def pickB (I J L : List Nat) (bx : List (List PV)) : List Nat → Option (List (List PV))
  | [] => some []
  | i :: r => match bx[i]?, pickB I J L bx r with
    | some cs, some l => some (renL (posOf I) (posOf J) (posOf L) cs :: l)
    | _, _ => none
theorem pickB_spec {I J L : List Nat} {bx : List (List PV)} : ∀ {K : List Nat} {l : List (List PV)}, pickB I J L bx K = some l → l.length = K.length ∧ ∀ (j i : Nat), K[j]? = some i → ∃ cs, bx[i]? = some cs ∧ l[j]? = some (renL (posOf I) (posOf J) (posOf L) cs)
  | [], l, h => by cases h; simp
  | i :: r, l, h => by
    unfold pickB at h
    split at h
    · rename_i cs l' h1 h2
      cases h
      obtain ⟨e1, e2⟩ := pickB_spec h2
      refine ⟨by simp [e1], fun j k hj => ?_⟩
      cases j with
      | zero => simp at hj; subst hj; exact ⟨cs, h1, rfl⟩
      | succ j => simpa using e2 j k (by simpa using hj)
    · cases h
def pickT (tk : List (TypeId × Nat)) : List Nat → Option (List (TypeId × Nat))
  | [] => some []
  | i :: r => match tk[i]?, pickT tk r with
    | some x, some l => some (x :: l)
    | _, _ => none
theorem pickT_spec {tk : List (TypeId × Nat)} : ∀ {K : List Nat} {l : List (TypeId × Nat)}, pickT tk K = some l → l.length = K.length ∧ ∀ (j i : Nat), K[j]? = some i → ∃ x, tk[i]? = some x ∧ l[j]? = some x
  | [], l, h => by cases h; simp
  | i :: r, l, h => by
    unfold pickT at h
    split at h
    · rename_i x l' h1 h2
      cases h
      obtain ⟨e1, e2⟩ := pickT_spec h2
      refine ⟨by simp [e1], fun j k hj => ?_⟩
      cases j with
      | zero => simp at hj; subst hj; exact ⟨x, h1, rfl⟩
      | succ j => simpa using e2 j k (by simpa using hj)
    · cases h

mutual
/-- Laid open, all of it. -/
def deepV : PV → Option PV
  | .g x => some (.g x)
  | .own es id => match litO id with | some id' => some (.own es id') | none => none
  | .ptr b off => match litO b with
    | some b' => match litO off with | some off' => some (.ptr b' off') | none => none
    | none => none
  | .nilp => some .nilp
  | .nils => some .nils
  | .pat cs => some (.pat cs)
  | .clo f a b => match deepL a with
    | some a' => match deepL b with | some b' => some (.clo f a' b') | none => none
    | none => none
  | .agg cs => match deepL cs with | some cs' => some (.agg cs') | none => none
  | .tuple cs => match deepL cs with | some cs' => some (.tuple cs') | none => none
  | .mar id n => match litO id with | some id' => some (.mar id' n) | none => none
  | .mref id n i off => match litO id with
    | some id' => match litO off with | some off' => some (.mref id' n i off') | none => none
    | none => none
  | .mp id => match litO id with | some id' => some (.mp id') | none => none
  | .any => some .any
def deepL : List PV → Option (List PV)
  | [] => some []
  | p :: r => match deepV p with
    | some p' => match deepL r with | some r' => some (p' :: r') | none => none
    | none => none
end
mutual
theorem deepV_eq : ∀ p : PV, deepV p = some p
  | .g x => by simp [deepV]
  | .own es id => by simp [deepV, litO_eq]
  | .ptr b off => by simp [deepV, litO_eq]
  | .nilp => by simp [deepV]
  | .nils => by simp [deepV]
  | .pat cs => by simp [deepV]
  | .clo f a b => by simp [deepV, deepL_eq a, deepL_eq b]
  | .agg cs => by simp [deepV, deepL_eq cs]
  | .tuple cs => by simp [deepV, deepL_eq cs]
  | .mar id n => by simp [deepV, litO_eq]
  | .mref id n i off => by simp [deepV, litO_eq]
  | .mp id => by simp [deepV, litO_eq]
  | .any => by simp [deepV]
theorem deepL_eq : ∀ l : List PV, deepL l = some l
  | [] => by simp [deepL]
  | p :: r => by simp [deepL, deepV_eq p, deepL_eq r]
end
def deepB : List (List PV) → Option (List (List PV))
  | [] => some []
  | l :: r => match deepL l with
    | some l' => match deepB r with | some r' => some (l' :: r') | none => none
    | none => none
theorem deepB_eq : ∀ l, deepB l = some l
  | [] => rfl
  | l :: r => by simp [deepB, deepL_eq l, deepB_eq r]
def deepT : List (TypeId × Nat) → Option (List (TypeId × Nat))
  | [] => some []
  | (e, n) :: r => match deepT r with | some r' => some ((e, n) :: r') | none => none
theorem deepT_eq : ∀ l, deepT l = some l
  | [] => rfl
  | (e, n) :: r => by simp [deepT, deepT_eq r]
def deepM : List MO → Option (List MO)
  | [] => some []
  | o :: r => match deepM r with | some r' => some (o :: r') | none => none
theorem deepM_eq : ∀ l, deepM l = some l
  | [] => rfl
  | o :: r => by simp [deepM, deepM_eq r]
def deepH : PH → Option PH
  | ⟨bx, tk, mu⟩ => match deepB bx with
    | some bx' => match deepT tk with
      | some tk' => match deepM mu with | some mu' => some ⟨bx', tk', mu'⟩ | none => none
      | none => none
    | none => none
theorem deepH_eq (H : PH) : deepH H = some H := by simp [deepH, deepB_eq, deepT_eq, deepM_eq]
def pickM (mu : List MO) : List Nat → Option (List MO)
  | [] => some []
  | i :: r => match mu[i]?, pickM mu r with
    | some x, some l => some (x :: l)
    | _, _ => none
theorem pickM_spec {mu : List MO} : ∀ {K : List Nat} {l : List MO}, pickM mu K = some l → l.length = K.length ∧ ∀ (j i : Nat), K[j]? = some i → ∃ x, mu[i]? = some x ∧ l[j]? = some x
  | [], l, h => by cases h; simp
  | i :: r, l, h => by
    unfold pickM at h
    split at h
    · rename_i x l' h1 h2
      cases h
      obtain ⟨e1, e2⟩ := pickM_spec h2
      refine ⟨by simp [e1], fun j k hj => ?_⟩
      cases j with
      | zero => simp at hj; subst hj; exact ⟨x, h1, rfl⟩
      | succ j => simpa using e2 j k (by simpa using hj)
    · cases h
/-- All that is reached from some values through boxes: boxes, arrays, what may be written. -/
def reachB (bx : List (List PV)) : Nat → List Nat → List Nat → List Nat
  | 0, _, acc => acc
  | _ + 1, [], acc => acc
  | n + 1, b :: r, acc => bif memB acc b then reachB bx n r acc else
    match bx[b]? with
    | some cs => reachB bx n (r ++ refBL cs) (acc ++ [b])
    | none => acc
def boxesOf (bx : List (List PV)) : List Nat → List PV
  | [] => []
  | b :: r => match bx[b]? with
    | some cs => cs ++ boxesOf bx r
    | none => boxesOf bx r

section
variable {P : Program} {o : Oper} {ρ : Operand → PV} {H H' : PH} {v v' : PV}

theorem PC_at {id : FuncId} {qs ps : List PV} {H0 H1 : PH} {v1 : PV} (hp : PC P id ps H0 v1 H1) (I J L : List Nat) (hn : (nodupB I && nodupB J && nodupB L) = true) (hb : pickB I J L H.bx I = some H0.bx) (ht : pickT H.tk J = some H0.tk) (hm : pickM H.mu L = some H0.mu)
    (ha : renL (posOf I) (posOf J) (posOf L) qs = ps) (hv : deepV (ren (backOf I H.bx.length) (backOf J H.tk.length) (backOf L H.mu.length) v1) = some v') (hH : deepH (back I J L H H1) = some H') : PC P id qs H v' H' := by
  rw [deepV_eq] at hv
  rw [deepH_eq] at hH
  cases hv
  cases hH
  simp only [Bool.and_eq_true] at hn
  obtain ⟨b1, b2⟩ := pickB_spec hb
  obtain ⟨t1, t2⟩ := pickT_spec ht
  obtain ⟨m1, m2⟩ := pickM_spec hm
  exact PC_frame hp (nodupB_spec hn.1.1) (nodupB_spec hn.1.2) (nodupB_spec hn.2) b1 b2 t1 t2 m1 m2 ha

/-- A call that hands over what its arguments name. -/
theorem call_box (ks : List Bool) {f : Operand} {args : Array Operand} {ts : Array TypeId} {id : FuncId} {qs ps : List PV} {H0 H1 : PH} {v1 : PV} {I J L : List Nat} (ho : o.op = .call { callee := .value f, args := args, argTypes := ts })
    (hf : ρ f = .g (.raw (.func (.func id) #[] #[]))) (he : enterB P id = true) (hp : PC P id ps H0 v1 H1) (hq : deepL (argsK ρ ks args.toList) = some qs) (hI : dedup [] (refBL qs) = I) (hJ : refT qs = J) (hL : dedup [] (refML qs) = L) (hn : (nodupB I && nodupB J && nodupB L) = true)
    (hb : pickB I J L H.bx I = some H0.bx) (ht : pickT H.tk J = some H0.tk) (hm : pickM H.mu L = some H0.mu) (ha : renL (posOf I) (posOf J) (posOf L) qs = ps) (hv : deepV (ren (backOf I H.bx.length) (backOf J H.tk.length) (backOf L H.mu.length) v1) = some v') (hH : deepH (back I J L H H1) = some H') :
    PO P o ρ H v' H' := by
  rw [deepL_eq] at hq
  exact PO_call_at ks ho hf he (Option.some.inj hq) (PC_at hp I J L hn hb ht hm ha hv hH)
theorem call_clo (ks : List Bool) {f : Operand} {args : Array Operand} {ts : Array TypeId} {id : FuncId} {first cap qs ps : List PV} {H0 H1 : PH} {v1 : PV} {I J L : List Nat} (ho : o.op = .call { callee := .value f, args := args, argTypes := ts })
    (hf : ρ f = .clo (.func id) first cap) (he : enterB P id = true) (hp : PC P id ps H0 v1 H1) (hq : deepL (first ++ argsK ρ ks args.toList ++ cap) = some qs) (hI : dedup [] (refBL qs) = I) (hJ : refT qs = J) (hL : dedup [] (refML qs) = L) (hn : (nodupB I && nodupB J && nodupB L) = true)
    (hb : pickB I J L H.bx I = some H0.bx) (ht : pickT H.tk J = some H0.tk) (hm : pickM H.mu L = some H0.mu) (ha : renL (posOf I) (posOf J) (posOf L) qs = ps) (hv : deepV (ren (backOf I H.bx.length) (backOf J H.tk.length) (backOf L H.mu.length) v1) = some v') (hH : deepH (back I J L H H1) = some H') :
    PO P o ρ H v' H' := by
  rw [deepL_eq] at hq
  exact PO_call_clo ks ho hf he (Option.some.inj hq) (PC_at hp I J L hn hb ht hm ha hv hH)

/-- A call that hands over all that is reached from its arguments. -/
theorem call_deep (ks : List Bool) {f : Operand} {args : Array Operand} {ts : Array TypeId} {id : FuncId} {qs ps : List PV} {H0 H1 : PH} {v1 : PV} {I J L : List Nat} (ho : o.op = .call { callee := .value f, args := args, argTypes := ts })
    (hf : ρ f = .g (.raw (.func (.func id) #[] #[]))) (he : enterB P id = true) (hp : PC P id ps H0 v1 H1) (hq : deepL (argsK ρ ks args.toList) = some qs) (hI : reachB H.bx 40 (refBL qs) [] = I) (hJ : dedup [] (refOL qs ++ refOL (boxesOf H.bx I)) = J) (hL : dedup [] (refML qs ++ refML (boxesOf H.bx I)) = L) (hn : (nodupB I && nodupB J && nodupB L) = true)
    (hb : pickB I J L H.bx I = some H0.bx) (ht : pickT H.tk J = some H0.tk) (hm : pickM H.mu L = some H0.mu) (ha : renL (posOf I) (posOf J) (posOf L) qs = ps) (hv : deepV (ren (backOf I H.bx.length) (backOf J H.tk.length) (backOf L H.mu.length) v1) = some v') (hH : deepH (back I J L H H1) = some H') :
    PO P o ρ H v' H' := by
  rw [deepL_eq] at hq
  exact PO_call_at ks ho hf he (Option.some.inj hq) (PC_at hp I J L hn hb ht hm ha hv hH)
theorem call_cdeep (ks : List Bool) {f : Operand} {args : Array Operand} {ts : Array TypeId} {id : FuncId} {first cap qs ps : List PV} {H0 H1 : PH} {v1 : PV} {I J L : List Nat} (ho : o.op = .call { callee := .value f, args := args, argTypes := ts })
    (hf : ρ f = .clo (.func id) first cap) (he : enterB P id = true) (hp : PC P id ps H0 v1 H1) (hq : deepL (first ++ argsK ρ ks args.toList ++ cap) = some qs) (hI : reachB H.bx 40 (refBL qs) [] = I) (hJ : dedup [] (refOL qs ++ refOL (boxesOf H.bx I)) = J) (hL : dedup [] (refML qs ++ refML (boxesOf H.bx I)) = L) (hn : (nodupB I && nodupB J && nodupB L) = true)
    (hb : pickB I J L H.bx I = some H0.bx) (ht : pickT H.tk J = some H0.tk) (hm : pickM H.mu L = some H0.mu) (ha : renL (posOf I) (posOf J) (posOf L) qs = ps) (hv : deepV (ren (backOf I H.bx.length) (backOf J H.tk.length) (backOf L H.mu.length) v1) = some v') (hH : deepH (back I J L H H1) = some H') :
    PO P o ρ H v' H' := by
  rw [deepL_eq] at hq
  exact PO_call_clo ks ho hf he (Option.some.inj hq) (PC_at hp I J L hn hb ht hm ha hv hH)
end
end Go.Pure
