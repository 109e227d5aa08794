/- A generic layer: values without memory, and code over them. -/
import Derived.Test.YtdicineiaifahaaGreatDoorPureC
import Derived.Test.YtdicineiaifahaaGreatDoorPureJ
/- A generic layer: regions that draw their order: those of the new variables without a store that are named are made at any time. -/
namespace Go.Pure
open Go

def insK (fz : Nat → Option Value) (fs : Nat → Option Nat) (sel : List Nat) (l : List Oper) : Option (Nat × List NV × Oper) := match bareNV fz fs l l 0 with
  | some ss0 => match ss0.filter (fun s => memB sel s.x) with
    | s :: ss => match takerOf s.at_ l 0 with
      | some (d, D) => bif (s :: ss).all (fun s => hasE s.at_ D.after.toList) then some (d, s :: ss, D) else none
      | none => none
    | [] => none
  | none => none
section
variable {P : Program} {N : Nat}
theorem insK_ok {fz : Nat → Option Value} {fs : Nat → Option Nat} (hz : ∀ t z, fz t = some z → zeroB P t = some z) (hs : ∀ t n, fs t = some n → szB P t = some n) {sel K : List Nat} {l : List Oper} {d : Nat} {ss : List NV} {D : Oper} (h : insK fz fs sel l = some (d, ss, D)) (hk : memK K ss = true) :
    l[d]? = some D ∧ ∀ s ∈ ss, NVok P l D K s := by
  unfold insK at h
  split at h
  · rename_i ss1 hb
    split at h
    · rename_i s0 ss0 hf
      split at h
      · rename_i d0 D0 ht
        cases hc : ((s0 :: ss0).all fun s => hasE s.at_ D0.after.toList) with
        | false => rw [hc] at h; cases h
        | true =>
          rw [hc, cond_true] at h
          cases h
          refine ⟨takerOf_ok (fun k => by rw [Nat.zero_add]) ht, fun s hs' => ?_⟩
          have hm : s ∈ ss1 := by
            have : s ∈ ss1.filter (fun s => memB sel s.x) := by rw [hf]; exact hs'
            exact (List.mem_filter.1 this).1
          obtain ⟨h1, h2, h3, h4⟩ := bareNV_ok (fun k => by rw [Nat.zero_add]) hb s hm
          obtain ⟨e, e1, e2, e3⟩ := hasE_ok (List.all_eq_true.1 hc s hs')
          exact ⟨memK_ok hk s hs', h1, ⟨e, by simpa using e1, e2, e3⟩, hz _ _ h2, h3, hs _ _ h4⟩
      · cases h
    · cases h
  · cases h
theorem PW_insK {id : Nat} {l l' : List Oper} {Q : Exit → Env → PH → Prop} {env : Env} {H : PH} {fz : Nat → Option Value} {fs : Nat → Option Nat} (hz : ∀ t z, fz t = some z → zeroB P t = some z) (hs : ∀ t n, fs t = some n → szB P t = some n) (sel K : List Nat) {d : Nat} {ss : List NV} {D : Oper}
    (hb : insK fz fs sel l = some (d, ss, D)) (hl : nrmL (insH d ss D l) = some l') (hk : memK K ss = true) (hm : P.follows .mixedOrders = true) (hd : drawB P K l' = true)
    (h : POpsD P N l'.toArray K (fun env H => Q .normal env H) l' env H) : PW P N (.region id l.toArray true) Q env H := by
  rw [nrmL_eq] at hl
  cases hl
  obtain ⟨h1, h2⟩ := insK_ok hz hs hb hk
  exact PW_draw_ins K h1 h2 hm hd h
end
end Go.Pure


/- A generic layer: a call that looks at one box alone, wherever memory stands, in a region that draws its order. -/
namespace Go.Pure
open Go

section
variable {P : Program} {o : Oper} {ρ : Operand → PV} {H : PH}
theorem PO_call_look {f x : Operand} {ts : Array TypeId} {id : FuncId} {b off : Nat} {cs : List PV} (ho : o.op = .call { callee := .value f, args := #[x], argTypes := ts }) (hf : ρ f = .g (.raw (.func (.func id) #[] #[]))) (he : enterB P id = true) (hx : ρ x = .ptr b 0)
    (hp : PC P id [.ptr 0 0] ⟨[cs], [], []⟩ (.ptr 0 off) ⟨[cs], [], []⟩) (hr : ∀ ι κ ν, renL ι κ ν cs = cs) (hb : H.bx[b]? = some cs) : PO P o ρ H (.ptr b off) H := by
  refine PO_call_at [] ho hf he (ps := [.ptr b 0]) ?_ ?_
  · simp [argsK, hx, pack]
  · refine PC_at hp [b] [] [] rfl ?_ rfl rfl ?_ ?_ ?_
    · simp [pickB, hb, hr]
    · simp [renL, ren, posOf]
    · rw [deepV_eq]
      simp [ren, backOf]
    · rw [deepH_eq]
      obtain ⟨h1, h2⟩ := List.getElem?_eq_some_iff.1 hb
      have hs : H.bx.set b cs = H.bx := by rw [← h2]; exact List.set_getElem_self h1
      simp [back, setAll, hr, hs]
end
theorem Cond_look {P : Program} {K : List Nat} {o : Oper} {env : Env} {H : PH} {v : PV} (hk : frB K o = true) (b : Nat) (hK : memB K (20000 + b) = true) (hKl : Nat.ble 10000 b = false) (h : ∀ H1, H.bx[b]? = H1.bx[b]? → PO P o env.eval H1 v H1) : Cond P K o env H v H :=
  .inl ⟨(frB_tt hk).1, (frB_tt hk).2, .inl ⟨kindK_free hk, rfl, fun H1 hq => h H1 (hq.fix b hK hKl)⟩⟩
end Go.Pure

