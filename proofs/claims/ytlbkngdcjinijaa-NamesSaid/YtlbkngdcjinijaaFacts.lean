/- What the program says of its types and functions: tables, held against the program by the kernel. Printed by wip/tools/gen_facts.py. -/
import Derived.Test.YtlbkngdcjinijaaRows
import Derived.Test.YtlbkngdcjinijaaPureN
namespace Go.Proofs.Ytlbkngdcjinijaa
open Go.Pure

def agL : List (Nat × Bool) := [(0, false), (1, false), (2, false), (3, false), (4, false), (5, false), (6, false), (7, true), (8, true), (9, false), (10, false), (11, false), (12, false), (13, true), (14, true), (15, false), (16, false), (17, false), (18, true), (19, true), (20, false), (21, false), (22, true), (23, true), (24, false), (25, true), (26, true), (27, false), (28, false), (29, false), (30, false), (31, false), (32, false), (33, false), (34, true), (35, true), (36, false), (37, false), (38, false), (39, false), (40, false), (41, false), (42, false), (43, false), (44, false), (45, false), (46, false), (47, false), (48, false), (49, false), (50, false), (51, false), (52, false), (53, false), (54, false), (55, false), (56, false), (57, false), (58, false), (59, false), (60, true), (61, true), (62, true), (63, true), (64, true), (65, false), (66, false), (67, false), (68, false), (69, false), (70, false), (71, false), (72, false), (73, true), (74, true), (75, false)]
def szL : List (Nat × Nat) := [(0, 1), (1, 1), (2, 1), (3, 1), (4, 1), (5, 1), (6, 1), (7, 4), (8, 4), (9, 1), (10, 1), (11, 1), (12, 1), (13, 2), (14, 2), (15, 1), (16, 1), (17, 1), (18, 1), (19, 1), (20, 1), (21, 1), (22, 2), (23, 2), (24, 1), (25, 6), (26, 6), (27, 1), (28, 1), (29, 1), (30, 1), (31, 1), (32, 1), (33, 1), (34, 2), (35, 2), (36, 1), (37, 1), (38, 1), (39, 1), (40, 1), (41, 1), (42, 1), (43, 1), (44, 1), (45, 1), (46, 1), (47, 1), (48, 1), (49, 1), (50, 1), (51, 1), (52, 1), (53, 1), (54, 1), (55, 1), (56, 1), (57, 1), (58, 1), (59, 1), (60, 4), (61, 4), (62, 0), (63, 0), (64, 0), (65, 1), (66, 1), (67, 1), (68, 1), (69, 1), (70, 1), (71, 1), (72, 1), (73, 11), (74, 11), (75, 1)]
def fdL : List ((Nat × Nat) × (Nat × Nat)) := [((7, 0), (0, 2)), ((7, 1), (1, 3)), ((7, 2), (2, 4)), ((7, 3), (3, 6)), ((8, 0), (0, 2)), ((8, 1), (1, 3)), ((8, 2), (2, 4)), ((8, 3), (3, 6)), ((13, 0), (0, 9)), ((13, 1), (1, 12)), ((14, 0), (0, 9)), ((14, 1), (1, 12)), ((18, 0), (0, 17)), ((19, 0), (0, 17)), ((22, 0), (0, 2)), ((22, 1), (1, 3)), ((23, 0), (0, 2)), ((23, 1), (1, 3)), ((25, 0), (0, 3)), ((25, 1), (1, 4)), ((25, 2), (2, 23)), ((25, 3), (4, 9)), ((25, 4), (5, 24)), ((26, 0), (0, 3)), ((26, 1), (1, 4)), ((26, 2), (2, 23)), ((26, 3), (4, 9)), ((26, 4), (5, 24)), ((34, 0), (0, 3)), ((34, 1), (1, 33)), ((35, 0), (0, 3)), ((35, 1), (1, 33)), ((60, 0), (0, 17)), ((60, 1), (1, 17)), ((60, 2), (2, 17)), ((60, 3), (3, 9)), ((61, 0), (0, 17)), ((61, 1), (1, 17)), ((61, 2), (2, 17)), ((61, 3), (3, 9)), ((73, 0), (0, 12)), ((73, 1), (1, 12)), ((73, 2), (2, 66)), ((73, 3), (3, 67)), ((73, 4), (4, 5)), ((73, 5), (5, 5)), ((73, 6), (6, 68)), ((73, 7), (7, 69)), ((73, 8), (8, 70)), ((73, 9), (9, 71)), ((73, 10), (10, 72)), ((74, 0), (0, 12)), ((74, 1), (1, 12)), ((74, 2), (2, 66)), ((74, 3), (3, 67)), ((74, 4), (4, 5)), ((74, 5), (5, 5)), ((74, 6), (6, 68)), ((74, 7), (7, 69)), ((74, 8), (8, 70)), ((74, 9), (9, 71)), ((74, 10), (10, 72))]
def elL : List (Nat × Nat) := [(24, 26), (33, 35), (48, 36), (49, 3)]
def boL : List Nat := [4]
def stL : List Nat := [9, 10, 11]
def enL : List Nat := [3, 4, 5, 6, 7, 8, 9, 10, 11, 12, 13, 14, 15, 16, 17, 18, 19, 20, 21, 22, 23, 24, 25, 26, 27, 28, 29, 30, 31, 32]

def lkN {α : Type} : List (Nat × α) → Nat → Option α
  | [], _ => none
  | (k, a) :: r, t => bif Nat.beq t k then some a else lkN r t
def lkM : List ((Nat × Nat) × (Nat × Nat)) → Nat → Nat → Option (Nat × Nat)
  | [], _, _ => none
  | ((k, j), a) :: r, t, i => bif Nat.beq t k && Nat.beq i j then some a else lkM r t i
def inN : List Nat → Nat → Bool
  | [], _ => false
  | k :: r, t => bif Nat.beq t k then true else inN r t
theorem lkN_mem {α : Type} : ∀ {l : List (Nat × α)} {t : Nat} {a : α}, lkN l t = some a → (t, a) ∈ l
  | [], _, _, h => by cases h
  | (k, b) :: r, t, a, h => by
    unfold lkN at h
    cases e : Nat.beq t k with
    | true => rw [e, cond_true] at h; cases h; rw [Nat.eq_of_beq_eq_true e]; exact List.mem_cons_self
    | false => rw [e, cond_false] at h; exact List.mem_cons_of_mem _ (lkN_mem h)
theorem lkM_mem : ∀ {l : List ((Nat × Nat) × (Nat × Nat))} {t i : Nat} {a : Nat × Nat}, lkM l t i = some a → ((t, i), a) ∈ l
  | [], _, _, _, h => by cases h
  | ((k, j), b) :: r, t, i, a, h => by
    unfold lkM at h
    cases e : (Nat.beq t k && Nat.beq i j) with
    | true =>
      rw [e, cond_true] at h; cases h
      simp only [Bool.and_eq_true] at e
      rw [Nat.eq_of_beq_eq_true e.1, Nat.eq_of_beq_eq_true e.2]; exact List.mem_cons_self
    | false => rw [e, cond_false] at h; exact List.mem_cons_of_mem _ (lkM_mem h)
theorem inN_mem : ∀ {l : List Nat} {t : Nat}, inN l t = true → t ∈ l
  | [], _, h => by cases h
  | k :: r, t, h => by
    unfold inN at h
    cases e : Nat.beq t k with
    | true => rw [Nat.eq_of_beq_eq_true e]; exact List.mem_cons_self
    | false => rw [e, cond_false] at h; exact List.mem_cons_of_mem _ (inN_mem h)

theorem ag_all : (agL.all fun p => aggB Try.prog p.1 == some p.2) = true := by kernel_rfl
theorem sz_all : (szL.all fun p => szB Try.prog p.1 == some p.2) = true := by kernel_rfl
theorem fd_all : (fdL.all fun p => fieldB Try.prog p.1.1 p.1.2 == some p.2) = true := by kernel_rfl
def uSl (d : Option TypeDesc) : Option Nat := match d with | some (.slice e) => some e | _ => none
def uBo (d : Option TypeDesc) : Bool := match d with | some .bool => true | _ => false
def uSt (d : Option TypeDesc) : Bool := match d with | some .string => true | _ => false
theorem el_all : (elL.all fun p => uSl (Try.prog.underlying p.1) == some p.2) = true := by kernel_rfl
theorem bo_all : (boL.all fun p => uBo (Try.prog.underlying p)) = true := by kernel_rfl
theorem st_all : (stL.all fun p => uSt (Try.prog.underlying p)) = true := by kernel_rfl
theorem en_all : (enL.all fun p => enterB Try.prog p) = true := by kernel_rfl

theorem AG {t : Nat} {b : Bool} (h : lkN agL t = some b) : aggB Try.prog t = some b := by
  simpa using List.all_eq_true.1 ag_all _ (lkN_mem h)
theorem SZ {t n : Nat} (h : lkN szL t = some n) : szB Try.prog t = some n := by
  simpa using List.all_eq_true.1 sz_all _ (lkN_mem h)
theorem FD {t k d ft : Nat} (h : lkM fdL t k = some (d, ft)) : fieldB Try.prog t k = some (d, ft) := by
  simpa using List.all_eq_true.1 fd_all _ (lkM_mem h)
theorem EL {t e : Nat} (h : lkN elL t = some e) : Try.prog.underlying t = some (.slice e) := by
  have h1 : uSl (Try.prog.underlying t) = some e := by simpa using List.all_eq_true.1 el_all _ (lkN_mem h)
  unfold uSl at h1
  split at h1
  · rename_i e' he; cases h1; exact he
  · cases h1
theorem BO {t : Nat} (h : inN boL t = true) : Try.prog.underlying t = some .bool := by
  have h1 := List.all_eq_true.1 bo_all _ (inN_mem h)
  unfold uBo at h1
  split at h1
  · assumption
  · cases h1
theorem ST {t : Nat} (h : inN stL t = true) : Try.prog.underlying t = some .string := by
  have h1 := List.all_eq_true.1 st_all _ (inN_mem h)
  unfold uSt at h1
  split at h1
  · assumption
  · cases h1
theorem EN {f : Nat} (h : inN enL f = true) : enterB Try.prog f = true := List.all_eq_true.1 en_all _ (inN_mem h)

theorem Z2 : zeroB Try.prog 2 = some (.int .i64 0) := by kernel_rfl
theorem Z3 : zeroB Try.prog 3 = some (.int .i64 0) := by kernel_rfl
theorem Z4 : zeroB Try.prog 4 = some (.bool false) := by kernel_rfl
theorem Z5 : zeroB Try.prog 5 = some (.int .u8 0) := by kernel_rfl
theorem Z6 : zeroB Try.prog 6 = some (.int .u8 0) := by kernel_rfl
theorem Z7 : zeroB Try.prog 7 = some (.agg #[.int .i64 0, .int .i64 0, .bool false, .int .u8 0]) := by kernel_rfl
theorem Z8 : zeroB Try.prog 8 = some (.agg #[.int .i64 0, .int .i64 0, .bool false, .int .u8 0]) := by kernel_rfl
theorem Z9 : zeroB Try.prog 9 = some (.string ⟨#[]⟩) := by kernel_rfl
theorem Z10 : zeroB Try.prog 10 = some (.string ⟨#[]⟩) := by kernel_rfl
theorem Z11 : zeroB Try.prog 11 = some (.string ⟨#[]⟩) := by kernel_rfl
theorem Z12 : zeroB Try.prog 12 = some (.int .u64 0) := by kernel_rfl
theorem Z13 : zeroB Try.prog 13 = some (.agg #[.string ⟨#[]⟩, .int .u64 0]) := by kernel_rfl
theorem Z14 : zeroB Try.prog 14 = some (.agg #[.string ⟨#[]⟩, .int .u64 0]) := by kernel_rfl
theorem Z15 : zeroB Try.prog 15 = some (.pointer none) := by kernel_rfl
theorem Z16 : zeroB Try.prog 16 = some (.pointer none) := by kernel_rfl
theorem Z17 : zeroB Try.prog 17 = some (.pointer none) := by kernel_rfl
theorem Z18 : zeroB Try.prog 18 = some (.agg #[.pointer none]) := by kernel_rfl
theorem Z19 : zeroB Try.prog 19 = some (.agg #[.pointer none]) := by kernel_rfl
theorem Z21 : zeroB Try.prog 21 = some (.int .i32 0) := by kernel_rfl
theorem Z22 : zeroB Try.prog 22 = some (.agg #[.int .i64 0, .int .i64 0]) := by kernel_rfl
theorem Z23 : zeroB Try.prog 23 = some (.agg #[.int .i64 0, .int .i64 0]) := by kernel_rfl
theorem Z24 : zeroB Try.prog 24 = some (.slice none 0 0) := by kernel_rfl
theorem Z25 : zeroB Try.prog 25 = some (.agg #[.int .i64 0, .bool false, .int .i64 0, .int .i64 0, .string ⟨#[]⟩, .slice none 0 0]) := by kernel_rfl
theorem Z26 : zeroB Try.prog 26 = some (.agg #[.int .i64 0, .bool false, .int .i64 0, .int .i64 0, .string ⟨#[]⟩, .slice none 0 0]) := by kernel_rfl
theorem Z33 : zeroB Try.prog 33 = some (.slice none 0 0) := by kernel_rfl
theorem Z34 : zeroB Try.prog 34 = some (.agg #[.int .i64 0, .slice none 0 0]) := by kernel_rfl
theorem Z35 : zeroB Try.prog 35 = some (.agg #[.int .i64 0, .slice none 0 0]) := by kernel_rfl
theorem Z36 : zeroB Try.prog 36 = some (.int .i64 0) := by kernel_rfl
theorem Z48 : zeroB Try.prog 48 = some (.slice none 0 0) := by kernel_rfl
theorem Z49 : zeroB Try.prog 49 = some (.slice none 0 0) := by kernel_rfl
theorem Z55 : zeroB Try.prog 55 = some (.map none) := by kernel_rfl
theorem Z56 : zeroB Try.prog 56 = some (.map none) := by kernel_rfl
theorem Z60 : zeroB Try.prog 60 = some (.agg #[.pointer none, .pointer none, .pointer none, .string ⟨#[]⟩]) := by kernel_rfl
theorem Z61 : zeroB Try.prog 61 = some (.agg #[.pointer none, .pointer none, .pointer none, .string ⟨#[]⟩]) := by kernel_rfl
theorem Z62 : zeroB Try.prog 62 = some (.agg #[]) := by kernel_rfl
theorem Z63 : zeroB Try.prog 63 = some (.agg #[]) := by kernel_rfl
theorem Z64 : zeroB Try.prog 64 = some (.agg #[]) := by kernel_rfl
theorem Z66 : zeroB Try.prog 66 = some (.int .u32 0) := by kernel_rfl
theorem Z67 : zeroB Try.prog 67 = some (.int .u8 0) := by kernel_rfl
theorem Z68 : zeroB Try.prog 68 = some (.int .u8 0) := by kernel_rfl
theorem Z70 : zeroB Try.prog 70 = some (.pointer none) := by kernel_rfl
theorem Z71 : zeroB Try.prog 71 = some (.int .i32 0) := by kernel_rfl
theorem Z72 : zeroB Try.prog 72 = some (.int .i32 0) := by kernel_rfl
theorem Z73 : zeroB Try.prog 73 = some (.agg #[.int .u64 0, .int .u64 0, .int .u32 0, .int .u8 0, .int .u8 0, .int .u8 0, .int .u8 0, .nilFunc, .pointer none, .int .i32 0, .int .i32 0]) := by kernel_rfl
theorem Z74 : zeroB Try.prog 74 = some (.agg #[.int .u64 0, .int .u64 0, .int .u32 0, .int .u8 0, .int .u8 0, .int .u8 0, .int .u8 0, .nilFunc, .pointer none, .int .i32 0, .int .i32 0]) := by kernel_rfl
theorem Z75 : zeroB Try.prog 75 = some (.pointer none) := by kernel_rfl
def zrL : List (Nat × Value) := [(2, .int .i64 0), (3, .int .i64 0), (4, .bool false), (5, .int .u8 0), (6, .int .u8 0), (7, .agg #[.int .i64 0, .int .i64 0, .bool false, .int .u8 0]), (8, .agg #[.int .i64 0, .int .i64 0, .bool false, .int .u8 0]), (9, .string ⟨#[]⟩), (10, .string ⟨#[]⟩), (11, .string ⟨#[]⟩), (12, .int .u64 0), (13, .agg #[.string ⟨#[]⟩, .int .u64 0]), (14, .agg #[.string ⟨#[]⟩, .int .u64 0]), (15, .pointer none), (16, .pointer none), (17, .pointer none), (18, .agg #[.pointer none]), (19, .agg #[.pointer none]), (21, .int .i32 0), (22, .agg #[.int .i64 0, .int .i64 0]), (23, .agg #[.int .i64 0, .int .i64 0]), (24, .slice none 0 0), (25, .agg #[.int .i64 0, .bool false, .int .i64 0, .int .i64 0, .string ⟨#[]⟩, .slice none 0 0]), (26, .agg #[.int .i64 0, .bool false, .int .i64 0, .int .i64 0, .string ⟨#[]⟩, .slice none 0 0]), (33, .slice none 0 0), (34, .agg #[.int .i64 0, .slice none 0 0]), (35, .agg #[.int .i64 0, .slice none 0 0]), (36, .int .i64 0), (48, .slice none 0 0), (49, .slice none 0 0), (55, .map none), (56, .map none), (60, .agg #[.pointer none, .pointer none, .pointer none, .string ⟨#[]⟩]), (61, .agg #[.pointer none, .pointer none, .pointer none, .string ⟨#[]⟩]), (62, .agg #[]), (63, .agg #[]), (64, .agg #[]), (66, .int .u32 0), (67, .int .u8 0), (68, .int .u8 0), (70, .pointer none), (71, .int .i32 0), (72, .int .i32 0), (73, .agg #[.int .u64 0, .int .u64 0, .int .u32 0, .int .u8 0, .int .u8 0, .int .u8 0, .int .u8 0, .nilFunc, .pointer none, .int .i32 0, .int .i32 0]), (74, .agg #[.int .u64 0, .int .u64 0, .int .u32 0, .int .u8 0, .int .u8 0, .int .u8 0, .int .u8 0, .nilFunc, .pointer none, .int .i32 0, .int .i32 0]), (75, .pointer none)]
def AllP {α : Type} (Q : α → Prop) : List α → Prop
  | [] => True
  | a :: r => Q a ∧ AllP Q r
theorem AllP.mem {α : Type} {Q : α → Prop} : ∀ {l : List α}, AllP Q l → ∀ a ∈ l, Q a
  | [], _, a, h => by cases h
  | b :: r, h, a, ha => by
    rcases List.mem_cons.1 ha with rfl | ha
    · exact h.1
    · exact AllP.mem h.2 a ha
theorem zr_all : AllP (fun p : Nat × Value => zeroB Try.prog p.1 = some p.2) zrL := ⟨Z2, Z3, Z4, Z5, Z6, Z7, Z8, Z9, Z10, Z11, Z12, Z13, Z14, Z15, Z16, Z17, Z18, Z19, Z21, Z22, Z23, Z24, Z25, Z26, Z33, Z34, Z35, Z36, Z48, Z49, Z55, Z56, Z60, Z61, Z62, Z63, Z64, Z66, Z67, Z68, Z70, Z71, Z72, Z73, Z74, Z75, trivial⟩
theorem ZR {t : Nat} {z : Value} (h : lkN zrL t = some z) : zeroB Try.prog t = some z := zr_all.mem _ (lkN_mem h)
def plL : List (Nat × List (Nat × Nat)) := [(7, [(0, 1), (1, 1), (2, 1), (3, 1)]), (8, [(0, 1), (1, 1), (2, 1), (3, 1)]), (13, [(0, 1), (1, 1)]), (14, [(0, 1), (1, 1)]), (18, [(0, 1)]), (19, [(0, 1)]), (22, [(0, 1), (1, 1)]), (23, [(0, 1), (1, 1)]), (25, [(0, 1), (1, 1), (2, 2), (4, 1), (5, 1)]), (26, [(0, 1), (1, 1), (2, 2), (4, 1), (5, 1)]), (34, [(0, 1), (1, 1)]), (35, [(0, 1), (1, 1)]), (60, [(0, 1), (1, 1), (2, 1), (3, 1)]), (61, [(0, 1), (1, 1), (2, 1), (3, 1)]), (63, [(0, 0)]), (64, [(0, 0)]), (73, [(0, 1), (1, 1), (2, 1), (3, 1), (4, 1), (5, 1), (6, 1), (7, 1), (8, 1), (9, 1), (10, 1)]), (74, [(0, 1), (1, 1), (2, 1), (3, 1), (4, 1), (5, 1), (6, 1), (7, 1), (8, 1), (9, 1), (10, 1)])]
theorem pl_all : (plL.all fun p => placesB Try.prog p.1 == some p.2) = true := by kernel_rfl
theorem PL {t : Nat} {p : List (Nat × Nat)} (h : lkN plL t = some p) : placesB Try.prog t = some p := by
  simpa using List.all_eq_true.1 pl_all _ (lkN_mem h)
def efL : List (Nat × List Nat) := [(22, [0, 1]), (23, [0, 1])]
theorem ef_all : (efL.all fun p => eqfB Try.prog p.1 == some p.2) = true := by kernel_rfl
theorem EF {t : Nat} {l : List Nat} (h : lkN efL t = some l) : eqfB Try.prog t = some l := by
  simpa using List.all_eq_true.1 ef_all _ (lkN_mem h)
theorem mixed : Try.prog.follows .mixedOrders = true := by kernel_rfl
theorem one_all : (zrL.all fun p => p.2.cells.toList.all (·.oneCell')) = true := by kernel_rfl
def tab : Tab := { ag := lkN agL, sz := lkN szL, fd := lkM fdL, el := lkN elL, bo := inN boL, st := inN stL, zr := fun t => match lkN zrL t with | some z => some (z.cells.toList.map constC) | none => none, pl := lkN plL, ef := lkN efL }
theorem tabOk : TabOk Try.prog tab := by
  refine ⟨fun _ _ h => AG h, fun _ _ h => SZ h, fun _ _ _ _ h => FD h, fun _ _ h => EL h, fun _ h => BO h, fun _ h => ST h, fun t cs h => ?_, fun _ _ h => PL h, fun _ _ h => EF h⟩
  simp only [tab] at h
  split at h
  · rename_i z hz
    cases h
    exact ⟨z, ZR hz, List.all_eq_true.1 one_all _ (lkN_mem hz), rfl⟩
  · cases h
end Go.Proofs.Ytlbkngdcjinijaa
