/- What the program's functions compute, each shown once; and plain laws of it. -/
import Derived.Test.YtlibajlfojkohaaDoorRows
import Derived.Test.YtlibajlfojkohaaDoorPureB
/- What the program says of its types and functions: tables, held against the program by the kernel. Printed by wip/tools/gen_facts.py. -/
set_option maxRecDepth 100000
namespace Go.Proofs.YtlibajlfojkohaaDoor
open Go.Pure

def agL : List (Nat × Bool) := [(0, false), (1, false), (2, false), (3, false), (4, false), (5, false), (6, false), (7, true), (8, true), (9, false), (10, false), (11, false), (12, false), (13, true), (14, true), (15, false), (16, false), (17, false), (18, true), (19, true), (20, false), (21, false), (22, true), (23, true), (24, false), (25, true), (26, true), (27, false), (28, false), (29, false), (30, false), (31, false), (32, false), (33, false), (34, true), (35, true), (36, false), (37, false), (38, false), (39, false), (40, false), (41, false), (42, false), (43, false), (44, false), (45, true), (46, true), (47, true), (48, true), (49, false), (50, false), (51, false), (52, true), (53, true), (54, true), (55, true), (56, true), (57, false), (58, false), (59, false), (60, false), (61, false), (62, false), (63, false), (64, false), (65, true), (66, true), (67, false)]
def szL : List (Nat × Nat) := [(0, 1), (1, 1), (2, 1), (3, 1), (4, 1), (5, 1), (6, 1), (7, 4), (8, 4), (9, 1), (10, 1), (11, 1), (12, 1), (13, 2), (14, 2), (15, 1), (16, 1), (17, 1), (18, 1), (19, 1), (20, 1), (21, 1), (22, 2), (23, 2), (24, 1), (25, 6), (26, 6), (27, 1), (28, 1), (29, 1), (30, 1), (31, 1), (32, 1), (33, 1), (34, 1), (35, 1), (36, 1), (37, 1), (38, 1), (39, 1), (40, 1), (41, 1), (42, 1), (43, 1), (44, 1), (45, 256), (46, 2), (47, 2), (48, 32), (49, 1), (50, 1), (51, 1), (52, 4), (53, 4), (54, 0), (55, 0), (56, 0), (57, 1), (58, 1), (59, 1), (60, 1), (61, 1), (62, 1), (63, 1), (64, 1), (65, 11), (66, 11), (67, 1)]
def fdL : List ((Nat × Nat) × (Nat × Nat)) := [((7, 0), (0, 2)), ((7, 1), (1, 3)), ((7, 2), (2, 4)), ((7, 3), (3, 6)), ((8, 0), (0, 2)), ((8, 1), (1, 3)), ((8, 2), (2, 4)), ((8, 3), (3, 6)), ((13, 0), (0, 9)), ((13, 1), (1, 12)), ((14, 0), (0, 9)), ((14, 1), (1, 12)), ((18, 0), (0, 17)), ((19, 0), (0, 17)), ((22, 0), (0, 2)), ((22, 1), (1, 3)), ((23, 0), (0, 2)), ((23, 1), (1, 3)), ((25, 0), (0, 3)), ((25, 1), (1, 4)), ((25, 2), (2, 23)), ((25, 3), (4, 9)), ((25, 4), (5, 24)), ((26, 0), (0, 3)), ((26, 1), (1, 4)), ((26, 2), (2, 23)), ((26, 3), (4, 9)), ((26, 4), (5, 24)), ((34, 0), (0, 3)), ((35, 0), (0, 3)), ((46, 0), (0, 5)), ((46, 1), (1, 5)), ((47, 0), (0, 5)), ((47, 1), (1, 5)), ((52, 0), (0, 17)), ((52, 1), (1, 17)), ((52, 2), (2, 17)), ((52, 3), (3, 9)), ((53, 0), (0, 17)), ((53, 1), (1, 17)), ((53, 2), (2, 17)), ((53, 3), (3, 9)), ((65, 0), (0, 12)), ((65, 1), (1, 12)), ((65, 2), (2, 58)), ((65, 3), (3, 59)), ((65, 4), (4, 5)), ((65, 5), (5, 5)), ((65, 6), (6, 60)), ((65, 7), (7, 61)), ((65, 8), (8, 62)), ((65, 9), (9, 63)), ((65, 10), (10, 64)), ((66, 0), (0, 12)), ((66, 1), (1, 12)), ((66, 2), (2, 58)), ((66, 3), (3, 59)), ((66, 4), (4, 5)), ((66, 5), (5, 5)), ((66, 6), (6, 60)), ((66, 7), (7, 61)), ((66, 8), (8, 62)), ((66, 9), (9, 63)), ((66, 10), (10, 64))]
def elL : List (Nat × Nat) := [(24, 26)]
def boL : List Nat := [4]
def stL : List Nat := [9, 10, 11]
def byL : List (Nat × Nat) := [(0, 0), (1, 8), (2, 8), (3, 8), (4, 1), (5, 1), (6, 1), (7, 24), (8, 24), (9, 16), (10, 16), (11, 16), (12, 8), (13, 24), (14, 24), (15, 8), (16, 8), (17, 8), (18, 8), (19, 8), (20, 16), (21, 4), (22, 16), (23, 16), (24, 24), (25, 72), (26, 72), (27, 8), (28, 8), (29, 8), (30, 8), (31, 8), (32, 8), (33, 8), (34, 8), (35, 8), (36, 8), (37, 8), (38, 8), (39, 8), (40, 8), (41, 8), (42, 8), (43, 8), (44, 8), (45, 256), (46, 2), (47, 2), (48, 32), (49, 8), (50, 8), (51, 8), (52, 40), (53, 40), (54, 0), (55, 0), (56, 0), (57, 8), (58, 4), (59, 1), (60, 1), (61, 8), (62, 8), (63, 4), (64, 4), (65, 48), (66, 48), (67, 8)]
def ikL : List (Nat × IntKind) := [(2, .i64), (3, .i64), (5, .u8), (6, .u8), (12, .u64), (21, .i32), (28, .i64), (49, .u64), (50, .u64), (58, .u32), (59, .u8), (60, .u8), (63, .i32), (64, .i32)]
def enL : List Nat := [3, 4, 5, 6, 7, 8, 9, 10, 11, 12, 13, 14, 15, 16]

def lkN {α : Type} : List (Nat × α) → Nat → Option α
  | [], _ => none
  | (k, a) :: r, t => bif Nat.beq t k then some a else lkN r t
def lkM : List ((Nat × Nat) × (Nat × Nat)) → Nat → Nat → Option (Nat × Nat)
  | [], _, _ => none
  | ((k, j), a) :: r, t, i => bif Nat.beq t k && Nat.beq i j then some a else lkM r t i
def inN : List Nat → Nat → Bool
  | [], _ => false
  | k :: r, t => bif Nat.beq t k then true else inN r t
theorem lkN_mem {α : Type} : ∀ {l : List (Nat × α)} {t : Nat} {a : α}, lkN l t = some a → (t, a) ∈ l
  | [], _, _, h => by cases h
  | (k, b) :: r, t, a, h => by
    unfold lkN at h
    cases e : Nat.beq t k with
    | true => rw [e, cond_true] at h; cases h; rw [Nat.eq_of_beq_eq_true e]; exact List.mem_cons_self
    | false => rw [e, cond_false] at h; exact List.mem_cons_of_mem _ (lkN_mem h)
theorem lkM_mem : ∀ {l : List ((Nat × Nat) × (Nat × Nat))} {t i : Nat} {a : Nat × Nat}, lkM l t i = some a → ((t, i), a) ∈ l
  | [], _, _, _, h => by cases h
  | ((k, j), b) :: r, t, i, a, h => by
    unfold lkM at h
    cases e : (Nat.beq t k && Nat.beq i j) with
    | true =>
      rw [e, cond_true] at h; cases h
      simp only [Bool.and_eq_true] at e
      rw [Nat.eq_of_beq_eq_true e.1, Nat.eq_of_beq_eq_true e.2]; exact List.mem_cons_self
    | false => rw [e, cond_false] at h; exact List.mem_cons_of_mem _ (lkM_mem h)
theorem inN_mem : ∀ {l : List Nat} {t : Nat}, inN l t = true → t ∈ l
  | [], _, h => by cases h
  | k :: r, t, h => by
    unfold inN at h
    cases e : Nat.beq t k with
    | true => rw [Nat.eq_of_beq_eq_true e]; exact List.mem_cons_self
    | false => rw [e, cond_false] at h; exact List.mem_cons_of_mem _ (inN_mem h)

theorem ag_all : (agL.all fun p => aggB Tryd.prog p.1 == some p.2) = true := by kernel_rfl
theorem sz_all : (szL.all fun p => szB Tryd.prog p.1 == some p.2) = true := by kernel_rfl
theorem fd_all : (fdL.all fun p => fieldB Tryd.prog p.1.1 p.1.2 == some p.2) = true := by kernel_rfl
def uSl (d : Option TypeDesc) : Option Nat := match d with | some (.slice e) => some e | _ => none
def uBo (d : Option TypeDesc) : Bool := match d with | some .bool => true | _ => false
def uSt (d : Option TypeDesc) : Bool := match d with | some .string => true | _ => false
theorem el_all : (elL.all fun p => uSl (Tryd.prog.underlying p.1) == some p.2) = true := by kernel_rfl
theorem bo_all : (boL.all fun p => uBo (Tryd.prog.underlying p)) = true := by kernel_rfl
theorem st_all : (stL.all fun p => uSt (Tryd.prog.underlying p)) = true := by kernel_rfl
theorem by_all : (byL.all fun p => bytesB Tryd.prog p.1 == some p.2) = true := by kernel_rfl
theorem ik_all : (ikL.all fun p => match intB Tryd.prog p.1 with | some k => kindEq k p.2 | none => false) = true := by kernel_rfl
theorem en_all : (enL.all fun p => enterB Tryd.prog p) = true := by kernel_rfl

theorem AG {t : Nat} {b : Bool} (h : lkN agL t = some b) : aggB Tryd.prog t = some b := by
  simpa using List.all_eq_true.1 ag_all _ (lkN_mem h)
theorem SZ {t n : Nat} (h : lkN szL t = some n) : szB Tryd.prog t = some n := by
  simpa using List.all_eq_true.1 sz_all _ (lkN_mem h)
theorem BY {t n : Nat} (h : lkN byL t = some n) : bytesB Tryd.prog t = some n := by
  simpa using List.all_eq_true.1 by_all _ (lkN_mem h)
theorem IK {t : Nat} {k : IntKind} (h : lkN ikL t = some k) : intB Tryd.prog t = some k := by
  have h1 := List.all_eq_true.1 ik_all _ (lkN_mem h)
  simp only at h1
  split at h1
  · rename_i k' e; rw [e, kindEq_ok h1]
  · cases h1
theorem FD {t k d ft : Nat} (h : lkM fdL t k = some (d, ft)) : fieldB Tryd.prog t k = some (d, ft) := by
  simpa using List.all_eq_true.1 fd_all _ (lkM_mem h)
theorem EL {t e : Nat} (h : lkN elL t = some e) : Tryd.prog.underlying t = some (.slice e) := by
  have h1 : uSl (Tryd.prog.underlying t) = some e := by simpa using List.all_eq_true.1 el_all _ (lkN_mem h)
  unfold uSl at h1
  split at h1
  · rename_i e' he; cases h1; exact he
  · cases h1
theorem BO {t : Nat} (h : inN boL t = true) : Tryd.prog.underlying t = some .bool := by
  have h1 := List.all_eq_true.1 bo_all _ (inN_mem h)
  unfold uBo at h1
  split at h1
  · assumption
  · cases h1
theorem ST {t : Nat} (h : inN stL t = true) : Tryd.prog.underlying t = some .string := by
  have h1 := List.all_eq_true.1 st_all _ (inN_mem h)
  unfold uSt at h1
  split at h1
  · assumption
  · cases h1
theorem EN {f : Nat} (h : inN enL f = true) : enterB Tryd.prog f = true := List.all_eq_true.1 en_all _ (inN_mem h)

theorem Z1 : zeroB Tryd.prog 1 = some (.nilFunc) := by kernel_rfl
theorem Z2 : zeroB Tryd.prog 2 = some (.int .i64 0) := by kernel_rfl
theorem Z3 : zeroB Tryd.prog 3 = some (.int .i64 0) := by kernel_rfl
theorem Z4 : zeroB Tryd.prog 4 = some (.bool false) := by kernel_rfl
theorem Z5 : zeroB Tryd.prog 5 = some (.int .u8 0) := by kernel_rfl
theorem Z6 : zeroB Tryd.prog 6 = some (.int .u8 0) := by kernel_rfl
theorem Z7 : zeroB Tryd.prog 7 = some (.agg #[.int .i64 0, .int .i64 0, .bool false, .int .u8 0]) := by kernel_rfl
theorem Z8 : zeroB Tryd.prog 8 = some (.agg #[.int .i64 0, .int .i64 0, .bool false, .int .u8 0]) := by kernel_rfl
theorem Z9 : zeroB Tryd.prog 9 = some (.string ⟨#[]⟩) := by kernel_rfl
theorem Z10 : zeroB Tryd.prog 10 = some (.string ⟨#[]⟩) := by kernel_rfl
theorem Z11 : zeroB Tryd.prog 11 = some (.string ⟨#[]⟩) := by kernel_rfl
theorem Z12 : zeroB Tryd.prog 12 = some (.int .u64 0) := by kernel_rfl
theorem Z13 : zeroB Tryd.prog 13 = some (.agg #[.string ⟨#[]⟩, .int .u64 0]) := by kernel_rfl
theorem Z14 : zeroB Tryd.prog 14 = some (.agg #[.string ⟨#[]⟩, .int .u64 0]) := by kernel_rfl
theorem Z15 : zeroB Tryd.prog 15 = some (.pointer none) := by kernel_rfl
theorem Z16 : zeroB Tryd.prog 16 = some (.pointer none) := by kernel_rfl
theorem Z17 : zeroB Tryd.prog 17 = some (.pointer none) := by kernel_rfl
theorem Z18 : zeroB Tryd.prog 18 = some (.agg #[.pointer none]) := by kernel_rfl
theorem Z19 : zeroB Tryd.prog 19 = some (.agg #[.pointer none]) := by kernel_rfl
theorem Z21 : zeroB Tryd.prog 21 = some (.int .i32 0) := by kernel_rfl
theorem Z22 : zeroB Tryd.prog 22 = some (.agg #[.int .i64 0, .int .i64 0]) := by kernel_rfl
theorem Z23 : zeroB Tryd.prog 23 = some (.agg #[.int .i64 0, .int .i64 0]) := by kernel_rfl
theorem Z24 : zeroB Tryd.prog 24 = some (.slice none 0 0) := by kernel_rfl
theorem Z25 : zeroB Tryd.prog 25 = some (.agg #[.int .i64 0, .bool false, .int .i64 0, .int .i64 0, .string ⟨#[]⟩, .slice none 0 0]) := by kernel_rfl
theorem Z26 : zeroB Tryd.prog 26 = some (.agg #[.int .i64 0, .bool false, .int .i64 0, .int .i64 0, .string ⟨#[]⟩, .slice none 0 0]) := by kernel_rfl
theorem Z27 : zeroB Tryd.prog 27 = some (.nilFunc) := by kernel_rfl
theorem Z28 : zeroB Tryd.prog 28 = some (.int .i64 0) := by kernel_rfl
theorem Z29 : zeroB Tryd.prog 29 = some (.nilFunc) := by kernel_rfl
theorem Z30 : zeroB Tryd.prog 30 = some (.nilFunc) := by kernel_rfl
theorem Z31 : zeroB Tryd.prog 31 = some (.nilFunc) := by kernel_rfl
theorem Z32 : zeroB Tryd.prog 32 = some (.nilFunc) := by kernel_rfl
theorem Z33 : zeroB Tryd.prog 33 = some (.pointer none) := by kernel_rfl
theorem Z34 : zeroB Tryd.prog 34 = some (.agg #[.int .i64 0]) := by kernel_rfl
theorem Z35 : zeroB Tryd.prog 35 = some (.agg #[.int .i64 0]) := by kernel_rfl
theorem Z36 : zeroB Tryd.prog 36 = some (.nilFunc) := by kernel_rfl
theorem Z37 : zeroB Tryd.prog 37 = some (.pointer none) := by kernel_rfl
theorem Z38 : zeroB Tryd.prog 38 = some (.nilFunc) := by kernel_rfl
theorem Z39 : zeroB Tryd.prog 39 = some (.nilFunc) := by kernel_rfl
theorem Z40 : zeroB Tryd.prog 40 = some (.nilFunc) := by kernel_rfl
theorem Z41 : zeroB Tryd.prog 41 = some (.nilFunc) := by kernel_rfl
theorem Z42 : zeroB Tryd.prog 42 = some (.nilFunc) := by kernel_rfl
theorem Z43 : zeroB Tryd.prog 43 = some (.nilFunc) := by kernel_rfl
theorem Z44 : zeroB Tryd.prog 44 = some (.nilFunc) := by kernel_rfl
theorem Z45 : zeroB Tryd.prog 45 = some (.agg #[.int .u8 0, .int .u8 0, .int .u8 0, .int .u8 0, .int .u8 0, .int .u8 0, .int .u8 0, .int .u8 0, .int .u8 0, .int .u8 0, .int .u8 0, .int .u8 0, .int .u8 0, .int .u8 0, .int .u8 0, .int .u8 0, .int .u8 0, .int .u8 0, .int .u8 0, .int .u8 0, .int .u8 0, .int .u8 0, .int .u8 0, .int .u8 0, .int .u8 0, .int .u8 0, .int .u8 0, .int .u8 0, .int .u8 0, .int .u8 0, .int .u8 0, .int .u8 0, .int .u8 0, .int .u8 0, .int .u8 0, .int .u8 0, .int .u8 0, .int .u8 0, .int .u8 0, .int .u8 0, .int .u8 0, .int .u8 0, .int .u8 0, .int .u8 0, .int .u8 0, .int .u8 0, .int .u8 0, .int .u8 0, .int .u8 0, .int .u8 0, .int .u8 0, .int .u8 0, .int .u8 0, .int .u8 0, .int .u8 0, .int .u8 0, .int .u8 0, .int .u8 0, .int .u8 0, .int .u8 0, .int .u8 0, .int .u8 0, .int .u8 0, .int .u8 0, .int .u8 0, .int .u8 0, .int .u8 0, .int .u8 0, .int .u8 0, .int .u8 0, .int .u8 0, .int .u8 0, .int .u8 0, .int .u8 0, .int .u8 0, .int .u8 0, .int .u8 0, .int .u8 0, .int .u8 0, .int .u8 0, .int .u8 0, .int .u8 0, .int .u8 0, .int .u8 0, .int .u8 0, .int .u8 0, .int .u8 0, .int .u8 0, .int .u8 0, .int .u8 0, .int .u8 0, .int .u8 0, .int .u8 0, .int .u8 0, .int .u8 0, .int .u8 0, .int .u8 0, .int .u8 0, .int .u8 0, .int .u8 0, .int .u8 0, .int .u8 0, .int .u8 0, .int .u8 0, .int .u8 0, .int .u8 0, .int .u8 0, .int .u8 0, .int .u8 0, .int .u8 0, .int .u8 0, .int .u8 0, .int .u8 0, .int .u8 0, .int .u8 0, .int .u8 0, .int .u8 0, .int .u8 0, .int .u8 0, .int .u8 0, .int .u8 0, .int .u8 0, .int .u8 0, .int .u8 0, .int .u8 0, .int .u8 0, .int .u8 0, .int .u8 0, .int .u8 0, .int .u8 0, .int .u8 0, .int .u8 0, .int .u8 0, .int .u8 0, .int .u8 0, .int .u8 0, .int .u8 0, .int .u8 0, .int .u8 0, .int .u8 0, .int .u8 0, .int .u8 0, .int .u8 0, .int .u8 0, .int .u8 0, .int .u8 0, .int .u8 0, .int .u8 0, .int .u8 0, .int .u8 0, .int .u8 0, .int .u8 0, .int .u8 0, .int .u8 0, .int .u8 0, .int .u8 0, .int .u8 0, .int .u8 0, .int .u8 0, .int .u8 0, .int .u8 0, .int .u8 0, .int .u8 0, .int .u8 0, .int .u8 0, .int .u8 0, .int .u8 0, .int .u8 0, .int .u8 0, .int .u8 0, .int .u8 0, .int .u8 0, .int .u8 0, .int .u8 0, .int .u8 0, .int .u8 0, .int .u8 0, .int .u8 0, .int .u8 0, .int .u8 0, .int .u8 0, .int .u8 0, .int .u8 0, .int .u8 0, .int .u8 0, .int .u8 0, .int .u8 0, .int .u8 0, .int .u8 0, .int .u8 0, .int .u8 0, .int .u8 0, .int .u8 0, .int .u8 0, .int .u8 0, .int .u8 0, .int .u8 0, .int .u8 0, .int .u8 0, .int .u8 0, .int .u8 0, .int .u8 0, .int .u8 0, .int .u8 0, .int .u8 0, .int .u8 0, .int .u8 0, .int .u8 0, .int .u8 0, .int .u8 0, .int .u8 0, .int .u8 0, .int .u8 0, .int .u8 0, .int .u8 0, .int .u8 0, .int .u8 0, .int .u8 0, .int .u8 0, .int .u8 0, .int .u8 0, .int .u8 0, .int .u8 0, .int .u8 0, .int .u8 0, .int .u8 0, .int .u8 0, .int .u8 0, .int .u8 0, .int .u8 0, .int .u8 0, .int .u8 0, .int .u8 0, .int .u8 0, .int .u8 0, .int .u8 0, .int .u8 0, .int .u8 0, .int .u8 0, .int .u8 0, .int .u8 0, .int .u8 0, .int .u8 0, .int .u8 0, .int .u8 0, .int .u8 0, .int .u8 0, .int .u8 0, .int .u8 0, .int .u8 0, .int .u8 0, .int .u8 0, .int .u8 0, .int .u8 0, .int .u8 0, .int .u8 0]) := by kernel_rfl
theorem Z46 : zeroB Tryd.prog 46 = some (.agg #[.int .u8 0, .int .u8 0]) := by kernel_rfl
theorem Z47 : zeroB Tryd.prog 47 = some (.agg #[.int .u8 0, .int .u8 0]) := by kernel_rfl
theorem Z48 : zeroB Tryd.prog 48 = some (.agg #[.int .u8 0, .int .u8 0, .int .u8 0, .int .u8 0, .int .u8 0, .int .u8 0, .int .u8 0, .int .u8 0, .int .u8 0, .int .u8 0, .int .u8 0, .int .u8 0, .int .u8 0, .int .u8 0, .int .u8 0, .int .u8 0, .int .u8 0, .int .u8 0, .int .u8 0, .int .u8 0, .int .u8 0, .int .u8 0, .int .u8 0, .int .u8 0, .int .u8 0, .int .u8 0, .int .u8 0, .int .u8 0, .int .u8 0, .int .u8 0, .int .u8 0, .int .u8 0]) := by kernel_rfl
theorem Z49 : zeroB Tryd.prog 49 = some (.int .u64 0) := by kernel_rfl
theorem Z50 : zeroB Tryd.prog 50 = some (.int .u64 0) := by kernel_rfl
theorem Z51 : zeroB Tryd.prog 51 = some (.nilFunc) := by kernel_rfl
theorem Z52 : zeroB Tryd.prog 52 = some (.agg #[.pointer none, .pointer none, .pointer none, .string ⟨#[]⟩]) := by kernel_rfl
theorem Z53 : zeroB Tryd.prog 53 = some (.agg #[.pointer none, .pointer none, .pointer none, .string ⟨#[]⟩]) := by kernel_rfl
theorem Z54 : zeroB Tryd.prog 54 = some (.agg #[]) := by kernel_rfl
theorem Z55 : zeroB Tryd.prog 55 = some (.agg #[]) := by kernel_rfl
theorem Z56 : zeroB Tryd.prog 56 = some (.agg #[]) := by kernel_rfl
theorem Z57 : zeroB Tryd.prog 57 = some (.nilFunc) := by kernel_rfl
theorem Z58 : zeroB Tryd.prog 58 = some (.int .u32 0) := by kernel_rfl
theorem Z59 : zeroB Tryd.prog 59 = some (.int .u8 0) := by kernel_rfl
theorem Z60 : zeroB Tryd.prog 60 = some (.int .u8 0) := by kernel_rfl
theorem Z61 : zeroB Tryd.prog 61 = some (.nilFunc) := by kernel_rfl
theorem Z62 : zeroB Tryd.prog 62 = some (.pointer none) := by kernel_rfl
theorem Z63 : zeroB Tryd.prog 63 = some (.int .i32 0) := by kernel_rfl
theorem Z64 : zeroB Tryd.prog 64 = some (.int .i32 0) := by kernel_rfl
theorem Z65 : zeroB Tryd.prog 65 = some (.agg #[.int .u64 0, .int .u64 0, .int .u32 0, .int .u8 0, .int .u8 0, .int .u8 0, .int .u8 0, .nilFunc, .pointer none, .int .i32 0, .int .i32 0]) := by kernel_rfl
theorem Z66 : zeroB Tryd.prog 66 = some (.agg #[.int .u64 0, .int .u64 0, .int .u32 0, .int .u8 0, .int .u8 0, .int .u8 0, .int .u8 0, .nilFunc, .pointer none, .int .i32 0, .int .i32 0]) := by kernel_rfl
theorem Z67 : zeroB Tryd.prog 67 = some (.pointer none) := by kernel_rfl
def zrL : List (Nat × Value) := [(1, .nilFunc), (2, .int .i64 0), (3, .int .i64 0), (4, .bool false), (5, .int .u8 0), (6, .int .u8 0), (7, .agg #[.int .i64 0, .int .i64 0, .bool false, .int .u8 0]), (8, .agg #[.int .i64 0, .int .i64 0, .bool false, .int .u8 0]), (9, .string ⟨#[]⟩), (10, .string ⟨#[]⟩), (11, .string ⟨#[]⟩), (12, .int .u64 0), (13, .agg #[.string ⟨#[]⟩, .int .u64 0]), (14, .agg #[.string ⟨#[]⟩, .int .u64 0]), (15, .pointer none), (16, .pointer none), (17, .pointer none), (18, .agg #[.pointer none]), (19, .agg #[.pointer none]), (21, .int .i32 0), (22, .agg #[.int .i64 0, .int .i64 0]), (23, .agg #[.int .i64 0, .int .i64 0]), (24, .slice none 0 0), (25, .agg #[.int .i64 0, .bool false, .int .i64 0, .int .i64 0, .string ⟨#[]⟩, .slice none 0 0]), (26, .agg #[.int .i64 0, .bool false, .int .i64 0, .int .i64 0, .string ⟨#[]⟩, .slice none 0 0]), (27, .nilFunc), (28, .int .i64 0), (29, .nilFunc), (30, .nilFunc), (31, .nilFunc), (32, .nilFunc), (33, .pointer none), (34, .agg #[.int .i64 0]), (35, .agg #[.int .i64 0]), (36, .nilFunc), (37, .pointer none), (38, .nilFunc), (39, .nilFunc), (40, .nilFunc), (41, .nilFunc), (42, .nilFunc), (43, .nilFunc), (44, .nilFunc), (45, .agg #[.int .u8 0, .int .u8 0, .int .u8 0, .int .u8 0, .int .u8 0, .int .u8 0, .int .u8 0, .int .u8 0, .int .u8 0, .int .u8 0, .int .u8 0, .int .u8 0, .int .u8 0, .int .u8 0, .int .u8 0, .int .u8 0, .int .u8 0, .int .u8 0, .int .u8 0, .int .u8 0, .int .u8 0, .int .u8 0, .int .u8 0, .int .u8 0, .int .u8 0, .int .u8 0, .int .u8 0, .int .u8 0, .int .u8 0, .int .u8 0, .int .u8 0, .int .u8 0, .int .u8 0, .int .u8 0, .int .u8 0, .int .u8 0, .int .u8 0, .int .u8 0, .int .u8 0, .int .u8 0, .int .u8 0, .int .u8 0, .int .u8 0, .int .u8 0, .int .u8 0, .int .u8 0, .int .u8 0, .int .u8 0, .int .u8 0, .int .u8 0, .int .u8 0, .int .u8 0, .int .u8 0, .int .u8 0, .int .u8 0, .int .u8 0, .int .u8 0, .int .u8 0, .int .u8 0, .int .u8 0, .int .u8 0, .int .u8 0, .int .u8 0, .int .u8 0, .int .u8 0, .int .u8 0, .int .u8 0, .int .u8 0, .int .u8 0, .int .u8 0, .int .u8 0, .int .u8 0, .int .u8 0, .int .u8 0, .int .u8 0, .int .u8 0, .int .u8 0, .int .u8 0, .int .u8 0, .int .u8 0, .int .u8 0, .int .u8 0, .int .u8 0, .int .u8 0, .int .u8 0, .int .u8 0, .int .u8 0, .int .u8 0, .int .u8 0, .int .u8 0, .int .u8 0, .int .u8 0, .int .u8 0, .int .u8 0, .int .u8 0, .int .u8 0, .int .u8 0, .int .u8 0, .int .u8 0, .int .u8 0, .int .u8 0, .int .u8 0, .int .u8 0, .int .u8 0, .int .u8 0, .int .u8 0, .int .u8 0, .int .u8 0, .int .u8 0, .int .u8 0, .int .u8 0, .int .u8 0, .int .u8 0, .int .u8 0, .int .u8 0, .int .u8 0, .int .u8 0, .int .u8 0, .int .u8 0, .int .u8 0, .int .u8 0, .int .u8 0, .int .u8 0, .int .u8 0, .int .u8 0, .int .u8 0, .int .u8 0, .int .u8 0, .int .u8 0, .int .u8 0, .int .u8 0, .int .u8 0, .int .u8 0, .int .u8 0, .int .u8 0, .int .u8 0, .int .u8 0, .int .u8 0, .int .u8 0, .int .u8 0, .int .u8 0, .int .u8 0, .int .u8 0, .int .u8 0, .int .u8 0, .int .u8 0, .int .u8 0, .int .u8 0, .int .u8 0, .int .u8 0, .int .u8 0, .int .u8 0, .int .u8 0, .int .u8 0, .int .u8 0, .int .u8 0, .int .u8 0, .int .u8 0, .int .u8 0, .int .u8 0, .int .u8 0, .int .u8 0, .int .u8 0, .int .u8 0, .int .u8 0, .int .u8 0, .int .u8 0, .int .u8 0, .int .u8 0, .int .u8 0, .int .u8 0, .int .u8 0, .int .u8 0, .int .u8 0, .int .u8 0, .int .u8 0, .int .u8 0, .int .u8 0, .int .u8 0, .int .u8 0, .int .u8 0, .int .u8 0, .int .u8 0, .int .u8 0, .int .u8 0, .int .u8 0, .int .u8 0, .int .u8 0, .int .u8 0, .int .u8 0, .int .u8 0, .int .u8 0, .int .u8 0, .int .u8 0, .int .u8 0, .int .u8 0, .int .u8 0, .int .u8 0, .int .u8 0, .int .u8 0, .int .u8 0, .int .u8 0, .int .u8 0, .int .u8 0, .int .u8 0, .int .u8 0, .int .u8 0, .int .u8 0, .int .u8 0, .int .u8 0, .int .u8 0, .int .u8 0, .int .u8 0, .int .u8 0, .int .u8 0, .int .u8 0, .int .u8 0, .int .u8 0, .int .u8 0, .int .u8 0, .int .u8 0, .int .u8 0, .int .u8 0, .int .u8 0, .int .u8 0, .int .u8 0, .int .u8 0, .int .u8 0, .int .u8 0, .int .u8 0, .int .u8 0, .int .u8 0, .int .u8 0, .int .u8 0, .int .u8 0, .int .u8 0, .int .u8 0, .int .u8 0, .int .u8 0, .int .u8 0, .int .u8 0, .int .u8 0, .int .u8 0, .int .u8 0, .int .u8 0, .int .u8 0, .int .u8 0, .int .u8 0, .int .u8 0, .int .u8 0, .int .u8 0, .int .u8 0, .int .u8 0, .int .u8 0, .int .u8 0, .int .u8 0]), (46, .agg #[.int .u8 0, .int .u8 0]), (47, .agg #[.int .u8 0, .int .u8 0]), (48, .agg #[.int .u8 0, .int .u8 0, .int .u8 0, .int .u8 0, .int .u8 0, .int .u8 0, .int .u8 0, .int .u8 0, .int .u8 0, .int .u8 0, .int .u8 0, .int .u8 0, .int .u8 0, .int .u8 0, .int .u8 0, .int .u8 0, .int .u8 0, .int .u8 0, .int .u8 0, .int .u8 0, .int .u8 0, .int .u8 0, .int .u8 0, .int .u8 0, .int .u8 0, .int .u8 0, .int .u8 0, .int .u8 0, .int .u8 0, .int .u8 0, .int .u8 0, .int .u8 0]), (49, .int .u64 0), (50, .int .u64 0), (51, .nilFunc), (52, .agg #[.pointer none, .pointer none, .pointer none, .string ⟨#[]⟩]), (53, .agg #[.pointer none, .pointer none, .pointer none, .string ⟨#[]⟩]), (54, .agg #[]), (55, .agg #[]), (56, .agg #[]), (57, .nilFunc), (58, .int .u32 0), (59, .int .u8 0), (60, .int .u8 0), (61, .nilFunc), (62, .pointer none), (63, .int .i32 0), (64, .int .i32 0), (65, .agg #[.int .u64 0, .int .u64 0, .int .u32 0, .int .u8 0, .int .u8 0, .int .u8 0, .int .u8 0, .nilFunc, .pointer none, .int .i32 0, .int .i32 0]), (66, .agg #[.int .u64 0, .int .u64 0, .int .u32 0, .int .u8 0, .int .u8 0, .int .u8 0, .int .u8 0, .nilFunc, .pointer none, .int .i32 0, .int .i32 0]), (67, .pointer none)]
def AllP {α : Type} (Q : α → Prop) : List α → Prop
  | [] => True
  | a :: r => Q a ∧ AllP Q r
theorem AllP.mem {α : Type} {Q : α → Prop} : ∀ {l : List α}, AllP Q l → ∀ a ∈ l, Q a
  | [], _, a, h => by cases h
  | b :: r, h, a, ha => by
    rcases List.mem_cons.1 ha with rfl | ha
    · exact h.1
    · exact AllP.mem h.2 a ha
theorem zr_all : AllP (fun p : Nat × Value => zeroB Tryd.prog p.1 = some p.2) zrL := ⟨Z1, Z2, Z3, Z4, Z5, Z6, Z7, Z8, Z9, Z10, Z11, Z12, Z13, Z14, Z15, Z16, Z17, Z18, Z19, Z21, Z22, Z23, Z24, Z25, Z26, Z27, Z28, Z29, Z30, Z31, Z32, Z33, Z34, Z35, Z36, Z37, Z38, Z39, Z40, Z41, Z42, Z43, Z44, Z45, Z46, Z47, Z48, Z49, Z50, Z51, Z52, Z53, Z54, Z55, Z56, Z57, Z58, Z59, Z60, Z61, Z62, Z63, Z64, Z65, Z66, Z67, trivial⟩
theorem ZR {t : Nat} {z : Value} (h : lkN zrL t = some z) : zeroB Tryd.prog t = some z := zr_all.mem _ (lkN_mem h)
def plL : List (Nat × List (Nat × Nat)) := [(7, [(0, 1), (1, 1), (2, 1), (3, 1)]), (8, [(0, 1), (1, 1), (2, 1), (3, 1)]), (13, [(0, 1), (1, 1)]), (14, [(0, 1), (1, 1)]), (18, [(0, 1)]), (19, [(0, 1)]), (22, [(0, 1), (1, 1)]), (23, [(0, 1), (1, 1)]), (25, [(0, 1), (1, 1), (2, 2), (4, 1), (5, 1)]), (26, [(0, 1), (1, 1), (2, 2), (4, 1), (5, 1)]), (34, [(0, 1)]), (35, [(0, 1)]), (46, [(0, 1), (1, 1)]), (47, [(0, 1), (1, 1)]), (52, [(0, 1), (1, 1), (2, 1), (3, 1)]), (53, [(0, 1), (1, 1), (2, 1), (3, 1)]), (55, [(0, 0)]), (56, [(0, 0)]), (65, [(0, 1), (1, 1), (2, 1), (3, 1), (4, 1), (5, 1), (6, 1), (7, 1), (8, 1), (9, 1), (10, 1)]), (66, [(0, 1), (1, 1), (2, 1), (3, 1), (4, 1), (5, 1), (6, 1), (7, 1), (8, 1), (9, 1), (10, 1)])]
theorem pl_all : (plL.all fun p => placesB Tryd.prog p.1 == some p.2) = true := by kernel_rfl
theorem PL {t : Nat} {p : List (Nat × Nat)} (h : lkN plL t = some p) : placesB Tryd.prog t = some p := by
  simpa using List.all_eq_true.1 pl_all _ (lkN_mem h)
def efL : List (Nat × List Nat) := [(22, [0, 1]), (23, [0, 1]), (34, [0]), (35, [0]), (46, [0, 1]), (47, [0, 1])]
theorem ef_all : (efL.all fun p => eqfB Tryd.prog p.1 == some p.2) = true := by kernel_rfl
theorem EF {t : Nat} {l : List Nat} (h : lkN efL t = some l) : eqfB Tryd.prog t = some l := by
  simpa using List.all_eq_true.1 ef_all _ (lkN_mem h)
theorem mixed : Tryd.prog.follows .mixedOrders = true := by kernel_rfl
theorem one_all : (zrL.all fun p => p.2.cells.toList.all (·.oneCell')) = true := by kernel_rfl
def tab : Tab := { ag := lkN agL, sz := lkN szL, fd := lkM fdL, el := lkN elL, bo := inN boL, st := inN stL, zr := fun t => match lkN zrL t with | some z => some (z.cells.toList.map constC) | none => none, pl := lkN plL, ef := lkN efL }
theorem tabOk : TabOk Tryd.prog tab := by
  refine ⟨fun _ _ h => AG h, fun _ _ h => SZ h, fun _ _ _ _ h => FD h, fun _ _ h => EL h, fun _ h => BO h, fun _ h => ST h, fun t cs h => ?_, fun _ _ h => PL h, fun _ _ h => EF h⟩
  simp only [tab] at h
  split at h
  · rename_i z hz
    cases h
    exact ⟨z, ZR hz, List.all_eq_true.1 one_all _ (lkN_mem hz), rfl⟩
  · cases h

/-! ### Short words of the walk -/
section
variable {o : Go.Oper} {ρ : Go.Operand → PV} {H : PH}
theorem cJ {src dst : Nat} {x : Go.Operand} {ks kd k : Go.IntKind} {n : Int} (ho : o.op = .convert src dst x := by exact rfl) (hs : lkN ikL src = some ks := by exact rfl) (hd : lkN ikL dst = some kd := by exact rfl) (hx : ρ x = .g (.int k n) := by exact rfl) : PO Tryd.prog o ρ H (.g (.int kd (kd.wrap n))) H := cI ho (IK hs) (IK hd) hx
theorem mG {fn : Go.Fn} {first cap : Array Go.Operand} (ho : o.op = .makeFunc fn first cap := by exact rfl) : PO Tryd.prog o ρ H (.clo fn (first.toList.map ρ) (cap.toList.map ρ)) H := mF ho
theorem nD {x : Go.Operand} {p : PV} (ho : o.op = .nilCheck x := by exact rfl) (hx : notNil (ρ x) = some p := by exact rfl) : PO Tryd.prog o ρ H p H := nC ho hx
theorem bT {t n e size : Nat} {parts : Array (Nat × Go.Operand)} {z : Go.Value} {b : Bool} {cs : List PV} {gs : List GV} (ho : o.op = .buildSlice t n parts := by exact rfl) (he : lkN elL t = some e := by exact rfl) (hs : lkN szL e = some size := by exact rfl) (ha : lkN agL e = some b := by exact rfl)
    (hz : lkN zrL e = some z := by exact rfl) (hz1 : z.cells.toList.all (·.oneCell') = true := by exact rfl) (hzs : Nat.beq z.cells.size size = true := by exact rfl) (hpos : Nat.ble 1 size = true := by exact rfl) (hb : (b || Nat.beq size 1) = true := by exact rfl) (hn : Nat.ble (n * size) 16777216 = true := by exact rfl)
    (hfill : fillP (fun i => some (i * size, size)) (zerosP z n) (partsP ρ parts.toList) = some cs := by exact rfl) (hg : allG cs = some gs := by exact rfl) : PO Tryd.prog o ρ H (.g (.sl (group b size n gs))) H := bS ho (EL he) (SZ hs) (AG ha) (ZR hz) hz1 hzs hpos hb hn hfill hg
theorem cqP {f : Go.Operand} {args : Array Go.Operand} {ts : Array Nat} {id : Nat} {ps : List PV} {v : PV} (hp : PC Tryd.prog id ps ⟨[], [], []⟩ v ⟨[], [], []⟩) (ho : o.op = .call { callee := .value f, args := args, argTypes := ts } := by exact rfl)
    (hf : ρ f = .g (.raw (.func (.func id) #[] #[])) := by exact rfl) (he : inN enL id = true := by exact rfl) (ha : packs ρ args.toList = ps := by exact rfl) (hps : allB ps = true := by exact rfl) (hv : closedB v = true := by exact rfl) : PO Tryd.prog o ρ H v H := cl ho hf (EN he) hp ha hps hv
end

end Go.Proofs.YtlibajlfojkohaaDoor

