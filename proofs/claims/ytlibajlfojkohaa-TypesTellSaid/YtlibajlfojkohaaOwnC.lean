/- What the program's functions compute, each shown once; and plain laws of it. -/
import Derived.Test.YtlibajlfojkohaaRows
import Derived.Test.YtlibajlfojkohaaPureB
/- What the program says of its types and functions: tables, held against the program by the kernel. Printed by wip/tools/gen_facts.py. -/
set_option maxRecDepth 100000
namespace Go.Proofs.Ytlibajlfojkohaa
open Go.Pure

def agL : List (Nat × Bool) := [(0, false), (1, false), (2, false), (3, false), (4, false), (5, false), (6, false), (7, true), (8, true), (9, false), (10, false), (11, false), (12, false), (13, true), (14, true), (15, false), (16, false), (17, false), (18, true), (19, true), (20, false), (21, false), (22, false), (23, true), (24, true), (25, true), (26, true), (27, false), (28, true), (29, true), (30, false), (31, false), (32, false), (33, false), (34, false), (35, false), (36, false), (37, false), (38, false), (39, false), (40, false), (41, false), (42, false), (43, false), (44, false), (45, false), (46, false), (47, false), (48, true), (49, true), (50, true), (51, true), (52, true), (53, false), (54, false), (55, false), (56, false), (57, false), (58, false), (59, false), (60, false), (61, true), (62, true), (63, false)]
def szL : List (Nat × Nat) := [(0, 1), (1, 1), (2, 1), (3, 1), (4, 1), (5, 1), (6, 1), (7, 4), (8, 4), (9, 1), (10, 1), (11, 1), (12, 1), (13, 2), (14, 2), (15, 1), (16, 1), (17, 1), (18, 1), (19, 1), (20, 1), (21, 1), (22, 1), (23, 2), (24, 2), (25, 2), (26, 2), (27, 1), (28, 6), (29, 6), (30, 1), (31, 1), (32, 1), (33, 1), (34, 1), (35, 1), (36, 1), (37, 1), (38, 1), (39, 1), (40, 1), (41, 1), (42, 1), (43, 1), (44, 1), (45, 1), (46, 1), (47, 1), (48, 4), (49, 4), (50, 0), (51, 0), (52, 0), (53, 1), (54, 1), (55, 1), (56, 1), (57, 1), (58, 1), (59, 1), (60, 1), (61, 11), (62, 11), (63, 1)]
def fdL : List ((Nat × Nat) × (Nat × Nat)) := [((7, 0), (0, 2)), ((7, 1), (1, 3)), ((7, 2), (2, 4)), ((7, 3), (3, 6)), ((8, 0), (0, 2)), ((8, 1), (1, 3)), ((8, 2), (2, 4)), ((8, 3), (3, 6)), ((13, 0), (0, 9)), ((13, 1), (1, 12)), ((14, 0), (0, 9)), ((14, 1), (1, 12)), ((18, 0), (0, 17)), ((19, 0), (0, 17)), ((23, 0), (0, 3)), ((23, 1), (1, 22)), ((24, 0), (0, 3)), ((24, 1), (1, 22)), ((25, 0), (0, 2)), ((25, 1), (1, 3)), ((26, 0), (0, 2)), ((26, 1), (1, 3)), ((28, 0), (0, 3)), ((28, 1), (1, 4)), ((28, 2), (2, 26)), ((28, 3), (4, 9)), ((28, 4), (5, 27)), ((29, 0), (0, 3)), ((29, 1), (1, 4)), ((29, 2), (2, 26)), ((29, 3), (4, 9)), ((29, 4), (5, 27)), ((48, 0), (0, 17)), ((48, 1), (1, 17)), ((48, 2), (2, 17)), ((48, 3), (3, 9)), ((49, 0), (0, 17)), ((49, 1), (1, 17)), ((49, 2), (2, 17)), ((49, 3), (3, 9)), ((61, 0), (0, 12)), ((61, 1), (1, 12)), ((61, 2), (2, 54)), ((61, 3), (3, 55)), ((61, 4), (4, 5)), ((61, 5), (5, 5)), ((61, 6), (6, 56)), ((61, 7), (7, 57)), ((61, 8), (8, 58)), ((61, 9), (9, 59)), ((61, 10), (10, 60)), ((62, 0), (0, 12)), ((62, 1), (1, 12)), ((62, 2), (2, 54)), ((62, 3), (3, 55)), ((62, 4), (4, 5)), ((62, 5), (5, 5)), ((62, 6), (6, 56)), ((62, 7), (7, 57)), ((62, 8), (8, 58)), ((62, 9), (9, 59)), ((62, 10), (10, 60))]
def elL : List (Nat × Nat) := [(22, 24), (27, 29)]
def boL : List Nat := [4]
def stL : List Nat := [9, 10, 11]
def ikL : List (Nat × IntKind) := [(2, .i64), (3, .i64), (5, .u8), (6, .u8), (12, .u64), (21, .i32), (30, .i64), (54, .u32), (55, .u8), (56, .u8), (59, .i32), (60, .i32)]
def enL : List Nat := [3, 4, 5, 6, 7, 8, 9, 10, 11, 12, 13, 14, 15, 16, 17, 18, 19]

def lkN {α : Type} : List (Nat × α) → Nat → Option α
  | [], _ => none
  | (k, a) :: r, t => bif Nat.beq t k then some a else lkN r t
def lkM : List ((Nat × Nat) × (Nat × Nat)) → Nat → Nat → Option (Nat × Nat)
  | [], _, _ => none
  | ((k, j), a) :: r, t, i => bif Nat.beq t k && Nat.beq i j then some a else lkM r t i
def inN : List Nat → Nat → Bool
  | [], _ => false
  | k :: r, t => bif Nat.beq t k then true else inN r t
theorem lkN_mem {α : Type} : ∀ {l : List (Nat × α)} {t : Nat} {a : α}, lkN l t = some a → (t, a) ∈ l
  | [], _, _, h => by cases h
  | (k, b) :: r, t, a, h => by
    unfold lkN at h
    cases e : Nat.beq t k with
    | true => rw [e, cond_true] at h; cases h; rw [Nat.eq_of_beq_eq_true e]; exact List.mem_cons_self
    | false => rw [e, cond_false] at h; exact List.mem_cons_of_mem _ (lkN_mem h)
theorem lkM_mem : ∀ {l : List ((Nat × Nat) × (Nat × Nat))} {t i : Nat} {a : Nat × Nat}, lkM l t i = some a → ((t, i), a) ∈ l
  | [], _, _, _, h => by cases h
  | ((k, j), b) :: r, t, i, a, h => by
    unfold lkM at h
    cases e : (Nat.beq t k && Nat.beq i j) with
    | true =>
      rw [e, cond_true] at h; cases h
      simp only [Bool.and_eq_true] at e
      rw [Nat.eq_of_beq_eq_true e.1, Nat.eq_of_beq_eq_true e.2]; exact List.mem_cons_self
    | false => rw [e, cond_false] at h; exact List.mem_cons_of_mem _ (lkM_mem h)
theorem inN_mem : ∀ {l : List Nat} {t : Nat}, inN l t = true → t ∈ l
  | [], _, h => by cases h
  | k :: r, t, h => by
    unfold inN at h
    cases e : Nat.beq t k with
    | true => rw [Nat.eq_of_beq_eq_true e]; exact List.mem_cons_self
    | false => rw [e, cond_false] at h; exact List.mem_cons_of_mem _ (inN_mem h)

theorem ag_all : (agL.all fun p => aggB Try.prog p.1 == some p.2) = true := by kernel_rfl
theorem sz_all : (szL.all fun p => szB Try.prog p.1 == some p.2) = true := by kernel_rfl
theorem fd_all : (fdL.all fun p => fieldB Try.prog p.1.1 p.1.2 == some p.2) = true := by kernel_rfl
def uSl (d : Option TypeDesc) : Option Nat := match d with | some (.slice e) => some e | _ => none
def uBo (d : Option TypeDesc) : Bool := match d with | some .bool => true | _ => false
def uSt (d : Option TypeDesc) : Bool := match d with | some .string => true | _ => false
theorem el_all : (elL.all fun p => uSl (Try.prog.underlying p.1) == some p.2) = true := by kernel_rfl
theorem bo_all : (boL.all fun p => uBo (Try.prog.underlying p)) = true := by kernel_rfl
theorem st_all : (stL.all fun p => uSt (Try.prog.underlying p)) = true := by kernel_rfl
theorem ik_all : (ikL.all fun p => match intB Try.prog p.1 with | some k => kindEq k p.2 | none => false) = true := by kernel_rfl
theorem en_all : (enL.all fun p => enterB Try.prog p) = true := by kernel_rfl

theorem AG {t : Nat} {b : Bool} (h : lkN agL t = some b) : aggB Try.prog t = some b := by
  simpa using List.all_eq_true.1 ag_all _ (lkN_mem h)
theorem SZ {t n : Nat} (h : lkN szL t = some n) : szB Try.prog t = some n := by
  simpa using List.all_eq_true.1 sz_all _ (lkN_mem h)
theorem IK {t : Nat} {k : IntKind} (h : lkN ikL t = some k) : intB Try.prog t = some k := by
  have h1 := List.all_eq_true.1 ik_all _ (lkN_mem h)
  simp only at h1
  split at h1
  · rename_i k' e; rw [e, kindEq_ok h1]
  · cases h1
theorem FD {t k d ft : Nat} (h : lkM fdL t k = some (d, ft)) : fieldB Try.prog t k = some (d, ft) := by
  simpa using List.all_eq_true.1 fd_all _ (lkM_mem h)
theorem EL {t e : Nat} (h : lkN elL t = some e) : Try.prog.underlying t = some (.slice e) := by
  have h1 : uSl (Try.prog.underlying t) = some e := by simpa using List.all_eq_true.1 el_all _ (lkN_mem h)
  unfold uSl at h1
  split at h1
  · rename_i e' he; cases h1; exact he
  · cases h1
theorem BO {t : Nat} (h : inN boL t = true) : Try.prog.underlying t = some .bool := by
  have h1 := List.all_eq_true.1 bo_all _ (inN_mem h)
  unfold uBo at h1
  split at h1
  · assumption
  · cases h1
theorem ST {t : Nat} (h : inN stL t = true) : Try.prog.underlying t = some .string := by
  have h1 := List.all_eq_true.1 st_all _ (inN_mem h)
  unfold uSt at h1
  split at h1
  · assumption
  · cases h1
theorem EN {f : Nat} (h : inN enL f = true) : enterB Try.prog f = true := List.all_eq_true.1 en_all _ (inN_mem h)

theorem Z1 : zeroB Try.prog 1 = some (.nilFunc) := by kernel_rfl
theorem Z2 : zeroB Try.prog 2 = some (.int .i64 0) := by kernel_rfl
theorem Z3 : zeroB Try.prog 3 = some (.int .i64 0) := by kernel_rfl
theorem Z4 : zeroB Try.prog 4 = some (.bool false) := by kernel_rfl
theorem Z5 : zeroB Try.prog 5 = some (.int .u8 0) := by kernel_rfl
theorem Z6 : zeroB Try.prog 6 = some (.int .u8 0) := by kernel_rfl
theorem Z7 : zeroB Try.prog 7 = some (.agg #[.int .i64 0, .int .i64 0, .bool false, .int .u8 0]) := by kernel_rfl
theorem Z8 : zeroB Try.prog 8 = some (.agg #[.int .i64 0, .int .i64 0, .bool false, .int .u8 0]) := by kernel_rfl
theorem Z9 : zeroB Try.prog 9 = some (.string ⟨#[]⟩) := by kernel_rfl
theorem Z10 : zeroB Try.prog 10 = some (.string ⟨#[]⟩) := by kernel_rfl
theorem Z11 : zeroB Try.prog 11 = some (.string ⟨#[]⟩) := by kernel_rfl
theorem Z12 : zeroB Try.prog 12 = some (.int .u64 0) := by kernel_rfl
theorem Z13 : zeroB Try.prog 13 = some (.agg #[.string ⟨#[]⟩, .int .u64 0]) := by kernel_rfl
theorem Z14 : zeroB Try.prog 14 = some (.agg #[.string ⟨#[]⟩, .int .u64 0]) := by kernel_rfl
theorem Z15 : zeroB Try.prog 15 = some (.pointer none) := by kernel_rfl
theorem Z16 : zeroB Try.prog 16 = some (.pointer none) := by kernel_rfl
theorem Z17 : zeroB Try.prog 17 = some (.pointer none) := by kernel_rfl
theorem Z18 : zeroB Try.prog 18 = some (.agg #[.pointer none]) := by kernel_rfl
theorem Z19 : zeroB Try.prog 19 = some (.agg #[.pointer none]) := by kernel_rfl
theorem Z21 : zeroB Try.prog 21 = some (.int .i32 0) := by kernel_rfl
theorem Z22 : zeroB Try.prog 22 = some (.slice none 0 0) := by kernel_rfl
theorem Z23 : zeroB Try.prog 23 = some (.agg #[.int .i64 0, .slice none 0 0]) := by kernel_rfl
theorem Z24 : zeroB Try.prog 24 = some (.agg #[.int .i64 0, .slice none 0 0]) := by kernel_rfl
theorem Z25 : zeroB Try.prog 25 = some (.agg #[.int .i64 0, .int .i64 0]) := by kernel_rfl
theorem Z26 : zeroB Try.prog 26 = some (.agg #[.int .i64 0, .int .i64 0]) := by kernel_rfl
theorem Z27 : zeroB Try.prog 27 = some (.slice none 0 0) := by kernel_rfl
theorem Z28 : zeroB Try.prog 28 = some (.agg #[.int .i64 0, .bool false, .int .i64 0, .int .i64 0, .string ⟨#[]⟩, .slice none 0 0]) := by kernel_rfl
theorem Z29 : zeroB Try.prog 29 = some (.agg #[.int .i64 0, .bool false, .int .i64 0, .int .i64 0, .string ⟨#[]⟩, .slice none 0 0]) := by kernel_rfl
theorem Z30 : zeroB Try.prog 30 = some (.int .i64 0) := by kernel_rfl
theorem Z31 : zeroB Try.prog 31 = some (.nilFunc) := by kernel_rfl
theorem Z32 : zeroB Try.prog 32 = some (.nilFunc) := by kernel_rfl
theorem Z33 : zeroB Try.prog 33 = some (.nilFunc) := by kernel_rfl
theorem Z34 : zeroB Try.prog 34 = some (.nilFunc) := by kernel_rfl
theorem Z35 : zeroB Try.prog 35 = some (.nilFunc) := by kernel_rfl
theorem Z36 : zeroB Try.prog 36 = some (.nilFunc) := by kernel_rfl
theorem Z37 : zeroB Try.prog 37 = some (.nilFunc) := by kernel_rfl
theorem Z38 : zeroB Try.prog 38 = some (.nilFunc) := by kernel_rfl
theorem Z39 : zeroB Try.prog 39 = some (.nilFunc) := by kernel_rfl
theorem Z40 : zeroB Try.prog 40 = some (.nilFunc) := by kernel_rfl
theorem Z41 : zeroB Try.prog 41 = some (.nilFunc) := by kernel_rfl
theorem Z42 : zeroB Try.prog 42 = some (.nilFunc) := by kernel_rfl
theorem Z43 : zeroB Try.prog 43 = some (.nilFunc) := by kernel_rfl
theorem Z44 : zeroB Try.prog 44 = some (.nilFunc) := by kernel_rfl
theorem Z45 : zeroB Try.prog 45 = some (.map none) := by kernel_rfl
theorem Z46 : zeroB Try.prog 46 = some (.map none) := by kernel_rfl
theorem Z47 : zeroB Try.prog 47 = some (.nilFunc) := by kernel_rfl
theorem Z48 : zeroB Try.prog 48 = some (.agg #[.pointer none, .pointer none, .pointer none, .string ⟨#[]⟩]) := by kernel_rfl
theorem Z49 : zeroB Try.prog 49 = some (.agg #[.pointer none, .pointer none, .pointer none, .string ⟨#[]⟩]) := by kernel_rfl
theorem Z50 : zeroB Try.prog 50 = some (.agg #[]) := by kernel_rfl
theorem Z51 : zeroB Try.prog 51 = some (.agg #[]) := by kernel_rfl
theorem Z52 : zeroB Try.prog 52 = some (.agg #[]) := by kernel_rfl
theorem Z53 : zeroB Try.prog 53 = some (.nilFunc) := by kernel_rfl
theorem Z54 : zeroB Try.prog 54 = some (.int .u32 0) := by kernel_rfl
theorem Z55 : zeroB Try.prog 55 = some (.int .u8 0) := by kernel_rfl
theorem Z56 : zeroB Try.prog 56 = some (.int .u8 0) := by kernel_rfl
theorem Z57 : zeroB Try.prog 57 = some (.nilFunc) := by kernel_rfl
theorem Z58 : zeroB Try.prog 58 = some (.pointer none) := by kernel_rfl
theorem Z59 : zeroB Try.prog 59 = some (.int .i32 0) := by kernel_rfl
theorem Z60 : zeroB Try.prog 60 = some (.int .i32 0) := by kernel_rfl
theorem Z61 : zeroB Try.prog 61 = some (.agg #[.int .u64 0, .int .u64 0, .int .u32 0, .int .u8 0, .int .u8 0, .int .u8 0, .int .u8 0, .nilFunc, .pointer none, .int .i32 0, .int .i32 0]) := by kernel_rfl
theorem Z62 : zeroB Try.prog 62 = some (.agg #[.int .u64 0, .int .u64 0, .int .u32 0, .int .u8 0, .int .u8 0, .int .u8 0, .int .u8 0, .nilFunc, .pointer none, .int .i32 0, .int .i32 0]) := by kernel_rfl
theorem Z63 : zeroB Try.prog 63 = some (.pointer none) := by kernel_rfl
def zrL : List (Nat × Value) := [(1, .nilFunc), (2, .int .i64 0), (3, .int .i64 0), (4, .bool false), (5, .int .u8 0), (6, .int .u8 0), (7, .agg #[.int .i64 0, .int .i64 0, .bool false, .int .u8 0]), (8, .agg #[.int .i64 0, .int .i64 0, .bool false, .int .u8 0]), (9, .string ⟨#[]⟩), (10, .string ⟨#[]⟩), (11, .string ⟨#[]⟩), (12, .int .u64 0), (13, .agg #[.string ⟨#[]⟩, .int .u64 0]), (14, .agg #[.string ⟨#[]⟩, .int .u64 0]), (15, .pointer none), (16, .pointer none), (17, .pointer none), (18, .agg #[.pointer none]), (19, .agg #[.pointer none]), (21, .int .i32 0), (22, .slice none 0 0), (23, .agg #[.int .i64 0, .slice none 0 0]), (24, .agg #[.int .i64 0, .slice none 0 0]), (25, .agg #[.int .i64 0, .int .i64 0]), (26, .agg #[.int .i64 0, .int .i64 0]), (27, .slice none 0 0), (28, .agg #[.int .i64 0, .bool false, .int .i64 0, .int .i64 0, .string ⟨#[]⟩, .slice none 0 0]), (29, .agg #[.int .i64 0, .bool false, .int .i64 0, .int .i64 0, .string ⟨#[]⟩, .slice none 0 0]), (30, .int .i64 0), (31, .nilFunc), (32, .nilFunc), (33, .nilFunc), (34, .nilFunc), (35, .nilFunc), (36, .nilFunc), (37, .nilFunc), (38, .nilFunc), (39, .nilFunc), (40, .nilFunc), (41, .nilFunc), (42, .nilFunc), (43, .nilFunc), (44, .nilFunc), (45, .map none), (46, .map none), (47, .nilFunc), (48, .agg #[.pointer none, .pointer none, .pointer none, .string ⟨#[]⟩]), (49, .agg #[.pointer none, .pointer none, .pointer none, .string ⟨#[]⟩]), (50, .agg #[]), (51, .agg #[]), (52, .agg #[]), (53, .nilFunc), (54, .int .u32 0), (55, .int .u8 0), (56, .int .u8 0), (57, .nilFunc), (58, .pointer none), (59, .int .i32 0), (60, .int .i32 0), (61, .agg #[.int .u64 0, .int .u64 0, .int .u32 0, .int .u8 0, .int .u8 0, .int .u8 0, .int .u8 0, .nilFunc, .pointer none, .int .i32 0, .int .i32 0]), (62, .agg #[.int .u64 0, .int .u64 0, .int .u32 0, .int .u8 0, .int .u8 0, .int .u8 0, .int .u8 0, .nilFunc, .pointer none, .int .i32 0, .int .i32 0]), (63, .pointer none)]
def AllP {α : Type} (Q : α → Prop) : List α → Prop
  | [] => True
  | a :: r => Q a ∧ AllP Q r
theorem AllP.mem {α : Type} {Q : α → Prop} : ∀ {l : List α}, AllP Q l → ∀ a ∈ l, Q a
  | [], _, a, h => by cases h
  | b :: r, h, a, ha => by
    rcases List.mem_cons.1 ha with rfl | ha
    · exact h.1
    · exact AllP.mem h.2 a ha
theorem zr_all : AllP (fun p : Nat × Value => zeroB Try.prog p.1 = some p.2) zrL := ⟨Z1, Z2, Z3, Z4, Z5, Z6, Z7, Z8, Z9, Z10, Z11, Z12, Z13, Z14, Z15, Z16, Z17, Z18, Z19, Z21, Z22, Z23, Z24, Z25, Z26, Z27, Z28, Z29, Z30, Z31, Z32, Z33, Z34, Z35, Z36, Z37, Z38, Z39, Z40, Z41, Z42, Z43, Z44, Z45, Z46, Z47, Z48, Z49, Z50, Z51, Z52, Z53, Z54, Z55, Z56, Z57, Z58, Z59, Z60, Z61, Z62, Z63, trivial⟩
theorem ZR {t : Nat} {z : Value} (h : lkN zrL t = some z) : zeroB Try.prog t = some z := zr_all.mem _ (lkN_mem h)
def plL : List (Nat × List (Nat × Nat)) := [(7, [(0, 1), (1, 1), (2, 1), (3, 1)]), (8, [(0, 1), (1, 1), (2, 1), (3, 1)]), (13, [(0, 1), (1, 1)]), (14, [(0, 1), (1, 1)]), (18, [(0, 1)]), (19, [(0, 1)]), (23, [(0, 1), (1, 1)]), (24, [(0, 1), (1, 1)]), (25, [(0, 1), (1, 1)]), (26, [(0, 1), (1, 1)]), (28, [(0, 1), (1, 1), (2, 2), (4, 1), (5, 1)]), (29, [(0, 1), (1, 1), (2, 2), (4, 1), (5, 1)]), (48, [(0, 1), (1, 1), (2, 1), (3, 1)]), (49, [(0, 1), (1, 1), (2, 1), (3, 1)]), (51, [(0, 0)]), (52, [(0, 0)]), (61, [(0, 1), (1, 1), (2, 1), (3, 1), (4, 1), (5, 1), (6, 1), (7, 1), (8, 1), (9, 1), (10, 1)]), (62, [(0, 1), (1, 1), (2, 1), (3, 1), (4, 1), (5, 1), (6, 1), (7, 1), (8, 1), (9, 1), (10, 1)])]
theorem pl_all : (plL.all fun p => placesB Try.prog p.1 == some p.2) = true := by kernel_rfl
theorem PL {t : Nat} {p : List (Nat × Nat)} (h : lkN plL t = some p) : placesB Try.prog t = some p := by
  simpa using List.all_eq_true.1 pl_all _ (lkN_mem h)
def efL : List (Nat × List Nat) := [(25, [0, 1]), (26, [0, 1])]
theorem ef_all : (efL.all fun p => eqfB Try.prog p.1 == some p.2) = true := by kernel_rfl
theorem EF {t : Nat} {l : List Nat} (h : lkN efL t = some l) : eqfB Try.prog t = some l := by
  simpa using List.all_eq_true.1 ef_all _ (lkN_mem h)
theorem mixed : Try.prog.follows .mixedOrders = true := by kernel_rfl
theorem one_all : (zrL.all fun p => p.2.cells.toList.all (·.oneCell')) = true := by kernel_rfl
def tab : Tab := { ag := lkN agL, sz := lkN szL, fd := lkM fdL, el := lkN elL, bo := inN boL, st := inN stL, zr := fun t => match lkN zrL t with | some z => some (z.cells.toList.map constC) | none => none, pl := lkN plL, ef := lkN efL }
theorem tabOk : TabOk Try.prog tab := by
  refine ⟨fun _ _ h => AG h, fun _ _ h => SZ h, fun _ _ _ _ h => FD h, fun _ _ h => EL h, fun _ h => BO h, fun _ h => ST h, fun t cs h => ?_, fun _ _ h => PL h, fun _ _ h => EF h⟩
  simp only [tab] at h
  split at h
  · rename_i z hz
    cases h
    exact ⟨z, ZR hz, List.all_eq_true.1 one_all _ (lkN_mem hz), rfl⟩
  · cases h

/-! ### Short words of the walk -/
section
variable {o : Go.Oper} {ρ : Go.Operand → PV} {H : PH}
theorem cJ {src dst : Nat} {x : Go.Operand} {ks kd k : Go.IntKind} {n : Int} (ho : o.op = .convert src dst x := by exact rfl) (hs : lkN ikL src = some ks := by exact rfl) (hd : lkN ikL dst = some kd := by exact rfl) (hx : ρ x = .g (.int k n) := by exact rfl) : PO Try.prog o ρ H (.g (.int kd (kd.wrap n))) H := cI ho (IK hs) (IK hd) hx
theorem mG {fn : Go.Fn} {first cap : Array Go.Operand} (ho : o.op = .makeFunc fn first cap := by exact rfl) : PO Try.prog o ρ H (.clo fn (first.toList.map ρ) (cap.toList.map ρ)) H := mF ho
theorem nD {x : Go.Operand} {p : PV} (ho : o.op = .nilCheck x := by exact rfl) (hx : notNil (ρ x) = some p := by exact rfl) : PO Try.prog o ρ H p H := nC ho hx
theorem bT {t n e size : Nat} {parts : Array (Nat × Go.Operand)} {z : Go.Value} {b : Bool} {cs : List PV} {gs : List GV} (ho : o.op = .buildSlice t n parts := by exact rfl) (he : lkN elL t = some e := by exact rfl) (hs : lkN szL e = some size := by exact rfl) (ha : lkN agL e = some b := by exact rfl)
    (hz : lkN zrL e = some z := by exact rfl) (hz1 : z.cells.toList.all (·.oneCell') = true := by exact rfl) (hzs : Nat.beq z.cells.size size = true := by exact rfl) (hpos : Nat.ble 1 size = true := by exact rfl) (hb : (b || Nat.beq size 1) = true := by exact rfl) (hn : Nat.ble (n * size) 16777216 = true := by exact rfl)
    (hfill : fillP (fun i => some (i * size, size)) (zerosP z n) (partsP ρ parts.toList) = some cs := by exact rfl) (hg : allG cs = some gs := by exact rfl) : PO Try.prog o ρ H (.g (.sl (group b size n gs))) H := bS ho (EL he) (SZ hs) (AG ha) (ZR hz) hz1 hzs hpos hb hn hfill hg
theorem cq {f : Go.Operand} {args : Array Go.Operand} {ts : Array Nat} {id : Nat} {ps : List PV} {v : PV} (hp : PC Try.prog id ps ⟨[], [], []⟩ v ⟨[], [], []⟩) (ho : o.op = .call { callee := .value f, args := args, argTypes := ts } := by exact rfl)
    (hf : ρ f = .g (.raw (.func (.func id) #[] #[])) := by exact rfl) (he : inN enL id = true := by exact rfl) (ha : packs ρ args.toList = ps := by exact rfl) (hps : allB ps = true := by exact rfl) (hv : closedB v = true := by exact rfl) : PO Try.prog o ρ H v H := cl ho hf (EN he) hp ha hps hv
end

end Go.Proofs.Ytlibajlfojkohaa

