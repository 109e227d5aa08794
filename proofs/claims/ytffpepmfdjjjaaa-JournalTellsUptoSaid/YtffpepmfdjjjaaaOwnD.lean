/- What the program's functions compute, each shown once; and plain laws of it. -/
import Derived.Test.YtffpepmfdjjjaaaRows
import Derived.Test.YtffpepmfdjjjaaaPureC
/- What the program says of its types and functions: tables, held against the program by the kernel. Printed by wip/tools/gen_facts.py. -/
set_option maxRecDepth 100000
namespace Go.Proofs.Ytffpepmfdjjjaaa
open Go.Pure

def agL : List (Nat × Bool) := [(0, false), (1, false), (2, false), (3, false), (4, false), (5, false), (6, false), (7, true), (8, true), (9, false), (10, false), (11, false), (12, false), (13, true), (14, true), (15, false), (16, false), (17, false), (18, true), (19, true), (20, false), (21, false), (22, false), (23, false), (24, true), (25, true), (26, true), (27, true), (28, false), (29, true), (30, true), (31, false), (32, false), (33, false), (34, false), (35, false), (36, false), (37, false), (38, false), (39, false), (40, false), (41, false), (42, false), (43, false), (44, false), (45, false), (46, false), (47, false), (48, false), (49, false), (50, false), (51, false), (52, false), (53, false), (54, false), (55, false), (56, false), (57, false), (58, false), (59, false), (60, false), (61, false), (62, false), (63, false), (64, false), (65, true), (66, true), (67, false), (68, false), (69, false), (70, false), (71, true), (72, true), (73, false), (74, false), (75, false), (76, false), (77, false), (78, false), (79, true), (80, true), (81, false), (82, false), (83, false), (84, false), (85, false), (86, false), (87, false), (88, false), (89, false), (90, false), (91, true), (92, true), (93, false), (94, false), (95, false), (96, false), (97, false), (98, false), (99, false), (100, true), (101, true), (102, false), (103, false), (104, false), (105, false), (106, false), (107, false), (108, false), (109, false), (110, true), (111, true), (112, true), (113, true), (114, false), (115, false), (116, true), (117, true), (118, false), (119, false), (120, true), (121, true), (122, false), (123, false), (124, false), (125, false), (126, false), (127, false), (128, false), (129, false), (130, false), (131, false), (132, false), (133, false), (134, false), (135, false), (136, false), (137, false), (138, false), (139, false), (140, false), (141, false), (142, false), (143, false), (144, false), (145, false), (146, false), (147, false), (148, false), (149, false), (150, false), (151, false), (152, false), (153, false), (154, false), (155, false), (156, true), (157, true), (158, true), (159, true), (160, true), (161, false), (162, false), (163, false), (164, false), (165, false), (166, false), (167, false), (168, true), (169, true), (170, false)]
def szL : List (Nat × Nat) := [(0, 1), (1, 1), (2, 1), (3, 1), (4, 1), (5, 1), (6, 1), (7, 4), (8, 4), (9, 1), (10, 1), (11, 1), (12, 1), (13, 2), (14, 2), (15, 1), (16, 1), (17, 1), (18, 1), (19, 1), (20, 1), (21, 1), (22, 1), (23, 1), (24, 5), (25, 5), (26, 10), (27, 10), (28, 1), (29, 4), (30, 4), (31, 1), (32, 1), (33, 1), (34, 1), (35, 1), (36, 1), (37, 1), (38, 1), (39, 1), (40, 1), (41, 1), (42, 1), (43, 1), (44, 1), (45, 1), (46, 1), (47, 1), (48, 1), (49, 1), (50, 1), (51, 1), (52, 1), (53, 1), (54, 1), (55, 1), (56, 1), (57, 1), (58, 1), (59, 1), (60, 1), (61, 1), (62, 1), (63, 1), (64, 1), (65, 3), (66, 3), (67, 1), (68, 1), (69, 1), (70, 1), (71, 2), (72, 2), (73, 1), (74, 1), (75, 1), (76, 1), (77, 1), (78, 1), (79, 1), (80, 1), (81, 1), (82, 1), (83, 1), (84, 1), (85, 1), (86, 1), (87, 1), (88, 1), (89, 1), (90, 1), (91, 1), (92, 1), (93, 1), (94, 1), (95, 1), (96, 1), (97, 1), (98, 1), (99, 1), (100, 2), (101, 2), (102, 1), (103, 1), (104, 1), (105, 1), (106, 1), (107, 1), (108, 1), (109, 1), (110, 2), (111, 2), (112, 6), (113, 6), (114, 1), (115, 1), (116, 16), (117, 16), (118, 1), (119, 1), (120, 9), (121, 9), (122, 1), (123, 1), (124, 1), (125, 1), (126, 1), (127, 1), (128, 1), (129, 1), (130, 1), (131, 1), (132, 1), (133, 1), (134, 1), (135, 1), (136, 1), (137, 1), (138, 1), (139, 1), (140, 1), (141, 1), (142, 1), (143, 1), (144, 1), (145, 1), (146, 1), (147, 1), (148, 1), (149, 1), (150, 1), (151, 1), (152, 1), (153, 1), (154, 1), (155, 1), (156, 4), (157, 4), (158, 0), (159, 0), (160, 0), (161, 1), (162, 1), (163, 1), (164, 1), (165, 1), (166, 1), (167, 1), (168, 11), (169, 11), (170, 1)]
def fdL : List ((Nat × Nat) × (Nat × Nat)) := [((7, 0), (0, 2)), ((7, 1), (1, 3)), ((7, 2), (2, 4)), ((7, 3), (3, 6)), ((8, 0), (0, 2)), ((8, 1), (1, 3)), ((8, 2), (2, 4)), ((8, 3), (3, 6)), ((13, 0), (0, 9)), ((13, 1), (1, 12)), ((14, 0), (0, 9)), ((14, 1), (1, 12)), ((18, 0), (0, 17)), ((19, 0), (0, 17)), ((24, 0), (0, 9)), ((24, 1), (1, 3)), ((24, 2), (2, 22)), ((24, 3), (3, 22)), ((24, 4), (4, 23)), ((25, 0), (0, 9)), ((25, 1), (1, 3)), ((25, 2), (2, 22)), ((25, 3), (3, 22)), ((25, 4), (4, 23)), ((26, 0), (0, 3)), ((26, 1), (1, 3)), ((26, 2), (2, 3)), ((26, 3), (3, 25)), ((26, 4), (8, 9)), ((26, 5), (9, 3)), ((27, 0), (0, 3)), ((27, 1), (1, 3)), ((27, 2), (2, 3)), ((27, 3), (3, 25)), ((27, 4), (8, 9)), ((27, 5), (9, 3)), ((29, 0), (0, 3)), ((29, 1), (1, 2)), ((29, 2), (2, 9)), ((29, 3), (3, 28)), ((30, 0), (0, 3)), ((30, 1), (1, 2)), ((30, 2), (2, 9)), ((30, 3), (3, 28)), ((65, 0), (0, 9)), ((65, 1), (1, 3)), ((65, 2), (2, 64)), ((66, 0), (0, 9)), ((66, 1), (1, 3)), ((66, 2), (2, 64)), ((71, 0), (0, 69)), ((71, 1), (1, 70)), ((72, 0), (0, 69)), ((72, 1), (1, 70)), ((79, 0), (0, 4)), ((80, 0), (0, 4)), ((91, 0), (0, 3)), ((92, 0), (0, 3)), ((100, 0), (0, 38)), ((100, 1), (1, 4)), ((101, 0), (0, 38)), ((101, 1), (1, 4)), ((110, 0), (0, 2)), ((110, 1), (1, 3)), ((111, 0), (0, 2)), ((111, 1), (1, 3)), ((112, 0), (0, 3)), ((112, 1), (1, 4)), ((112, 2), (2, 111)), ((112, 3), (4, 9)), ((112, 4), (5, 64)), ((113, 0), (0, 3)), ((113, 1), (1, 4)), ((113, 2), (2, 111)), ((113, 3), (4, 9)), ((113, 4), (5, 64)), ((116, 0), (0, 3)), ((116, 1), (1, 113)), ((116, 2), (7, 113)), ((116, 3), (13, 4)), ((116, 4), (14, 4)), ((116, 5), (15, 69)), ((117, 0), (0, 3)), ((117, 1), (1, 113)), ((117, 2), (7, 113)), ((117, 3), (13, 4)), ((117, 4), (14, 4)), ((117, 5), (15, 69)), ((120, 0), (0, 3)), ((120, 1), (1, 113)), ((120, 2), (7, 9)), ((120, 3), (8, 70)), ((121, 0), (0, 3)), ((121, 1), (1, 113)), ((121, 2), (7, 9)), ((121, 3), (8, 70)), ((156, 0), (0, 17)), ((156, 1), (1, 17)), ((156, 2), (2, 17)), ((156, 3), (3, 9)), ((157, 0), (0, 17)), ((157, 1), (1, 17)), ((157, 2), (2, 17)), ((157, 3), (3, 9)), ((168, 0), (0, 12)), ((168, 1), (1, 12)), ((168, 2), (2, 40)), ((168, 3), (3, 162)), ((168, 4), (4, 5)), ((168, 5), (5, 5)), ((168, 6), (6, 163)), ((168, 7), (7, 164)), ((168, 8), (8, 165)), ((168, 9), (9, 166)), ((168, 10), (10, 167)), ((169, 0), (0, 12)), ((169, 1), (1, 12)), ((169, 2), (2, 40)), ((169, 3), (3, 162)), ((169, 4), (4, 5)), ((169, 5), (5, 5)), ((169, 6), (6, 163)), ((169, 7), (7, 164)), ((169, 8), (8, 165)), ((169, 9), (9, 166)), ((169, 10), (10, 167))]
def elL : List (Nat × Nat) := [(22, 66), (23, 72), (28, 30), (38, 5), (51, 27), (64, 113), (69, 117), (70, 121)]
def boL : List Nat := [4]
def stL : List Nat := [9, 10, 11]
def byL : List (Nat × Nat) := [(0, 0), (1, 8), (2, 8), (3, 8), (4, 1), (5, 1), (6, 1), (7, 24), (8, 24), (9, 16), (10, 16), (11, 16), (12, 8), (13, 24), (14, 24), (15, 8), (16, 8), (17, 8), (18, 8), (19, 8), (20, 16), (21, 4), (22, 24), (23, 24), (24, 96), (25, 96), (26, 144), (27, 144), (28, 24), (29, 56), (30, 56), (31, 8), (32, 8), (33, 8), (34, 0), (35, 8), (36, 8), (37, 8), (38, 24), (39, 8), (40, 4), (41, 8), (42, 0), (43, 8), (44, 8), (45, 0), (46, 8), (47, 8), (48, 8), (49, 8), (50, 8), (51, 24), (52, 8), (53, 8), (54, 0), (55, 8), (56, 8), (57, 8), (58, 8), (59, 8), (60, 8), (61, 8), (62, 8), (63, 8), (64, 24), (65, 48), (66, 48), (67, 8), (68, 8), (69, 24), (70, 24), (71, 48), (72, 48), (73, 8), (74, 8), (75, 8), (76, 8), (77, 8), (78, 8), (79, 1), (80, 1), (81, 8), (82, 8), (83, 8), (84, 8), (85, 8), (86, 8), (87, 8), (88, 8), (89, 8), (90, 8), (91, 8), (92, 8), (93, 8), (94, 8), (95, 8), (96, 8), (97, 8), (98, 8), (99, 8), (100, 32), (101, 32), (102, 8), (103, 0), (104, 8), (105, 0), (106, 8), (107, 0), (108, 8), (109, 8), (110, 16), (111, 16), (112, 72), (113, 72), (114, 8), (115, 8), (116, 184), (117, 184), (118, 8), (119, 8), (120, 120), (121, 120), (122, 8), (123, 8), (124, 8), (125, 8), (126, 8), (127, 8), (128, 8), (129, 8), (130, 8), (131, 8), (132, 8), (133, 8), (134, 8), (135, 8), (136, 8), (137, 8), (138, 8), (139, 8), (140, 8), (141, 8), (142, 0), (143, 8), (144, 0), (145, 8), (146, 8), (147, 8), (148, 8), (149, 8), (150, 8), (151, 8), (152, 8), (153, 8), (154, 8), (155, 8), (156, 40), (157, 40), (158, 0), (159, 0), (160, 0), (161, 8), (162, 1), (163, 1), (164, 8), (165, 8), (166, 4), (167, 4), (168, 48), (169, 48), (170, 8)]
def ikL : List (Nat × IntKind) := [(2, .i64), (3, .i64), (5, .u8), (6, .u8), (12, .u64), (21, .i32), (33, .i64), (40, .u32), (94, .u64), (95, .u64), (162, .u8), (163, .u8), (166, .i32), (167, .i32)]
def enL : List Nat := [3, 4, 5, 6, 7, 8, 9, 10, 11, 12, 13, 14, 15, 16, 17, 18, 19, 20, 21, 22, 23, 24, 25, 26, 27, 28, 29, 30, 31, 32, 33, 34, 35, 36, 37, 38, 39, 40, 41, 42, 43, 44, 45, 46, 47, 48, 49, 50, 51, 52, 53, 54, 55, 56, 57, 58, 59, 60, 61, 62, 63, 64, 65, 66, 67, 68, 69, 70, 71, 72, 73, 74, 75, 76, 77, 78, 79, 80, 81, 82, 83, 84, 85, 86, 87, 88, 89, 90, 91, 92, 93, 94, 95, 96]

def lkN {α : Type} : List (Nat × α) → Nat → Option α
  | [], _ => none
  | (k, a) :: r, t => bif Nat.beq t k then some a else lkN r t
def lkM : List ((Nat × Nat) × (Nat × Nat)) → Nat → Nat → Option (Nat × Nat)
  | [], _, _ => none
  | ((k, j), a) :: r, t, i => bif Nat.beq t k && Nat.beq i j then some a else lkM r t i
def inN : List Nat → Nat → Bool
  | [], _ => false
  | k :: r, t => bif Nat.beq t k then true else inN r t
theorem lkN_mem {α : Type} : ∀ {l : List (Nat × α)} {t : Nat} {a : α}, lkN l t = some a → (t, a) ∈ l
  | [], _, _, h => by cases h
  | (k, b) :: r, t, a, h => by
    unfold lkN at h
    cases e : Nat.beq t k with
    | true => rw [e, cond_true] at h; cases h; rw [Nat.eq_of_beq_eq_true e]; exact List.mem_cons_self
    | false => rw [e, cond_false] at h; exact List.mem_cons_of_mem _ (lkN_mem h)
theorem lkM_mem : ∀ {l : List ((Nat × Nat) × (Nat × Nat))} {t i : Nat} {a : Nat × Nat}, lkM l t i = some a → ((t, i), a) ∈ l
  | [], _, _, _, h => by cases h
  | ((k, j), b) :: r, t, i, a, h => by
    unfold lkM at h
    cases e : (Nat.beq t k && Nat.beq i j) with
    | true =>
      rw [e, cond_true] at h; cases h
      simp only [Bool.and_eq_true] at e
      rw [Nat.eq_of_beq_eq_true e.1, Nat.eq_of_beq_eq_true e.2]; exact List.mem_cons_self
    | false => rw [e, cond_false] at h; exact List.mem_cons_of_mem _ (lkM_mem h)
theorem inN_mem : ∀ {l : List Nat} {t : Nat}, inN l t = true → t ∈ l
  | [], _, h => by cases h
  | k :: r, t, h => by
    unfold inN at h
    cases e : Nat.beq t k with
    | true => rw [Nat.eq_of_beq_eq_true e]; exact List.mem_cons_self
    | false => rw [e, cond_false] at h; exact List.mem_cons_of_mem _ (inN_mem h)

theorem ag_all : (agL.all fun p => aggB Try.prog p.1 == some p.2) = true := by kernel_rfl
theorem sz_all : (szL.all fun p => szB Try.prog p.1 == some p.2) = true := by kernel_rfl
theorem fd_all : (fdL.all fun p => fieldB Try.prog p.1.1 p.1.2 == some p.2) = true := by kernel_rfl
def uSl (d : Option TypeDesc) : Option Nat := match d with | some (.slice e) => some e | _ => none
def uBo (d : Option TypeDesc) : Bool := match d with | some .bool => true | _ => false
def uSt (d : Option TypeDesc) : Bool := match d with | some .string => true | _ => false
theorem el_all : (elL.all fun p => uSl (Try.prog.underlying p.1) == some p.2) = true := by kernel_rfl
theorem bo_all : (boL.all fun p => uBo (Try.prog.underlying p)) = true := by kernel_rfl
theorem st_all : (stL.all fun p => uSt (Try.prog.underlying p)) = true := by kernel_rfl
theorem by_all : (byL.all fun p => bytesB Try.prog p.1 == some p.2) = true := by kernel_rfl
theorem ik_all : (ikL.all fun p => match intB Try.prog p.1 with | some k => kindEq k p.2 | none => false) = true := by kernel_rfl
theorem en_all : (enL.all fun p => enterB Try.prog p) = true := by kernel_rfl

theorem AG {t : Nat} {b : Bool} (h : lkN agL t = some b) : aggB Try.prog t = some b := by
  simpa using List.all_eq_true.1 ag_all _ (lkN_mem h)
theorem SZ {t n : Nat} (h : lkN szL t = some n) : szB Try.prog t = some n := by
  simpa using List.all_eq_true.1 sz_all _ (lkN_mem h)
theorem BY {t n : Nat} (h : lkN byL t = some n) : bytesB Try.prog t = some n := by
  simpa using List.all_eq_true.1 by_all _ (lkN_mem h)
theorem IK {t : Nat} {k : IntKind} (h : lkN ikL t = some k) : intB Try.prog t = some k := by
  have h1 := List.all_eq_true.1 ik_all _ (lkN_mem h)
  simp only at h1
  split at h1
  · rename_i k' e; rw [e, kindEq_ok h1]
  · cases h1
theorem FD {t k d ft : Nat} (h : lkM fdL t k = some (d, ft)) : fieldB Try.prog t k = some (d, ft) := by
  simpa using List.all_eq_true.1 fd_all _ (lkM_mem h)
theorem EL {t e : Nat} (h : lkN elL t = some e) : Try.prog.underlying t = some (.slice e) := by
  have h1 : uSl (Try.prog.underlying t) = some e := by simpa using List.all_eq_true.1 el_all _ (lkN_mem h)
  unfold uSl at h1
  split at h1
  · rename_i e' he; cases h1; exact he
  · cases h1
theorem BO {t : Nat} (h : inN boL t = true) : Try.prog.underlying t = some .bool := by
  have h1 := List.all_eq_true.1 bo_all _ (inN_mem h)
  unfold uBo at h1
  split at h1
  · assumption
  · cases h1
theorem ST {t : Nat} (h : inN stL t = true) : Try.prog.underlying t = some .string := by
  have h1 := List.all_eq_true.1 st_all _ (inN_mem h)
  unfold uSt at h1
  split at h1
  · assumption
  · cases h1
theorem EN {f : Nat} (h : inN enL f = true) : enterB Try.prog f = true := List.all_eq_true.1 en_all _ (inN_mem h)

theorem Z1 : zeroB Try.prog 1 = some (.nilFunc) := by kernel_rfl
theorem Z2 : zeroB Try.prog 2 = some (.int .i64 0) := by kernel_rfl
theorem Z3 : zeroB Try.prog 3 = some (.int .i64 0) := by kernel_rfl
theorem Z4 : zeroB Try.prog 4 = some (.bool false) := by kernel_rfl
theorem Z5 : zeroB Try.prog 5 = some (.int .u8 0) := by kernel_rfl
theorem Z6 : zeroB Try.prog 6 = some (.int .u8 0) := by kernel_rfl
theorem Z7 : zeroB Try.prog 7 = some (.agg #[.int .i64 0, .int .i64 0, .bool false, .int .u8 0]) := by kernel_rfl
theorem Z8 : zeroB Try.prog 8 = some (.agg #[.int .i64 0, .int .i64 0, .bool false, .int .u8 0]) := by kernel_rfl
theorem Z9 : zeroB Try.prog 9 = some (.string ⟨#[]⟩) := by kernel_rfl
theorem Z10 : zeroB Try.prog 10 = some (.string ⟨#[]⟩) := by kernel_rfl
theorem Z11 : zeroB Try.prog 11 = some (.string ⟨#[]⟩) := by kernel_rfl
theorem Z12 : zeroB Try.prog 12 = some (.int .u64 0) := by kernel_rfl
theorem Z13 : zeroB Try.prog 13 = some (.agg #[.string ⟨#[]⟩, .int .u64 0]) := by kernel_rfl
theorem Z14 : zeroB Try.prog 14 = some (.agg #[.string ⟨#[]⟩, .int .u64 0]) := by kernel_rfl
theorem Z15 : zeroB Try.prog 15 = some (.pointer none) := by kernel_rfl
theorem Z16 : zeroB Try.prog 16 = some (.pointer none) := by kernel_rfl
theorem Z17 : zeroB Try.prog 17 = some (.pointer none) := by kernel_rfl
theorem Z18 : zeroB Try.prog 18 = some (.agg #[.pointer none]) := by kernel_rfl
theorem Z19 : zeroB Try.prog 19 = some (.agg #[.pointer none]) := by kernel_rfl
theorem Z21 : zeroB Try.prog 21 = some (.int .i32 0) := by kernel_rfl
theorem Z22 : zeroB Try.prog 22 = some (.slice none 0 0) := by kernel_rfl
theorem Z23 : zeroB Try.prog 23 = some (.slice none 0 0) := by kernel_rfl
theorem Z24 : zeroB Try.prog 24 = some (.agg #[.string ⟨#[]⟩, .int .i64 0, .slice none 0 0, .slice none 0 0, .slice none 0 0]) := by kernel_rfl
theorem Z25 : zeroB Try.prog 25 = some (.agg #[.string ⟨#[]⟩, .int .i64 0, .slice none 0 0, .slice none 0 0, .slice none 0 0]) := by kernel_rfl
theorem Z26 : zeroB Try.prog 26 = some (.agg #[.int .i64 0, .int .i64 0, .int .i64 0, .string ⟨#[]⟩, .int .i64 0, .slice none 0 0, .slice none 0 0, .slice none 0 0, .string ⟨#[]⟩, .int .i64 0]) := by kernel_rfl
theorem Z27 : zeroB Try.prog 27 = some (.agg #[.int .i64 0, .int .i64 0, .int .i64 0, .string ⟨#[]⟩, .int .i64 0, .slice none 0 0, .slice none 0 0, .slice none 0 0, .string ⟨#[]⟩, .int .i64 0]) := by kernel_rfl
theorem Z28 : zeroB Try.prog 28 = some (.slice none 0 0) := by kernel_rfl
theorem Z29 : zeroB Try.prog 29 = some (.agg #[.int .i64 0, .int .i64 0, .string ⟨#[]⟩, .slice none 0 0]) := by kernel_rfl
theorem Z30 : zeroB Try.prog 30 = some (.agg #[.int .i64 0, .int .i64 0, .string ⟨#[]⟩, .slice none 0 0]) := by kernel_rfl
theorem Z31 : zeroB Try.prog 31 = some (.nilFunc) := by kernel_rfl
theorem Z32 : zeroB Try.prog 32 = some (.nilFunc) := by kernel_rfl
theorem Z33 : zeroB Try.prog 33 = some (.int .i64 0) := by kernel_rfl
theorem Z35 : zeroB Try.prog 35 = some (.nilFunc) := by kernel_rfl
theorem Z36 : zeroB Try.prog 36 = some (.nilFunc) := by kernel_rfl
theorem Z37 : zeroB Try.prog 37 = some (.nilFunc) := by kernel_rfl
theorem Z38 : zeroB Try.prog 38 = some (.slice none 0 0) := by kernel_rfl
theorem Z39 : zeroB Try.prog 39 = some (.nilFunc) := by kernel_rfl
theorem Z40 : zeroB Try.prog 40 = some (.int .u32 0) := by kernel_rfl
theorem Z41 : zeroB Try.prog 41 = some (.nilFunc) := by kernel_rfl
theorem Z43 : zeroB Try.prog 43 = some (.nilFunc) := by kernel_rfl
theorem Z44 : zeroB Try.prog 44 = some (.nilFunc) := by kernel_rfl
theorem Z46 : zeroB Try.prog 46 = some (.nilFunc) := by kernel_rfl
theorem Z47 : zeroB Try.prog 47 = some (.nilFunc) := by kernel_rfl
theorem Z48 : zeroB Try.prog 48 = some (.nilFunc) := by kernel_rfl
theorem Z49 : zeroB Try.prog 49 = some (.nilFunc) := by kernel_rfl
theorem Z50 : zeroB Try.prog 50 = some (.nilFunc) := by kernel_rfl
theorem Z51 : zeroB Try.prog 51 = some (.slice none 0 0) := by kernel_rfl
theorem Z52 : zeroB Try.prog 52 = some (.nilFunc) := by kernel_rfl
theorem Z53 : zeroB Try.prog 53 = some (.nilFunc) := by kernel_rfl
theorem Z55 : zeroB Try.prog 55 = some (.nilFunc) := by kernel_rfl
theorem Z56 : zeroB Try.prog 56 = some (.nilFunc) := by kernel_rfl
theorem Z57 : zeroB Try.prog 57 = some (.nilFunc) := by kernel_rfl
theorem Z58 : zeroB Try.prog 58 = some (.nilFunc) := by kernel_rfl
theorem Z59 : zeroB Try.prog 59 = some (.nilFunc) := by kernel_rfl
theorem Z60 : zeroB Try.prog 60 = some (.nilFunc) := by kernel_rfl
theorem Z61 : zeroB Try.prog 61 = some (.nilFunc) := by kernel_rfl
theorem Z62 : zeroB Try.prog 62 = some (.nilFunc) := by kernel_rfl
theorem Z63 : zeroB Try.prog 63 = some (.nilFunc) := by kernel_rfl
theorem Z64 : zeroB Try.prog 64 = some (.slice none 0 0) := by kernel_rfl
theorem Z65 : zeroB Try.prog 65 = some (.agg #[.string ⟨#[]⟩, .int .i64 0, .slice none 0 0]) := by kernel_rfl
theorem Z66 : zeroB Try.prog 66 = some (.agg #[.string ⟨#[]⟩, .int .i64 0, .slice none 0 0]) := by kernel_rfl
theorem Z67 : zeroB Try.prog 67 = some (.nilFunc) := by kernel_rfl
theorem Z68 : zeroB Try.prog 68 = some (.nilFunc) := by kernel_rfl
theorem Z69 : zeroB Try.prog 69 = some (.slice none 0 0) := by kernel_rfl
theorem Z70 : zeroB Try.prog 70 = some (.slice none 0 0) := by kernel_rfl
theorem Z71 : zeroB Try.prog 71 = some (.agg #[.slice none 0 0, .slice none 0 0]) := by kernel_rfl
theorem Z72 : zeroB Try.prog 72 = some (.agg #[.slice none 0 0, .slice none 0 0]) := by kernel_rfl
theorem Z73 : zeroB Try.prog 73 = some (.nilFunc) := by kernel_rfl
theorem Z74 : zeroB Try.prog 74 = some (.nilFunc) := by kernel_rfl
theorem Z75 : zeroB Try.prog 75 = some (.nilFunc) := by kernel_rfl
theorem Z76 : zeroB Try.prog 76 = some (.nilFunc) := by kernel_rfl
theorem Z77 : zeroB Try.prog 77 = some (.nilFunc) := by kernel_rfl
theorem Z78 : zeroB Try.prog 78 = some (.pointer none) := by kernel_rfl
theorem Z79 : zeroB Try.prog 79 = some (.agg #[.bool false]) := by kernel_rfl
theorem Z80 : zeroB Try.prog 80 = some (.agg #[.bool false]) := by kernel_rfl
theorem Z81 : zeroB Try.prog 81 = some (.nilFunc) := by kernel_rfl
theorem Z82 : zeroB Try.prog 82 = some (.nilFunc) := by kernel_rfl
theorem Z83 : zeroB Try.prog 83 = some (.nilFunc) := by kernel_rfl
theorem Z84 : zeroB Try.prog 84 = some (.nilFunc) := by kernel_rfl
theorem Z85 : zeroB Try.prog 85 = some (.nilFunc) := by kernel_rfl
theorem Z86 : zeroB Try.prog 86 = some (.nilFunc) := by kernel_rfl
theorem Z87 : zeroB Try.prog 87 = some (.nilFunc) := by kernel_rfl
theorem Z88 : zeroB Try.prog 88 = some (.nilFunc) := by kernel_rfl
theorem Z89 : zeroB Try.prog 89 = some (.pointer none) := by kernel_rfl
theorem Z90 : zeroB Try.prog 90 = some (.pointer none) := by kernel_rfl
theorem Z91 : zeroB Try.prog 91 = some (.agg #[.int .i64 0]) := by kernel_rfl
theorem Z92 : zeroB Try.prog 92 = some (.agg #[.int .i64 0]) := by kernel_rfl
theorem Z93 : zeroB Try.prog 93 = some (.nilFunc) := by kernel_rfl
theorem Z94 : zeroB Try.prog 94 = some (.int .u64 0) := by kernel_rfl
theorem Z95 : zeroB Try.prog 95 = some (.int .u64 0) := by kernel_rfl
theorem Z96 : zeroB Try.prog 96 = some (.nilFunc) := by kernel_rfl
theorem Z97 : zeroB Try.prog 97 = some (.nilFunc) := by kernel_rfl
theorem Z98 : zeroB Try.prog 98 = some (.nilFunc) := by kernel_rfl
theorem Z99 : zeroB Try.prog 99 = some (.pointer none) := by kernel_rfl
theorem Z100 : zeroB Try.prog 100 = some (.agg #[.slice none 0 0, .bool false]) := by kernel_rfl
theorem Z101 : zeroB Try.prog 101 = some (.agg #[.slice none 0 0, .bool false]) := by kernel_rfl
theorem Z102 : zeroB Try.prog 102 = some (.nilFunc) := by kernel_rfl
theorem Z104 : zeroB Try.prog 104 = some (.nilFunc) := by kernel_rfl
theorem Z106 : zeroB Try.prog 106 = some (.nilFunc) := by kernel_rfl
theorem Z108 : zeroB Try.prog 108 = some (.nilFunc) := by kernel_rfl
theorem Z109 : zeroB Try.prog 109 = some (.nilFunc) := by kernel_rfl
theorem Z110 : zeroB Try.prog 110 = some (.agg #[.int .i64 0, .int .i64 0]) := by kernel_rfl
theorem Z111 : zeroB Try.prog 111 = some (.agg #[.int .i64 0, .int .i64 0]) := by kernel_rfl
theorem Z112 : zeroB Try.prog 112 = some (.agg #[.int .i64 0, .bool false, .int .i64 0, .int .i64 0, .string ⟨#[]⟩, .slice none 0 0]) := by kernel_rfl
theorem Z113 : zeroB Try.prog 113 = some (.agg #[.int .i64 0, .bool false, .int .i64 0, .int .i64 0, .string ⟨#[]⟩, .slice none 0 0]) := by kernel_rfl
theorem Z114 : zeroB Try.prog 114 = some (.nilFunc) := by kernel_rfl
theorem Z115 : zeroB Try.prog 115 = some (.nilFunc) := by kernel_rfl
theorem Z116 : zeroB Try.prog 116 = some (.agg #[.int .i64 0, .int .i64 0, .bool false, .int .i64 0, .int .i64 0, .string ⟨#[]⟩, .slice none 0 0, .int .i64 0, .bool false, .int .i64 0, .int .i64 0, .string ⟨#[]⟩, .slice none 0 0, .bool false, .bool false, .slice none 0 0]) := by kernel_rfl
theorem Z117 : zeroB Try.prog 117 = some (.agg #[.int .i64 0, .int .i64 0, .bool false, .int .i64 0, .int .i64 0, .string ⟨#[]⟩, .slice none 0 0, .int .i64 0, .bool false, .int .i64 0, .int .i64 0, .string ⟨#[]⟩, .slice none 0 0, .bool false, .bool false, .slice none 0 0]) := by kernel_rfl
theorem Z118 : zeroB Try.prog 118 = some (.nilFunc) := by kernel_rfl
theorem Z119 : zeroB Try.prog 119 = some (.nilFunc) := by kernel_rfl
theorem Z120 : zeroB Try.prog 120 = some (.agg #[.int .i64 0, .int .i64 0, .bool false, .int .i64 0, .int .i64 0, .string ⟨#[]⟩, .slice none 0 0, .string ⟨#[]⟩, .slice none 0 0]) := by kernel_rfl
theorem Z121 : zeroB Try.prog 121 = some (.agg #[.int .i64 0, .int .i64 0, .bool false, .int .i64 0, .int .i64 0, .string ⟨#[]⟩, .slice none 0 0, .string ⟨#[]⟩, .slice none 0 0]) := by kernel_rfl
theorem Z122 : zeroB Try.prog 122 = some (.nilFunc) := by kernel_rfl
theorem Z123 : zeroB Try.prog 123 = some (.nilFunc) := by kernel_rfl
theorem Z124 : zeroB Try.prog 124 = some (.nilFunc) := by kernel_rfl
theorem Z125 : zeroB Try.prog 125 = some (.nilFunc) := by kernel_rfl
theorem Z126 : zeroB Try.prog 126 = some (.nilFunc) := by kernel_rfl
theorem Z127 : zeroB Try.prog 127 = some (.nilFunc) := by kernel_rfl
theorem Z128 : zeroB Try.prog 128 = some (.nilFunc) := by kernel_rfl
theorem Z129 : zeroB Try.prog 129 = some (.nilFunc) := by kernel_rfl
theorem Z130 : zeroB Try.prog 130 = some (.nilFunc) := by kernel_rfl
theorem Z131 : zeroB Try.prog 131 = some (.nilFunc) := by kernel_rfl
theorem Z132 : zeroB Try.prog 132 = some (.nilFunc) := by kernel_rfl
theorem Z133 : zeroB Try.prog 133 = some (.nilFunc) := by kernel_rfl
theorem Z134 : zeroB Try.prog 134 = some (.nilFunc) := by kernel_rfl
theorem Z135 : zeroB Try.prog 135 = some (.nilFunc) := by kernel_rfl
theorem Z136 : zeroB Try.prog 136 = some (.nilFunc) := by kernel_rfl
theorem Z137 : zeroB Try.prog 137 = some (.nilFunc) := by kernel_rfl
theorem Z138 : zeroB Try.prog 138 = some (.nilFunc) := by kernel_rfl
theorem Z139 : zeroB Try.prog 139 = some (.nilFunc) := by kernel_rfl
theorem Z140 : zeroB Try.prog 140 = some (.nilFunc) := by kernel_rfl
theorem Z141 : zeroB Try.prog 141 = some (.nilFunc) := by kernel_rfl
theorem Z143 : zeroB Try.prog 143 = some (.nilFunc) := by kernel_rfl
theorem Z145 : zeroB Try.prog 145 = some (.nilFunc) := by kernel_rfl
theorem Z146 : zeroB Try.prog 146 = some (.nilFunc) := by kernel_rfl
theorem Z147 : zeroB Try.prog 147 = some (.nilFunc) := by kernel_rfl
theorem Z148 : zeroB Try.prog 148 = some (.nilFunc) := by kernel_rfl
theorem Z149 : zeroB Try.prog 149 = some (.nilFunc) := by kernel_rfl
theorem Z150 : zeroB Try.prog 150 = some (.nilFunc) := by kernel_rfl
theorem Z151 : zeroB Try.prog 151 = some (.nilFunc) := by kernel_rfl
theorem Z152 : zeroB Try.prog 152 = some (.nilFunc) := by kernel_rfl
theorem Z153 : zeroB Try.prog 153 = some (.nilFunc) := by kernel_rfl
theorem Z154 : zeroB Try.prog 154 = some (.nilFunc) := by kernel_rfl
theorem Z155 : zeroB Try.prog 155 = some (.nilFunc) := by kernel_rfl
theorem Z156 : zeroB Try.prog 156 = some (.agg #[.pointer none, .pointer none, .pointer none, .string ⟨#[]⟩]) := by kernel_rfl
theorem Z157 : zeroB Try.prog 157 = some (.agg #[.pointer none, .pointer none, .pointer none, .string ⟨#[]⟩]) := by kernel_rfl
theorem Z158 : zeroB Try.prog 158 = some (.agg #[]) := by kernel_rfl
theorem Z159 : zeroB Try.prog 159 = some (.agg #[]) := by kernel_rfl
theorem Z160 : zeroB Try.prog 160 = some (.agg #[]) := by kernel_rfl
theorem Z161 : zeroB Try.prog 161 = some (.nilFunc) := by kernel_rfl
theorem Z162 : zeroB Try.prog 162 = some (.int .u8 0) := by kernel_rfl
theorem Z163 : zeroB Try.prog 163 = some (.int .u8 0) := by kernel_rfl
theorem Z164 : zeroB Try.prog 164 = some (.nilFunc) := by kernel_rfl
theorem Z165 : zeroB Try.prog 165 = some (.pointer none) := by kernel_rfl
theorem Z166 : zeroB Try.prog 166 = some (.int .i32 0) := by kernel_rfl
theorem Z167 : zeroB Try.prog 167 = some (.int .i32 0) := by kernel_rfl
theorem Z168 : zeroB Try.prog 168 = some (.agg #[.int .u64 0, .int .u64 0, .int .u32 0, .int .u8 0, .int .u8 0, .int .u8 0, .int .u8 0, .nilFunc, .pointer none, .int .i32 0, .int .i32 0]) := by kernel_rfl
theorem Z169 : zeroB Try.prog 169 = some (.agg #[.int .u64 0, .int .u64 0, .int .u32 0, .int .u8 0, .int .u8 0, .int .u8 0, .int .u8 0, .nilFunc, .pointer none, .int .i32 0, .int .i32 0]) := by kernel_rfl
theorem Z170 : zeroB Try.prog 170 = some (.pointer none) := by kernel_rfl
def zrL : List (Nat × Value) := [(1, .nilFunc), (2, .int .i64 0), (3, .int .i64 0), (4, .bool false), (5, .int .u8 0), (6, .int .u8 0), (7, .agg #[.int .i64 0, .int .i64 0, .bool false, .int .u8 0]), (8, .agg #[.int .i64 0, .int .i64 0, .bool false, .int .u8 0]), (9, .string ⟨#[]⟩), (10, .string ⟨#[]⟩), (11, .string ⟨#[]⟩), (12, .int .u64 0), (13, .agg #[.string ⟨#[]⟩, .int .u64 0]), (14, .agg #[.string ⟨#[]⟩, .int .u64 0]), (15, .pointer none), (16, .pointer none), (17, .pointer none), (18, .agg #[.pointer none]), (19, .agg #[.pointer none]), (21, .int .i32 0), (22, .slice none 0 0), (23, .slice none 0 0), (24, .agg #[.string ⟨#[]⟩, .int .i64 0, .slice none 0 0, .slice none 0 0, .slice none 0 0]), (25, .agg #[.string ⟨#[]⟩, .int .i64 0, .slice none 0 0, .slice none 0 0, .slice none 0 0]), (26, .agg #[.int .i64 0, .int .i64 0, .int .i64 0, .string ⟨#[]⟩, .int .i64 0, .slice none 0 0, .slice none 0 0, .slice none 0 0, .string ⟨#[]⟩, .int .i64 0]), (27, .agg #[.int .i64 0, .int .i64 0, .int .i64 0, .string ⟨#[]⟩, .int .i64 0, .slice none 0 0, .slice none 0 0, .slice none 0 0, .string ⟨#[]⟩, .int .i64 0]), (28, .slice none 0 0), (29, .agg #[.int .i64 0, .int .i64 0, .string ⟨#[]⟩, .slice none 0 0]), (30, .agg #[.int .i64 0, .int .i64 0, .string ⟨#[]⟩, .slice none 0 0]), (31, .nilFunc), (32, .nilFunc), (33, .int .i64 0), (35, .nilFunc), (36, .nilFunc), (37, .nilFunc), (38, .slice none 0 0), (39, .nilFunc), (40, .int .u32 0), (41, .nilFunc), (43, .nilFunc), (44, .nilFunc), (46, .nilFunc), (47, .nilFunc), (48, .nilFunc), (49, .nilFunc), (50, .nilFunc), (51, .slice none 0 0), (52, .nilFunc), (53, .nilFunc), (55, .nilFunc), (56, .nilFunc), (57, .nilFunc), (58, .nilFunc), (59, .nilFunc), (60, .nilFunc), (61, .nilFunc), (62, .nilFunc), (63, .nilFunc), (64, .slice none 0 0), (65, .agg #[.string ⟨#[]⟩, .int .i64 0, .slice none 0 0]), (66, .agg #[.string ⟨#[]⟩, .int .i64 0, .slice none 0 0]), (67, .nilFunc), (68, .nilFunc), (69, .slice none 0 0), (70, .slice none 0 0), (71, .agg #[.slice none 0 0, .slice none 0 0]), (72, .agg #[.slice none 0 0, .slice none 0 0]), (73, .nilFunc), (74, .nilFunc), (75, .nilFunc), (76, .nilFunc), (77, .nilFunc), (78, .pointer none), (79, .agg #[.bool false]), (80, .agg #[.bool false]), (81, .nilFunc), (82, .nilFunc), (83, .nilFunc), (84, .nilFunc), (85, .nilFunc), (86, .nilFunc), (87, .nilFunc), (88, .nilFunc), (89, .pointer none), (90, .pointer none), (91, .agg #[.int .i64 0]), (92, .agg #[.int .i64 0]), (93, .nilFunc), (94, .int .u64 0), (95, .int .u64 0), (96, .nilFunc), (97, .nilFunc), (98, .nilFunc), (99, .pointer none), (100, .agg #[.slice none 0 0, .bool false]), (101, .agg #[.slice none 0 0, .bool false]), (102, .nilFunc), (104, .nilFunc), (106, .nilFunc), (108, .nilFunc), (109, .nilFunc), (110, .agg #[.int .i64 0, .int .i64 0]), (111, .agg #[.int .i64 0, .int .i64 0]), (112, .agg #[.int .i64 0, .bool false, .int .i64 0, .int .i64 0, .string ⟨#[]⟩, .slice none 0 0]), (113, .agg #[.int .i64 0, .bool false, .int .i64 0, .int .i64 0, .string ⟨#[]⟩, .slice none 0 0]), (114, .nilFunc), (115, .nilFunc), (116, .agg #[.int .i64 0, .int .i64 0, .bool false, .int .i64 0, .int .i64 0, .string ⟨#[]⟩, .slice none 0 0, .int .i64 0, .bool false, .int .i64 0, .int .i64 0, .string ⟨#[]⟩, .slice none 0 0, .bool false, .bool false, .slice none 0 0]), (117, .agg #[.int .i64 0, .int .i64 0, .bool false, .int .i64 0, .int .i64 0, .string ⟨#[]⟩, .slice none 0 0, .int .i64 0, .bool false, .int .i64 0, .int .i64 0, .string ⟨#[]⟩, .slice none 0 0, .bool false, .bool false, .slice none 0 0]), (118, .nilFunc), (119, .nilFunc), (120, .agg #[.int .i64 0, .int .i64 0, .bool false, .int .i64 0, .int .i64 0, .string ⟨#[]⟩, .slice none 0 0, .string ⟨#[]⟩, .slice none 0 0]), (121, .agg #[.int .i64 0, .int .i64 0, .bool false, .int .i64 0, .int .i64 0, .string ⟨#[]⟩, .slice none 0 0, .string ⟨#[]⟩, .slice none 0 0]), (122, .nilFunc), (123, .nilFunc), (124, .nilFunc), (125, .nilFunc), (126, .nilFunc), (127, .nilFunc), (128, .nilFunc), (129, .nilFunc), (130, .nilFunc), (131, .nilFunc), (132, .nilFunc), (133, .nilFunc), (134, .nilFunc), (135, .nilFunc), (136, .nilFunc), (137, .nilFunc), (138, .nilFunc), (139, .nilFunc), (140, .nilFunc), (141, .nilFunc), (143, .nilFunc), (145, .nilFunc), (146, .nilFunc), (147, .nilFunc), (148, .nilFunc), (149, .nilFunc), (150, .nilFunc), (151, .nilFunc), (152, .nilFunc), (153, .nilFunc), (154, .nilFunc), (155, .nilFunc), (156, .agg #[.pointer none, .pointer none, .pointer none, .string ⟨#[]⟩]), (157, .agg #[.pointer none, .pointer none, .pointer none, .string ⟨#[]⟩]), (158, .agg #[]), (159, .agg #[]), (160, .agg #[]), (161, .nilFunc), (162, .int .u8 0), (163, .int .u8 0), (164, .nilFunc), (165, .pointer none), (166, .int .i32 0), (167, .int .i32 0), (168, .agg #[.int .u64 0, .int .u64 0, .int .u32 0, .int .u8 0, .int .u8 0, .int .u8 0, .int .u8 0, .nilFunc, .pointer none, .int .i32 0, .int .i32 0]), (169, .agg #[.int .u64 0, .int .u64 0, .int .u32 0, .int .u8 0, .int .u8 0, .int .u8 0, .int .u8 0, .nilFunc, .pointer none, .int .i32 0, .int .i32 0]), (170, .pointer none)]
def AllP {α : Type} (Q : α → Prop) : List α → Prop
  | [] => True
  | a :: r => Q a ∧ AllP Q r
theorem AllP.mem {α : Type} {Q : α → Prop} : ∀ {l : List α}, AllP Q l → ∀ a ∈ l, Q a
  | [], _, a, h => by cases h
  | b :: r, h, a, ha => by
    rcases List.mem_cons.1 ha with rfl | ha
    · exact h.1
    · exact AllP.mem h.2 a ha
theorem zr_all : AllP (fun p : Nat × Value => zeroB Try.prog p.1 = some p.2) zrL := ⟨Z1, Z2, Z3, Z4, Z5, Z6, Z7, Z8, Z9, Z10, Z11, Z12, Z13, Z14, Z15, Z16, Z17, Z18, Z19, Z21, Z22, Z23, Z24, Z25, Z26, Z27, Z28, Z29, Z30, Z31, Z32, Z33, Z35, Z36, Z37, Z38, Z39, Z40, Z41, Z43, Z44, Z46, Z47, Z48, Z49, Z50, Z51, Z52, Z53, Z55, Z56, Z57, Z58, Z59, Z60, Z61, Z62, Z63, Z64, Z65, Z66, Z67, Z68, Z69, Z70, Z71, Z72, Z73, Z74, Z75, Z76, Z77, Z78, Z79, Z80, Z81, Z82, Z83, Z84, Z85, Z86, Z87, Z88, Z89, Z90, Z91, Z92, Z93, Z94, Z95, Z96, Z97, Z98, Z99, Z100, Z101, Z102, Z104, Z106, Z108, Z109, Z110, Z111, Z112, Z113, Z114, Z115, Z116, Z117, Z118, Z119, Z120, Z121, Z122, Z123, Z124, Z125, Z126, Z127, Z128, Z129, Z130, Z131, Z132, Z133, Z134, Z135, Z136, Z137, Z138, Z139, Z140, Z141, Z143, Z145, Z146, Z147, Z148, Z149, Z150, Z151, Z152, Z153, Z154, Z155, Z156, Z157, Z158, Z159, Z160, Z161, Z162, Z163, Z164, Z165, Z166, Z167, Z168, Z169, Z170, trivial⟩
theorem ZR {t : Nat} {z : Value} (h : lkN zrL t = some z) : zeroB Try.prog t = some z := zr_all.mem _ (lkN_mem h)
def plL : List (Nat × List (Nat × Nat)) := [(7, [(0, 1), (1, 1), (2, 1), (3, 1)]), (8, [(0, 1), (1, 1), (2, 1), (3, 1)]), (13, [(0, 1), (1, 1)]), (14, [(0, 1), (1, 1)]), (18, [(0, 1)]), (19, [(0, 1)]), (24, [(0, 1), (1, 1), (2, 1), (3, 1), (4, 1)]), (25, [(0, 1), (1, 1), (2, 1), (3, 1), (4, 1)]), (26, [(0, 1), (1, 1), (2, 1), (3, 5), (8, 1), (9, 1)]), (27, [(0, 1), (1, 1), (2, 1), (3, 5), (8, 1), (9, 1)]), (29, [(0, 1), (1, 1), (2, 1), (3, 1)]), (30, [(0, 1), (1, 1), (2, 1), (3, 1)]), (65, [(0, 1), (1, 1), (2, 1)]), (66, [(0, 1), (1, 1), (2, 1)]), (71, [(0, 1), (1, 1)]), (72, [(0, 1), (1, 1)]), (79, [(0, 1)]), (80, [(0, 1)]), (91, [(0, 1)]), (92, [(0, 1)]), (100, [(0, 1), (1, 1)]), (101, [(0, 1), (1, 1)]), (110, [(0, 1), (1, 1)]), (111, [(0, 1), (1, 1)]), (112, [(0, 1), (1, 1), (2, 2), (4, 1), (5, 1)]), (113, [(0, 1), (1, 1), (2, 2), (4, 1), (5, 1)]), (116, [(0, 1), (1, 6), (7, 6), (13, 1), (14, 1), (15, 1)]), (117, [(0, 1), (1, 6), (7, 6), (13, 1), (14, 1), (15, 1)]), (120, [(0, 1), (1, 6), (7, 1), (8, 1)]), (121, [(0, 1), (1, 6), (7, 1), (8, 1)]), (156, [(0, 1), (1, 1), (2, 1), (3, 1)]), (157, [(0, 1), (1, 1), (2, 1), (3, 1)]), (159, [(0, 0)]), (160, [(0, 0)]), (168, [(0, 1), (1, 1), (2, 1), (3, 1), (4, 1), (5, 1), (6, 1), (7, 1), (8, 1), (9, 1), (10, 1)]), (169, [(0, 1), (1, 1), (2, 1), (3, 1), (4, 1), (5, 1), (6, 1), (7, 1), (8, 1), (9, 1), (10, 1)])]
theorem pl_all : (plL.all fun p => placesB Try.prog p.1 == some p.2) = true := by kernel_rfl
theorem PL {t : Nat} {p : List (Nat × Nat)} (h : lkN plL t = some p) : placesB Try.prog t = some p := by
  simpa using List.all_eq_true.1 pl_all _ (lkN_mem h)
def efL : List (Nat × List Nat) := [(91, [0]), (92, [0]), (110, [0, 1]), (111, [0, 1])]
theorem ef_all : (efL.all fun p => eqfB Try.prog p.1 == some p.2) = true := by kernel_rfl
theorem EF {t : Nat} {l : List Nat} (h : lkN efL t = some l) : eqfB Try.prog t = some l := by
  simpa using List.all_eq_true.1 ef_all _ (lkN_mem h)
theorem mixed : Try.prog.follows .mixedOrders = true := by kernel_rfl
theorem one_all : (zrL.all fun p => p.2.cells.toList.all (·.oneCell')) = true := by kernel_rfl
def tab : Tab := { ag := lkN agL, sz := lkN szL, fd := lkM fdL, el := lkN elL, bo := inN boL, st := inN stL, zr := fun t => match lkN zrL t with | some z => some (z.cells.toList.map constC) | none => none, pl := lkN plL, ef := lkN efL }
theorem tabOk : TabOk Try.prog tab := by
  refine ⟨fun _ _ h => AG h, fun _ _ h => SZ h, fun _ _ _ _ h => FD h, fun _ _ h => EL h, fun _ h => BO h, fun _ h => ST h, fun t cs h => ?_, fun _ _ h => PL h, fun _ _ h => EF h⟩
  simp only [tab] at h
  split at h
  · rename_i z hz
    cases h
    exact ⟨z, ZR hz, List.all_eq_true.1 one_all _ (lkN_mem hz), rfl⟩
  · cases h
/-! ### Short words of the walk -/
section
variable {o : Go.Oper} {ρ : Go.Operand → PV} {H : PH}
theorem cJ {src dst : Nat} {x : Go.Operand} {ks kd k : Go.IntKind} {n : Int} (ho : o.op = .convert src dst x := by exact rfl) (hs : lkN ikL src = some ks := by exact rfl) (hd : lkN ikL dst = some kd := by exact rfl) (hx : ρ x = .g (.int k n) := by exact rfl) : PO Try.prog o ρ H (.g (.int kd (kd.wrap n))) H := cI ho (IK hs) (IK hd) hx
theorem mG {fn : Go.Fn} {first cap : Array Go.Operand} (ho : o.op = .makeFunc fn first cap := by exact rfl) : PO Try.prog o ρ H (.clo fn (first.toList.map ρ) (cap.toList.map ρ)) H := mF ho
theorem nD {x : Go.Operand} {p : PV} (ho : o.op = .nilCheck x := by exact rfl) (hx : notNil (ρ x) = some p := by exact rfl) : PO Try.prog o ρ H p H := nC ho hx
theorem bT {t n e size : Nat} {parts : Array (Nat × Go.Operand)} {z : Go.Value} {b : Bool} {cs : List PV} {gs : List GV} (ho : o.op = .buildSlice t n parts := by exact rfl) (he : lkN elL t = some e := by exact rfl) (hs : lkN szL e = some size := by exact rfl) (ha : lkN agL e = some b := by exact rfl)
    (hz : lkN zrL e = some z := by exact rfl) (hz1 : z.cells.toList.all (·.oneCell') = true := by exact rfl) (hzs : Nat.beq z.cells.size size = true := by exact rfl) (hpos : Nat.ble 1 size = true := by exact rfl) (hb : (b || Nat.beq size 1) = true := by exact rfl) (hn : Nat.ble (n * size) 16777216 = true := by exact rfl)
    (hfill : fillP (fun i => some (i * size, size)) (zerosP z n) (partsP ρ parts.toList) = some cs := by exact rfl) (hg : allG cs = some gs := by exact rfl) : PO Try.prog o ρ H (.g (.sl (group b size n gs))) H := bS ho (EL he) (SZ hs) (AG ha) (ZR hz) hz1 hzs hpos hb hn hfill hg
theorem cqP {f : Go.Operand} {args : Array Go.Operand} {ts : Array Nat} {id : Nat} {ps : List PV} {v : PV} (hp : PC Try.prog id ps ⟨[], [], []⟩ v ⟨[], [], []⟩) (ho : o.op = .call { callee := .value f, args := args, argTypes := ts } := by exact rfl)
    (hf : ρ f = .g (.raw (.func (.func id) #[] #[])) := by exact rfl) (he : inN enL id = true := by exact rfl) (ha : packs ρ args.toList = ps := by exact rfl) (hps : allB ps = true := by exact rfl) (hv : closedB v = true := by exact rfl) : PO Try.prog o ρ H v H := cl ho hf (EN he) hp ha hps hv
end
end Go.Proofs.Ytffpepmfdjjjaaa


namespace Go.Proofs.Ytffpepmfdjjjaaa
open Go.Pure
attribute [local irreducible] PW POps POpsD PO PC Cond

theorem wrap64 {n : Int} (h : -9223372036854775808 ≤ n ∧ n < 9223372036854775808) : IntKind.i64.wrap n = n := by
  simp [IntKind.wrap, IntKind.bits, IntKind.signed]; omega
def w32 (x : BitVec 32) : GV := .int .u32 x.toNat
theorem wrapU32 (x : BitVec 32) : IntKind.u32.wrap x.toNat = x.toNat := by
  have := x.isLt
  simp [IntKind.wrap, IntKind.bits, IntKind.signed]; omega
theorem ofInt32 (x : BitVec 32) : BitVec.ofInt 32 (x.toNat : Int) = x := by
  apply BitVec.eq_of_toNat_eq
  simp

/-- One bit of the check sum. -/
def crcBit (r : BitVec 32) : BitVec 32 := if r &&& 1#32 = 1#32 then (r >>> 1) ^^^ 0xedb88320#32 else r >>> 1
def iter : Nat → BitVec 32 → BitVec 32
  | 0, r => r
  | k + 1, r => crcBit (iter k r)
def crcByte (r : BitVec 32) (b : UInt8) : BitVec 32 := iter 8 (r ^^^ BitVec.ofNat 32 b.toNat)
def crc (r : BitVec 32) (l : List UInt8) : BitVec 32 := l.foldl crcByte r
theorem bys_get {l : List UInt8} {i : Nat} (h : i < l.length) : (bys l)[((i : Int)).toNat]? = some (byteG l[i]) := by
  simp [bys, h]

theorem xor32b (r : BitVec 32) (b : UInt8) : IntKind.u32.wrap ((BitVec.ofInt IntKind.u32.bits (r.toNat : Int) ^^^ BitVec.ofInt IntKind.u32.bits (IntKind.u32.wrap (b.toNat : Int))).toNat : Int) = ((r ^^^ BitVec.ofNat 32 b.toNat).toNat : Int) := by
  have h1 : IntKind.u32.wrap (b.toNat : Int) = b.toNat := by
    have := b.toNat_lt
    simp [IntKind.wrap, IntKind.bits, IntKind.signed]; omega
  rw [h1]
  show IntKind.u32.wrap ((BitVec.ofInt 32 (r.toNat : Int) ^^^ BitVec.ofInt 32 (b.toNat : Int)).toNat : Int) = _
  rw [wrapU32, ofInt32, BitVec.ofInt_natCast]
theorem shr32 (r : BitVec 32) : (r.toNat : Int).fdiv (2 ^ min (1 : Int).toNat IntKind.u32.bits) = ((r >>> 1).toNat : Int) := by
  have : (2 : Int) ^ min (1 : Int).toNat IntKind.u32.bits = 2 := by decide
  rw [this, Int.fdiv_eq_ediv_of_nonneg _ (by decide), BitVec.toNat_ushiftRight, Nat.shiftRight_eq_div_pow]
  omega
theorem and32 (r : BitVec 32) : IntKind.u32.wrap ((BitVec.ofInt IntKind.u32.bits (r.toNat : Int) &&& BitVec.ofInt IntKind.u32.bits 1).toNat : Int) = ((r &&& 1#32).toNat : Int) := by
  show IntKind.u32.wrap ((BitVec.ofInt 32 (r.toNat : Int) &&& BitVec.ofInt 32 1).toNat : Int) = _
  rw [wrapU32, ofInt32]; rfl
theorem bit_one (r : BitVec 32) (h : (IntKind.u32.wrap ((BitVec.ofInt IntKind.u32.bits (r.toNat : Int) &&& BitVec.ofInt IntKind.u32.bits 1).toNat : Int) == 1) = true) :
    IntKind.u32.wrap ((BitVec.ofInt IntKind.u32.bits ((r.toNat : Int).fdiv (2 ^ min (1 : Int).toNat IntKind.u32.bits)) ^^^ BitVec.ofInt IntKind.u32.bits 3988292384).toNat : Int) = ((crcBit r).toNat : Int) := by
  rw [and32] at h
  have h1 : r &&& 1#32 = 1#32 := by
    apply BitVec.eq_of_toNat_eq
    have := of_decide_eq_true h
    simpa using (by omega : (r &&& 1#32).toNat = 1)
  rw [crcBit, if_pos h1, shr32]
  show IntKind.u32.wrap ((BitVec.ofInt 32 ((r >>> 1).toNat : Int) ^^^ BitVec.ofInt 32 3988292384).toNat : Int) = _
  rw [wrapU32, ofInt32]; rfl
theorem bit_zero (r : BitVec 32) (h : (IntKind.u32.wrap ((BitVec.ofInt IntKind.u32.bits (r.toNat : Int) &&& BitVec.ofInt IntKind.u32.bits 1).toNat : Int) == 1) = false) :
    (r.toNat : Int).fdiv (2 ^ min (1 : Int).toNat IntKind.u32.bits) = ((crcBit r).toNat : Int) := by
  rw [and32] at h
  have h1 : ¬ r &&& 1#32 = 1#32 := fun e => by rw [e] at h; exact absurd h (by decide)
  rw [crcBit, if_neg h1, shr32]
theorem crc_succ {l : List UInt8} {i : Nat} (h : i < l.length) {r : BitVec 32} : crc r (l.take (i + 1)) = iter 8 (crc r (l.take i) ^^^ BitVec.ofNat 32 l[i].toNat) := by
  rw [List.take_succ_eq_append_getElem h, crc, List.foldl_append]
  rfl
theorem compl32 (r : BitVec 32) (r' : BitVec 32) (h : r = r') : IntKind.u32.wrap ((BitVec.ofInt IntKind.u32.bits (if IntKind.u32.signed then -1 else IntKind.u32.max) ^^^ BitVec.ofInt IntKind.u32.bits (r.toNat : Int)).toNat : Int) = ((~~~ r').toNat : Int) := by
  subst h
  show IntKind.u32.wrap ((BitVec.ofInt 32 4294967295 ^^^ BitVec.ofInt 32 (r.toNat : Int)).toNat : Int) = _
  rw [wrapU32, ofInt32]
  have : BitVec.ofInt 32 4294967295 ^^^ r = ~~~ r := by
    have : BitVec.ofInt 32 4294967295 = BitVec.allOnes 32 := by decide
    rw [this, BitVec.allOnes_xor]
  rw [this]

set_option maxRecDepth 100000 in
set_option maxHeartbeats 4000000 in
theorem sum_pc (l : List UInt8) (hl : l.length ≤ 9223372036854775807) : PC Try.prog 19 [.g (.sl (bys l))] ⟨[], [], []⟩ (.g (w32 (~~~ (crc 0xffffffff#32 l)))) ⟨[], [], []⟩ := by
  refine PC_of_PW Try.func19 rfl rfl (rs := _) rfl (Nat.le_of_ble_eq_true (by kernel_rfl)) ?_
  (repeat (first | ((first | refine qA ?_ | refine qB ?_ | refine xN ?_ | refine xE ?_ | refine xT ?_); try show PW _ _ _ _ _ _) | refine ro1 tabOk rfl rfl ?_ | refine ro2 tabOk rfl rfl ?_ | refine ro3 tabOk rfl rfl ?_ | refine rd1 tabOk rfl rfl ?_ | refine rd2 tabOk rfl rfl ?_ | refine rd3 tabOk rfl rfl ?_ | ((first | apply oR rfl rfl | (apply dF rfl rfl rfl; intro _) | (apply dP rfl rfl rfl; intro _) | (apply dL rfl rfl rfl; intro _) | apply dC rfl rfl rfl rfl); (focus (first | exact cJ | exact mG | exact bT | exact nD)); try exact kQ) | refine xS ?_ | refine xR ?_ | refine qxa rfl rfl mixed ?_ | refine qxb rfl rfl mixed ?_ | refine qxc rfl rfl mixed ?_ | refine qxd rfl rfl mixed ?_ | refine xB ?_ | refine xt rfl ?_ | refine xf rfl ?_))
  refine PW_loop (S := Nat) (fun i => slots [(7, .g (.sl (bys l))), (8, .g (.int .i64 l.length)), (9, .g (.int .i64 i)), (3, .g (w32 (crc 0xffffffff#32 (l.take i))))]) (fun _ => ⟨[], [], []⟩) (fun i => i ≤ l.length) (fun i => l.length - i) 0 (Nat.zero_le _) (SlotsOk.le ⟨.inl rfl, .inl (by simp [bys]; rfl), .inl rfl, .inl rfl, trivial⟩) (HLe.refl _) (fun i hi => ?_)
  (repeat (first | ((first | refine qA ?_ | refine qB ?_ | refine xN ?_ | refine xE ?_ | refine xT ?_); try show PW _ _ _ _ _ _) | refine ro1 tabOk rfl rfl ?_ | refine ro2 tabOk rfl rfl ?_ | refine ro3 tabOk rfl rfl ?_ | refine rd1 tabOk rfl rfl ?_ | refine rd2 tabOk rfl rfl ?_ | refine rd3 tabOk rfl rfl ?_ | ((first | apply oR rfl rfl | (apply dF rfl rfl rfl; intro _) | (apply dP rfl rfl rfl; intro _) | (apply dL rfl rfl rfl; intro _) | apply dC rfl rfl rfl rfl); (focus (first | exact cJ | exact mG | exact bT | exact nD)); try exact kQ) | refine xS ?_ | refine xR ?_ | refine qxa rfl rfl mixed ?_ | refine qxb rfl rfl mixed ?_ | refine qxc rfl rfl mixed ?_ | refine qxd rfl rfl mixed ?_ | refine xB ?_ | refine xt rfl ?_ | refine xf rfl ?_))
  (first | refine POps_split rfl rfl (fun h => ?_) (fun h => ?_) | refine POpsD_split rfl rfl (fun h => ?_) (fun h => ?_) | refine PW_cond rfl (fun h => ?_) (fun h => ?_))
  · have hlt : i < l.length := by have := of_decide_eq_true h; omega
    have hg := bys_get hlt
    (repeat (first | ((first | refine qA ?_ | refine qB ?_ | refine xN ?_ | refine xE ?_ | refine xT ?_); try show PW _ _ _ _ _ _) | refine ro1 tabOk rfl rfl ?_ | refine ro2 tabOk rfl rfl ?_ | refine ro3 tabOk rfl rfl ?_ | refine rd1 tabOk rfl rfl ?_ | refine rd2 tabOk rfl rfl ?_ | refine rd3 tabOk rfl rfl ?_ | ((first | apply oR rfl rfl | (apply dF rfl rfl rfl; intro _) | (apply dP rfl rfl rfl; intro _) | (apply dL rfl rfl rfl; intro _) | apply dC rfl rfl rfl rfl); (focus (first | exact iA rfl (EL rfl) (SZ rfl) rfl rfl (Int.natCast_nonneg _) hg rfl | exact PO_conv_int rfl (IK rfl) (IK rfl) rfl | exact cJ | exact mG | exact bT | exact nD)); try exact kQ) | refine xS ?_ | refine xR ?_ | refine qxa rfl rfl mixed ?_ | refine qxb rfl rfl mixed ?_ | refine qxc rfl rfl mixed ?_ | refine qxd rfl rfl mixed ?_ | refine xB ?_ | refine xt rfl ?_ | refine xf rfl ?_))
    refine PW_loop (S := Nat) (fun k => slots [(7, .g (.sl (bys l))), (8, .g (.int .i64 l.length)), (9, .g (.int .i64 i)), (17, .g (.int .i64 k)), (3, .g (w32 (iter k (crc 0xffffffff#32 (l.take i) ^^^ BitVec.ofNat 32 l[i].toNat))))]) (fun _ => ⟨[], [], []⟩) (fun k => k ≤ 8) (fun k => 8 - k) 0 (Nat.zero_le _) (SlotsOk.le ⟨.inl rfl, .inl rfl, .inl rfl, .inl rfl, .inl (congrArg (fun x => PV.g (.int .u32 x)) (xor32b _ _)), trivial⟩) (HLe.refl _) (fun k hk => ?_)
    (repeat (first | ((first | refine qA ?_ | refine qB ?_ | refine xN ?_ | refine xE ?_ | refine xT ?_); try show PW _ _ _ _ _ _) | refine ro1 tabOk rfl rfl ?_ | refine ro2 tabOk rfl rfl ?_ | refine ro3 tabOk rfl rfl ?_ | refine rd1 tabOk rfl rfl ?_ | refine rd2 tabOk rfl rfl ?_ | refine rd3 tabOk rfl rfl ?_ | ((first | apply oR rfl rfl | (apply dF rfl rfl rfl; intro _) | (apply dP rfl rfl rfl; intro _) | (apply dL rfl rfl rfl; intro _) | apply dC rfl rfl rfl rfl); (focus (first | exact cJ | exact mG | exact bT | exact nD)); try exact kQ) | refine xS ?_ | refine xR ?_ | refine qxa rfl rfl mixed ?_ | refine qxb rfl rfl mixed ?_ | refine qxc rfl rfl mixed ?_ | refine qxd rfl rfl mixed ?_ | refine xB ?_ | refine xt rfl ?_ | refine xf rfl ?_))
    (first | refine POps_split rfl rfl (fun h => ?_) (fun h => ?_) | refine POpsD_split rfl rfl (fun h => ?_) (fun h => ?_) | refine PW_cond rfl (fun h => ?_) (fun h => ?_))
    · have hk8 : k < 8 := by have := of_decide_eq_true h; omega
      (repeat (first | ((first | refine qA ?_ | refine qB ?_ | refine xN ?_ | refine xE ?_ | refine xT ?_); try show PW _ _ _ _ _ _) | refine ro1 tabOk rfl rfl ?_ | refine ro2 tabOk rfl rfl ?_ | refine ro3 tabOk rfl rfl ?_ | refine rd1 tabOk rfl rfl ?_ | refine rd2 tabOk rfl rfl ?_ | refine rd3 tabOk rfl rfl ?_ | ((first | apply oR rfl rfl | (apply dF rfl rfl rfl; intro _) | (apply dP rfl rfl rfl; intro _) | (apply dL rfl rfl rfl; intro _) | apply dC rfl rfl rfl rfl); (focus (first | exact PO_shr rfl rfl rfl (by decide) | exact cJ | exact mG | exact bT | exact nD)); try exact kQ) | refine xS ?_ | refine xR ?_ | refine qxa rfl rfl mixed ?_ | refine qxb rfl rfl mixed ?_ | refine qxc rfl rfl mixed ?_ | refine qxd rfl rfl mixed ?_ | refine xB ?_ | refine xt rfl ?_ | refine xf rfl ?_))
      (first | refine POps_split rfl rfl (fun h => ?_) (fun h => ?_) | refine POpsD_split rfl rfl (fun h => ?_) (fun h => ?_) | refine PW_cond rfl (fun h => ?_) (fun h => ?_))
      · (repeat (first | ((first | refine qA ?_ | refine qB ?_ | refine xN ?_ | refine xE ?_ | refine xT ?_); try show PW _ _ _ _ _ _) | refine ro1 tabOk rfl rfl ?_ | refine ro2 tabOk rfl rfl ?_ | refine ro3 tabOk rfl rfl ?_ | refine rd1 tabOk rfl rfl ?_ | refine rd2 tabOk rfl rfl ?_ | refine rd3 tabOk rfl rfl ?_ | ((first | apply oR rfl rfl | (apply dF rfl rfl rfl; intro _) | (apply dP rfl rfl rfl; intro _) | (apply dL rfl rfl rfl; intro _) | apply dC rfl rfl rfl rfl); (focus (first | exact cJ | exact mG | exact bT | exact nD)); try exact kQ) | refine xS ?_ | refine xR ?_ | refine qxa rfl rfl mixed ?_ | refine qxb rfl rfl mixed ?_ | refine qxc rfl rfl mixed ?_ | refine qxd rfl rfl mixed ?_ | refine xB ?_ | refine xt rfl ?_ | refine xf rfl ?_))
        refine ⟨k + 1, hk8, by omega, SlotsOk.le ⟨.inl rfl, .inl rfl, .inl rfl, .inl (congrArg (fun x => PV.g (.int .i64 x)) (wrap64 (by omega))), .inl (congrArg (fun x => PV.g (.int .u32 x)) (bit_one _ h)), trivial⟩, HLe.refl _⟩
      · (repeat (first | ((first | refine qA ?_ | refine qB ?_ | refine xN ?_ | refine xE ?_ | refine xT ?_); try show PW _ _ _ _ _ _) | refine ro1 tabOk rfl rfl ?_ | refine ro2 tabOk rfl rfl ?_ | refine ro3 tabOk rfl rfl ?_ | refine rd1 tabOk rfl rfl ?_ | refine rd2 tabOk rfl rfl ?_ | refine rd3 tabOk rfl rfl ?_ | ((first | apply oR rfl rfl | (apply dF rfl rfl rfl; intro _) | (apply dP rfl rfl rfl; intro _) | (apply dL rfl rfl rfl; intro _) | apply dC rfl rfl rfl rfl); (focus (first | exact cJ | exact mG | exact bT | exact nD)); try exact kQ) | refine xS ?_ | refine xR ?_ | refine qxa rfl rfl mixed ?_ | refine qxb rfl rfl mixed ?_ | refine qxc rfl rfl mixed ?_ | refine qxd rfl rfl mixed ?_ | refine xB ?_ | refine xt rfl ?_ | refine xf rfl ?_))
        refine ⟨k + 1, hk8, by omega, SlotsOk.le ⟨.inl rfl, .inl rfl, .inl rfl, .inl (congrArg (fun x => PV.g (.int .i64 x)) (wrap64 (by omega))), .inl (congrArg (fun x => PV.g (.int .u32 x)) (bit_zero _ h)), trivial⟩, HLe.refl _⟩
    · have hk8 : k = 8 := by have := of_decide_eq_false h; omega
      subst hk8
      (repeat (first | ((first | refine qA ?_ | refine qB ?_ | refine xN ?_ | refine xE ?_ | refine xT ?_); try show PW _ _ _ _ _ _) | refine ro1 tabOk rfl rfl ?_ | refine ro2 tabOk rfl rfl ?_ | refine ro3 tabOk rfl rfl ?_ | refine rd1 tabOk rfl rfl ?_ | refine rd2 tabOk rfl rfl ?_ | refine rd3 tabOk rfl rfl ?_ | ((first | apply oR rfl rfl | (apply dF rfl rfl rfl; intro _) | (apply dP rfl rfl rfl; intro _) | (apply dL rfl rfl rfl; intro _) | apply dC rfl rfl rfl rfl); (focus (first | exact cJ | exact mG | exact bT | exact nD)); try exact kQ) | refine xS ?_ | refine xR ?_ | refine qxa rfl rfl mixed ?_ | refine qxb rfl rfl mixed ?_ | refine qxc rfl rfl mixed ?_ | refine qxd rfl rfl mixed ?_ | refine xB ?_ | refine xt rfl ?_ | refine xf rfl ?_))
      refine ⟨i + 1, hlt, by omega, SlotsOk.le ⟨.inl rfl, .inl rfl, .inl (congrArg (fun x => PV.g (.int .i64 x)) (wrap64 (by omega))), .inl (congrArg (fun x => PV.g (w32 x)) (crc_succ hlt).symm), trivial⟩, HLe.refl _⟩
  · have hi' : i = l.length := by have := of_decide_eq_false h; omega
    subst hi'
    (repeat (first | ((first | refine qA ?_ | refine qB ?_ | refine xN ?_ | refine xE ?_ | refine xT ?_); try show PW _ _ _ _ _ _) | refine ro1 tabOk rfl rfl ?_ | refine ro2 tabOk rfl rfl ?_ | refine ro3 tabOk rfl rfl ?_ | refine rd1 tabOk rfl rfl ?_ | refine rd2 tabOk rfl rfl ?_ | refine rd3 tabOk rfl rfl ?_ | ((first | apply oR rfl rfl | (apply dF rfl rfl rfl; intro _) | (apply dP rfl rfl rfl; intro _) | (apply dL rfl rfl rfl; intro _) | apply dC rfl rfl rfl rfl); (focus (first | exact PO_compl rfl rfl | exact cJ | exact mG | exact bT | exact nD)); try exact kQ) | refine xS ?_ | refine xR ?_ | refine qxa rfl rfl mixed ?_ | refine qxb rfl rfl mixed ?_ | refine qxc rfl rfl mixed ?_ | refine qxd rfl rfl mixed ?_ | refine xB ?_ | refine xt rfl ?_ | refine xf rfl ?_))
    (first | refine Ret_int (vC vT vN) rfl ?_ | refine Ret_bool (vC vT vN) rfl ?_ | refine Ret_g (vC vT vN) rfl ?_ | refine Ret_int (vC (vA (AG rfl) (SZ rfl) rfl rfl (lB rfl)) vN) rfl ?_ | refine Ret_bool (vC (vA (AG rfl) (SZ rfl) rfl rfl (lB rfl)) vN) rfl ?_ | refine Ret_g (vC (vA (AG rfl) (SZ rfl) rfl rfl (lB rfl)) vN) rfl ?_)
    exact compl32 _ _ (congrArg (crc _) List.take_length)
end Go.Proofs.Ytffpepmfdjjjaaa


namespace Go.Proofs.Ytffpepmfdjjjaaa
open Go.Pure
attribute [local irreducible] PW POps POpsD PO PC Cond

/-- A tree. -/
inductive Tr where
  | mk (tag n : Int) (text : ByteArray) (kids : List Tr)
mutual
def Tr.g : Tr → GV
  | .mk tag n text kids => .agg [.int .i64 tag, .int .i64 n, .str text, .sl (Tr.gs kids)]
def Tr.gs : List Tr → List GV
  | [] => []
  | t :: r => t.g :: Tr.gs r
end
theorem gs_eq : ∀ l : List Tr, Tr.gs l = l.map Tr.g
  | [] => by simp [Tr.gs]
  | t :: r => by simp [Tr.gs, gs_eq r]
def Tr.kids : Tr → List Tr | .mk _ _ _ k => k
mutual
/-- Lists no longer than the machine has them. -/
def Tr.ok : Tr → Prop
  | .mk _ _ _ kids => kids.length ≤ maxLen ∧ Tr.oks kids
def Tr.oks : List Tr → Prop
  | [] => True
  | t :: r => t.ok ∧ Tr.oks r
end
theorem oks_get : ∀ {l : List Tr} {i : Nat} (h : i < l.length), Tr.oks l → (l[i]).ok
  | t :: r, 0, _, h => by simp only [Tr.oks] at h; exact h.1
  | t :: r, i + 1, hi, h => by simp only [Tr.oks] at h; have := oks_get (l := r) (i := i) (by simpa using hi) h.2; simpa using this

mutual
/-- What is wrong with a tree: the answer, and how many trees there were. -/
def look (d : Int) : Int → Tr → Int × Int
  | n, .mk tag _ _ kids => if 5000 < n + 1 ∨ 40 < d then (4, n + 1) else if tag < 0 ∨ 255 < tag then (3, n + 1) else looks (d + 1) (n + 1) kids
def looks (d : Int) : Int → List Tr → Int × Int
  | n, [] => (0, n)
  | n, t :: r => if (look d n t).1 = 0 then looks d (look d n t).2 r else look d n t
end

def lookH (n : Int) : PH := ⟨[[.g (.int .i64 n)], [.clo (.func 50) [] [.ptr 0 0, .ptr 1 0]]], [], []⟩

mutual
theorem look_le {d : Int} : ∀ (n : Int) (t : Tr), 0 ≤ n → (look d n t).1 = 0 → 0 ≤ (look d n t).2 ∧ (look d n t).2 ≤ 5000
  | n, .mk tag _ _ kids, hn, h => by
    simp only [look] at h ⊢
    split at h
    · simp at h
    · rename_i h1
      split at h
      · simp at h
      · rename_i h2
        rw [if_neg h1, if_neg h2]
        exact looks_le (n + 1) kids (by omega) (by omega) h
theorem looks_le {d : Int} : ∀ (n : Int) (l : List Tr), 0 ≤ n → n ≤ 5000 → (looks d n l).1 = 0 → 0 ≤ (looks d n l).2 ∧ (looks d n l).2 ≤ 5000
  | n, [], hn, hm, h => by simp [looks]; omega
  | n, t :: r, hn, hm, h => by
    simp only [looks] at h ⊢
    by_cases e : (look d n t).1 = 0
    · rw [if_pos e] at h ⊢
      have := look_le n t hn e
      exact looks_le _ r this.1 this.2 h
    · rw [if_neg e] at h
      exact absurd h e
end
theorem gs_get {l : List Tr} {i : Nat} (h : i < l.length) : (Tr.gs l)[((i : Int)).toNat]? = some (l[i]).g := by simp [gs_eq, h]
theorem gs_len (l : List Tr) : (Tr.gs l).length = l.length := by simp [gs_eq]
theorem g_cells (t : Tr) : t.g.cells.length = 4 := by cases t; simp [Tr.g, GV.cells]
theorem kid_size {l : List Tr} {i : Nat} (h : i < l.length) (tag n : Int) (text : ByteArray) : SizeOf.sizeOf l[i] < SizeOf.sizeOf (Tr.mk tag n text l) := by
  have := List.sizeOf_lt_of_mem (List.getElem_mem h)
  simp; omega

set_option maxRecDepth 100000 in
set_option maxHeartbeats 4000000 in
theorem look_pc : ∀ (m : Nat) (t : Tr) (d n : Int), SizeOf.sizeOf t ≤ m → (0 ≤ n ∧ n ≤ 5000) → (0 ≤ d ∧ d ≤ 41) → t.ok →
    PC Try.prog 50 [.pat t.g.cells, .g (.int .i64 d), .ptr 0 0, .ptr 1 0] (lookH n) (.g (.int .i64 (look d n t).1)) (lookH (look d n t).2)
  | 0, t, d, n, hm, _, _, _ => by cases t; simp at hm
  | m + 1, .mk tag tn text kids, d, n, hm, hn, hd, hk => by
    have hw := wrap64 (n := n + 1) (by omega)
    simp only [Tr.ok, maxLen] at hk
    refine PC_of_PW Try.func50 rfl rfl (rs := _) rfl (Nat.le_of_ble_eq_true (by kernel_rfl)) ?_
    (repeat (first | ((first | refine qA ?_ | refine qB ?_ | refine xN ?_ | refine xE ?_ | refine xT ?_); try show PW _ _ _ _ _ _) | refine ro1 tabOk rfl rfl ?_ | refine ro2 tabOk rfl rfl ?_ | refine ro3 tabOk rfl rfl ?_ | refine rd1 tabOk rfl rfl ?_ | refine rd2 tabOk rfl rfl ?_ | refine rd3 tabOk rfl rfl ?_ | ((first | apply oR rfl rfl | (apply dF rfl rfl rfl; intro _) | (apply dP rfl rfl rfl; intro _) | (apply dL rfl rfl rfl; intro _) | apply dC rfl rfl rfl rfl); (focus (first | exact cJ | exact mG | exact bT | exact nD)); try exact kQ) | refine xS ?_ | refine xR ?_ | refine qxa rfl rfl mixed ?_ | refine qxb rfl rfl mixed ?_ | refine qxc rfl rfl mixed ?_ | refine qxd rfl rfl mixed ?_ | refine xB ?_ | refine xt rfl ?_ | refine xf rfl ?_))
    (first | refine POps_split rfl rfl (fun h => ?_) (fun h => ?_) | refine POpsD_split rfl rfl (fun h => ?_) (fun h => ?_) | refine PW_cond rfl (fun h => ?_) (fun h => ?_))
    · (repeat (first | ((first | refine qA ?_ | refine qB ?_ | refine xN ?_ | refine xE ?_ | refine xT ?_); try show PW _ _ _ _ _ _) | refine ro1 tabOk rfl rfl ?_ | refine ro2 tabOk rfl rfl ?_ | refine ro3 tabOk rfl rfl ?_ | refine rd1 tabOk rfl rfl ?_ | refine rd2 tabOk rfl rfl ?_ | refine rd3 tabOk rfl rfl ?_ | ((first | apply oR rfl rfl | (apply dF rfl rfl rfl; intro _) | (apply dP rfl rfl rfl; intro _) | (apply dL rfl rfl rfl; intro _) | apply dC rfl rfl rfl rfl); (focus (first | exact cJ | exact mG | exact bT | exact nD)); try exact kQ) | refine xS ?_ | refine xR ?_ | refine qxa rfl rfl mixed ?_ | refine qxb rfl rfl mixed ?_ | refine qxc rfl rfl mixed ?_ | refine qxd rfl rfl mixed ?_ | refine xB ?_ | refine xt rfl ?_ | refine xf rfl ?_))
      have h5 : 5000 < n + 1 := by have := of_decide_eq_true h; rw [hw] at this; exact this
      (first | refine Ret_box (wC vT wN) rfl rfl rfl rfl rfl rfl rfl rfl rfl ?_ ?_ ?_ rfl | refine Ret_box (wC (vA (AG rfl) (SZ rfl) rfl rfl (lB rfl)) wN) rfl rfl rfl rfl rfl rfl rfl rfl rfl ?_ ?_ ?_ rfl | refine Ret_box (wC vT (wC vT wN)) rfl rfl rfl rfl rfl rfl rfl rfl rfl ?_ ?_ ?_ rfl | refine Ret_box (wC (vA (AG rfl) (SZ rfl) rfl rfl (lB rfl)) (wC vT wN)) rfl rfl rfl rfl rfl rfl rfl rfl rfl ?_ ?_ ?_ rfl)
      · simp [look, h5, constG]
      · simp [look, h5, lookH, hw]
      · rfl
    · (repeat (first | ((first | refine qA ?_ | refine qB ?_ | refine xN ?_ | refine xE ?_ | refine xT ?_); try show PW _ _ _ _ _ _) | refine ro1 tabOk rfl rfl ?_ | refine ro2 tabOk rfl rfl ?_ | refine ro3 tabOk rfl rfl ?_ | refine rd1 tabOk rfl rfl ?_ | refine rd2 tabOk rfl rfl ?_ | refine rd3 tabOk rfl rfl ?_ | ((first | apply oR rfl rfl | (apply dF rfl rfl rfl; intro _) | (apply dP rfl rfl rfl; intro _) | (apply dL rfl rfl rfl; intro _) | apply dC rfl rfl rfl rfl); (focus (first | exact cJ | exact mG | exact bT | exact nD)); try exact kQ) | refine xS ?_ | refine xR ?_ | refine qxa rfl rfl mixed ?_ | refine qxb rfl rfl mixed ?_ | refine qxc rfl rfl mixed ?_ | refine qxd rfl rfl mixed ?_ | refine xB ?_ | refine xt rfl ?_ | refine xf rfl ?_))
      have h5 : ¬ 5000 < n + 1 := by have := of_decide_eq_false h; rw [hw] at this; exact this
      have hdd : decide (d > 40) = decide (40 < d) := rfl
      (first | refine POps_split rfl rfl (fun h => ?_) (fun h => ?_) | refine POpsD_split rfl rfl (fun h => ?_) (fun h => ?_) | refine PW_cond rfl (fun h => ?_) (fun h => ?_))
      · (repeat (first | ((first | refine qA ?_ | refine qB ?_ | refine xN ?_ | refine xE ?_ | refine xT ?_); try show PW _ _ _ _ _ _) | refine ro1 tabOk rfl rfl ?_ | refine ro2 tabOk rfl rfl ?_ | refine ro3 tabOk rfl rfl ?_ | refine rd1 tabOk rfl rfl ?_ | refine rd2 tabOk rfl rfl ?_ | refine rd3 tabOk rfl rfl ?_ | ((first | apply oR rfl rfl | (apply dF rfl rfl rfl; intro _) | (apply dP rfl rfl rfl; intro _) | (apply dL rfl rfl rfl; intro _) | apply dC rfl rfl rfl rfl); (focus (first | exact cJ | exact mG | exact bT | exact nD)); try exact kQ) | refine xS ?_ | refine xR ?_ | refine qxa rfl rfl mixed ?_ | refine qxb rfl rfl mixed ?_ | refine qxc rfl rfl mixed ?_ | refine qxd rfl rfl mixed ?_ | refine xB ?_ | refine xt rfl ?_ | refine xf rfl ?_))
        have h6 : 40 < d := by have := of_decide_eq_true h; exact this
        (first | refine Ret_box (wC vT wN) rfl rfl rfl rfl rfl rfl rfl rfl rfl ?_ ?_ ?_ rfl | refine Ret_box (wC (vA (AG rfl) (SZ rfl) rfl rfl (lB rfl)) wN) rfl rfl rfl rfl rfl rfl rfl rfl rfl ?_ ?_ ?_ rfl | refine Ret_box (wC vT (wC vT wN)) rfl rfl rfl rfl rfl rfl rfl rfl rfl ?_ ?_ ?_ rfl | refine Ret_box (wC (vA (AG rfl) (SZ rfl) rfl rfl (lB rfl)) (wC vT wN)) rfl rfl rfl rfl rfl rfl rfl rfl rfl ?_ ?_ ?_ rfl)
        · simp [look, h6, constG]
        · simp [look, h6, lookH, hw]
        · rfl
      · (repeat (first | ((first | refine qA ?_ | refine qB ?_ | refine xN ?_ | refine xE ?_ | refine xT ?_); try show PW _ _ _ _ _ _) | refine ro1 tabOk rfl rfl ?_ | refine ro2 tabOk rfl rfl ?_ | refine ro3 tabOk rfl rfl ?_ | refine rd1 tabOk rfl rfl ?_ | refine rd2 tabOk rfl rfl ?_ | refine rd3 tabOk rfl rfl ?_ | ((first | apply oR rfl rfl | (apply dF rfl rfl rfl; intro _) | (apply dP rfl rfl rfl; intro _) | (apply dL rfl rfl rfl; intro _) | apply dC rfl rfl rfl rfl); (focus (first | exact cJ | exact mG | exact bT | exact nD)); try exact kQ) | refine xS ?_ | refine xR ?_ | refine qxa rfl rfl mixed ?_ | refine qxb rfl rfl mixed ?_ | refine qxc rfl rfl mixed ?_ | refine qxd rfl rfl mixed ?_ | refine xB ?_ | refine xt rfl ?_ | refine xf rfl ?_))
        have h6 : ¬ 40 < d := by have := of_decide_eq_false h; exact this
        (first | refine POps_split rfl rfl (fun h => ?_) (fun h => ?_) | refine POpsD_split rfl rfl (fun h => ?_) (fun h => ?_) | refine PW_cond rfl (fun h => ?_) (fun h => ?_))
        · (repeat (first | ((first | refine qA ?_ | refine qB ?_ | refine xN ?_ | refine xE ?_ | refine xT ?_); try show PW _ _ _ _ _ _) | refine ro1 tabOk rfl rfl ?_ | refine ro2 tabOk rfl rfl ?_ | refine ro3 tabOk rfl rfl ?_ | refine rd1 tabOk rfl rfl ?_ | refine rd2 tabOk rfl rfl ?_ | refine rd3 tabOk rfl rfl ?_ | ((first | apply oR rfl rfl | (apply dF rfl rfl rfl; intro _) | (apply dP rfl rfl rfl; intro _) | (apply dL rfl rfl rfl; intro _) | apply dC rfl rfl rfl rfl); (focus (first | exact cJ | exact mG | exact bT | exact nD)); try exact kQ) | refine xS ?_ | refine xR ?_ | refine qxa rfl rfl mixed ?_ | refine qxb rfl rfl mixed ?_ | refine qxc rfl rfl mixed ?_ | refine qxd rfl rfl mixed ?_ | refine xB ?_ | refine xt rfl ?_ | refine xf rfl ?_))
          have h7 : tag < 0 := of_decide_eq_true h
          (first | refine Ret_box (wC vT wN) rfl rfl rfl rfl rfl rfl rfl rfl rfl ?_ ?_ ?_ rfl | refine Ret_box (wC (vA (AG rfl) (SZ rfl) rfl rfl (lB rfl)) wN) rfl rfl rfl rfl rfl rfl rfl rfl rfl ?_ ?_ ?_ rfl | refine Ret_box (wC vT (wC vT wN)) rfl rfl rfl rfl rfl rfl rfl rfl rfl ?_ ?_ ?_ rfl | refine Ret_box (wC (vA (AG rfl) (SZ rfl) rfl rfl (lB rfl)) (wC vT wN)) rfl rfl rfl rfl rfl rfl rfl rfl rfl ?_ ?_ ?_ rfl)
          · simp [look, h5, h6, h7, constG]
          · simp [look, h5, h6, h7, lookH, hw]
          · rfl
        · (repeat (first | ((first | refine qA ?_ | refine qB ?_ | refine xN ?_ | refine xE ?_ | refine xT ?_); try show PW _ _ _ _ _ _) | refine ro1 tabOk rfl rfl ?_ | refine ro2 tabOk rfl rfl ?_ | refine ro3 tabOk rfl rfl ?_ | refine rd1 tabOk rfl rfl ?_ | refine rd2 tabOk rfl rfl ?_ | refine rd3 tabOk rfl rfl ?_ | ((first | apply oR rfl rfl | (apply dF rfl rfl rfl; intro _) | (apply dP rfl rfl rfl; intro _) | (apply dL rfl rfl rfl; intro _) | apply dC rfl rfl rfl rfl); (focus (first | exact cJ | exact mG | exact bT | exact nD)); try exact kQ) | refine xS ?_ | refine xR ?_ | refine qxa rfl rfl mixed ?_ | refine qxb rfl rfl mixed ?_ | refine qxc rfl rfl mixed ?_ | refine qxd rfl rfl mixed ?_ | refine xB ?_ | refine xt rfl ?_ | refine xf rfl ?_))
          have h7 : ¬ tag < 0 := of_decide_eq_false h
          (first | refine POps_split rfl rfl (fun h => ?_) (fun h => ?_) | refine POpsD_split rfl rfl (fun h => ?_) (fun h => ?_) | refine PW_cond rfl (fun h => ?_) (fun h => ?_))
          · (repeat (first | ((first | refine qA ?_ | refine qB ?_ | refine xN ?_ | refine xE ?_ | refine xT ?_); try show PW _ _ _ _ _ _) | refine ro1 tabOk rfl rfl ?_ | refine ro2 tabOk rfl rfl ?_ | refine ro3 tabOk rfl rfl ?_ | refine rd1 tabOk rfl rfl ?_ | refine rd2 tabOk rfl rfl ?_ | refine rd3 tabOk rfl rfl ?_ | ((first | apply oR rfl rfl | (apply dF rfl rfl rfl; intro _) | (apply dP rfl rfl rfl; intro _) | (apply dL rfl rfl rfl; intro _) | apply dC rfl rfl rfl rfl); (focus (first | exact cJ | exact mG | exact bT | exact nD)); try exact kQ) | refine xS ?_ | refine xR ?_ | refine qxa rfl rfl mixed ?_ | refine qxb rfl rfl mixed ?_ | refine qxc rfl rfl mixed ?_ | refine qxd rfl rfl mixed ?_ | refine xB ?_ | refine xt rfl ?_ | refine xf rfl ?_))
            have h8 : 255 < tag := of_decide_eq_true h
            (first | refine Ret_box (wC vT wN) rfl rfl rfl rfl rfl rfl rfl rfl rfl ?_ ?_ ?_ rfl | refine Ret_box (wC (vA (AG rfl) (SZ rfl) rfl rfl (lB rfl)) wN) rfl rfl rfl rfl rfl rfl rfl rfl rfl ?_ ?_ ?_ rfl | refine Ret_box (wC vT (wC vT wN)) rfl rfl rfl rfl rfl rfl rfl rfl rfl ?_ ?_ ?_ rfl | refine Ret_box (wC (vA (AG rfl) (SZ rfl) rfl rfl (lB rfl)) (wC vT wN)) rfl rfl rfl rfl rfl rfl rfl rfl rfl ?_ ?_ ?_ rfl)
            · simp [look, h5, h6, h8, constG]
            · simp [look, h5, h6, h8, lookH, hw]
            · rfl
          · (repeat (first | ((first | refine qA ?_ | refine qB ?_ | refine xN ?_ | refine xE ?_ | refine xT ?_); try show PW _ _ _ _ _ _) | refine ro1 tabOk rfl rfl ?_ | refine ro2 tabOk rfl rfl ?_ | refine ro3 tabOk rfl rfl ?_ | refine rd1 tabOk rfl rfl ?_ | refine rd2 tabOk rfl rfl ?_ | refine rd3 tabOk rfl rfl ?_ | ((first | apply oR rfl rfl | (apply dF rfl rfl rfl; intro _) | (apply dP rfl rfl rfl; intro _) | (apply dL rfl rfl rfl; intro _) | apply dC rfl rfl rfl rfl); (focus (first | exact cJ | exact mG | exact bT | exact nD)); try exact kQ) | refine xS ?_ | refine xR ?_ | refine qxa rfl rfl mixed ?_ | refine qxb rfl rfl mixed ?_ | refine qxc rfl rfl mixed ?_ | refine qxd rfl rfl mixed ?_ | refine xB ?_ | refine xt rfl ?_ | refine xf rfl ?_))
            have h8 : ¬ 255 < tag := of_decide_eq_false h
            have hlook : look d n (.mk tag tn text kids) = looks (d + 1) (n + 1) kids := by simp [look, h5, h6, h7, h8]
            refine PW_loop (S := Nat × Int) (fun s => slots [(0, .pat (Tr.mk tag tn text kids).g.cells), (1, .g (.int .i64 d)), (2, .ptr 0 0), (3, .ptr 1 0), (33, .g (.int .i64 kids.length)), (34, .g (.int .i64 s.1))]) (fun s => lookH s.2)
              (fun s => s.1 ≤ kids.length ∧ (0 ≤ s.2 ∧ s.2 ≤ 5000) ∧ looks (d + 1) s.2 (kids.drop s.1) = looks (d + 1) (n + 1) kids) (fun s => kids.length - s.1) (0, n + 1) ⟨Nat.zero_le _, by omega, rfl⟩
              (SlotsOk.le ⟨.inl rfl, .inl rfl, .inl rfl, .inl rfl, .inl (congrArg (fun k : Nat => PV.g (.int .i64 k)) (gs_len kids)), .inl rfl, trivial⟩) (HLe.of_eq (congrArg lookH hw)) (fun s hs => ?_)
            obtain ⟨i, n1⟩ := s
            obtain ⟨hi, hn1, hl⟩ := hs
            (repeat (first | ((first | refine qA ?_ | refine qB ?_ | refine xN ?_ | refine xE ?_ | refine xT ?_); try show PW _ _ _ _ _ _) | refine ro1 tabOk rfl rfl ?_ | refine ro2 tabOk rfl rfl ?_ | refine ro3 tabOk rfl rfl ?_ | refine rd1 tabOk rfl rfl ?_ | refine rd2 tabOk rfl rfl ?_ | refine rd3 tabOk rfl rfl ?_ | ((first | apply oR rfl rfl | (apply dF rfl rfl rfl; intro _) | (apply dP rfl rfl rfl; intro _) | (apply dL rfl rfl rfl; intro _) | apply dC rfl rfl rfl rfl); (focus (first | exact cJ | exact mG | exact bT | exact nD)); try exact kQ) | refine xS ?_ | refine xR ?_ | refine qxa rfl rfl mixed ?_ | refine qxb rfl rfl mixed ?_ | refine qxc rfl rfl mixed ?_ | refine qxd rfl rfl mixed ?_ | refine xB ?_ | refine xt rfl ?_ | refine xf rfl ?_))
            (first | refine POps_split rfl rfl (fun h => ?_) (fun h => ?_) | refine POpsD_split rfl rfl (fun h => ?_) (fun h => ?_) | refine PW_cond rfl (fun h => ?_) (fun h => ?_))
            · have hlt : i < kids.length := by have := of_decide_eq_true h; omega
              have hg := gs_get hlt
              have hdr : kids.drop i = kids[i] :: kids.drop (i + 1) := List.drop_eq_getElem_cons hlt
              have hsz := kid_size hlt tag tn text
              have hI : PC Try.prog 50 [.pat (kids[i]).g.cells, .g (.int .i64 (IntKind.i64.wrap (d + 1))), .ptr 0 0, .ptr 1 0] (lookH n1) (.g (.int .i64 (look (d + 1) n1 kids[i]).1)) (lookH (look (d + 1) n1 kids[i]).2) := by
                rw [wrap64 (by omega)]
                exact look_pc m kids[i] (d + 1) n1 (by omega) hn1 (by omega) (oks_get hlt hk.2)
              (repeat (first | ((first | refine qA ?_ | refine qB ?_ | refine xN ?_ | refine xE ?_ | refine xT ?_); try show PW _ _ _ _ _ _) | refine ro1 tabOk rfl rfl ?_ | refine ro2 tabOk rfl rfl ?_ | refine ro3 tabOk rfl rfl ?_ | refine rd1 tabOk rfl rfl ?_ | refine rd2 tabOk rfl rfl ?_ | refine rd3 tabOk rfl rfl ?_ | ((first | apply oR rfl rfl | (apply dF rfl rfl rfl; intro _) | (apply dP rfl rfl rfl; intro _) | (apply dL rfl rfl rfl; intro _) | apply dC rfl rfl rfl rfl); (focus (first | exact ck [] rfl rfl (EN rfl) (hI) rfl rfl rfl rfl rfl rfl rfl rfl rfl rfl rfl | exact iA rfl (EL rfl) (SZ rfl) rfl rfl (Int.natCast_nonneg _) hg (g_cells _) | exact cJ | exact mG | exact bT | exact nD)); try exact kQ) | refine xS ?_ | refine xR ?_ | refine xK false false [1] rfl mixed (by decide +kernel) ?_ | refine xK false true [1] rfl mixed (by decide +kernel) ?_ | refine xK true false [1] rfl mixed (by decide +kernel) ?_ | refine xK true true [1] rfl mixed (by decide +kernel) ?_ | refine xB ?_ | refine xt rfl ?_ | refine xf rfl ?_))
              dsimp only at hl hn1
              (first | refine POps_split rfl rfl (fun h => ?_) (fun h => ?_) | refine POpsD_split rfl rfl (fun h => ?_) (fun h => ?_) | refine PW_cond rfl (fun h => ?_) (fun h => ?_))
              · have he : ¬ (look (d + 1) n1 kids[i]).1 = 0 := by simpa [bne] using h
                have hlk : looks (d + 1) (n + 1) kids = look (d + 1) n1 kids[i] := by rw [← hl, hdr, looks, if_neg he]
                (repeat (first | ((first | refine qA ?_ | refine qB ?_ | refine xN ?_ | refine xE ?_ | refine xT ?_); try show PW _ _ _ _ _ _) | refine ro1 tabOk rfl rfl ?_ | refine ro2 tabOk rfl rfl ?_ | refine ro3 tabOk rfl rfl ?_ | refine rd1 tabOk rfl rfl ?_ | refine rd2 tabOk rfl rfl ?_ | refine rd3 tabOk rfl rfl ?_ | ((first | apply oR rfl rfl | (apply dF rfl rfl rfl; intro _) | (apply dP rfl rfl rfl; intro _) | (apply dL rfl rfl rfl; intro _) | apply dC rfl rfl rfl rfl); (focus (first | exact cJ | exact mG | exact bT | exact nD)); try exact kQ) | refine xS ?_ | refine xR ?_ | refine qxa rfl rfl mixed ?_ | refine qxb rfl rfl mixed ?_ | refine qxc rfl rfl mixed ?_ | refine qxd rfl rfl mixed ?_ | refine xB ?_ | refine xt rfl ?_ | refine xf rfl ?_))
                (first | refine Ret_box (wC vT wN) rfl rfl rfl rfl rfl rfl rfl rfl rfl ?_ ?_ ?_ rfl | refine Ret_box (wC (vA (AG rfl) (SZ rfl) rfl rfl (lB rfl)) wN) rfl rfl rfl rfl rfl rfl rfl rfl rfl ?_ ?_ ?_ rfl | refine Ret_box (wC vT (wC vT wN)) rfl rfl rfl rfl rfl rfl rfl rfl rfl ?_ ?_ ?_ rfl | refine Ret_box (wC (vA (AG rfl) (SZ rfl) rfl rfl (lB rfl)) (wC vT wN)) rfl rfl rfl rfl rfl rfl rfl rfl rfl ?_ ?_ ?_ rfl)
                · rw [hlook, hlk]
                · rw [hlook, hlk]; rfl
                · rfl
              · have he : (look (d + 1) n1 kids[i]).1 = 0 := by simpa [bne] using h
                have hle := look_le n1 kids[i] hn1.1 he
                (repeat (first | ((first | refine qA ?_ | refine qB ?_ | refine xN ?_ | refine xE ?_ | refine xT ?_); try show PW _ _ _ _ _ _) | refine ro1 tabOk rfl rfl ?_ | refine ro2 tabOk rfl rfl ?_ | refine ro3 tabOk rfl rfl ?_ | refine rd1 tabOk rfl rfl ?_ | refine rd2 tabOk rfl rfl ?_ | refine rd3 tabOk rfl rfl ?_ | ((first | apply oR rfl rfl | (apply dF rfl rfl rfl; intro _) | (apply dP rfl rfl rfl; intro _) | (apply dL rfl rfl rfl; intro _) | apply dC rfl rfl rfl rfl); (focus (first | exact cJ | exact mG | exact bT | exact nD)); try exact kQ) | refine xS ?_ | refine xR ?_ | refine qxa rfl rfl mixed ?_ | refine qxb rfl rfl mixed ?_ | refine qxc rfl rfl mixed ?_ | refine qxd rfl rfl mixed ?_ | refine xB ?_ | refine xt rfl ?_ | refine xf rfl ?_))
                refine ⟨(i + 1, (look (d + 1) n1 kids[i]).2), ⟨hlt, hle, ?_⟩, by simp; omega, SlotsOk.le ⟨.inl rfl, .inl rfl, .inl rfl, .inl rfl, .inl rfl, .inl (congrArg (fun k => PV.g (.int .i64 k)) (wrap64 (by omega))), trivial⟩, HLe.refl _⟩
                rw [← hl, hdr, looks, if_pos he]
            · have hi' : i = kids.length := by have := of_decide_eq_false h; omega
              subst hi'
              (repeat (first | ((first | refine qA ?_ | refine qB ?_ | refine xN ?_ | refine xE ?_ | refine xT ?_); try show PW _ _ _ _ _ _) | refine ro1 tabOk rfl rfl ?_ | refine ro2 tabOk rfl rfl ?_ | refine ro3 tabOk rfl rfl ?_ | refine rd1 tabOk rfl rfl ?_ | refine rd2 tabOk rfl rfl ?_ | refine rd3 tabOk rfl rfl ?_ | ((first | apply oR rfl rfl | (apply dF rfl rfl rfl; intro _) | (apply dP rfl rfl rfl; intro _) | (apply dL rfl rfl rfl; intro _) | apply dC rfl rfl rfl rfl); (focus (first | exact cJ | exact mG | exact bT | exact nD)); try exact kQ) | refine xS ?_ | refine xR ?_ | refine qxa rfl rfl mixed ?_ | refine qxb rfl rfl mixed ?_ | refine qxc rfl rfl mixed ?_ | refine qxd rfl rfl mixed ?_ | refine xB ?_ | refine xt rfl ?_ | refine xf rfl ?_))
              (first | refine Ret_box (wC vT wN) rfl rfl rfl rfl rfl rfl rfl rfl rfl ?_ ?_ ?_ rfl | refine Ret_box (wC (vA (AG rfl) (SZ rfl) rfl rfl (lB rfl)) wN) rfl rfl rfl rfl rfl rfl rfl rfl rfl ?_ ?_ ?_ rfl | refine Ret_box (wC vT (wC vT wN)) rfl rfl rfl rfl rfl rfl rfl rfl rfl ?_ ?_ ?_ rfl | refine Ret_box (wC (vA (AG rfl) (SZ rfl) rfl rfl (lB rfl)) (wC vT wN)) rfl rfl rfl rfl rfl rfl rfl rfl rfl ?_ ?_ ?_ rfl)
              · rw [hlook, ← hl]; simp [looks, constG]
              · rw [hlook, ← hl]; simp [looks, lookH]
              · rfl
end Go.Proofs.Ytffpepmfdjjjaaa


namespace Go.Proofs.Ytffpepmfdjjjaaa
open Go.Pure
attribute [local irreducible] PW POps POpsD PO PC Cond

def lookBH (cs : List PV) (n : Int) : PH := ⟨[cs, [.g (.int .i64 n)], [.clo (.func 50) [] [.ptr 1 0, .ptr 2 0]]], [], []⟩

set_option maxRecDepth 100000 in
set_option maxHeartbeats 4000000 in
theorem lookb_pc (tag tn : Int) (text : ByteArray) (kids : List Tr) (d n : Int) (hn : 0 ≤ n ∧ n ≤ 5000) (hd : 0 ≤ d ∧ d ≤ 41) (hk : (Tr.mk tag tn text kids).ok) :
    PC Try.prog 50 [.ptr 0 0, .g (.int .i64 d), .ptr 1 0, .ptr 2 0] (lookBH [.g (.int .i64 tag), .g (.int .i64 tn), .g (.str text), .g (.sl (Tr.gs kids))] n) (.g (.int .i64 (look d n (.mk tag tn text kids)).1)) (lookBH [.g (.int .i64 tag), .g (.int .i64 tn), .g (.str text), .g (.sl (Tr.gs kids))] (look d n (.mk tag tn text kids)).2) := by
  have hw := wrap64 (n := n + 1) (by omega)
  simp only [Tr.ok, maxLen] at hk
  refine PC_of_PW Try.func50 rfl rfl (rs := _) rfl (Nat.le_of_ble_eq_true (by kernel_rfl)) ?_
  (repeat (first | ((first | refine qA ?_ | refine qB ?_ | refine xN ?_ | refine xE ?_ | refine xT ?_); try show PW _ _ _ _ _ _) | refine ro1 tabOk rfl rfl ?_ | refine ro2 tabOk rfl rfl ?_ | refine ro3 tabOk rfl rfl ?_ | refine rd1 tabOk rfl rfl ?_ | refine rd2 tabOk rfl rfl ?_ | refine rd3 tabOk rfl rfl ?_ | ((first | apply oR rfl rfl | (apply dF rfl rfl rfl; intro _) | (apply dP rfl rfl rfl; intro _) | (apply dL rfl rfl rfl; intro _) | apply dC rfl rfl rfl rfl); (focus (first | exact cJ | exact mG | exact bT | exact nD)); try exact kQ) | refine xS ?_ | refine xR ?_ | refine qxa rfl rfl mixed ?_ | refine qxb rfl rfl mixed ?_ | refine qxc rfl rfl mixed ?_ | refine qxd rfl rfl mixed ?_ | refine xB ?_ | refine xt rfl ?_ | refine xf rfl ?_))
  (first | refine POps_split rfl rfl (fun h => ?_) (fun h => ?_) | refine POpsD_split rfl rfl (fun h => ?_) (fun h => ?_) | refine PW_cond rfl (fun h => ?_) (fun h => ?_))
  · (repeat (first | ((first | refine qA ?_ | refine qB ?_ | refine xN ?_ | refine xE ?_ | refine xT ?_); try show PW _ _ _ _ _ _) | refine ro1 tabOk rfl rfl ?_ | refine ro2 tabOk rfl rfl ?_ | refine ro3 tabOk rfl rfl ?_ | refine rd1 tabOk rfl rfl ?_ | refine rd2 tabOk rfl rfl ?_ | refine rd3 tabOk rfl rfl ?_ | ((first | apply oR rfl rfl | (apply dF rfl rfl rfl; intro _) | (apply dP rfl rfl rfl; intro _) | (apply dL rfl rfl rfl; intro _) | apply dC rfl rfl rfl rfl); (focus (first | exact cJ | exact mG | exact bT | exact nD)); try exact kQ) | refine xS ?_ | refine xR ?_ | refine qxa rfl rfl mixed ?_ | refine qxb rfl rfl mixed ?_ | refine qxc rfl rfl mixed ?_ | refine qxd rfl rfl mixed ?_ | refine xB ?_ | refine xt rfl ?_ | refine xf rfl ?_))
    have h5 : 5000 < n + 1 := by have := of_decide_eq_true h; rw [hw] at this; exact this
    (first | refine Ret_box (wC vT wN) rfl rfl rfl rfl rfl rfl rfl rfl rfl ?_ ?_ ?_ rfl | refine Ret_box (wC (vA (AG rfl) (SZ rfl) rfl rfl (lB rfl)) wN) rfl rfl rfl rfl rfl rfl rfl rfl rfl ?_ ?_ ?_ rfl | refine Ret_box (wC vT (wC vT wN)) rfl rfl rfl rfl rfl rfl rfl rfl rfl ?_ ?_ ?_ rfl | refine Ret_box (wC (vA (AG rfl) (SZ rfl) rfl rfl (lB rfl)) (wC vT wN)) rfl rfl rfl rfl rfl rfl rfl rfl rfl ?_ ?_ ?_ rfl)
    · simp [look, h5, constG]
    · simp [look, h5, lookBH, hw]
    · rfl
  · (repeat (first | ((first | refine qA ?_ | refine qB ?_ | refine xN ?_ | refine xE ?_ | refine xT ?_); try show PW _ _ _ _ _ _) | refine ro1 tabOk rfl rfl ?_ | refine ro2 tabOk rfl rfl ?_ | refine ro3 tabOk rfl rfl ?_ | refine rd1 tabOk rfl rfl ?_ | refine rd2 tabOk rfl rfl ?_ | refine rd3 tabOk rfl rfl ?_ | ((first | apply oR rfl rfl | (apply dF rfl rfl rfl; intro _) | (apply dP rfl rfl rfl; intro _) | (apply dL rfl rfl rfl; intro _) | apply dC rfl rfl rfl rfl); (focus (first | exact cJ | exact mG | exact bT | exact nD)); try exact kQ) | refine xS ?_ | refine xR ?_ | refine qxa rfl rfl mixed ?_ | refine qxb rfl rfl mixed ?_ | refine qxc rfl rfl mixed ?_ | refine qxd rfl rfl mixed ?_ | refine xB ?_ | refine xt rfl ?_ | refine xf rfl ?_))
    have h5 : ¬ 5000 < n + 1 := by have := of_decide_eq_false h; rw [hw] at this; exact this
    have hdd : decide (d > 40) = decide (40 < d) := rfl
    (first | refine POps_split rfl rfl (fun h => ?_) (fun h => ?_) | refine POpsD_split rfl rfl (fun h => ?_) (fun h => ?_) | refine PW_cond rfl (fun h => ?_) (fun h => ?_))
    · (repeat (first | ((first | refine qA ?_ | refine qB ?_ | refine xN ?_ | refine xE ?_ | refine xT ?_); try show PW _ _ _ _ _ _) | refine ro1 tabOk rfl rfl ?_ | refine ro2 tabOk rfl rfl ?_ | refine ro3 tabOk rfl rfl ?_ | refine rd1 tabOk rfl rfl ?_ | refine rd2 tabOk rfl rfl ?_ | refine rd3 tabOk rfl rfl ?_ | ((first | apply oR rfl rfl | (apply dF rfl rfl rfl; intro _) | (apply dP rfl rfl rfl; intro _) | (apply dL rfl rfl rfl; intro _) | apply dC rfl rfl rfl rfl); (focus (first | exact cJ | exact mG | exact bT | exact nD)); try exact kQ) | refine xS ?_ | refine xR ?_ | refine qxa rfl rfl mixed ?_ | refine qxb rfl rfl mixed ?_ | refine qxc rfl rfl mixed ?_ | refine qxd rfl rfl mixed ?_ | refine xB ?_ | refine xt rfl ?_ | refine xf rfl ?_))
      have h6 : 40 < d := by have := of_decide_eq_true h; exact this
      (first | refine Ret_box (wC vT wN) rfl rfl rfl rfl rfl rfl rfl rfl rfl ?_ ?_ ?_ rfl | refine Ret_box (wC (vA (AG rfl) (SZ rfl) rfl rfl (lB rfl)) wN) rfl rfl rfl rfl rfl rfl rfl rfl rfl ?_ ?_ ?_ rfl | refine Ret_box (wC vT (wC vT wN)) rfl rfl rfl rfl rfl rfl rfl rfl rfl ?_ ?_ ?_ rfl | refine Ret_box (wC (vA (AG rfl) (SZ rfl) rfl rfl (lB rfl)) (wC vT wN)) rfl rfl rfl rfl rfl rfl rfl rfl rfl ?_ ?_ ?_ rfl)
      · simp [look, h6, constG]
      · simp [look, h6, lookBH, hw]
      · rfl
    · (repeat (first | ((first | refine qA ?_ | refine qB ?_ | refine xN ?_ | refine xE ?_ | refine xT ?_); try show PW _ _ _ _ _ _) | refine ro1 tabOk rfl rfl ?_ | refine ro2 tabOk rfl rfl ?_ | refine ro3 tabOk rfl rfl ?_ | refine rd1 tabOk rfl rfl ?_ | refine rd2 tabOk rfl rfl ?_ | refine rd3 tabOk rfl rfl ?_ | ((first | apply oR rfl rfl | (apply dF rfl rfl rfl; intro _) | (apply dP rfl rfl rfl; intro _) | (apply dL rfl rfl rfl; intro _) | apply dC rfl rfl rfl rfl); (focus (first | exact cJ | exact mG | exact bT | exact nD)); try exact kQ) | refine xS ?_ | refine xR ?_ | refine qxa rfl rfl mixed ?_ | refine qxb rfl rfl mixed ?_ | refine qxc rfl rfl mixed ?_ | refine qxd rfl rfl mixed ?_ | refine xB ?_ | refine xt rfl ?_ | refine xf rfl ?_))
      have h6 : ¬ 40 < d := by have := of_decide_eq_false h; exact this
      (first | refine POps_split rfl rfl (fun h => ?_) (fun h => ?_) | refine POpsD_split rfl rfl (fun h => ?_) (fun h => ?_) | refine PW_cond rfl (fun h => ?_) (fun h => ?_))
      · (repeat (first | ((first | refine qA ?_ | refine qB ?_ | refine xN ?_ | refine xE ?_ | refine xT ?_); try show PW _ _ _ _ _ _) | refine ro1 tabOk rfl rfl ?_ | refine ro2 tabOk rfl rfl ?_ | refine ro3 tabOk rfl rfl ?_ | refine rd1 tabOk rfl rfl ?_ | refine rd2 tabOk rfl rfl ?_ | refine rd3 tabOk rfl rfl ?_ | ((first | apply oR rfl rfl | (apply dF rfl rfl rfl; intro _) | (apply dP rfl rfl rfl; intro _) | (apply dL rfl rfl rfl; intro _) | apply dC rfl rfl rfl rfl); (focus (first | exact cJ | exact mG | exact bT | exact nD)); try exact kQ) | refine xS ?_ | refine xR ?_ | refine qxa rfl rfl mixed ?_ | refine qxb rfl rfl mixed ?_ | refine qxc rfl rfl mixed ?_ | refine qxd rfl rfl mixed ?_ | refine xB ?_ | refine xt rfl ?_ | refine xf rfl ?_))
        have h7 : tag < 0 := of_decide_eq_true h
        (first | refine Ret_box (wC vT wN) rfl rfl rfl rfl rfl rfl rfl rfl rfl ?_ ?_ ?_ rfl | refine Ret_box (wC (vA (AG rfl) (SZ rfl) rfl rfl (lB rfl)) wN) rfl rfl rfl rfl rfl rfl rfl rfl rfl ?_ ?_ ?_ rfl | refine Ret_box (wC vT (wC vT wN)) rfl rfl rfl rfl rfl rfl rfl rfl rfl ?_ ?_ ?_ rfl | refine Ret_box (wC (vA (AG rfl) (SZ rfl) rfl rfl (lB rfl)) (wC vT wN)) rfl rfl rfl rfl rfl rfl rfl rfl rfl ?_ ?_ ?_ rfl)
        · simp [look, h5, h6, h7, constG]
        · simp [look, h5, h6, h7, lookBH, hw]
        · rfl
      · (repeat (first | ((first | refine qA ?_ | refine qB ?_ | refine xN ?_ | refine xE ?_ | refine xT ?_); try show PW _ _ _ _ _ _) | refine ro1 tabOk rfl rfl ?_ | refine ro2 tabOk rfl rfl ?_ | refine ro3 tabOk rfl rfl ?_ | refine rd1 tabOk rfl rfl ?_ | refine rd2 tabOk rfl rfl ?_ | refine rd3 tabOk rfl rfl ?_ | ((first | apply oR rfl rfl | (apply dF rfl rfl rfl; intro _) | (apply dP rfl rfl rfl; intro _) | (apply dL rfl rfl rfl; intro _) | apply dC rfl rfl rfl rfl); (focus (first | exact cJ | exact mG | exact bT | exact nD)); try exact kQ) | refine xS ?_ | refine xR ?_ | refine qxa rfl rfl mixed ?_ | refine qxb rfl rfl mixed ?_ | refine qxc rfl rfl mixed ?_ | refine qxd rfl rfl mixed ?_ | refine xB ?_ | refine xt rfl ?_ | refine xf rfl ?_))
        have h7 : ¬ tag < 0 := of_decide_eq_false h
        (first | refine POps_split rfl rfl (fun h => ?_) (fun h => ?_) | refine POpsD_split rfl rfl (fun h => ?_) (fun h => ?_) | refine PW_cond rfl (fun h => ?_) (fun h => ?_))
        · (repeat (first | ((first | refine qA ?_ | refine qB ?_ | refine xN ?_ | refine xE ?_ | refine xT ?_); try show PW _ _ _ _ _ _) | refine ro1 tabOk rfl rfl ?_ | refine ro2 tabOk rfl rfl ?_ | refine ro3 tabOk rfl rfl ?_ | refine rd1 tabOk rfl rfl ?_ | refine rd2 tabOk rfl rfl ?_ | refine rd3 tabOk rfl rfl ?_ | ((first | apply oR rfl rfl | (apply dF rfl rfl rfl; intro _) | (apply dP rfl rfl rfl; intro _) | (apply dL rfl rfl rfl; intro _) | apply dC rfl rfl rfl rfl); (focus (first | exact cJ | exact mG | exact bT | exact nD)); try exact kQ) | refine xS ?_ | refine xR ?_ | refine qxa rfl rfl mixed ?_ | refine qxb rfl rfl mixed ?_ | refine qxc rfl rfl mixed ?_ | refine qxd rfl rfl mixed ?_ | refine xB ?_ | refine xt rfl ?_ | refine xf rfl ?_))
          have h8 : 255 < tag := of_decide_eq_true h
          (first | refine Ret_box (wC vT wN) rfl rfl rfl rfl rfl rfl rfl rfl rfl ?_ ?_ ?_ rfl | refine Ret_box (wC (vA (AG rfl) (SZ rfl) rfl rfl (lB rfl)) wN) rfl rfl rfl rfl rfl rfl rfl rfl rfl ?_ ?_ ?_ rfl | refine Ret_box (wC vT (wC vT wN)) rfl rfl rfl rfl rfl rfl rfl rfl rfl ?_ ?_ ?_ rfl | refine Ret_box (wC (vA (AG rfl) (SZ rfl) rfl rfl (lB rfl)) (wC vT wN)) rfl rfl rfl rfl rfl rfl rfl rfl rfl ?_ ?_ ?_ rfl)
          · simp [look, h5, h6, h8, constG]
          · simp [look, h5, h6, h8, lookBH, hw]
          · rfl
        · (repeat (first | ((first | refine qA ?_ | refine qB ?_ | refine xN ?_ | refine xE ?_ | refine xT ?_); try show PW _ _ _ _ _ _) | refine ro1 tabOk rfl rfl ?_ | refine ro2 tabOk rfl rfl ?_ | refine ro3 tabOk rfl rfl ?_ | refine rd1 tabOk rfl rfl ?_ | refine rd2 tabOk rfl rfl ?_ | refine rd3 tabOk rfl rfl ?_ | ((first | apply oR rfl rfl | (apply dF rfl rfl rfl; intro _) | (apply dP rfl rfl rfl; intro _) | (apply dL rfl rfl rfl; intro _) | apply dC rfl rfl rfl rfl); (focus (first | exact cJ | exact mG | exact bT | exact nD)); try exact kQ) | refine xS ?_ | refine xR ?_ | refine qxa rfl rfl mixed ?_ | refine qxb rfl rfl mixed ?_ | refine qxc rfl rfl mixed ?_ | refine qxd rfl rfl mixed ?_ | refine xB ?_ | refine xt rfl ?_ | refine xf rfl ?_))
          have h8 : ¬ 255 < tag := of_decide_eq_false h
          have hlook : look d n (.mk tag tn text kids) = looks (d + 1) (n + 1) kids := by simp [look, h5, h6, h7, h8]
          refine PW_loop (S := Nat × Int) (fun s => slots [(0, .ptr 0 0), (1, .g (.int .i64 d)), (2, .ptr 1 0), (3, .ptr 2 0), (33, .g (.int .i64 kids.length)), (34, .g (.int .i64 s.1))]) (fun s => lookBH [.g (.int .i64 tag), .g (.int .i64 tn), .g (.str text), .g (.sl (Tr.gs kids))] s.2)
            (fun s => s.1 ≤ kids.length ∧ (0 ≤ s.2 ∧ s.2 ≤ 5000) ∧ looks (d + 1) s.2 (kids.drop s.1) = looks (d + 1) (n + 1) kids) (fun s => kids.length - s.1) (0, n + 1) ⟨Nat.zero_le _, by omega, rfl⟩
            (SlotsOk.le ⟨.inl rfl, .inl rfl, .inl rfl, .inl rfl, .inl (congrArg (fun k : Nat => PV.g (.int .i64 k)) (gs_len kids)), .inl rfl, trivial⟩) (HLe.of_eq (congrArg (lookBH [.g (.int .i64 tag), .g (.int .i64 tn), .g (.str text), .g (.sl (Tr.gs kids))]) hw)) (fun s hs => ?_)
          obtain ⟨i, n1⟩ := s
          obtain ⟨hi, hn1, hl⟩ := hs
          (repeat (first | ((first | refine qA ?_ | refine qB ?_ | refine xN ?_ | refine xE ?_ | refine xT ?_); try show PW _ _ _ _ _ _) | refine ro1 tabOk rfl rfl ?_ | refine ro2 tabOk rfl rfl ?_ | refine ro3 tabOk rfl rfl ?_ | refine rd1 tabOk rfl rfl ?_ | refine rd2 tabOk rfl rfl ?_ | refine rd3 tabOk rfl rfl ?_ | ((first | apply oR rfl rfl | (apply dF rfl rfl rfl; intro _) | (apply dP rfl rfl rfl; intro _) | (apply dL rfl rfl rfl; intro _) | apply dC rfl rfl rfl rfl); (focus (first | exact cJ | exact mG | exact bT | exact nD)); try exact kQ) | refine xS ?_ | refine xR ?_ | refine qxa rfl rfl mixed ?_ | refine qxb rfl rfl mixed ?_ | refine qxc rfl rfl mixed ?_ | refine qxd rfl rfl mixed ?_ | refine xB ?_ | refine xt rfl ?_ | refine xf rfl ?_))
          (first | refine POps_split rfl rfl (fun h => ?_) (fun h => ?_) | refine POpsD_split rfl rfl (fun h => ?_) (fun h => ?_) | refine PW_cond rfl (fun h => ?_) (fun h => ?_))
          · have hlt : i < kids.length := by have := of_decide_eq_true h; omega
            have hg := gs_get hlt
            have hdr : kids.drop i = kids[i] :: kids.drop (i + 1) := List.drop_eq_getElem_cons hlt
            have hsz := kid_size hlt tag tn text
            have hI : PC Try.prog 50 [.pat (kids[i]).g.cells, .g (.int .i64 (IntKind.i64.wrap (d + 1))), .ptr 0 0, .ptr 1 0] (lookH n1) (.g (.int .i64 (look (d + 1) n1 kids[i]).1)) (lookH (look (d + 1) n1 kids[i]).2) := by
              rw [wrap64 (by omega)]
              exact look_pc _ kids[i] (d + 1) n1 (Nat.le_refl _) hn1 (by omega) (oks_get hlt hk.2)
            (repeat (first | ((first | refine qA ?_ | refine qB ?_ | refine xN ?_ | refine xE ?_ | refine xT ?_); try show PW _ _ _ _ _ _) | refine ro1 tabOk rfl rfl ?_ | refine ro2 tabOk rfl rfl ?_ | refine ro3 tabOk rfl rfl ?_ | refine rd1 tabOk rfl rfl ?_ | refine rd2 tabOk rfl rfl ?_ | refine rd3 tabOk rfl rfl ?_ | ((first | apply oR rfl rfl | (apply dF rfl rfl rfl; intro _) | (apply dP rfl rfl rfl; intro _) | (apply dL rfl rfl rfl; intro _) | apply dC rfl rfl rfl rfl); (focus (first | exact ck [] rfl rfl (EN rfl) (hI) rfl rfl rfl rfl rfl rfl rfl rfl rfl rfl rfl | exact iA rfl (EL rfl) (SZ rfl) rfl rfl (Int.natCast_nonneg _) hg (g_cells _) | exact cJ | exact mG | exact bT | exact nD)); try exact kQ) | refine xS ?_ | refine xR ?_ | refine xK false false [0, 2] rfl mixed (by decide +kernel) ?_ | refine xK false true [0, 2] rfl mixed (by decide +kernel) ?_ | refine xK true false [0, 2] rfl mixed (by decide +kernel) ?_ | refine xK true true [0, 2] rfl mixed (by decide +kernel) ?_ | refine xB ?_ | refine xt rfl ?_ | refine xf rfl ?_))
            dsimp only at hl hn1
            (first | refine POps_split rfl rfl (fun h => ?_) (fun h => ?_) | refine POpsD_split rfl rfl (fun h => ?_) (fun h => ?_) | refine PW_cond rfl (fun h => ?_) (fun h => ?_))
            · have he : ¬ (look (d + 1) n1 kids[i]).1 = 0 := by simpa [bne] using h
              have hlk : looks (d + 1) (n + 1) kids = look (d + 1) n1 kids[i] := by rw [← hl, hdr, looks, if_neg he]
              (repeat (first | ((first | refine qA ?_ | refine qB ?_ | refine xN ?_ | refine xE ?_ | refine xT ?_); try show PW _ _ _ _ _ _) | refine ro1 tabOk rfl rfl ?_ | refine ro2 tabOk rfl rfl ?_ | refine ro3 tabOk rfl rfl ?_ | refine rd1 tabOk rfl rfl ?_ | refine rd2 tabOk rfl rfl ?_ | refine rd3 tabOk rfl rfl ?_ | ((first | apply oR rfl rfl | (apply dF rfl rfl rfl; intro _) | (apply dP rfl rfl rfl; intro _) | (apply dL rfl rfl rfl; intro _) | apply dC rfl rfl rfl rfl); (focus (first | exact cJ | exact mG | exact bT | exact nD)); try exact kQ) | refine xS ?_ | refine xR ?_ | refine qxa rfl rfl mixed ?_ | refine qxb rfl rfl mixed ?_ | refine qxc rfl rfl mixed ?_ | refine qxd rfl rfl mixed ?_ | refine xB ?_ | refine xt rfl ?_ | refine xf rfl ?_))
              (first | refine Ret_box (wC vT wN) rfl rfl rfl rfl rfl rfl rfl rfl rfl ?_ ?_ ?_ rfl | refine Ret_box (wC (vA (AG rfl) (SZ rfl) rfl rfl (lB rfl)) wN) rfl rfl rfl rfl rfl rfl rfl rfl rfl ?_ ?_ ?_ rfl | refine Ret_box (wC vT (wC vT wN)) rfl rfl rfl rfl rfl rfl rfl rfl rfl ?_ ?_ ?_ rfl | refine Ret_box (wC (vA (AG rfl) (SZ rfl) rfl rfl (lB rfl)) (wC vT wN)) rfl rfl rfl rfl rfl rfl rfl rfl rfl ?_ ?_ ?_ rfl)
              · rw [hlook, hlk]
              · rw [hlook, hlk]; rfl
              · rfl
            · have he : (look (d + 1) n1 kids[i]).1 = 0 := by simpa [bne] using h
              have hle := look_le n1 kids[i] hn1.1 he
              (repeat (first | ((first | refine qA ?_ | refine qB ?_ | refine xN ?_ | refine xE ?_ | refine xT ?_); try show PW _ _ _ _ _ _) | refine ro1 tabOk rfl rfl ?_ | refine ro2 tabOk rfl rfl ?_ | refine ro3 tabOk rfl rfl ?_ | refine rd1 tabOk rfl rfl ?_ | refine rd2 tabOk rfl rfl ?_ | refine rd3 tabOk rfl rfl ?_ | ((first | apply oR rfl rfl | (apply dF rfl rfl rfl; intro _) | (apply dP rfl rfl rfl; intro _) | (apply dL rfl rfl rfl; intro _) | apply dC rfl rfl rfl rfl); (focus (first | exact cJ | exact mG | exact bT | exact nD)); try exact kQ) | refine xS ?_ | refine xR ?_ | refine qxa rfl rfl mixed ?_ | refine qxb rfl rfl mixed ?_ | refine qxc rfl rfl mixed ?_ | refine qxd rfl rfl mixed ?_ | refine xB ?_ | refine xt rfl ?_ | refine xf rfl ?_))
              refine ⟨(i + 1, (look (d + 1) n1 kids[i]).2), ⟨hlt, hle, ?_⟩, by simp; omega, SlotsOk.le ⟨.inl rfl, .inl rfl, .inl rfl, .inl rfl, .inl rfl, .inl (congrArg (fun k => PV.g (.int .i64 k)) (wrap64 (by omega))), trivial⟩, HLe.refl _⟩
              rw [← hl, hdr, looks, if_pos he]
          · have hi' : i = kids.length := by have := of_decide_eq_false h; omega
            subst hi'
            (repeat (first | ((first | refine qA ?_ | refine qB ?_ | refine xN ?_ | refine xE ?_ | refine xT ?_); try show PW _ _ _ _ _ _) | refine ro1 tabOk rfl rfl ?_ | refine ro2 tabOk rfl rfl ?_ | refine ro3 tabOk rfl rfl ?_ | refine rd1 tabOk rfl rfl ?_ | refine rd2 tabOk rfl rfl ?_ | refine rd3 tabOk rfl rfl ?_ | ((first | apply oR rfl rfl | (apply dF rfl rfl rfl; intro _) | (apply dP rfl rfl rfl; intro _) | (apply dL rfl rfl rfl; intro _) | apply dC rfl rfl rfl rfl); (focus (first | exact cJ | exact mG | exact bT | exact nD)); try exact kQ) | refine xS ?_ | refine xR ?_ | refine qxa rfl rfl mixed ?_ | refine qxb rfl rfl mixed ?_ | refine qxc rfl rfl mixed ?_ | refine qxd rfl rfl mixed ?_ | refine xB ?_ | refine xt rfl ?_ | refine xf rfl ?_))
            (first | refine Ret_box (wC vT wN) rfl rfl rfl rfl rfl rfl rfl rfl rfl ?_ ?_ ?_ rfl | refine Ret_box (wC (vA (AG rfl) (SZ rfl) rfl rfl (lB rfl)) wN) rfl rfl rfl rfl rfl rfl rfl rfl rfl ?_ ?_ ?_ rfl | refine Ret_box (wC vT (wC vT wN)) rfl rfl rfl rfl rfl rfl rfl rfl rfl ?_ ?_ ?_ rfl | refine Ret_box (wC (vA (AG rfl) (SZ rfl) rfl rfl (lB rfl)) (wC vT wN)) rfl rfl rfl rfl rfl rfl rfl rfl rfl ?_ ?_ ?_ rfl)
            · rw [hlook, ← hl]; simp [looks, constG]
            · rw [hlook, ← hl]; simp [looks, lookBH]
            · rfl

/-- What is wrong with a tree. -/
def wrongT (t : Tr) : Int := (look 1 0 t).1
set_option maxRecDepth 100000 in
set_option maxHeartbeats 4000000 in
theorem wrong_pc (t : Tr) (hk : t.ok) : PC Try.prog 17 [.g t.g] ⟨[], [], []⟩ (.g (.int .i64 (wrongT t))) ⟨[], [], []⟩ := by
  obtain ⟨tag, tn, text, kids⟩ := t
  have hb := lookb_pc tag tn text kids 1 0 (by omega) (by omega) hk
  refine PC_of_PW Try.func17 rfl rfl (rs := _) rfl (Nat.le_of_ble_eq_true (by kernel_rfl)) ?_
  (repeat (first | ((first | refine qA ?_ | refine qB ?_ | refine xN ?_ | refine xE ?_ | refine xT ?_); try show PW _ _ _ _ _ _) | refine ro1 tabOk rfl rfl ?_ | refine ro2 tabOk rfl rfl ?_ | refine ro3 tabOk rfl rfl ?_ | refine rd1 tabOk rfl rfl ?_ | refine rd2 tabOk rfl rfl ?_ | refine rd3 tabOk rfl rfl ?_ | ((first | apply oR rfl rfl | (apply dF rfl rfl rfl; intro _) | (apply dP rfl rfl rfl; intro _) | (apply dL rfl rfl rfl; intro _) | apply dC rfl rfl rfl rfl); (focus (first | exact ck [] rfl rfl (EN rfl) (hb) rfl rfl rfl rfl rfl rfl rfl rfl rfl rfl rfl | exact cJ | exact mG | exact bT | exact nD)); try exact kQ) | refine xS ?_ | refine xR ?_ | refine qxa rfl rfl mixed ?_ | refine qxb rfl rfl mixed ?_ | refine qxc rfl rfl mixed ?_ | refine qxd rfl rfl mixed ?_ | refine xB ?_ | refine xt rfl ?_ | refine xf rfl ?_))
  (first | refine Ret_int (vC vT vN) rfl ?_ | refine Ret_bool (vC vT vN) rfl ?_ | refine Ret_g (vC vT vN) rfl ?_ | refine Ret_int (vC (vA (AG rfl) (SZ rfl) rfl rfl (lB rfl)) vN) rfl ?_ | refine Ret_bool (vC (vA (AG rfl) (SZ rfl) rfl rfl (lB rfl)) vN) rfl ?_ | refine Ret_g (vC (vA (AG rfl) (SZ rfl) rfl rfl (lB rfl)) vN) rfl ?_)
  rfl
end Go.Proofs.Ytffpepmfdjjjaaa


namespace Go.Proofs.Ytffpepmfdjjjaaa
open Go.Pure
attribute [local irreducible] PW POps POpsD PO PC Cond

/-- Seven bits a byte, the lowest ones first. -/
def varint (x : Nat) : List UInt8 := if _h : 128 ≤ x then UInt8.ofNat (x % 128 + 128) :: varint (x / 128) else [UInt8.ofNat x]
termination_by x
decreasing_by omega
theorem varint_big {x : Nat} (h : 128 ≤ x) : varint x = UInt8.ofNat (x % 128 + 128) :: varint (x / 128) := by rw [varint, dif_pos h]
theorem varint_small {x : Nat} (h : ¬ 128 ≤ x) : varint x = [UInt8.ofNat x] := by rw [varint, dif_neg h]
theorem varint_len : ∀ (k x : Nat), x < 128 ^ (k + 1) → (varint x).length ≤ k + 1
  | 0, x, h => by rw [varint_small (by simp at h; omega)]; simp
  | k + 1, x, h => by
    by_cases hx : 128 ≤ x
    · rw [varint_big hx]
      have := varint_len k (x / 128) (by rw [Nat.pow_succ] at h; omega)
      simp; omega
    · rw [varint_small hx]; simp

theorem u8wrap (x : Nat) : IntKind.u8.wrap (x : Int) = ((x % 256 : Nat) : Int) := by
  simp [IntKind.wrap, IntKind.bits, IntKind.signed]
theorem or128 (x : Nat) : IntKind.u8.wrap ((BitVec.ofInt IntKind.u8.bits (IntKind.u8.wrap (x : Int)) ||| BitVec.ofInt IntKind.u8.bits 128).toNat : Int) = ((UInt8.ofNat (x % 128 + 128)).toNat : Int) := by
  rw [u8wrap]
  show IntKind.u8.wrap ((BitVec.ofInt 8 ((x % 256 : Nat) : Int) ||| BitVec.ofInt 8 128).toNat : Int) = _
  rw [u8wrap, BitVec.ofInt_natCast]
  have h1 : ∀ y : Fin 256, (BitVec.ofNat 8 y.val ||| BitVec.ofInt 8 128).toNat % 256 = (UInt8.ofNat (y.val % 128 + 128)).toNat := by decide +kernel
  have := h1 ⟨x % 256, Nat.mod_lt _ (by decide)⟩
  simp only at this
  rw [this, Nat.mod_mod_of_dvd _ (by decide)]
theorem small8 (x : Nat) : IntKind.u8.wrap (x : Int) = ((UInt8.ofNat x).toNat : Int) := by
  rw [u8wrap]
  simp
theorem shr7 (x : Nat) : (x : Int).fdiv (2 ^ min (7 : Int).toNat IntKind.u64.bits) = ((x / 128 : Nat) : Int) := by
  have : (2 : Int) ^ min (7 : Int).toNat IntKind.u64.bits = 128 := by decide
  rw [this, Int.fdiv_eq_ediv_of_nonneg _ (by decide)]; rfl
theorem bys_len (b : List UInt8) : (bys b).length = b.length := by simp [bys]
theorem bys_app (b : List UInt8) (v : UInt8) {n : Int} (h : n = (v.toNat : Int)) : bys b ++ [GV.int .u8 n] = bys (b ++ [v]) := by simp [bys, byteG, h]
theorem own_byte (b : List UInt8) (v : UInt8) {n : Int} (h : n = (v.toNat : Int)) : PV.own (bys b ++ [GV.int .u8 n]) 0 = .own (bys (b ++ [v])) 0 := by rw [bys_app b v h]

set_option maxRecDepth 100000 in
set_option maxHeartbeats 4000000 in
theorem number_pc (b : List UInt8) (x : Nat) (hx : x < 18446744073709551616) (hb : b.length ≤ 1000000000) :
    PC Try.prog 77 [.own (bys b) 0, .g (.int .u64 x)] ⟨[], [(5, b.length)], []⟩ (.own (bys (b ++ varint x)) 0) ⟨[], [(5, (b ++ varint x).length)], []⟩ := by
  have hv : (varint x).length ≤ 10 := varint_len 9 x (Nat.lt_of_lt_of_le hx (by decide))
  refine PC_of_PW Try.func77 rfl rfl (rs := _) rfl (Nat.le_of_ble_eq_true (by kernel_rfl)) ?_
  (repeat (first | ((first | refine qA ?_ | refine qB ?_ | refine xN ?_ | refine xE ?_ | refine xT ?_); try show PW _ _ _ _ _ _) | refine ro1 tabOk rfl rfl ?_ | refine ro2 tabOk rfl rfl ?_ | refine ro3 tabOk rfl rfl ?_ | refine rd1 tabOk rfl rfl ?_ | refine rd2 tabOk rfl rfl ?_ | refine rd3 tabOk rfl rfl ?_ | ((first | apply oR rfl rfl | (apply dF rfl rfl rfl; intro _) | (apply dP rfl rfl rfl; intro _) | (apply dL rfl rfl rfl; intro _) | apply dC rfl rfl rfl rfl); (focus (first | exact cJ | exact mG | exact bT | exact nD)); try exact kQ) | refine xS ?_ | refine xR ?_ | refine qxa rfl rfl mixed ?_ | refine qxb rfl rfl mixed ?_ | refine qxc rfl rfl mixed ?_ | refine qxd rfl rfl mixed ?_ | refine xB ?_ | refine xt rfl ?_ | refine xf rfl ?_))
  refine PW_loop (S := List UInt8 × Nat) (fun s => slots [(0, .own (bys s.1) 0), (1, .g (.int .u64 s.2))]) (fun s => ⟨[], [(5, s.1.length)], []⟩) (fun s => s.2 < 18446744073709551616 ∧ s.1 ++ varint s.2 = b ++ varint x) (fun s => s.2) (b, x) ⟨hx, rfl⟩
    (SlotsOk.le ⟨.inl rfl, .inl rfl, trivial⟩) (HLe.refl _) (fun s hs => ?_)
  obtain ⟨b1, x1⟩ := s
  obtain ⟨hx1, he⟩ := hs
  dsimp only at hx1 he
  have hlen : b1.length + (varint x1).length = b.length + (varint x).length := by rw [← List.length_append, he, List.length_append]
  (repeat (first | ((first | refine qA ?_ | refine qB ?_ | refine xN ?_ | refine xE ?_ | refine xT ?_); try show PW _ _ _ _ _ _) | refine ro1 tabOk rfl rfl ?_ | refine ro2 tabOk rfl rfl ?_ | refine ro3 tabOk rfl rfl ?_ | refine rd1 tabOk rfl rfl ?_ | refine rd2 tabOk rfl rfl ?_ | refine rd3 tabOk rfl rfl ?_ | ((first | apply oR rfl rfl | (apply dF rfl rfl rfl; intro _) | (apply dP rfl rfl rfl; intro _) | (apply dL rfl rfl rfl; intro _) | apply dC rfl rfl rfl rfl); (focus (first | exact cJ | exact mG | exact bT | exact nD)); try exact kQ) | refine xS ?_ | refine xR ?_ | refine qxa rfl rfl mixed ?_ | refine qxb rfl rfl mixed ?_ | refine qxc rfl rfl mixed ?_ | refine qxd rfl rfl mixed ?_ | refine xB ?_ | refine xt rfl ?_ | refine xf rfl ?_))
  (first | refine POps_split rfl rfl (fun h => ?_) (fun h => ?_) | refine POpsD_split rfl rfl (fun h => ?_) (fun h => ?_) | refine PW_cond rfl (fun h => ?_) (fun h => ?_))
  · have h1 : 128 ≤ x1 := by have := of_decide_eq_true h; simp only at this; omega
    (repeat (first | ((first | refine qA ?_ | refine qB ?_ | refine xN ?_ | refine xE ?_ | refine xT ?_); try show PW _ _ _ _ _ _) | refine ro1 tabOk rfl rfl ?_ | refine ro2 tabOk rfl rfl ?_ | refine ro3 tabOk rfl rfl ?_ | refine rd1 tabOk rfl rfl ?_ | refine rd2 tabOk rfl rfl ?_ | refine rd3 tabOk rfl rfl ?_ | ((first | apply oR rfl rfl | (apply dF rfl rfl rfl; intro _) | (apply dP rfl rfl rfl; intro _) | (apply dL rfl rfl rfl; intro _) | apply dC rfl rfl rfl rfl); (focus (first | exact aP rfl (EL rfl) (SZ rfl) (BY rfl) (ZR rfl) rfl rfl rfl rfl (bys_len _) (by intro x hx; simp [group] at hx; subst hx; rfl) (by simp [group]; omega) (by simp [group, maxLen]; omega) | exact PO_shr rfl rfl rfl (by decide) | exact cJ | exact mG | exact bT | exact nD)); try exact kQ) | refine xS ?_ | refine xR ?_ | refine qxa rfl rfl mixed ?_ | refine qxb rfl rfl mixed ?_ | refine qxc rfl rfl mixed ?_ | refine qxd rfl rfl mixed ?_ | refine xB ?_ | refine xt rfl ?_ | refine xf rfl ?_))
    refine ⟨(b1 ++ [UInt8.ofNat (x1 % 128 + 128)], x1 / 128), ⟨by dsimp only; omega, ?_⟩, by dsimp only; omega, SlotsOk.le ⟨.inl (own_byte b1 _ (or128 x1)), .inl (congrArg (fun n => PV.g (.int .u64 n)) (shr7 x1)), trivial⟩,
      HLe.of_eq (congrArg (fun n => (⟨[], [(5, n)], []⟩ : PH)) (show b1.length + 1 = (b1 ++ [UInt8.ofNat (x1 % 128 + 128)]).length by simp))⟩
    dsimp only
    rw [← he, varint_big h1]
    simp
  · have h1 : ¬ 128 ≤ x1 := by have := of_decide_eq_false h; simp only at this; omega
    (repeat (first | ((first | refine qA ?_ | refine qB ?_ | refine xN ?_ | refine xE ?_ | refine xT ?_); try show PW _ _ _ _ _ _) | refine ro1 tabOk rfl rfl ?_ | refine ro2 tabOk rfl rfl ?_ | refine ro3 tabOk rfl rfl ?_ | refine rd1 tabOk rfl rfl ?_ | refine rd2 tabOk rfl rfl ?_ | refine rd3 tabOk rfl rfl ?_ | ((first | apply oR rfl rfl | (apply dF rfl rfl rfl; intro _) | (apply dP rfl rfl rfl; intro _) | (apply dL rfl rfl rfl; intro _) | apply dC rfl rfl rfl rfl); (focus (first | exact aP rfl (EL rfl) (SZ rfl) (BY rfl) (ZR rfl) rfl rfl rfl rfl (bys_len _) (by intro x hx; simp [group] at hx; subst hx; rfl) (by simp [group]; omega) (by simp [group, maxLen]; omega) | exact cJ | exact mG | exact bT | exact nD)); try exact kQ) | refine xS ?_ | refine xR ?_ | refine qxa rfl rfl mixed ?_ | refine qxb rfl rfl mixed ?_ | refine qxc rfl rfl mixed ?_ | refine qxd rfl rfl mixed ?_ | refine xB ?_ | refine xt rfl ?_ | refine xf rfl ?_))
    have hvs : varint x1 = [UInt8.ofNat x1] := varint_small h1
    (first | refine Ret_box (wC vT wN) rfl rfl rfl rfl rfl rfl rfl rfl rfl ?_ ?_ ?_ rfl | refine Ret_box (wC (vA (AG rfl) (SZ rfl) rfl rfl (lB rfl)) wN) rfl rfl rfl rfl rfl rfl rfl rfl rfl ?_ ?_ ?_ rfl | refine Ret_box (wC vT (wC vT wN)) rfl rfl rfl rfl rfl rfl rfl rfl rfl ?_ ?_ ?_ rfl | refine Ret_box (wC (vA (AG rfl) (SZ rfl) rfl rfl (lB rfl)) (wC vT wN)) rfl rfl rfl rfl rfl rfl rfl rfl rfl ?_ ?_ ?_ rfl)
    · rw [← he, hvs]; exact own_byte b1 _ (small8 x1)
    · rfl
    · rw [← he, hvs]; simp [group]
end Go.Proofs.Ytffpepmfdjjjaaa


namespace Go.Proofs.Ytffpepmfdjjjaaa
open Go.Pure
attribute [local irreducible] PW POps POpsD PO PC Cond

/-- A number with a sign as one without. -/
def fold64 (n : Int) : Nat := (BitVec.ofInt 64 (IntKind.u64.wrap (IntKind.i64.wrap (n * 2))) ^^^ BitVec.ofInt 64 (IntKind.u64.wrap (n.fdiv 9223372036854775808))).toNat
theorem fold64_lt (n : Int) : fold64 n < 18446744073709551616 := (BitVec.ofInt 64 _ ^^^ BitVec.ofInt 64 _).isLt

theorem wrapU64 (x : BitVec 64) : IntKind.u64.wrap x.toNat = x.toNat := by
  have := x.isLt
  simp [IntKind.wrap, IntKind.bits, IntKind.signed]; omega

set_option maxRecDepth 100000 in
set_option maxHeartbeats 4000000 in
theorem folded_pc (n : Int) : PC Try.prog 78 [.g (.int .i64 n)] ⟨[], [], []⟩ (.g (.int .u64 (fold64 n))) ⟨[], [], []⟩ := by
  refine PC_of_PW Try.func78 rfl rfl (rs := _) rfl (Nat.le_of_ble_eq_true (by kernel_rfl)) ?_
  (repeat (first | ((first | refine qA ?_ | refine qB ?_ | refine xN ?_ | refine xE ?_ | refine xT ?_); try show PW _ _ _ _ _ _) | refine ro1 tabOk rfl rfl ?_ | refine ro2 tabOk rfl rfl ?_ | refine ro3 tabOk rfl rfl ?_ | refine rd1 tabOk rfl rfl ?_ | refine rd2 tabOk rfl rfl ?_ | refine rd3 tabOk rfl rfl ?_ | ((first | apply oR rfl rfl | (apply dF rfl rfl rfl; intro _) | (apply dP rfl rfl rfl; intro _) | (apply dL rfl rfl rfl; intro _) | apply dC rfl rfl rfl rfl); (focus (first | exact PO_shr rfl rfl rfl (by decide) | exact PO_shl rfl rfl rfl (by decide) | exact cJ | exact mG | exact bT | exact nD)); try exact kQ) | refine xS ?_ | refine xR ?_ | refine qxa rfl rfl mixed ?_ | refine qxb rfl rfl mixed ?_ | refine qxc rfl rfl mixed ?_ | refine qxd rfl rfl mixed ?_ | refine xB ?_ | refine xt rfl ?_ | refine xf rfl ?_))
  (first | refine Ret_int (vC vT vN) rfl ?_ | refine Ret_bool (vC vT vN) rfl ?_ | refine Ret_g (vC vT vN) rfl ?_ | refine Ret_int (vC (vA (AG rfl) (SZ rfl) rfl rfl (lB rfl)) vN) rfl ?_ | refine Ret_bool (vC (vA (AG rfl) (SZ rfl) rfl rfl (lB rfl)) vN) rfl ?_ | refine Ret_g (vC (vA (AG rfl) (SZ rfl) rfl rfl (lB rfl)) vN) rfl ?_)
  have e1 : (2 : Int) ^ min (Int.toNat 1) IntKind.i64.bits = 2 := by decide
  have e2 : (2 : Int) ^ min (Int.toNat 63) IntKind.i64.bits = 9223372036854775808 := by decide
  rw [e1, e2]
  exact wrapU64 (BitVec.ofInt 64 (IntKind.u64.wrap (IntKind.i64.wrap (n * 2))) ^^^ BitVec.ofInt 64 (IntKind.u64.wrap (n.fdiv 9223372036854775808)))
end Go.Proofs.Ytffpepmfdjjjaaa


namespace Go.Proofs.Ytffpepmfdjjjaaa
open Go.Pure
attribute [local irreducible] PW POps POpsD PO PC Cond

def byteI (n : Int) : UInt8 := UInt8.ofNat (n % 256).toNat
mutual
/-- A tree as bytes. -/
def enc : Tr → List UInt8
  | .mk tag n text kids => byteI tag :: (varint (fold64 n) ++ (varint text.size ++ (text.data.toList ++ (varint kids.length ++ encs kids))))
def encs : List Tr → List UInt8
  | [] => []
  | t :: r => enc t ++ encs r
end
theorem u8int (n : Int) : IntKind.u8.wrap n = ((byteI n).toNat : Int) := by
  simp [IntKind.wrap, IntKind.bits, IntKind.signed, byteI]
  omega
theorem byte_one (n : Int) : [GV.int .u8 (IntKind.u8.wrap n)] = bys [byteI n] := by simp [bys, byteG, u8int]
theorem bys_append (a b : List UInt8) : bys (a ++ b) = bys a ++ bys b := by simp [bys]
theorem u64nat {n : Nat} (h : n < 18446744073709551616) : IntKind.u64.wrap (n : Int) = n := by
  simp [IntKind.wrap, IntKind.bits, IntKind.signed]; omega

theorem encs_append : ∀ (a b : List Tr), encs (a ++ b) = encs a ++ encs b
  | [], b => by simp [encs]
  | t :: r, b => by simp [encs, encs_append r b]
theorem encs_take {l : List Tr} {i : Nat} (h : i < l.length) : encs (l.take (i + 1)) = encs (l.take i) ++ enc l[i] := by
  rw [List.take_succ_eq_append_getElem h, encs_append]; simp [encs]
theorem encs_le {l : List Tr} {i : Nat} (h : i < l.length) : (encs (l.take i)).length + (enc l[i]).length ≤ (encs l).length := by
  rw [← List.length_append, ← encs_take h]
  conv => rhs; rw [← List.take_append_drop (i + 1) l]
  rw [encs_append]; simp

set_option maxRecDepth 100000 in
set_option maxHeartbeats 4000000 in
theorem put_pc : ∀ (m : Nat) (t : Tr) (b : List UInt8), SizeOf.sizeOf t ≤ m → t.ok → b.length + (enc t).length ≤ 900000000 →
    PC Try.prog 52 [.own (bys b) 0, .pat t.g.cells] ⟨[], [(5, b.length)], []⟩ (.own (bys (b ++ enc t)) 0) ⟨[], [(5, (b ++ enc t).length)], []⟩
  | 0, t, b, hm, _, _ => by cases t; simp at hm
  | m + 1, .mk tag tn text kids, b, hm, hk, hb => by
    have hb' := hb
    simp only [enc, List.length_cons, List.length_append] at hb'
    simp only [Tr.ok, maxLen] at hk
    have hf := fold64_lt tn
    have hts : text.data.toList.length = text.size := by simp
    have n1 := number_pc (b ++ [byteI tag]) (fold64 tn) hf (by simp; omega)
    have n2 := number_pc (b ++ [byteI tag] ++ varint (fold64 tn)) text.size (by omega) (by simp; omega)
    have n3 := number_pc (b ++ [byteI tag] ++ varint (fold64 tn) ++ varint text.size ++ text.data.toList) kids.length (by omega) (by simp; omega)
    generalize hhd : b ++ [byteI tag] ++ varint (fold64 tn) ++ varint text.size ++ text.data.toList ++ varint kids.length = hd at n3
    have hhl : hd.length + (encs kids).length ≤ 900000000 := by rw [← hhd]; simp; omega
    have n2' : PC Try.prog 77 [.own (bys (b ++ [byteI tag] ++ varint (fold64 tn))) 0, .g (.int .u64 (IntKind.u64.wrap (text.size : Int)))] ⟨[], [(5, (b ++ [byteI tag] ++ varint (fold64 tn)).length)], []⟩
      (.own (bys (b ++ [byteI tag] ++ varint (fold64 tn) ++ varint text.size)) 0) ⟨[], [(5, (b ++ [byteI tag] ++ varint (fold64 tn) ++ varint text.size).length)], []⟩ := by rw [u64nat (by omega)]; exact n2
    have n3' : PC Try.prog 77 [.own (bys (b ++ [byteI tag] ++ varint (fold64 tn) ++ varint text.size ++ text.data.toList)) 0, .g (.int .u64 (IntKind.u64.wrap ((Tr.gs kids).length : Int)))]
      ⟨[], [(5, (b ++ [byteI tag] ++ varint (fold64 tn) ++ varint text.size ++ text.data.toList).length)], []⟩ (.own (bys hd) 0) ⟨[], [(5, hd.length)], []⟩ := by rw [gs_len, u64nat (by omega)]; exact n3
    refine PC_of_PW Try.func52 rfl rfl (rs := _) rfl (Nat.le_of_ble_eq_true (by kernel_rfl)) ?_
    (repeat (first | ((first | refine qA ?_ | refine qB ?_ | refine xN ?_ | refine xE ?_ | refine xT ?_); try show PW _ _ _ _ _ _) | refine ro1 tabOk rfl rfl ?_ | refine ro2 tabOk rfl rfl ?_ | refine ro3 tabOk rfl rfl ?_ | refine rd1 tabOk rfl rfl ?_ | refine rd2 tabOk rfl rfl ?_ | refine rd3 tabOk rfl rfl ?_ | ((first | apply oR rfl rfl | (apply dF rfl rfl rfl; intro _) | (apply dP rfl rfl rfl; intro _) | (apply dL rfl rfl rfl; intro _) | apply dC rfl rfl rfl rfl); (focus (first | exact PO_appb [byteI tag] rfl (EL rfl) (SZ rfl) (BY rfl) (ZR rfl) rfl rfl rfl rfl (byte_one tag) (by simp; omega) (by simp [maxLen]; omega) | exact PO_apps rfl (EL rfl) (ST rfl) (SZ rfl) (BY rfl) (ZR rfl) rfl rfl rfl rfl (by simp; omega) (by simp [maxLen]; omega) | exact call_pure rfl rfl (EN rfl) (folded_pc _) rfl rfl rfl | exact cb [true] rfl rfl (EN rfl) (n1) rfl rfl rfl rfl rfl rfl rfl rfl rfl rfl rfl | exact cJ | exact mG | exact bT | exact nD)); try exact kQ) | refine xS ?_ | refine xR ?_ | refine qxa rfl rfl mixed ?_ | refine qxb rfl rfl mixed ?_ | refine qxc rfl rfl mixed ?_ | refine qxd rfl rfl mixed ?_ | refine xB ?_ | refine xt rfl ?_ | refine xf rfl ?_))
    (repeat (first | ((first | refine qA ?_ | refine qB ?_ | refine xN ?_ | refine xE ?_ | refine xT ?_); try show PW _ _ _ _ _ _) | refine ro1 tabOk rfl rfl ?_ | refine ro2 tabOk rfl rfl ?_ | refine ro3 tabOk rfl rfl ?_ | refine rd1 tabOk rfl rfl ?_ | refine rd2 tabOk rfl rfl ?_ | refine rd3 tabOk rfl rfl ?_ | ((first | apply oR rfl rfl | (apply dF rfl rfl rfl; intro _) | (apply dP rfl rfl rfl; intro _) | (apply dL rfl rfl rfl; intro _) | apply dC rfl rfl rfl rfl); (focus (first | exact cb [true] rfl rfl (EN rfl) (n2') rfl rfl rfl rfl rfl rfl rfl rfl rfl rfl rfl | exact PO_apps rfl (EL rfl) (ST rfl) (SZ rfl) (BY rfl) (ZR rfl) rfl rfl rfl rfl (by simp; omega) (by simp [maxLen]; omega) | exact cJ | exact mG | exact bT | exact nD)); try exact kQ) | refine xS ?_ | refine xR ?_ | refine qxa rfl rfl mixed ?_ | refine qxb rfl rfl mixed ?_ | refine qxc rfl rfl mixed ?_ | refine qxd rfl rfl mixed ?_ | refine xB ?_ | refine xt rfl ?_ | refine xf rfl ?_))
    (repeat (first | ((first | refine qA ?_ | refine qB ?_ | refine xN ?_ | refine xE ?_ | refine xT ?_); try show PW _ _ _ _ _ _) | refine ro1 tabOk rfl rfl ?_ | refine ro2 tabOk rfl rfl ?_ | refine ro3 tabOk rfl rfl ?_ | refine rd1 tabOk rfl rfl ?_ | refine rd2 tabOk rfl rfl ?_ | refine rd3 tabOk rfl rfl ?_ | ((first | apply oR rfl rfl | (apply dF rfl rfl rfl; intro _) | (apply dP rfl rfl rfl; intro _) | (apply dL rfl rfl rfl; intro _) | apply dC rfl rfl rfl rfl); (focus (first | exact cb [true] rfl rfl (EN rfl) (n3') rfl rfl rfl rfl rfl rfl rfl rfl rfl rfl rfl | exact cJ | exact mG | exact bT | exact nD)); try exact kQ) | refine xS ?_ | refine xR ?_ | refine qxa rfl rfl mixed ?_ | refine qxb rfl rfl mixed ?_ | refine qxc rfl rfl mixed ?_ | refine qxd rfl rfl mixed ?_ | refine xB ?_ | refine xt rfl ?_ | refine xf rfl ?_))
    refine PW_loop (S := Nat) (fun i => slots [(0, .own (bys (hd ++ encs (kids.take i))) 0), (1, .pat (Tr.mk tag tn text kids).g.cells), (46, .g (.int .i64 kids.length)), (47, .g (.int .i64 i))]) (fun i => ⟨[], [(5, (hd ++ encs (kids.take i)).length)], []⟩)
      (fun i => i ≤ kids.length) (fun i => kids.length - i) 0 (Nat.zero_le _) (SlotsOk.le ⟨.inl (by first | (simp [encs]; done) | (simp [encs]; rfl)), .inl rfl, .inl (congrArg (fun k : Nat => PV.g (.int .i64 k)) (gs_len kids)), .inl rfl, trivial⟩) (HLe.of_eq (by first | (simp [encs]; done) | (simp [encs]; rfl))) (fun i hi => ?_)
    (repeat (first | ((first | refine qA ?_ | refine qB ?_ | refine xN ?_ | refine xE ?_ | refine xT ?_); try show PW _ _ _ _ _ _) | refine ro1 tabOk rfl rfl ?_ | refine ro2 tabOk rfl rfl ?_ | refine ro3 tabOk rfl rfl ?_ | refine rd1 tabOk rfl rfl ?_ | refine rd2 tabOk rfl rfl ?_ | refine rd3 tabOk rfl rfl ?_ | ((first | apply oR rfl rfl | (apply dF rfl rfl rfl; intro _) | (apply dP rfl rfl rfl; intro _) | (apply dL rfl rfl rfl; intro _) | apply dC rfl rfl rfl rfl); (focus (first | exact cJ | exact mG | exact bT | exact nD)); try exact kQ) | refine xS ?_ | refine xR ?_ | refine qxa rfl rfl mixed ?_ | refine qxb rfl rfl mixed ?_ | refine qxc rfl rfl mixed ?_ | refine qxd rfl rfl mixed ?_ | refine xB ?_ | refine xt rfl ?_ | refine xf rfl ?_))
    (first | refine POps_split rfl rfl (fun h => ?_) (fun h => ?_) | refine POpsD_split rfl rfl (fun h => ?_) (fun h => ?_) | refine PW_cond rfl (fun h => ?_) (fun h => ?_))
    · have hlt : i < kids.length := by have := of_decide_eq_true h; omega
      have hg := gs_get hlt
      have hsz := kid_size hlt tag tn text
      have hle := encs_le hlt
      have hI := put_pc m kids[i] (hd ++ encs (kids.take i)) (by omega) (oks_get hlt hk.2) (by simp; omega)
      (repeat (first | ((first | refine qA ?_ | refine qB ?_ | refine xN ?_ | refine xE ?_ | refine xT ?_); try show PW _ _ _ _ _ _) | refine ro1 tabOk rfl rfl ?_ | refine ro2 tabOk rfl rfl ?_ | refine ro3 tabOk rfl rfl ?_ | refine rd1 tabOk rfl rfl ?_ | refine rd2 tabOk rfl rfl ?_ | refine rd3 tabOk rfl rfl ?_ | ((first | apply oR rfl rfl | (apply dF rfl rfl rfl; intro _) | (apply dP rfl rfl rfl; intro _) | (apply dL rfl rfl rfl; intro _) | apply dC rfl rfl rfl rfl); (focus (first | exact cb [true] rfl rfl (EN rfl) (hI) rfl rfl rfl rfl rfl rfl rfl rfl rfl rfl rfl | exact iA rfl (EL rfl) (SZ rfl) rfl rfl (Int.natCast_nonneg _) hg (g_cells _) | exact cJ | exact mG | exact bT | exact nD)); try exact kQ) | refine xS ?_ | refine xR ?_ | refine qxa rfl rfl mixed ?_ | refine qxb rfl rfl mixed ?_ | refine qxc rfl rfl mixed ?_ | refine qxd rfl rfl mixed ?_ | refine xB ?_ | refine xt rfl ?_ | refine xf rfl ?_))
      have he : hd ++ encs (kids.take i) ++ enc kids[i] = hd ++ encs (kids.take (i + 1)) := by rw [encs_take hlt]; simp
      rw [he]
      refine ⟨i + 1, hlt, by omega, SlotsOk.le ⟨.inl rfl, .inl rfl, .inl rfl, .inl (congrArg (fun k => PV.g (.int .i64 k)) (wrap64 (by omega))), trivial⟩, HLe.refl _⟩
    · have hi' : i = kids.length := by have := of_decide_eq_false h; omega
      subst hi'
      have he : hd ++ encs (kids.take kids.length) = b ++ enc (.mk tag tn text kids) := by rw [← hhd, List.take_length]; simp [enc]
      (repeat (first | ((first | refine qA ?_ | refine qB ?_ | refine xN ?_ | refine xE ?_ | refine xT ?_); try show PW _ _ _ _ _ _) | refine ro1 tabOk rfl rfl ?_ | refine ro2 tabOk rfl rfl ?_ | refine ro3 tabOk rfl rfl ?_ | refine rd1 tabOk rfl rfl ?_ | refine rd2 tabOk rfl rfl ?_ | refine rd3 tabOk rfl rfl ?_ | ((first | apply oR rfl rfl | (apply dF rfl rfl rfl; intro _) | (apply dP rfl rfl rfl; intro _) | (apply dL rfl rfl rfl; intro _) | apply dC rfl rfl rfl rfl); (focus (first | exact cJ | exact mG | exact bT | exact nD)); try exact kQ) | refine xS ?_ | refine xR ?_ | refine qxa rfl rfl mixed ?_ | refine qxb rfl rfl mixed ?_ | refine qxc rfl rfl mixed ?_ | refine qxd rfl rfl mixed ?_ | refine xB ?_ | refine xt rfl ?_ | refine xf rfl ?_))
      (first | refine Ret_box (wC vT wN) rfl rfl rfl rfl rfl rfl rfl rfl rfl ?_ ?_ ?_ rfl | refine Ret_box (wC (vA (AG rfl) (SZ rfl) rfl rfl (lB rfl)) wN) rfl rfl rfl rfl rfl rfl rfl rfl rfl ?_ ?_ ?_ rfl | refine Ret_box (wC vT (wC vT wN)) rfl rfl rfl rfl rfl rfl rfl rfl rfl ?_ ?_ ?_ rfl | refine Ret_box (wC (vA (AG rfl) (SZ rfl) rfl rfl (lB rfl)) (wC vT wN)) rfl rfl rfl rfl rfl rfl rfl rfl rfl ?_ ?_ ?_ rfl)
      · rw [← he]
      · rfl
      · rw [← he]
end Go.Proofs.Ytffpepmfdjjjaaa


namespace Go.Proofs.Ytffpepmfdjjjaaa
open Go.Pure
attribute [local irreducible] PW POps POpsD PO PC Cond

set_option maxRecDepth 100000 in
set_option maxHeartbeats 4000000 in
theorem putb_pc (tag tn : Int) (text : ByteArray) (kids : List Tr) (b : List UInt8) (hk : (Tr.mk tag tn text kids).ok) (hb : b.length + (enc (.mk tag tn text kids)).length ≤ 900000000) :
    PC Try.prog 52 [.own (bys b) 0, .ptr 0 0] ⟨[[.g (.int .i64 tag), .g (.int .i64 tn), .g (.str text), .g (.sl (Tr.gs kids))]], [(5, b.length)], []⟩ (.own (bys (b ++ enc (.mk tag tn text kids))) 0) ⟨[[.g (.int .i64 tag), .g (.int .i64 tn), .g (.str text), .g (.sl (Tr.gs kids))]], [(5, (b ++ enc (.mk tag tn text kids)).length)], []⟩ := by
  have hb' := hb
  simp only [enc, List.length_cons, List.length_append] at hb'
  simp only [Tr.ok, maxLen] at hk
  have hf := fold64_lt tn
  have hts : text.data.toList.length = text.size := by simp
  have n1 := number_pc (b ++ [byteI tag]) (fold64 tn) hf (by simp; omega)
  have n2 := number_pc (b ++ [byteI tag] ++ varint (fold64 tn)) text.size (by omega) (by simp; omega)
  have n3 := number_pc (b ++ [byteI tag] ++ varint (fold64 tn) ++ varint text.size ++ text.data.toList) kids.length (by omega) (by simp; omega)
  generalize hhd : b ++ [byteI tag] ++ varint (fold64 tn) ++ varint text.size ++ text.data.toList ++ varint kids.length = hd at n3
  have hhl : hd.length + (encs kids).length ≤ 900000000 := by rw [← hhd]; simp; omega
  have n2' : PC Try.prog 77 [.own (bys (b ++ [byteI tag] ++ varint (fold64 tn))) 0, .g (.int .u64 (IntKind.u64.wrap (text.size : Int)))] ⟨[], [(5, (b ++ [byteI tag] ++ varint (fold64 tn)).length)], []⟩
    (.own (bys (b ++ [byteI tag] ++ varint (fold64 tn) ++ varint text.size)) 0) ⟨[], [(5, (b ++ [byteI tag] ++ varint (fold64 tn) ++ varint text.size).length)], []⟩ := by rw [u64nat (by omega)]; exact n2
  have n3' : PC Try.prog 77 [.own (bys (b ++ [byteI tag] ++ varint (fold64 tn) ++ varint text.size ++ text.data.toList)) 0, .g (.int .u64 (IntKind.u64.wrap ((Tr.gs kids).length : Int)))]
    ⟨[], [(5, (b ++ [byteI tag] ++ varint (fold64 tn) ++ varint text.size ++ text.data.toList).length)], []⟩ (.own (bys hd) 0) ⟨[], [(5, hd.length)], []⟩ := by rw [gs_len, u64nat (by omega)]; exact n3
  refine PC_of_PW Try.func52 rfl rfl (rs := _) rfl (Nat.le_of_ble_eq_true (by kernel_rfl)) ?_
  (repeat (first | ((first | refine qA ?_ | refine qB ?_ | refine xN ?_ | refine xE ?_ | refine xT ?_); try show PW _ _ _ _ _ _) | refine ro1 tabOk rfl rfl ?_ | refine ro2 tabOk rfl rfl ?_ | refine ro3 tabOk rfl rfl ?_ | refine rd1 tabOk rfl rfl ?_ | refine rd2 tabOk rfl rfl ?_ | refine rd3 tabOk rfl rfl ?_ | ((first | apply oR rfl rfl | (apply dF rfl rfl rfl; intro _) | (apply dP rfl rfl rfl; intro _) | (apply dL rfl rfl rfl; intro _) | apply dC rfl rfl rfl rfl); (focus (first | exact PO_appb [byteI tag] rfl (EL rfl) (SZ rfl) (BY rfl) (ZR rfl) rfl rfl rfl rfl (byte_one tag) (by simp; omega) (by simp [maxLen]; omega) | exact PO_apps rfl (EL rfl) (ST rfl) (SZ rfl) (BY rfl) (ZR rfl) rfl rfl rfl rfl (by simp; omega) (by simp [maxLen]; omega) | exact call_pure rfl rfl (EN rfl) (folded_pc _) rfl rfl rfl | exact cb [true] rfl rfl (EN rfl) (n1) rfl rfl rfl rfl rfl rfl rfl rfl rfl rfl rfl | exact cJ | exact mG | exact bT | exact nD)); try exact kQ) | refine xS ?_ | refine xR ?_ | refine qxa rfl rfl mixed ?_ | refine qxb rfl rfl mixed ?_ | refine qxc rfl rfl mixed ?_ | refine qxd rfl rfl mixed ?_ | refine xB ?_ | refine xt rfl ?_ | refine xf rfl ?_))
  (repeat (first | ((first | refine qA ?_ | refine qB ?_ | refine xN ?_ | refine xE ?_ | refine xT ?_); try show PW _ _ _ _ _ _) | refine ro1 tabOk rfl rfl ?_ | refine ro2 tabOk rfl rfl ?_ | refine ro3 tabOk rfl rfl ?_ | refine rd1 tabOk rfl rfl ?_ | refine rd2 tabOk rfl rfl ?_ | refine rd3 tabOk rfl rfl ?_ | ((first | apply oR rfl rfl | (apply dF rfl rfl rfl; intro _) | (apply dP rfl rfl rfl; intro _) | (apply dL rfl rfl rfl; intro _) | apply dC rfl rfl rfl rfl); (focus (first | exact cb [true] rfl rfl (EN rfl) (n2') rfl rfl rfl rfl rfl rfl rfl rfl rfl rfl rfl | exact PO_apps rfl (EL rfl) (ST rfl) (SZ rfl) (BY rfl) (ZR rfl) rfl rfl rfl rfl (by simp; omega) (by simp [maxLen]; omega) | exact cJ | exact mG | exact bT | exact nD)); try exact kQ) | refine xS ?_ | refine xR ?_ | refine qxa rfl rfl mixed ?_ | refine qxb rfl rfl mixed ?_ | refine qxc rfl rfl mixed ?_ | refine qxd rfl rfl mixed ?_ | refine xB ?_ | refine xt rfl ?_ | refine xf rfl ?_))
  (repeat (first | ((first | refine qA ?_ | refine qB ?_ | refine xN ?_ | refine xE ?_ | refine xT ?_); try show PW _ _ _ _ _ _) | refine ro1 tabOk rfl rfl ?_ | refine ro2 tabOk rfl rfl ?_ | refine ro3 tabOk rfl rfl ?_ | refine rd1 tabOk rfl rfl ?_ | refine rd2 tabOk rfl rfl ?_ | refine rd3 tabOk rfl rfl ?_ | ((first | apply oR rfl rfl | (apply dF rfl rfl rfl; intro _) | (apply dP rfl rfl rfl; intro _) | (apply dL rfl rfl rfl; intro _) | apply dC rfl rfl rfl rfl); (focus (first | exact cb [true] rfl rfl (EN rfl) (n3') rfl rfl rfl rfl rfl rfl rfl rfl rfl rfl rfl | exact cJ | exact mG | exact bT | exact nD)); try exact kQ) | refine xS ?_ | refine xR ?_ | refine qxa rfl rfl mixed ?_ | refine qxb rfl rfl mixed ?_ | refine qxc rfl rfl mixed ?_ | refine qxd rfl rfl mixed ?_ | refine xB ?_ | refine xt rfl ?_ | refine xf rfl ?_))
  refine PW_loop (S := Nat) (fun i => slots [(0, .own (bys (hd ++ encs (kids.take i))) 0), (1, .ptr 0 0), (46, .g (.int .i64 kids.length)), (47, .g (.int .i64 i))]) (fun i => ⟨[[.g (.int .i64 tag), .g (.int .i64 tn), .g (.str text), .g (.sl (Tr.gs kids))]], [(5, (hd ++ encs (kids.take i)).length)], []⟩)
    (fun i => i ≤ kids.length) (fun i => kids.length - i) 0 (Nat.zero_le _) (SlotsOk.le ⟨.inl (by first | (simp [encs]; done) | (simp [encs]; rfl)), .inl rfl, .inl (congrArg (fun k : Nat => PV.g (.int .i64 k)) (gs_len kids)), .inl rfl, trivial⟩) (HLe.of_eq (by first | (simp [encs]; done) | (simp [encs]; rfl))) (fun i hi => ?_)
  (repeat (first | ((first | refine qA ?_ | refine qB ?_ | refine xN ?_ | refine xE ?_ | refine xT ?_); try show PW _ _ _ _ _ _) | refine ro1 tabOk rfl rfl ?_ | refine ro2 tabOk rfl rfl ?_ | refine ro3 tabOk rfl rfl ?_ | refine rd1 tabOk rfl rfl ?_ | refine rd2 tabOk rfl rfl ?_ | refine rd3 tabOk rfl rfl ?_ | ((first | apply oR rfl rfl | (apply dF rfl rfl rfl; intro _) | (apply dP rfl rfl rfl; intro _) | (apply dL rfl rfl rfl; intro _) | apply dC rfl rfl rfl rfl); (focus (first | exact cJ | exact mG | exact bT | exact nD)); try exact kQ) | refine xS ?_ | refine xR ?_ | refine qxa rfl rfl mixed ?_ | refine qxb rfl rfl mixed ?_ | refine qxc rfl rfl mixed ?_ | refine qxd rfl rfl mixed ?_ | refine xB ?_ | refine xt rfl ?_ | refine xf rfl ?_))
  (first | refine POps_split rfl rfl (fun h => ?_) (fun h => ?_) | refine POpsD_split rfl rfl (fun h => ?_) (fun h => ?_) | refine PW_cond rfl (fun h => ?_) (fun h => ?_))
  · have hlt : i < kids.length := by have := of_decide_eq_true h; omega
    have hg := gs_get hlt
    have hsz := kid_size hlt tag tn text
    have hle := encs_le hlt
    have hI := put_pc _ kids[i] (hd ++ encs (kids.take i)) (Nat.le_refl _) (oks_get hlt hk.2) (by simp; omega)
    (repeat (first | ((first | refine qA ?_ | refine qB ?_ | refine xN ?_ | refine xE ?_ | refine xT ?_); try show PW _ _ _ _ _ _) | refine ro1 tabOk rfl rfl ?_ | refine ro2 tabOk rfl rfl ?_ | refine ro3 tabOk rfl rfl ?_ | refine rd1 tabOk rfl rfl ?_ | refine rd2 tabOk rfl rfl ?_ | refine rd3 tabOk rfl rfl ?_ | ((first | apply oR rfl rfl | (apply dF rfl rfl rfl; intro _) | (apply dP rfl rfl rfl; intro _) | (apply dL rfl rfl rfl; intro _) | apply dC rfl rfl rfl rfl); (focus (first | exact cb [true] rfl rfl (EN rfl) (hI) rfl rfl rfl rfl rfl rfl rfl rfl rfl rfl rfl | exact iA rfl (EL rfl) (SZ rfl) rfl rfl (Int.natCast_nonneg _) hg (g_cells _) | exact cJ | exact mG | exact bT | exact nD)); try exact kQ) | refine xS ?_ | refine xR ?_ | refine qxa rfl rfl mixed ?_ | refine qxb rfl rfl mixed ?_ | refine qxc rfl rfl mixed ?_ | refine qxd rfl rfl mixed ?_ | refine xB ?_ | refine xt rfl ?_ | refine xf rfl ?_))
    have he : hd ++ encs (kids.take i) ++ enc kids[i] = hd ++ encs (kids.take (i + 1)) := by rw [encs_take hlt]; simp
    rw [he]
    refine ⟨i + 1, hlt, by omega, SlotsOk.le ⟨.inl rfl, .inl rfl, .inl rfl, .inl (congrArg (fun k => PV.g (.int .i64 k)) (wrap64 (by omega))), trivial⟩, HLe.refl _⟩
  · have hi' : i = kids.length := by have := of_decide_eq_false h; omega
    subst hi'
    have he : hd ++ encs (kids.take kids.length) = b ++ enc (.mk tag tn text kids) := by rw [← hhd, List.take_length]; simp [enc]
    (repeat (first | ((first | refine qA ?_ | refine qB ?_ | refine xN ?_ | refine xE ?_ | refine xT ?_); try show PW _ _ _ _ _ _) | refine ro1 tabOk rfl rfl ?_ | refine ro2 tabOk rfl rfl ?_ | refine ro3 tabOk rfl rfl ?_ | refine rd1 tabOk rfl rfl ?_ | refine rd2 tabOk rfl rfl ?_ | refine rd3 tabOk rfl rfl ?_ | ((first | apply oR rfl rfl | (apply dF rfl rfl rfl; intro _) | (apply dP rfl rfl rfl; intro _) | (apply dL rfl rfl rfl; intro _) | apply dC rfl rfl rfl rfl); (focus (first | exact cJ | exact mG | exact bT | exact nD)); try exact kQ) | refine xS ?_ | refine xR ?_ | refine qxa rfl rfl mixed ?_ | refine qxb rfl rfl mixed ?_ | refine qxc rfl rfl mixed ?_ | refine qxd rfl rfl mixed ?_ | refine xB ?_ | refine xt rfl ?_ | refine xf rfl ?_))
    (first | refine Ret_box (wC vT wN) rfl rfl rfl rfl rfl rfl rfl rfl rfl ?_ ?_ ?_ rfl | refine Ret_box (wC (vA (AG rfl) (SZ rfl) rfl rfl (lB rfl)) wN) rfl rfl rfl rfl rfl rfl rfl rfl rfl ?_ ?_ ?_ rfl | refine Ret_box (wC vT (wC vT wN)) rfl rfl rfl rfl rfl rfl rfl rfl rfl ?_ ?_ ?_ rfl | refine Ret_box (wC (vA (AG rfl) (SZ rfl) rfl rfl (lB rfl)) (wC vT wN)) rfl rfl rfl rfl rfl rfl rfl rfl rfl ?_ ?_ ?_ rfl)
    · rw [← he]
    · rfl
    · rw [← he]
end Go.Proofs.Ytffpepmfdjjjaaa


namespace Go.Proofs.Ytffpepmfdjjjaaa
open Go.Pure
attribute [local irreducible] PW POps POpsD PO PC Cond

theorem Ret_two {P : Program} {env : Env} {rs : List ResultVar} {ps : List PV} {e : Exit} {H2 : PH} {a b a' b' : GV} (hs : resVs P env H2 rs = some ps) (hp : ps = [.g a, .g b]) (ha : a = a') (hb : b = b')
    (he : e = .normal ∨ e = .ret := by first | exact .inl rfl | exact .inr rfl) : Ret P rs ⟨[], [], []⟩ (.tuple [.g a', .g b']) ⟨[], [], []⟩ e env H2 := by
  subst ha; subst hb; subst hp
  refine Ret_pure hs rfl (.tuple _ fun p hp => ?_) he
  simp at hp
  rcases hp with rfl | rfl <;> exact .g _

def four (x : BitVec 32) : List UInt8 := [UInt8.ofNat (x.toNat % 256), UInt8.ofNat (x.toNat / 256 % 256), UInt8.ofNat (x.toNat / 65536 % 256), UInt8.ofNat (x.toNat / 16777216 % 256)]
theorem u8nat (x : Nat) : IntKind.u8.wrap (x : Int) = ((UInt8.ofNat (x % 256)).toNat : Int) := by
  rw [u8wrap]; simp
theorem fdivN (x k : Nat) : ((x : Nat) : Int).fdiv (k : Int) = ((x / k : Nat) : Int) := by
  rw [Int.fdiv_eq_ediv_of_nonneg _ (by omega)]; rfl
theorem four_eq (x : BitVec 32) : [GV.int .u8 (IntKind.u8.wrap (x.toNat : Int)), .int .u8 (IntKind.u8.wrap ((x.toNat : Int).fdiv (2 ^ min (8 : Int).toNat IntKind.u32.bits))), .int .u8 (IntKind.u8.wrap ((x.toNat : Int).fdiv (2 ^ min (16 : Int).toNat IntKind.u32.bits))), .int .u8 (IntKind.u8.wrap ((x.toNat : Int).fdiv (2 ^ min (24 : Int).toNat IntKind.u32.bits)))] = bys (four x) := by
  have e1 : (2 : Int) ^ min (8 : Int).toNat IntKind.u32.bits = ((256 : Nat) : Int) := by decide
  have e2 : (2 : Int) ^ min (16 : Int).toNat IntKind.u32.bits = ((65536 : Nat) : Int) := by decide
  have e3 : (2 : Int) ^ min (24 : Int).toNat IntKind.u32.bits = ((16777216 : Nat) : Int) := by decide
  rw [e1, e2, e3, fdivN, fdivN, fdivN, u8nat, u8nat, u8nat, u8nat]
  rfl
def sumB (l : List UInt8) : BitVec 32 := ~~~ (crc 0xffffffff#32 l)
/-- A tree's bytes, and what is wrong. -/
def bytesT (t : Tr) : List UInt8 × Int := if wrongT t = 0 then (if 100000 < (enc t).length + 4 then ([], 4) else (enc t ++ four (sumB (enc t)), 0)) else ([], wrongT t)

set_option maxRecDepth 100000 in
set_option maxHeartbeats 4000000 in
theorem bytes_pc (tag tn : Int) (text : ByteArray) (kids : List Tr) (hk : (Tr.mk tag tn text kids).ok) (hb : (enc (.mk tag tn text kids)).length ≤ 900000000) :
    PC Try.prog 21 [.g (Tr.mk tag tn text kids).g] ⟨[], [], []⟩ (.tuple [.g (.sl (bys (bytesT (.mk tag tn text kids)).1)), .g (.int .i64 (bytesT (.mk tag tn text kids)).2)]) ⟨[], [], []⟩ := by
  have hw := wrong_pc _ hk
  have hp : PC Try.prog 52 [.nils, .ptr 0 0] ⟨[[.g (.int .i64 tag), .g (.int .i64 tn), .g (.str text), .g (.sl (Tr.gs kids))]], [], []⟩ (.own (bys ([] ++ enc (.mk tag tn text kids))) 0) ⟨[[.g (.int .i64 tag), .g (.int .i64 tn), .g (.str text), .g (.sl (Tr.gs kids))]], [(5, ([] ++ enc (.mk tag tn text kids)).length)], []⟩ :=
    PC_nil 5 (SZ rfl) (putb_pc tag tn text kids [] hk (by simpa using hb)) rfl
  refine PC_of_PW Try.func21 rfl rfl (rs := _) rfl (Nat.le_of_ble_eq_true (by kernel_rfl)) ?_
  (repeat (first | ((first | refine qA ?_ | refine qB ?_ | refine xN ?_ | refine xE ?_ | refine xT ?_); try show PW _ _ _ _ _ _) | refine ro1 tabOk rfl rfl ?_ | refine ro2 tabOk rfl rfl ?_ | refine ro3 tabOk rfl rfl ?_ | refine rd1 tabOk rfl rfl ?_ | refine rd2 tabOk rfl rfl ?_ | refine rd3 tabOk rfl rfl ?_ | ((first | apply oR rfl rfl | (apply dF rfl rfl rfl; intro _) | (apply dP rfl rfl rfl; intro _) | (apply dL rfl rfl rfl; intro _) | apply dC rfl rfl rfl rfl); (focus (first | exact cqP hw | exact cJ | exact mG | exact bT | exact nD)); try exact kQ) | refine xS ?_ | refine xR ?_ | refine qxa rfl rfl mixed ?_ | refine qxb rfl rfl mixed ?_ | refine qxc rfl rfl mixed ?_ | refine qxd rfl rfl mixed ?_ | refine xB ?_ | refine xt rfl ?_ | refine xf rfl ?_))
  (first | refine POps_split rfl rfl (fun h => ?_) (fun h => ?_) | refine POpsD_split rfl rfl (fun h => ?_) (fun h => ?_) | refine PW_cond rfl (fun h => ?_) (fun h => ?_))
  · have he : ¬ wrongT (.mk tag tn text kids) = 0 := by simpa [bne] using h
    (repeat (first | ((first | refine qA ?_ | refine qB ?_ | refine xN ?_ | refine xE ?_ | refine xT ?_); try show PW _ _ _ _ _ _) | refine ro1 tabOk rfl rfl ?_ | refine ro2 tabOk rfl rfl ?_ | refine ro3 tabOk rfl rfl ?_ | refine rd1 tabOk rfl rfl ?_ | refine rd2 tabOk rfl rfl ?_ | refine rd3 tabOk rfl rfl ?_ | ((first | apply oR rfl rfl | (apply dF rfl rfl rfl; intro _) | (apply dP rfl rfl rfl; intro _) | (apply dL rfl rfl rfl; intro _) | apply dC rfl rfl rfl rfl); (focus (first | exact cJ | exact mG | exact bT | exact nD)); try exact kQ) | refine xS ?_ | refine xR ?_ | refine qxa rfl rfl mixed ?_ | refine qxb rfl rfl mixed ?_ | refine qxc rfl rfl mixed ?_ | refine qxd rfl rfl mixed ?_ | refine xB ?_ | refine xt rfl ?_ | refine xf rfl ?_))
    refine Ret_two (resVs_cons resV_tmp (resVs_cons resV_tmp resVs_nil)) rfl ?_ ?_
    · simp [bytesT, he, bys]
    · simp [bytesT, he]
  · have he : wrongT (.mk tag tn text kids) = 0 := by simpa [bne] using h
    (repeat (first | ((first | refine qA ?_ | refine qB ?_ | refine xN ?_ | refine xE ?_ | refine xT ?_); try show PW _ _ _ _ _ _) | refine ro1 tabOk rfl rfl ?_ | refine ro2 tabOk rfl rfl ?_ | refine ro3 tabOk rfl rfl ?_ | refine rd1 tabOk rfl rfl ?_ | refine rd2 tabOk rfl rfl ?_ | refine rd3 tabOk rfl rfl ?_ | ((first | apply oR rfl rfl | (apply dF rfl rfl rfl; intro _) | (apply dP rfl rfl rfl; intro _) | (apply dL rfl rfl rfl; intro _) | apply dC rfl rfl rfl rfl); (focus (first | exact cb [true] rfl rfl (EN rfl) (hp) rfl rfl rfl rfl rfl rfl rfl rfl rfl rfl rfl | exact cJ | exact mG | exact bT | exact nD)); try exact kQ) | refine xS ?_ | refine xR ?_ | refine qxa rfl rfl mixed ?_ | refine qxb rfl rfl mixed ?_ | refine qxc rfl rfl mixed ?_ | refine qxd rfl rfl mixed ?_ | refine xB ?_ | refine xt rfl ?_ | refine xf rfl ?_))
    have hlen : IntKind.i64.wrap (((bys ([] ++ enc (.mk tag tn text kids))).length : Int) + 4) = (enc (.mk tag tn text kids)).length + 4 := by
      rw [List.nil_append, bys_len]; exact wrap64 (by omega)
    have hsum := sum_pc ([] ++ enc (.mk tag tn text kids)) (by simp; omega)
    (first | refine POps_split rfl rfl (fun h => ?_) (fun h => ?_) | refine POpsD_split rfl rfl (fun h => ?_) (fun h => ?_) | refine PW_cond rfl (fun h => ?_) (fun h => ?_))
    · have hgt : 100000 < (enc (.mk tag tn text kids)).length + 4 := by
        have := of_decide_eq_true h
        rw [hlen] at this
        omega
      (repeat (first | ((first | refine qA ?_ | refine qB ?_ | refine xN ?_ | refine xE ?_ | refine xT ?_); try show PW _ _ _ _ _ _) | refine ro1 tabOk rfl rfl ?_ | refine ro2 tabOk rfl rfl ?_ | refine ro3 tabOk rfl rfl ?_ | refine rd1 tabOk rfl rfl ?_ | refine rd2 tabOk rfl rfl ?_ | refine rd3 tabOk rfl rfl ?_ | ((first | apply oR rfl rfl | (apply dF rfl rfl rfl; intro _) | (apply dP rfl rfl rfl; intro _) | (apply dL rfl rfl rfl; intro _) | apply dC rfl rfl rfl rfl); (focus (first | exact cJ | exact mG | exact bT | exact nD)); try exact kQ) | refine xS ?_ | refine xR ?_ | refine qxa rfl rfl mixed ?_ | refine qxb rfl rfl mixed ?_ | refine qxc rfl rfl mixed ?_ | refine qxd rfl rfl mixed ?_ | refine xB ?_ | refine xt rfl ?_ | refine xf rfl ?_))
      refine Ret_two (resVs_cons resV_tmp (resVs_cons resV_tmp resVs_nil)) rfl ?_ ?_
      · simp [bytesT, he, hgt, bys]
      · simp [bytesT, he, hgt, constG]
    · have hgt : ¬ 100000 < (enc (.mk tag tn text kids)).length + 4 := by
        have := of_decide_eq_false h
        rw [hlen] at this
        omega
      (repeat (first | ((first | refine qA ?_ | refine qB ?_ | refine xN ?_ | refine xE ?_ | refine xT ?_); try show PW _ _ _ _ _ _) | refine ro1 tabOk rfl rfl ?_ | refine ro2 tabOk rfl rfl ?_ | refine ro3 tabOk rfl rfl ?_ | refine rd1 tabOk rfl rfl ?_ | refine rd2 tabOk rfl rfl ?_ | refine rd3 tabOk rfl rfl ?_ | ((first | apply oR rfl rfl | (apply dF rfl rfl rfl; intro _) | (apply dP rfl rfl rfl; intro _) | (apply dL rfl rfl rfl; intro _) | apply dC rfl rfl rfl rfl); (focus (first | exact cqP hsum | exact cJ | exact mG | exact bT | exact nD)); try exact kQ) | refine xS ?_ | refine xR ?_ | refine qxa rfl rfl mixed ?_ | refine qxb rfl rfl mixed ?_ | refine qxc rfl rfl mixed ?_ | refine qxd rfl rfl mixed ?_ | refine xB ?_ | refine xt rfl ?_ | refine xf rfl ?_))
      (repeat (first | ((first | refine qA ?_ | refine qB ?_ | refine xN ?_ | refine xE ?_ | refine xT ?_); try show PW _ _ _ _ _ _) | refine ro1 tabOk rfl rfl ?_ | refine ro2 tabOk rfl rfl ?_ | refine ro3 tabOk rfl rfl ?_ | refine rd1 tabOk rfl rfl ?_ | refine rd2 tabOk rfl rfl ?_ | refine rd3 tabOk rfl rfl ?_ | ((first | apply oR rfl rfl | (apply dF rfl rfl rfl; intro _) | (apply dP rfl rfl rfl; intro _) | (apply dL rfl rfl rfl; intro _) | apply dC rfl rfl rfl rfl); (focus (first | exact PO_appb (four (sumB ([] ++ enc (.mk tag tn text kids)))) rfl (EL rfl) (SZ rfl) (BY rfl) (ZR rfl) rfl rfl rfl rfl (four_eq _) (by simp [four]; omega) (by simp [four, maxLen]; omega) | exact PO_shr rfl rfl rfl (by decide) | exact cJ | exact mG | exact bT | exact nD)); try exact kQ) | refine xS ?_ | refine xR ?_ | refine qxa rfl rfl mixed ?_ | refine qxb rfl rfl mixed ?_ | refine qxc rfl rfl mixed ?_ | refine qxd rfl rfl mixed ?_ | refine xB ?_ | refine xt rfl ?_ | refine xf rfl ?_))
      refine Ret_two (resVs_cons resV_tmp (resVs_cons resV_tmp resVs_nil)) rfl ?_ ?_
      · simp [bytesT, he, hgt]
      · simp [bytesT, he, hgt, constG]
end Go.Proofs.Ytffpepmfdjjjaaa


namespace Go.Proofs.Ytffpepmfdjjjaaa
open Go.Pure
attribute [local irreducible] PW POps POpsD PO PC Cond

/-- The next byte; none: bad. -/
def rdByte : List UInt8 → Bool → Nat × List UInt8 × Bool
  | [], _ => (0, [], true)
  | c :: r, b => (c.toNat, r, b)
def rdH (l : List UInt8) (b : Bool) : PH := ⟨[[.g (.sl (bys l)), .g (.bool b)]], [], []⟩

set_option maxRecDepth 100000 in
set_option maxHeartbeats 4000000 in
theorem byte_pc : ∀ (l : List UInt8) (b : Bool), PC Try.prog 81 [.ptr 0 0] (rdH l b) (.g (.int .u8 (rdByte l b).1)) (rdH (rdByte l b).2.1 (rdByte l b).2.2)
  | [], b => by
    refine PC_of_PW Try.func81 rfl rfl (rs := _) rfl (Nat.le_of_ble_eq_true (by kernel_rfl)) ?_
    (repeat (first | ((first | refine qA ?_ | refine qB ?_ | refine xN ?_ | refine xE ?_ | refine xT ?_); try show PW _ _ _ _ _ _) | refine ro1 tabOk rfl rfl ?_ | refine ro2 tabOk rfl rfl ?_ | refine ro3 tabOk rfl rfl ?_ | refine rd1 tabOk rfl rfl ?_ | refine rd2 tabOk rfl rfl ?_ | refine rd3 tabOk rfl rfl ?_ | ((first | apply oR rfl rfl | (apply dF rfl rfl rfl; intro _) | (apply dP rfl rfl rfl; intro _) | (apply dL rfl rfl rfl; intro _) | apply dC rfl rfl rfl rfl); (focus (first | exact cJ | exact mG | exact bT | exact nD)); try exact kQ) | refine xS ?_ | refine xR ?_ | refine qxa rfl rfl mixed ?_ | refine qxb rfl rfl mixed ?_ | refine qxc rfl rfl mixed ?_ | refine qxd rfl rfl mixed ?_ | refine xB ?_ | refine xt rfl ?_ | refine xf rfl ?_))
    (first | refine Ret_box (wC vT wN) rfl rfl rfl rfl rfl rfl rfl rfl rfl ?_ ?_ ?_ rfl | refine Ret_box (wC (vA (AG rfl) (SZ rfl) rfl rfl (lB rfl)) wN) rfl rfl rfl rfl rfl rfl rfl rfl rfl ?_ ?_ ?_ rfl | refine Ret_box (wC vT (wC vT wN)) rfl rfl rfl rfl rfl rfl rfl rfl rfl ?_ ?_ ?_ rfl | refine Ret_box (wC (vA (AG rfl) (SZ rfl) rfl rfl (lB rfl)) (wC vT wN)) rfl rfl rfl rfl rfl rfl rfl rfl rfl ?_ ?_ ?_ rfl)
    · rfl
    · rfl
    · rfl
  | c :: r, b => by
    refine PC_of_PW Try.func81 rfl rfl (rs := _) rfl (Nat.le_of_ble_eq_true (by kernel_rfl)) ?_
    (repeat (first | ((first | refine qA ?_ | refine qB ?_ | refine xN ?_ | refine xE ?_ | refine xT ?_); try show PW _ _ _ _ _ _) | refine ro1 tabOk rfl rfl ?_ | refine ro2 tabOk rfl rfl ?_ | refine ro3 tabOk rfl rfl ?_ | refine rd1 tabOk rfl rfl ?_ | refine rd2 tabOk rfl rfl ?_ | refine rd3 tabOk rfl rfl ?_ | ((first | apply oR rfl rfl | (apply dF rfl rfl rfl; intro _) | (apply dP rfl rfl rfl; intro _) | (apply dL rfl rfl rfl; intro _) | apply dC rfl rfl rfl rfl); (focus (first | exact cJ | exact mG | exact bT | exact nD)); try exact kQ) | refine xS ?_ | refine xR ?_ | refine qxa rfl rfl mixed ?_ | refine qxb rfl rfl mixed ?_ | refine qxc rfl rfl mixed ?_ | refine qxd rfl rfl mixed ?_ | refine xB ?_ | refine xt rfl ?_ | refine xf rfl ?_))
    have hg : (bys (c :: r))[(0 : Int).toNat]? = some (byteG c) := rfl
    have h2 : loOf (some (IntKind.i64, 1)) ≤ hiOf (bys (c :: r)).length none := by simp [loOf, hiOf, bys]; omega
    (repeat (first | ((first | refine qA ?_ | refine qB ?_ | refine xN ?_ | refine xE ?_ | refine xT ?_); try show PW _ _ _ _ _ _) | refine ro1 tabOk rfl rfl ?_ | refine ro2 tabOk rfl rfl ?_ | refine ro3 tabOk rfl rfl ?_ | refine rd1 tabOk rfl rfl ?_ | refine rd2 tabOk rfl rfl ?_ | refine rd3 tabOk rfl rfl ?_ | ((first | apply oR rfl rfl | (apply dF rfl rfl rfl; intro _) | (apply dP rfl rfl rfl; intro _) | (apply dL rfl rfl rfl; intro _) | apply dC rfl rfl rfl rfl); (focus (first | exact iA rfl (EL rfl) (SZ rfl) rfl rfl (Int.le_refl _) hg rfl | exact PO_slice_sl rfl (EL rfl) (SZ rfl) rfl rfl rfl (by decide) h2 (Int.le_refl _) (by intro x hx; obtain ⟨v, _, rfl⟩ := List.mem_map.1 hx; rfl) | exact cJ | exact mG | exact bT | exact nD)); try exact kQ) | refine xS ?_ | refine xR ?_ | refine qxa rfl rfl mixed ?_ | refine qxb rfl rfl mixed ?_ | refine qxc rfl rfl mixed ?_ | refine qxd rfl rfl mixed ?_ | refine xB ?_ | refine xt rfl ?_ | refine xf rfl ?_))
    (first | refine Ret_box (wC vT wN) rfl rfl rfl rfl rfl rfl rfl rfl rfl ?_ ?_ ?_ rfl | refine Ret_box (wC (vA (AG rfl) (SZ rfl) rfl rfl (lB rfl)) wN) rfl rfl rfl rfl rfl rfl rfl rfl rfl ?_ ?_ ?_ rfl | refine Ret_box (wC vT (wC vT wN)) rfl rfl rfl rfl rfl rfl rfl rfl rfl ?_ ?_ ?_ rfl | refine Ret_box (wC (vA (AG rfl) (SZ rfl) rfl rfl (lB rfl)) (wC vT wN)) rfl rfl rfl rfl rfl rfl rfl rfl rfl ?_ ?_ ?_ rfl)
    · rfl
    · simp only [rdH, rdByte, loOf, hiOf]; simp [bys, List.take_of_length_le]
    · rfl

/-- Signs unfolded. -/
def unfold64 (x : Nat) : Int := if x % 2 = 0 then x / 2 else - (x / 2) - 1
theorem ofI (n : Nat) : BitVec.ofInt 64 (n : Int) = BitVec.ofNat 64 n := by simp
theorem unfold_eq (x : Nat) (hx : x < 2 ^ 64) : IntKind.i64.wrap (BitVec.ofInt IntKind.i64.bits (IntKind.i64.wrap ((x : Int).fdiv (2 ^ min (1 : Int).toNat IntKind.u64.bits))) ^^^
    BitVec.ofInt IntKind.i64.bits (IntKind.i64.wrap (0 - IntKind.i64.wrap (IntKind.u64.wrap (BitVec.ofInt IntKind.u64.bits (x : Int) &&& BitVec.ofInt IntKind.u64.bits 1).toNat)))).toNat = unfold64 x := by
  have e1 : (x : Int).fdiv (2 ^ min (1 : Int).toNat IntKind.u64.bits) = ((x / 2 : Nat) : Int) := by
    have : (2 : Int) ^ min (1 : Int).toNat IntKind.u64.bits = ((2 : Nat) : Int) := by decide
    rw [this, fdivN]
  rw [e1, wrap64 (n := ((x / 2 : Nat) : Int)) (by omega)]
  have e2 : (BitVec.ofInt IntKind.u64.bits (x : Int) &&& BitVec.ofInt IntKind.u64.bits 1).toNat = x % 2 := by
    show (BitVec.ofInt 64 (x : Int) &&& BitVec.ofInt 64 1).toNat = x % 2
    rw [ofI, show (BitVec.ofInt 64 1) = BitVec.ofNat 64 1 from rfl, BitVec.toNat_and, BitVec.toNat_ofNat, BitVec.toNat_ofNat, Nat.mod_eq_of_lt hx]
    exact Nat.and_one_is_mod x
  rw [e2]
  show IntKind.i64.wrap (BitVec.ofInt 64 _ ^^^ BitVec.ofInt 64 _).toNat = _
  rw [ofI]
  unfold unfold64
  rcases Nat.mod_two_eq_zero_or_one x with h | h
  · rw [h, if_pos rfl]
    have : IntKind.i64.wrap (0 - IntKind.i64.wrap (IntKind.u64.wrap ((0 : Nat) : Int))) = 0 := by decide
    rw [this]
    have : (BitVec.ofNat 64 (x / 2) ^^^ BitVec.ofInt 64 0).toNat = x / 2 := by
      simp; omega
    rw [this, wrap64 (by omega)]
    omega
  · rw [h, if_neg (by decide)]
    have : IntKind.i64.wrap (0 - IntKind.i64.wrap (IntKind.u64.wrap ((1 : Nat) : Int))) = -1 := by decide
    rw [this]
    have : (BitVec.ofNat 64 (x / 2) ^^^ BitVec.ofInt 64 (-1)).toNat = 18446744073709551615 - x / 2 := by
      have : BitVec.ofInt 64 (-1) = BitVec.allOnes 64 := by decide
      rw [this, BitVec.xor_allOnes, BitVec.toNat_not, BitVec.toNat_ofNat, Nat.mod_eq_of_lt (by omega)]
    rw [this]
    simp [IntKind.wrap, IntKind.bits, IntKind.signed]
    omega

set_option maxRecDepth 100000 in
set_option maxHeartbeats 4000000 in
theorem unfolded_pc (x : Nat) (hx : x < 2 ^ 64) : PC Try.prog 82 [.g (.int .u64 x)] ⟨[], [], []⟩ (.g (.int .i64 (unfold64 x))) ⟨[], [], []⟩ := by
  refine PC_of_PW Try.func82 rfl rfl (rs := _) rfl (Nat.le_of_ble_eq_true (by kernel_rfl)) ?_
  (repeat (first | ((first | refine qA ?_ | refine qB ?_ | refine xN ?_ | refine xE ?_ | refine xT ?_); try show PW _ _ _ _ _ _) | refine ro1 tabOk rfl rfl ?_ | refine ro2 tabOk rfl rfl ?_ | refine ro3 tabOk rfl rfl ?_ | refine rd1 tabOk rfl rfl ?_ | refine rd2 tabOk rfl rfl ?_ | refine rd3 tabOk rfl rfl ?_ | ((first | apply oR rfl rfl | (apply dF rfl rfl rfl; intro _) | (apply dP rfl rfl rfl; intro _) | (apply dL rfl rfl rfl; intro _) | apply dC rfl rfl rfl rfl); (focus (first | exact PO_shr rfl rfl rfl (by decide) | exact cJ | exact mG | exact bT | exact nD)); try exact kQ) | refine xS ?_ | refine xR ?_ | refine qxa rfl rfl mixed ?_ | refine qxb rfl rfl mixed ?_ | refine qxc rfl rfl mixed ?_ | refine qxd rfl rfl mixed ?_ | refine xB ?_ | refine xt rfl ?_ | refine xf rfl ?_))
  (first | refine Ret_int (vC vT vN) rfl ?_ | refine Ret_bool (vC vT vN) rfl ?_ | refine Ret_g (vC vT vN) rfl ?_ | refine Ret_int (vC (vA (AG rfl) (SZ rfl) rfl rfl (lB rfl)) vN) rfl ?_ | refine Ret_bool (vC (vA (AG rfl) (SZ rfl) rfl rfl (lB rfl)) vN) rfl ?_ | refine Ret_g (vC (vA (AG rfl) (SZ rfl) rfl rfl (lB rfl)) vN) rfl ?_)
  exact unfold_eq x hx

def numBad (k c : Nat) (b : Bool) : Bool := if (k = 9 ∧ 1 < c) ∨ (0 < k ∧ c = 0) then true else b
def numVal (k c x : Nat) : Nat := (x + c % 128 * 2 ^ (7 * k)) % 2 ^ 64
/-- A number in seven bits a byte: so many bytes may still come, so many have come. -/
def numGo : Nat → Nat → Nat → List UInt8 → Bool → Nat × List UInt8 × Bool
  | 0, _, _, l, _ => (0, l, true)
  | n + 1, k, x, l, b =>
    if (rdByte l b).1 < 128 ∨ numBad k (rdByte l b).1 (rdByte l b).2.2 = true then (numVal k (rdByte l b).1 x, (rdByte l b).2.1, numBad k (rdByte l b).1 (rdByte l b).2.2)
    else numGo n (k + 1) (numVal k (rdByte l b).1 x) (rdByte l b).2.1 (numBad k (rdByte l b).1 (rdByte l b).2.2)

theorem rdByte_lt (l : List UInt8) (b : Bool) : (rdByte l b).1 < 256 := by
  cases l with
  | nil => simp [rdByte]
  | cons c r => exact c.toNat_lt

theorem or_step (x c k : Nat) (hx : x < 2 ^ (7 * k)) (hc : c < 256) (hk : k ≤ 9) :
    IntKind.u64.wrap ((BitVec.ofInt IntKind.u64.bits (x : Int) ||| BitVec.ofInt IntKind.u64.bits (IntKind.u64.wrap (IntKind.u64.wrap (IntKind.u8.wrap ((BitVec.ofInt IntKind.u8.bits (c : Int) &&& BitVec.ofInt IntKind.u8.bits 127).toNat : Int)) * 2 ^ min (7 * (k : Int)).toNat IntKind.u64.bits))).toNat : Int)
      = ((numVal k c x : Nat) : Int) := by
  unfold numVal
  have e0 : IntKind.u8.wrap ((BitVec.ofInt IntKind.u8.bits (c : Int) &&& BitVec.ofInt IntKind.u8.bits 127).toNat : Int) = ((c % 128 : Nat) : Int) := by
    rw [u8wrap]
    have h1 : ∀ y : Fin 256, (BitVec.ofInt IntKind.u8.bits ((y.val : Nat) : Int) &&& BitVec.ofInt IntKind.u8.bits 127).toNat % 256 = y.val % 128 := by decide +kernel
    rw [h1 ⟨c, hc⟩]
  have u64n : ∀ n : Nat, IntKind.u64.wrap (n : Int) = ((n % 2 ^ 64 : Nat) : Int) := fun n => by
    simp [IntKind.wrap, IntKind.bits, IntKind.signed]
  have e1 : min (7 * (k : Int)).toNat IntKind.u64.bits = 7 * k := by
    have : IntKind.u64.bits = 64 := rfl
    rw [this]; omega
  have hpow : 2 ^ (7 * k) ≤ 2 ^ 63 := Nat.pow_le_pow_right (by decide) (by omega)
  rw [e0, e1, u64n (c % 128), Nat.mod_eq_of_lt (by omega : c % 128 < 2 ^ 64)]
  have e2 : ((c % 128 : Nat) : Int) * 2 ^ (7 * k) = ((c % 128 * 2 ^ (7 * k) : Nat) : Int) := by push_cast; rfl
  rw [e2, u64n]
  show IntKind.u64.wrap ((BitVec.ofInt 64 (x : Int) ||| BitVec.ofInt 64 ((c % 128 * 2 ^ (7 * k) % 2 ^ 64 : Nat) : Int)).toNat : Int) = _
  rw [ofI, ofI, u64n, BitVec.toNat_or, BitVec.toNat_ofNat, BitVec.toNat_ofNat, Nat.mod_eq_of_lt (by omega : x < 2 ^ 64), Nat.mod_mod]
  congr 1
  have hmod : c % 128 * 2 ^ (7 * k) % 2 ^ 64 = 2 ^ (7 * k) * (c % 128 % 2 ^ (64 - 7 * k)) := by
    have : (2 : Nat) ^ 64 = 2 ^ (7 * k) * 2 ^ (64 - 7 * k) := by rw [← Nat.pow_add]; congr 1; omega
    rw [Nat.mul_comm (c % 128), this, Nat.mul_mod_mul_left]
  have hor : (x ||| 2 ^ (7 * k) * (c % 128 % 2 ^ (64 - 7 * k))) = 2 ^ (7 * k) * (c % 128 % 2 ^ (64 - 7 * k)) + x := by
    rw [Nat.or_comm, ← Nat.two_pow_add_eq_or_of_lt hx]
  rw [hmod, hor, Nat.add_comm, ← hmod, Nat.add_mod, Nat.mod_mod, ← Nat.add_mod]

set_option maxRecDepth 100000 in
set_option maxHeartbeats 4000000 in
theorem number_rd (l : List UInt8) (b : Bool) : PC Try.prog 83 [.ptr 0 0] (rdH l b) (.g (.int .u64 (numGo 10 0 0 l b).1)) (rdH (numGo 10 0 0 l b).2.1 (numGo 10 0 0 l b).2.2) := by
  refine PC_of_PW Try.func83 rfl rfl (rs := _) rfl (Nat.le_of_ble_eq_true (by kernel_rfl)) ?_
  (repeat (first | ((first | refine qA ?_ | refine qB ?_ | refine xN ?_ | refine xE ?_ | refine xT ?_); try show PW _ _ _ _ _ _) | refine ro1 tabOk rfl rfl ?_ | refine ro2 tabOk rfl rfl ?_ | refine ro3 tabOk rfl rfl ?_ | refine rd1 tabOk rfl rfl ?_ | refine rd2 tabOk rfl rfl ?_ | refine rd3 tabOk rfl rfl ?_ | ((first | apply oR rfl rfl | (apply dF rfl rfl rfl; intro _) | (apply dP rfl rfl rfl; intro _) | (apply dL rfl rfl rfl; intro _) | apply dC rfl rfl rfl rfl); (focus (first | exact cJ | exact mG | exact bT | exact nD)); try exact kQ) | refine xS ?_ | refine xR ?_ | refine qxa rfl rfl mixed ?_ | refine qxb rfl rfl mixed ?_ | refine qxc rfl rfl mixed ?_ | refine qxd rfl rfl mixed ?_ | refine xB ?_ | refine xt rfl ?_ | refine xf rfl ?_))
  refine PW_loop (S := Nat × Nat × List UInt8 × Bool) (fun s => slots [(0, .ptr 0 0), (4, .g (.int .i64 (7 * (s.1 : Int)))), (3, .g (.int .u64 s.2.1))]) (fun s => rdH s.2.2.1 s.2.2.2)
    (fun s => s.1 ≤ 10 ∧ s.2.1 < 2 ^ (7 * s.1) ∧ numGo (10 - s.1) s.1 s.2.1 s.2.2.1 s.2.2.2 = numGo 10 0 0 l b) (fun s => 10 - s.1) (0, 0, l, b) ⟨Nat.zero_le _, Nat.one_pos, rfl⟩
    (SlotsOk.le ⟨.inl rfl, .inl rfl, .inl rfl, trivial⟩) (HLe.refl _) (fun s hs => ?_)
  obtain ⟨k, x, l1, b1⟩ := s
  obtain ⟨hk, hx, hgo⟩ := hs
  dsimp only at hk hx hgo
  (repeat (first | ((first | refine qA ?_ | refine qB ?_ | refine xN ?_ | refine xE ?_ | refine xT ?_); try show PW _ _ _ _ _ _) | refine ro1 tabOk rfl rfl ?_ | refine ro2 tabOk rfl rfl ?_ | refine ro3 tabOk rfl rfl ?_ | refine rd1 tabOk rfl rfl ?_ | refine rd2 tabOk rfl rfl ?_ | refine rd3 tabOk rfl rfl ?_ | ((first | apply oR rfl rfl | (apply dF rfl rfl rfl; intro _) | (apply dP rfl rfl rfl; intro _) | (apply dL rfl rfl rfl; intro _) | apply dC rfl rfl rfl rfl); (focus (first | exact cJ | exact mG | exact bT | exact nD)); try exact kQ) | refine xS ?_ | refine xR ?_ | refine qxa rfl rfl mixed ?_ | refine qxb rfl rfl mixed ?_ | refine qxc rfl rfl mixed ?_ | refine qxd rfl rfl mixed ?_ | refine xB ?_ | refine xt rfl ?_ | refine xf rfl ?_))
  (first | refine POps_split rfl rfl (fun h => ?_) (fun h => ?_) | refine POpsD_split rfl rfl (fun h => ?_) (fun h => ?_) | refine PW_cond rfl (fun h => ?_) (fun h => ?_))
  · have hk9 : k ≤ 9 := by have := of_decide_eq_true h; omega
    have hn : numGo 10 0 0 l b = numGo (10 - k - 1 + 1) k x l1 b1 := by rw [← hgo]; congr 1; omega
    replace hn := hn.trans (numGo.eq_2 ..)
    have hb := byte_pc l1 b1
    clear h
    (repeat (first | ((first | refine qA ?_ | refine qB ?_ | refine xN ?_ | refine xE ?_ | refine xT ?_); try show PW _ _ _ _ _ _) | refine ro1 tabOk rfl rfl ?_ | refine ro2 tabOk rfl rfl ?_ | refine ro3 tabOk rfl rfl ?_ | refine rd1 tabOk rfl rfl ?_ | refine rd2 tabOk rfl rfl ?_ | refine rd3 tabOk rfl rfl ?_ | ((first | apply oR rfl rfl | (apply dF rfl rfl rfl; intro _) | (apply dP rfl rfl rfl; intro _) | (apply dL rfl rfl rfl; intro _) | apply dC rfl rfl rfl rfl); (focus (first | exact cb [] rfl rfl (EN rfl) (hb) rfl rfl rfl rfl rfl rfl rfl rfl rfl rfl rfl | exact cJ | exact mG | exact bT | exact nD)); try exact kQ) | refine xU [6] rfl ?_ | refine xR ?_ | refine qxa rfl rfl mixed ?_ | refine qxb rfl rfl mixed ?_ | refine qxc rfl rfl mixed ?_ | refine qxd rfl rfl mixed ?_ | refine xB ?_ | refine xt rfl ?_ | refine xf rfl ?_))
    refine PW_cut (slots [(0, .ptr 0 0), (4, .g (.int .i64 (7 * (k : Int)))), (3, .g (.int .u64 x)), (5, .g (.int .u8 (rdByte l1 b1).1))]) (rdH (rdByte l1 b1).2.1 (numBad k (rdByte l1 b1).1 (rdByte l1 b1).2.2)) ?_ ?_
    · (repeat' (first | (first | ((first | refine qA ?_ | refine qB ?_ | refine xN ?_ | refine xE ?_ | refine xT ?_); try show PW _ _ _ _ _ _) | refine ro1 tabOk rfl rfl ?_ | refine ro2 tabOk rfl rfl ?_ | refine ro3 tabOk rfl rfl ?_ | refine rd1 tabOk rfl rfl ?_ | refine rd2 tabOk rfl rfl ?_ | refine rd3 tabOk rfl rfl ?_ | ((first | apply oR rfl rfl | (apply dF rfl rfl rfl; intro _) | (apply dP rfl rfl rfl; intro _) | (apply dL rfl rfl rfl; intro _) | apply dC rfl rfl rfl rfl); (focus (first | exact cJ | exact mG | exact bT | exact nD)); try exact kQ) | refine xS ?_ | refine xR ?_ | refine qxa rfl rfl mixed ?_ | refine qxb rfl rfl mixed ?_ | refine qxc rfl rfl mixed ?_ | refine qxd rfl rfl mixed ?_ | refine xB ?_ | refine xt rfl ?_ | refine xf rfl ?_) | (refine POps_split rfl rfl (fun h => ?_) (fun h => ?_) <;> fail_if_success (first | (have : true = true := h) | (have : false = false := h))) | (refine POpsD_split rfl rfl (fun h => ?_) (fun h => ?_) <;> fail_if_success (first | (have : true = true := h) | (have : false = false := h))) | refine PW_cond rfl (fun h => ?_) (fun h => ?_)))
      all_goals ((refine ⟨SlotsOk.le ?_, HLe.of_eq ?_⟩; (repeat (first | exact meet_nil | refine meet_cons (.inl rfl) ?_ | refine meet_cons (.inr rfl) ?_ | refine meet_cons (.inl (by simp_all)) ?_))); (try simp only [decide_eq_true_eq, decide_eq_false_iff_not, beq_iff_eq, bne_iff_ne, beq_eq_false_iff_ne, bne_eq_false_iff_eq, Bool.not_eq_true', Bool.not_eq_false', gt_iff_lt, ge_iff_le, ne_eq] at *); unfold numBad; first | (rw [if_pos (by omega)]; rfl) | (rw [if_neg (by omega)]; rfl))
    · (repeat (first | ((first | refine qA ?_ | refine qB ?_ | refine xN ?_ | refine xE ?_ | refine xT ?_); try show PW _ _ _ _ _ _) | refine ro1 tabOk rfl rfl ?_ | refine ro2 tabOk rfl rfl ?_ | refine ro3 tabOk rfl rfl ?_ | refine rd1 tabOk rfl rfl ?_ | refine rd2 tabOk rfl rfl ?_ | refine rd3 tabOk rfl rfl ?_ | ((first | apply oR rfl rfl | (apply dF rfl rfl rfl; intro _) | (apply dP rfl rfl rfl; intro _) | (apply dL rfl rfl rfl; intro _) | apply dC rfl rfl rfl rfl); (focus (first | exact PO_shl rfl rfl rfl (by omega) | exact cJ | exact mG | exact bT | exact nD)); try exact kQ) | refine xU [9] rfl ?_ | refine xR ?_ | refine qxa rfl rfl mixed ?_ | refine qxb rfl rfl mixed ?_ | refine qxc rfl rfl mixed ?_ | refine qxd rfl rfl mixed ?_ | refine xB ?_ | refine xt rfl ?_ | refine xf rfl ?_))
      have ho := or_step x (rdByte l1 b1).1 k hx (rdByte_lt l1 b1) hk9
      (repeat' (first | (first | ((first | refine qA ?_ | refine qB ?_ | refine xN ?_ | refine xE ?_ | refine xT ?_); try show PW _ _ _ _ _ _) | refine ro1 tabOk rfl rfl ?_ | refine ro2 tabOk rfl rfl ?_ | refine ro3 tabOk rfl rfl ?_ | refine rd1 tabOk rfl rfl ?_ | refine rd2 tabOk rfl rfl ?_ | refine rd3 tabOk rfl rfl ?_ | ((first | apply oR rfl rfl | (apply dF rfl rfl rfl; intro _) | (apply dP rfl rfl rfl; intro _) | (apply dL rfl rfl rfl; intro _) | apply dC rfl rfl rfl rfl); (focus (first | exact cJ | exact mG | exact bT | exact nD)); try exact kQ) | refine xS ?_ | refine xR ?_ | refine qxa rfl rfl mixed ?_ | refine qxb rfl rfl mixed ?_ | refine qxc rfl rfl mixed ?_ | refine qxd rfl rfl mixed ?_ | refine xB ?_ | refine xt rfl ?_ | refine xf rfl ?_) | (refine POps_split rfl rfl (fun h => ?_) (fun h => ?_) <;> fail_if_success (first | (have : true = true := h) | (have : false = false := h))) | (refine POpsD_split rfl rfl (fun h => ?_) (fun h => ?_) <;> fail_if_success (first | (have : true = true := h) | (have : false = false := h))) | refine PW_cond rfl (fun h => ?_) (fun h => ?_)))
      · (try simp only [decide_eq_true_eq, decide_eq_false_iff_not, beq_iff_eq, bne_iff_ne, beq_eq_false_iff_ne, bne_eq_false_iff_eq, Bool.not_eq_true', Bool.not_eq_false', gt_iff_lt, ge_iff_le, ne_eq] at *)
        rw [if_pos (.inl (by omega))] at hn
        (first | refine Ret_box (wC vT wN) rfl rfl rfl rfl rfl rfl rfl rfl rfl ?_ ?_ ?_ rfl | refine Ret_box (wC (vA (AG rfl) (SZ rfl) rfl rfl (lB rfl)) wN) rfl rfl rfl rfl rfl rfl rfl rfl rfl ?_ ?_ ?_ rfl | refine Ret_box (wC vT (wC vT wN)) rfl rfl rfl rfl rfl rfl rfl rfl rfl ?_ ?_ ?_ rfl | refine Ret_box (wC (vA (AG rfl) (SZ rfl) rfl rfl (lB rfl)) (wC vT wN)) rfl rfl rfl rfl rfl rfl rfl rfl rfl ?_ ?_ ?_ rfl)
        · rw [hn, ← ho]
        · rw [hn]; rfl
        · rfl
      · rw [if_pos (.inr h)] at hn
        (first | refine Ret_box (wC vT wN) rfl rfl rfl rfl rfl rfl rfl rfl rfl ?_ ?_ ?_ rfl | refine Ret_box (wC (vA (AG rfl) (SZ rfl) rfl rfl (lB rfl)) wN) rfl rfl rfl rfl rfl rfl rfl rfl rfl ?_ ?_ ?_ rfl | refine Ret_box (wC vT (wC vT wN)) rfl rfl rfl rfl rfl rfl rfl rfl rfl ?_ ?_ ?_ rfl | refine Ret_box (wC (vA (AG rfl) (SZ rfl) rfl rfl (lB rfl)) (wC vT wN)) rfl rfl rfl rfl rfl rfl rfl rfl rfl ?_ ?_ ?_ rfl)
        · rw [hn, ← ho]
        · rw [hn]; rfl
        · rfl
      · (try simp only [decide_eq_true_eq, decide_eq_false_iff_not, beq_iff_eq, bne_iff_ne, beq_eq_false_iff_ne, bne_eq_false_iff_eq, Bool.not_eq_true', Bool.not_eq_false', gt_iff_lt, ge_iff_le, ne_eq] at *)
        rw [if_neg (by intro hh; rcases hh with hh | hh; (· omega); (· simp_all))] at hn
        refine ⟨(k + 1, numVal k (rdByte l1 b1).1 x, (rdByte l1 b1).2.1, numBad k (rdByte l1 b1).1 (rdByte l1 b1).2.2), ⟨by dsimp only; omega, ?_, ?_⟩, by dsimp only; omega, SlotsOk.le ⟨.inl rfl, .inl (congrArg (fun n => PV.g (.int .i64 n)) ?_), .inl (congrArg (fun n => PV.g (.int .u64 n)) ho), trivial⟩, HLe.refl _⟩
        · dsimp only
          unfold numVal
          refine Nat.lt_of_le_of_lt (Nat.mod_le _ _) ?_
          have h1 : (rdByte l1 b1).1 % 128 ≤ 127 := by omega
          have h2 := Nat.mul_le_mul_right (2 ^ (7 * k)) h1
          have h3 : 2 ^ (7 * (k + 1)) = 128 * 2 ^ (7 * k) := by rw [Nat.mul_add, Nat.pow_add, Nat.mul_comm]
          omega
        · dsimp only
          rw [hn]
          congr 1
        · rw [wrap64 (by omega)]; omega
  · have hk10 : k = 10 := by have := of_decide_eq_false h; omega
    subst hk10
    (repeat (first | ((first | refine qA ?_ | refine qB ?_ | refine xN ?_ | refine xE ?_ | refine xT ?_); try show PW _ _ _ _ _ _) | refine ro1 tabOk rfl rfl ?_ | refine ro2 tabOk rfl rfl ?_ | refine ro3 tabOk rfl rfl ?_ | refine rd1 tabOk rfl rfl ?_ | refine rd2 tabOk rfl rfl ?_ | refine rd3 tabOk rfl rfl ?_ | ((first | apply oR rfl rfl | (apply dF rfl rfl rfl; intro _) | (apply dP rfl rfl rfl; intro _) | (apply dL rfl rfl rfl; intro _) | apply dC rfl rfl rfl rfl); (focus (first | exact cJ | exact mG | exact bT | exact nD)); try exact kQ) | refine xS ?_ | refine xR ?_ | refine qxa rfl rfl mixed ?_ | refine qxb rfl rfl mixed ?_ | refine qxc rfl rfl mixed ?_ | refine qxd rfl rfl mixed ?_ | refine xB ?_ | refine xt rfl ?_ | refine xf rfl ?_))
    have hn : numGo 10 0 0 l b = (0, l1, true) := by rw [← hgo]; rfl
    (first | refine Ret_box (wC vT wN) rfl rfl rfl rfl rfl rfl rfl rfl rfl ?_ ?_ ?_ rfl | refine Ret_box (wC (vA (AG rfl) (SZ rfl) rfl rfl (lB rfl)) wN) rfl rfl rfl rfl rfl rfl rfl rfl rfl ?_ ?_ ?_ rfl | refine Ret_box (wC vT (wC vT wN)) rfl rfl rfl rfl rfl rfl rfl rfl rfl ?_ ?_ ?_ rfl | refine Ret_box (wC (vA (AG rfl) (SZ rfl) rfl rfl (lB rfl)) (wC vT wN)) rfl rfl rfl rfl rfl rfl rfl rfl rfl ?_ ?_ ?_ rfl)
    · rw [hn]; rfl
    · rw [hn]; rfl
    · rfl

theorem numGo_lt : ∀ (n k x : Nat) (l : List UInt8) (b : Bool), (numGo n k x l b).1 < 2 ^ 64
  | 0, k, x, l, b => by simp [numGo]
  | n + 1, k, x, l, b => by
    rw [numGo]
    split
    · exact Nat.mod_lt _ (by decide)
    · exact numGo_lt n _ _ _ _

end Go.Proofs.Ytffpepmfdjjjaaa


namespace Go.Proofs.Ytffpepmfdjjjaaa
open Go.Pure
attribute [local irreducible] PW POps POpsD PO PC Cond

/-- How many there are; each takes so many bytes at least. -/
def cntGo (least : Nat) (l : List UInt8) (b : Bool) : Nat × List UInt8 × Bool :=
  let r := numGo 10 0 0 l b
  if r.2.2 = true ∨ r.2.1.length / least < r.1 then (0, r.2.1, true) else (r.1, r.2.1, false)
theorem rdByte_len (l : List UInt8) (b : Bool) : (rdByte l b).2.1.length ≤ l.length := by cases l <;> simp [rdByte]
theorem numGo_len : ∀ (n k x : Nat) (l : List UInt8) (b : Bool), (numGo n k x l b).2.1.length ≤ l.length
  | 0, k, x, l, b => by simp [numGo]
  | n + 1, k, x, l, b => by
    rw [numGo]
    have := rdByte_len l b
    split
    · exact this
    · exact Nat.le_trans (numGo_len n _ _ _ _) this
theorem quo_eq (a b : Nat) (ha : a ≤ 4611686018427387904) : IntKind.u64.wrap (IntKind.i64.wrap ((a : Int).tdiv (b : Int))) = ((a / b : Nat) : Int) := by
  have h1 : (a : Int).tdiv (b : Int) = ((a / b : Nat) : Int) := by rw [Int.tdiv_eq_ediv_of_nonneg (by omega)]; rfl
  have h2 : a / b ≤ a := Nat.div_le_self _ _
  rw [h1]
  generalize a / b = q at *
  rw [wrap64 (by omega)]
  simp [IntKind.wrap, IntKind.bits, IntKind.signed]
  omega

set_option maxRecDepth 100000 in
set_option maxHeartbeats 4000000 in
theorem count_pc (least : Nat) (h0 : 0 < least) (l : List UInt8) (b : Bool) (hlen : l.length ≤ 1000000) : PC Try.prog 84 [.ptr 0 0, .g (.int .i64 least)] (rdH l b) (.g (.int .i64 (cntGo least l b).1)) (rdH (cntGo least l b).2.1 (cntGo least l b).2.2) := by
  have hn := number_rd l b
  have hlt := numGo_lt 10 0 0 l b
  have hle := numGo_len 10 0 0 l b
  have hq := quo_eq (bys (numGo 10 0 0 l b).2.1).length least (by rw [bys_len]; omega)
  rw [bys_len] at hq
  refine PC_of_PW Try.func84 rfl rfl (rs := _) rfl (Nat.le_of_ble_eq_true (by kernel_rfl)) ?_
  (repeat' (first | (first | ((first | refine qA ?_ | refine qB ?_ | refine xN ?_ | refine xE ?_ | refine xT ?_); try show PW _ _ _ _ _ _) | refine ro1 tabOk rfl rfl ?_ | refine ro2 tabOk rfl rfl ?_ | refine ro3 tabOk rfl rfl ?_ | refine rd1 tabOk rfl rfl ?_ | refine rd2 tabOk rfl rfl ?_ | refine rd3 tabOk rfl rfl ?_ | ((first | apply oR rfl rfl | (apply dF rfl rfl rfl; intro _) | (apply dP rfl rfl rfl; intro _) | (apply dL rfl rfl rfl; intro _) | apply dC rfl rfl rfl rfl); (focus (first | exact cb [] rfl rfl (EN rfl) (hn) rfl rfl rfl rfl rfl rfl rfl rfl rfl rfl rfl | exact PO_quo rfl rfl rfl (by omega) | exact cJ | exact mG | exact bT | exact nD)); try exact kQ) | refine xS ?_ | refine xR ?_ | refine qxa rfl rfl mixed ?_ | refine qxb rfl rfl mixed ?_ | refine qxc rfl rfl mixed ?_ | refine qxd rfl rfl mixed ?_ | refine xB ?_ | refine xt rfl ?_ | refine xf rfl ?_) | (refine POps_split rfl rfl (fun h => ?_) (fun h => ?_) <;> fail_if_success (first | (have : true = true := h) | (have : false = false := h))) | (refine POpsD_split rfl rfl (fun h => ?_) (fun h => ?_) <;> fail_if_success (first | (have : true = true := h) | (have : false = false := h))) | refine PW_cond rfl (fun h => ?_) (fun h => ?_)))
  · have hc : cntGo least l b = (0, (numGo 10 0 0 l b).2.1, true) := by unfold cntGo; rw [if_pos (.inl h)]
    (first | refine Ret_box (wC vT wN) rfl rfl rfl rfl rfl rfl rfl rfl rfl ?_ ?_ ?_ rfl | refine Ret_box (wC (vA (AG rfl) (SZ rfl) rfl rfl (lB rfl)) wN) rfl rfl rfl rfl rfl rfl rfl rfl rfl ?_ ?_ ?_ rfl | refine Ret_box (wC vT (wC vT wN)) rfl rfl rfl rfl rfl rfl rfl rfl rfl ?_ ?_ ?_ rfl | refine Ret_box (wC (vA (AG rfl) (SZ rfl) rfl rfl (lB rfl)) (wC vT wN)) rfl rfl rfl rfl rfl rfl rfl rfl rfl ?_ ?_ ?_ rfl)
    all_goals (try rw [hc])
    all_goals (try rfl)
  · have hc : cntGo least l b = (0, (numGo 10 0 0 l b).2.1, true) := by
      have := of_decide_eq_true h
      rw [bys_len, hq] at this
      unfold cntGo; rw [if_pos (.inr (by omega))]
    (first | refine Ret_box (wC vT wN) rfl rfl rfl rfl rfl rfl rfl rfl rfl ?_ ?_ ?_ rfl | refine Ret_box (wC (vA (AG rfl) (SZ rfl) rfl rfl (lB rfl)) wN) rfl rfl rfl rfl rfl rfl rfl rfl rfl ?_ ?_ ?_ rfl | refine Ret_box (wC vT (wC vT wN)) rfl rfl rfl rfl rfl rfl rfl rfl rfl ?_ ?_ ?_ rfl | refine Ret_box (wC (vA (AG rfl) (SZ rfl) rfl rfl (lB rfl)) (wC vT wN)) rfl rfl rfl rfl rfl rfl rfl rfl rfl ?_ ?_ ?_ rfl)
    all_goals (try rw [hc])
    all_goals (try rfl)
  · rename_i h1
    have hx := of_decide_eq_false h
    rw [bys_len, hq] at hx
    have hc : cntGo least l b = ((numGo 10 0 0 l b).1, (numGo 10 0 0 l b).2.1, false) := by
      unfold cntGo; rw [if_neg (by rintro (hh | hh); (· simp [hh] at h1); (· omega))]
    have hd : (numGo 10 0 0 l b).2.1.length / least ≤ (numGo 10 0 0 l b).2.1.length := Nat.div_le_self _ _
    (first | refine Ret_box (wC vT wN) rfl rfl rfl rfl rfl rfl rfl rfl rfl ?_ ?_ ?_ rfl | refine Ret_box (wC (vA (AG rfl) (SZ rfl) rfl rfl (lB rfl)) wN) rfl rfl rfl rfl rfl rfl rfl rfl rfl ?_ ?_ ?_ rfl | refine Ret_box (wC vT (wC vT wN)) rfl rfl rfl rfl rfl rfl rfl rfl rfl ?_ ?_ ?_ rfl | refine Ret_box (wC (vA (AG rfl) (SZ rfl) rfl rfl (lB rfl)) (wC vT wN)) rfl rfl rfl rfl rfl rfl rfl rfl rfl ?_ ?_ ?_ rfl)
    · rw [hc, wrap64 (by omega)]
    · rw [hc, ← h1]; rfl
    · rfl

/-- So many trees, one behind the other. -/
def kidsGo (g : List UInt8 → Bool → Tr × List UInt8 × Bool) : Nat → List UInt8 → Bool → List Tr × List UInt8 × Bool
  | 0, l, b => ([], l, b)
  | n + 1, l, b => ((g l b).1 :: (kidsGo g n (g l b).2.1 (g l b).2.2).1, (kidsGo g n (g l b).2.1 (g l b).2.2).2)
def noTree : Tr := .mk 0 0 ⟨#[]⟩ []
/-- A tree: so many levels may still come. -/
def treeGo : Nat → List UInt8 → Bool → Tr × List UInt8 × Bool
  | 0, l, _ => (noTree, l, true)
  | f + 1, l, b =>
    if b = true then (noTree, l, true) else
    let r0 := rdByte l b
    let r1 := numGo 10 0 0 r0.2.1 r0.2.2
    let r2 := cntGo 1 r1.2.1 r1.2.2
    let r3 := cntGo 4 (r2.2.1.drop r2.1) r2.2.2
    let k := kidsGo (treeGo f) r3.1 r3.2.1 r3.2.2
    (.mk r0.1 (unfold64 r1.1) ⟨(r2.2.1.take r2.1).toArray⟩ k.1, k.2)
theorem cntGo_le (least : Nat) (_h0 : 0 < least) (l : List UInt8) (b : Bool) : (cntGo least l b).1 ≤ (cntGo least l b).2.1.length ∧ (cntGo least l b).2.1.length ≤ l.length := by
  have := numGo_len 10 0 0 l b
  unfold cntGo
  dsimp only
  split
  · simp; exact this
  · rename_i h
    have hd : (numGo 10 0 0 l b).2.1.length / least ≤ (numGo 10 0 0 l b).2.1.length := Nat.div_le_self _ _
    simp at h ⊢
    omega
theorem kids_len {g : List UInt8 → Bool → Tr × List UInt8 × Bool} (hg : ∀ l b, (g l b).2.1.length ≤ l.length) : ∀ (n : Nat) (l : List UInt8) (b : Bool), (kidsGo g n l b).2.1.length ≤ l.length
  | 0, l, b => by simp [kidsGo]
  | n + 1, l, b => by simp only [kidsGo]; exact Nat.le_trans (kids_len hg n _ _) (hg l b)
theorem tree_len : ∀ (f : Nat) (l : List UInt8) (b : Bool), (treeGo f l b).2.1.length ≤ l.length
  | 0, l, b => by simp [treeGo]
  | f + 1, l, b => by
    rw [treeGo]
    split
    · simp
    · have h0 := rdByte_len l b
      have h1 := numGo_len 10 0 0 (rdByte l b).2.1 (rdByte l b).2.2
      have h2 := (cntGo_le 1 (by decide) (numGo 10 0 0 (rdByte l b).2.1 (rdByte l b).2.2).2.1 (numGo 10 0 0 (rdByte l b).2.1 (rdByte l b).2.2).2.2).2
      dsimp only
      refine Nat.le_trans (kids_len (tree_len f) _ _ _) (Nat.le_trans (cntGo_le 4 (by decide) _ _).2 ?_)
      simp
      omega
end Go.Proofs.Ytffpepmfdjjjaaa


namespace Go.Proofs.Ytffpepmfdjjjaaa
open Go.Pure
attribute [local irreducible] PW POps POpsD PO PC Cond

theorem kids_succ (g : List UInt8 → Bool → Tr × List UInt8 × Bool) : ∀ (n : Nat) (l : List UInt8) (b : Bool),
    kidsGo g (n + 1) l b = ((kidsGo g n l b).1 ++ [(g (kidsGo g n l b).2.1 (kidsGo g n l b).2.2).1], (g (kidsGo g n l b).2.1 (kidsGo g n l b).2.2).2)
  | 0, l, b => by simp [kidsGo]
  | n + 1, l, b => by
    conv => lhs; rw [kidsGo]
    rw [kids_succ g n]
    simp [kidsGo]
theorem kids_count (g : List UInt8 → Bool → Tr × List UInt8 × Bool) : ∀ (n : Nat) (l : List UInt8) (b : Bool), (kidsGo g n l b).1.length = n
  | 0, l, b => rfl
  | n + 1, l, b => by rw [kids_succ]; simp [kids_count g n]
theorem gs_append (a : List Tr) (t : Tr) : Tr.gs (a ++ [t]) = Tr.gs a ++ [t.g] := by simp [gs_eq]

set_option maxRecDepth 100000 in
set_option maxHeartbeats 4000000 in
theorem tree_pc : ∀ (f : Nat) (l : List UInt8) (b : Bool), f ≤ 40 → l.length ≤ 1000000 → PC Try.prog 55 [.ptr 0 0, .g (.int .i64 (41 - (f : Int)))] (rdH l b) (.g (treeGo f l b).1.g) (rdH (treeGo f l b).2.1 (treeGo f l b).2.2)
  | 0, l, b, _, hl => by
    refine PC_of_PW Try.func55 rfl rfl (rs := _) rfl (Nat.le_of_ble_eq_true (by kernel_rfl)) ?_
    (repeat' (first | (first | ((first | refine qA ?_ | refine qB ?_ | refine xN ?_ | refine xE ?_ | refine xT ?_); try show PW _ _ _ _ _ _) | refine ro1 tabOk rfl rfl ?_ | refine ro2 tabOk rfl rfl ?_ | refine ro3 tabOk rfl rfl ?_ | refine rd1 tabOk rfl rfl ?_ | refine rd2 tabOk rfl rfl ?_ | refine rd3 tabOk rfl rfl ?_ | ((first | apply oR rfl rfl | (apply dF rfl rfl rfl; intro _) | (apply dP rfl rfl rfl; intro _) | (apply dL rfl rfl rfl; intro _) | apply dC rfl rfl rfl rfl); (focus (first | exact cJ | exact mG | exact bT | exact nD)); try exact kQ) | refine xS ?_ | refine xR ?_ | refine qxa rfl rfl mixed ?_ | refine qxb rfl rfl mixed ?_ | refine qxc rfl rfl mixed ?_ | refine qxd rfl rfl mixed ?_ | refine xB ?_ | refine xt rfl ?_ | refine xf rfl ?_) | (refine POps_split rfl rfl (fun h => ?_) (fun h => ?_) <;> fail_if_success (first | (have : true = true := h) | (have : false = false := h))) | (refine POpsD_split rfl rfl (fun h => ?_) (fun h => ?_) <;> fail_if_success (first | (have : true = true := h) | (have : false = false := h))) | refine PW_cond rfl (fun h => ?_) (fun h => ?_)))
    (first | refine Ret_boxp (vC vT vN) rfl rfl rfl rfl rfl rfl rfl rfl rfl ?_ ?_ ?_ rfl | refine Ret_boxp (vC (vA (AG rfl) (SZ rfl) rfl rfl (lB rfl)) vN) rfl rfl rfl rfl rfl rfl rfl rfl rfl ?_ ?_ ?_ rfl | refine Ret_boxp (vC vT (vC vT vN)) rfl rfl rfl rfl rfl rfl rfl rfl rfl ?_ ?_ ?_ rfl | refine Ret_boxp (vC (vA (AG rfl) (SZ rfl) rfl rfl (lB rfl)) (vC vT vN)) rfl rfl rfl rfl rfl rfl rfl rfl rfl ?_ ?_ ?_ rfl)
    · rfl
    · rfl
    · rfl
  | f + 1, l, b, hf, hl => by
    cases b with
    | true =>
      refine PC_of_PW Try.func55 rfl rfl (rs := _) rfl (Nat.le_of_ble_eq_true (by kernel_rfl)) ?_
      (repeat' (first | (first | ((first | refine qA ?_ | refine qB ?_ | refine xN ?_ | refine xE ?_ | refine xT ?_); try show PW _ _ _ _ _ _) | refine ro1 tabOk rfl rfl ?_ | refine ro2 tabOk rfl rfl ?_ | refine ro3 tabOk rfl rfl ?_ | refine rd1 tabOk rfl rfl ?_ | refine rd2 tabOk rfl rfl ?_ | refine rd3 tabOk rfl rfl ?_ | ((first | apply oR rfl rfl | (apply dF rfl rfl rfl; intro _) | (apply dP rfl rfl rfl; intro _) | (apply dL rfl rfl rfl; intro _) | apply dC rfl rfl rfl rfl); (focus (first | exact cJ | exact mG | exact bT | exact nD)); try exact kQ) | refine xS ?_ | refine xR ?_ | refine qxa rfl rfl mixed ?_ | refine qxb rfl rfl mixed ?_ | refine qxc rfl rfl mixed ?_ | refine qxd rfl rfl mixed ?_ | refine xB ?_ | refine xt rfl ?_ | refine xf rfl ?_) | (refine POps_split rfl rfl (fun h => ?_) (fun h => ?_) <;> fail_if_success (first | (have : true = true := h) | (have : false = false := h))) | (refine POpsD_split rfl rfl (fun h => ?_) (fun h => ?_) <;> fail_if_success (first | (have : true = true := h) | (have : false = false := h))) | refine PW_cond rfl (fun h => ?_) (fun h => ?_)))
      · have := of_decide_eq_true h; omega
      · (first | refine Ret_boxp (vC vT vN) rfl rfl rfl rfl rfl rfl rfl rfl rfl ?_ ?_ ?_ rfl | refine Ret_boxp (vC (vA (AG rfl) (SZ rfl) rfl rfl (lB rfl)) vN) rfl rfl rfl rfl rfl rfl rfl rfl rfl ?_ ?_ ?_ rfl | refine Ret_boxp (vC vT (vC vT vN)) rfl rfl rfl rfl rfl rfl rfl rfl rfl ?_ ?_ ?_ rfl | refine Ret_boxp (vC (vA (AG rfl) (SZ rfl) rfl rfl (lB rfl)) (vC vT vN)) rfl rfl rfl rfl rfl rfl rfl rfl rfl ?_ ?_ ?_ rfl)
        · rfl
        · rfl
        · rfl
    | false =>
      have h0 := rdByte_len l false
      have hb := byte_pc l false
      have hn := number_rd (rdByte l false).2.1 (rdByte l false).2.2
      have hnl := numGo_len 10 0 0 (rdByte l false).2.1 (rdByte l false).2.2
      have hu := unfolded_pc (numGo 10 0 0 (rdByte l false).2.1 (rdByte l false).2.2).1 (numGo_lt _ _ _ _ _)
      have hts : treeGo (f + 1) l false = _ := treeGo.eq_2 ..
      rw [if_neg (by decide)] at hts
      dsimp only at hts
      generalize numGo 10 0 0 (rdByte l false).2.1 (rdByte l false).2.2 = r1 at hn hnl hu hts
      have h1 := count_pc 1 (by decide) r1.2.1 r1.2.2 (by omega)
      have h1l := cntGo_le 1 (by decide) r1.2.1 r1.2.2
      generalize cntGo 1 r1.2.1 r1.2.2 = r2 at h1 h1l hts
      have h4 := count_pc 4 (by decide) (r2.2.1.drop r2.1) r2.2.2 (by simp; omega)
      have h4l := cntGo_le 4 (by decide) (r2.2.1.drop r2.1) r2.2.2
      generalize cntGo 4 (r2.2.1.drop r2.1) r2.2.2 = r3 at h4 h4l hts
      refine PC_of_PW Try.func55 rfl rfl (rs := _) rfl (Nat.le_of_ble_eq_true (by kernel_rfl)) ?_
      (repeat (first | ((first | refine qA ?_ | refine qB ?_ | refine xN ?_ | refine xE ?_ | refine xT ?_); try show PW _ _ _ _ _ _) | refine ro1 tabOk rfl rfl ?_ | refine ro2 tabOk rfl rfl ?_ | refine ro3 tabOk rfl rfl ?_ | refine rd1 tabOk rfl rfl ?_ | refine rd2 tabOk rfl rfl ?_ | refine rd3 tabOk rfl rfl ?_ | ((first | apply oR rfl rfl | (apply dF rfl rfl rfl; intro _) | (apply dP rfl rfl rfl; intro _) | (apply dL rfl rfl rfl; intro _) | apply dC rfl rfl rfl rfl); (focus (first | exact cJ | exact mG | exact bT | exact nD)); try exact kQ) | refine xS ?_ | refine xR ?_ | refine qxa rfl rfl mixed ?_ | refine qxb rfl rfl mixed ?_ | refine qxc rfl rfl mixed ?_ | refine qxd rfl rfl mixed ?_ | refine xB ?_ | refine xt rfl ?_ | refine xf rfl ?_))
      (first | refine POps_split rfl rfl (fun h => ?_) (fun h => ?_) | refine POpsD_split rfl rfl (fun h => ?_) (fun h => ?_) | refine PW_cond rfl (fun h => ?_) (fun h => ?_))
      · have := of_decide_eq_true h; omega
      (repeat (first | ((first | refine qA ?_ | refine qB ?_ | refine xN ?_ | refine xE ?_ | refine xT ?_); try show PW _ _ _ _ _ _) | refine ro1 tabOk rfl rfl ?_ | refine ro2 tabOk rfl rfl ?_ | refine ro3 tabOk rfl rfl ?_ | refine rd1 tabOk rfl rfl ?_ | refine rd2 tabOk rfl rfl ?_ | refine rd3 tabOk rfl rfl ?_ | ((first | apply oR rfl rfl | (apply dF rfl rfl rfl; intro _) | (apply dP rfl rfl rfl; intro _) | (apply dL rfl rfl rfl; intro _) | apply dC rfl rfl rfl rfl); (focus (first | exact cb [] rfl rfl (EN rfl) (hb) rfl rfl rfl rfl rfl rfl rfl rfl rfl rfl rfl | exact cb [] rfl rfl (EN rfl) (hn) rfl rfl rfl rfl rfl rfl rfl rfl rfl rfl rfl | exact cqP hu | exact cb [] rfl rfl (EN rfl) (h1) rfl rfl rfl rfl rfl rfl rfl rfl rfl rfl rfl | exact cb [] rfl rfl (EN rfl) (h4) rfl rfl rfl rfl rfl rfl rfl rfl rfl rfl rfl | exact PO_slice_bys (r2.2.1.take r2.1) 0 r2.1 rfl (EL rfl) (SZ rfl) rfl rfl rfl rfl rfl (Nat.zero_le _) h1l.1 rfl | exact PO_slice_bys (r2.2.1.drop r2.1) r2.1 r2.2.1.length rfl (EL rfl) (SZ rfl) rfl rfl rfl rfl rfl h1l.1 (Nat.le_refl _) (List.take_of_length_le (by simp)) | exact PO_conv_bytes rfl (EL rfl) (IK rfl) (ST rfl) rfl | exact cJ | exact mG | exact bT | exact nD)); try exact kQ) | refine xS ?_ | refine xR ?_ | refine qxa rfl rfl mixed ?_ | refine qxb rfl rfl mixed ?_ | refine qxc rfl rfl mixed ?_ | refine qxd rfl rfl mixed ?_ | refine xB ?_ | refine xt rfl ?_ | refine xf rfl ?_))
      refine PW_bufbox 2 3 30 (SZ rfl) rfl rfl ?_
      refine PW_loop (S := Nat) (fun i => slots [(0, .ptr 0 0), (1, .g (.int .i64 (41 - ((f + 1 : Nat) : Int)))), (4, .ptr 1 0), (5, .ptr 2 0), (45, .g (.int .i64 r3.1)), (46, .g (.int .i64 i))])
        (fun i => ⟨[[.g (.sl (bys (kidsGo (treeGo f) i r3.2.1 r3.2.2).2.1)), .g (.bool (kidsGo (treeGo f) i r3.2.1 r3.2.2).2.2)], [.g (.int .i64 0), .g (.int .i64 0), .g (.str ⟨#[]⟩), .nils],
          [.g (.int .i64 (rdByte l false).1), .g (.int .i64 (unfold64 r1.1)), .g (.str ⟨(r2.2.1.take r2.1).toArray⟩), .own (Tr.gs (kidsGo (treeGo f) i r3.2.1 r3.2.2).1) 0]], [(30, i)], []⟩)
        (fun i => i ≤ r3.1) (fun i => r3.1 - i) 0 (Nat.zero_le _) (SlotsOk.le ⟨.inl rfl, .inl rfl, .inl rfl, .inl rfl, .inl rfl, .inl rfl, trivial⟩) (HLe.of_eq ?_) (fun i hi => ?_)
      · have hw : IntKind.i64.wrap ((rdByte l false).1 : Int) = (rdByte l false).1 := wrap64 (by have := rdByte_lt l false; omega)
        rw [hw]
        rfl
      · (repeat (first | ((first | refine qA ?_ | refine qB ?_ | refine xN ?_ | refine xE ?_ | refine xT ?_); try show PW _ _ _ _ _ _) | refine ro1 tabOk rfl rfl ?_ | refine ro2 tabOk rfl rfl ?_ | refine ro3 tabOk rfl rfl ?_ | refine rd1 tabOk rfl rfl ?_ | refine rd2 tabOk rfl rfl ?_ | refine rd3 tabOk rfl rfl ?_ | ((first | apply oR rfl rfl | (apply dF rfl rfl rfl; intro _) | (apply dP rfl rfl rfl; intro _) | (apply dL rfl rfl rfl; intro _) | apply dC rfl rfl rfl rfl); (focus (first | exact cJ | exact mG | exact bT | exact nD)); try exact kQ) | refine xS ?_ | refine xR ?_ | refine qxa rfl rfl mixed ?_ | refine qxb rfl rfl mixed ?_ | refine qxc rfl rfl mixed ?_ | refine qxd rfl rfl mixed ?_ | refine xB ?_ | refine xt rfl ?_ | refine xf rfl ?_))
        have hkl := kids_len (tree_len f) i r3.2.1 r3.2.2
        have hks : (kidsGo (treeGo f) i r3.2.1 r3.2.2).1.length = i := kids_count _ _ _ _
        have hml : (r2.2.1.drop r2.1).length ≤ r2.2.1.length := by simp
        (first | refine POps_split rfl rfl (fun h => ?_) (fun h => ?_) | refine POpsD_split rfl rfl (fun h => ?_) (fun h => ?_) | refine PW_cond rfl (fun h => ?_) (fun h => ?_))
        · have hlt : i < r3.1 := by have := of_decide_eq_true h; omega
          have ht := tree_pc f (kidsGo (treeGo f) i r3.2.1 r3.2.2).2.1 (kidsGo (treeGo f) i r3.2.1 r3.2.2).2.2 (by omega) (by omega)
          have hdp : IntKind.i64.wrap ((41 : Int) - ((f + 1 : Nat) : Int) + 1) = 41 - (f : Int) := by rw [wrap64 (by omega)]; omega
          rw [← hdp] at ht
          have hks2 := kids_succ (treeGo f) i r3.2.1 r3.2.2
          obtain ⟨ta, tb, tc, td, he⟩ : ∃ a b c d, (treeGo f (kidsGo (treeGo f) i r3.2.1 r3.2.2).2.1 (kidsGo (treeGo f) i r3.2.1 r3.2.2).2.2).1 = Tr.mk a b c d := by
            cases (treeGo f (kidsGo (treeGo f) i r3.2.1 r3.2.2).2.1 (kidsGo (treeGo f) i r3.2.1 r3.2.2).2.2).1; exact ⟨_, _, _, _, rfl⟩
          rw [he] at ht hks2
          have hxs : ∀ x ∈ [(Tr.mk ta tb tc td).g], x.cells.length = 4 := by
            intro x hx; rw [List.mem_singleton.1 hx]; exact g_cells _
          (repeat (first | ((first | refine qA ?_ | refine qB ?_ | refine xN ?_ | refine xE ?_ | refine xT ?_); try show PW _ _ _ _ _ _) | refine ro1 tabOk rfl rfl ?_ | refine ro2 tabOk rfl rfl ?_ | refine ro3 tabOk rfl rfl ?_ | refine rd1 tabOk rfl rfl ?_ | refine rd2 tabOk rfl rfl ?_ | refine rd3 tabOk rfl rfl ?_ | ((first | apply oR rfl rfl | (apply dF rfl rfl rfl; intro _) | (apply dP rfl rfl rfl; intro _) | (apply dL rfl rfl rfl; intro _) | apply dC rfl rfl rfl rfl); (focus (first | exact cb [] rfl rfl (EN rfl) (ht) rfl rfl rfl rfl rfl rfl rfl rfl rfl rfl rfl | exact aP (xs := [(Tr.mk ta tb tc td).g]) rfl (EL rfl) (SZ rfl) (BY rfl) (ZR rfl) rfl rfl rfl rfl (by rw [gs_len]; exact hks) hxs (by simp; omega) (by simp [maxLen]; omega) | exact cJ | exact mG | exact bT | exact nD)); try exact kQ) | refine xS ?_ | refine xR ?_ | refine xK false false [2] rfl mixed (by decide +kernel) ?_ | refine xK false true [2] rfl mixed (by decide +kernel) ?_ | refine xK true false [2] rfl mixed (by decide +kernel) ?_ | refine xK true true [2] rfl mixed (by decide +kernel) ?_ | refine xB ?_ | refine xt rfl ?_ | refine xf rfl ?_))
          refine ⟨i + 1, hlt, by omega, SlotsOk.le ⟨.inl rfl, .inl rfl, .inl rfl, .inl rfl, .inl rfl, .inl (congrArg (fun n => PV.g (.int .i64 n)) (wrap64 (by omega))), trivial⟩, HLe.of_eq ?_⟩
          rw [hks2, gs_append]
          rfl
        · have hi' : i = r3.1 := by have := of_decide_eq_false h; omega
          subst hi'
          (repeat (first | ((first | refine qA ?_ | refine qB ?_ | refine xN ?_ | refine xE ?_ | refine xT ?_); try show PW _ _ _ _ _ _) | refine ro1 tabOk rfl rfl ?_ | refine ro2 tabOk rfl rfl ?_ | refine ro3 tabOk rfl rfl ?_ | refine rd1 tabOk rfl rfl ?_ | refine rd2 tabOk rfl rfl ?_ | refine rd3 tabOk rfl rfl ?_ | ((first | apply oR rfl rfl | (apply dF rfl rfl rfl; intro _) | (apply dP rfl rfl rfl; intro _) | (apply dL rfl rfl rfl; intro _) | apply dC rfl rfl rfl rfl); (focus (first | exact cJ | exact mG | exact bT | exact nD)); try exact kQ) | refine xS ?_ | refine xR ?_ | refine qxa rfl rfl mixed ?_ | refine qxb rfl rfl mixed ?_ | refine qxc rfl rfl mixed ?_ | refine qxd rfl rfl mixed ?_ | refine xB ?_ | refine xt rfl ?_ | refine xf rfl ?_))
          (first | refine Ret_boxp (vC vT vN) rfl rfl rfl rfl rfl rfl rfl rfl rfl ?_ ?_ ?_ rfl | refine Ret_boxp (vC (vA (AG rfl) (SZ rfl) rfl rfl (lB rfl)) vN) rfl rfl rfl rfl rfl rfl rfl rfl rfl ?_ ?_ ?_ rfl | refine Ret_boxp (vC vT (vC vT vN)) rfl rfl rfl rfl rfl rfl rfl rfl rfl ?_ ?_ ?_ rfl | refine Ret_boxp (vC (vA (AG rfl) (SZ rfl) rfl rfl (lB rfl)) (vC vT vN)) rfl rfl rfl rfl rfl rfl rfl rfl rfl ?_ ?_ ?_ rfl)
          · rw [hts]; rfl
          · rw [hts]; rfl
          · rfl
end Go.Proofs.Ytffpepmfdjjjaaa


namespace Go.Proofs.Ytffpepmfdjjjaaa
open Go.Pure
attribute [local irreducible] PW POps POpsD PO PC Cond

theorem kids_ok {g : List UInt8 → Bool → Tr × List UInt8 × Bool} (hg : ∀ l b, l.length ≤ 1000000 → (g l b).1.ok) (hgl : ∀ l b, (g l b).2.1.length ≤ l.length) : ∀ (n : Nat) (l : List UInt8) (b : Bool), l.length ≤ 1000000 → Tr.oks (kidsGo g n l b).1
  | 0, l, b, _ => by simp [kidsGo, Tr.oks]
  | n + 1, l, b, hl => by
    simp only [kidsGo, Tr.oks]
    exact ⟨hg l b hl, kids_ok hg hgl n _ _ (Nat.le_trans (hgl l b) hl)⟩
theorem tree_ok : ∀ (f : Nat) (l : List UInt8) (b : Bool), l.length ≤ 1000000 → (treeGo f l b).1.ok
  | 0, l, b, _ => by simp [treeGo, noTree, Tr.ok, Tr.oks]
  | f + 1, l, b, hl => by
    rw [treeGo]
    split
    · simp [noTree, Tr.ok, Tr.oks]
    · have h0 := rdByte_len l b
      have h1 := numGo_len 10 0 0 (rdByte l b).2.1 (rdByte l b).2.2
      dsimp only
      generalize numGo 10 0 0 (rdByte l b).2.1 (rdByte l b).2.2 = r1 at *
      have h2 := cntGo_le 1 (by decide) r1.2.1 r1.2.2
      generalize cntGo 1 r1.2.1 r1.2.2 = r2 at *
      have h3 := cntGo_le 4 (by decide) (r2.2.1.drop r2.1) r2.2.2
      generalize cntGo 4 (r2.2.1.drop r2.1) r2.2.2 = r3 at *
      simp only [List.length_drop] at h3
      simp only [Tr.ok]
      refine ⟨?_, kids_ok (tree_ok f) (tree_len f) _ _ _ (by omega)⟩
      rw [kids_count]
      simp only [maxLen]
      omega

/-- Four bytes as a number, the lowest one first. -/
def le32 (a b c d : UInt8) : BitVec 32 := BitVec.ofNat 32 (a.toNat + 256 * b.toNat + 65536 * c.toNat + 16777216 * d.toNat)
theorem u32n (n : Nat) (h : n < 4294967296) : IntKind.u32.wrap (n : Int) = (n : Int) := by
  simp [IntKind.wrap, IntKind.bits, IntKind.signed]; omega
theorem or8 (a b : Nat) (ha : a < 256) (hb : b < 256) : IntKind.u32.wrap ((BitVec.ofInt IntKind.u32.bits (a : Int) ||| BitVec.ofInt IntKind.u32.bits ((256 * b : Nat) : Int)).toNat : Int) = ((a + 256 * b : Nat) : Int) := by
  show IntKind.u32.wrap ((BitVec.ofInt 32 (a : Int) ||| BitVec.ofInt 32 ((256 * b : Nat) : Int)).toNat : Int) = _
  rw [BitVec.ofInt_natCast, BitVec.ofInt_natCast, BitVec.toNat_or, BitVec.toNat_ofNat, BitVec.toNat_ofNat, Nat.mod_eq_of_lt (by omega : a < 2 ^ 32), Nat.mod_eq_of_lt (by omega : 256 * b < 2 ^ 32)]
  have h := Nat.two_pow_add_eq_or_of_lt (i := 8) (by omega : a < 2 ^ 8) b
  rw [Nat.or_comm, show (256 : Nat) * b = 2 ^ 8 * b from rfl, ← h, u32n _ (by omega)]
  congr 1; omega
theorem or16 (a b : Nat) (ha : a < 65536) (hb : b < 256) : IntKind.u32.wrap ((BitVec.ofInt IntKind.u32.bits (a : Int) ||| BitVec.ofInt IntKind.u32.bits ((65536 * b : Nat) : Int)).toNat : Int) = ((a + 65536 * b : Nat) : Int) := by
  show IntKind.u32.wrap ((BitVec.ofInt 32 (a : Int) ||| BitVec.ofInt 32 ((65536 * b : Nat) : Int)).toNat : Int) = _
  rw [BitVec.ofInt_natCast, BitVec.ofInt_natCast, BitVec.toNat_or, BitVec.toNat_ofNat, BitVec.toNat_ofNat, Nat.mod_eq_of_lt (by omega : a < 2 ^ 32), Nat.mod_eq_of_lt (by omega : 65536 * b < 2 ^ 32)]
  have h := Nat.two_pow_add_eq_or_of_lt (i := 16) (by omega : a < 2 ^ 16) b
  rw [Nat.or_comm, show (65536 : Nat) * b = 2 ^ 16 * b from rfl, ← h, u32n _ (by omega)]
  congr 1; omega
theorem or24 (a b : Nat) (ha : a < 16777216) (hb : b < 256) : IntKind.u32.wrap ((BitVec.ofInt IntKind.u32.bits (a : Int) ||| BitVec.ofInt IntKind.u32.bits ((16777216 * b : Nat) : Int)).toNat : Int) = ((a + 16777216 * b : Nat) : Int) := by
  show IntKind.u32.wrap ((BitVec.ofInt 32 (a : Int) ||| BitVec.ofInt 32 ((16777216 * b : Nat) : Int)).toNat : Int) = _
  rw [BitVec.ofInt_natCast, BitVec.ofInt_natCast, BitVec.toNat_or, BitVec.toNat_ofNat, BitVec.toNat_ofNat, Nat.mod_eq_of_lt (by omega : a < 2 ^ 32), Nat.mod_eq_of_lt (by omega : 16777216 * b < 2 ^ 32)]
  have h := Nat.two_pow_add_eq_or_of_lt (i := 24) (by omega : a < 2 ^ 24) b
  rw [Nat.or_comm, show (16777216 : Nat) * b = 2 ^ 24 * b from rfl, ← h, u32n _ (by omega)]
  congr 1; omega
def shK (k : Nat) (c : UInt8) : Int := IntKind.u32.wrap (IntKind.u32.wrap (c.toNat : Int) * 2 ^ min ((k : Int)).toNat IntKind.u32.bits)
def orI (x y : Int) : Int := IntKind.u32.wrap ((BitVec.ofInt IntKind.u32.bits x ||| BitVec.ofInt IntKind.u32.bits y).toNat : Int)
theorem le32_eq (a b c d : UInt8) : orI (orI (orI (IntKind.u32.wrap (a.toNat : Int)) (shK 8 b)) (shK 16 c)) (shK 24 d) = ((le32 a b c d).toNat : Int) := by
  have ha := a.toNat_lt; have hb := b.toNat_lt; have hc := c.toNat_lt; have hd := d.toNat_lt
  have e0 : IntKind.u32.wrap (a.toNat : Int) = (a.toNat : Int) := u32n _ (by omega)
  have e1 : shK 8 b = ((256 * b.toNat : Nat) : Int) := by
    unfold shK
    rw [u32n _ (by omega), show min ((8 : Nat) : Int).toNat IntKind.u32.bits = 8 from rfl, show (b.toNat : Int) * 2 ^ 8 = ((256 * b.toNat : Nat) : Int) by omega, u32n _ (by omega)]
  have e2 : shK 16 c = ((65536 * c.toNat : Nat) : Int) := by
    unfold shK
    rw [u32n _ (by omega), show min ((16 : Nat) : Int).toNat IntKind.u32.bits = 16 from rfl, show (c.toNat : Int) * 2 ^ 16 = ((65536 * c.toNat : Nat) : Int) by omega, u32n _ (by omega)]
  have e3 : shK 24 d = ((16777216 * d.toNat : Nat) : Int) := by
    unfold shK
    rw [u32n _ (by omega), show min ((24 : Nat) : Int).toNat IntKind.u32.bits = 24 from rfl, show (d.toNat : Int) * 2 ^ 24 = ((16777216 * d.toNat : Nat) : Int) by omega, u32n _ (by omega)]
  rw [e0, e1, e2, e3]
  unfold orI le32
  rw [or8 _ _ (by omega) (by omega), or16 _ _ (by omega) (by omega), or24 _ _ (by omega) (by omega)]
  simp
  omega
end Go.Proofs.Ytffpepmfdjjjaaa


/- Plain laws: numbers in seven bits a byte, signs folded. -/
namespace Go.Proofs.Ytffpepmfdjjjaaa
open Go.Pure

theorem pow7 (k : Nat) : 2 ^ (7 * (k + 1)) = 128 * 2 ^ (7 * k) := by rw [Nat.mul_add, Nat.pow_add, Nat.mul_comm]
theorem u8of (n : Nat) (h : n < 256) : (UInt8.ofNat n).toNat = n := by simp; omega

theorem numGo_cons (n k x0 : Nat) (c : UInt8) (l : List UInt8) (b : Bool) (cn : Nat) (hc : c.toNat = cn) : numGo (n + 1) k x0 (c :: l) b =
    if cn < 128 ∨ numBad k cn b = true then (numVal k cn x0, l, numBad k cn b) else numGo n (k + 1) (numVal k cn x0) l (numBad k cn b) := by
  subst hc
  rfl
theorem num_bad : ∀ (n k x : Nat) (l : List UInt8), (numGo n k x l true).2.2 = true
  | 0, k, x, l => by simp [numGo]
  | n + 1, k, x, l => by
    have hb : ∀ c, numBad k c true = true := fun c => by unfold numBad; split <;> rfl
    have hr : (rdByte l true).2.2 = true := by cases l <;> rfl
    rw [numGo, hr, hb]
    simp

/-- What is read was written. -/
theorem num_back : ∀ (n k x0 : Nat) (l : List UInt8) (x : Nat) (r : List UInt8), n = 10 - k → k ≤ 10 → x0 < 2 ^ (7 * k) → numGo n k x0 l false = (x, r, false) →
    ∃ y, l = varint y ++ r ∧ x = x0 + y * 2 ^ (7 * k) ∧ (0 < k → 0 < y)
  | 0, k, x0, l, x, r, hn, hk, hx, h => by simp [numGo] at h
  | n + 1, k, x0, l, x, r, hn, hk, hx, h => by
    have hpos : 0 < 2 ^ (7 * k) := Nat.two_pow_pos _
    cases l with
    | nil =>
      have hb : numBad k 0 true = true := by unfold numBad; split <;> rfl
      have h' : (if (0 : Nat) < 128 ∨ numBad k 0 true = true then (numVal k 0 x0, ([] : List UInt8), numBad k 0 true) else numGo n (k + 1) (numVal k 0 x0) [] (numBad k 0 true)) = (x, r, false) := h
      rw [hb] at h'
      simp at h'
    | cons c l =>
      have hc := c.toNat_lt
      rw [numGo_cons _ _ _ _ _ _ _ rfl] at h
      have hnb : numBad k c.toNat false = false := by
        cases hh : numBad k c.toNat false with
        | false => rfl
        | true => rw [hh] at h; simp at h
      have hcond : ¬ ((k = 9 ∧ 1 < c.toNat) ∨ (0 < k ∧ c.toNat = 0)) := by
        intro hh; unfold numBad at hnb; rw [if_pos hh] at hnb; cases hnb
      rw [hnb] at h
      have e9 : (2 : Nat) ^ (7 * 9) = 9223372036854775808 := by decide
      have e64 : (2 : Nat) ^ 64 = 18446744073709551616 := by decide
      have hle : k ≤ 8 → 128 * 2 ^ (7 * k) ≤ 9223372036854775808 := fun h8 => by
        rw [← pow7, ← e9]; exact Nat.pow_le_pow_right (by decide) (by omega)
      have hfit : x0 + c.toNat % 128 * 2 ^ (7 * k) < 2 ^ 64 := by
        have h1 : c.toNat % 128 ≤ 127 := by omega
        have h2 := Nat.mul_le_mul_right (2 ^ (7 * k)) h1
        by_cases h8 : k ≤ 8
        · have := hle h8; omega
        · have hk9 : k = 9 := by omega
          subst hk9
          have h3 : c.toNat % 128 ≤ 1 := by omega
          have h4 := Nat.mul_le_mul_right (2 ^ (7 * 9)) h3
          omega
      have hv : numVal k c.toNat x0 = x0 + c.toNat % 128 * 2 ^ (7 * k) := Nat.mod_eq_of_lt hfit
      rw [hv] at h
      by_cases hs : c.toNat < 128
      · rw [if_pos (.inl hs)] at h
        cases h
        refine ⟨c.toNat, ?_, by rw [Nat.mod_eq_of_lt hs], by omega⟩
        rw [varint_small (by omega)]
        simp
      · rw [if_neg (by simp; omega)] at h
        have hs' : x0 + c.toNat % 128 * 2 ^ (7 * k) < 2 ^ (7 * (k + 1)) := by
          have h1 : c.toNat % 128 ≤ 127 := by omega
          have h2 := Nat.mul_le_mul_right (2 ^ (7 * k)) h1
          rw [pow7]; omega
        obtain ⟨y, h1, h2, h3⟩ := num_back n (k + 1) _ l x r (by omega) (by omega) hs' h
        have hy := h3 (by omega)
        refine ⟨c.toNat % 128 + 128 * y, ?_, ?_, by omega⟩
        · rw [varint_big (by omega)]
          have e1 : (c.toNat % 128 + 128 * y) / 128 = y := by omega
          have e2 : (c.toNat % 128 + 128 * y) % 128 + 128 = c.toNat := by omega
          rw [e1, e2, h1]
          simp
        · rw [h2, pow7, Nat.add_mul, Nat.add_assoc]
          congr 2
          rw [Nat.mul_comm 128 y, Nat.mul_assoc]
theorem num_was {l r : List UInt8} {x : Nat} (h : numGo 10 0 0 l false = (x, r, false)) : l = varint x ++ r := by
  obtain ⟨y, h1, h2, _⟩ := num_back 10 0 0 l x r rfl (by omega) (by decide) h
  simp at h2
  rw [h1, h2]

/-! ### Signs -/
theorem fold_eq (n : Int) (h : -9223372036854775808 ≤ n ∧ n < 9223372036854775808) : fold64 n = if n < 0 then (-2 * n - 1).toNat else (2 * n).toNat := by
  unfold fold64
  have u64i : ∀ m : Int, IntKind.u64.wrap m = m % 18446744073709551616 := fun m => by simp [IntKind.wrap, IntKind.bits, IntKind.signed]
  have ofE : ∀ m : Int, BitVec.ofInt 64 (IntKind.u64.wrap m) = BitVec.ofInt 64 m := fun m => by
    apply BitVec.eq_of_toNat_eq
    rw [u64i, BitVec.toNat_ofInt, BitVec.toNat_ofInt]
    congr 1
    omega
  have i64E : ∀ m : Int, BitVec.ofInt 64 (IntKind.i64.wrap m) = BitVec.ofInt 64 m := fun m => by
    apply BitVec.eq_of_toNat_eq
    rw [BitVec.toNat_ofInt, BitVec.toNat_ofInt]
    congr 1
    simp only [IntKind.wrap, IntKind.bits, IntKind.signed]
    simp
    omega
  rw [ofE, i64E, ofE]
  split
  · rename_i hneg
    have : n.fdiv 9223372036854775808 = -1 := by
      rw [Int.fdiv_eq_ediv_of_nonneg _ (by decide)]; omega
    rw [this]
    have : BitVec.ofInt 64 (-1) = BitVec.allOnes 64 := by decide
    rw [this, BitVec.xor_allOnes, BitVec.toNat_not, BitVec.toNat_ofInt]
    omega
  · rename_i hpos
    have : n.fdiv 9223372036854775808 = 0 := by
      rw [Int.fdiv_eq_ediv_of_nonneg _ (by decide)]; omega
    rw [this]
    have : BitVec.ofInt 64 0 = 0#64 := by decide
    rw [this, BitVec.xor_zero, BitVec.toNat_ofInt]
    omega
theorem fold_unfold (x : Nat) (h : x < 2 ^ 64) : fold64 (unfold64 x) = x := by
  have hr : -9223372036854775808 ≤ unfold64 x ∧ unfold64 x < 9223372036854775808 := by unfold unfold64; split <;> omega
  rw [fold_eq _ hr]
  unfold unfold64
  split <;> split <;> omega
end Go.Proofs.Ytffpepmfdjjjaaa


/- Plain laws: a tree comes back from its bytes; bytes that are read are their tree's. -/
namespace Go.Proofs.Ytffpepmfdjjjaaa
open Go.Pure

mutual
/-- Tags of one byte, numbers of 64 bits. -/
def Tr.fine : Tr → Prop
  | .mk tag n _ kids => (0 ≤ tag ∧ tag ≤ 255) ∧ (-9223372036854775808 ≤ n ∧ n < 9223372036854775808) ∧ Tr.fines kids
def Tr.fines : List Tr → Prop
  | [] => True
  | t :: r => t.fine ∧ Tr.fines r
end

theorem varint_pos (x : Nat) : 1 ≤ (varint x).length := by
  by_cases h : 128 ≤ x
  · rw [varint_big h]; simp
  · rw [varint_small h]; simp
theorem enc_pos : ∀ t : Tr, 4 ≤ (enc t).length
  | .mk tag n text kids => by
    have h1 := varint_pos (fold64 n)
    have h2 := varint_pos text.size
    have h3 := varint_pos kids.length
    simp only [enc, List.length_cons, List.length_append]
    omega
theorem encs_pos : ∀ l : List Tr, 4 * l.length ≤ (encs l).length
  | [] => by simp
  | t :: r => by
    have h1 := enc_pos t
    have h2 := encs_pos r
    simp only [encs, List.length_append, List.length_cons]
    omega

theorem cnt_bad (least : Nat) (l : List UInt8) : (cntGo least l true).2.2 = true := by
  unfold cntGo
  dsimp only
  rw [if_pos (.inl (num_bad _ _ _ _))]
theorem cnt_was {least m : Nat} {l r : List UInt8} {b : Bool} (h : cntGo least l b = (m, r, false)) : b = false ∧ l = varint m ++ r := by
  cases b with
  | true => have := cnt_bad least l; rw [h] at this; cases this
  | false =>
    refine ⟨rfl, ?_⟩
    unfold cntGo at h
    dsimp only at h
    split at h
    · cases h
    · rename_i hh
      have hb : (numGo 10 0 0 l false).2.2 = false := by
        cases hx : (numGo 10 0 0 l false).2.2 with
        | false => rfl
        | true => exact absurd (.inl hx) hh
      apply num_was
      have e : numGo 10 0 0 l false = ((numGo 10 0 0 l false).1, (numGo 10 0 0 l false).2.1, (numGo 10 0 0 l false).2.2) := rfl
      rw [e, hb]
      exact h

theorem tree_bad : ∀ (f : Nat) (l : List UInt8), (treeGo f l true).2.2 = true
  | 0, l => by simp [treeGo]
  | f + 1, l => by simp [treeGo]
theorem kids_bad {g : List UInt8 → Bool → Tr × List UInt8 × Bool} (hg : ∀ l, (g l true).2.2 = true) : ∀ (n : Nat) (l : List UInt8), (kidsGo g n l true).2.2 = true
  | 0, l => by simp [kidsGo]
  | n + 1, l => by
    simp only [kidsGo]
    rw [hg]
    exact kids_bad hg n _

theorem kids_was {f : Nat} (ht : ∀ (l : List UInt8) (b : Bool) (t : Tr) (r : List UInt8), treeGo f l b = (t, r, false) → b = false ∧ l = enc t ++ r ∧ t.fine) :
    ∀ (n : Nat) (l : List UInt8) (b : Bool) (k : List Tr) (r : List UInt8), kidsGo (treeGo f) n l b = (k, r, false) → b = false ∧ l = encs k ++ r ∧ Tr.fines k
  | 0, l, b, k, r, h => by
    simp only [kidsGo] at h
    cases h
    simp [encs, Tr.fines]
  | n + 1, l, b, k, r, h => by
    simp only [kidsGo] at h
    have e : treeGo f l b = ((treeGo f l b).1, (treeGo f l b).2.1, (treeGo f l b).2.2) := rfl
    have hk := congrArg (fun x => x.2) h
    have hk1 := congrArg (fun x => x.1) h
    dsimp only at hk hk1
    have e2 : kidsGo (treeGo f) n (treeGo f l b).2.1 (treeGo f l b).2.2 = ((kidsGo (treeGo f) n (treeGo f l b).2.1 (treeGo f l b).2.2).1, r, false) := by rw [← hk]
    obtain ⟨h1, h2, h3⟩ := kids_was ht n _ _ _ _ e2
    rw [h1] at e
    obtain ⟨g1, g2, g3⟩ := ht l b _ _ e
    refine ⟨g1, ?_, ?_⟩
    · rw [← hk1]
      simp only [encs]
      rw [List.append_assoc, ← h2]
      exact g2
    · rw [← hk1]
      simp only [Tr.fines]
      exact ⟨g3, h3⟩
theorem tree_was : ∀ (f : Nat) (l : List UInt8) (b : Bool) (t : Tr) (r : List UInt8), treeGo f l b = (t, r, false) → b = false ∧ l = enc t ++ r ∧ t.fine
  | 0, l, b, t, r, h => by simp [treeGo] at h
  | f + 1, l, b, t, r, h => by
    cases b with
    | true => have := tree_bad (f + 1) l; rw [h] at this; cases this
    | false =>
      rw [treeGo, if_neg (by decide)] at h
      dsimp only at h
      cases l with
      | nil =>
        have n1 := num_bad 10 0 0 []
        have : (rdByte [] false) = (0, [], true) := rfl
        rw [this] at h
        dsimp only at h
        generalize numGo 10 0 0 [] true = r1 at h n1
        obtain ⟨x, l1, b1⟩ := r1
        dsimp only at n1 h
        subst n1
        have n2 := cnt_bad 1 l1
        generalize cntGo 1 l1 true = r2 at h n2
        obtain ⟨y, l2, b2⟩ := r2
        dsimp only at n2 h
        subst n2
        have n3 := cnt_bad 4 (l2.drop y)
        generalize cntGo 4 (l2.drop y) true = r3 at h n3
        obtain ⟨z, l3, b3⟩ := r3
        dsimp only at n3 h
        subst n3
        have n4 := kids_bad (tree_bad f) z l3
        have := congrArg (fun x => x.2.2) h
        dsimp only at this
        rw [n4] at this
        cases this
      | cons c l =>
        have : (rdByte (c :: l) false) = (c.toNat, l, false) := rfl
        rw [this] at h
        dsimp only at h
        have hx := numGo_lt 10 0 0 l false
        cases hr1 : numGo 10 0 0 l false with
        | mk x p1 =>
        obtain ⟨l1, b1⟩ := p1
        rw [hr1] at h hx
        dsimp only at h hx
        cases hr2 : cntGo 1 l1 b1 with
        | mk y p2 =>
        obtain ⟨l2, b2⟩ := p2
        have hy := (cntGo_le 1 (by decide) l1 b1).1
        rw [hr2] at h hy
        dsimp only at h hy
        cases hr3 : cntGo 4 (l2.drop y) b2 with
        | mk z p3 =>
        obtain ⟨l3, b3⟩ := p3
        rw [hr3] at h
        dsimp only at h
        have hk := congrArg (fun x => x.2) h
        have ht := congrArg (fun x => x.1) h
        dsimp only at hk ht
        have hc := kids_count (treeGo f) z l3 b3
        have e2 : kidsGo (treeGo f) z l3 b3 = ((kidsGo (treeGo f) z l3 b3).1, r, false) := by rw [← hk]
        obtain ⟨k1, k2, k3⟩ := kids_was (tree_was f) z l3 b3 _ _ e2
        subst k1
        obtain ⟨q1, q2⟩ := cnt_was hr3
        subst q1
        obtain ⟨s1, s2⟩ := cnt_was hr2
        subst s1
        have s3 := num_was hr1
        refine ⟨rfl, ?_, ?_⟩
        · rw [← ht]
          simp only [enc]
          rw [hc, fold_unfold x hx]
          have e3 : (⟨(l2.take y).toArray⟩ : ByteArray).size = y := by
            show (l2.take y).toArray.size = y
            simp; omega
          have e4 : byteI (c.toNat : Int) = c := by
            have := c.toNat_lt
            simp [byteI]
            have : ((c.toNat : Int) % 256).toNat = c.toNat := by omega
            rw [this]; simp
          rw [e3, e4, s3, s2, List.cons_append]
          simp only [List.append_assoc]
          rw [← k2, ← q2]
          simp
        · rw [← ht]
          simp only [Tr.fine]
          refine ⟨?_, ?_, k3⟩
          · have := c.toNat_lt; omega
          · unfold unfold64; split <;> omega
end Go.Proofs.Ytffpepmfdjjjaaa


namespace Go.Proofs.Ytffpepmfdjjjaaa
open Go.Pure
attribute [local irreducible] PW POps POpsD PO PC Cond

/-- A tree of bytes whose sum is apart. -/
def parseB (body : List UInt8) (s : BitVec 32) : Tr × Int :=
  if sumB body ≠ s then (noTree, 8)
  else if (treeGo 40 body false).2.2 = true ∨ 0 < (treeGo 40 body false).2.1.length ∨ wrongT (treeGo 40 body false).1 ≠ 0 then (noTree, 2)
  else ((treeGo 40 body false).1, 0)

set_option maxRecDepth 100000 in
set_option maxHeartbeats 4000000 in
theorem parse_long (l : List UInt8) (h : 100000 < l.length) (hm : l.length ≤ 1000000000) : PC Try.prog 24 [.g (.sl (bys l))] ⟨[], [], []⟩ (.tuple [.g noTree.g, .g (.int .i64 4)]) ⟨[], [], []⟩ := by
  refine PC_of_PW Try.func24 rfl rfl (rs := _) rfl (Nat.le_of_ble_eq_true (by kernel_rfl)) ?_
  (repeat (first | ((first | refine qA ?_ | refine qB ?_ | refine xN ?_ | refine xE ?_ | refine xT ?_); try show PW _ _ _ _ _ _) | refine ro1 tabOk rfl rfl ?_ | refine ro2 tabOk rfl rfl ?_ | refine ro3 tabOk rfl rfl ?_ | refine rd1 tabOk rfl rfl ?_ | refine rd2 tabOk rfl rfl ?_ | refine rd3 tabOk rfl rfl ?_ | ((first | apply oR rfl rfl | (apply dF rfl rfl rfl; intro _) | (apply dP rfl rfl rfl; intro _) | (apply dL rfl rfl rfl; intro _) | apply dC rfl rfl rfl rfl); (focus (first | exact cJ | exact mG | exact bT | exact nD)); try exact kQ) | refine xS ?_ | refine xR ?_ | refine qxa rfl rfl mixed ?_ | refine qxb rfl rfl mixed ?_ | refine qxc rfl rfl mixed ?_ | refine qxd rfl rfl mixed ?_ | refine xB ?_ | refine xt rfl ?_ | refine xf rfl ?_))
  (first | refine POps_split rfl rfl (fun h => ?_) (fun h => ?_) | refine POpsD_split rfl rfl (fun h => ?_) (fun h => ?_) | refine PW_cond rfl (fun h => ?_) (fun h => ?_))
  · (repeat (first | ((first | refine qA ?_ | refine qB ?_ | refine xN ?_ | refine xE ?_ | refine xT ?_); try show PW _ _ _ _ _ _) | refine ro1 tabOk rfl rfl ?_ | refine ro2 tabOk rfl rfl ?_ | refine ro3 tabOk rfl rfl ?_ | refine rd1 tabOk rfl rfl ?_ | refine rd2 tabOk rfl rfl ?_ | refine rd3 tabOk rfl rfl ?_ | ((first | apply oR rfl rfl | (apply dF rfl rfl rfl; intro _) | (apply dP rfl rfl rfl; intro _) | (apply dL rfl rfl rfl; intro _) | apply dC rfl rfl rfl rfl); (focus (first | exact cJ | exact mG | exact bT | exact nD)); try exact kQ) | refine xS ?_ | refine xR ?_ | refine qxa rfl rfl mixed ?_ | refine qxb rfl rfl mixed ?_ | refine qxc rfl rfl mixed ?_ | refine qxd rfl rfl mixed ?_ | refine xB ?_ | refine xt rfl ?_ | refine xf rfl ?_))
    exact Ret_two (resVs_cons (resV_agg (AG rfl) (SZ rfl) rfl rfl (Nat.le_of_ble_eq_true rfl)) (resVs_cons resV_tmp resVs_nil)) rfl rfl rfl
  · have := of_decide_eq_false h
    rw [bys_len] at this
    omega
set_option maxRecDepth 100000 in
set_option maxHeartbeats 4000000 in
theorem parse_short (l : List UInt8) (h : l.length < 4) : PC Try.prog 24 [.g (.sl (bys l))] ⟨[], [], []⟩ (.tuple [.g noTree.g, .g (.int .i64 2)]) ⟨[], [], []⟩ := by
  have hw : IntKind.i64.wrap (((bys l).length : Int) - 4) = (l.length : Int) - 4 := by rw [bys_len]; exact wrap64 (by omega)
  refine PC_of_PW Try.func24 rfl rfl (rs := _) rfl (Nat.le_of_ble_eq_true (by kernel_rfl)) ?_
  (repeat (first | ((first | refine qA ?_ | refine qB ?_ | refine xN ?_ | refine xE ?_ | refine xT ?_); try show PW _ _ _ _ _ _) | refine ro1 tabOk rfl rfl ?_ | refine ro2 tabOk rfl rfl ?_ | refine ro3 tabOk rfl rfl ?_ | refine rd1 tabOk rfl rfl ?_ | refine rd2 tabOk rfl rfl ?_ | refine rd3 tabOk rfl rfl ?_ | ((first | apply oR rfl rfl | (apply dF rfl rfl rfl; intro _) | (apply dP rfl rfl rfl; intro _) | (apply dL rfl rfl rfl; intro _) | apply dC rfl rfl rfl rfl); (focus (first | exact cJ | exact mG | exact bT | exact nD)); try exact kQ) | refine xS ?_ | refine xR ?_ | refine qxa rfl rfl mixed ?_ | refine qxb rfl rfl mixed ?_ | refine qxc rfl rfl mixed ?_ | refine qxd rfl rfl mixed ?_ | refine xB ?_ | refine xt rfl ?_ | refine xf rfl ?_))
  (first | refine POps_split rfl rfl (fun h => ?_) (fun h => ?_) | refine POpsD_split rfl rfl (fun h => ?_) (fun h => ?_) | refine PW_cond rfl (fun h => ?_) (fun h => ?_))
  · have := of_decide_eq_true h
    rw [bys_len] at this
    omega
  · (repeat (first | ((first | refine qA ?_ | refine qB ?_ | refine xN ?_ | refine xE ?_ | refine xT ?_); try show PW _ _ _ _ _ _) | refine ro1 tabOk rfl rfl ?_ | refine ro2 tabOk rfl rfl ?_ | refine ro3 tabOk rfl rfl ?_ | refine rd1 tabOk rfl rfl ?_ | refine rd2 tabOk rfl rfl ?_ | refine rd3 tabOk rfl rfl ?_ | ((first | apply oR rfl rfl | (apply dF rfl rfl rfl; intro _) | (apply dP rfl rfl rfl; intro _) | (apply dL rfl rfl rfl; intro _) | apply dC rfl rfl rfl rfl); (focus (first | exact cJ | exact mG | exact bT | exact nD)); try exact kQ) | refine xS ?_ | refine xR ?_ | refine qxa rfl rfl mixed ?_ | refine qxb rfl rfl mixed ?_ | refine qxc rfl rfl mixed ?_ | refine qxd rfl rfl mixed ?_ | refine xB ?_ | refine xt rfl ?_ | refine xf rfl ?_))
    (first | refine POps_split rfl rfl (fun h => ?_) (fun h => ?_) | refine POpsD_split rfl rfl (fun h => ?_) (fun h => ?_) | refine PW_cond rfl (fun h => ?_) (fun h => ?_))
    · (repeat (first | ((first | refine qA ?_ | refine qB ?_ | refine xN ?_ | refine xE ?_ | refine xT ?_); try show PW _ _ _ _ _ _) | refine ro1 tabOk rfl rfl ?_ | refine ro2 tabOk rfl rfl ?_ | refine ro3 tabOk rfl rfl ?_ | refine rd1 tabOk rfl rfl ?_ | refine rd2 tabOk rfl rfl ?_ | refine rd3 tabOk rfl rfl ?_ | ((first | apply oR rfl rfl | (apply dF rfl rfl rfl; intro _) | (apply dP rfl rfl rfl; intro _) | (apply dL rfl rfl rfl; intro _) | apply dC rfl rfl rfl rfl); (focus (first | exact cJ | exact mG | exact bT | exact nD)); try exact kQ) | refine xS ?_ | refine xR ?_ | refine qxa rfl rfl mixed ?_ | refine qxb rfl rfl mixed ?_ | refine qxc rfl rfl mixed ?_ | refine qxd rfl rfl mixed ?_ | refine xB ?_ | refine xt rfl ?_ | refine xf rfl ?_))
      exact Ret_two (resVs_cons (resV_agg (AG rfl) (SZ rfl) rfl rfl (Nat.le_of_ble_eq_true rfl)) (resVs_cons resV_tmp resVs_nil)) rfl rfl rfl
    · have := of_decide_eq_false h
      rw [hw] at this
      omega
set_option maxRecDepth 100000 in
set_option maxHeartbeats 4000000 in
theorem parse_pc (body : List UInt8) (a b c d : UInt8) (hl : body.length + 4 ≤ 100000) :
    PC Try.prog 24 [.g (.sl (bys (body ++ [a, b, c, d])))] ⟨[], [], []⟩ (.tuple [.g (parseB body (le32 a b c d)).1.g, .g (.int .i64 (parseB body (le32 a b c d)).2)]) ⟨[], [], []⟩ := by
  generalize hll : body ++ [a, b, c, d] = l
  have hlen : l.length = body.length + 4 := by rw [← hll]; simp
  have hw : IntKind.i64.wrap (((bys l).length : Int) - 4) = (body.length : Int) := by rw [bys_len, hlen]; rw [wrap64 (by omega)]; omega
  have ga : (bys l)[(IntKind.i64.wrap (((bys l).length : Int) - 4)).toNat]? = some (byteG a) := by rw [hw, ← hll]; simp [bys]
  have gb : (bys l)[(IntKind.i64.wrap (IntKind.i64.wrap (((bys l).length : Int) - 4) + 1)).toNat]? = some (byteG b) := by rw [hw, wrap64 (by omega), ← hll, show ((body.length : Int) + 1).toNat = body.length + 1 by omega]; simp [bys]
  have gc : (bys l)[(IntKind.i64.wrap (IntKind.i64.wrap (((bys l).length : Int) - 4) + 2)).toNat]? = some (byteG c) := by rw [hw, wrap64 (by omega), ← hll, show ((body.length : Int) + 2).toNat = body.length + 2 by omega]; simp [bys]
  have gd : (bys l)[(IntKind.i64.wrap (IntKind.i64.wrap (((bys l).length : Int) - 4) + 3)).toNat]? = some (byteG d) := by rw [hw, wrap64 (by omega), ← hll, show ((body.length : Int) + 3).toNat = body.length + 3 by omega]; simp [bys]
  have pa : 0 ≤ IntKind.i64.wrap (((bys l).length : Int) - 4) := by rw [hw]; omega
  have pb : 0 ≤ IntKind.i64.wrap (IntKind.i64.wrap (((bys l).length : Int) - 4) + 1) := by rw [hw, wrap64 (by omega)]; omega
  have pc : 0 ≤ IntKind.i64.wrap (IntKind.i64.wrap (((bys l).length : Int) - 4) + 2) := by rw [hw, wrap64 (by omega)]; omega
  have pd : 0 ≤ IntKind.i64.wrap (IntKind.i64.wrap (((bys l).length : Int) - 4) + 3) := by rw [hw, wrap64 (by omega)]; omega
  have hsum := sum_pc body (by omega)
  have htake : (l.drop 0).take (body.length - 0) = body := by rw [← hll]; simp
  have ht := tree_pc 40 body false (by omega) (by omega)
  have hok := tree_ok 40 body false (by omega)
  have hwr := wrong_pc _ hok
  have hle := le32_eq a b c d
  unfold parseB
  generalize treeGo 40 body false = r at ht hok hwr
  obtain ⟨⟨ta, tb, tc, td⟩, rl, rb⟩ := r
  dsimp only at ht hok hwr
  refine PC_of_PW Try.func24 rfl rfl (rs := _) rfl (Nat.le_of_ble_eq_true (by kernel_rfl)) ?_
  (repeat (first | ((first | refine qA ?_ | refine qB ?_ | refine xN ?_ | refine xE ?_ | refine xT ?_); try show PW _ _ _ _ _ _) | refine ro1 tabOk rfl rfl ?_ | refine ro2 tabOk rfl rfl ?_ | refine ro3 tabOk rfl rfl ?_ | refine rd1 tabOk rfl rfl ?_ | refine rd2 tabOk rfl rfl ?_ | refine rd3 tabOk rfl rfl ?_ | ((first | apply oR rfl rfl | (apply dF rfl rfl rfl; intro _) | (apply dP rfl rfl rfl; intro _) | (apply dL rfl rfl rfl; intro _) | apply dC rfl rfl rfl rfl); (focus (first | exact cJ | exact mG | exact bT | exact nD)); try exact kQ) | refine xS ?_ | refine xR ?_ | refine qxa rfl rfl mixed ?_ | refine qxb rfl rfl mixed ?_ | refine qxc rfl rfl mixed ?_ | refine qxd rfl rfl mixed ?_ | refine xB ?_ | refine xt rfl ?_ | refine xf rfl ?_))
  (first | refine POps_split rfl rfl (fun h => ?_) (fun h => ?_) | refine POpsD_split rfl rfl (fun h => ?_) (fun h => ?_) | refine PW_cond rfl (fun h => ?_) (fun h => ?_))
  · have := of_decide_eq_true h
    rw [bys_len] at this
    omega
  (repeat (first | ((first | refine qA ?_ | refine qB ?_ | refine xN ?_ | refine xE ?_ | refine xT ?_); try show PW _ _ _ _ _ _) | refine ro1 tabOk rfl rfl ?_ | refine ro2 tabOk rfl rfl ?_ | refine ro3 tabOk rfl rfl ?_ | refine rd1 tabOk rfl rfl ?_ | refine rd2 tabOk rfl rfl ?_ | refine rd3 tabOk rfl rfl ?_ | ((first | apply oR rfl rfl | (apply dF rfl rfl rfl; intro _) | (apply dP rfl rfl rfl; intro _) | (apply dL rfl rfl rfl; intro _) | apply dC rfl rfl rfl rfl); (focus (first | exact cJ | exact mG | exact bT | exact nD)); try exact kQ) | refine xS ?_ | refine xR ?_ | refine qxa rfl rfl mixed ?_ | refine qxb rfl rfl mixed ?_ | refine qxc rfl rfl mixed ?_ | refine qxd rfl rfl mixed ?_ | refine xB ?_ | refine xt rfl ?_ | refine xf rfl ?_))
  (first | refine POps_split rfl rfl (fun h => ?_) (fun h => ?_) | refine POpsD_split rfl rfl (fun h => ?_) (fun h => ?_) | refine PW_cond rfl (fun h => ?_) (fun h => ?_))
  · have := of_decide_eq_true h
    rw [hw] at this
    omega
  (repeat (first | ((first | refine qA ?_ | refine qB ?_ | refine xN ?_ | refine xE ?_ | refine xT ?_); try show PW _ _ _ _ _ _) | refine ro1 tabOk rfl rfl ?_ | refine ro2 tabOk rfl rfl ?_ | refine ro3 tabOk rfl rfl ?_ | refine rd1 tabOk rfl rfl ?_ | refine rd2 tabOk rfl rfl ?_ | refine rd3 tabOk rfl rfl ?_ | ((first | apply oR rfl rfl | (apply dF rfl rfl rfl; intro _) | (apply dP rfl rfl rfl; intro _) | (apply dL rfl rfl rfl; intro _) | apply dC rfl rfl rfl rfl); (focus (first | exact PO_slice_bys body 0 body.length rfl (EL rfl) (SZ rfl) rfl rfl rfl rfl hw (Nat.zero_le _) (by omega) htake | exact cqP hsum | exact iA rfl (EL rfl) (SZ rfl) rfl rfl pa ga rfl | exact iA rfl (EL rfl) (SZ rfl) rfl rfl pb gb rfl | exact iA rfl (EL rfl) (SZ rfl) rfl rfl pc gc rfl | exact iA rfl (EL rfl) (SZ rfl) rfl rfl pd gd rfl | exact PO_shl rfl rfl rfl (by decide) | exact cJ | exact mG | exact bT | exact nD)); try exact kQ) | refine xS ?_ | refine xR ?_ | refine qxa rfl rfl mixed ?_ | refine qxb rfl rfl mixed ?_ | refine qxc rfl rfl mixed ?_ | refine qxd rfl rfl mixed ?_ | refine xB ?_ | refine xt rfl ?_ | refine xf rfl ?_))
  (first | refine POps_split rfl rfl (fun h => ?_) (fun h => ?_) | refine POpsD_split rfl rfl (fun h => ?_) (fun h => ?_) | refine PW_cond rfl (fun h => ?_) (fun h => ?_))
  · have hne : sumB body ≠ le32 a b c d := by
      intro e
      have h2 : (((sumB body).toNat : Int) != orI (orI (orI (IntKind.u32.wrap (a.toNat : Int)) (shK 8 b)) (shK 16 c)) (shK 24 d)) = true := h
      rw [hle, e] at h2
      simp at h2
    rw [if_pos hne]
    (repeat (first | ((first | refine qA ?_ | refine qB ?_ | refine xN ?_ | refine xE ?_ | refine xT ?_); try show PW _ _ _ _ _ _) | refine ro1 tabOk rfl rfl ?_ | refine ro2 tabOk rfl rfl ?_ | refine ro3 tabOk rfl rfl ?_ | refine rd1 tabOk rfl rfl ?_ | refine rd2 tabOk rfl rfl ?_ | refine rd3 tabOk rfl rfl ?_ | ((first | apply oR rfl rfl | (apply dF rfl rfl rfl; intro _) | (apply dP rfl rfl rfl; intro _) | (apply dL rfl rfl rfl; intro _) | apply dC rfl rfl rfl rfl); (focus (first | exact cJ | exact mG | exact bT | exact nD)); try exact kQ) | refine xS ?_ | refine xR ?_ | refine qxa rfl rfl mixed ?_ | refine qxb rfl rfl mixed ?_ | refine qxc rfl rfl mixed ?_ | refine qxd rfl rfl mixed ?_ | refine xB ?_ | refine xt rfl ?_ | refine xf rfl ?_))
    exact Ret_two (resVs_cons (resV_agg (AG rfl) (SZ rfl) rfl rfl (Nat.le_of_ble_eq_true rfl)) (resVs_cons resV_tmp resVs_nil)) rfl rfl rfl
  · have hne : sumB body = le32 a b c d := by
      have h2 : (((sumB body).toNat : Int) != orI (orI (orI (IntKind.u32.wrap (a.toNat : Int)) (shK 8 b)) (shK 16 c)) (shK 24 d)) = false := h
      rw [hle] at h2
      apply BitVec.eq_of_toNat_eq
      simp at h2
      omega
    rw [if_neg (fun hn => hn hne)]
    (repeat' (first | (first | ((first | refine qA ?_ | refine qB ?_ | refine xN ?_ | refine xE ?_ | refine xT ?_); try show PW _ _ _ _ _ _) | refine ro1 tabOk rfl rfl ?_ | refine ro2 tabOk rfl rfl ?_ | refine ro3 tabOk rfl rfl ?_ | refine rd1 tabOk rfl rfl ?_ | refine rd2 tabOk rfl rfl ?_ | refine rd3 tabOk rfl rfl ?_ | ((first | apply oR rfl rfl | (apply dF rfl rfl rfl; intro _) | (apply dP rfl rfl rfl; intro _) | (apply dL rfl rfl rfl; intro _) | apply dC rfl rfl rfl rfl); (focus (first | exact PO_slice_bys body 0 body.length rfl (EL rfl) (SZ rfl) rfl rfl rfl rfl hw (Nat.zero_le _) (by omega) htake | exact cb [] rfl rfl (EN rfl) (ht) rfl rfl rfl rfl rfl rfl rfl rfl rfl rfl rfl | exact cqP hwr | exact cJ | exact mG | exact bT | exact nD)); try exact kQ) | refine xS ?_ | refine xR ?_ | refine qxa rfl rfl mixed ?_ | refine qxb rfl rfl mixed ?_ | refine qxc rfl rfl mixed ?_ | refine qxd rfl rfl mixed ?_ | refine xB ?_ | refine xt rfl ?_ | refine xf rfl ?_) | (refine POps_split rfl rfl (fun h => ?_) (fun h => ?_) <;> fail_if_success (first | (have : true = true := h) | (have : false = false := h))) | (refine POpsD_split rfl rfl (fun h => ?_) (fun h => ?_) <;> fail_if_success (first | (have : true = true := h) | (have : false = false := h))) | refine PW_cond rfl (fun h => ?_) (fun h => ?_)))
    · rw [if_pos (.inl h)]
      exact Ret_two (resVs_cons (resV_agg (AG rfl) (SZ rfl) rfl rfl (Nat.le_of_ble_eq_true rfl)) (resVs_cons resV_tmp resVs_nil)) rfl rfl rfl
    · have := of_decide_eq_true h
      rw [bys_len] at this
      rw [if_pos (.inr (.inl (by dsimp only; omega)))]
      exact Ret_two (resVs_cons (resV_agg (AG rfl) (SZ rfl) rfl rfl (Nat.le_of_ble_eq_true rfl)) (resVs_cons resV_tmp resVs_nil)) rfl rfl rfl
    · have hwn : wrongT (Tr.mk ta tb tc td) ≠ 0 := by simpa [bne] using h
      rw [if_pos (.inr (.inr hwn))]
      exact Ret_two (resVs_cons (resV_agg (AG rfl) (SZ rfl) rfl rfl (Nat.le_of_ble_eq_true rfl)) (resVs_cons resV_tmp resVs_nil)) rfl rfl rfl
    · have hwn : wrongT (Tr.mk ta tb tc td) = 0 := by simpa [bne] using h
      rename_i h1 h2
      have := of_decide_eq_false h2
      rw [bys_len] at this
      rw [if_neg (by rintro (hh | hh | hh); (· exact Bool.noConfusion (hh.symm.trans h1)); (· dsimp only at hh; omega); (· exact hh hwn))]
      exact Ret_two (resVs_cons (resV_agg (AG rfl) (SZ rfl) rfl rfl (Nat.le_of_ble_eq_true rfl)) (resVs_cons resV_tmp resVs_nil)) rfl rfl rfl
end Go.Proofs.Ytffpepmfdjjjaaa


/- Plain laws: what is written is read, in one way alone. -/
namespace Go.Proofs.Ytffpepmfdjjjaaa
open Go.Pure

mutual
/-- Numbers of 64 bits. -/
def Tr.wf : Tr → Prop
  | .mk tag n _ kids => (-9223372036854775808 ≤ tag ∧ tag < 9223372036854775808) ∧ (-9223372036854775808 ≤ n ∧ n < 9223372036854775808) ∧ Tr.wfs kids
def Tr.wfs : List Tr → Prop
  | [] => True
  | t :: r => t.wf ∧ Tr.wfs r
end
theorem four_back (x : BitVec 32) : ∃ a b c d, four x = [a, b, c, d] ∧ le32 a b c d = x := by
  refine ⟨_, _, _, _, rfl, ?_⟩
  have := x.isLt
  apply BitVec.eq_of_toNat_eq
  unfold le32
  simp
  omega
theorem four_le32 (a b c d : UInt8) : four (le32 a b c d) = [a, b, c, d] := by
  have ha := a.toNat_lt; have hb := b.toNat_lt; have hc := c.toNat_lt; have hd := d.toNat_lt
  have e : (le32 a b c d).toNat = a.toNat + 256 * b.toNat + 65536 * c.toNat + 16777216 * d.toNat := by
    unfold le32; simp; omega
  unfold four
  rw [e]
  have e1 : (a.toNat + 256 * b.toNat + 65536 * c.toNat + 16777216 * d.toNat) % 256 = a.toNat := by omega
  have e2 : (a.toNat + 256 * b.toNat + 65536 * c.toNat + 16777216 * d.toNat) / 256 % 256 = b.toNat := by omega
  have e3 : (a.toNat + 256 * b.toNat + 65536 * c.toNat + 16777216 * d.toNat) / 65536 % 256 = c.toNat := by omega
  have e4 : (a.toNat + 256 * b.toNat + 65536 * c.toNat + 16777216 * d.toNat) / 16777216 % 256 = d.toNat := by omega
  rw [e1, e2, e3, e4]
  simp

/-- Any bytes' tree, and what is wrong. -/
def parseT (l : List UInt8) : Tr × Int :=
  if 100000 < l.length then (noTree, 4) else
  match l.drop (l.length - 4), l.length with
  | [a, b, c, d], _ => parseB (l.take (l.length - 4)) (le32 a b c d)
  | _, _ => (noTree, 2)
theorem parseT_four (body : List UInt8) (a b c d : UInt8) (h : body.length + 4 ≤ 100000) : parseT (body ++ [a, b, c, d]) = parseB body (le32 a b c d) := by
  unfold parseT
  have hl : (body ++ [a, b, c, d]).length = body.length + 4 := by simp
  rw [if_neg (by omega)]
  have e1 : (body ++ [a, b, c, d]).length - 4 = body.length := by omega
  rw [e1, List.drop_left, List.take_left]
theorem last_four (l : List UInt8) (h : 4 ≤ l.length) : ∃ body a b c d, l = body ++ [a, b, c, d] := by
  have h1 : (l.drop (l.length - 4)).length = 4 := by simp; omega
  match hd : l.drop (l.length - 4), h1 with
  | [a, b, c, d], _ => exact ⟨l.take (l.length - 4), a, b, c, d, by rw [← hd, List.take_append_drop]⟩
theorem parse_all (l : List UInt8) (hm : l.length ≤ 1000000000) : PC Try.prog 24 [.g (.sl (bys l))] ⟨[], [], []⟩ (.tuple [.g (parseT l).1.g, .g (.int .i64 (parseT l).2)]) ⟨[], [], []⟩ := by
  by_cases h1 : 100000 < l.length
  · have : parseT l = (noTree, 4) := by unfold parseT; rw [if_pos h1]
    rw [this]
    exact parse_long l h1 hm
  · by_cases h2 : l.length < 4
    · have : parseT l = (noTree, 2) := by
        unfold parseT
        rw [if_neg h1]
        have : (l.drop (l.length - 4)).length ≠ 4 := by simp; omega
        split
        · rename_i hd; rw [hd] at this; simp at this
        · rfl
      rw [this]
      exact parse_short l h2
    · obtain ⟨body, a, b, c, d, rfl⟩ := last_four l (by omega)
      have hl : (body ++ [a, b, c, d]).length = body.length + 4 := by simp
      rw [parseT_four _ _ _ _ _ (by omega)]
      exact parse_pc body a b c d (by omega)

/-- What is read was written. -/
theorem parse_bytes {u : Tr} {l : List UInt8} (h : parseT l = (u, 0)) : bytesT u = (l, 0) ∧ u.fine ∧ l.length ≤ 100000 := by
  by_cases h1 : 100000 < l.length
  · have : parseT l = (noTree, 4) := by unfold parseT; rw [if_pos h1]
    rw [this] at h; simp at h
  · by_cases h2 : l.length < 4
    · have : parseT l = (noTree, 2) := by
        unfold parseT
        rw [if_neg h1]
        have : (l.drop (l.length - 4)).length ≠ 4 := by simp; omega
        split
        · rename_i hd; rw [hd] at this; simp at this
        · rfl
      rw [this] at h; simp at h
    · obtain ⟨body, a, b, c, d, rfl⟩ := last_four l (by omega)
      have hl : (body ++ [a, b, c, d]).length = body.length + 4 := by simp
      rw [parseT_four _ _ _ _ _ (by omega)] at h
      unfold parseB at h
      split at h
      · simp at h
      · rename_i hs
        split at h
        · simp at h
        · rename_i hh
          have hb : (treeGo 40 body false).2.2 = false := by
            cases hx : (treeGo 40 body false).2.2 with
            | false => rfl
            | true => exact absurd (.inl hx) hh
          have hn : (treeGo 40 body false).2.1 = [] := by
            apply List.eq_nil_of_length_eq_zero
            omega
          have hu : (treeGo 40 body false).1 = u := congrArg (fun x => x.1) h
          have e : treeGo 40 body false = (u, [], false) := Prod.ext hu (Prod.ext hn hb)
          obtain ⟨_, e2, e3⟩ := tree_was 40 body false u [] e
          rw [List.append_nil] at e2
          have hz : wrongT u = 0 := by
            rw [← hu]
            exact Classical.byContradiction fun hne => hh (.inr (.inr hne))
          refine ⟨?_, e3, by omega⟩
          have hs' : sumB body = le32 a b c d := Classical.byContradiction fun hne => hs hne
          unfold bytesT
          rw [if_pos hz, ← e2, if_neg (by omega), hs', four_le32]
end Go.Proofs.Ytffpepmfdjjjaaa


namespace Go.Proofs.Ytffpepmfdjjjaaa
open Go.Pure
attribute [local irreducible] PW POps POpsD PO PC Cond

set_option maxRecDepth 100000 in
set_option maxHeartbeats 4000000 in
theorem samebytes_pc (l : List UInt8) (hl : l.length ≤ 9223372036854775807) : PC Try.prog 23 [.g (.sl (bys l)), .g (.sl (bys l))] ⟨[], [], []⟩ (.g (.bool true)) ⟨[], [], []⟩ := by
  refine PC_of_PW Try.func23 rfl rfl (rs := _) rfl (Nat.le_of_ble_eq_true (by kernel_rfl)) ?_
  (repeat (first | ((first | refine qA ?_ | refine qB ?_ | refine xN ?_ | refine xE ?_ | refine xT ?_); try show PW _ _ _ _ _ _) | refine ro1 tabOk rfl rfl ?_ | refine ro2 tabOk rfl rfl ?_ | refine ro3 tabOk rfl rfl ?_ | refine rd1 tabOk rfl rfl ?_ | refine rd2 tabOk rfl rfl ?_ | refine rd3 tabOk rfl rfl ?_ | ((first | apply oR rfl rfl | (apply dF rfl rfl rfl; intro _) | (apply dP rfl rfl rfl; intro _) | (apply dL rfl rfl rfl; intro _) | apply dC rfl rfl rfl rfl); (focus (first | exact cJ | exact mG | exact bT | exact nD)); try exact kQ) | refine xS ?_ | refine xR ?_ | refine qxa rfl rfl mixed ?_ | refine qxb rfl rfl mixed ?_ | refine qxc rfl rfl mixed ?_ | refine qxd rfl rfl mixed ?_ | refine xB ?_ | refine xt rfl ?_ | refine xf rfl ?_))
  (first | refine POps_split rfl rfl (fun h => ?_) (fun h => ?_) | refine POpsD_split rfl rfl (fun h => ?_) (fun h => ?_) | refine PW_cond rfl (fun h => ?_) (fun h => ?_))
  · simp at h
  (repeat (first | ((first | refine qA ?_ | refine qB ?_ | refine xN ?_ | refine xE ?_ | refine xT ?_); try show PW _ _ _ _ _ _) | refine ro1 tabOk rfl rfl ?_ | refine ro2 tabOk rfl rfl ?_ | refine ro3 tabOk rfl rfl ?_ | refine rd1 tabOk rfl rfl ?_ | refine rd2 tabOk rfl rfl ?_ | refine rd3 tabOk rfl rfl ?_ | ((first | apply oR rfl rfl | (apply dF rfl rfl rfl; intro _) | (apply dP rfl rfl rfl; intro _) | (apply dL rfl rfl rfl; intro _) | apply dC rfl rfl rfl rfl); (focus (first | exact cJ | exact mG | exact bT | exact nD)); try exact kQ) | refine xS ?_ | refine xR ?_ | refine qxa rfl rfl mixed ?_ | refine qxb rfl rfl mixed ?_ | refine qxc rfl rfl mixed ?_ | refine qxd rfl rfl mixed ?_ | refine xB ?_ | refine xt rfl ?_ | refine xf rfl ?_))
  refine PW_loop (S := Nat) (fun i => slots [(0, .g (.sl (bys l))), (1, .g (.sl (bys l))), (12, .g (.int .i64 l.length)), (13, .g (.int .i64 i))]) (fun _ => ⟨[], [], []⟩) (fun i => i ≤ l.length) (fun i => l.length - i) 0 (Nat.zero_le _) (SlotsOk.le ⟨.inl rfl, .inl rfl, .inl (by simp [bys]; rfl), .inl rfl, trivial⟩) (HLe.refl _) (fun i hi => ?_)
  (repeat (first | ((first | refine qA ?_ | refine qB ?_ | refine xN ?_ | refine xE ?_ | refine xT ?_); try show PW _ _ _ _ _ _) | refine ro1 tabOk rfl rfl ?_ | refine ro2 tabOk rfl rfl ?_ | refine ro3 tabOk rfl rfl ?_ | refine rd1 tabOk rfl rfl ?_ | refine rd2 tabOk rfl rfl ?_ | refine rd3 tabOk rfl rfl ?_ | ((first | apply oR rfl rfl | (apply dF rfl rfl rfl; intro _) | (apply dP rfl rfl rfl; intro _) | (apply dL rfl rfl rfl; intro _) | apply dC rfl rfl rfl rfl); (focus (first | exact cJ | exact mG | exact bT | exact nD)); try exact kQ) | refine xS ?_ | refine xR ?_ | refine qxa rfl rfl mixed ?_ | refine qxb rfl rfl mixed ?_ | refine qxc rfl rfl mixed ?_ | refine qxd rfl rfl mixed ?_ | refine xB ?_ | refine xt rfl ?_ | refine xf rfl ?_))
  (first | refine POps_split rfl rfl (fun h => ?_) (fun h => ?_) | refine POpsD_split rfl rfl (fun h => ?_) (fun h => ?_) | refine PW_cond rfl (fun h => ?_) (fun h => ?_))
  · have hlt : i < l.length := by have := of_decide_eq_true h; omega
    have hg := bys_get hlt
    (repeat (first | ((first | refine qA ?_ | refine qB ?_ | refine xN ?_ | refine xE ?_ | refine xT ?_); try show PW _ _ _ _ _ _) | refine ro1 tabOk rfl rfl ?_ | refine ro2 tabOk rfl rfl ?_ | refine ro3 tabOk rfl rfl ?_ | refine rd1 tabOk rfl rfl ?_ | refine rd2 tabOk rfl rfl ?_ | refine rd3 tabOk rfl rfl ?_ | ((first | apply oR rfl rfl | (apply dF rfl rfl rfl; intro _) | (apply dP rfl rfl rfl; intro _) | (apply dL rfl rfl rfl; intro _) | apply dC rfl rfl rfl rfl); (focus (first | exact iA rfl (EL rfl) (SZ rfl) rfl rfl (Int.natCast_nonneg _) hg rfl | exact cJ | exact mG | exact bT | exact nD)); try exact kQ) | refine xS ?_ | refine xR ?_ | refine qxa rfl rfl mixed ?_ | refine qxb rfl rfl mixed ?_ | refine qxc rfl rfl mixed ?_ | refine qxd rfl rfl mixed ?_ | refine xB ?_ | refine xt rfl ?_ | refine xf rfl ?_))
    (first | refine POps_split rfl rfl (fun h => ?_) (fun h => ?_) | refine POpsD_split rfl rfl (fun h => ?_) (fun h => ?_) | refine PW_cond rfl (fun h => ?_) (fun h => ?_))
    · simp at h
    (repeat (first | ((first | refine qA ?_ | refine qB ?_ | refine xN ?_ | refine xE ?_ | refine xT ?_); try show PW _ _ _ _ _ _) | refine ro1 tabOk rfl rfl ?_ | refine ro2 tabOk rfl rfl ?_ | refine ro3 tabOk rfl rfl ?_ | refine rd1 tabOk rfl rfl ?_ | refine rd2 tabOk rfl rfl ?_ | refine rd3 tabOk rfl rfl ?_ | ((first | apply oR rfl rfl | (apply dF rfl rfl rfl; intro _) | (apply dP rfl rfl rfl; intro _) | (apply dL rfl rfl rfl; intro _) | apply dC rfl rfl rfl rfl); (focus (first | exact cJ | exact mG | exact bT | exact nD)); try exact kQ) | refine xS ?_ | refine xR ?_ | refine qxa rfl rfl mixed ?_ | refine qxb rfl rfl mixed ?_ | refine qxc rfl rfl mixed ?_ | refine qxd rfl rfl mixed ?_ | refine xB ?_ | refine xt rfl ?_ | refine xf rfl ?_))
    refine ⟨i + 1, hlt, by omega, SlotsOk.le ⟨.inl rfl, .inl rfl, .inl rfl, .inl (congrArg (fun x => PV.g (.int .i64 x)) (wrap64 (by omega))), trivial⟩, HLe.refl _⟩
  · (repeat (first | ((first | refine qA ?_ | refine qB ?_ | refine xN ?_ | refine xE ?_ | refine xT ?_); try show PW _ _ _ _ _ _) | refine ro1 tabOk rfl rfl ?_ | refine ro2 tabOk rfl rfl ?_ | refine ro3 tabOk rfl rfl ?_ | refine rd1 tabOk rfl rfl ?_ | refine rd2 tabOk rfl rfl ?_ | refine rd3 tabOk rfl rfl ?_ | ((first | apply oR rfl rfl | (apply dF rfl rfl rfl; intro _) | (apply dP rfl rfl rfl; intro _) | (apply dL rfl rfl rfl; intro _) | apply dC rfl rfl rfl rfl); (focus (first | exact cJ | exact mG | exact bT | exact nD)); try exact kQ) | refine xS ?_ | refine xR ?_ | refine qxa rfl rfl mixed ?_ | refine qxb rfl rfl mixed ?_ | refine qxc rfl rfl mixed ?_ | refine qxd rfl rfl mixed ?_ | refine xB ?_ | refine xt rfl ?_ | refine xf rfl ?_))
    (first | refine Ret_int (vC vT vN) rfl ?_ | refine Ret_bool (vC vT vN) rfl ?_ | refine Ret_g (vC vT vN) rfl ?_ | refine Ret_int (vC (vA (AG rfl) (SZ rfl) rfl rfl (lB rfl)) vN) rfl ?_ | refine Ret_bool (vC (vA (AG rfl) (SZ rfl) rfl rfl (lB rfl)) vN) rfl ?_ | refine Ret_g (vC (vA (AG rfl) (SZ rfl) rfl rfl (lB rfl)) vN) rfl ?_)
    rfl

end Go.Proofs.Ytffpepmfdjjjaaa


namespace Go.Proofs.Ytffpepmfdjjjaaa
open Go.Pure
attribute [local irreducible] PW POps POpsD PO PC Cond

theorem bytes_enc {u : Tr} {l : List UInt8} (h : bytesT u = (l, 0)) : (enc u).length + 4 ≤ 100000 ∧ l.length ≤ 100000 := by
  unfold bytesT at h
  split at h
  · split at h
    · simp at h
    · cases h
      refine ⟨by omega, ?_⟩
      simp [four]
      omega
  · rename_i h0
    exact absurd (congrArg (fun x => x.2) h) h0

end Go.Proofs.Ytffpepmfdjjjaaa

