/- What the program says of its types and functions: tables, held against the program by the kernel. Printed by wip/tools/gen_facts.py. -/
import Derived.Test.YtffpepmfdjjjaaaRows
import Derived.Test.YtffpepmfdjjjaaaPureZE
set_option maxRecDepth 100000
namespace Go.Proofs.Ytffpepmfdjjjaaa
open Go.Pure

def agL : List (Nat × Bool) := [(0, false), (1, false), (2, false), (3, false), (4, false), (5, false), (6, false), (7, true), (8, true), (9, false), (10, false), (11, false), (12, false), (13, true), (14, true), (15, false), (16, false), (17, false), (18, true), (19, true), (20, false), (21, false), (22, false), (23, false), (24, true), (25, true), (26, true), (27, true), (28, false), (29, true), (30, true), (31, false), (32, false), (33, false), (34, false), (35, false), (36, false), (37, false), (38, false), (39, false), (40, false), (41, false), (42, false), (43, false), (44, false), (45, false), (46, false), (47, false), (48, false), (49, false), (50, false), (51, false), (52, false), (53, false), (54, false), (55, false), (56, false), (57, false), (58, false), (59, false), (60, false), (61, false), (62, false), (63, false), (64, false), (65, true), (66, true), (67, false), (68, false), (69, false), (70, false), (71, true), (72, true), (73, false), (74, false), (75, false), (76, false), (77, false), (78, false), (79, true), (80, true), (81, false), (82, false), (83, false), (84, false), (85, false), (86, false), (87, false), (88, false), (89, false), (90, false), (91, true), (92, true), (93, false), (94, false), (95, false), (96, false), (97, false), (98, false), (99, false), (100, true), (101, true), (102, false), (103, false), (104, false), (105, false), (106, false), (107, false), (108, false), (109, false), (110, true), (111, true), (112, true), (113, true), (114, false), (115, false), (116, true), (117, true), (118, false), (119, false), (120, true), (121, true), (122, false), (123, false), (124, false), (125, false), (126, false), (127, false), (128, false), (129, false), (130, false), (131, false), (132, false), (133, false), (134, false), (135, false), (136, false), (137, false), (138, false), (139, false), (140, false), (141, false), (142, false), (143, false), (144, false), (145, false), (146, false), (147, false), (148, false), (149, false), (150, false), (151, false), (152, false), (153, false), (154, false), (155, false), (156, true), (157, true), (158, true), (159, true), (160, true), (161, false), (162, false), (163, false), (164, false), (165, false), (166, false), (167, false), (168, true), (169, true), (170, false)]
def szL : List (Nat × Nat) := [(0, 1), (1, 1), (2, 1), (3, 1), (4, 1), (5, 1), (6, 1), (7, 4), (8, 4), (9, 1), (10, 1), (11, 1), (12, 1), (13, 2), (14, 2), (15, 1), (16, 1), (17, 1), (18, 1), (19, 1), (20, 1), (21, 1), (22, 1), (23, 1), (24, 5), (25, 5), (26, 10), (27, 10), (28, 1), (29, 4), (30, 4), (31, 1), (32, 1), (33, 1), (34, 1), (35, 1), (36, 1), (37, 1), (38, 1), (39, 1), (40, 1), (41, 1), (42, 1), (43, 1), (44, 1), (45, 1), (46, 1), (47, 1), (48, 1), (49, 1), (50, 1), (51, 1), (52, 1), (53, 1), (54, 1), (55, 1), (56, 1), (57, 1), (58, 1), (59, 1), (60, 1), (61, 1), (62, 1), (63, 1), (64, 1), (65, 3), (66, 3), (67, 1), (68, 1), (69, 1), (70, 1), (71, 2), (72, 2), (73, 1), (74, 1), (75, 1), (76, 1), (77, 1), (78, 1), (79, 1), (80, 1), (81, 1), (82, 1), (83, 1), (84, 1), (85, 1), (86, 1), (87, 1), (88, 1), (89, 1), (90, 1), (91, 1), (92, 1), (93, 1), (94, 1), (95, 1), (96, 1), (97, 1), (98, 1), (99, 1), (100, 2), (101, 2), (102, 1), (103, 1), (104, 1), (105, 1), (106, 1), (107, 1), (108, 1), (109, 1), (110, 2), (111, 2), (112, 6), (113, 6), (114, 1), (115, 1), (116, 16), (117, 16), (118, 1), (119, 1), (120, 9), (121, 9), (122, 1), (123, 1), (124, 1), (125, 1), (126, 1), (127, 1), (128, 1), (129, 1), (130, 1), (131, 1), (132, 1), (133, 1), (134, 1), (135, 1), (136, 1), (137, 1), (138, 1), (139, 1), (140, 1), (141, 1), (142, 1), (143, 1), (144, 1), (145, 1), (146, 1), (147, 1), (148, 1), (149, 1), (150, 1), (151, 1), (152, 1), (153, 1), (154, 1), (155, 1), (156, 4), (157, 4), (158, 0), (159, 0), (160, 0), (161, 1), (162, 1), (163, 1), (164, 1), (165, 1), (166, 1), (167, 1), (168, 11), (169, 11), (170, 1)]
def fdL : List ((Nat × Nat) × (Nat × Nat)) := [((7, 0), (0, 2)), ((7, 1), (1, 3)), ((7, 2), (2, 4)), ((7, 3), (3, 6)), ((8, 0), (0, 2)), ((8, 1), (1, 3)), ((8, 2), (2, 4)), ((8, 3), (3, 6)), ((13, 0), (0, 9)), ((13, 1), (1, 12)), ((14, 0), (0, 9)), ((14, 1), (1, 12)), ((18, 0), (0, 17)), ((19, 0), (0, 17)), ((24, 0), (0, 9)), ((24, 1), (1, 3)), ((24, 2), (2, 22)), ((24, 3), (3, 22)), ((24, 4), (4, 23)), ((25, 0), (0, 9)), ((25, 1), (1, 3)), ((25, 2), (2, 22)), ((25, 3), (3, 22)), ((25, 4), (4, 23)), ((26, 0), (0, 3)), ((26, 1), (1, 3)), ((26, 2), (2, 3)), ((26, 3), (3, 25)), ((26, 4), (8, 9)), ((26, 5), (9, 3)), ((27, 0), (0, 3)), ((27, 1), (1, 3)), ((27, 2), (2, 3)), ((27, 3), (3, 25)), ((27, 4), (8, 9)), ((27, 5), (9, 3)), ((29, 0), (0, 3)), ((29, 1), (1, 2)), ((29, 2), (2, 9)), ((29, 3), (3, 28)), ((30, 0), (0, 3)), ((30, 1), (1, 2)), ((30, 2), (2, 9)), ((30, 3), (3, 28)), ((65, 0), (0, 9)), ((65, 1), (1, 3)), ((65, 2), (2, 64)), ((66, 0), (0, 9)), ((66, 1), (1, 3)), ((66, 2), (2, 64)), ((71, 0), (0, 69)), ((71, 1), (1, 70)), ((72, 0), (0, 69)), ((72, 1), (1, 70)), ((79, 0), (0, 4)), ((80, 0), (0, 4)), ((91, 0), (0, 3)), ((92, 0), (0, 3)), ((100, 0), (0, 38)), ((100, 1), (1, 4)), ((101, 0), (0, 38)), ((101, 1), (1, 4)), ((110, 0), (0, 2)), ((110, 1), (1, 3)), ((111, 0), (0, 2)), ((111, 1), (1, 3)), ((112, 0), (0, 3)), ((112, 1), (1, 4)), ((112, 2), (2, 111)), ((112, 3), (4, 9)), ((112, 4), (5, 64)), ((113, 0), (0, 3)), ((113, 1), (1, 4)), ((113, 2), (2, 111)), ((113, 3), (4, 9)), ((113, 4), (5, 64)), ((116, 0), (0, 3)), ((116, 1), (1, 113)), ((116, 2), (7, 113)), ((116, 3), (13, 4)), ((116, 4), (14, 4)), ((116, 5), (15, 69)), ((117, 0), (0, 3)), ((117, 1), (1, 113)), ((117, 2), (7, 113)), ((117, 3), (13, 4)), ((117, 4), (14, 4)), ((117, 5), (15, 69)), ((120, 0), (0, 3)), ((120, 1), (1, 113)), ((120, 2), (7, 9)), ((120, 3), (8, 70)), ((121, 0), (0, 3)), ((121, 1), (1, 113)), ((121, 2), (7, 9)), ((121, 3), (8, 70)), ((156, 0), (0, 17)), ((156, 1), (1, 17)), ((156, 2), (2, 17)), ((156, 3), (3, 9)), ((157, 0), (0, 17)), ((157, 1), (1, 17)), ((157, 2), (2, 17)), ((157, 3), (3, 9)), ((168, 0), (0, 12)), ((168, 1), (1, 12)), ((168, 2), (2, 40)), ((168, 3), (3, 162)), ((168, 4), (4, 5)), ((168, 5), (5, 5)), ((168, 6), (6, 163)), ((168, 7), (7, 164)), ((168, 8), (8, 165)), ((168, 9), (9, 166)), ((168, 10), (10, 167)), ((169, 0), (0, 12)), ((169, 1), (1, 12)), ((169, 2), (2, 40)), ((169, 3), (3, 162)), ((169, 4), (4, 5)), ((169, 5), (5, 5)), ((169, 6), (6, 163)), ((169, 7), (7, 164)), ((169, 8), (8, 165)), ((169, 9), (9, 166)), ((169, 10), (10, 167))]
def elL : List (Nat × Nat) := [(22, 66), (23, 72), (28, 30), (38, 5), (51, 27), (64, 113), (69, 117), (70, 121)]
def boL : List Nat := [4]
def stL : List Nat := [9, 10, 11]
def byL : List (Nat × Nat) := [(0, 0), (1, 8), (2, 8), (3, 8), (4, 1), (5, 1), (6, 1), (7, 24), (8, 24), (9, 16), (10, 16), (11, 16), (12, 8), (13, 24), (14, 24), (15, 8), (16, 8), (17, 8), (18, 8), (19, 8), (20, 16), (21, 4), (22, 24), (23, 24), (24, 96), (25, 96), (26, 144), (27, 144), (28, 24), (29, 56), (30, 56), (31, 8), (32, 8), (33, 8), (34, 0), (35, 8), (36, 8), (37, 8), (38, 24), (39, 8), (40, 4), (41, 8), (42, 0), (43, 8), (44, 8), (45, 0), (46, 8), (47, 8), (48, 8), (49, 8), (50, 8), (51, 24), (52, 8), (53, 8), (54, 0), (55, 8), (56, 8), (57, 8), (58, 8), (59, 8), (60, 8), (61, 8), (62, 8), (63, 8), (64, 24), (65, 48), (66, 48), (67, 8), (68, 8), (69, 24), (70, 24), (71, 48), (72, 48), (73, 8), (74, 8), (75, 8), (76, 8), (77, 8), (78, 8), (79, 1), (80, 1), (81, 8), (82, 8), (83, 8), (84, 8), (85, 8), (86, 8), (87, 8), (88, 8), (89, 8), (90, 8), (91, 8), (92, 8), (93, 8), (94, 8), (95, 8), (96, 8), (97, 8), (98, 8), (99, 8), (100, 32), (101, 32), (102, 8), (103, 0), (104, 8), (105, 0), (106, 8), (107, 0), (108, 8), (109, 8), (110, 16), (111, 16), (112, 72), (113, 72), (114, 8), (115, 8), (116, 184), (117, 184), (118, 8), (119, 8), (120, 120), (121, 120), (122, 8), (123, 8), (124, 8), (125, 8), (126, 8), (127, 8), (128, 8), (129, 8), (130, 8), (131, 8), (132, 8), (133, 8), (134, 8), (135, 8), (136, 8), (137, 8), (138, 8), (139, 8), (140, 8), (141, 8), (142, 0), (143, 8), (144, 0), (145, 8), (146, 8), (147, 8), (148, 8), (149, 8), (150, 8), (151, 8), (152, 8), (153, 8), (154, 8), (155, 8), (156, 40), (157, 40), (158, 0), (159, 0), (160, 0), (161, 8), (162, 1), (163, 1), (164, 8), (165, 8), (166, 4), (167, 4), (168, 48), (169, 48), (170, 8)]
def ikL : List (Nat × IntKind) := [(2, .i64), (3, .i64), (5, .u8), (6, .u8), (12, .u64), (21, .i32), (33, .i64), (40, .u32), (94, .u64), (95, .u64), (162, .u8), (163, .u8), (166, .i32), (167, .i32)]
def enL : List Nat := [3, 4, 5, 6, 7, 8, 9, 10, 11, 12, 13, 14, 15, 16, 17, 18, 19, 20, 21, 22, 23, 24, 25, 26, 27, 28, 29, 30, 31, 32, 33, 34, 35, 36, 37, 38, 39, 40, 41, 42, 43, 44, 45, 46, 47, 48, 49, 50, 51, 52, 53, 54, 55, 56, 57, 58, 59, 60, 61, 62, 63, 64, 65, 66, 67, 68, 69, 70, 71, 72, 73, 74, 75, 76, 77, 78, 79, 80, 81, 82, 83, 84, 85, 86, 87, 88, 89, 90, 91, 92, 93, 94, 95, 96]

def lkN {α : Type} : List (Nat × α) → Nat → Option α
  | [], _ => none
  | (k, a) :: r, t => bif Nat.beq t k then some a else lkN r t
def lkM : List ((Nat × Nat) × (Nat × Nat)) → Nat → Nat → Option (Nat × Nat)
  | [], _, _ => none
  | ((k, j), a) :: r, t, i => bif Nat.beq t k && Nat.beq i j then some a else lkM r t i
def inN : List Nat → Nat → Bool
  | [], _ => false
  | k :: r, t => bif Nat.beq t k then true else inN r t
theorem lkN_mem {α : Type} : ∀ {l : List (Nat × α)} {t : Nat} {a : α}, lkN l t = some a → (t, a) ∈ l
  | [], _, _, h => by cases h
  | (k, b) :: r, t, a, h => by
    unfold lkN at h
    cases e : Nat.beq t k with
    | true => rw [e, cond_true] at h; cases h; rw [Nat.eq_of_beq_eq_true e]; exact List.mem_cons_self
    | false => rw [e, cond_false] at h; exact List.mem_cons_of_mem _ (lkN_mem h)
theorem lkM_mem : ∀ {l : List ((Nat × Nat) × (Nat × Nat))} {t i : Nat} {a : Nat × Nat}, lkM l t i = some a → ((t, i), a) ∈ l
  | [], _, _, _, h => by cases h
  | ((k, j), b) :: r, t, i, a, h => by
    unfold lkM at h
    cases e : (Nat.beq t k && Nat.beq i j) with
    | true =>
      rw [e, cond_true] at h; cases h
      simp only [Bool.and_eq_true] at e
      rw [Nat.eq_of_beq_eq_true e.1, Nat.eq_of_beq_eq_true e.2]; exact List.mem_cons_self
    | false => rw [e, cond_false] at h; exact List.mem_cons_of_mem _ (lkM_mem h)
theorem inN_mem : ∀ {l : List Nat} {t : Nat}, inN l t = true → t ∈ l
  | [], _, h => by cases h
  | k :: r, t, h => by
    unfold inN at h
    cases e : Nat.beq t k with
    | true => rw [Nat.eq_of_beq_eq_true e]; exact List.mem_cons_self
    | false => rw [e, cond_false] at h; exact List.mem_cons_of_mem _ (inN_mem h)

theorem ag_all : (agL.all fun p => aggB Try.prog p.1 == some p.2) = true := by kernel_rfl
theorem sz_all : (szL.all fun p => szB Try.prog p.1 == some p.2) = true := by kernel_rfl
theorem fd_all : (fdL.all fun p => fieldB Try.prog p.1.1 p.1.2 == some p.2) = true := by kernel_rfl
def uSl (d : Option TypeDesc) : Option Nat := match d with | some (.slice e) => some e | _ => none
def uBo (d : Option TypeDesc) : Bool := match d with | some .bool => true | _ => false
def uSt (d : Option TypeDesc) : Bool := match d with | some .string => true | _ => false
theorem el_all : (elL.all fun p => uSl (Try.prog.underlying p.1) == some p.2) = true := by kernel_rfl
theorem bo_all : (boL.all fun p => uBo (Try.prog.underlying p)) = true := by kernel_rfl
theorem st_all : (stL.all fun p => uSt (Try.prog.underlying p)) = true := by kernel_rfl
theorem by_all : (byL.all fun p => bytesB Try.prog p.1 == some p.2) = true := by kernel_rfl
theorem ik_all : (ikL.all fun p => match intB Try.prog p.1 with | some k => kindEq k p.2 | none => false) = true := by kernel_rfl
theorem en_all : (enL.all fun p => enterB Try.prog p) = true := by kernel_rfl

theorem AG {t : Nat} {b : Bool} (h : lkN agL t = some b) : aggB Try.prog t = some b := by
  simpa using List.all_eq_true.1 ag_all _ (lkN_mem h)
theorem SZ {t n : Nat} (h : lkN szL t = some n) : szB Try.prog t = some n := by
  simpa using List.all_eq_true.1 sz_all _ (lkN_mem h)
theorem BY {t n : Nat} (h : lkN byL t = some n) : bytesB Try.prog t = some n := by
  simpa using List.all_eq_true.1 by_all _ (lkN_mem h)
theorem IK {t : Nat} {k : IntKind} (h : lkN ikL t = some k) : intB Try.prog t = some k := by
  have h1 := List.all_eq_true.1 ik_all _ (lkN_mem h)
  simp only at h1
  split at h1
  · rename_i k' e; rw [e, kindEq_ok h1]
  · cases h1
theorem FD {t k d ft : Nat} (h : lkM fdL t k = some (d, ft)) : fieldB Try.prog t k = some (d, ft) := by
  simpa using List.all_eq_true.1 fd_all _ (lkM_mem h)
theorem EL {t e : Nat} (h : lkN elL t = some e) : Try.prog.underlying t = some (.slice e) := by
  have h1 : uSl (Try.prog.underlying t) = some e := by simpa using List.all_eq_true.1 el_all _ (lkN_mem h)
  unfold uSl at h1
  split at h1
  · rename_i e' he; cases h1; exact he
  · cases h1
theorem BO {t : Nat} (h : inN boL t = true) : Try.prog.underlying t = some .bool := by
  have h1 := List.all_eq_true.1 bo_all _ (inN_mem h)
  unfold uBo at h1
  split at h1
  · assumption
  · cases h1
theorem ST {t : Nat} (h : inN stL t = true) : Try.prog.underlying t = some .string := by
  have h1 := List.all_eq_true.1 st_all _ (inN_mem h)
  unfold uSt at h1
  split at h1
  · assumption
  · cases h1
theorem EN {f : Nat} (h : inN enL f = true) : enterB Try.prog f = true := List.all_eq_true.1 en_all _ (inN_mem h)

theorem Z1 : zeroB Try.prog 1 = some (.nilFunc) := by kernel_rfl
theorem Z2 : zeroB Try.prog 2 = some (.int .i64 0) := by kernel_rfl
theorem Z3 : zeroB Try.prog 3 = some (.int .i64 0) := by kernel_rfl
theorem Z4 : zeroB Try.prog 4 = some (.bool false) := by kernel_rfl
theorem Z5 : zeroB Try.prog 5 = some (.int .u8 0) := by kernel_rfl
theorem Z6 : zeroB Try.prog 6 = some (.int .u8 0) := by kernel_rfl
theorem Z7 : zeroB Try.prog 7 = some (.agg #[.int .i64 0, .int .i64 0, .bool false, .int .u8 0]) := by kernel_rfl
theorem Z8 : zeroB Try.prog 8 = some (.agg #[.int .i64 0, .int .i64 0, .bool false, .int .u8 0]) := by kernel_rfl
theorem Z9 : zeroB Try.prog 9 = some (.string ⟨#[]⟩) := by kernel_rfl
theorem Z10 : zeroB Try.prog 10 = some (.string ⟨#[]⟩) := by kernel_rfl
theorem Z11 : zeroB Try.prog 11 = some (.string ⟨#[]⟩) := by kernel_rfl
theorem Z12 : zeroB Try.prog 12 = some (.int .u64 0) := by kernel_rfl
theorem Z13 : zeroB Try.prog 13 = some (.agg #[.string ⟨#[]⟩, .int .u64 0]) := by kernel_rfl
theorem Z14 : zeroB Try.prog 14 = some (.agg #[.string ⟨#[]⟩, .int .u64 0]) := by kernel_rfl
theorem Z15 : zeroB Try.prog 15 = some (.pointer none) := by kernel_rfl
theorem Z16 : zeroB Try.prog 16 = some (.pointer none) := by kernel_rfl
theorem Z17 : zeroB Try.prog 17 = some (.pointer none) := by kernel_rfl
theorem Z18 : zeroB Try.prog 18 = some (.agg #[.pointer none]) := by kernel_rfl
theorem Z19 : zeroB Try.prog 19 = some (.agg #[.pointer none]) := by kernel_rfl
theorem Z21 : zeroB Try.prog 21 = some (.int .i32 0) := by kernel_rfl
theorem Z22 : zeroB Try.prog 22 = some (.slice none 0 0) := by kernel_rfl
theorem Z23 : zeroB Try.prog 23 = some (.slice none 0 0) := by kernel_rfl
theorem Z24 : zeroB Try.prog 24 = some (.agg #[.string ⟨#[]⟩, .int .i64 0, .slice none 0 0, .slice none 0 0, .slice none 0 0]) := by kernel_rfl
theorem Z25 : zeroB Try.prog 25 = some (.agg #[.string ⟨#[]⟩, .int .i64 0, .slice none 0 0, .slice none 0 0, .slice none 0 0]) := by kernel_rfl
theorem Z26 : zeroB Try.prog 26 = some (.agg #[.int .i64 0, .int .i64 0, .int .i64 0, .string ⟨#[]⟩, .int .i64 0, .slice none 0 0, .slice none 0 0, .slice none 0 0, .string ⟨#[]⟩, .int .i64 0]) := by kernel_rfl
theorem Z27 : zeroB Try.prog 27 = some (.agg #[.int .i64 0, .int .i64 0, .int .i64 0, .string ⟨#[]⟩, .int .i64 0, .slice none 0 0, .slice none 0 0, .slice none 0 0, .string ⟨#[]⟩, .int .i64 0]) := by kernel_rfl
theorem Z28 : zeroB Try.prog 28 = some (.slice none 0 0) := by kernel_rfl
theorem Z29 : zeroB Try.prog 29 = some (.agg #[.int .i64 0, .int .i64 0, .string ⟨#[]⟩, .slice none 0 0]) := by kernel_rfl
theorem Z30 : zeroB Try.prog 30 = some (.agg #[.int .i64 0, .int .i64 0, .string ⟨#[]⟩, .slice none 0 0]) := by kernel_rfl
theorem Z31 : zeroB Try.prog 31 = some (.nilFunc) := by kernel_rfl
theorem Z32 : zeroB Try.prog 32 = some (.nilFunc) := by kernel_rfl
theorem Z33 : zeroB Try.prog 33 = some (.int .i64 0) := by kernel_rfl
theorem Z35 : zeroB Try.prog 35 = some (.nilFunc) := by kernel_rfl
theorem Z36 : zeroB Try.prog 36 = some (.nilFunc) := by kernel_rfl
theorem Z37 : zeroB Try.prog 37 = some (.nilFunc) := by kernel_rfl
theorem Z38 : zeroB Try.prog 38 = some (.slice none 0 0) := by kernel_rfl
theorem Z39 : zeroB Try.prog 39 = some (.nilFunc) := by kernel_rfl
theorem Z40 : zeroB Try.prog 40 = some (.int .u32 0) := by kernel_rfl
theorem Z41 : zeroB Try.prog 41 = some (.nilFunc) := by kernel_rfl
theorem Z43 : zeroB Try.prog 43 = some (.nilFunc) := by kernel_rfl
theorem Z44 : zeroB Try.prog 44 = some (.nilFunc) := by kernel_rfl
theorem Z46 : zeroB Try.prog 46 = some (.nilFunc) := by kernel_rfl
theorem Z47 : zeroB Try.prog 47 = some (.nilFunc) := by kernel_rfl
theorem Z48 : zeroB Try.prog 48 = some (.nilFunc) := by kernel_rfl
theorem Z49 : zeroB Try.prog 49 = some (.nilFunc) := by kernel_rfl
theorem Z50 : zeroB Try.prog 50 = some (.nilFunc) := by kernel_rfl
theorem Z51 : zeroB Try.prog 51 = some (.slice none 0 0) := by kernel_rfl
theorem Z52 : zeroB Try.prog 52 = some (.nilFunc) := by kernel_rfl
theorem Z53 : zeroB Try.prog 53 = some (.nilFunc) := by kernel_rfl
theorem Z55 : zeroB Try.prog 55 = some (.nilFunc) := by kernel_rfl
theorem Z56 : zeroB Try.prog 56 = some (.nilFunc) := by kernel_rfl
theorem Z57 : zeroB Try.prog 57 = some (.nilFunc) := by kernel_rfl
theorem Z58 : zeroB Try.prog 58 = some (.nilFunc) := by kernel_rfl
theorem Z59 : zeroB Try.prog 59 = some (.nilFunc) := by kernel_rfl
theorem Z60 : zeroB Try.prog 60 = some (.nilFunc) := by kernel_rfl
theorem Z61 : zeroB Try.prog 61 = some (.nilFunc) := by kernel_rfl
theorem Z62 : zeroB Try.prog 62 = some (.nilFunc) := by kernel_rfl
theorem Z63 : zeroB Try.prog 63 = some (.nilFunc) := by kernel_rfl
theorem Z64 : zeroB Try.prog 64 = some (.slice none 0 0) := by kernel_rfl
theorem Z65 : zeroB Try.prog 65 = some (.agg #[.string ⟨#[]⟩, .int .i64 0, .slice none 0 0]) := by kernel_rfl
theorem Z66 : zeroB Try.prog 66 = some (.agg #[.string ⟨#[]⟩, .int .i64 0, .slice none 0 0]) := by kernel_rfl
theorem Z67 : zeroB Try.prog 67 = some (.nilFunc) := by kernel_rfl
theorem Z68 : zeroB Try.prog 68 = some (.nilFunc) := by kernel_rfl
theorem Z69 : zeroB Try.prog 69 = some (.slice none 0 0) := by kernel_rfl
theorem Z70 : zeroB Try.prog 70 = some (.slice none 0 0) := by kernel_rfl
theorem Z71 : zeroB Try.prog 71 = some (.agg #[.slice none 0 0, .slice none 0 0]) := by kernel_rfl
theorem Z72 : zeroB Try.prog 72 = some (.agg #[.slice none 0 0, .slice none 0 0]) := by kernel_rfl
theorem Z73 : zeroB Try.prog 73 = some (.nilFunc) := by kernel_rfl
theorem Z74 : zeroB Try.prog 74 = some (.nilFunc) := by kernel_rfl
theorem Z75 : zeroB Try.prog 75 = some (.nilFunc) := by kernel_rfl
theorem Z76 : zeroB Try.prog 76 = some (.nilFunc) := by kernel_rfl
theorem Z77 : zeroB Try.prog 77 = some (.nilFunc) := by kernel_rfl
theorem Z78 : zeroB Try.prog 78 = some (.pointer none) := by kernel_rfl
theorem Z79 : zeroB Try.prog 79 = some (.agg #[.bool false]) := by kernel_rfl
theorem Z80 : zeroB Try.prog 80 = some (.agg #[.bool false]) := by kernel_rfl
theorem Z81 : zeroB Try.prog 81 = some (.nilFunc) := by kernel_rfl
theorem Z82 : zeroB Try.prog 82 = some (.nilFunc) := by kernel_rfl
theorem Z83 : zeroB Try.prog 83 = some (.nilFunc) := by kernel_rfl
theorem Z84 : zeroB Try.prog 84 = some (.nilFunc) := by kernel_rfl
theorem Z85 : zeroB Try.prog 85 = some (.nilFunc) := by kernel_rfl
theorem Z86 : zeroB Try.prog 86 = some (.nilFunc) := by kernel_rfl
theorem Z87 : zeroB Try.prog 87 = some (.nilFunc) := by kernel_rfl
theorem Z88 : zeroB Try.prog 88 = some (.nilFunc) := by kernel_rfl
theorem Z89 : zeroB Try.prog 89 = some (.pointer none) := by kernel_rfl
theorem Z90 : zeroB Try.prog 90 = some (.pointer none) := by kernel_rfl
theorem Z91 : zeroB Try.prog 91 = some (.agg #[.int .i64 0]) := by kernel_rfl
theorem Z92 : zeroB Try.prog 92 = some (.agg #[.int .i64 0]) := by kernel_rfl
theorem Z93 : zeroB Try.prog 93 = some (.nilFunc) := by kernel_rfl
theorem Z94 : zeroB Try.prog 94 = some (.int .u64 0) := by kernel_rfl
theorem Z95 : zeroB Try.prog 95 = some (.int .u64 0) := by kernel_rfl
theorem Z96 : zeroB Try.prog 96 = some (.nilFunc) := by kernel_rfl
theorem Z97 : zeroB Try.prog 97 = some (.nilFunc) := by kernel_rfl
theorem Z98 : zeroB Try.prog 98 = some (.nilFunc) := by kernel_rfl
theorem Z99 : zeroB Try.prog 99 = some (.pointer none) := by kernel_rfl
theorem Z100 : zeroB Try.prog 100 = some (.agg #[.slice none 0 0, .bool false]) := by kernel_rfl
theorem Z101 : zeroB Try.prog 101 = some (.agg #[.slice none 0 0, .bool false]) := by kernel_rfl
theorem Z102 : zeroB Try.prog 102 = some (.nilFunc) := by kernel_rfl
theorem Z104 : zeroB Try.prog 104 = some (.nilFunc) := by kernel_rfl
theorem Z106 : zeroB Try.prog 106 = some (.nilFunc) := by kernel_rfl
theorem Z108 : zeroB Try.prog 108 = some (.nilFunc) := by kernel_rfl
theorem Z109 : zeroB Try.prog 109 = some (.nilFunc) := by kernel_rfl
theorem Z110 : zeroB Try.prog 110 = some (.agg #[.int .i64 0, .int .i64 0]) := by kernel_rfl
theorem Z111 : zeroB Try.prog 111 = some (.agg #[.int .i64 0, .int .i64 0]) := by kernel_rfl
theorem Z112 : zeroB Try.prog 112 = some (.agg #[.int .i64 0, .bool false, .int .i64 0, .int .i64 0, .string ⟨#[]⟩, .slice none 0 0]) := by kernel_rfl
theorem Z113 : zeroB Try.prog 113 = some (.agg #[.int .i64 0, .bool false, .int .i64 0, .int .i64 0, .string ⟨#[]⟩, .slice none 0 0]) := by kernel_rfl
theorem Z114 : zeroB Try.prog 114 = some (.nilFunc) := by kernel_rfl
theorem Z115 : zeroB Try.prog 115 = some (.nilFunc) := by kernel_rfl
theorem Z116 : zeroB Try.prog 116 = some (.agg #[.int .i64 0, .int .i64 0, .bool false, .int .i64 0, .int .i64 0, .string ⟨#[]⟩, .slice none 0 0, .int .i64 0, .bool false, .int .i64 0, .int .i64 0, .string ⟨#[]⟩, .slice none 0 0, .bool false, .bool false, .slice none 0 0]) := by kernel_rfl
theorem Z117 : zeroB Try.prog 117 = some (.agg #[.int .i64 0, .int .i64 0, .bool false, .int .i64 0, .int .i64 0, .string ⟨#[]⟩, .slice none 0 0, .int .i64 0, .bool false, .int .i64 0, .int .i64 0, .string ⟨#[]⟩, .slice none 0 0, .bool false, .bool false, .slice none 0 0]) := by kernel_rfl
theorem Z118 : zeroB Try.prog 118 = some (.nilFunc) := by kernel_rfl
theorem Z119 : zeroB Try.prog 119 = some (.nilFunc) := by kernel_rfl
theorem Z120 : zeroB Try.prog 120 = some (.agg #[.int .i64 0, .int .i64 0, .bool false, .int .i64 0, .int .i64 0, .string ⟨#[]⟩, .slice none 0 0, .string ⟨#[]⟩, .slice none 0 0]) := by kernel_rfl
theorem Z121 : zeroB Try.prog 121 = some (.agg #[.int .i64 0, .int .i64 0, .bool false, .int .i64 0, .int .i64 0, .string ⟨#[]⟩, .slice none 0 0, .string ⟨#[]⟩, .slice none 0 0]) := by kernel_rfl
theorem Z122 : zeroB Try.prog 122 = some (.nilFunc) := by kernel_rfl
theorem Z123 : zeroB Try.prog 123 = some (.nilFunc) := by kernel_rfl
theorem Z124 : zeroB Try.prog 124 = some (.nilFunc) := by kernel_rfl
theorem Z125 : zeroB Try.prog 125 = some (.nilFunc) := by kernel_rfl
theorem Z126 : zeroB Try.prog 126 = some (.nilFunc) := by kernel_rfl
theorem Z127 : zeroB Try.prog 127 = some (.nilFunc) := by kernel_rfl
theorem Z128 : zeroB Try.prog 128 = some (.nilFunc) := by kernel_rfl
theorem Z129 : zeroB Try.prog 129 = some (.nilFunc) := by kernel_rfl
theorem Z130 : zeroB Try.prog 130 = some (.nilFunc) := by kernel_rfl
theorem Z131 : zeroB Try.prog 131 = some (.nilFunc) := by kernel_rfl
theorem Z132 : zeroB Try.prog 132 = some (.nilFunc) := by kernel_rfl
theorem Z133 : zeroB Try.prog 133 = some (.nilFunc) := by kernel_rfl
theorem Z134 : zeroB Try.prog 134 = some (.nilFunc) := by kernel_rfl
theorem Z135 : zeroB Try.prog 135 = some (.nilFunc) := by kernel_rfl
theorem Z136 : zeroB Try.prog 136 = some (.nilFunc) := by kernel_rfl
theorem Z137 : zeroB Try.prog 137 = some (.nilFunc) := by kernel_rfl
theorem Z138 : zeroB Try.prog 138 = some (.nilFunc) := by kernel_rfl
theorem Z139 : zeroB Try.prog 139 = some (.nilFunc) := by kernel_rfl
theorem Z140 : zeroB Try.prog 140 = some (.nilFunc) := by kernel_rfl
theorem Z141 : zeroB Try.prog 141 = some (.nilFunc) := by kernel_rfl
theorem Z143 : zeroB Try.prog 143 = some (.nilFunc) := by kernel_rfl
theorem Z145 : zeroB Try.prog 145 = some (.nilFunc) := by kernel_rfl
theorem Z146 : zeroB Try.prog 146 = some (.nilFunc) := by kernel_rfl
theorem Z147 : zeroB Try.prog 147 = some (.nilFunc) := by kernel_rfl
theorem Z148 : zeroB Try.prog 148 = some (.nilFunc) := by kernel_rfl
theorem Z149 : zeroB Try.prog 149 = some (.nilFunc) := by kernel_rfl
theorem Z150 : zeroB Try.prog 150 = some (.nilFunc) := by kernel_rfl
theorem Z151 : zeroB Try.prog 151 = some (.nilFunc) := by kernel_rfl
theorem Z152 : zeroB Try.prog 152 = some (.nilFunc) := by kernel_rfl
theorem Z153 : zeroB Try.prog 153 = some (.nilFunc) := by kernel_rfl
theorem Z154 : zeroB Try.prog 154 = some (.nilFunc) := by kernel_rfl
theorem Z155 : zeroB Try.prog 155 = some (.nilFunc) := by kernel_rfl
theorem Z156 : zeroB Try.prog 156 = some (.agg #[.pointer none, .pointer none, .pointer none, .string ⟨#[]⟩]) := by kernel_rfl
theorem Z157 : zeroB Try.prog 157 = some (.agg #[.pointer none, .pointer none, .pointer none, .string ⟨#[]⟩]) := by kernel_rfl
theorem Z158 : zeroB Try.prog 158 = some (.agg #[]) := by kernel_rfl
theorem Z159 : zeroB Try.prog 159 = some (.agg #[]) := by kernel_rfl
theorem Z160 : zeroB Try.prog 160 = some (.agg #[]) := by kernel_rfl
theorem Z161 : zeroB Try.prog 161 = some (.nilFunc) := by kernel_rfl
theorem Z162 : zeroB Try.prog 162 = some (.int .u8 0) := by kernel_rfl
theorem Z163 : zeroB Try.prog 163 = some (.int .u8 0) := by kernel_rfl
theorem Z164 : zeroB Try.prog 164 = some (.nilFunc) := by kernel_rfl
theorem Z165 : zeroB Try.prog 165 = some (.pointer none) := by kernel_rfl
theorem Z166 : zeroB Try.prog 166 = some (.int .i32 0) := by kernel_rfl
theorem Z167 : zeroB Try.prog 167 = some (.int .i32 0) := by kernel_rfl
theorem Z168 : zeroB Try.prog 168 = some (.agg #[.int .u64 0, .int .u64 0, .int .u32 0, .int .u8 0, .int .u8 0, .int .u8 0, .int .u8 0, .nilFunc, .pointer none, .int .i32 0, .int .i32 0]) := by kernel_rfl
theorem Z169 : zeroB Try.prog 169 = some (.agg #[.int .u64 0, .int .u64 0, .int .u32 0, .int .u8 0, .int .u8 0, .int .u8 0, .int .u8 0, .nilFunc, .pointer none, .int .i32 0, .int .i32 0]) := by kernel_rfl
theorem Z170 : zeroB Try.prog 170 = some (.pointer none) := by kernel_rfl
def zrL : List (Nat × Value) := [(1, .nilFunc), (2, .int .i64 0), (3, .int .i64 0), (4, .bool false), (5, .int .u8 0), (6, .int .u8 0), (7, .agg #[.int .i64 0, .int .i64 0, .bool false, .int .u8 0]), (8, .agg #[.int .i64 0, .int .i64 0, .bool false, .int .u8 0]), (9, .string ⟨#[]⟩), (10, .string ⟨#[]⟩), (11, .string ⟨#[]⟩), (12, .int .u64 0), (13, .agg #[.string ⟨#[]⟩, .int .u64 0]), (14, .agg #[.string ⟨#[]⟩, .int .u64 0]), (15, .pointer none), (16, .pointer none), (17, .pointer none), (18, .agg #[.pointer none]), (19, .agg #[.pointer none]), (21, .int .i32 0), (22, .slice none 0 0), (23, .slice none 0 0), (24, .agg #[.string ⟨#[]⟩, .int .i64 0, .slice none 0 0, .slice none 0 0, .slice none 0 0]), (25, .agg #[.string ⟨#[]⟩, .int .i64 0, .slice none 0 0, .slice none 0 0, .slice none 0 0]), (26, .agg #[.int .i64 0, .int .i64 0, .int .i64 0, .string ⟨#[]⟩, .int .i64 0, .slice none 0 0, .slice none 0 0, .slice none 0 0, .string ⟨#[]⟩, .int .i64 0]), (27, .agg #[.int .i64 0, .int .i64 0, .int .i64 0, .string ⟨#[]⟩, .int .i64 0, .slice none 0 0, .slice none 0 0, .slice none 0 0, .string ⟨#[]⟩, .int .i64 0]), (28, .slice none 0 0), (29, .agg #[.int .i64 0, .int .i64 0, .string ⟨#[]⟩, .slice none 0 0]), (30, .agg #[.int .i64 0, .int .i64 0, .string ⟨#[]⟩, .slice none 0 0]), (31, .nilFunc), (32, .nilFunc), (33, .int .i64 0), (35, .nilFunc), (36, .nilFunc), (37, .nilFunc), (38, .slice none 0 0), (39, .nilFunc), (40, .int .u32 0), (41, .nilFunc), (43, .nilFunc), (44, .nilFunc), (46, .nilFunc), (47, .nilFunc), (48, .nilFunc), (49, .nilFunc), (50, .nilFunc), (51, .slice none 0 0), (52, .nilFunc), (53, .nilFunc), (55, .nilFunc), (56, .nilFunc), (57, .nilFunc), (58, .nilFunc), (59, .nilFunc), (60, .nilFunc), (61, .nilFunc), (62, .nilFunc), (63, .nilFunc), (64, .slice none 0 0), (65, .agg #[.string ⟨#[]⟩, .int .i64 0, .slice none 0 0]), (66, .agg #[.string ⟨#[]⟩, .int .i64 0, .slice none 0 0]), (67, .nilFunc), (68, .nilFunc), (69, .slice none 0 0), (70, .slice none 0 0), (71, .agg #[.slice none 0 0, .slice none 0 0]), (72, .agg #[.slice none 0 0, .slice none 0 0]), (73, .nilFunc), (74, .nilFunc), (75, .nilFunc), (76, .nilFunc), (77, .nilFunc), (78, .pointer none), (79, .agg #[.bool false]), (80, .agg #[.bool false]), (81, .nilFunc), (82, .nilFunc), (83, .nilFunc), (84, .nilFunc), (85, .nilFunc), (86, .nilFunc), (87, .nilFunc), (88, .nilFunc), (89, .pointer none), (90, .pointer none), (91, .agg #[.int .i64 0]), (92, .agg #[.int .i64 0]), (93, .nilFunc), (94, .int .u64 0), (95, .int .u64 0), (96, .nilFunc), (97, .nilFunc), (98, .nilFunc), (99, .pointer none), (100, .agg #[.slice none 0 0, .bool false]), (101, .agg #[.slice none 0 0, .bool false]), (102, .nilFunc), (104, .nilFunc), (106, .nilFunc), (108, .nilFunc), (109, .nilFunc), (110, .agg #[.int .i64 0, .int .i64 0]), (111, .agg #[.int .i64 0, .int .i64 0]), (112, .agg #[.int .i64 0, .bool false, .int .i64 0, .int .i64 0, .string ⟨#[]⟩, .slice none 0 0]), (113, .agg #[.int .i64 0, .bool false, .int .i64 0, .int .i64 0, .string ⟨#[]⟩, .slice none 0 0]), (114, .nilFunc), (115, .nilFunc), (116, .agg #[.int .i64 0, .int .i64 0, .bool false, .int .i64 0, .int .i64 0, .string ⟨#[]⟩, .slice none 0 0, .int .i64 0, .bool false, .int .i64 0, .int .i64 0, .string ⟨#[]⟩, .slice none 0 0, .bool false, .bool false, .slice none 0 0]), (117, .agg #[.int .i64 0, .int .i64 0, .bool false, .int .i64 0, .int .i64 0, .string ⟨#[]⟩, .slice none 0 0, .int .i64 0, .bool false, .int .i64 0, .int .i64 0, .string ⟨#[]⟩, .slice none 0 0, .bool false, .bool false, .slice none 0 0]), (118, .nilFunc), (119, .nilFunc), (120, .agg #[.int .i64 0, .int .i64 0, .bool false, .int .i64 0, .int .i64 0, .string ⟨#[]⟩, .slice none 0 0, .string ⟨#[]⟩, .slice none 0 0]), (121, .agg #[.int .i64 0, .int .i64 0, .bool false, .int .i64 0, .int .i64 0, .string ⟨#[]⟩, .slice none 0 0, .string ⟨#[]⟩, .slice none 0 0]), (122, .nilFunc), (123, .nilFunc), (124, .nilFunc), (125, .nilFunc), (126, .nilFunc), (127, .nilFunc), (128, .nilFunc), (129, .nilFunc), (130, .nilFunc), (131, .nilFunc), (132, .nilFunc), (133, .nilFunc), (134, .nilFunc), (135, .nilFunc), (136, .nilFunc), (137, .nilFunc), (138, .nilFunc), (139, .nilFunc), (140, .nilFunc), (141, .nilFunc), (143, .nilFunc), (145, .nilFunc), (146, .nilFunc), (147, .nilFunc), (148, .nilFunc), (149, .nilFunc), (150, .nilFunc), (151, .nilFunc), (152, .nilFunc), (153, .nilFunc), (154, .nilFunc), (155, .nilFunc), (156, .agg #[.pointer none, .pointer none, .pointer none, .string ⟨#[]⟩]), (157, .agg #[.pointer none, .pointer none, .pointer none, .string ⟨#[]⟩]), (158, .agg #[]), (159, .agg #[]), (160, .agg #[]), (161, .nilFunc), (162, .int .u8 0), (163, .int .u8 0), (164, .nilFunc), (165, .pointer none), (166, .int .i32 0), (167, .int .i32 0), (168, .agg #[.int .u64 0, .int .u64 0, .int .u32 0, .int .u8 0, .int .u8 0, .int .u8 0, .int .u8 0, .nilFunc, .pointer none, .int .i32 0, .int .i32 0]), (169, .agg #[.int .u64 0, .int .u64 0, .int .u32 0, .int .u8 0, .int .u8 0, .int .u8 0, .int .u8 0, .nilFunc, .pointer none, .int .i32 0, .int .i32 0]), (170, .pointer none)]
def AllP {α : Type} (Q : α → Prop) : List α → Prop
  | [] => True
  | a :: r => Q a ∧ AllP Q r
theorem AllP.mem {α : Type} {Q : α → Prop} : ∀ {l : List α}, AllP Q l → ∀ a ∈ l, Q a
  | [], _, a, h => by cases h
  | b :: r, h, a, ha => by
    rcases List.mem_cons.1 ha with rfl | ha
    · exact h.1
    · exact AllP.mem h.2 a ha
theorem zr_all : AllP (fun p : Nat × Value => zeroB Try.prog p.1 = some p.2) zrL := ⟨Z1, Z2, Z3, Z4, Z5, Z6, Z7, Z8, Z9, Z10, Z11, Z12, Z13, Z14, Z15, Z16, Z17, Z18, Z19, Z21, Z22, Z23, Z24, Z25, Z26, Z27, Z28, Z29, Z30, Z31, Z32, Z33, Z35, Z36, Z37, Z38, Z39, Z40, Z41, Z43, Z44, Z46, Z47, Z48, Z49, Z50, Z51, Z52, Z53, Z55, Z56, Z57, Z58, Z59, Z60, Z61, Z62, Z63, Z64, Z65, Z66, Z67, Z68, Z69, Z70, Z71, Z72, Z73, Z74, Z75, Z76, Z77, Z78, Z79, Z80, Z81, Z82, Z83, Z84, Z85, Z86, Z87, Z88, Z89, Z90, Z91, Z92, Z93, Z94, Z95, Z96, Z97, Z98, Z99, Z100, Z101, Z102, Z104, Z106, Z108, Z109, Z110, Z111, Z112, Z113, Z114, Z115, Z116, Z117, Z118, Z119, Z120, Z121, Z122, Z123, Z124, Z125, Z126, Z127, Z128, Z129, Z130, Z131, Z132, Z133, Z134, Z135, Z136, Z137, Z138, Z139, Z140, Z141, Z143, Z145, Z146, Z147, Z148, Z149, Z150, Z151, Z152, Z153, Z154, Z155, Z156, Z157, Z158, Z159, Z160, Z161, Z162, Z163, Z164, Z165, Z166, Z167, Z168, Z169, Z170, trivial⟩
theorem ZR {t : Nat} {z : Value} (h : lkN zrL t = some z) : zeroB Try.prog t = some z := zr_all.mem _ (lkN_mem h)
def plL : List (Nat × List (Nat × Nat)) := [(7, [(0, 1), (1, 1), (2, 1), (3, 1)]), (8, [(0, 1), (1, 1), (2, 1), (3, 1)]), (13, [(0, 1), (1, 1)]), (14, [(0, 1), (1, 1)]), (18, [(0, 1)]), (19, [(0, 1)]), (24, [(0, 1), (1, 1), (2, 1), (3, 1), (4, 1)]), (25, [(0, 1), (1, 1), (2, 1), (3, 1), (4, 1)]), (26, [(0, 1), (1, 1), (2, 1), (3, 5), (8, 1), (9, 1)]), (27, [(0, 1), (1, 1), (2, 1), (3, 5), (8, 1), (9, 1)]), (29, [(0, 1), (1, 1), (2, 1), (3, 1)]), (30, [(0, 1), (1, 1), (2, 1), (3, 1)]), (65, [(0, 1), (1, 1), (2, 1)]), (66, [(0, 1), (1, 1), (2, 1)]), (71, [(0, 1), (1, 1)]), (72, [(0, 1), (1, 1)]), (79, [(0, 1)]), (80, [(0, 1)]), (91, [(0, 1)]), (92, [(0, 1)]), (100, [(0, 1), (1, 1)]), (101, [(0, 1), (1, 1)]), (110, [(0, 1), (1, 1)]), (111, [(0, 1), (1, 1)]), (112, [(0, 1), (1, 1), (2, 2), (4, 1), (5, 1)]), (113, [(0, 1), (1, 1), (2, 2), (4, 1), (5, 1)]), (116, [(0, 1), (1, 6), (7, 6), (13, 1), (14, 1), (15, 1)]), (117, [(0, 1), (1, 6), (7, 6), (13, 1), (14, 1), (15, 1)]), (120, [(0, 1), (1, 6), (7, 1), (8, 1)]), (121, [(0, 1), (1, 6), (7, 1), (8, 1)]), (156, [(0, 1), (1, 1), (2, 1), (3, 1)]), (157, [(0, 1), (1, 1), (2, 1), (3, 1)]), (159, [(0, 0)]), (160, [(0, 0)]), (168, [(0, 1), (1, 1), (2, 1), (3, 1), (4, 1), (5, 1), (6, 1), (7, 1), (8, 1), (9, 1), (10, 1)]), (169, [(0, 1), (1, 1), (2, 1), (3, 1), (4, 1), (5, 1), (6, 1), (7, 1), (8, 1), (9, 1), (10, 1)])]
theorem pl_all : (plL.all fun p => placesB Try.prog p.1 == some p.2) = true := by kernel_rfl
theorem PL {t : Nat} {p : List (Nat × Nat)} (h : lkN plL t = some p) : placesB Try.prog t = some p := by
  simpa using List.all_eq_true.1 pl_all _ (lkN_mem h)
def efL : List (Nat × List Nat) := [(91, [0]), (92, [0]), (110, [0, 1]), (111, [0, 1])]
theorem ef_all : (efL.all fun p => eqfB Try.prog p.1 == some p.2) = true := by kernel_rfl
theorem EF {t : Nat} {l : List Nat} (h : lkN efL t = some l) : eqfB Try.prog t = some l := by
  simpa using List.all_eq_true.1 ef_all _ (lkN_mem h)
theorem mixed : Try.prog.follows .mixedOrders = true := by kernel_rfl
theorem one_all : (zrL.all fun p => p.2.cells.toList.all (·.oneCell')) = true := by kernel_rfl
def tab : Tab := { ag := lkN agL, sz := lkN szL, fd := lkM fdL, el := lkN elL, bo := inN boL, st := inN stL, zr := fun t => match lkN zrL t with | some z => some (z.cells.toList.map constC) | none => none, pl := lkN plL, ef := lkN efL }
theorem tabOk : TabOk Try.prog tab := by
  refine ⟨fun _ _ h => AG h, fun _ _ h => SZ h, fun _ _ _ _ h => FD h, fun _ _ h => EL h, fun _ h => BO h, fun _ h => ST h, fun t cs h => ?_, fun _ _ h => PL h, fun _ _ h => EF h⟩
  simp only [tab] at h
  split at h
  · rename_i z hz
    cases h
    exact ⟨z, ZR hz, List.all_eq_true.1 one_all _ (lkN_mem hz), rfl⟩
  · cases h
end Go.Proofs.Ytffpepmfdjjjaaa
