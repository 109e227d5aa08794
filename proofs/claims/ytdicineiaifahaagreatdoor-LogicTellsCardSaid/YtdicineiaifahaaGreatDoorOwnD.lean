/- What the program's functions compute, each shown once; and plain laws of it. -/
import Derived.Test.YtdicineiaifahaaGreatDoorRows
import Derived.Test.YtdicineiaifahaaGreatDoorPureC
import Derived.Shelf.Bits.Mul64
import Derived.Shelf.Spec.BitsCarry
import Derived.Shelf.Small.Bits
/- What the program says of its types and functions: tables, held against the program by the kernel. Printed by wip/tools/gen_facts.py. -/
set_option maxRecDepth 100000
namespace Go.Proofs.YtdicineiaifahaaGreatDoor
open Go.Pure

def agL : List (Nat × Bool) := [(0, false), (1, false), (2, false), (3, false), (4, false), (5, false), (6, false), (7, true), (8, true), (9, false), (10, false), (11, false), (12, false), (13, true), (14, true), (15, false), (16, false), (17, false), (18, true), (19, true), (20, false), (21, false), (22, true), (23, true), (24, false), (25, true), (26, true), (27, false), (28, false), (29, false), (30, false), (31, false), (32, false), (33, false), (34, false), (35, false), (36, false), (37, true), (38, true), (39, false), (40, false), (41, false), (42, false), (43, false), (44, false), (45, false), (46, true), (47, true), (48, false), (49, false), (50, false), (51, false), (52, false), (53, false), (54, false), (55, false), (56, false), (57, false), (58, false), (59, false), (60, true), (61, true), (62, true), (63, true), (64, false), (65, false), (66, false), (67, false), (68, true), (69, true), (70, false), (71, false), (72, false), (73, false), (74, false), (75, true), (76, true), (77, true), (78, true), (79, false), (80, false), (81, false), (82, false), (83, false), (84, false), (85, false), (86, false), (87, false), (88, false), (89, false), (90, false), (91, false), (92, false), (93, false), (94, false), (95, false), (96, false), (97, false), (98, false), (99, false), (100, false), (101, false), (102, false), (103, false), (104, false), (105, false), (106, false), (107, false), (108, false), (109, false), (110, false), (111, false), (112, false), (113, false), (114, false), (115, false), (116, false), (117, false), (118, false), (119, false), (120, false), (121, false), (122, false), (123, false), (124, false), (125, false), (126, false), (127, false), (128, false), (129, false), (130, false), (131, false), (132, false), (133, false), (134, false), (135, true), (136, true), (137, false), (138, false), (139, false), (140, false), (141, false), (142, false), (143, false), (144, true), (145, true), (146, false), (147, false), (148, true), (149, true), (150, true), (151, true), (152, false), (153, false), (154, false), (155, false), (156, false), (157, false), (158, false), (159, false), (160, false), (161, false), (162, false), (163, false), (164, false), (165, false), (166, false), (167, false), (168, false), (169, false), (170, false), (171, false), (172, false), (173, false), (174, false), (175, false), (176, true), (177, true), (178, true), (179, true), (180, true), (181, true), (182, true), (183, true), (184, true), (185, true), (186, true), (187, false), (188, false), (189, false), (190, false), (191, false), (192, true), (193, true), (194, false), (195, false), (196, false), (197, false), (198, false), (199, false), (200, false), (201, true), (202, false), (203, false), (204, false), (205, false), (206, false), (207, false), (208, false), (209, false), (210, false), (211, false), (212, false), (213, false), (214, false), (215, true), (216, true), (217, true), (218, false), (219, true), (220, true), (221, true), (222, true), (223, false), (224, false), (225, false), (226, false), (227, false), (228, false), (229, false), (230, false), (231, false), (232, false), (233, false), (234, false), (235, false), (236, false), (237, false), (238, true), (239, true), (240, true), (241, true), (242, false), (243, false), (244, false), (245, false), (246, false), (247, false), (248, false), (249, false), (250, false), (251, true), (252, true), (253, false), (254, false), (255, false), (256, false), (257, false), (258, false), (259, false), (260, false), (261, false), (262, false), (263, false), (264, false), (265, false), (266, true), (267, true), (268, true), (269, true), (270, false), (271, false), (272, false), (273, false), (274, false), (275, false), (276, false), (277, false), (278, false), (279, false), (280, false), (281, false), (282, false), (283, false), (284, false), (285, false), (286, false), (287, false), (288, false), (289, false), (290, false), (291, false), (292, false), (293, false), (294, false), (295, true), (296, true), (297, true), (298, true), (299, true), (300, false), (301, false), (302, false), (303, false), (304, false), (305, false), (306, true), (307, true), (308, false), (309, true), (310, true), (311, true), (312, true), (313, true), (314, true), (315, false), (316, true), (317, true)]
def szL : List (Nat × Nat) := [(0, 1), (1, 1), (2, 1), (3, 1), (4, 1), (5, 1), (6, 1), (7, 4), (8, 4), (9, 1), (10, 1), (11, 1), (12, 1), (13, 2), (14, 2), (15, 1), (16, 1), (17, 1), (18, 1), (19, 1), (20, 1), (21, 1), (22, 2), (23, 2), (24, 1), (25, 6), (26, 6), (27, 1), (28, 1), (29, 1), (30, 1), (31, 1), (32, 1), (33, 1), (34, 1), (35, 1), (36, 1), (37, 1), (38, 1), (39, 1), (40, 1), (41, 1), (42, 1), (43, 1), (44, 1), (45, 1), (46, 1), (47, 1), (48, 1), (49, 1), (50, 1), (51, 1), (52, 1), (53, 1), (54, 1), (55, 1), (56, 1), (57, 1), (58, 1), (59, 1), (60, 256), (61, 2), (62, 2), (63, 32), (64, 1), (65, 1), (66, 1), (67, 1), (68, 2), (69, 2), (70, 1), (71, 1), (72, 1), (73, 1), (74, 1), (75, 2), (76, 2), (77, 4), (78, 4), (79, 1), (80, 1), (81, 1), (82, 1), (83, 1), (84, 1), (85, 1), (86, 1), (87, 1), (88, 1), (89, 1), (90, 1), (91, 1), (92, 1), (93, 1), (94, 1), (95, 1), (96, 1), (97, 1), (98, 1), (99, 1), (100, 1), (101, 1), (102, 1), (103, 1), (104, 1), (105, 1), (106, 1), (107, 1), (108, 1), (109, 1), (110, 1), (111, 1), (112, 1), (113, 1), (114, 1), (115, 1), (116, 1), (117, 1), (118, 1), (119, 1), (120, 1), (121, 1), (122, 1), (123, 1), (124, 1), (125, 1), (126, 1), (127, 1), (128, 1), (129, 1), (130, 1), (131, 1), (132, 1), (133, 1), (134, 1), (135, 1), (136, 1), (137, 1), (138, 1), (139, 1), (140, 1), (141, 1), (142, 1), (143, 1), (144, 0), (145, 0), (146, 1), (147, 1), (148, 5), (149, 5), (150, 1), (151, 1), (152, 1), (153, 1), (154, 1), (155, 1), (156, 1), (157, 1), (158, 1), (159, 1), (160, 1), (161, 1), (162, 1), (163, 1), (164, 1), (165, 1), (166, 1), (167, 1), (168, 1), (169, 1), (170, 1), (171, 1), (172, 1), (173, 1), (174, 1), (175, 1), (176, 0), (177, 0), (178, 1), (179, 1), (180, 2), (181, 2), (182, 3), (183, 3), (184, 96), (185, 99), (186, 99), (187, 1), (188, 1), (189, 1), (190, 1), (191, 1), (192, 1), (193, 1), (194, 1), (195, 1), (196, 1), (197, 1), (198, 1), (199, 1), (200, 1), (201, 16), (202, 1), (203, 1), (204, 1), (205, 1), (206, 1), (207, 1), (208, 1), (209, 1), (210, 1), (211, 1), (212, 1), (213, 1), (214, 1), (215, 0), (216, 1), (217, 1), (218, 1), (219, 2), (220, 2), (221, 4), (222, 4), (223, 1), (224, 1), (225, 1), (226, 1), (227, 1), (228, 1), (229, 1), (230, 1), (231, 1), (232, 1), (233, 1), (234, 1), (235, 1), (236, 1), (237, 1), (238, 2), (239, 2), (240, 2), (241, 2), (242, 1), (243, 1), (244, 1), (245, 1), (246, 1), (247, 1), (248, 1), (249, 1), (250, 1), (251, 32), (252, 64), (253, 1), (254, 1), (255, 1), (256, 1), (257, 1), (258, 1), (259, 1), (260, 1), (261, 1), (262, 1), (263, 1), (264, 1), (265, 1), (266, 3), (267, 3), (268, 192), (269, 194), (270, 1), (271, 1), (272, 1), (273, 1), (274, 1), (275, 1), (276, 1), (277, 1), (278, 1), (279, 1), (280, 1), (281, 1), (282, 1), (283, 1), (284, 1), (285, 1), (286, 1), (287, 1), (288, 1), (289, 1), (290, 1), (291, 1), (292, 1), (293, 1), (294, 1), (295, 4), (296, 4), (297, 0), (298, 0), (299, 0), (300, 1), (301, 1), (302, 1), (303, 1), (304, 1), (305, 1), (306, 11), (307, 11), (308, 1), (309, 2), (310, 2), (311, 1), (312, 1), (313, 2), (314, 2), (315, 1), (316, 2), (317, 2)]
def fdL : List ((Nat × Nat) × (Nat × Nat)) := [((7, 0), (0, 2)), ((7, 1), (1, 3)), ((7, 2), (2, 4)), ((7, 3), (3, 6)), ((8, 0), (0, 2)), ((8, 1), (1, 3)), ((8, 2), (2, 4)), ((8, 3), (3, 6)), ((13, 0), (0, 9)), ((13, 1), (1, 12)), ((14, 0), (0, 9)), ((14, 1), (1, 12)), ((18, 0), (0, 17)), ((19, 0), (0, 17)), ((22, 0), (0, 2)), ((22, 1), (1, 3)), ((23, 0), (0, 2)), ((23, 1), (1, 3)), ((25, 0), (0, 3)), ((25, 1), (1, 4)), ((25, 2), (2, 23)), ((25, 3), (4, 9)), ((25, 4), (5, 24)), ((26, 0), (0, 3)), ((26, 1), (1, 4)), ((26, 2), (2, 23)), ((26, 3), (4, 9)), ((26, 4), (5, 24)), ((37, 0), (0, 3)), ((38, 0), (0, 3)), ((46, 0), (0, 3)), ((47, 0), (0, 3)), ((61, 0), (0, 5)), ((61, 1), (1, 5)), ((62, 0), (0, 5)), ((62, 1), (1, 5)), ((68, 0), (0, 4)), ((68, 1), (1, 67)), ((69, 0), (0, 4)), ((69, 1), (1, 67)), ((75, 0), (0, 4)), ((75, 1), (1, 74)), ((76, 0), (0, 4)), ((76, 1), (1, 74)), ((77, 0), (0, 76)), ((77, 1), (2, 76)), ((78, 0), (0, 76)), ((78, 1), (2, 76)), ((135, 0), (0, 134)), ((136, 0), (0, 134)), ((148, 1), (0, 146)), ((148, 2), (1, 12)), ((148, 3), (2, 146)), ((148, 4), (3, 12)), ((148, 5), (4, 147)), ((149, 1), (0, 146)), ((149, 2), (1, 12)), ((149, 3), (2, 146)), ((149, 4), (3, 12)), ((149, 5), (4, 147)), ((150, 0), (0, 66)), ((151, 0), (0, 66)), ((178, 2), (0, 146)), ((179, 2), (0, 146)), ((180, 0), (0, 175)), ((180, 1), (1, 179)), ((181, 0), (0, 175)), ((181, 1), (1, 179)), ((182, 0), (0, 20)), ((182, 1), (1, 181)), ((183, 0), (0, 20)), ((183, 1), (1, 181)), ((185, 0), (0, 183)), ((185, 1), (3, 184)), ((186, 0), (0, 183)), ((186, 1), (3, 184)), ((192, 0), (0, 20)), ((193, 0), (0, 20)), ((216, 2), (0, 89)), ((217, 2), (0, 89)), ((219, 0), (0, 217)), ((219, 1), (1, 218)), ((220, 0), (0, 217)), ((220, 1), (1, 218)), ((221, 0), (0, 220)), ((221, 1), (2, 179)), ((221, 2), (3, 179)), ((222, 0), (0, 220)), ((222, 1), (2, 179)), ((222, 2), (3, 179)), ((238, 0), (0, 21)), ((238, 1), (1, 103)), ((239, 0), (0, 21)), ((239, 1), (1, 103)), ((240, 1), (0, 239)), ((241, 1), (0, 239)), ((266, 0), (0, 67)), ((266, 1), (1, 3)), ((266, 2), (2, 3)), ((267, 0), (0, 67)), ((267, 1), (1, 3)), ((267, 2), (2, 3)), ((269, 0), (0, 241)), ((269, 1), (2, 268)), ((295, 0), (0, 17)), ((295, 1), (1, 17)), ((295, 2), (2, 17)), ((295, 3), (3, 9)), ((296, 0), (0, 17)), ((296, 1), (1, 17)), ((296, 2), (2, 17)), ((296, 3), (3, 9)), ((306, 0), (0, 12)), ((306, 1), (1, 12)), ((306, 2), (2, 103)), ((306, 3), (3, 300)), ((306, 4), (4, 5)), ((306, 5), (5, 5)), ((306, 6), (6, 301)), ((306, 7), (7, 302)), ((306, 8), (8, 303)), ((306, 9), (9, 304)), ((306, 10), (10, 305)), ((307, 0), (0, 12)), ((307, 1), (1, 12)), ((307, 2), (2, 103)), ((307, 3), (3, 300)), ((307, 4), (4, 5)), ((307, 5), (5, 5)), ((307, 6), (6, 301)), ((307, 7), (7, 302)), ((307, 8), (8, 303)), ((307, 9), (9, 304)), ((307, 10), (10, 305)), ((309, 0), (0, 146)), ((309, 1), (1, 146)), ((310, 0), (0, 146)), ((310, 1), (1, 146)), ((311, 0), (0, 9)), ((312, 0), (0, 9)), ((313, 0), (0, 9)), ((313, 1), (1, 277)), ((314, 0), (0, 9)), ((314, 1), (1, 277)), ((316, 0), (0, 9)), ((316, 1), (1, 315)), ((317, 0), (0, 9)), ((317, 1), (1, 315))]
def elL : List (Nat × Nat) := [(24, 26), (65, 23), (66, 91), (67, 91), (74, 103), (218, 310), (236, 5), (242, 171), (244, 186), (261, 267), (315, 277)]
def boL : List Nat := [4]
def stL : List Nat := [9, 10, 11]
def byL : List (Nat × Nat) := [(0, 0), (1, 8), (2, 8), (3, 8), (4, 1), (5, 1), (6, 1), (7, 24), (8, 24), (9, 16), (10, 16), (11, 16), (12, 8), (13, 24), (14, 24), (15, 8), (16, 8), (17, 8), (18, 8), (19, 8), (20, 16), (21, 4), (22, 16), (23, 16), (24, 24), (25, 72), (26, 72), (27, 8), (28, 8), (29, 8), (30, 8), (31, 8), (32, 8), (33, 8), (34, 8), (35, 8), (36, 8), (37, 8), (38, 8), (39, 8), (40, 8), (41, 0), (42, 8), (43, 8), (44, 8), (45, 8), (46, 8), (47, 8), (48, 8), (49, 8), (50, 8), (51, 8), (52, 8), (53, 8), (54, 8), (55, 8), (56, 8), (57, 8), (58, 8), (59, 8), (60, 256), (61, 2), (62, 2), (63, 32), (64, 8), (65, 24), (66, 24), (67, 24), (68, 32), (69, 32), (70, 8), (71, 8), (72, 8), (73, 8), (74, 24), (75, 32), (76, 32), (77, 64), (78, 64), (79, 8), (80, 8), (81, 8), (82, 8), (83, 8), (84, 8), (85, 8), (86, 8), (87, 8), (88, 8), (89, 8), (90, 8), (91, 8), (92, 8), (93, 8), (94, 8), (95, 8), (96, 8), (97, 8), (98, 8), (99, 8), (100, 8), (101, 8), (102, 8), (103, 4), (104, 0), (105, 8), (106, 8), (107, 8), (108, 0), (109, 8), (110, 8), (111, 8), (112, 8), (113, 8), (114, 8), (115, 8), (116, 8), (117, 8), (118, 8), (119, 8), (120, 8), (121, 8), (122, 8), (123, 8), (124, 0), (125, 8), (126, 8), (127, 8), (128, 0), (129, 8), (130, 8), (131, 8), (132, 8), (133, 8), (134, 8), (135, 8), (136, 8), (137, 8), (138, 8), (139, 8), (140, 8), (141, 8), (142, 8), (143, 0), (144, 0), (145, 0), (146, 8), (147, 8), (148, 40), (149, 40), (150, 24), (151, 24), (152, 8), (153, 8), (154, 8), (155, 8), (156, 8), (157, 0), (158, 8), (159, 8), (160, 8), (161, 0), (162, 8), (163, 0), (164, 8), (165, 0), (166, 8), (167, 8), (168, 8), (169, 8), (170, 8), (171, 8), (172, 8), (173, 0), (174, 8), (175, 8), (176, 0), (177, 0), (178, 8), (179, 8), (180, 16), (181, 16), (182, 32), (183, 32), (184, 96), (185, 128), (186, 128), (187, 0), (188, 8), (189, 8), (190, 8), (191, 8), (192, 16), (193, 16), (194, 8), (195, 8), (196, 8), (197, 0), (198, 8), (199, 8), (200, 8), (201, 384), (202, 8), (203, 8), (204, 8), (205, 8), (206, 8), (207, 0), (208, 8), (209, 8), (210, 8), (211, 8), (212, 8), (213, 8), (214, 8), (215, 0), (216, 8), (217, 8), (218, 24), (219, 32), (220, 32), (221, 48), (222, 48), (223, 8), (224, 8), (225, 0), (226, 8), (227, 8), (228, 0), (229, 8), (230, 8), (231, 8), (232, 8), (233, 8), (234, 8), (235, 8), (236, 24), (237, 8), (238, 8), (239, 8), (240, 8), (241, 8), (242, 24), (243, 8), (244, 24), (245, 8), (246, 8), (247, 8), (248, 8), (249, 8), (250, 8), (251, 32), (252, 64), (253, 8), (254, 8), (255, 8), (256, 8), (257, 8), (258, 8), (259, 0), (260, 8), (261, 24), (262, 8), (263, 8), (264, 8), (265, 8), (266, 40), (267, 40), (268, 2560), (269, 2568), (270, 8), (271, 8), (272, 8), (273, 8), (274, 8), (275, 8), (276, 16), (277, 16), (278, 0), (279, 8), (280, 8), (281, 8), (282, 8), (283, 8), (284, 8), (285, 8), (286, 8), (287, 8), (288, 8), (289, 8), (290, 8), (291, 8), (292, 8), (293, 8), (294, 8), (295, 40), (296, 40), (297, 0), (298, 0), (299, 0), (300, 1), (301, 1), (302, 8), (303, 8), (304, 4), (305, 4), (306, 48), (307, 48), (308, 8), (309, 16), (310, 16), (311, 16), (312, 16), (313, 32), (314, 32), (315, 24), (316, 40), (317, 40)]
def ikL : List (Nat × IntKind) := [(2, .i64), (3, .i64), (5, .u8), (6, .u8), (12, .u64), (21, .i32), (28, .i64), (64, .u64), (89, .u64), (91, .u64), (103, .u32), (300, .u8), (301, .u8), (304, .i32), (305, .i32)]
def enL : List Nat := [3, 4, 5, 6, 7, 8, 9, 10, 11, 12, 13, 14, 15, 16, 17, 18, 19, 20, 21, 22, 23, 24, 25, 26, 27, 28, 29, 31, 32, 33, 34, 35, 36, 37, 39, 40, 41, 42, 43, 44, 45, 46, 47, 48, 49, 50, 51, 52, 53, 54, 55, 56, 57, 58, 59, 60, 61, 62, 63, 64, 65, 66, 67, 68, 69, 70, 71, 72, 73, 74, 75, 76, 77, 78, 79, 80, 81, 82, 83, 84, 85, 86, 87, 88, 89, 90, 91, 92, 93, 94, 95, 96, 97, 98, 99, 100, 102, 103, 104, 107, 108, 109, 110, 111, 113, 114, 117, 118, 119, 120, 121, 122, 123, 124, 125, 126, 127, 128, 129, 131, 132, 133, 134, 135, 138, 139, 150, 151, 152, 153, 154, 155, 156, 157, 158, 159, 160, 161, 162, 163, 164, 169, 179, 180, 181, 182, 183, 184, 185, 186, 187, 189, 190, 191, 192, 193, 196, 205, 206, 207, 208, 209, 210, 211, 213, 214, 215, 219, 220, 223, 228]

def lkN {α : Type} : List (Nat × α) → Nat → Option α
  | [], _ => none
  | (k, a) :: r, t => bif Nat.beq t k then some a else lkN r t
def lkM : List ((Nat × Nat) × (Nat × Nat)) → Nat → Nat → Option (Nat × Nat)
  | [], _, _ => none
  | ((k, j), a) :: r, t, i => bif Nat.beq t k && Nat.beq i j then some a else lkM r t i
def inN : List Nat → Nat → Bool
  | [], _ => false
  | k :: r, t => bif Nat.beq t k then true else inN r t
theorem lkN_mem {α : Type} : ∀ {l : List (Nat × α)} {t : Nat} {a : α}, lkN l t = some a → (t, a) ∈ l
  | [], _, _, h => by cases h
  | (k, b) :: r, t, a, h => by
    unfold lkN at h
    cases e : Nat.beq t k with
    | true => rw [e, cond_true] at h; cases h; rw [Nat.eq_of_beq_eq_true e]; exact List.mem_cons_self
    | false => rw [e, cond_false] at h; exact List.mem_cons_of_mem _ (lkN_mem h)
theorem lkM_mem : ∀ {l : List ((Nat × Nat) × (Nat × Nat))} {t i : Nat} {a : Nat × Nat}, lkM l t i = some a → ((t, i), a) ∈ l
  | [], _, _, _, h => by cases h
  | ((k, j), b) :: r, t, i, a, h => by
    unfold lkM at h
    cases e : (Nat.beq t k && Nat.beq i j) with
    | true =>
      rw [e, cond_true] at h; cases h
      simp only [Bool.and_eq_true] at e
      rw [Nat.eq_of_beq_eq_true e.1, Nat.eq_of_beq_eq_true e.2]; exact List.mem_cons_self
    | false => rw [e, cond_false] at h; exact List.mem_cons_of_mem _ (lkM_mem h)
theorem inN_mem : ∀ {l : List Nat} {t : Nat}, inN l t = true → t ∈ l
  | [], _, h => by cases h
  | k :: r, t, h => by
    unfold inN at h
    cases e : Nat.beq t k with
    | true => rw [Nat.eq_of_beq_eq_true e]; exact List.mem_cons_self
    | false => rw [e, cond_false] at h; exact List.mem_cons_of_mem _ (inN_mem h)

theorem ag_all : (agL.all fun p => aggB Tryz.prog p.1 == some p.2) = true := by kernel_rfl
theorem sz_all : (szL.all fun p => szB Tryz.prog p.1 == some p.2) = true := by kernel_rfl
theorem fd_all : (fdL.all fun p => fieldB Tryz.prog p.1.1 p.1.2 == some p.2) = true := by kernel_rfl
def uSl (d : Option TypeDesc) : Option Nat := match d with | some (.slice e) => some e | _ => none
def uBo (d : Option TypeDesc) : Bool := match d with | some .bool => true | _ => false
def uSt (d : Option TypeDesc) : Bool := match d with | some .string => true | _ => false
theorem el_all : (elL.all fun p => uSl (Tryz.prog.underlying p.1) == some p.2) = true := by kernel_rfl
theorem bo_all : (boL.all fun p => uBo (Tryz.prog.underlying p)) = true := by kernel_rfl
theorem st_all : (stL.all fun p => uSt (Tryz.prog.underlying p)) = true := by kernel_rfl
theorem by_all : (byL.all fun p => bytesB Tryz.prog p.1 == some p.2) = true := by kernel_rfl
theorem ik_all : (ikL.all fun p => match intB Tryz.prog p.1 with | some k => kindEq k p.2 | none => false) = true := by kernel_rfl
theorem en_all : (enL.all fun p => enterB Tryz.prog p) = true := by kernel_rfl

theorem AG {t : Nat} {b : Bool} (h : lkN agL t = some b) : aggB Tryz.prog t = some b := by
  simpa using List.all_eq_true.1 ag_all _ (lkN_mem h)
theorem SZ {t n : Nat} (h : lkN szL t = some n) : szB Tryz.prog t = some n := by
  simpa using List.all_eq_true.1 sz_all _ (lkN_mem h)
theorem BY {t n : Nat} (h : lkN byL t = some n) : bytesB Tryz.prog t = some n := by
  simpa using List.all_eq_true.1 by_all _ (lkN_mem h)
theorem IK {t : Nat} {k : IntKind} (h : lkN ikL t = some k) : intB Tryz.prog t = some k := by
  have h1 := List.all_eq_true.1 ik_all _ (lkN_mem h)
  simp only at h1
  split at h1
  · rename_i k' e; rw [e, kindEq_ok h1]
  · cases h1
theorem FD {t k d ft : Nat} (h : lkM fdL t k = some (d, ft)) : fieldB Tryz.prog t k = some (d, ft) := by
  simpa using List.all_eq_true.1 fd_all _ (lkM_mem h)
theorem EL {t e : Nat} (h : lkN elL t = some e) : Tryz.prog.underlying t = some (.slice e) := by
  have h1 : uSl (Tryz.prog.underlying t) = some e := by simpa using List.all_eq_true.1 el_all _ (lkN_mem h)
  unfold uSl at h1
  split at h1
  · rename_i e' he; cases h1; exact he
  · cases h1
theorem BO {t : Nat} (h : inN boL t = true) : Tryz.prog.underlying t = some .bool := by
  have h1 := List.all_eq_true.1 bo_all _ (inN_mem h)
  unfold uBo at h1
  split at h1
  · assumption
  · cases h1
theorem ST {t : Nat} (h : inN stL t = true) : Tryz.prog.underlying t = some .string := by
  have h1 := List.all_eq_true.1 st_all _ (inN_mem h)
  unfold uSt at h1
  split at h1
  · assumption
  · cases h1
theorem EN {f : Nat} (h : inN enL f = true) : enterB Tryz.prog f = true := List.all_eq_true.1 en_all _ (inN_mem h)

theorem Z1 : zeroB Tryz.prog 1 = some (.nilFunc) := by kernel_rfl
theorem Z2 : zeroB Tryz.prog 2 = some (.int .i64 0) := by kernel_rfl
theorem Z3 : zeroB Tryz.prog 3 = some (.int .i64 0) := by kernel_rfl
theorem Z4 : zeroB Tryz.prog 4 = some (.bool false) := by kernel_rfl
theorem Z5 : zeroB Tryz.prog 5 = some (.int .u8 0) := by kernel_rfl
theorem Z6 : zeroB Tryz.prog 6 = some (.int .u8 0) := by kernel_rfl
theorem Z7 : zeroB Tryz.prog 7 = some (.agg #[.int .i64 0, .int .i64 0, .bool false, .int .u8 0]) := by kernel_rfl
theorem Z8 : zeroB Tryz.prog 8 = some (.agg #[.int .i64 0, .int .i64 0, .bool false, .int .u8 0]) := by kernel_rfl
theorem Z9 : zeroB Tryz.prog 9 = some (.string ⟨#[]⟩) := by kernel_rfl
theorem Z10 : zeroB Tryz.prog 10 = some (.string ⟨#[]⟩) := by kernel_rfl
theorem Z11 : zeroB Tryz.prog 11 = some (.string ⟨#[]⟩) := by kernel_rfl
theorem Z12 : zeroB Tryz.prog 12 = some (.int .u64 0) := by kernel_rfl
theorem Z13 : zeroB Tryz.prog 13 = some (.agg #[.string ⟨#[]⟩, .int .u64 0]) := by kernel_rfl
theorem Z14 : zeroB Tryz.prog 14 = some (.agg #[.string ⟨#[]⟩, .int .u64 0]) := by kernel_rfl
theorem Z15 : zeroB Tryz.prog 15 = some (.pointer none) := by kernel_rfl
theorem Z16 : zeroB Tryz.prog 16 = some (.pointer none) := by kernel_rfl
theorem Z17 : zeroB Tryz.prog 17 = some (.pointer none) := by kernel_rfl
theorem Z18 : zeroB Tryz.prog 18 = some (.agg #[.pointer none]) := by kernel_rfl
theorem Z19 : zeroB Tryz.prog 19 = some (.agg #[.pointer none]) := by kernel_rfl
theorem Z21 : zeroB Tryz.prog 21 = some (.int .i32 0) := by kernel_rfl
theorem Z22 : zeroB Tryz.prog 22 = some (.agg #[.int .i64 0, .int .i64 0]) := by kernel_rfl
theorem Z23 : zeroB Tryz.prog 23 = some (.agg #[.int .i64 0, .int .i64 0]) := by kernel_rfl
theorem Z24 : zeroB Tryz.prog 24 = some (.slice none 0 0) := by kernel_rfl
theorem Z25 : zeroB Tryz.prog 25 = some (.agg #[.int .i64 0, .bool false, .int .i64 0, .int .i64 0, .string ⟨#[]⟩, .slice none 0 0]) := by kernel_rfl
theorem Z26 : zeroB Tryz.prog 26 = some (.agg #[.int .i64 0, .bool false, .int .i64 0, .int .i64 0, .string ⟨#[]⟩, .slice none 0 0]) := by kernel_rfl
theorem Z27 : zeroB Tryz.prog 27 = some (.nilFunc) := by kernel_rfl
theorem Z28 : zeroB Tryz.prog 28 = some (.int .i64 0) := by kernel_rfl
theorem Z29 : zeroB Tryz.prog 29 = some (.nilFunc) := by kernel_rfl
theorem Z30 : zeroB Tryz.prog 30 = some (.nilFunc) := by kernel_rfl
theorem Z31 : zeroB Tryz.prog 31 = some (.nilFunc) := by kernel_rfl
theorem Z32 : zeroB Tryz.prog 32 = some (.nilFunc) := by kernel_rfl
theorem Z33 : zeroB Tryz.prog 33 = some (.nilFunc) := by kernel_rfl
theorem Z34 : zeroB Tryz.prog 34 = some (.nilFunc) := by kernel_rfl
theorem Z35 : zeroB Tryz.prog 35 = some (.nilFunc) := by kernel_rfl
theorem Z36 : zeroB Tryz.prog 36 = some (.pointer none) := by kernel_rfl
theorem Z37 : zeroB Tryz.prog 37 = some (.agg #[.int .i64 0]) := by kernel_rfl
theorem Z38 : zeroB Tryz.prog 38 = some (.agg #[.int .i64 0]) := by kernel_rfl
theorem Z39 : zeroB Tryz.prog 39 = some (.nilFunc) := by kernel_rfl
theorem Z40 : zeroB Tryz.prog 40 = some (.pointer none) := by kernel_rfl
theorem Z42 : zeroB Tryz.prog 42 = some (.nilFunc) := by kernel_rfl
theorem Z43 : zeroB Tryz.prog 43 = some (.nilFunc) := by kernel_rfl
theorem Z44 : zeroB Tryz.prog 44 = some (.nilFunc) := by kernel_rfl
theorem Z45 : zeroB Tryz.prog 45 = some (.pointer none) := by kernel_rfl
theorem Z46 : zeroB Tryz.prog 46 = some (.agg #[.int .i64 0]) := by kernel_rfl
theorem Z47 : zeroB Tryz.prog 47 = some (.agg #[.int .i64 0]) := by kernel_rfl
theorem Z48 : zeroB Tryz.prog 48 = some (.nilFunc) := by kernel_rfl
theorem Z49 : zeroB Tryz.prog 49 = some (.nilFunc) := by kernel_rfl
theorem Z50 : zeroB Tryz.prog 50 = some (.nilFunc) := by kernel_rfl
theorem Z51 : zeroB Tryz.prog 51 = some (.nilFunc) := by kernel_rfl
theorem Z52 : zeroB Tryz.prog 52 = some (.nilFunc) := by kernel_rfl
theorem Z53 : zeroB Tryz.prog 53 = some (.pointer none) := by kernel_rfl
theorem Z54 : zeroB Tryz.prog 54 = some (.nilFunc) := by kernel_rfl
theorem Z55 : zeroB Tryz.prog 55 = some (.nilFunc) := by kernel_rfl
theorem Z56 : zeroB Tryz.prog 56 = some (.pointer none) := by kernel_rfl
theorem Z57 : zeroB Tryz.prog 57 = some (.nilFunc) := by kernel_rfl
theorem Z58 : zeroB Tryz.prog 58 = some (.nilFunc) := by kernel_rfl
theorem Z59 : zeroB Tryz.prog 59 = some (.nilFunc) := by kernel_rfl
theorem Z61 : zeroB Tryz.prog 61 = some (.agg #[.int .u8 0, .int .u8 0]) := by kernel_rfl
theorem Z62 : zeroB Tryz.prog 62 = some (.agg #[.int .u8 0, .int .u8 0]) := by kernel_rfl
theorem Z64 : zeroB Tryz.prog 64 = some (.int .u64 0) := by kernel_rfl
theorem Z65 : zeroB Tryz.prog 65 = some (.slice none 0 0) := by kernel_rfl
theorem Z66 : zeroB Tryz.prog 66 = some (.slice none 0 0) := by kernel_rfl
theorem Z67 : zeroB Tryz.prog 67 = some (.slice none 0 0) := by kernel_rfl
theorem Z68 : zeroB Tryz.prog 68 = some (.agg #[.bool false, .slice none 0 0]) := by kernel_rfl
theorem Z69 : zeroB Tryz.prog 69 = some (.agg #[.bool false, .slice none 0 0]) := by kernel_rfl
theorem Z70 : zeroB Tryz.prog 70 = some (.nilFunc) := by kernel_rfl
theorem Z71 : zeroB Tryz.prog 71 = some (.nilFunc) := by kernel_rfl
theorem Z72 : zeroB Tryz.prog 72 = some (.nilFunc) := by kernel_rfl
theorem Z73 : zeroB Tryz.prog 73 = some (.nilFunc) := by kernel_rfl
theorem Z74 : zeroB Tryz.prog 74 = some (.slice none 0 0) := by kernel_rfl
theorem Z75 : zeroB Tryz.prog 75 = some (.agg #[.bool false, .slice none 0 0]) := by kernel_rfl
theorem Z76 : zeroB Tryz.prog 76 = some (.agg #[.bool false, .slice none 0 0]) := by kernel_rfl
theorem Z77 : zeroB Tryz.prog 77 = some (.agg #[.bool false, .slice none 0 0, .bool false, .slice none 0 0]) := by kernel_rfl
theorem Z78 : zeroB Tryz.prog 78 = some (.agg #[.bool false, .slice none 0 0, .bool false, .slice none 0 0]) := by kernel_rfl
theorem Z79 : zeroB Tryz.prog 79 = some (.nilFunc) := by kernel_rfl
theorem Z80 : zeroB Tryz.prog 80 = some (.nilFunc) := by kernel_rfl
theorem Z81 : zeroB Tryz.prog 81 = some (.pointer none) := by kernel_rfl
theorem Z82 : zeroB Tryz.prog 82 = some (.nilFunc) := by kernel_rfl
theorem Z83 : zeroB Tryz.prog 83 = some (.nilFunc) := by kernel_rfl
theorem Z84 : zeroB Tryz.prog 84 = some (.nilFunc) := by kernel_rfl
theorem Z85 : zeroB Tryz.prog 85 = some (.nilFunc) := by kernel_rfl
theorem Z86 : zeroB Tryz.prog 86 = some (.nilFunc) := by kernel_rfl
theorem Z87 : zeroB Tryz.prog 87 = some (.nilFunc) := by kernel_rfl
theorem Z88 : zeroB Tryz.prog 88 = some (.nilFunc) := by kernel_rfl
theorem Z89 : zeroB Tryz.prog 89 = some (.int .u64 0) := by kernel_rfl
theorem Z90 : zeroB Tryz.prog 90 = some (.nilFunc) := by kernel_rfl
theorem Z91 : zeroB Tryz.prog 91 = some (.int .u64 0) := by kernel_rfl
theorem Z92 : zeroB Tryz.prog 92 = some (.nilFunc) := by kernel_rfl
theorem Z93 : zeroB Tryz.prog 93 = some (.nilFunc) := by kernel_rfl
theorem Z94 : zeroB Tryz.prog 94 = some (.nilFunc) := by kernel_rfl
theorem Z95 : zeroB Tryz.prog 95 = some (.nilFunc) := by kernel_rfl
theorem Z96 : zeroB Tryz.prog 96 = some (.nilFunc) := by kernel_rfl
theorem Z97 : zeroB Tryz.prog 97 = some (.nilFunc) := by kernel_rfl
theorem Z98 : zeroB Tryz.prog 98 = some (.pointer none) := by kernel_rfl
theorem Z99 : zeroB Tryz.prog 99 = some (.nilFunc) := by kernel_rfl
theorem Z100 : zeroB Tryz.prog 100 = some (.nilFunc) := by kernel_rfl
theorem Z101 : zeroB Tryz.prog 101 = some (.nilFunc) := by kernel_rfl
theorem Z102 : zeroB Tryz.prog 102 = some (.nilFunc) := by kernel_rfl
theorem Z103 : zeroB Tryz.prog 103 = some (.int .u32 0) := by kernel_rfl
theorem Z105 : zeroB Tryz.prog 105 = some (.nilFunc) := by kernel_rfl
theorem Z106 : zeroB Tryz.prog 106 = some (.nilFunc) := by kernel_rfl
theorem Z107 : zeroB Tryz.prog 107 = some (.nilFunc) := by kernel_rfl
theorem Z109 : zeroB Tryz.prog 109 = some (.nilFunc) := by kernel_rfl
theorem Z110 : zeroB Tryz.prog 110 = some (.nilFunc) := by kernel_rfl
theorem Z111 : zeroB Tryz.prog 111 = some (.nilFunc) := by kernel_rfl
theorem Z112 : zeroB Tryz.prog 112 = some (.nilFunc) := by kernel_rfl
theorem Z113 : zeroB Tryz.prog 113 = some (.nilFunc) := by kernel_rfl
theorem Z114 : zeroB Tryz.prog 114 = some (.nilFunc) := by kernel_rfl
theorem Z115 : zeroB Tryz.prog 115 = some (.nilFunc) := by kernel_rfl
theorem Z116 : zeroB Tryz.prog 116 = some (.nilFunc) := by kernel_rfl
theorem Z117 : zeroB Tryz.prog 117 = some (.nilFunc) := by kernel_rfl
theorem Z118 : zeroB Tryz.prog 118 = some (.nilFunc) := by kernel_rfl
theorem Z119 : zeroB Tryz.prog 119 = some (.nilFunc) := by kernel_rfl
theorem Z120 : zeroB Tryz.prog 120 = some (.nilFunc) := by kernel_rfl
theorem Z121 : zeroB Tryz.prog 121 = some (.nilFunc) := by kernel_rfl
theorem Z122 : zeroB Tryz.prog 122 = some (.nilFunc) := by kernel_rfl
theorem Z123 : zeroB Tryz.prog 123 = some (.nilFunc) := by kernel_rfl
theorem Z125 : zeroB Tryz.prog 125 = some (.nilFunc) := by kernel_rfl
theorem Z126 : zeroB Tryz.prog 126 = some (.nilFunc) := by kernel_rfl
theorem Z127 : zeroB Tryz.prog 127 = some (.nilFunc) := by kernel_rfl
theorem Z129 : zeroB Tryz.prog 129 = some (.nilFunc) := by kernel_rfl
theorem Z130 : zeroB Tryz.prog 130 = some (.pointer none) := by kernel_rfl
theorem Z131 : zeroB Tryz.prog 131 = some (.nilFunc) := by kernel_rfl
theorem Z132 : zeroB Tryz.prog 132 = some (.nilFunc) := by kernel_rfl
theorem Z133 : zeroB Tryz.prog 133 = some (.nilFunc) := by kernel_rfl
theorem Z134 : zeroB Tryz.prog 134 = some (.pointer none) := by kernel_rfl
theorem Z135 : zeroB Tryz.prog 135 = some (.agg #[.pointer none]) := by kernel_rfl
theorem Z136 : zeroB Tryz.prog 136 = some (.agg #[.pointer none]) := by kernel_rfl
theorem Z137 : zeroB Tryz.prog 137 = some (.nilFunc) := by kernel_rfl
theorem Z138 : zeroB Tryz.prog 138 = some (.nilFunc) := by kernel_rfl
theorem Z139 : zeroB Tryz.prog 139 = some (.nilFunc) := by kernel_rfl
theorem Z140 : zeroB Tryz.prog 140 = some (.nilFunc) := by kernel_rfl
theorem Z141 : zeroB Tryz.prog 141 = some (.nilFunc) := by kernel_rfl
theorem Z142 : zeroB Tryz.prog 142 = some (.nilFunc) := by kernel_rfl
theorem Z144 : zeroB Tryz.prog 144 = some (.agg #[]) := by kernel_rfl
theorem Z145 : zeroB Tryz.prog 145 = some (.agg #[]) := by kernel_rfl
theorem Z146 : zeroB Tryz.prog 146 = some (.pointer none) := by kernel_rfl
theorem Z147 : zeroB Tryz.prog 147 = some (.nilFunc) := by kernel_rfl
theorem Z148 : zeroB Tryz.prog 148 = some (.agg #[.pointer none, .int .u64 0, .pointer none, .int .u64 0, .nilFunc]) := by kernel_rfl
theorem Z149 : zeroB Tryz.prog 149 = some (.agg #[.pointer none, .int .u64 0, .pointer none, .int .u64 0, .nilFunc]) := by kernel_rfl
theorem Z150 : zeroB Tryz.prog 150 = some (.agg #[.slice none 0 0]) := by kernel_rfl
theorem Z151 : zeroB Tryz.prog 151 = some (.agg #[.slice none 0 0]) := by kernel_rfl
theorem Z152 : zeroB Tryz.prog 152 = some (.nilFunc) := by kernel_rfl
theorem Z153 : zeroB Tryz.prog 153 = some (.nilFunc) := by kernel_rfl
theorem Z154 : zeroB Tryz.prog 154 = some (.nilFunc) := by kernel_rfl
theorem Z155 : zeroB Tryz.prog 155 = some (.nilFunc) := by kernel_rfl
theorem Z156 : zeroB Tryz.prog 156 = some (.nilFunc) := by kernel_rfl
theorem Z158 : zeroB Tryz.prog 158 = some (.nilFunc) := by kernel_rfl
theorem Z159 : zeroB Tryz.prog 159 = some (.nilFunc) := by kernel_rfl
theorem Z160 : zeroB Tryz.prog 160 = some (.nilFunc) := by kernel_rfl
theorem Z162 : zeroB Tryz.prog 162 = some (.nilFunc) := by kernel_rfl
theorem Z164 : zeroB Tryz.prog 164 = some (.nilFunc) := by kernel_rfl
theorem Z166 : zeroB Tryz.prog 166 = some (.nilFunc) := by kernel_rfl
theorem Z167 : zeroB Tryz.prog 167 = some (.nilFunc) := by kernel_rfl
theorem Z168 : zeroB Tryz.prog 168 = some (.nilFunc) := by kernel_rfl
theorem Z169 : zeroB Tryz.prog 169 = some (.nilFunc) := by kernel_rfl
theorem Z170 : zeroB Tryz.prog 170 = some (.nilFunc) := by kernel_rfl
theorem Z171 : zeroB Tryz.prog 171 = some (.pointer none) := by kernel_rfl
theorem Z172 : zeroB Tryz.prog 172 = some (.pointer none) := by kernel_rfl
theorem Z174 : zeroB Tryz.prog 174 = some (.nilFunc) := by kernel_rfl
theorem Z175 : zeroB Tryz.prog 175 = some (.pointer none) := by kernel_rfl
theorem Z176 : zeroB Tryz.prog 176 = some (.agg #[]) := by kernel_rfl
theorem Z177 : zeroB Tryz.prog 177 = some (.agg #[]) := by kernel_rfl
theorem Z178 : zeroB Tryz.prog 178 = some (.agg #[.pointer none]) := by kernel_rfl
theorem Z179 : zeroB Tryz.prog 179 = some (.agg #[.pointer none]) := by kernel_rfl
theorem Z180 : zeroB Tryz.prog 180 = some (.agg #[.pointer none, .pointer none]) := by kernel_rfl
theorem Z181 : zeroB Tryz.prog 181 = some (.agg #[.pointer none, .pointer none]) := by kernel_rfl
theorem Z182 : zeroB Tryz.prog 182 = some (.agg #[.nilIface, .pointer none, .pointer none]) := by kernel_rfl
theorem Z183 : zeroB Tryz.prog 183 = some (.agg #[.nilIface, .pointer none, .pointer none]) := by kernel_rfl
theorem Z188 : zeroB Tryz.prog 188 = some (.nilFunc) := by kernel_rfl
theorem Z189 : zeroB Tryz.prog 189 = some (.nilFunc) := by kernel_rfl
theorem Z190 : zeroB Tryz.prog 190 = some (.nilFunc) := by kernel_rfl
theorem Z191 : zeroB Tryz.prog 191 = some (.nilFunc) := by kernel_rfl
theorem Z192 : zeroB Tryz.prog 192 = some (.agg #[.nilIface]) := by kernel_rfl
theorem Z193 : zeroB Tryz.prog 193 = some (.agg #[.nilIface]) := by kernel_rfl
theorem Z194 : zeroB Tryz.prog 194 = some (.pointer none) := by kernel_rfl
theorem Z195 : zeroB Tryz.prog 195 = some (.pointer none) := by kernel_rfl
theorem Z196 : zeroB Tryz.prog 196 = some (.nilFunc) := by kernel_rfl
theorem Z198 : zeroB Tryz.prog 198 = some (.nilFunc) := by kernel_rfl
theorem Z199 : zeroB Tryz.prog 199 = some (.nilFunc) := by kernel_rfl
theorem Z200 : zeroB Tryz.prog 200 = some (.nilFunc) := by kernel_rfl
theorem Z202 : zeroB Tryz.prog 202 = some (.nilFunc) := by kernel_rfl
theorem Z203 : zeroB Tryz.prog 203 = some (.nilFunc) := by kernel_rfl
theorem Z204 : zeroB Tryz.prog 204 = some (.pointer none) := by kernel_rfl
theorem Z205 : zeroB Tryz.prog 205 = some (.nilFunc) := by kernel_rfl
theorem Z206 : zeroB Tryz.prog 206 = some (.nilFunc) := by kernel_rfl
theorem Z208 : zeroB Tryz.prog 208 = some (.nilFunc) := by kernel_rfl
theorem Z209 : zeroB Tryz.prog 209 = some (.nilFunc) := by kernel_rfl
theorem Z210 : zeroB Tryz.prog 210 = some (.nilFunc) := by kernel_rfl
theorem Z211 : zeroB Tryz.prog 211 = some (.nilFunc) := by kernel_rfl
theorem Z212 : zeroB Tryz.prog 212 = some (.pointer none) := by kernel_rfl
theorem Z213 : zeroB Tryz.prog 213 = some (.nilFunc) := by kernel_rfl
theorem Z214 : zeroB Tryz.prog 214 = some (.pointer none) := by kernel_rfl
theorem Z215 : zeroB Tryz.prog 215 = some (.agg #[]) := by kernel_rfl
theorem Z216 : zeroB Tryz.prog 216 = some (.agg #[.int .u64 0]) := by kernel_rfl
theorem Z217 : zeroB Tryz.prog 217 = some (.agg #[.int .u64 0]) := by kernel_rfl
theorem Z218 : zeroB Tryz.prog 218 = some (.slice none 0 0) := by kernel_rfl
theorem Z219 : zeroB Tryz.prog 219 = some (.agg #[.int .u64 0, .slice none 0 0]) := by kernel_rfl
theorem Z220 : zeroB Tryz.prog 220 = some (.agg #[.int .u64 0, .slice none 0 0]) := by kernel_rfl
theorem Z221 : zeroB Tryz.prog 221 = some (.agg #[.int .u64 0, .slice none 0 0, .pointer none, .pointer none]) := by kernel_rfl
theorem Z222 : zeroB Tryz.prog 222 = some (.agg #[.int .u64 0, .slice none 0 0, .pointer none, .pointer none]) := by kernel_rfl
theorem Z223 : zeroB Tryz.prog 223 = some (.nilFunc) := by kernel_rfl
theorem Z224 : zeroB Tryz.prog 224 = some (.nilFunc) := by kernel_rfl
theorem Z226 : zeroB Tryz.prog 226 = some (.nilFunc) := by kernel_rfl
theorem Z227 : zeroB Tryz.prog 227 = some (.nilFunc) := by kernel_rfl
theorem Z229 : zeroB Tryz.prog 229 = some (.nilFunc) := by kernel_rfl
theorem Z230 : zeroB Tryz.prog 230 = some (.nilFunc) := by kernel_rfl
theorem Z231 : zeroB Tryz.prog 231 = some (.nilFunc) := by kernel_rfl
theorem Z232 : zeroB Tryz.prog 232 = some (.nilFunc) := by kernel_rfl
theorem Z233 : zeroB Tryz.prog 233 = some (.nilFunc) := by kernel_rfl
theorem Z234 : zeroB Tryz.prog 234 = some (.nilFunc) := by kernel_rfl
theorem Z235 : zeroB Tryz.prog 235 = some (.nilFunc) := by kernel_rfl
theorem Z236 : zeroB Tryz.prog 236 = some (.slice none 0 0) := by kernel_rfl
theorem Z237 : zeroB Tryz.prog 237 = some (.nilFunc) := by kernel_rfl
theorem Z238 : zeroB Tryz.prog 238 = some (.agg #[.int .i32 0, .int .u32 0]) := by kernel_rfl
theorem Z239 : zeroB Tryz.prog 239 = some (.agg #[.int .i32 0, .int .u32 0]) := by kernel_rfl
theorem Z240 : zeroB Tryz.prog 240 = some (.agg #[.int .i32 0, .int .u32 0]) := by kernel_rfl
theorem Z241 : zeroB Tryz.prog 241 = some (.agg #[.int .i32 0, .int .u32 0]) := by kernel_rfl
theorem Z242 : zeroB Tryz.prog 242 = some (.slice none 0 0) := by kernel_rfl
theorem Z243 : zeroB Tryz.prog 243 = some (.nilFunc) := by kernel_rfl
theorem Z244 : zeroB Tryz.prog 244 = some (.slice none 0 0) := by kernel_rfl
theorem Z245 : zeroB Tryz.prog 245 = some (.nilFunc) := by kernel_rfl
theorem Z246 : zeroB Tryz.prog 246 = some (.pointer none) := by kernel_rfl
theorem Z247 : zeroB Tryz.prog 247 = some (.pointer none) := by kernel_rfl
theorem Z248 : zeroB Tryz.prog 248 = some (.pointer none) := by kernel_rfl
theorem Z249 : zeroB Tryz.prog 249 = some (.nilFunc) := by kernel_rfl
theorem Z250 : zeroB Tryz.prog 250 = some (.nilFunc) := by kernel_rfl
theorem Z253 : zeroB Tryz.prog 253 = some (.nilFunc) := by kernel_rfl
theorem Z254 : zeroB Tryz.prog 254 = some (.nilFunc) := by kernel_rfl
theorem Z255 : zeroB Tryz.prog 255 = some (.nilFunc) := by kernel_rfl
theorem Z256 : zeroB Tryz.prog 256 = some (.nilFunc) := by kernel_rfl
theorem Z258 : zeroB Tryz.prog 258 = some (.nilFunc) := by kernel_rfl
theorem Z260 : zeroB Tryz.prog 260 = some (.nilFunc) := by kernel_rfl
theorem Z261 : zeroB Tryz.prog 261 = some (.slice none 0 0) := by kernel_rfl
theorem Z262 : zeroB Tryz.prog 262 = some (.nilFunc) := by kernel_rfl
theorem Z263 : zeroB Tryz.prog 263 = some (.nilFunc) := by kernel_rfl
theorem Z264 : zeroB Tryz.prog 264 = some (.pointer none) := by kernel_rfl
theorem Z265 : zeroB Tryz.prog 265 = some (.nilFunc) := by kernel_rfl
theorem Z266 : zeroB Tryz.prog 266 = some (.agg #[.slice none 0 0, .int .i64 0, .int .i64 0]) := by kernel_rfl
theorem Z267 : zeroB Tryz.prog 267 = some (.agg #[.slice none 0 0, .int .i64 0, .int .i64 0]) := by kernel_rfl
theorem Z270 : zeroB Tryz.prog 270 = some (.nilFunc) := by kernel_rfl
theorem Z271 : zeroB Tryz.prog 271 = some (.pointer none) := by kernel_rfl
theorem Z272 : zeroB Tryz.prog 272 = some (.nilFunc) := by kernel_rfl
theorem Z273 : zeroB Tryz.prog 273 = some (.pointer none) := by kernel_rfl
theorem Z274 : zeroB Tryz.prog 274 = some (.nilFunc) := by kernel_rfl
theorem Z275 : zeroB Tryz.prog 275 = some (.nilFunc) := by kernel_rfl
theorem Z279 : zeroB Tryz.prog 279 = some (.nilFunc) := by kernel_rfl
theorem Z280 : zeroB Tryz.prog 280 = some (.nilFunc) := by kernel_rfl
theorem Z281 : zeroB Tryz.prog 281 = some (.nilFunc) := by kernel_rfl
theorem Z282 : zeroB Tryz.prog 282 = some (.nilFunc) := by kernel_rfl
theorem Z283 : zeroB Tryz.prog 283 = some (.nilFunc) := by kernel_rfl
theorem Z284 : zeroB Tryz.prog 284 = some (.pointer none) := by kernel_rfl
theorem Z285 : zeroB Tryz.prog 285 = some (.nilFunc) := by kernel_rfl
theorem Z286 : zeroB Tryz.prog 286 = some (.nilFunc) := by kernel_rfl
theorem Z287 : zeroB Tryz.prog 287 = some (.nilFunc) := by kernel_rfl
theorem Z288 : zeroB Tryz.prog 288 = some (.nilFunc) := by kernel_rfl
theorem Z289 : zeroB Tryz.prog 289 = some (.nilFunc) := by kernel_rfl
theorem Z290 : zeroB Tryz.prog 290 = some (.nilFunc) := by kernel_rfl
theorem Z291 : zeroB Tryz.prog 291 = some (.pointer none) := by kernel_rfl
theorem Z292 : zeroB Tryz.prog 292 = some (.pointer none) := by kernel_rfl
theorem Z293 : zeroB Tryz.prog 293 = some (.pointer none) := by kernel_rfl
theorem Z294 : zeroB Tryz.prog 294 = some (.nilFunc) := by kernel_rfl
theorem Z295 : zeroB Tryz.prog 295 = some (.agg #[.pointer none, .pointer none, .pointer none, .string ⟨#[]⟩]) := by kernel_rfl
theorem Z296 : zeroB Tryz.prog 296 = some (.agg #[.pointer none, .pointer none, .pointer none, .string ⟨#[]⟩]) := by kernel_rfl
theorem Z297 : zeroB Tryz.prog 297 = some (.agg #[]) := by kernel_rfl
theorem Z298 : zeroB Tryz.prog 298 = some (.agg #[]) := by kernel_rfl
theorem Z299 : zeroB Tryz.prog 299 = some (.agg #[]) := by kernel_rfl
theorem Z300 : zeroB Tryz.prog 300 = some (.int .u8 0) := by kernel_rfl
theorem Z301 : zeroB Tryz.prog 301 = some (.int .u8 0) := by kernel_rfl
theorem Z302 : zeroB Tryz.prog 302 = some (.nilFunc) := by kernel_rfl
theorem Z303 : zeroB Tryz.prog 303 = some (.pointer none) := by kernel_rfl
theorem Z304 : zeroB Tryz.prog 304 = some (.int .i32 0) := by kernel_rfl
theorem Z305 : zeroB Tryz.prog 305 = some (.int .i32 0) := by kernel_rfl
theorem Z306 : zeroB Tryz.prog 306 = some (.agg #[.int .u64 0, .int .u64 0, .int .u32 0, .int .u8 0, .int .u8 0, .int .u8 0, .int .u8 0, .nilFunc, .pointer none, .int .i32 0, .int .i32 0]) := by kernel_rfl
theorem Z307 : zeroB Tryz.prog 307 = some (.agg #[.int .u64 0, .int .u64 0, .int .u32 0, .int .u8 0, .int .u8 0, .int .u8 0, .int .u8 0, .nilFunc, .pointer none, .int .i32 0, .int .i32 0]) := by kernel_rfl
theorem Z308 : zeroB Tryz.prog 308 = some (.nilFunc) := by kernel_rfl
theorem Z309 : zeroB Tryz.prog 309 = some (.agg #[.pointer none, .pointer none]) := by kernel_rfl
theorem Z310 : zeroB Tryz.prog 310 = some (.agg #[.pointer none, .pointer none]) := by kernel_rfl
theorem Z311 : zeroB Tryz.prog 311 = some (.agg #[.string ⟨#[]⟩]) := by kernel_rfl
theorem Z312 : zeroB Tryz.prog 312 = some (.agg #[.string ⟨#[]⟩]) := by kernel_rfl
theorem Z313 : zeroB Tryz.prog 313 = some (.agg #[.string ⟨#[]⟩, .nilIface]) := by kernel_rfl
theorem Z314 : zeroB Tryz.prog 314 = some (.agg #[.string ⟨#[]⟩, .nilIface]) := by kernel_rfl
theorem Z315 : zeroB Tryz.prog 315 = some (.slice none 0 0) := by kernel_rfl
theorem Z316 : zeroB Tryz.prog 316 = some (.agg #[.string ⟨#[]⟩, .slice none 0 0]) := by kernel_rfl
theorem Z317 : zeroB Tryz.prog 317 = some (.agg #[.string ⟨#[]⟩, .slice none 0 0]) := by kernel_rfl
def zrL : List (Nat × Value) := [(1, .nilFunc), (2, .int .i64 0), (3, .int .i64 0), (4, .bool false), (5, .int .u8 0), (6, .int .u8 0), (7, .agg #[.int .i64 0, .int .i64 0, .bool false, .int .u8 0]), (8, .agg #[.int .i64 0, .int .i64 0, .bool false, .int .u8 0]), (9, .string ⟨#[]⟩), (10, .string ⟨#[]⟩), (11, .string ⟨#[]⟩), (12, .int .u64 0), (13, .agg #[.string ⟨#[]⟩, .int .u64 0]), (14, .agg #[.string ⟨#[]⟩, .int .u64 0]), (15, .pointer none), (16, .pointer none), (17, .pointer none), (18, .agg #[.pointer none]), (19, .agg #[.pointer none]), (21, .int .i32 0), (22, .agg #[.int .i64 0, .int .i64 0]), (23, .agg #[.int .i64 0, .int .i64 0]), (24, .slice none 0 0), (25, .agg #[.int .i64 0, .bool false, .int .i64 0, .int .i64 0, .string ⟨#[]⟩, .slice none 0 0]), (26, .agg #[.int .i64 0, .bool false, .int .i64 0, .int .i64 0, .string ⟨#[]⟩, .slice none 0 0]), (27, .nilFunc), (28, .int .i64 0), (29, .nilFunc), (30, .nilFunc), (31, .nilFunc), (32, .nilFunc), (33, .nilFunc), (34, .nilFunc), (35, .nilFunc), (36, .pointer none), (37, .agg #[.int .i64 0]), (38, .agg #[.int .i64 0]), (39, .nilFunc), (40, .pointer none), (42, .nilFunc), (43, .nilFunc), (44, .nilFunc), (45, .pointer none), (46, .agg #[.int .i64 0]), (47, .agg #[.int .i64 0]), (48, .nilFunc), (49, .nilFunc), (50, .nilFunc), (51, .nilFunc), (52, .nilFunc), (53, .pointer none), (54, .nilFunc), (55, .nilFunc), (56, .pointer none), (57, .nilFunc), (58, .nilFunc), (59, .nilFunc), (61, .agg #[.int .u8 0, .int .u8 0]), (62, .agg #[.int .u8 0, .int .u8 0]), (64, .int .u64 0), (65, .slice none 0 0), (66, .slice none 0 0), (67, .slice none 0 0), (68, .agg #[.bool false, .slice none 0 0]), (69, .agg #[.bool false, .slice none 0 0]), (70, .nilFunc), (71, .nilFunc), (72, .nilFunc), (73, .nilFunc), (74, .slice none 0 0), (75, .agg #[.bool false, .slice none 0 0]), (76, .agg #[.bool false, .slice none 0 0]), (77, .agg #[.bool false, .slice none 0 0, .bool false, .slice none 0 0]), (78, .agg #[.bool false, .slice none 0 0, .bool false, .slice none 0 0]), (79, .nilFunc), (80, .nilFunc), (81, .pointer none), (82, .nilFunc), (83, .nilFunc), (84, .nilFunc), (85, .nilFunc), (86, .nilFunc), (87, .nilFunc), (88, .nilFunc), (89, .int .u64 0), (90, .nilFunc), (91, .int .u64 0), (92, .nilFunc), (93, .nilFunc), (94, .nilFunc), (95, .nilFunc), (96, .nilFunc), (97, .nilFunc), (98, .pointer none), (99, .nilFunc), (100, .nilFunc), (101, .nilFunc), (102, .nilFunc), (103, .int .u32 0), (105, .nilFunc), (106, .nilFunc), (107, .nilFunc), (109, .nilFunc), (110, .nilFunc), (111, .nilFunc), (112, .nilFunc), (113, .nilFunc), (114, .nilFunc), (115, .nilFunc), (116, .nilFunc), (117, .nilFunc), (118, .nilFunc), (119, .nilFunc), (120, .nilFunc), (121, .nilFunc), (122, .nilFunc), (123, .nilFunc), (125, .nilFunc), (126, .nilFunc), (127, .nilFunc), (129, .nilFunc), (130, .pointer none), (131, .nilFunc), (132, .nilFunc), (133, .nilFunc), (134, .pointer none), (135, .agg #[.pointer none]), (136, .agg #[.pointer none]), (137, .nilFunc), (138, .nilFunc), (139, .nilFunc), (140, .nilFunc), (141, .nilFunc), (142, .nilFunc), (144, .agg #[]), (145, .agg #[]), (146, .pointer none), (147, .nilFunc), (148, .agg #[.pointer none, .int .u64 0, .pointer none, .int .u64 0, .nilFunc]), (149, .agg #[.pointer none, .int .u64 0, .pointer none, .int .u64 0, .nilFunc]), (150, .agg #[.slice none 0 0]), (151, .agg #[.slice none 0 0]), (152, .nilFunc), (153, .nilFunc), (154, .nilFunc), (155, .nilFunc), (156, .nilFunc), (158, .nilFunc), (159, .nilFunc), (160, .nilFunc), (162, .nilFunc), (164, .nilFunc), (166, .nilFunc), (167, .nilFunc), (168, .nilFunc), (169, .nilFunc), (170, .nilFunc), (171, .pointer none), (172, .pointer none), (174, .nilFunc), (175, .pointer none), (176, .agg #[]), (177, .agg #[]), (178, .agg #[.pointer none]), (179, .agg #[.pointer none]), (180, .agg #[.pointer none, .pointer none]), (181, .agg #[.pointer none, .pointer none]), (182, .agg #[.nilIface, .pointer none, .pointer none]), (183, .agg #[.nilIface, .pointer none, .pointer none]), (188, .nilFunc), (189, .nilFunc), (190, .nilFunc), (191, .nilFunc), (192, .agg #[.nilIface]), (193, .agg #[.nilIface]), (194, .pointer none), (195, .pointer none), (196, .nilFunc), (198, .nilFunc), (199, .nilFunc), (200, .nilFunc), (202, .nilFunc), (203, .nilFunc), (204, .pointer none), (205, .nilFunc), (206, .nilFunc), (208, .nilFunc), (209, .nilFunc), (210, .nilFunc), (211, .nilFunc), (212, .pointer none), (213, .nilFunc), (214, .pointer none), (215, .agg #[]), (216, .agg #[.int .u64 0]), (217, .agg #[.int .u64 0]), (218, .slice none 0 0), (219, .agg #[.int .u64 0, .slice none 0 0]), (220, .agg #[.int .u64 0, .slice none 0 0]), (221, .agg #[.int .u64 0, .slice none 0 0, .pointer none, .pointer none]), (222, .agg #[.int .u64 0, .slice none 0 0, .pointer none, .pointer none]), (223, .nilFunc), (224, .nilFunc), (226, .nilFunc), (227, .nilFunc), (229, .nilFunc), (230, .nilFunc), (231, .nilFunc), (232, .nilFunc), (233, .nilFunc), (234, .nilFunc), (235, .nilFunc), (236, .slice none 0 0), (237, .nilFunc), (238, .agg #[.int .i32 0, .int .u32 0]), (239, .agg #[.int .i32 0, .int .u32 0]), (240, .agg #[.int .i32 0, .int .u32 0]), (241, .agg #[.int .i32 0, .int .u32 0]), (242, .slice none 0 0), (243, .nilFunc), (244, .slice none 0 0), (245, .nilFunc), (246, .pointer none), (247, .pointer none), (248, .pointer none), (249, .nilFunc), (250, .nilFunc), (253, .nilFunc), (254, .nilFunc), (255, .nilFunc), (256, .nilFunc), (258, .nilFunc), (260, .nilFunc), (261, .slice none 0 0), (262, .nilFunc), (263, .nilFunc), (264, .pointer none), (265, .nilFunc), (266, .agg #[.slice none 0 0, .int .i64 0, .int .i64 0]), (267, .agg #[.slice none 0 0, .int .i64 0, .int .i64 0]), (270, .nilFunc), (271, .pointer none), (272, .nilFunc), (273, .pointer none), (274, .nilFunc), (275, .nilFunc), (279, .nilFunc), (280, .nilFunc), (281, .nilFunc), (282, .nilFunc), (283, .nilFunc), (284, .pointer none), (285, .nilFunc), (286, .nilFunc), (287, .nilFunc), (288, .nilFunc), (289, .nilFunc), (290, .nilFunc), (291, .pointer none), (292, .pointer none), (293, .pointer none), (294, .nilFunc), (295, .agg #[.pointer none, .pointer none, .pointer none, .string ⟨#[]⟩]), (296, .agg #[.pointer none, .pointer none, .pointer none, .string ⟨#[]⟩]), (297, .agg #[]), (298, .agg #[]), (299, .agg #[]), (300, .int .u8 0), (301, .int .u8 0), (302, .nilFunc), (303, .pointer none), (304, .int .i32 0), (305, .int .i32 0), (306, .agg #[.int .u64 0, .int .u64 0, .int .u32 0, .int .u8 0, .int .u8 0, .int .u8 0, .int .u8 0, .nilFunc, .pointer none, .int .i32 0, .int .i32 0]), (307, .agg #[.int .u64 0, .int .u64 0, .int .u32 0, .int .u8 0, .int .u8 0, .int .u8 0, .int .u8 0, .nilFunc, .pointer none, .int .i32 0, .int .i32 0]), (308, .nilFunc), (309, .agg #[.pointer none, .pointer none]), (310, .agg #[.pointer none, .pointer none]), (311, .agg #[.string ⟨#[]⟩]), (312, .agg #[.string ⟨#[]⟩]), (313, .agg #[.string ⟨#[]⟩, .nilIface]), (314, .agg #[.string ⟨#[]⟩, .nilIface]), (315, .slice none 0 0), (316, .agg #[.string ⟨#[]⟩, .slice none 0 0]), (317, .agg #[.string ⟨#[]⟩, .slice none 0 0])]
def AllP {α : Type} (Q : α → Prop) : List α → Prop
  | [] => True
  | a :: r => Q a ∧ AllP Q r
theorem AllP.mem {α : Type} {Q : α → Prop} : ∀ {l : List α}, AllP Q l → ∀ a ∈ l, Q a
  | [], _, a, h => by cases h
  | b :: r, h, a, ha => by
    rcases List.mem_cons.1 ha with rfl | ha
    · exact h.1
    · exact AllP.mem h.2 a ha
theorem zr_all : AllP (fun p : Nat × Value => zeroB Tryz.prog p.1 = some p.2) zrL := ⟨Z1, Z2, Z3, Z4, Z5, Z6, Z7, Z8, Z9, Z10, Z11, Z12, Z13, Z14, Z15, Z16, Z17, Z18, Z19, Z21, Z22, Z23, Z24, Z25, Z26, Z27, Z28, Z29, Z30, Z31, Z32, Z33, Z34, Z35, Z36, Z37, Z38, Z39, Z40, Z42, Z43, Z44, Z45, Z46, Z47, Z48, Z49, Z50, Z51, Z52, Z53, Z54, Z55, Z56, Z57, Z58, Z59, Z61, Z62, Z64, Z65, Z66, Z67, Z68, Z69, Z70, Z71, Z72, Z73, Z74, Z75, Z76, Z77, Z78, Z79, Z80, Z81, Z82, Z83, Z84, Z85, Z86, Z87, Z88, Z89, Z90, Z91, Z92, Z93, Z94, Z95, Z96, Z97, Z98, Z99, Z100, Z101, Z102, Z103, Z105, Z106, Z107, Z109, Z110, Z111, Z112, Z113, Z114, Z115, Z116, Z117, Z118, Z119, Z120, Z121, Z122, Z123, Z125, Z126, Z127, Z129, Z130, Z131, Z132, Z133, Z134, Z135, Z136, Z137, Z138, Z139, Z140, Z141, Z142, Z144, Z145, Z146, Z147, Z148, Z149, Z150, Z151, Z152, Z153, Z154, Z155, Z156, Z158, Z159, Z160, Z162, Z164, Z166, Z167, Z168, Z169, Z170, Z171, Z172, Z174, Z175, Z176, Z177, Z178, Z179, Z180, Z181, Z182, Z183, Z188, Z189, Z190, Z191, Z192, Z193, Z194, Z195, Z196, Z198, Z199, Z200, Z202, Z203, Z204, Z205, Z206, Z208, Z209, Z210, Z211, Z212, Z213, Z214, Z215, Z216, Z217, Z218, Z219, Z220, Z221, Z222, Z223, Z224, Z226, Z227, Z229, Z230, Z231, Z232, Z233, Z234, Z235, Z236, Z237, Z238, Z239, Z240, Z241, Z242, Z243, Z244, Z245, Z246, Z247, Z248, Z249, Z250, Z253, Z254, Z255, Z256, Z258, Z260, Z261, Z262, Z263, Z264, Z265, Z266, Z267, Z270, Z271, Z272, Z273, Z274, Z275, Z279, Z280, Z281, Z282, Z283, Z284, Z285, Z286, Z287, Z288, Z289, Z290, Z291, Z292, Z293, Z294, Z295, Z296, Z297, Z298, Z299, Z300, Z301, Z302, Z303, Z304, Z305, Z306, Z307, Z308, Z309, Z310, Z311, Z312, Z313, Z314, Z315, Z316, Z317, trivial⟩
theorem ZR {t : Nat} {z : Value} (h : lkN zrL t = some z) : zeroB Tryz.prog t = some z := zr_all.mem _ (lkN_mem h)
def plL : List (Nat × List (Nat × Nat)) := [(7, [(0, 1), (1, 1), (2, 1), (3, 1)]), (8, [(0, 1), (1, 1), (2, 1), (3, 1)]), (13, [(0, 1), (1, 1)]), (14, [(0, 1), (1, 1)]), (18, [(0, 1)]), (19, [(0, 1)]), (22, [(0, 1), (1, 1)]), (23, [(0, 1), (1, 1)]), (25, [(0, 1), (1, 1), (2, 2), (4, 1), (5, 1)]), (26, [(0, 1), (1, 1), (2, 2), (4, 1), (5, 1)]), (37, [(0, 1)]), (38, [(0, 1)]), (46, [(0, 1)]), (47, [(0, 1)]), (61, [(0, 1), (1, 1)]), (62, [(0, 1), (1, 1)]), (68, [(0, 1), (1, 1)]), (69, [(0, 1), (1, 1)]), (75, [(0, 1), (1, 1)]), (76, [(0, 1), (1, 1)]), (77, [(0, 2), (2, 2)]), (78, [(0, 2), (2, 2)]), (135, [(0, 1)]), (136, [(0, 1)]), (144, []), (145, []), (148, [(0, 0), (0, 1), (1, 1), (2, 1), (3, 1), (4, 1)]), (149, [(0, 0), (0, 1), (1, 1), (2, 1), (3, 1), (4, 1)]), (150, [(0, 1)]), (151, [(0, 1)]), (177, []), (178, [(0, 0), (0, 0), (0, 1)]), (179, [(0, 0), (0, 0), (0, 1)]), (180, [(0, 1), (1, 1)]), (181, [(0, 1), (1, 1)]), (182, [(0, 1), (1, 2)]), (183, [(0, 1), (1, 2)]), (185, [(0, 3), (3, 96)]), (186, [(0, 3), (3, 96)]), (192, [(0, 1)]), (193, [(0, 1)]), (215, []), (216, [(0, 0), (0, 0), (0, 1)]), (217, [(0, 0), (0, 0), (0, 1)]), (219, [(0, 1), (1, 1)]), (220, [(0, 1), (1, 1)]), (221, [(0, 2), (2, 1), (3, 1)]), (222, [(0, 2), (2, 1), (3, 1)]), (238, [(0, 1), (1, 1)]), (239, [(0, 1), (1, 1)]), (240, [(0, 0), (0, 2)]), (241, [(0, 0), (0, 2)]), (266, [(0, 1), (1, 1), (2, 1)]), (267, [(0, 1), (1, 1), (2, 1)]), (269, [(0, 2), (2, 192)]), (295, [(0, 1), (1, 1), (2, 1), (3, 1)]), (296, [(0, 1), (1, 1), (2, 1), (3, 1)]), (298, [(0, 0)]), (299, [(0, 0)]), (306, [(0, 1), (1, 1), (2, 1), (3, 1), (4, 1), (5, 1), (6, 1), (7, 1), (8, 1), (9, 1), (10, 1)]), (307, [(0, 1), (1, 1), (2, 1), (3, 1), (4, 1), (5, 1), (6, 1), (7, 1), (8, 1), (9, 1), (10, 1)]), (309, [(0, 1), (1, 1)]), (310, [(0, 1), (1, 1)]), (311, [(0, 1)]), (312, [(0, 1)]), (313, [(0, 1), (1, 1)]), (314, [(0, 1), (1, 1)]), (316, [(0, 1), (1, 1)]), (317, [(0, 1), (1, 1)])]
theorem pl_all : (plL.all fun p => placesB Tryz.prog p.1 == some p.2) = true := by kernel_rfl
theorem PL {t : Nat} {p : List (Nat × Nat)} (h : lkN plL t = some p) : placesB Tryz.prog t = some p := by
  simpa using List.all_eq_true.1 pl_all _ (lkN_mem h)
def efL : List (Nat × List Nat) := [(22, [0, 1]), (23, [0, 1]), (37, [0]), (38, [0]), (46, [0]), (47, [0]), (61, [0, 1]), (62, [0, 1]), (238, [0, 1]), (239, [0, 1])]
theorem ef_all : (efL.all fun p => eqfB Tryz.prog p.1 == some p.2) = true := by kernel_rfl
theorem EF {t : Nat} {l : List Nat} (h : lkN efL t = some l) : eqfB Tryz.prog t = some l := by
  simpa using List.all_eq_true.1 ef_all _ (lkN_mem h)
theorem mixed : Tryz.prog.follows .mixedOrders = true := by kernel_rfl
theorem one_all : (zrL.all fun p => p.2.cells.toList.all (·.oneCell')) = true := by kernel_rfl
def tab : Tab := { ag := lkN agL, sz := lkN szL, fd := lkM fdL, el := lkN elL, bo := inN boL, st := inN stL, zr := fun t => match lkN zrL t with | some z => some (z.cells.toList.map constC) | none => none, pl := lkN plL, ef := lkN efL }
theorem tabOk : TabOk Tryz.prog tab := by
  refine ⟨fun _ _ h => AG h, fun _ _ h => SZ h, fun _ _ _ _ h => FD h, fun _ _ h => EL h, fun _ h => BO h, fun _ h => ST h, fun t cs h => ?_, fun _ _ h => PL h, fun _ _ h => EF h⟩
  simp only [tab] at h
  split at h
  · rename_i z hz
    cases h
    exact ⟨z, ZR hz, List.all_eq_true.1 one_all _ (lkN_mem hz), rfl⟩
  · cases h

/-! ### Short words of the walk -/
section
variable {o : Go.Oper} {ρ : Go.Operand → PV} {H : PH}
theorem cJ {src dst : Nat} {x : Go.Operand} {ks kd k : Go.IntKind} {n : Int} (ho : o.op = .convert src dst x := by exact rfl) (hs : lkN ikL src = some ks := by exact rfl) (hd : lkN ikL dst = some kd := by exact rfl) (hx : ρ x = .g (.int k n) := by exact rfl) : PO Tryz.prog o ρ H (.g (.int kd (kd.wrap n))) H := cI ho (IK hs) (IK hd) hx
theorem mG {fn : Go.Fn} {first cap : Array Go.Operand} (ho : o.op = .makeFunc fn first cap := by exact rfl) : PO Tryz.prog o ρ H (.clo fn (first.toList.map ρ) (cap.toList.map ρ)) H := mF ho
theorem nD {x : Go.Operand} {p : PV} (ho : o.op = .nilCheck x := by exact rfl) (hx : notNil (ρ x) = some p := by exact rfl) : PO Tryz.prog o ρ H p H := nC ho hx
theorem bT {t n e size : Nat} {parts : Array (Nat × Go.Operand)} {z : Go.Value} {b : Bool} {cs : List PV} {gs : List GV} (ho : o.op = .buildSlice t n parts := by exact rfl) (he : lkN elL t = some e := by exact rfl) (hs : lkN szL e = some size := by exact rfl) (ha : lkN agL e = some b := by exact rfl)
    (hz : lkN zrL e = some z := by exact rfl) (hz1 : z.cells.toList.all (·.oneCell') = true := by exact rfl) (hzs : Nat.beq z.cells.size size = true := by exact rfl) (hpos : Nat.ble 1 size = true := by exact rfl) (hb : (b || Nat.beq size 1) = true := by exact rfl) (hn : Nat.ble (n * size) 16777216 = true := by exact rfl)
    (hfill : fillP (fun i => some (i * size, size)) (zerosP z n) (partsP ρ parts.toList) = some cs := by exact rfl) (hg : allG cs = some gs := by exact rfl) : PO Tryz.prog o ρ H (.g (.sl (group b size n gs))) H := bS ho (EL he) (SZ hs) (AG ha) (ZR hz) hz1 hzs hpos hb hn hfill hg
theorem cqP {f : Go.Operand} {args : Array Go.Operand} {ts : Array Nat} {id : Nat} {ps : List PV} {v : PV} (hp : PC Tryz.prog id ps ⟨[], [], []⟩ v ⟨[], [], []⟩) (ho : o.op = .call { callee := .value f, args := args, argTypes := ts } := by exact rfl)
    (hf : ρ f = .g (.raw (.func (.func id) #[] #[])) := by exact rfl) (he : inN enL id = true := by exact rfl) (ha : packs ρ args.toList = ps := by exact rfl) (hps : allB ps = true := by exact rfl) (hv : closedB v = true := by exact rfl) : PO Tryz.prog o ρ H v H := cl ho hf (EN he) hp ha hps hv
end
theorem qxi {id : Nat} {l l' : List Go.Oper} {N : Nat} {Q : Go.Exit → Env → PH → Prop} {env : Env} {H : PH} {K0 K : List Nat} {d : Nat} {ss : List NV} {D : Go.Oper} (hb : insB (lkN zrL) (lkN szL) l = some (d, ss, D)) (hl : nrmL (insH d ss D l) = some l') (h0 : upTo H.bx lits = some K0) (ha : autoK l' env (isNil H.mu) false true K0 = some K) (hk : memK K ss = true)
    (hm : Tryz.prog.follows .mixedOrders = true) (h : POpsD Tryz.prog N l'.toArray K (fun env H => Q .normal env H) l' env H) (hd : drawB Tryz.prog K l' = true := by decide +kernel) : PW Tryz.prog N (.region id l.toArray true) Q env H := PW_ins_all (fun _ _ h => ZR h) (fun _ _ h => SZ h) false hb hl h0 ha hk hm h hd

end Go.Proofs.YtdicineiaifahaaGreatDoor


namespace Go.Proofs.YtdicineiaifahaaGreatDoor
open Go Go.Pure Go.Shelf
def layMul_ren : Go.Shelf.Ren := ⟨fun | 212 => 100 | 263 => 133 | 264 => 134 | n => n, fun | 46 => 64 | 51 => 103 | 146 => 163 | 53 => 89 | 148 => 165 | n => n, fun | n => n⟩
theorem layMul : Go.Proofs.Lays.n212 Tryz.prog layMul_ren := {
  mixed := by kernel_rfl
  f212 := Tryz.func100.trans (congrArg some (by kernel_rfl))
  f263 := Tryz.func133.trans (congrArg some (by kernel_rfl))
  f264 := Tryz.func134.trans (congrArg some (by kernel_rfl))
  t46 := Tryz.underlying64
  a46 := Tryz.isAgg64
  z46 := Tryz.sizeOf64
  v46 := Tryz.zeroValue64
  t51 := Tryz.underlying103
  a51 := Tryz.isAgg103
  z51 := Tryz.sizeOf103
  v51 := Tryz.zeroValue103
  t53 := Tryz.underlying89
  a53 := Tryz.isAgg89
  z53 := Tryz.sizeOf89
  v53 := Tryz.zeroValue89
  t146 := Tryz.underlying163
  a146 := Tryz.isAgg163
  z146 := Tryz.sizeOf163
  v146 := Tryz.zeroValue163
  t148 := Tryz.underlying165
  a148 := Tryz.isAgg165
  z148 := Tryz.sizeOf165
  v148 := Tryz.zeroValue165 }
def layLz_ren : Go.Shelf.Ren := ⟨fun | 130 => 161 | 125 => 190 | 128 => 205 | 129 => 206 | n => n, fun | 46 => 64 | 3 => 3 | 51 => 103 | 53 => 89 | 4 => 4 | 5 => 5 | 9 => 9 | n => n, fun | n => n⟩
theorem layLz : Go.Proofs.Lays.n130 Tryz.prog layLz_ren := {
  mixed := by kernel_rfl
  f125 := Tryz.func190.trans (congrArg some (by kernel_rfl))
  f128 := Tryz.func205.trans (congrArg some (by kernel_rfl))
  f129 := Tryz.func206.trans (congrArg some (by kernel_rfl))
  f130 := Tryz.func161.trans (congrArg some (by kernel_rfl))
  t3 := Tryz.underlying3
  a3 := Tryz.isAgg3
  z3 := Tryz.sizeOf3
  v3 := Tryz.zeroValue3
  t4 := Tryz.underlying4
  a4 := Tryz.isAgg4
  z4 := Tryz.sizeOf4
  v4 := Tryz.zeroValue4
  t5 := Tryz.underlying5
  a5 := Tryz.isAgg5
  z5 := Tryz.sizeOf5
  v5 := Tryz.zeroValue5
  t9 := Tryz.underlying9
  a9 := Tryz.isAgg9
  z9 := Tryz.sizeOf9
  v9 := Tryz.zeroValue9
  t46 := Tryz.underlying64
  a46 := Tryz.isAgg64
  z46 := Tryz.sizeOf64
  v46 := Tryz.zeroValue64
  t51 := Tryz.underlying103
  a51 := Tryz.isAgg103
  z51 := Tryz.sizeOf103
  v51 := Tryz.zeroValue103
  t53 := Tryz.underlying89
  a53 := Tryz.isAgg89
  z53 := Tryz.sizeOf89
  v53 := Tryz.zeroValue89 }
def layAdd_ren : Go.Shelf.Ren := ⟨fun | 25 => 136 | n => n, fun | 22 => 89 | n => n, fun | n => n⟩
theorem layAdd : Go.Proofs.Lays7.n25 Tryz.prog layAdd_ren := {
  mixed := by kernel_rfl
  f25 := Tryz.func136.trans (congrArg some (by kernel_rfl))
  t22 := Tryz.underlying89
  a22 := Tryz.isAgg89
  z22 := Tryz.sizeOf89
  v22 := Tryz.zeroValue89
  i22 := by kernel_rfl }
end Go.Proofs.YtdicineiaifahaaGreatDoor

