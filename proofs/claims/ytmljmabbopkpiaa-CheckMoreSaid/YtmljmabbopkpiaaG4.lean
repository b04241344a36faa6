import Derived.Test.YtmljmabbopkpiaaG3
import Derived.Test.YtmljmabbopkpiaaChecked
section
/- The types of the program. -/
namespace Go.Proofs.Ytmljmabbopkpiaa.Vm
open Go.RowKit
set_option linter.unusedVariables false
set_option linter.unusedSimpArgs false
set_option maxRecDepth 100000

def zs : List (Nat × SV) := [(1, .nilf), (2, .nat .i64 0), (3, .nat .i64 0), (4, .bool false), (5, .nat .u8 0), (6, .nat .u8 0), (7, .agg [.nat .i64 0, .nat .i64 0, .bool false, .nat .u8 0]), (8, .agg [.nat .i64 0, .nat .i64 0, .bool false, .nat .u8 0]), (9, .str ⟨#[]⟩), (10, .str ⟨#[]⟩), (11, .str ⟨#[]⟩), (12, .nat .u64 0), (13, .agg [.str ⟨#[]⟩, .nat .u64 0]), (14, .agg [.str ⟨#[]⟩, .nat .u64 0]), (15, .nilp), (17, .nilp), (18, .agg [.nilp]), (19, .agg [.nilp]), (21, .nat .i32 0), (22, .sl 0 0 [] 0 0 0 (some 0)), (23, .nat .u16 0), (24, .nilf), (25, .sl 0 0 [] 0 0 0 (some 0)), (26, .nilf), (27, .agg [.nat .u8 0, .nat .u8 0, .nat .u8 0, .nat .u8 0, .nat .i64 0]), (28, .agg [.nat .u8 0, .nat .u8 0, .nat .u8 0, .nat .u8 0, .nat .i64 0]), (29, .nat .u64 0), (30, .agg [.nat .i64 0, .nat .i64 0, .nat .i64 0]), (31, .agg [.nat .i64 0, .nat .i64 0, .nat .i64 0]), (32, .nat .i64 0), (34, .nilf), (35, .sl 0 0 [] 0 0 0 (some 0)), (37, .nilf), (39, .nilf), (40, .agg [.bool false, .nat .i64 0]), (41, .agg [.bool false, .nat .i64 0]), (42, .arr 8 2 fun _ => .agg [.bool false, .nat .i64 0]), (43, .agg [.bool false, (.arr 8 2 fun _ => .agg [.bool false, .nat .i64 0])]), (44, .agg [.bool false, (.arr 8 2 fun _ => .agg [.bool false, .nat .i64 0])]), (45, .nilf), (46, .arr 8 1 fun _ => .nat .i64 0), (47, .sl 0 0 [] 0 0 0 (some 0)), (48, .nat .u32 0), (49, .agg [.nat .u8 0, (.arr 8 1 fun _ => .nat .i64 0), .sl 0 0 [] 0 0 0 (some 0), .nat .u32 0, .nat .u8 0]), (50, .agg [.nat .u8 0, (.arr 8 1 fun _ => .nat .i64 0), .sl 0 0 [] 0 0 0 (some 0), .nat .u32 0, .nat .u8 0]), (51, .sl 0 0 [] 0 0 0 (some 0)), (52, .agg [.nat .i64 0, .bool false, (.arr 8 1 fun _ => .nat .i64 0), .sl 0 0 [] 0 0 0 (some 0), .nat .i64 0, .sl 0 0 [] 0 0 0 (some 0)]), (53, .agg [.nat .i64 0, .bool false, (.arr 8 1 fun _ => .nat .i64 0), .sl 0 0 [] 0 0 0 (some 0), .nat .i64 0, .sl 0 0 [] 0 0 0 (some 0)]), (54, .nilf), (55, .agg [.nat .u64 0, .nat .i64 0, .nat .i64 0, .nat .i64 0, .nat .i64 0]), (56, .agg [.nat .u64 0, .nat .i64 0, .nat .i64 0, .nat .i64 0, .nat .i64 0]), (58, .nilf), (59, .nilf), (60, .nilf), (62, .nilf), (63, .agg [.nat .i64 0, .nat .i64 0, .nat .i64 0]), (64, .agg [.nat .i64 0, .nat .i64 0, .nat .i64 0]), (65, .nilf), (66, .nilf), (67, .agg [.nat .i64 0, .nat .i64 0, .nat .i64 0]), (68, .agg [.nat .i64 0, .nat .i64 0, .nat .i64 0]), (69, .agg [.agg [.nat .i64 0, .nat .i64 0, .nat .i64 0], .nat .i64 0, .nat .i64 0]), (70, .agg [.agg [.nat .i64 0, .nat .i64 0, .nat .i64 0], .nat .i64 0, .nat .i64 0]), (71, .nilf), (72, .nilf), (73, .nilf), (74, .nilf), (75, .nilf), (76, .nilf), (77, .nilf), (78, .nilf), (79, .sl 0 0 [] 0 0 0 (some 0)), (80, .sl 0 0 [] 0 0 0 (some 0)), (81, .sl 0 0 [] 0 0 0 (some 0)), (83, .nilf), (85, .nilf), (86, .nilf), (87, .arr 3 1 fun _ => .nat .i64 0), (88, .nilf), (89, .nilp), (90, .agg [(.arr 8 1 fun _ => .nat .i64 0), .sl 0 0 [] 0 0 0 (some 0), .sl 0 0 [] 0 0 0 (some 0), .nat .i64 0]), (91, .agg [(.arr 8 1 fun _ => .nat .i64 0), .sl 0 0 [] 0 0 0 (some 0), .sl 0 0 [] 0 0 0 (some 0), .nat .i64 0]), (93, .nilf), (94, .nilf), (95, .nilf), (97, .nilf), (98, .nilf), (99, .nilp), (100, .nilp), (101, .agg [.nilp, .sl 0 0 [] 0 0 0 (some 0)]), (102, .agg [.nilp, .sl 0 0 [] 0 0 0 (some 0)]), (103, .sl 0 0 [] 0 0 0 (some 0)), (104, .nilf), (105, .nilf), (106, .nilf), (107, .arr 3 1 fun _ => .nat .u8 0), (108, .nilf), (109, .nilf), (110, .nilf), (111, .sl 0 0 [] 0 0 0 (some 0)), (113, .nilf), (114, .nilf), (115, .nilf), (116, .nilf), (117, .nilf), (118, .nilf), (119, .nilf), (120, .nilf), (121, .agg [.nat .u8 0, .nat .u8 0, .nat .u8 0, .nat .u8 0, .nat .i64 0]), (122, .nilf), (123, .nilf), (124, .nilf), (125, .nilf), (126, .nilf), (127, .nilf), (128, .nilf), (129, .nilf), (131, .nilf), (132, .nilf), (133, .sl 0 0 [] 0 0 0 (some 0)), (134, .agg [.nat .i64 0, .bool false, (.arr 8 1 fun _ => .nat .i64 0), .sl 0 0 [] 0 0 0 (some 0), .nat .i64 0, .sl 0 0 [] 0 0 0 (some 0)]), (135, .agg [.nat .i64 0, .bool false, (.arr 8 1 fun _ => .nat .i64 0), .sl 0 0 [] 0 0 0 (some 0), .nat .i64 0, .sl 0 0 [] 0 0 0 (some 0)]), (136, .nilf), (138, .nilf), (139, .sl 0 0 [] 0 0 0 (some 0)), (140, .nilf), (141, .agg [.nat .u64 0, .nat .i64 0, .nat .i64 0, .nat .i64 0, .nat .i64 0]), (142, .nilf), (143, .nilf), (144, .nilf), (145, .nilf), (146, .nilf), (147, .nilf), (148, .nilf), (150, .nilf), (151, .agg [.agg [.nat .i64 0, .bool false, (.arr 8 1 fun _ => .nat .i64 0), .sl 0 0 [] 0 0 0 (some 0), .nat .i64 0, .sl 0 0 [] 0 0 0 (some 0)], .agg [.nat .u64 0, .nat .i64 0, .nat .i64 0, .nat .i64 0, .nat .i64 0], .agg [.nat .u8 0, .nat .u8 0, .nat .u8 0, .nat .u8 0, .nat .i64 0]]), (152, .agg [.agg [.nat .i64 0, .bool false, (.arr 8 1 fun _ => .nat .i64 0), .sl 0 0 [] 0 0 0 (some 0), .nat .i64 0, .sl 0 0 [] 0 0 0 (some 0)], .agg [.nat .u64 0, .nat .i64 0, .nat .i64 0, .nat .i64 0, .nat .i64 0], .agg [.nat .u8 0, .nat .u8 0, .nat .u8 0, .nat .u8 0, .nat .i64 0]]), (153, .agg [.nat .i64 0, .nat .i64 0, .nat .i64 0]), (154, .sl 0 0 [] 0 0 0 (some 0)), (156, .nilf), (158, .nilf), (160, .nilf), (161, .nilf), (163, .nilf), (164, .nilf), (165, .nilf), (166, .nilf), (167, .nilf), (168, .nilf), (169, .agg [.nat .u8 0, .str ⟨#[]⟩]), (170, .agg [.nat .u8 0, .str ⟨#[]⟩]), (171, .arr 11 2 fun _ => .agg [.nat .u8 0, .str ⟨#[]⟩]), (172, .sl 0 0 [] 0 0 0 (some 0)), (173, .nilf), (174, .nilf), (176, .nilf), (177, .nilf), (178, .nilf), (179, .nat .u64 0), (181, .nilf), (182, .nilf), (183, .nilf), (184, .nilf), (185, .nilf), (186, .nilf), (187, .nilp), (188, .sl 0 0 [] 0 0 0 (some 0)), (189, .sl 0 0 [] 0 0 0 (some 0)), (190, .nilf), (191, .nilf), (192, .nilf), (193, .nilf), (194, .nilf), (195, .nilf), (196, .nilf), (197, .nilf), (198, .nilf), (199, .nilf), (200, .agg [.nat .i64 0, .nat .i64 0, .nat .i64 0]), (201, .nilf), (202, .agg [.nat .u8 0, .nat .u8 0, .nat .u8 0, .nat .u8 0, .nat .i64 0]), (203, .agg [.str ⟨#[]⟩, .bool false]), (204, .agg [.str ⟨#[]⟩, .bool false]), (205, .arr 18 2 fun _ => .agg [.str ⟨#[]⟩, .bool false]), (206, .nilf), (207, .nilf), (208, .nilf), (209, .agg [.bool false, .nat .i64 0]), (210, .arr 8 2 fun _ => .agg [.bool false, .nat .i64 0]), (211, .agg [.bool false, (.arr 8 2 fun _ => .agg [.bool false, .nat .i64 0])]), (212, .agg [.bool false, (.arr 8 2 fun _ => .agg [.bool false, .nat .i64 0])]), (213, .nilf), (214, .nilf), (215, .nilf), (216, .nilf), (217, .nilf), (219, .nilf), (221, .nilf), (222, .nilf), (223, .nilf), (224, .nilf), (226, .nilf), (227, .nilf), (228, .nilf), (229, .nilf), (230, .nilf), (232, .nilf), (233, .nilf), (234, .agg [.nat .u8 0, .nilf]), (235, .agg [.nat .u8 0, .nilf]), (236, .arr 11 2 fun _ => .agg [.nat .u8 0, .nilf]), (237, .nilf), (238, .nilf), (239, .nilf), (240, .nilf), (241, .nilf), (242, .nilf), (243, .sl 0 0 [] 0 0 0 (some 0)), (244, .nilf), (245, .nilf), (246, .nilf), (247, .nilf), (248, .nilf), (250, .nilf), (251, .nilf), (252, .nilf), (253, .nilf), (254, .nilf), (255, .nilf), (256, .nilp), (258, .nilf), (259, .nilf), (260, .nilf), (261, .nilf), (262, .nilf), (263, .agg [.nilp, .nilp, .nilp, .str ⟨#[]⟩]), (264, .agg [.nilp, .nilp, .nilp, .str ⟨#[]⟩]), (268, .nat .u8 0), (269, .nat .u8 0), (270, .nilf), (271, .nat .i32 0), (272, .nat .i32 0)]
def tys : List (Nat × TK) := [(1, TK.func), (2, TK.int IntKind.i64), (3, TK.int IntKind.i64), (4, TK.bool), (5, TK.int IntKind.u8), (6, TK.int IntKind.u8), (7, TK.struct 4 [(0, 1, false), (1, 1, false), (2, 1, false), (3, 1, false)]), (8, TK.struct 4 [(0, 1, false), (1, 1, false), (2, 1, false), (3, 1, false)]), (9, TK.str), (10, TK.str), (11, TK.str), (12, TK.int IntKind.u64), (13, TK.struct 2 [(0, 1, false), (1, 1, false)]), (14, TK.struct 2 [(0, 1, false), (1, 1, false)]), (15, TK.ptr 4), (17, TK.ptr 11), (18, TK.struct 1 [(0, 1, false)]), (19, TK.struct 1 [(0, 1, false)]), (21, TK.int IntKind.i32), (22, TK.slice 121 5 16), (23, TK.int IntKind.u16), (24, TK.func), (25, TK.slice 28 5 16), (26, TK.func), (27, TK.struct 5 [(0, 1, false), (1, 1, false), (2, 1, false), (3, 1, false), (4, 1, false)]), (28, TK.struct 5 [(0, 1, false), (1, 1, false), (2, 1, false), (3, 1, false), (4, 1, false)]), (29, TK.int IntKind.u64), (30, TK.struct 3 [(0, 1, false), (1, 1, false), (2, 1, false)]), (31, TK.struct 3 [(0, 1, false), (1, 1, false), (2, 1, false)]), (32, TK.int IntKind.i64), (34, TK.func), (35, TK.slice 44 17 136), (37, TK.func), (39, TK.func), (40, TK.struct 2 [(0, 1, false), (1, 1, false)]), (41, TK.struct 2 [(0, 1, false), (1, 1, false)]), (42, TK.array 41 8 2 true), (43, TK.struct 17 [(0, 1, false), (1, 16, true)]), (44, TK.struct 17 [(0, 1, false), (1, 16, true)]), (45, TK.func), (46, TK.array 2 8 1 false), (47, TK.slice 2 1 8), (48, TK.int IntKind.u32), (49, TK.struct 12 [(0, 1, false), (1, 8, true), (9, 1, false), (10, 1, false), (11, 1, false)]), (50, TK.struct 12 [(0, 1, false), (1, 8, true), (9, 1, false), (10, 1, false), (11, 1, false)]), (51, TK.slice 64 3 24), (52, TK.struct 13 [(0, 1, false), (1, 1, false), (2, 8, true), (10, 1, false), (11, 1, false), (12, 1, false)]), (53, TK.struct 13 [(0, 1, false), (1, 1, false), (2, 8, true), (10, 1, false), (11, 1, false), (12, 1, false)]), (54, TK.func), (55, TK.struct 5 [(0, 1, false), (1, 1, false), (2, 1, false), (3, 1, false), (4, 1, false)]), (56, TK.struct 5 [(0, 1, false), (1, 1, false), (2, 1, false), (3, 1, false), (4, 1, false)]), (58, TK.func), (59, TK.func), (60, TK.func), (62, TK.func), (63, TK.struct 3 [(0, 1, false), (1, 1, false), (2, 1, false)]), (64, TK.struct 3 [(0, 1, false), (1, 1, false), (2, 1, false)]), (65, TK.func), (66, TK.func), (67, TK.struct 3 [(0, 1, false), (1, 1, false), (2, 1, false)]), (68, TK.struct 3 [(0, 1, false), (1, 1, false), (2, 1, false)]), (69, TK.struct 5 [(0, 3, true), (3, 1, false), (4, 1, false)]), (70, TK.struct 5 [(0, 3, true), (3, 1, false), (4, 1, false)]), (71, TK.func), (72, TK.func), (73, TK.func), (74, TK.func), (75, TK.func), (76, TK.func), (77, TK.func), (78, TK.func), (79, TK.slice 3 1 8), (80, TK.slice 25 1 24), (81, TK.slice 32 1 8), (83, TK.func), (85, TK.func), (86, TK.func), (87, TK.array 2 3 1 false), (88, TK.func), (89, TK.ptr 11), (90, TK.struct 11 [(0, 8, true), (8, 1, false), (9, 1, false), (10, 1, false)]), (91, TK.struct 11 [(0, 8, true), (8, 1, false), (9, 1, false), (10, 1, false)]), (93, TK.func), (94, TK.func), (95, TK.func), (97, TK.func), (98, TK.func), (99, TK.ptr 2), (100, TK.ptr 23), (101, TK.struct 2 [(0, 1, false), (1, 1, false)]), (102, TK.struct 2 [(0, 1, false), (1, 1, false)]), (103, TK.slice 99 1 8), (104, TK.func), (105, TK.func), (106, TK.func), (107, TK.array 5 3 1 false), (108, TK.func), (109, TK.func), (110, TK.func), (111, TK.slice 4 1 1), (113, TK.func), (114, TK.func), (115, TK.func), (116, TK.func), (117, TK.func), (118, TK.func), (119, TK.func), (120, TK.func), (121, TK.struct 5 [(0, 1, false), (1, 1, false), (2, 1, false), (3, 1, false), (4, 1, false)]), (122, TK.func), (123, TK.func), (124, TK.func), (125, TK.func), (126, TK.func), (127, TK.func), (128, TK.func), (129, TK.func), (131, TK.func), (132, TK.func), (133, TK.slice 200 3 24), (134, TK.struct 13 [(0, 1, false), (1, 1, false), (2, 8, true), (10, 1, false), (11, 1, false), (12, 1, false)]), (135, TK.struct 13 [(0, 1, false), (1, 1, false), (2, 8, true), (10, 1, false), (11, 1, false), (12, 1, false)]), (136, TK.func), (138, TK.func), (139, TK.slice 202 5 16), (140, TK.func), (141, TK.struct 5 [(0, 1, false), (1, 1, false), (2, 1, false), (3, 1, false), (4, 1, false)]), (142, TK.func), (143, TK.func), (144, TK.func), (145, TK.func), (146, TK.func), (147, TK.func), (148, TK.func), (150, TK.func), (151, TK.struct 23 [(0, 13, true), (13, 5, true), (18, 5, true)]), (152, TK.struct 23 [(0, 13, true), (13, 5, true), (18, 5, true)]), (153, TK.struct 3 [(0, 1, false), (1, 1, false), (2, 1, false)]), (154, TK.slice 212 17 136), (156, TK.func), (158, TK.func), (160, TK.func), (161, TK.func), (163, TK.func), (164, TK.func), (165, TK.func), (166, TK.func), (167, TK.func), (168, TK.func), (169, TK.struct 2 [(0, 1, false), (1, 1, false)]), (170, TK.struct 2 [(0, 1, false), (1, 1, false)]), (171, TK.array 170 11 2 true), (172, TK.slice 56 5 40), (173, TK.func), (174, TK.func), (176, TK.func), (177, TK.func), (178, TK.func), (179, TK.int IntKind.u64), (181, TK.func), (182, TK.func), (183, TK.func), (184, TK.func), (185, TK.func), (186, TK.func), (187, TK.ptr 1), (188, TK.slice 187 1 8), (189, TK.slice 5 1 1), (190, TK.func), (191, TK.func), (192, TK.func), (193, TK.func), (194, TK.func), (195, TK.func), (196, TK.func), (197, TK.func), (198, TK.func), (199, TK.func), (200, TK.struct 3 [(0, 1, false), (1, 1, false), (2, 1, false)]), (201, TK.func), (202, TK.struct 5 [(0, 1, false), (1, 1, false), (2, 1, false), (3, 1, false), (4, 1, false)]), (203, TK.struct 2 [(0, 1, false), (1, 1, false)]), (204, TK.struct 2 [(0, 1, false), (1, 1, false)]), (205, TK.array 204 18 2 true), (206, TK.func), (207, TK.func), (208, TK.func), (209, TK.struct 2 [(0, 1, false), (1, 1, false)]), (210, TK.array 209 8 2 true), (211, TK.struct 17 [(0, 1, false), (1, 16, true)]), (212, TK.struct 17 [(0, 1, false), (1, 16, true)]), (213, TK.func), (214, TK.func), (215, TK.func), (216, TK.func), (217, TK.func), (219, TK.func), (221, TK.func), (222, TK.func), (223, TK.func), (224, TK.func), (226, TK.func), (227, TK.func), (228, TK.func), (229, TK.func), (230, TK.func), (232, TK.func), (233, TK.func), (234, TK.struct 2 [(0, 1, false), (1, 1, false)]), (235, TK.struct 2 [(0, 1, false), (1, 1, false)]), (236, TK.array 235 11 2 true), (237, TK.func), (238, TK.func), (239, TK.func), (240, TK.func), (241, TK.func), (242, TK.func), (243, TK.slice 29 1 8), (244, TK.func), (245, TK.func), (246, TK.func), (247, TK.func), (248, TK.func), (250, TK.func), (251, TK.func), (252, TK.func), (253, TK.func), (254, TK.func), (255, TK.func), (256, TK.ptr 1), (258, TK.func), (259, TK.func), (260, TK.func), (261, TK.func), (262, TK.func), (263, TK.struct 4 [(0, 1, false), (1, 1, false), (2, 1, false), (3, 1, false)]), (264, TK.struct 4 [(0, 1, false), (1, 1, false), (2, 1, false), (3, 1, false)]), (265, TK.array 16 0 1 false), (268, TK.int IntKind.u8), (269, TK.int IntKind.u8), (270, TK.func), (271, TK.int IntKind.i32), (272, TK.int IntKind.i32)]
def ets : List (Nat × ET) := [(7, .struct [.int .i64, .int .i64, .bool, .int .u8]), (8, .struct [.int .i64, .int .i64, .bool, .int .u8]), (27, .struct [.int .u8, .int .u8, .int .u8, .int .u8, .int .i64]), (28, .struct [.int .u8, .int .u8, .int .u8, .int .u8, .int .i64]), (30, .struct [.int .i64, .int .i64, .int .i64]), (31, .struct [.int .i64, .int .i64, .int .i64]), (40, .struct [.bool, .int .i64]), (41, .struct [.bool, .int .i64]), (42, .arr 8 2 (.struct [.bool, .int .i64])), (43, .struct [.bool, .arr 8 2 (.struct [.bool, .int .i64])]), (44, .struct [.bool, .arr 8 2 (.struct [.bool, .int .i64])]), (46, .arr 8 1 (.int .i64)), (55, .struct [.int .u64, .int .i64, .int .i64, .int .i64, .int .i64]), (56, .struct [.int .u64, .int .i64, .int .i64, .int .i64, .int .i64]), (63, .struct [.int .i64, .int .i64, .int .i64]), (64, .struct [.int .i64, .int .i64, .int .i64]), (67, .struct [.int .i64, .int .i64, .int .i64]), (68, .struct [.int .i64, .int .i64, .int .i64]), (69, .struct [.struct [.int .i64, .int .i64, .int .i64], .int .i64, .int .i64]), (70, .struct [.struct [.int .i64, .int .i64, .int .i64], .int .i64, .int .i64]), (87, .arr 3 1 (.int .i64)), (107, .arr 3 1 (.int .u8)), (121, .struct [.int .u8, .int .u8, .int .u8, .int .u8, .int .i64]), (141, .struct [.int .u64, .int .i64, .int .i64, .int .i64, .int .i64]), (153, .struct [.int .i64, .int .i64, .int .i64]), (169, .struct [.int .u8, .str]), (170, .struct [.int .u8, .str]), (171, .arr 11 2 (.struct [.int .u8, .str])), (200, .struct [.int .i64, .int .i64, .int .i64]), (202, .struct [.int .u8, .int .u8, .int .u8, .int .u8, .int .i64]), (203, .struct [.str, .bool]), (204, .struct [.str, .bool]), (205, .arr 18 2 (.struct [.str, .bool])), (209, .struct [.bool, .int .i64]), (210, .arr 8 2 (.struct [.bool, .int .i64])), (211, .struct [.bool, .arr 8 2 (.struct [.bool, .int .i64])]), (212, .struct [.bool, .arr 8 2 (.struct [.bool, .int .i64])])]
def tab : Tab := ⟨look2 tys, look zs, look2 ets⟩
theorem eb_7 : etB Try.prog 7 (.struct [.int .i64, .int .i64, .bool, .int .u8]) = true := by kernel_rfl
theorem eb_8 : etB Try.prog 8 (.struct [.int .i64, .int .i64, .bool, .int .u8]) = true := by kernel_rfl
theorem eb_27 : etB Try.prog 27 (.struct [.int .u8, .int .u8, .int .u8, .int .u8, .int .i64]) = true := by kernel_rfl
theorem eb_28 : etB Try.prog 28 (.struct [.int .u8, .int .u8, .int .u8, .int .u8, .int .i64]) = true := by kernel_rfl
theorem eb_30 : etB Try.prog 30 (.struct [.int .i64, .int .i64, .int .i64]) = true := by kernel_rfl
theorem eb_31 : etB Try.prog 31 (.struct [.int .i64, .int .i64, .int .i64]) = true := by kernel_rfl
theorem eb_40 : etB Try.prog 40 (.struct [.bool, .int .i64]) = true := by kernel_rfl
theorem eb_41 : etB Try.prog 41 (.struct [.bool, .int .i64]) = true := by kernel_rfl
theorem eb_42 : etB Try.prog 42 (.arr 8 2 (.struct [.bool, .int .i64])) = true := by kernel_rfl
theorem eb_43 : etB Try.prog 43 (.struct [.bool, .arr 8 2 (.struct [.bool, .int .i64])]) = true := by kernel_rfl
theorem eb_44 : etB Try.prog 44 (.struct [.bool, .arr 8 2 (.struct [.bool, .int .i64])]) = true := by kernel_rfl
theorem eb_46 : etB Try.prog 46 (.arr 8 1 (.int .i64)) = true := by kernel_rfl
theorem eb_55 : etB Try.prog 55 (.struct [.int .u64, .int .i64, .int .i64, .int .i64, .int .i64]) = true := by kernel_rfl
theorem eb_56 : etB Try.prog 56 (.struct [.int .u64, .int .i64, .int .i64, .int .i64, .int .i64]) = true := by kernel_rfl
theorem eb_63 : etB Try.prog 63 (.struct [.int .i64, .int .i64, .int .i64]) = true := by kernel_rfl
theorem eb_64 : etB Try.prog 64 (.struct [.int .i64, .int .i64, .int .i64]) = true := by kernel_rfl
theorem eb_67 : etB Try.prog 67 (.struct [.int .i64, .int .i64, .int .i64]) = true := by kernel_rfl
theorem eb_68 : etB Try.prog 68 (.struct [.int .i64, .int .i64, .int .i64]) = true := by kernel_rfl
theorem eb_69 : etB Try.prog 69 (.struct [.struct [.int .i64, .int .i64, .int .i64], .int .i64, .int .i64]) = true := by kernel_rfl
theorem eb_70 : etB Try.prog 70 (.struct [.struct [.int .i64, .int .i64, .int .i64], .int .i64, .int .i64]) = true := by kernel_rfl
theorem eb_87 : etB Try.prog 87 (.arr 3 1 (.int .i64)) = true := by kernel_rfl
theorem eb_107 : etB Try.prog 107 (.arr 3 1 (.int .u8)) = true := by kernel_rfl
theorem eb_121 : etB Try.prog 121 (.struct [.int .u8, .int .u8, .int .u8, .int .u8, .int .i64]) = true := by kernel_rfl
theorem eb_141 : etB Try.prog 141 (.struct [.int .u64, .int .i64, .int .i64, .int .i64, .int .i64]) = true := by kernel_rfl
theorem eb_153 : etB Try.prog 153 (.struct [.int .i64, .int .i64, .int .i64]) = true := by kernel_rfl
theorem eb_169 : etB Try.prog 169 (.struct [.int .u8, .str]) = true := by kernel_rfl
theorem eb_170 : etB Try.prog 170 (.struct [.int .u8, .str]) = true := by kernel_rfl
theorem eb_171 : etB Try.prog 171 (.arr 11 2 (.struct [.int .u8, .str])) = true := by kernel_rfl
theorem eb_200 : etB Try.prog 200 (.struct [.int .i64, .int .i64, .int .i64]) = true := by kernel_rfl
theorem eb_202 : etB Try.prog 202 (.struct [.int .u8, .int .u8, .int .u8, .int .u8, .int .i64]) = true := by kernel_rfl
theorem eb_203 : etB Try.prog 203 (.struct [.str, .bool]) = true := by kernel_rfl
theorem eb_204 : etB Try.prog 204 (.struct [.str, .bool]) = true := by kernel_rfl
theorem eb_205 : etB Try.prog 205 (.arr 18 2 (.struct [.str, .bool])) = true := by kernel_rfl
theorem eb_209 : etB Try.prog 209 (.struct [.bool, .int .i64]) = true := by kernel_rfl
theorem eb_210 : etB Try.prog 210 (.arr 8 2 (.struct [.bool, .int .i64])) = true := by kernel_rfl
theorem eb_211 : etB Try.prog 211 (.struct [.bool, .arr 8 2 (.struct [.bool, .int .i64])]) = true := by kernel_rfl
theorem eb_212 : etB Try.prog 212 (.struct [.bool, .arr 8 2 (.struct [.bool, .int .i64])]) = true := by kernel_rfl
theorem ets_ok : etsOk Try.prog ets := ⟨eb_7, eb_8, eb_27, eb_28, eb_30, eb_31, eb_40, eb_41, eb_42, eb_43, eb_44, eb_46, eb_55, eb_56, eb_63, eb_64, eb_67, eb_68, eb_69, eb_70, eb_87, eb_107, eb_121, eb_141, eb_153, eb_169, eb_170, eb_171, eb_200, eb_202, eb_203, eb_204, eb_205, eb_209, eb_210, eb_211, eb_212, trivial⟩
theorem zo_1 : ZeroOk Try.prog 1 (.nilf) := ⟨rfl, by simp only [Stable, StableL, hm0, HB.born, if_true, implies_true, and_self], by kernel_rfl⟩
theorem zo_2 : ZeroOk Try.prog 2 (.nat .i64 0) := ⟨rfl, by simp only [Stable, StableL, hm0, HB.born, if_true, implies_true, and_self], by kernel_rfl⟩
theorem zo_3 : ZeroOk Try.prog 3 (.nat .i64 0) := ⟨rfl, by simp only [Stable, StableL, hm0, HB.born, if_true, implies_true, and_self], by kernel_rfl⟩
theorem zo_4 : ZeroOk Try.prog 4 (.bool false) := ⟨rfl, by simp only [Stable, StableL, hm0, HB.born, if_true, implies_true, and_self], by kernel_rfl⟩
theorem zo_5 : ZeroOk Try.prog 5 (.nat .u8 0) := ⟨rfl, by simp only [Stable, StableL, hm0, HB.born, if_true, implies_true, and_self], by kernel_rfl⟩
theorem zo_6 : ZeroOk Try.prog 6 (.nat .u8 0) := ⟨rfl, by simp only [Stable, StableL, hm0, HB.born, if_true, implies_true, and_self], by kernel_rfl⟩
theorem zo_7 : ZeroOk Try.prog 7 (.agg [.nat .i64 0, .nat .i64 0, .bool false, .nat .u8 0]) := ⟨rfl, by simp only [Stable, StableL, hm0, HB.born, if_true, implies_true, and_self], by kernel_rfl⟩
theorem zo_8 : ZeroOk Try.prog 8 (.agg [.nat .i64 0, .nat .i64 0, .bool false, .nat .u8 0]) := ⟨rfl, by simp only [Stable, StableL, hm0, HB.born, if_true, implies_true, and_self], by kernel_rfl⟩
theorem zo_9 : ZeroOk Try.prog 9 (.str ⟨#[]⟩) := ⟨rfl, by simp only [Stable, StableL, hm0, HB.born, if_true, implies_true, and_self], by kernel_rfl⟩
theorem zo_10 : ZeroOk Try.prog 10 (.str ⟨#[]⟩) := ⟨rfl, by simp only [Stable, StableL, hm0, HB.born, if_true, implies_true, and_self], by kernel_rfl⟩
theorem zo_11 : ZeroOk Try.prog 11 (.str ⟨#[]⟩) := ⟨rfl, by simp only [Stable, StableL, hm0, HB.born, if_true, implies_true, and_self], by kernel_rfl⟩
theorem zo_12 : ZeroOk Try.prog 12 (.nat .u64 0) := ⟨rfl, by simp only [Stable, StableL, hm0, HB.born, if_true, implies_true, and_self], by kernel_rfl⟩
theorem zo_13 : ZeroOk Try.prog 13 (.agg [.str ⟨#[]⟩, .nat .u64 0]) := ⟨rfl, by simp only [Stable, StableL, hm0, HB.born, if_true, implies_true, and_self], by kernel_rfl⟩
theorem zo_14 : ZeroOk Try.prog 14 (.agg [.str ⟨#[]⟩, .nat .u64 0]) := ⟨rfl, by simp only [Stable, StableL, hm0, HB.born, if_true, implies_true, and_self], by kernel_rfl⟩
theorem zo_15 : ZeroOk Try.prog 15 (.nilp) := ⟨rfl, by simp only [Stable, StableL, hm0, HB.born, if_true, implies_true, and_self], by kernel_rfl⟩
theorem zo_17 : ZeroOk Try.prog 17 (.nilp) := ⟨rfl, by simp only [Stable, StableL, hm0, HB.born, if_true, implies_true, and_self], by kernel_rfl⟩
theorem zo_18 : ZeroOk Try.prog 18 (.agg [.nilp]) := ⟨rfl, by simp only [Stable, StableL, hm0, HB.born, if_true, implies_true, and_self], by kernel_rfl⟩
theorem zo_19 : ZeroOk Try.prog 19 (.agg [.nilp]) := ⟨rfl, by simp only [Stable, StableL, hm0, HB.born, if_true, implies_true, and_self], by kernel_rfl⟩
theorem zo_21 : ZeroOk Try.prog 21 (.nat .i32 0) := ⟨rfl, by simp only [Stable, StableL, hm0, HB.born, if_true, implies_true, and_self], by kernel_rfl⟩
theorem zo_22 : ZeroOk Try.prog 22 (.sl 0 0 [] 0 0 0 (some 0)) := ⟨rfl, by simp only [Stable, StableL, hm0, HB.born, if_true, implies_true, and_self], by kernel_rfl⟩
theorem zo_23 : ZeroOk Try.prog 23 (.nat .u16 0) := ⟨rfl, by simp only [Stable, StableL, hm0, HB.born, if_true, implies_true, and_self], by kernel_rfl⟩
theorem zo_24 : ZeroOk Try.prog 24 (.nilf) := ⟨rfl, by simp only [Stable, StableL, hm0, HB.born, if_true, implies_true, and_self], by kernel_rfl⟩
theorem zo_25 : ZeroOk Try.prog 25 (.sl 0 0 [] 0 0 0 (some 0)) := ⟨rfl, by simp only [Stable, StableL, hm0, HB.born, if_true, implies_true, and_self], by kernel_rfl⟩
theorem zo_26 : ZeroOk Try.prog 26 (.nilf) := ⟨rfl, by simp only [Stable, StableL, hm0, HB.born, if_true, implies_true, and_self], by kernel_rfl⟩
theorem zo_27 : ZeroOk Try.prog 27 (.agg [.nat .u8 0, .nat .u8 0, .nat .u8 0, .nat .u8 0, .nat .i64 0]) := ⟨rfl, by simp only [Stable, StableL, hm0, HB.born, if_true, implies_true, and_self], by kernel_rfl⟩
theorem zo_28 : ZeroOk Try.prog 28 (.agg [.nat .u8 0, .nat .u8 0, .nat .u8 0, .nat .u8 0, .nat .i64 0]) := ⟨rfl, by simp only [Stable, StableL, hm0, HB.born, if_true, implies_true, and_self], by kernel_rfl⟩
theorem zo_29 : ZeroOk Try.prog 29 (.nat .u64 0) := ⟨rfl, by simp only [Stable, StableL, hm0, HB.born, if_true, implies_true, and_self], by kernel_rfl⟩
theorem zo_30 : ZeroOk Try.prog 30 (.agg [.nat .i64 0, .nat .i64 0, .nat .i64 0]) := ⟨rfl, by simp only [Stable, StableL, hm0, HB.born, if_true, implies_true, and_self], by kernel_rfl⟩
theorem zo_31 : ZeroOk Try.prog 31 (.agg [.nat .i64 0, .nat .i64 0, .nat .i64 0]) := ⟨rfl, by simp only [Stable, StableL, hm0, HB.born, if_true, implies_true, and_self], by kernel_rfl⟩
theorem zo_32 : ZeroOk Try.prog 32 (.nat .i64 0) := ⟨rfl, by simp only [Stable, StableL, hm0, HB.born, if_true, implies_true, and_self], by kernel_rfl⟩
theorem zo_34 : ZeroOk Try.prog 34 (.nilf) := ⟨rfl, by simp only [Stable, StableL, hm0, HB.born, if_true, implies_true, and_self], by kernel_rfl⟩
theorem zo_35 : ZeroOk Try.prog 35 (.sl 0 0 [] 0 0 0 (some 0)) := ⟨rfl, by simp only [Stable, StableL, hm0, HB.born, if_true, implies_true, and_self], by kernel_rfl⟩
theorem zo_37 : ZeroOk Try.prog 37 (.nilf) := ⟨rfl, by simp only [Stable, StableL, hm0, HB.born, if_true, implies_true, and_self], by kernel_rfl⟩
theorem zo_39 : ZeroOk Try.prog 39 (.nilf) := ⟨rfl, by simp only [Stable, StableL, hm0, HB.born, if_true, implies_true, and_self], by kernel_rfl⟩
theorem zo_40 : ZeroOk Try.prog 40 (.agg [.bool false, .nat .i64 0]) := ⟨rfl, by simp only [Stable, StableL, hm0, HB.born, if_true, implies_true, and_self], by kernel_rfl⟩
theorem zo_41 : ZeroOk Try.prog 41 (.agg [.bool false, .nat .i64 0]) := ⟨rfl, by simp only [Stable, StableL, hm0, HB.born, if_true, implies_true, and_self], by kernel_rfl⟩
theorem zo_42 : ZeroOk Try.prog 42 (.arr 8 2 fun _ => .agg [.bool false, .nat .i64 0]) := ⟨rfl, by simp only [Stable, StableL, hm0, HB.born, if_true, implies_true, and_self], by kernel_rfl⟩
theorem zo_43 : ZeroOk Try.prog 43 (.agg [.bool false, (.arr 8 2 fun _ => .agg [.bool false, .nat .i64 0])]) := ⟨rfl, by simp only [Stable, StableL, hm0, HB.born, if_true, implies_true, and_self], by kernel_rfl⟩
theorem zo_44 : ZeroOk Try.prog 44 (.agg [.bool false, (.arr 8 2 fun _ => .agg [.bool false, .nat .i64 0])]) := ⟨rfl, by simp only [Stable, StableL, hm0, HB.born, if_true, implies_true, and_self], by kernel_rfl⟩
theorem zo_45 : ZeroOk Try.prog 45 (.nilf) := ⟨rfl, by simp only [Stable, StableL, hm0, HB.born, if_true, implies_true, and_self], by kernel_rfl⟩
theorem zo_46 : ZeroOk Try.prog 46 (.arr 8 1 fun _ => .nat .i64 0) := ⟨rfl, by simp only [Stable, StableL, hm0, HB.born, if_true, implies_true, and_self], by kernel_rfl⟩
theorem zo_47 : ZeroOk Try.prog 47 (.sl 0 0 [] 0 0 0 (some 0)) := ⟨rfl, by simp only [Stable, StableL, hm0, HB.born, if_true, implies_true, and_self], by kernel_rfl⟩
theorem zo_48 : ZeroOk Try.prog 48 (.nat .u32 0) := ⟨rfl, by simp only [Stable, StableL, hm0, HB.born, if_true, implies_true, and_self], by kernel_rfl⟩
theorem zo_49 : ZeroOk Try.prog 49 (.agg [.nat .u8 0, (.arr 8 1 fun _ => .nat .i64 0), .sl 0 0 [] 0 0 0 (some 0), .nat .u32 0, .nat .u8 0]) := ⟨rfl, by simp only [Stable, StableL, hm0, HB.born, if_true, implies_true, and_self], by kernel_rfl⟩
theorem zo_50 : ZeroOk Try.prog 50 (.agg [.nat .u8 0, (.arr 8 1 fun _ => .nat .i64 0), .sl 0 0 [] 0 0 0 (some 0), .nat .u32 0, .nat .u8 0]) := ⟨rfl, by simp only [Stable, StableL, hm0, HB.born, if_true, implies_true, and_self], by kernel_rfl⟩
theorem zo_51 : ZeroOk Try.prog 51 (.sl 0 0 [] 0 0 0 (some 0)) := ⟨rfl, by simp only [Stable, StableL, hm0, HB.born, if_true, implies_true, and_self], by kernel_rfl⟩
theorem zo_52 : ZeroOk Try.prog 52 (.agg [.nat .i64 0, .bool false, (.arr 8 1 fun _ => .nat .i64 0), .sl 0 0 [] 0 0 0 (some 0), .nat .i64 0, .sl 0 0 [] 0 0 0 (some 0)]) := ⟨rfl, by simp only [Stable, StableL, hm0, HB.born, if_true, implies_true, and_self], by kernel_rfl⟩
theorem zo_53 : ZeroOk Try.prog 53 (.agg [.nat .i64 0, .bool false, (.arr 8 1 fun _ => .nat .i64 0), .sl 0 0 [] 0 0 0 (some 0), .nat .i64 0, .sl 0 0 [] 0 0 0 (some 0)]) := ⟨rfl, by simp only [Stable, StableL, hm0, HB.born, if_true, implies_true, and_self], by kernel_rfl⟩
theorem zo_54 : ZeroOk Try.prog 54 (.nilf) := ⟨rfl, by simp only [Stable, StableL, hm0, HB.born, if_true, implies_true, and_self], by kernel_rfl⟩
theorem zo_55 : ZeroOk Try.prog 55 (.agg [.nat .u64 0, .nat .i64 0, .nat .i64 0, .nat .i64 0, .nat .i64 0]) := ⟨rfl, by simp only [Stable, StableL, hm0, HB.born, if_true, implies_true, and_self], by kernel_rfl⟩
theorem zo_56 : ZeroOk Try.prog 56 (.agg [.nat .u64 0, .nat .i64 0, .nat .i64 0, .nat .i64 0, .nat .i64 0]) := ⟨rfl, by simp only [Stable, StableL, hm0, HB.born, if_true, implies_true, and_self], by kernel_rfl⟩
theorem zo_58 : ZeroOk Try.prog 58 (.nilf) := ⟨rfl, by simp only [Stable, StableL, hm0, HB.born, if_true, implies_true, and_self], by kernel_rfl⟩
theorem zo_59 : ZeroOk Try.prog 59 (.nilf) := ⟨rfl, by simp only [Stable, StableL, hm0, HB.born, if_true, implies_true, and_self], by kernel_rfl⟩
theorem zo_60 : ZeroOk Try.prog 60 (.nilf) := ⟨rfl, by simp only [Stable, StableL, hm0, HB.born, if_true, implies_true, and_self], by kernel_rfl⟩
theorem zo_62 : ZeroOk Try.prog 62 (.nilf) := ⟨rfl, by simp only [Stable, StableL, hm0, HB.born, if_true, implies_true, and_self], by kernel_rfl⟩
theorem zo_63 : ZeroOk Try.prog 63 (.agg [.nat .i64 0, .nat .i64 0, .nat .i64 0]) := ⟨rfl, by simp only [Stable, StableL, hm0, HB.born, if_true, implies_true, and_self], by kernel_rfl⟩
theorem zo_64 : ZeroOk Try.prog 64 (.agg [.nat .i64 0, .nat .i64 0, .nat .i64 0]) := ⟨rfl, by simp only [Stable, StableL, hm0, HB.born, if_true, implies_true, and_self], by kernel_rfl⟩
theorem zo_65 : ZeroOk Try.prog 65 (.nilf) := ⟨rfl, by simp only [Stable, StableL, hm0, HB.born, if_true, implies_true, and_self], by kernel_rfl⟩
theorem zo_66 : ZeroOk Try.prog 66 (.nilf) := ⟨rfl, by simp only [Stable, StableL, hm0, HB.born, if_true, implies_true, and_self], by kernel_rfl⟩
theorem zo_67 : ZeroOk Try.prog 67 (.agg [.nat .i64 0, .nat .i64 0, .nat .i64 0]) := ⟨rfl, by simp only [Stable, StableL, hm0, HB.born, if_true, implies_true, and_self], by kernel_rfl⟩
theorem zo_68 : ZeroOk Try.prog 68 (.agg [.nat .i64 0, .nat .i64 0, .nat .i64 0]) := ⟨rfl, by simp only [Stable, StableL, hm0, HB.born, if_true, implies_true, and_self], by kernel_rfl⟩
theorem zo_69 : ZeroOk Try.prog 69 (.agg [.agg [.nat .i64 0, .nat .i64 0, .nat .i64 0], .nat .i64 0, .nat .i64 0]) := ⟨rfl, by simp only [Stable, StableL, hm0, HB.born, if_true, implies_true, and_self], by kernel_rfl⟩
theorem zo_70 : ZeroOk Try.prog 70 (.agg [.agg [.nat .i64 0, .nat .i64 0, .nat .i64 0], .nat .i64 0, .nat .i64 0]) := ⟨rfl, by simp only [Stable, StableL, hm0, HB.born, if_true, implies_true, and_self], by kernel_rfl⟩
theorem zo_71 : ZeroOk Try.prog 71 (.nilf) := ⟨rfl, by simp only [Stable, StableL, hm0, HB.born, if_true, implies_true, and_self], by kernel_rfl⟩
theorem zo_72 : ZeroOk Try.prog 72 (.nilf) := ⟨rfl, by simp only [Stable, StableL, hm0, HB.born, if_true, implies_true, and_self], by kernel_rfl⟩
theorem zo_73 : ZeroOk Try.prog 73 (.nilf) := ⟨rfl, by simp only [Stable, StableL, hm0, HB.born, if_true, implies_true, and_self], by kernel_rfl⟩
theorem zo_74 : ZeroOk Try.prog 74 (.nilf) := ⟨rfl, by simp only [Stable, StableL, hm0, HB.born, if_true, implies_true, and_self], by kernel_rfl⟩
theorem zo_75 : ZeroOk Try.prog 75 (.nilf) := ⟨rfl, by simp only [Stable, StableL, hm0, HB.born, if_true, implies_true, and_self], by kernel_rfl⟩
theorem zo_76 : ZeroOk Try.prog 76 (.nilf) := ⟨rfl, by simp only [Stable, StableL, hm0, HB.born, if_true, implies_true, and_self], by kernel_rfl⟩
theorem zo_77 : ZeroOk Try.prog 77 (.nilf) := ⟨rfl, by simp only [Stable, StableL, hm0, HB.born, if_true, implies_true, and_self], by kernel_rfl⟩
theorem zo_78 : ZeroOk Try.prog 78 (.nilf) := ⟨rfl, by simp only [Stable, StableL, hm0, HB.born, if_true, implies_true, and_self], by kernel_rfl⟩
theorem zo_79 : ZeroOk Try.prog 79 (.sl 0 0 [] 0 0 0 (some 0)) := ⟨rfl, by simp only [Stable, StableL, hm0, HB.born, if_true, implies_true, and_self], by kernel_rfl⟩
theorem zo_80 : ZeroOk Try.prog 80 (.sl 0 0 [] 0 0 0 (some 0)) := ⟨rfl, by simp only [Stable, StableL, hm0, HB.born, if_true, implies_true, and_self], by kernel_rfl⟩
theorem zo_81 : ZeroOk Try.prog 81 (.sl 0 0 [] 0 0 0 (some 0)) := ⟨rfl, by simp only [Stable, StableL, hm0, HB.born, if_true, implies_true, and_self], by kernel_rfl⟩
theorem zo_83 : ZeroOk Try.prog 83 (.nilf) := ⟨rfl, by simp only [Stable, StableL, hm0, HB.born, if_true, implies_true, and_self], by kernel_rfl⟩
theorem zo_85 : ZeroOk Try.prog 85 (.nilf) := ⟨rfl, by simp only [Stable, StableL, hm0, HB.born, if_true, implies_true, and_self], by kernel_rfl⟩
theorem zo_86 : ZeroOk Try.prog 86 (.nilf) := ⟨rfl, by simp only [Stable, StableL, hm0, HB.born, if_true, implies_true, and_self], by kernel_rfl⟩
theorem zo_87 : ZeroOk Try.prog 87 (.arr 3 1 fun _ => .nat .i64 0) := ⟨rfl, by simp only [Stable, StableL, hm0, HB.born, if_true, implies_true, and_self], by kernel_rfl⟩
theorem zo_88 : ZeroOk Try.prog 88 (.nilf) := ⟨rfl, by simp only [Stable, StableL, hm0, HB.born, if_true, implies_true, and_self], by kernel_rfl⟩
theorem zo_89 : ZeroOk Try.prog 89 (.nilp) := ⟨rfl, by simp only [Stable, StableL, hm0, HB.born, if_true, implies_true, and_self], by kernel_rfl⟩
theorem zo_90 : ZeroOk Try.prog 90 (.agg [(.arr 8 1 fun _ => .nat .i64 0), .sl 0 0 [] 0 0 0 (some 0), .sl 0 0 [] 0 0 0 (some 0), .nat .i64 0]) := ⟨rfl, by simp only [Stable, StableL, hm0, HB.born, if_true, implies_true, and_self], by kernel_rfl⟩
theorem zo_91 : ZeroOk Try.prog 91 (.agg [(.arr 8 1 fun _ => .nat .i64 0), .sl 0 0 [] 0 0 0 (some 0), .sl 0 0 [] 0 0 0 (some 0), .nat .i64 0]) := ⟨rfl, by simp only [Stable, StableL, hm0, HB.born, if_true, implies_true, and_self], by kernel_rfl⟩
theorem zo_93 : ZeroOk Try.prog 93 (.nilf) := ⟨rfl, by simp only [Stable, StableL, hm0, HB.born, if_true, implies_true, and_self], by kernel_rfl⟩
theorem zo_94 : ZeroOk Try.prog 94 (.nilf) := ⟨rfl, by simp only [Stable, StableL, hm0, HB.born, if_true, implies_true, and_self], by kernel_rfl⟩
theorem zo_95 : ZeroOk Try.prog 95 (.nilf) := ⟨rfl, by simp only [Stable, StableL, hm0, HB.born, if_true, implies_true, and_self], by kernel_rfl⟩
theorem zo_97 : ZeroOk Try.prog 97 (.nilf) := ⟨rfl, by simp only [Stable, StableL, hm0, HB.born, if_true, implies_true, and_self], by kernel_rfl⟩
theorem zo_98 : ZeroOk Try.prog 98 (.nilf) := ⟨rfl, by simp only [Stable, StableL, hm0, HB.born, if_true, implies_true, and_self], by kernel_rfl⟩
theorem zo_99 : ZeroOk Try.prog 99 (.nilp) := ⟨rfl, by simp only [Stable, StableL, hm0, HB.born, if_true, implies_true, and_self], by kernel_rfl⟩
theorem zo_100 : ZeroOk Try.prog 100 (.nilp) := ⟨rfl, by simp only [Stable, StableL, hm0, HB.born, if_true, implies_true, and_self], by kernel_rfl⟩
theorem zo_101 : ZeroOk Try.prog 101 (.agg [.nilp, .sl 0 0 [] 0 0 0 (some 0)]) := ⟨rfl, by simp only [Stable, StableL, hm0, HB.born, if_true, implies_true, and_self], by kernel_rfl⟩
theorem zo_102 : ZeroOk Try.prog 102 (.agg [.nilp, .sl 0 0 [] 0 0 0 (some 0)]) := ⟨rfl, by simp only [Stable, StableL, hm0, HB.born, if_true, implies_true, and_self], by kernel_rfl⟩
theorem zo_103 : ZeroOk Try.prog 103 (.sl 0 0 [] 0 0 0 (some 0)) := ⟨rfl, by simp only [Stable, StableL, hm0, HB.born, if_true, implies_true, and_self], by kernel_rfl⟩
theorem zo_104 : ZeroOk Try.prog 104 (.nilf) := ⟨rfl, by simp only [Stable, StableL, hm0, HB.born, if_true, implies_true, and_self], by kernel_rfl⟩
theorem zo_105 : ZeroOk Try.prog 105 (.nilf) := ⟨rfl, by simp only [Stable, StableL, hm0, HB.born, if_true, implies_true, and_self], by kernel_rfl⟩
theorem zo_106 : ZeroOk Try.prog 106 (.nilf) := ⟨rfl, by simp only [Stable, StableL, hm0, HB.born, if_true, implies_true, and_self], by kernel_rfl⟩
theorem zo_107 : ZeroOk Try.prog 107 (.arr 3 1 fun _ => .nat .u8 0) := ⟨rfl, by simp only [Stable, StableL, hm0, HB.born, if_true, implies_true, and_self], by kernel_rfl⟩
theorem zo_108 : ZeroOk Try.prog 108 (.nilf) := ⟨rfl, by simp only [Stable, StableL, hm0, HB.born, if_true, implies_true, and_self], by kernel_rfl⟩
theorem zo_109 : ZeroOk Try.prog 109 (.nilf) := ⟨rfl, by simp only [Stable, StableL, hm0, HB.born, if_true, implies_true, and_self], by kernel_rfl⟩
theorem zo_110 : ZeroOk Try.prog 110 (.nilf) := ⟨rfl, by simp only [Stable, StableL, hm0, HB.born, if_true, implies_true, and_self], by kernel_rfl⟩
theorem zo_111 : ZeroOk Try.prog 111 (.sl 0 0 [] 0 0 0 (some 0)) := ⟨rfl, by simp only [Stable, StableL, hm0, HB.born, if_true, implies_true, and_self], by kernel_rfl⟩
theorem zo_113 : ZeroOk Try.prog 113 (.nilf) := ⟨rfl, by simp only [Stable, StableL, hm0, HB.born, if_true, implies_true, and_self], by kernel_rfl⟩
theorem zo_114 : ZeroOk Try.prog 114 (.nilf) := ⟨rfl, by simp only [Stable, StableL, hm0, HB.born, if_true, implies_true, and_self], by kernel_rfl⟩
theorem zo_115 : ZeroOk Try.prog 115 (.nilf) := ⟨rfl, by simp only [Stable, StableL, hm0, HB.born, if_true, implies_true, and_self], by kernel_rfl⟩
theorem zo_116 : ZeroOk Try.prog 116 (.nilf) := ⟨rfl, by simp only [Stable, StableL, hm0, HB.born, if_true, implies_true, and_self], by kernel_rfl⟩
theorem zo_117 : ZeroOk Try.prog 117 (.nilf) := ⟨rfl, by simp only [Stable, StableL, hm0, HB.born, if_true, implies_true, and_self], by kernel_rfl⟩
theorem zo_118 : ZeroOk Try.prog 118 (.nilf) := ⟨rfl, by simp only [Stable, StableL, hm0, HB.born, if_true, implies_true, and_self], by kernel_rfl⟩
theorem zo_119 : ZeroOk Try.prog 119 (.nilf) := ⟨rfl, by simp only [Stable, StableL, hm0, HB.born, if_true, implies_true, and_self], by kernel_rfl⟩
theorem zo_120 : ZeroOk Try.prog 120 (.nilf) := ⟨rfl, by simp only [Stable, StableL, hm0, HB.born, if_true, implies_true, and_self], by kernel_rfl⟩
theorem zo_121 : ZeroOk Try.prog 121 (.agg [.nat .u8 0, .nat .u8 0, .nat .u8 0, .nat .u8 0, .nat .i64 0]) := ⟨rfl, by simp only [Stable, StableL, hm0, HB.born, if_true, implies_true, and_self], by kernel_rfl⟩
theorem zo_122 : ZeroOk Try.prog 122 (.nilf) := ⟨rfl, by simp only [Stable, StableL, hm0, HB.born, if_true, implies_true, and_self], by kernel_rfl⟩
theorem zo_123 : ZeroOk Try.prog 123 (.nilf) := ⟨rfl, by simp only [Stable, StableL, hm0, HB.born, if_true, implies_true, and_self], by kernel_rfl⟩
theorem zo_124 : ZeroOk Try.prog 124 (.nilf) := ⟨rfl, by simp only [Stable, StableL, hm0, HB.born, if_true, implies_true, and_self], by kernel_rfl⟩
theorem zo_125 : ZeroOk Try.prog 125 (.nilf) := ⟨rfl, by simp only [Stable, StableL, hm0, HB.born, if_true, implies_true, and_self], by kernel_rfl⟩
theorem zo_126 : ZeroOk Try.prog 126 (.nilf) := ⟨rfl, by simp only [Stable, StableL, hm0, HB.born, if_true, implies_true, and_self], by kernel_rfl⟩
theorem zo_127 : ZeroOk Try.prog 127 (.nilf) := ⟨rfl, by simp only [Stable, StableL, hm0, HB.born, if_true, implies_true, and_self], by kernel_rfl⟩
theorem zo_128 : ZeroOk Try.prog 128 (.nilf) := ⟨rfl, by simp only [Stable, StableL, hm0, HB.born, if_true, implies_true, and_self], by kernel_rfl⟩
theorem zo_129 : ZeroOk Try.prog 129 (.nilf) := ⟨rfl, by simp only [Stable, StableL, hm0, HB.born, if_true, implies_true, and_self], by kernel_rfl⟩
theorem zo_131 : ZeroOk Try.prog 131 (.nilf) := ⟨rfl, by simp only [Stable, StableL, hm0, HB.born, if_true, implies_true, and_self], by kernel_rfl⟩
theorem zo_132 : ZeroOk Try.prog 132 (.nilf) := ⟨rfl, by simp only [Stable, StableL, hm0, HB.born, if_true, implies_true, and_self], by kernel_rfl⟩
theorem zo_133 : ZeroOk Try.prog 133 (.sl 0 0 [] 0 0 0 (some 0)) := ⟨rfl, by simp only [Stable, StableL, hm0, HB.born, if_true, implies_true, and_self], by kernel_rfl⟩
theorem zo_134 : ZeroOk Try.prog 134 (.agg [.nat .i64 0, .bool false, (.arr 8 1 fun _ => .nat .i64 0), .sl 0 0 [] 0 0 0 (some 0), .nat .i64 0, .sl 0 0 [] 0 0 0 (some 0)]) := ⟨rfl, by simp only [Stable, StableL, hm0, HB.born, if_true, implies_true, and_self], by kernel_rfl⟩
theorem zo_135 : ZeroOk Try.prog 135 (.agg [.nat .i64 0, .bool false, (.arr 8 1 fun _ => .nat .i64 0), .sl 0 0 [] 0 0 0 (some 0), .nat .i64 0, .sl 0 0 [] 0 0 0 (some 0)]) := ⟨rfl, by simp only [Stable, StableL, hm0, HB.born, if_true, implies_true, and_self], by kernel_rfl⟩
theorem zo_136 : ZeroOk Try.prog 136 (.nilf) := ⟨rfl, by simp only [Stable, StableL, hm0, HB.born, if_true, implies_true, and_self], by kernel_rfl⟩
theorem zo_138 : ZeroOk Try.prog 138 (.nilf) := ⟨rfl, by simp only [Stable, StableL, hm0, HB.born, if_true, implies_true, and_self], by kernel_rfl⟩
theorem zo_139 : ZeroOk Try.prog 139 (.sl 0 0 [] 0 0 0 (some 0)) := ⟨rfl, by simp only [Stable, StableL, hm0, HB.born, if_true, implies_true, and_self], by kernel_rfl⟩
theorem zo_140 : ZeroOk Try.prog 140 (.nilf) := ⟨rfl, by simp only [Stable, StableL, hm0, HB.born, if_true, implies_true, and_self], by kernel_rfl⟩
theorem zo_141 : ZeroOk Try.prog 141 (.agg [.nat .u64 0, .nat .i64 0, .nat .i64 0, .nat .i64 0, .nat .i64 0]) := ⟨rfl, by simp only [Stable, StableL, hm0, HB.born, if_true, implies_true, and_self], by kernel_rfl⟩
theorem zo_142 : ZeroOk Try.prog 142 (.nilf) := ⟨rfl, by simp only [Stable, StableL, hm0, HB.born, if_true, implies_true, and_self], by kernel_rfl⟩
theorem zo_143 : ZeroOk Try.prog 143 (.nilf) := ⟨rfl, by simp only [Stable, StableL, hm0, HB.born, if_true, implies_true, and_self], by kernel_rfl⟩
theorem zo_144 : ZeroOk Try.prog 144 (.nilf) := ⟨rfl, by simp only [Stable, StableL, hm0, HB.born, if_true, implies_true, and_self], by kernel_rfl⟩
theorem zo_145 : ZeroOk Try.prog 145 (.nilf) := ⟨rfl, by simp only [Stable, StableL, hm0, HB.born, if_true, implies_true, and_self], by kernel_rfl⟩
theorem zo_146 : ZeroOk Try.prog 146 (.nilf) := ⟨rfl, by simp only [Stable, StableL, hm0, HB.born, if_true, implies_true, and_self], by kernel_rfl⟩
theorem zo_147 : ZeroOk Try.prog 147 (.nilf) := ⟨rfl, by simp only [Stable, StableL, hm0, HB.born, if_true, implies_true, and_self], by kernel_rfl⟩
theorem zo_148 : ZeroOk Try.prog 148 (.nilf) := ⟨rfl, by simp only [Stable, StableL, hm0, HB.born, if_true, implies_true, and_self], by kernel_rfl⟩
theorem zo_150 : ZeroOk Try.prog 150 (.nilf) := ⟨rfl, by simp only [Stable, StableL, hm0, HB.born, if_true, implies_true, and_self], by kernel_rfl⟩
theorem zo_151 : ZeroOk Try.prog 151 (.agg [.agg [.nat .i64 0, .bool false, (.arr 8 1 fun _ => .nat .i64 0), .sl 0 0 [] 0 0 0 (some 0), .nat .i64 0, .sl 0 0 [] 0 0 0 (some 0)], .agg [.nat .u64 0, .nat .i64 0, .nat .i64 0, .nat .i64 0, .nat .i64 0], .agg [.nat .u8 0, .nat .u8 0, .nat .u8 0, .nat .u8 0, .nat .i64 0]]) := ⟨rfl, by simp only [Stable, StableL, hm0, HB.born, if_true, implies_true, and_self], by kernel_rfl⟩
theorem zo_152 : ZeroOk Try.prog 152 (.agg [.agg [.nat .i64 0, .bool false, (.arr 8 1 fun _ => .nat .i64 0), .sl 0 0 [] 0 0 0 (some 0), .nat .i64 0, .sl 0 0 [] 0 0 0 (some 0)], .agg [.nat .u64 0, .nat .i64 0, .nat .i64 0, .nat .i64 0, .nat .i64 0], .agg [.nat .u8 0, .nat .u8 0, .nat .u8 0, .nat .u8 0, .nat .i64 0]]) := ⟨rfl, by simp only [Stable, StableL, hm0, HB.born, if_true, implies_true, and_self], by kernel_rfl⟩
theorem zo_153 : ZeroOk Try.prog 153 (.agg [.nat .i64 0, .nat .i64 0, .nat .i64 0]) := ⟨rfl, by simp only [Stable, StableL, hm0, HB.born, if_true, implies_true, and_self], by kernel_rfl⟩
theorem zo_154 : ZeroOk Try.prog 154 (.sl 0 0 [] 0 0 0 (some 0)) := ⟨rfl, by simp only [Stable, StableL, hm0, HB.born, if_true, implies_true, and_self], by kernel_rfl⟩
theorem zo_156 : ZeroOk Try.prog 156 (.nilf) := ⟨rfl, by simp only [Stable, StableL, hm0, HB.born, if_true, implies_true, and_self], by kernel_rfl⟩
theorem zo_158 : ZeroOk Try.prog 158 (.nilf) := ⟨rfl, by simp only [Stable, StableL, hm0, HB.born, if_true, implies_true, and_self], by kernel_rfl⟩
theorem zo_160 : ZeroOk Try.prog 160 (.nilf) := ⟨rfl, by simp only [Stable, StableL, hm0, HB.born, if_true, implies_true, and_self], by kernel_rfl⟩
theorem zo_161 : ZeroOk Try.prog 161 (.nilf) := ⟨rfl, by simp only [Stable, StableL, hm0, HB.born, if_true, implies_true, and_self], by kernel_rfl⟩
theorem zo_163 : ZeroOk Try.prog 163 (.nilf) := ⟨rfl, by simp only [Stable, StableL, hm0, HB.born, if_true, implies_true, and_self], by kernel_rfl⟩
theorem zo_164 : ZeroOk Try.prog 164 (.nilf) := ⟨rfl, by simp only [Stable, StableL, hm0, HB.born, if_true, implies_true, and_self], by kernel_rfl⟩
theorem zo_165 : ZeroOk Try.prog 165 (.nilf) := ⟨rfl, by simp only [Stable, StableL, hm0, HB.born, if_true, implies_true, and_self], by kernel_rfl⟩
theorem zo_166 : ZeroOk Try.prog 166 (.nilf) := ⟨rfl, by simp only [Stable, StableL, hm0, HB.born, if_true, implies_true, and_self], by kernel_rfl⟩
theorem zo_167 : ZeroOk Try.prog 167 (.nilf) := ⟨rfl, by simp only [Stable, StableL, hm0, HB.born, if_true, implies_true, and_self], by kernel_rfl⟩
theorem zo_168 : ZeroOk Try.prog 168 (.nilf) := ⟨rfl, by simp only [Stable, StableL, hm0, HB.born, if_true, implies_true, and_self], by kernel_rfl⟩
theorem zo_169 : ZeroOk Try.prog 169 (.agg [.nat .u8 0, .str ⟨#[]⟩]) := ⟨rfl, by simp only [Stable, StableL, hm0, HB.born, if_true, implies_true, and_self], by kernel_rfl⟩
theorem zo_170 : ZeroOk Try.prog 170 (.agg [.nat .u8 0, .str ⟨#[]⟩]) := ⟨rfl, by simp only [Stable, StableL, hm0, HB.born, if_true, implies_true, and_self], by kernel_rfl⟩
theorem zo_171 : ZeroOk Try.prog 171 (.arr 11 2 fun _ => .agg [.nat .u8 0, .str ⟨#[]⟩]) := ⟨rfl, by simp only [Stable, StableL, hm0, HB.born, if_true, implies_true, and_self], by kernel_rfl⟩
theorem zo_172 : ZeroOk Try.prog 172 (.sl 0 0 [] 0 0 0 (some 0)) := ⟨rfl, by simp only [Stable, StableL, hm0, HB.born, if_true, implies_true, and_self], by kernel_rfl⟩
theorem zo_173 : ZeroOk Try.prog 173 (.nilf) := ⟨rfl, by simp only [Stable, StableL, hm0, HB.born, if_true, implies_true, and_self], by kernel_rfl⟩
theorem zo_174 : ZeroOk Try.prog 174 (.nilf) := ⟨rfl, by simp only [Stable, StableL, hm0, HB.born, if_true, implies_true, and_self], by kernel_rfl⟩
theorem zo_176 : ZeroOk Try.prog 176 (.nilf) := ⟨rfl, by simp only [Stable, StableL, hm0, HB.born, if_true, implies_true, and_self], by kernel_rfl⟩
theorem zo_177 : ZeroOk Try.prog 177 (.nilf) := ⟨rfl, by simp only [Stable, StableL, hm0, HB.born, if_true, implies_true, and_self], by kernel_rfl⟩
theorem zo_178 : ZeroOk Try.prog 178 (.nilf) := ⟨rfl, by simp only [Stable, StableL, hm0, HB.born, if_true, implies_true, and_self], by kernel_rfl⟩
theorem zo_179 : ZeroOk Try.prog 179 (.nat .u64 0) := ⟨rfl, by simp only [Stable, StableL, hm0, HB.born, if_true, implies_true, and_self], by kernel_rfl⟩
theorem zo_181 : ZeroOk Try.prog 181 (.nilf) := ⟨rfl, by simp only [Stable, StableL, hm0, HB.born, if_true, implies_true, and_self], by kernel_rfl⟩
theorem zo_182 : ZeroOk Try.prog 182 (.nilf) := ⟨rfl, by simp only [Stable, StableL, hm0, HB.born, if_true, implies_true, and_self], by kernel_rfl⟩
theorem zo_183 : ZeroOk Try.prog 183 (.nilf) := ⟨rfl, by simp only [Stable, StableL, hm0, HB.born, if_true, implies_true, and_self], by kernel_rfl⟩
theorem zo_184 : ZeroOk Try.prog 184 (.nilf) := ⟨rfl, by simp only [Stable, StableL, hm0, HB.born, if_true, implies_true, and_self], by kernel_rfl⟩
theorem zo_185 : ZeroOk Try.prog 185 (.nilf) := ⟨rfl, by simp only [Stable, StableL, hm0, HB.born, if_true, implies_true, and_self], by kernel_rfl⟩
theorem zo_186 : ZeroOk Try.prog 186 (.nilf) := ⟨rfl, by simp only [Stable, StableL, hm0, HB.born, if_true, implies_true, and_self], by kernel_rfl⟩
theorem zo_187 : ZeroOk Try.prog 187 (.nilp) := ⟨rfl, by simp only [Stable, StableL, hm0, HB.born, if_true, implies_true, and_self], by kernel_rfl⟩
theorem zo_188 : ZeroOk Try.prog 188 (.sl 0 0 [] 0 0 0 (some 0)) := ⟨rfl, by simp only [Stable, StableL, hm0, HB.born, if_true, implies_true, and_self], by kernel_rfl⟩
theorem zo_189 : ZeroOk Try.prog 189 (.sl 0 0 [] 0 0 0 (some 0)) := ⟨rfl, by simp only [Stable, StableL, hm0, HB.born, if_true, implies_true, and_self], by kernel_rfl⟩
theorem zo_190 : ZeroOk Try.prog 190 (.nilf) := ⟨rfl, by simp only [Stable, StableL, hm0, HB.born, if_true, implies_true, and_self], by kernel_rfl⟩
theorem zo_191 : ZeroOk Try.prog 191 (.nilf) := ⟨rfl, by simp only [Stable, StableL, hm0, HB.born, if_true, implies_true, and_self], by kernel_rfl⟩
theorem zo_192 : ZeroOk Try.prog 192 (.nilf) := ⟨rfl, by simp only [Stable, StableL, hm0, HB.born, if_true, implies_true, and_self], by kernel_rfl⟩
theorem zo_193 : ZeroOk Try.prog 193 (.nilf) := ⟨rfl, by simp only [Stable, StableL, hm0, HB.born, if_true, implies_true, and_self], by kernel_rfl⟩
theorem zo_194 : ZeroOk Try.prog 194 (.nilf) := ⟨rfl, by simp only [Stable, StableL, hm0, HB.born, if_true, implies_true, and_self], by kernel_rfl⟩
theorem zo_195 : ZeroOk Try.prog 195 (.nilf) := ⟨rfl, by simp only [Stable, StableL, hm0, HB.born, if_true, implies_true, and_self], by kernel_rfl⟩
theorem zo_196 : ZeroOk Try.prog 196 (.nilf) := ⟨rfl, by simp only [Stable, StableL, hm0, HB.born, if_true, implies_true, and_self], by kernel_rfl⟩
theorem zo_197 : ZeroOk Try.prog 197 (.nilf) := ⟨rfl, by simp only [Stable, StableL, hm0, HB.born, if_true, implies_true, and_self], by kernel_rfl⟩
theorem zo_198 : ZeroOk Try.prog 198 (.nilf) := ⟨rfl, by simp only [Stable, StableL, hm0, HB.born, if_true, implies_true, and_self], by kernel_rfl⟩
theorem zo_199 : ZeroOk Try.prog 199 (.nilf) := ⟨rfl, by simp only [Stable, StableL, hm0, HB.born, if_true, implies_true, and_self], by kernel_rfl⟩
theorem zo_200 : ZeroOk Try.prog 200 (.agg [.nat .i64 0, .nat .i64 0, .nat .i64 0]) := ⟨rfl, by simp only [Stable, StableL, hm0, HB.born, if_true, implies_true, and_self], by kernel_rfl⟩
theorem zo_201 : ZeroOk Try.prog 201 (.nilf) := ⟨rfl, by simp only [Stable, StableL, hm0, HB.born, if_true, implies_true, and_self], by kernel_rfl⟩
theorem zo_202 : ZeroOk Try.prog 202 (.agg [.nat .u8 0, .nat .u8 0, .nat .u8 0, .nat .u8 0, .nat .i64 0]) := ⟨rfl, by simp only [Stable, StableL, hm0, HB.born, if_true, implies_true, and_self], by kernel_rfl⟩
theorem zo_203 : ZeroOk Try.prog 203 (.agg [.str ⟨#[]⟩, .bool false]) := ⟨rfl, by simp only [Stable, StableL, hm0, HB.born, if_true, implies_true, and_self], by kernel_rfl⟩
theorem zo_204 : ZeroOk Try.prog 204 (.agg [.str ⟨#[]⟩, .bool false]) := ⟨rfl, by simp only [Stable, StableL, hm0, HB.born, if_true, implies_true, and_self], by kernel_rfl⟩
theorem zo_205 : ZeroOk Try.prog 205 (.arr 18 2 fun _ => .agg [.str ⟨#[]⟩, .bool false]) := ⟨rfl, by simp only [Stable, StableL, hm0, HB.born, if_true, implies_true, and_self], by kernel_rfl⟩
theorem zo_206 : ZeroOk Try.prog 206 (.nilf) := ⟨rfl, by simp only [Stable, StableL, hm0, HB.born, if_true, implies_true, and_self], by kernel_rfl⟩
theorem zo_207 : ZeroOk Try.prog 207 (.nilf) := ⟨rfl, by simp only [Stable, StableL, hm0, HB.born, if_true, implies_true, and_self], by kernel_rfl⟩
theorem zo_208 : ZeroOk Try.prog 208 (.nilf) := ⟨rfl, by simp only [Stable, StableL, hm0, HB.born, if_true, implies_true, and_self], by kernel_rfl⟩
theorem zo_209 : ZeroOk Try.prog 209 (.agg [.bool false, .nat .i64 0]) := ⟨rfl, by simp only [Stable, StableL, hm0, HB.born, if_true, implies_true, and_self], by kernel_rfl⟩
theorem zo_210 : ZeroOk Try.prog 210 (.arr 8 2 fun _ => .agg [.bool false, .nat .i64 0]) := ⟨rfl, by simp only [Stable, StableL, hm0, HB.born, if_true, implies_true, and_self], by kernel_rfl⟩
theorem zo_211 : ZeroOk Try.prog 211 (.agg [.bool false, (.arr 8 2 fun _ => .agg [.bool false, .nat .i64 0])]) := ⟨rfl, by simp only [Stable, StableL, hm0, HB.born, if_true, implies_true, and_self], by kernel_rfl⟩
theorem zo_212 : ZeroOk Try.prog 212 (.agg [.bool false, (.arr 8 2 fun _ => .agg [.bool false, .nat .i64 0])]) := ⟨rfl, by simp only [Stable, StableL, hm0, HB.born, if_true, implies_true, and_self], by kernel_rfl⟩
theorem zo_213 : ZeroOk Try.prog 213 (.nilf) := ⟨rfl, by simp only [Stable, StableL, hm0, HB.born, if_true, implies_true, and_self], by kernel_rfl⟩
theorem zo_214 : ZeroOk Try.prog 214 (.nilf) := ⟨rfl, by simp only [Stable, StableL, hm0, HB.born, if_true, implies_true, and_self], by kernel_rfl⟩
theorem zo_215 : ZeroOk Try.prog 215 (.nilf) := ⟨rfl, by simp only [Stable, StableL, hm0, HB.born, if_true, implies_true, and_self], by kernel_rfl⟩
theorem zo_216 : ZeroOk Try.prog 216 (.nilf) := ⟨rfl, by simp only [Stable, StableL, hm0, HB.born, if_true, implies_true, and_self], by kernel_rfl⟩
theorem zo_217 : ZeroOk Try.prog 217 (.nilf) := ⟨rfl, by simp only [Stable, StableL, hm0, HB.born, if_true, implies_true, and_self], by kernel_rfl⟩
theorem zo_219 : ZeroOk Try.prog 219 (.nilf) := ⟨rfl, by simp only [Stable, StableL, hm0, HB.born, if_true, implies_true, and_self], by kernel_rfl⟩
theorem zo_221 : ZeroOk Try.prog 221 (.nilf) := ⟨rfl, by simp only [Stable, StableL, hm0, HB.born, if_true, implies_true, and_self], by kernel_rfl⟩
theorem zo_222 : ZeroOk Try.prog 222 (.nilf) := ⟨rfl, by simp only [Stable, StableL, hm0, HB.born, if_true, implies_true, and_self], by kernel_rfl⟩
theorem zo_223 : ZeroOk Try.prog 223 (.nilf) := ⟨rfl, by simp only [Stable, StableL, hm0, HB.born, if_true, implies_true, and_self], by kernel_rfl⟩
theorem zo_224 : ZeroOk Try.prog 224 (.nilf) := ⟨rfl, by simp only [Stable, StableL, hm0, HB.born, if_true, implies_true, and_self], by kernel_rfl⟩
theorem zo_226 : ZeroOk Try.prog 226 (.nilf) := ⟨rfl, by simp only [Stable, StableL, hm0, HB.born, if_true, implies_true, and_self], by kernel_rfl⟩
theorem zo_227 : ZeroOk Try.prog 227 (.nilf) := ⟨rfl, by simp only [Stable, StableL, hm0, HB.born, if_true, implies_true, and_self], by kernel_rfl⟩
theorem zo_228 : ZeroOk Try.prog 228 (.nilf) := ⟨rfl, by simp only [Stable, StableL, hm0, HB.born, if_true, implies_true, and_self], by kernel_rfl⟩
theorem zo_229 : ZeroOk Try.prog 229 (.nilf) := ⟨rfl, by simp only [Stable, StableL, hm0, HB.born, if_true, implies_true, and_self], by kernel_rfl⟩
theorem zo_230 : ZeroOk Try.prog 230 (.nilf) := ⟨rfl, by simp only [Stable, StableL, hm0, HB.born, if_true, implies_true, and_self], by kernel_rfl⟩
theorem zo_232 : ZeroOk Try.prog 232 (.nilf) := ⟨rfl, by simp only [Stable, StableL, hm0, HB.born, if_true, implies_true, and_self], by kernel_rfl⟩
theorem zo_233 : ZeroOk Try.prog 233 (.nilf) := ⟨rfl, by simp only [Stable, StableL, hm0, HB.born, if_true, implies_true, and_self], by kernel_rfl⟩
theorem zo_234 : ZeroOk Try.prog 234 (.agg [.nat .u8 0, .nilf]) := ⟨rfl, by simp only [Stable, StableL, hm0, HB.born, if_true, implies_true, and_self], by kernel_rfl⟩
theorem zo_235 : ZeroOk Try.prog 235 (.agg [.nat .u8 0, .nilf]) := ⟨rfl, by simp only [Stable, StableL, hm0, HB.born, if_true, implies_true, and_self], by kernel_rfl⟩
theorem zo_236 : ZeroOk Try.prog 236 (.arr 11 2 fun _ => .agg [.nat .u8 0, .nilf]) := ⟨rfl, by simp only [Stable, StableL, hm0, HB.born, if_true, implies_true, and_self], by kernel_rfl⟩
theorem zo_237 : ZeroOk Try.prog 237 (.nilf) := ⟨rfl, by simp only [Stable, StableL, hm0, HB.born, if_true, implies_true, and_self], by kernel_rfl⟩
theorem zo_238 : ZeroOk Try.prog 238 (.nilf) := ⟨rfl, by simp only [Stable, StableL, hm0, HB.born, if_true, implies_true, and_self], by kernel_rfl⟩
theorem zo_239 : ZeroOk Try.prog 239 (.nilf) := ⟨rfl, by simp only [Stable, StableL, hm0, HB.born, if_true, implies_true, and_self], by kernel_rfl⟩
theorem zo_240 : ZeroOk Try.prog 240 (.nilf) := ⟨rfl, by simp only [Stable, StableL, hm0, HB.born, if_true, implies_true, and_self], by kernel_rfl⟩
theorem zo_241 : ZeroOk Try.prog 241 (.nilf) := ⟨rfl, by simp only [Stable, StableL, hm0, HB.born, if_true, implies_true, and_self], by kernel_rfl⟩
theorem zo_242 : ZeroOk Try.prog 242 (.nilf) := ⟨rfl, by simp only [Stable, StableL, hm0, HB.born, if_true, implies_true, and_self], by kernel_rfl⟩
theorem zo_243 : ZeroOk Try.prog 243 (.sl 0 0 [] 0 0 0 (some 0)) := ⟨rfl, by simp only [Stable, StableL, hm0, HB.born, if_true, implies_true, and_self], by kernel_rfl⟩
theorem zo_244 : ZeroOk Try.prog 244 (.nilf) := ⟨rfl, by simp only [Stable, StableL, hm0, HB.born, if_true, implies_true, and_self], by kernel_rfl⟩
theorem zo_245 : ZeroOk Try.prog 245 (.nilf) := ⟨rfl, by simp only [Stable, StableL, hm0, HB.born, if_true, implies_true, and_self], by kernel_rfl⟩
theorem zo_246 : ZeroOk Try.prog 246 (.nilf) := ⟨rfl, by simp only [Stable, StableL, hm0, HB.born, if_true, implies_true, and_self], by kernel_rfl⟩
theorem zo_247 : ZeroOk Try.prog 247 (.nilf) := ⟨rfl, by simp only [Stable, StableL, hm0, HB.born, if_true, implies_true, and_self], by kernel_rfl⟩
theorem zo_248 : ZeroOk Try.prog 248 (.nilf) := ⟨rfl, by simp only [Stable, StableL, hm0, HB.born, if_true, implies_true, and_self], by kernel_rfl⟩
theorem zo_250 : ZeroOk Try.prog 250 (.nilf) := ⟨rfl, by simp only [Stable, StableL, hm0, HB.born, if_true, implies_true, and_self], by kernel_rfl⟩
theorem zo_251 : ZeroOk Try.prog 251 (.nilf) := ⟨rfl, by simp only [Stable, StableL, hm0, HB.born, if_true, implies_true, and_self], by kernel_rfl⟩
theorem zo_252 : ZeroOk Try.prog 252 (.nilf) := ⟨rfl, by simp only [Stable, StableL, hm0, HB.born, if_true, implies_true, and_self], by kernel_rfl⟩
theorem zo_253 : ZeroOk Try.prog 253 (.nilf) := ⟨rfl, by simp only [Stable, StableL, hm0, HB.born, if_true, implies_true, and_self], by kernel_rfl⟩
theorem zo_254 : ZeroOk Try.prog 254 (.nilf) := ⟨rfl, by simp only [Stable, StableL, hm0, HB.born, if_true, implies_true, and_self], by kernel_rfl⟩
theorem zo_255 : ZeroOk Try.prog 255 (.nilf) := ⟨rfl, by simp only [Stable, StableL, hm0, HB.born, if_true, implies_true, and_self], by kernel_rfl⟩
theorem zo_256 : ZeroOk Try.prog 256 (.nilp) := ⟨rfl, by simp only [Stable, StableL, hm0, HB.born, if_true, implies_true, and_self], by kernel_rfl⟩
theorem zo_258 : ZeroOk Try.prog 258 (.nilf) := ⟨rfl, by simp only [Stable, StableL, hm0, HB.born, if_true, implies_true, and_self], by kernel_rfl⟩
theorem zo_259 : ZeroOk Try.prog 259 (.nilf) := ⟨rfl, by simp only [Stable, StableL, hm0, HB.born, if_true, implies_true, and_self], by kernel_rfl⟩
theorem zo_260 : ZeroOk Try.prog 260 (.nilf) := ⟨rfl, by simp only [Stable, StableL, hm0, HB.born, if_true, implies_true, and_self], by kernel_rfl⟩
theorem zo_261 : ZeroOk Try.prog 261 (.nilf) := ⟨rfl, by simp only [Stable, StableL, hm0, HB.born, if_true, implies_true, and_self], by kernel_rfl⟩
theorem zo_262 : ZeroOk Try.prog 262 (.nilf) := ⟨rfl, by simp only [Stable, StableL, hm0, HB.born, if_true, implies_true, and_self], by kernel_rfl⟩
theorem zo_263 : ZeroOk Try.prog 263 (.agg [.nilp, .nilp, .nilp, .str ⟨#[]⟩]) := ⟨rfl, by simp only [Stable, StableL, hm0, HB.born, if_true, implies_true, and_self], by kernel_rfl⟩
theorem zo_264 : ZeroOk Try.prog 264 (.agg [.nilp, .nilp, .nilp, .str ⟨#[]⟩]) := ⟨rfl, by simp only [Stable, StableL, hm0, HB.born, if_true, implies_true, and_self], by kernel_rfl⟩
theorem zo_268 : ZeroOk Try.prog 268 (.nat .u8 0) := ⟨rfl, by simp only [Stable, StableL, hm0, HB.born, if_true, implies_true, and_self], by kernel_rfl⟩
theorem zo_269 : ZeroOk Try.prog 269 (.nat .u8 0) := ⟨rfl, by simp only [Stable, StableL, hm0, HB.born, if_true, implies_true, and_self], by kernel_rfl⟩
theorem zo_270 : ZeroOk Try.prog 270 (.nilf) := ⟨rfl, by simp only [Stable, StableL, hm0, HB.born, if_true, implies_true, and_self], by kernel_rfl⟩
theorem zo_271 : ZeroOk Try.prog 271 (.nat .i32 0) := ⟨rfl, by simp only [Stable, StableL, hm0, HB.born, if_true, implies_true, and_self], by kernel_rfl⟩
theorem zo_272 : ZeroOk Try.prog 272 (.nat .i32 0) := ⟨rfl, by simp only [Stable, StableL, hm0, HB.born, if_true, implies_true, and_self], by kernel_rfl⟩
theorem tk_1 : tkOf Try.prog 1 = some TK.func := by kernel_rfl
theorem tk_2 : tkOf Try.prog 2 = some (TK.int IntKind.i64) := by kernel_rfl
theorem tk_3 : tkOf Try.prog 3 = some (TK.int IntKind.i64) := by kernel_rfl
theorem tk_4 : tkOf Try.prog 4 = some TK.bool := by kernel_rfl
theorem tk_5 : tkOf Try.prog 5 = some (TK.int IntKind.u8) := by kernel_rfl
theorem tk_6 : tkOf Try.prog 6 = some (TK.int IntKind.u8) := by kernel_rfl
theorem tk_7 : tkOf Try.prog 7 = some (TK.struct 4 [(0, 1, false), (1, 1, false), (2, 1, false), (3, 1, false)]) := by kernel_rfl
theorem tk_8 : tkOf Try.prog 8 = some (TK.struct 4 [(0, 1, false), (1, 1, false), (2, 1, false), (3, 1, false)]) := by kernel_rfl
theorem tk_9 : tkOf Try.prog 9 = some TK.str := by kernel_rfl
theorem tk_10 : tkOf Try.prog 10 = some TK.str := by kernel_rfl
theorem tk_11 : tkOf Try.prog 11 = some TK.str := by kernel_rfl
theorem tk_12 : tkOf Try.prog 12 = some (TK.int IntKind.u64) := by kernel_rfl
theorem tk_13 : tkOf Try.prog 13 = some (TK.struct 2 [(0, 1, false), (1, 1, false)]) := by kernel_rfl
theorem tk_14 : tkOf Try.prog 14 = some (TK.struct 2 [(0, 1, false), (1, 1, false)]) := by kernel_rfl
theorem tk_15 : tkOf Try.prog 15 = some (TK.ptr 4) := by kernel_rfl
theorem tk_17 : tkOf Try.prog 17 = some (TK.ptr 11) := by kernel_rfl
theorem tk_18 : tkOf Try.prog 18 = some (TK.struct 1 [(0, 1, false)]) := by kernel_rfl
theorem tk_19 : tkOf Try.prog 19 = some (TK.struct 1 [(0, 1, false)]) := by kernel_rfl
theorem tk_21 : tkOf Try.prog 21 = some (TK.int IntKind.i32) := by kernel_rfl
theorem tk_22 : tkOf Try.prog 22 = some (TK.slice 121 5 16) := by kernel_rfl
theorem tk_23 : tkOf Try.prog 23 = some (TK.int IntKind.u16) := by kernel_rfl
theorem tk_24 : tkOf Try.prog 24 = some TK.func := by kernel_rfl
theorem tk_25 : tkOf Try.prog 25 = some (TK.slice 28 5 16) := by kernel_rfl
theorem tk_26 : tkOf Try.prog 26 = some TK.func := by kernel_rfl
theorem tk_27 : tkOf Try.prog 27 = some (TK.struct 5 [(0, 1, false), (1, 1, false), (2, 1, false), (3, 1, false), (4, 1, false)]) := by kernel_rfl
theorem tk_28 : tkOf Try.prog 28 = some (TK.struct 5 [(0, 1, false), (1, 1, false), (2, 1, false), (3, 1, false), (4, 1, false)]) := by kernel_rfl
theorem tk_29 : tkOf Try.prog 29 = some (TK.int IntKind.u64) := by kernel_rfl
theorem tk_30 : tkOf Try.prog 30 = some (TK.struct 3 [(0, 1, false), (1, 1, false), (2, 1, false)]) := by kernel_rfl
theorem tk_31 : tkOf Try.prog 31 = some (TK.struct 3 [(0, 1, false), (1, 1, false), (2, 1, false)]) := by kernel_rfl
theorem tk_32 : tkOf Try.prog 32 = some (TK.int IntKind.i64) := by kernel_rfl
theorem tk_34 : tkOf Try.prog 34 = some TK.func := by kernel_rfl
theorem tk_35 : tkOf Try.prog 35 = some (TK.slice 44 17 136) := by kernel_rfl
theorem tk_37 : tkOf Try.prog 37 = some TK.func := by kernel_rfl
theorem tk_39 : tkOf Try.prog 39 = some TK.func := by kernel_rfl
theorem tk_40 : tkOf Try.prog 40 = some (TK.struct 2 [(0, 1, false), (1, 1, false)]) := by kernel_rfl
theorem tk_41 : tkOf Try.prog 41 = some (TK.struct 2 [(0, 1, false), (1, 1, false)]) := by kernel_rfl
theorem tk_42 : tkOf Try.prog 42 = some (TK.array 41 8 2 true) := by kernel_rfl
theorem tk_43 : tkOf Try.prog 43 = some (TK.struct 17 [(0, 1, false), (1, 16, true)]) := by kernel_rfl
theorem tk_44 : tkOf Try.prog 44 = some (TK.struct 17 [(0, 1, false), (1, 16, true)]) := by kernel_rfl
theorem tk_45 : tkOf Try.prog 45 = some TK.func := by kernel_rfl
theorem tk_46 : tkOf Try.prog 46 = some (TK.array 2 8 1 false) := by kernel_rfl
theorem tk_47 : tkOf Try.prog 47 = some (TK.slice 2 1 8) := by kernel_rfl
theorem tk_48 : tkOf Try.prog 48 = some (TK.int IntKind.u32) := by kernel_rfl
theorem tk_49 : tkOf Try.prog 49 = some (TK.struct 12 [(0, 1, false), (1, 8, true), (9, 1, false), (10, 1, false), (11, 1, false)]) := by kernel_rfl
theorem tk_50 : tkOf Try.prog 50 = some (TK.struct 12 [(0, 1, false), (1, 8, true), (9, 1, false), (10, 1, false), (11, 1, false)]) := by kernel_rfl
theorem tk_51 : tkOf Try.prog 51 = some (TK.slice 64 3 24) := by kernel_rfl
theorem tk_52 : tkOf Try.prog 52 = some (TK.struct 13 [(0, 1, false), (1, 1, false), (2, 8, true), (10, 1, false), (11, 1, false), (12, 1, false)]) := by kernel_rfl
theorem tk_53 : tkOf Try.prog 53 = some (TK.struct 13 [(0, 1, false), (1, 1, false), (2, 8, true), (10, 1, false), (11, 1, false), (12, 1, false)]) := by kernel_rfl
theorem tk_54 : tkOf Try.prog 54 = some TK.func := by kernel_rfl
theorem tk_55 : tkOf Try.prog 55 = some (TK.struct 5 [(0, 1, false), (1, 1, false), (2, 1, false), (3, 1, false), (4, 1, false)]) := by kernel_rfl
theorem tk_56 : tkOf Try.prog 56 = some (TK.struct 5 [(0, 1, false), (1, 1, false), (2, 1, false), (3, 1, false), (4, 1, false)]) := by kernel_rfl
theorem tk_58 : tkOf Try.prog 58 = some TK.func := by kernel_rfl
theorem tk_59 : tkOf Try.prog 59 = some TK.func := by kernel_rfl
theorem tk_60 : tkOf Try.prog 60 = some TK.func := by kernel_rfl
theorem tk_62 : tkOf Try.prog 62 = some TK.func := by kernel_rfl
theorem tk_63 : tkOf Try.prog 63 = some (TK.struct 3 [(0, 1, false), (1, 1, false), (2, 1, false)]) := by kernel_rfl
theorem tk_64 : tkOf Try.prog 64 = some (TK.struct 3 [(0, 1, false), (1, 1, false), (2, 1, false)]) := by kernel_rfl
theorem tk_65 : tkOf Try.prog 65 = some TK.func := by kernel_rfl
theorem tk_66 : tkOf Try.prog 66 = some TK.func := by kernel_rfl
theorem tk_67 : tkOf Try.prog 67 = some (TK.struct 3 [(0, 1, false), (1, 1, false), (2, 1, false)]) := by kernel_rfl
theorem tk_68 : tkOf Try.prog 68 = some (TK.struct 3 [(0, 1, false), (1, 1, false), (2, 1, false)]) := by kernel_rfl
theorem tk_69 : tkOf Try.prog 69 = some (TK.struct 5 [(0, 3, true), (3, 1, false), (4, 1, false)]) := by kernel_rfl
theorem tk_70 : tkOf Try.prog 70 = some (TK.struct 5 [(0, 3, true), (3, 1, false), (4, 1, false)]) := by kernel_rfl
theorem tk_71 : tkOf Try.prog 71 = some TK.func := by kernel_rfl
theorem tk_72 : tkOf Try.prog 72 = some TK.func := by kernel_rfl
theorem tk_73 : tkOf Try.prog 73 = some TK.func := by kernel_rfl
theorem tk_74 : tkOf Try.prog 74 = some TK.func := by kernel_rfl
theorem tk_75 : tkOf Try.prog 75 = some TK.func := by kernel_rfl
theorem tk_76 : tkOf Try.prog 76 = some TK.func := by kernel_rfl
theorem tk_77 : tkOf Try.prog 77 = some TK.func := by kernel_rfl
theorem tk_78 : tkOf Try.prog 78 = some TK.func := by kernel_rfl
theorem tk_79 : tkOf Try.prog 79 = some (TK.slice 3 1 8) := by kernel_rfl
theorem tk_80 : tkOf Try.prog 80 = some (TK.slice 25 1 24) := by kernel_rfl
theorem tk_81 : tkOf Try.prog 81 = some (TK.slice 32 1 8) := by kernel_rfl
theorem tk_83 : tkOf Try.prog 83 = some TK.func := by kernel_rfl
theorem tk_85 : tkOf Try.prog 85 = some TK.func := by kernel_rfl
theorem tk_86 : tkOf Try.prog 86 = some TK.func := by kernel_rfl
theorem tk_87 : tkOf Try.prog 87 = some (TK.array 2 3 1 false) := by kernel_rfl
theorem tk_88 : tkOf Try.prog 88 = some TK.func := by kernel_rfl
theorem tk_89 : tkOf Try.prog 89 = some (TK.ptr 11) := by kernel_rfl
theorem tk_90 : tkOf Try.prog 90 = some (TK.struct 11 [(0, 8, true), (8, 1, false), (9, 1, false), (10, 1, false)]) := by kernel_rfl
theorem tk_91 : tkOf Try.prog 91 = some (TK.struct 11 [(0, 8, true), (8, 1, false), (9, 1, false), (10, 1, false)]) := by kernel_rfl
theorem tk_93 : tkOf Try.prog 93 = some TK.func := by kernel_rfl
theorem tk_94 : tkOf Try.prog 94 = some TK.func := by kernel_rfl
theorem tk_95 : tkOf Try.prog 95 = some TK.func := by kernel_rfl
theorem tk_97 : tkOf Try.prog 97 = some TK.func := by kernel_rfl
theorem tk_98 : tkOf Try.prog 98 = some TK.func := by kernel_rfl
theorem tk_99 : tkOf Try.prog 99 = some (TK.ptr 2) := by kernel_rfl
theorem tk_100 : tkOf Try.prog 100 = some (TK.ptr 23) := by kernel_rfl
theorem tk_101 : tkOf Try.prog 101 = some (TK.struct 2 [(0, 1, false), (1, 1, false)]) := by kernel_rfl
theorem tk_102 : tkOf Try.prog 102 = some (TK.struct 2 [(0, 1, false), (1, 1, false)]) := by kernel_rfl
theorem tk_103 : tkOf Try.prog 103 = some (TK.slice 99 1 8) := by kernel_rfl
theorem tk_104 : tkOf Try.prog 104 = some TK.func := by kernel_rfl
theorem tk_105 : tkOf Try.prog 105 = some TK.func := by kernel_rfl
theorem tk_106 : tkOf Try.prog 106 = some TK.func := by kernel_rfl
theorem tk_107 : tkOf Try.prog 107 = some (TK.array 5 3 1 false) := by kernel_rfl
theorem tk_108 : tkOf Try.prog 108 = some TK.func := by kernel_rfl
theorem tk_109 : tkOf Try.prog 109 = some TK.func := by kernel_rfl
theorem tk_110 : tkOf Try.prog 110 = some TK.func := by kernel_rfl
theorem tk_111 : tkOf Try.prog 111 = some (TK.slice 4 1 1) := by kernel_rfl
theorem tk_113 : tkOf Try.prog 113 = some TK.func := by kernel_rfl
theorem tk_114 : tkOf Try.prog 114 = some TK.func := by kernel_rfl
theorem tk_115 : tkOf Try.prog 115 = some TK.func := by kernel_rfl
theorem tk_116 : tkOf Try.prog 116 = some TK.func := by kernel_rfl
theorem tk_117 : tkOf Try.prog 117 = some TK.func := by kernel_rfl
theorem tk_118 : tkOf Try.prog 118 = some TK.func := by kernel_rfl
theorem tk_119 : tkOf Try.prog 119 = some TK.func := by kernel_rfl
theorem tk_120 : tkOf Try.prog 120 = some TK.func := by kernel_rfl
theorem tk_121 : tkOf Try.prog 121 = some (TK.struct 5 [(0, 1, false), (1, 1, false), (2, 1, false), (3, 1, false), (4, 1, false)]) := by kernel_rfl
theorem tk_122 : tkOf Try.prog 122 = some TK.func := by kernel_rfl
theorem tk_123 : tkOf Try.prog 123 = some TK.func := by kernel_rfl
theorem tk_124 : tkOf Try.prog 124 = some TK.func := by kernel_rfl
theorem tk_125 : tkOf Try.prog 125 = some TK.func := by kernel_rfl
theorem tk_126 : tkOf Try.prog 126 = some TK.func := by kernel_rfl
theorem tk_127 : tkOf Try.prog 127 = some TK.func := by kernel_rfl
theorem tk_128 : tkOf Try.prog 128 = some TK.func := by kernel_rfl
theorem tk_129 : tkOf Try.prog 129 = some TK.func := by kernel_rfl
theorem tk_131 : tkOf Try.prog 131 = some TK.func := by kernel_rfl
theorem tk_132 : tkOf Try.prog 132 = some TK.func := by kernel_rfl
theorem tk_133 : tkOf Try.prog 133 = some (TK.slice 200 3 24) := by kernel_rfl
theorem tk_134 : tkOf Try.prog 134 = some (TK.struct 13 [(0, 1, false), (1, 1, false), (2, 8, true), (10, 1, false), (11, 1, false), (12, 1, false)]) := by kernel_rfl
theorem tk_135 : tkOf Try.prog 135 = some (TK.struct 13 [(0, 1, false), (1, 1, false), (2, 8, true), (10, 1, false), (11, 1, false), (12, 1, false)]) := by kernel_rfl
theorem tk_136 : tkOf Try.prog 136 = some TK.func := by kernel_rfl
theorem tk_138 : tkOf Try.prog 138 = some TK.func := by kernel_rfl
theorem tk_139 : tkOf Try.prog 139 = some (TK.slice 202 5 16) := by kernel_rfl
theorem tk_140 : tkOf Try.prog 140 = some TK.func := by kernel_rfl
theorem tk_141 : tkOf Try.prog 141 = some (TK.struct 5 [(0, 1, false), (1, 1, false), (2, 1, false), (3, 1, false), (4, 1, false)]) := by kernel_rfl
theorem tk_142 : tkOf Try.prog 142 = some TK.func := by kernel_rfl
theorem tk_143 : tkOf Try.prog 143 = some TK.func := by kernel_rfl
theorem tk_144 : tkOf Try.prog 144 = some TK.func := by kernel_rfl
theorem tk_145 : tkOf Try.prog 145 = some TK.func := by kernel_rfl
theorem tk_146 : tkOf Try.prog 146 = some TK.func := by kernel_rfl
theorem tk_147 : tkOf Try.prog 147 = some TK.func := by kernel_rfl
theorem tk_148 : tkOf Try.prog 148 = some TK.func := by kernel_rfl
theorem tk_150 : tkOf Try.prog 150 = some TK.func := by kernel_rfl
theorem tk_151 : tkOf Try.prog 151 = some (TK.struct 23 [(0, 13, true), (13, 5, true), (18, 5, true)]) := by kernel_rfl
theorem tk_152 : tkOf Try.prog 152 = some (TK.struct 23 [(0, 13, true), (13, 5, true), (18, 5, true)]) := by kernel_rfl
theorem tk_153 : tkOf Try.prog 153 = some (TK.struct 3 [(0, 1, false), (1, 1, false), (2, 1, false)]) := by kernel_rfl
theorem tk_154 : tkOf Try.prog 154 = some (TK.slice 212 17 136) := by kernel_rfl
theorem tk_156 : tkOf Try.prog 156 = some TK.func := by kernel_rfl
theorem tk_158 : tkOf Try.prog 158 = some TK.func := by kernel_rfl
theorem tk_160 : tkOf Try.prog 160 = some TK.func := by kernel_rfl
theorem tk_161 : tkOf Try.prog 161 = some TK.func := by kernel_rfl
theorem tk_163 : tkOf Try.prog 163 = some TK.func := by kernel_rfl
theorem tk_164 : tkOf Try.prog 164 = some TK.func := by kernel_rfl
theorem tk_165 : tkOf Try.prog 165 = some TK.func := by kernel_rfl
theorem tk_166 : tkOf Try.prog 166 = some TK.func := by kernel_rfl
theorem tk_167 : tkOf Try.prog 167 = some TK.func := by kernel_rfl
theorem tk_168 : tkOf Try.prog 168 = some TK.func := by kernel_rfl
theorem tk_169 : tkOf Try.prog 169 = some (TK.struct 2 [(0, 1, false), (1, 1, false)]) := by kernel_rfl
theorem tk_170 : tkOf Try.prog 170 = some (TK.struct 2 [(0, 1, false), (1, 1, false)]) := by kernel_rfl
theorem tk_171 : tkOf Try.prog 171 = some (TK.array 170 11 2 true) := by kernel_rfl
theorem tk_172 : tkOf Try.prog 172 = some (TK.slice 56 5 40) := by kernel_rfl
theorem tk_173 : tkOf Try.prog 173 = some TK.func := by kernel_rfl
theorem tk_174 : tkOf Try.prog 174 = some TK.func := by kernel_rfl
theorem tk_176 : tkOf Try.prog 176 = some TK.func := by kernel_rfl
theorem tk_177 : tkOf Try.prog 177 = some TK.func := by kernel_rfl
theorem tk_178 : tkOf Try.prog 178 = some TK.func := by kernel_rfl
theorem tk_179 : tkOf Try.prog 179 = some (TK.int IntKind.u64) := by kernel_rfl
theorem tk_181 : tkOf Try.prog 181 = some TK.func := by kernel_rfl
theorem tk_182 : tkOf Try.prog 182 = some TK.func := by kernel_rfl
theorem tk_183 : tkOf Try.prog 183 = some TK.func := by kernel_rfl
theorem tk_184 : tkOf Try.prog 184 = some TK.func := by kernel_rfl
theorem tk_185 : tkOf Try.prog 185 = some TK.func := by kernel_rfl
theorem tk_186 : tkOf Try.prog 186 = some TK.func := by kernel_rfl
theorem tk_187 : tkOf Try.prog 187 = some (TK.ptr 1) := by kernel_rfl
theorem tk_188 : tkOf Try.prog 188 = some (TK.slice 187 1 8) := by kernel_rfl
theorem tk_189 : tkOf Try.prog 189 = some (TK.slice 5 1 1) := by kernel_rfl
theorem tk_190 : tkOf Try.prog 190 = some TK.func := by kernel_rfl
theorem tk_191 : tkOf Try.prog 191 = some TK.func := by kernel_rfl
theorem tk_192 : tkOf Try.prog 192 = some TK.func := by kernel_rfl
theorem tk_193 : tkOf Try.prog 193 = some TK.func := by kernel_rfl
theorem tk_194 : tkOf Try.prog 194 = some TK.func := by kernel_rfl
theorem tk_195 : tkOf Try.prog 195 = some TK.func := by kernel_rfl
theorem tk_196 : tkOf Try.prog 196 = some TK.func := by kernel_rfl
theorem tk_197 : tkOf Try.prog 197 = some TK.func := by kernel_rfl
theorem tk_198 : tkOf Try.prog 198 = some TK.func := by kernel_rfl
theorem tk_199 : tkOf Try.prog 199 = some TK.func := by kernel_rfl
theorem tk_200 : tkOf Try.prog 200 = some (TK.struct 3 [(0, 1, false), (1, 1, false), (2, 1, false)]) := by kernel_rfl
theorem tk_201 : tkOf Try.prog 201 = some TK.func := by kernel_rfl
theorem tk_202 : tkOf Try.prog 202 = some (TK.struct 5 [(0, 1, false), (1, 1, false), (2, 1, false), (3, 1, false), (4, 1, false)]) := by kernel_rfl
theorem tk_203 : tkOf Try.prog 203 = some (TK.struct 2 [(0, 1, false), (1, 1, false)]) := by kernel_rfl
theorem tk_204 : tkOf Try.prog 204 = some (TK.struct 2 [(0, 1, false), (1, 1, false)]) := by kernel_rfl
theorem tk_205 : tkOf Try.prog 205 = some (TK.array 204 18 2 true) := by kernel_rfl
theorem tk_206 : tkOf Try.prog 206 = some TK.func := by kernel_rfl
theorem tk_207 : tkOf Try.prog 207 = some TK.func := by kernel_rfl
theorem tk_208 : tkOf Try.prog 208 = some TK.func := by kernel_rfl
theorem tk_209 : tkOf Try.prog 209 = some (TK.struct 2 [(0, 1, false), (1, 1, false)]) := by kernel_rfl
theorem tk_210 : tkOf Try.prog 210 = some (TK.array 209 8 2 true) := by kernel_rfl
theorem tk_211 : tkOf Try.prog 211 = some (TK.struct 17 [(0, 1, false), (1, 16, true)]) := by kernel_rfl
theorem tk_212 : tkOf Try.prog 212 = some (TK.struct 17 [(0, 1, false), (1, 16, true)]) := by kernel_rfl
theorem tk_213 : tkOf Try.prog 213 = some TK.func := by kernel_rfl
theorem tk_214 : tkOf Try.prog 214 = some TK.func := by kernel_rfl
theorem tk_215 : tkOf Try.prog 215 = some TK.func := by kernel_rfl
theorem tk_216 : tkOf Try.prog 216 = some TK.func := by kernel_rfl
theorem tk_217 : tkOf Try.prog 217 = some TK.func := by kernel_rfl
theorem tk_219 : tkOf Try.prog 219 = some TK.func := by kernel_rfl
theorem tk_221 : tkOf Try.prog 221 = some TK.func := by kernel_rfl
theorem tk_222 : tkOf Try.prog 222 = some TK.func := by kernel_rfl
theorem tk_223 : tkOf Try.prog 223 = some TK.func := by kernel_rfl
theorem tk_224 : tkOf Try.prog 224 = some TK.func := by kernel_rfl
theorem tk_226 : tkOf Try.prog 226 = some TK.func := by kernel_rfl
theorem tk_227 : tkOf Try.prog 227 = some TK.func := by kernel_rfl
theorem tk_228 : tkOf Try.prog 228 = some TK.func := by kernel_rfl
theorem tk_229 : tkOf Try.prog 229 = some TK.func := by kernel_rfl
theorem tk_230 : tkOf Try.prog 230 = some TK.func := by kernel_rfl
theorem tk_232 : tkOf Try.prog 232 = some TK.func := by kernel_rfl
theorem tk_233 : tkOf Try.prog 233 = some TK.func := by kernel_rfl
theorem tk_234 : tkOf Try.prog 234 = some (TK.struct 2 [(0, 1, false), (1, 1, false)]) := by kernel_rfl
theorem tk_235 : tkOf Try.prog 235 = some (TK.struct 2 [(0, 1, false), (1, 1, false)]) := by kernel_rfl
theorem tk_236 : tkOf Try.prog 236 = some (TK.array 235 11 2 true) := by kernel_rfl
theorem tk_237 : tkOf Try.prog 237 = some TK.func := by kernel_rfl
theorem tk_238 : tkOf Try.prog 238 = some TK.func := by kernel_rfl
theorem tk_239 : tkOf Try.prog 239 = some TK.func := by kernel_rfl
theorem tk_240 : tkOf Try.prog 240 = some TK.func := by kernel_rfl
theorem tk_241 : tkOf Try.prog 241 = some TK.func := by kernel_rfl
theorem tk_242 : tkOf Try.prog 242 = some TK.func := by kernel_rfl
theorem tk_243 : tkOf Try.prog 243 = some (TK.slice 29 1 8) := by kernel_rfl
theorem tk_244 : tkOf Try.prog 244 = some TK.func := by kernel_rfl
theorem tk_245 : tkOf Try.prog 245 = some TK.func := by kernel_rfl
theorem tk_246 : tkOf Try.prog 246 = some TK.func := by kernel_rfl
theorem tk_247 : tkOf Try.prog 247 = some TK.func := by kernel_rfl
theorem tk_248 : tkOf Try.prog 248 = some TK.func := by kernel_rfl
theorem tk_250 : tkOf Try.prog 250 = some TK.func := by kernel_rfl
theorem tk_251 : tkOf Try.prog 251 = some TK.func := by kernel_rfl
theorem tk_252 : tkOf Try.prog 252 = some TK.func := by kernel_rfl
theorem tk_253 : tkOf Try.prog 253 = some TK.func := by kernel_rfl
theorem tk_254 : tkOf Try.prog 254 = some TK.func := by kernel_rfl
theorem tk_255 : tkOf Try.prog 255 = some TK.func := by kernel_rfl
theorem tk_256 : tkOf Try.prog 256 = some (TK.ptr 1) := by kernel_rfl
theorem tk_258 : tkOf Try.prog 258 = some TK.func := by kernel_rfl
theorem tk_259 : tkOf Try.prog 259 = some TK.func := by kernel_rfl
theorem tk_260 : tkOf Try.prog 260 = some TK.func := by kernel_rfl
theorem tk_261 : tkOf Try.prog 261 = some TK.func := by kernel_rfl
theorem tk_262 : tkOf Try.prog 262 = some TK.func := by kernel_rfl
theorem tk_263 : tkOf Try.prog 263 = some (TK.struct 4 [(0, 1, false), (1, 1, false), (2, 1, false), (3, 1, false)]) := by kernel_rfl
theorem tk_264 : tkOf Try.prog 264 = some (TK.struct 4 [(0, 1, false), (1, 1, false), (2, 1, false), (3, 1, false)]) := by kernel_rfl
theorem tk_265 : tkOf Try.prog 265 = some (TK.array 16 0 1 false) := by kernel_rfl
theorem tk_268 : tkOf Try.prog 268 = some (TK.int IntKind.u8) := by kernel_rfl
theorem tk_269 : tkOf Try.prog 269 = some (TK.int IntKind.u8) := by kernel_rfl
theorem tk_270 : tkOf Try.prog 270 = some TK.func := by kernel_rfl
theorem tk_271 : tkOf Try.prog 271 = some (TK.int IntKind.i32) := by kernel_rfl
theorem tk_272 : tkOf Try.prog 272 = some (TK.int IntKind.i32) := by kernel_rfl
theorem zs_ok : zsOk Try.prog zs := ⟨zo_1, zo_2, zo_3, zo_4, zo_5, zo_6, zo_7, zo_8, zo_9, zo_10, zo_11, zo_12, zo_13, zo_14, zo_15, zo_17, zo_18, zo_19, zo_21, zo_22, zo_23, zo_24, zo_25, zo_26, zo_27, zo_28, zo_29, zo_30, zo_31, zo_32, zo_34, zo_35, zo_37, zo_39, zo_40, zo_41, zo_42, zo_43, zo_44, zo_45, zo_46, zo_47, zo_48, zo_49, zo_50, zo_51, zo_52, zo_53, zo_54, zo_55, zo_56, zo_58, zo_59, zo_60, zo_62, zo_63, zo_64, zo_65, zo_66, zo_67, zo_68, zo_69, zo_70, zo_71, zo_72, zo_73, zo_74, zo_75, zo_76, zo_77, zo_78, zo_79, zo_80, zo_81, zo_83, zo_85, zo_86, zo_87, zo_88, zo_89, zo_90, zo_91, zo_93, zo_94, zo_95, zo_97, zo_98, zo_99, zo_100, zo_101, zo_102, zo_103, zo_104, zo_105, zo_106, zo_107, zo_108, zo_109, zo_110, zo_111, zo_113, zo_114, zo_115, zo_116, zo_117, zo_118, zo_119, zo_120, zo_121, zo_122, zo_123, zo_124, zo_125, zo_126, zo_127, zo_128, zo_129, zo_131, zo_132, zo_133, zo_134, zo_135, zo_136, zo_138, zo_139, zo_140, zo_141, zo_142, zo_143, zo_144, zo_145, zo_146, zo_147, zo_148, zo_150, zo_151, zo_152, zo_153, zo_154, zo_156, zo_158, zo_160, zo_161, zo_163, zo_164, zo_165, zo_166, zo_167, zo_168, zo_169, zo_170, zo_171, zo_172, zo_173, zo_174, zo_176, zo_177, zo_178, zo_179, zo_181, zo_182, zo_183, zo_184, zo_185, zo_186, zo_187, zo_188, zo_189, zo_190, zo_191, zo_192, zo_193, zo_194, zo_195, zo_196, zo_197, zo_198, zo_199, zo_200, zo_201, zo_202, zo_203, zo_204, zo_205, zo_206, zo_207, zo_208, zo_209, zo_210, zo_211, zo_212, zo_213, zo_214, zo_215, zo_216, zo_217, zo_219, zo_221, zo_222, zo_223, zo_224, zo_226, zo_227, zo_228, zo_229, zo_230, zo_232, zo_233, zo_234, zo_235, zo_236, zo_237, zo_238, zo_239, zo_240, zo_241, zo_242, zo_243, zo_244, zo_245, zo_246, zo_247, zo_248, zo_250, zo_251, zo_252, zo_253, zo_254, zo_255, zo_256, zo_258, zo_259, zo_260, zo_261, zo_262, zo_263, zo_264, zo_268, zo_269, zo_270, zo_271, zo_272, trivial⟩
theorem tys_ok : tysOk Try.prog tys := ⟨tk_1, tk_2, tk_3, tk_4, tk_5, tk_6, tk_7, tk_8, tk_9, tk_10, tk_11, tk_12, tk_13, tk_14, tk_15, tk_17, tk_18, tk_19, tk_21, tk_22, tk_23, tk_24, tk_25, tk_26, tk_27, tk_28, tk_29, tk_30, tk_31, tk_32, tk_34, tk_35, tk_37, tk_39, tk_40, tk_41, tk_42, tk_43, tk_44, tk_45, tk_46, tk_47, tk_48, tk_49, tk_50, tk_51, tk_52, tk_53, tk_54, tk_55, tk_56, tk_58, tk_59, tk_60, tk_62, tk_63, tk_64, tk_65, tk_66, tk_67, tk_68, tk_69, tk_70, tk_71, tk_72, tk_73, tk_74, tk_75, tk_76, tk_77, tk_78, tk_79, tk_80, tk_81, tk_83, tk_85, tk_86, tk_87, tk_88, tk_89, tk_90, tk_91, tk_93, tk_94, tk_95, tk_97, tk_98, tk_99, tk_100, tk_101, tk_102, tk_103, tk_104, tk_105, tk_106, tk_107, tk_108, tk_109, tk_110, tk_111, tk_113, tk_114, tk_115, tk_116, tk_117, tk_118, tk_119, tk_120, tk_121, tk_122, tk_123, tk_124, tk_125, tk_126, tk_127, tk_128, tk_129, tk_131, tk_132, tk_133, tk_134, tk_135, tk_136, tk_138, tk_139, tk_140, tk_141, tk_142, tk_143, tk_144, tk_145, tk_146, tk_147, tk_148, tk_150, tk_151, tk_152, tk_153, tk_154, tk_156, tk_158, tk_160, tk_161, tk_163, tk_164, tk_165, tk_166, tk_167, tk_168, tk_169, tk_170, tk_171, tk_172, tk_173, tk_174, tk_176, tk_177, tk_178, tk_179, tk_181, tk_182, tk_183, tk_184, tk_185, tk_186, tk_187, tk_188, tk_189, tk_190, tk_191, tk_192, tk_193, tk_194, tk_195, tk_196, tk_197, tk_198, tk_199, tk_200, tk_201, tk_202, tk_203, tk_204, tk_205, tk_206, tk_207, tk_208, tk_209, tk_210, tk_211, tk_212, tk_213, tk_214, tk_215, tk_216, tk_217, tk_219, tk_221, tk_222, tk_223, tk_224, tk_226, tk_227, tk_228, tk_229, tk_230, tk_232, tk_233, tk_234, tk_235, tk_236, tk_237, tk_238, tk_239, tk_240, tk_241, tk_242, tk_243, tk_244, tk_245, tk_246, tk_247, tk_248, tk_250, tk_251, tk_252, tk_253, tk_254, tk_255, tk_256, tk_258, tk_259, tk_260, tk_261, tk_262, tk_263, tk_264, tk_265, tk_268, tk_269, tk_270, tk_271, tk_272, trivial⟩
theorem tab_ok : TabOk Try.prog tab := tabOk tys_ok zs_ok ets_ok
theorem ty_1 : tab.ty 1 = some TK.func := rfl
theorem ty_2 : tab.ty 2 = some (TK.int IntKind.i64) := rfl
theorem ty_3 : tab.ty 3 = some (TK.int IntKind.i64) := rfl
theorem ty_4 : tab.ty 4 = some TK.bool := rfl
theorem ty_5 : tab.ty 5 = some (TK.int IntKind.u8) := rfl
theorem ty_6 : tab.ty 6 = some (TK.int IntKind.u8) := rfl
theorem ty_7 : tab.ty 7 = some (TK.struct 4 [(0, 1, false), (1, 1, false), (2, 1, false), (3, 1, false)]) := rfl
theorem ty_8 : tab.ty 8 = some (TK.struct 4 [(0, 1, false), (1, 1, false), (2, 1, false), (3, 1, false)]) := rfl
theorem ty_9 : tab.ty 9 = some TK.str := rfl
theorem ty_10 : tab.ty 10 = some TK.str := rfl
theorem ty_11 : tab.ty 11 = some TK.str := rfl
theorem ty_12 : tab.ty 12 = some (TK.int IntKind.u64) := rfl
theorem ty_13 : tab.ty 13 = some (TK.struct 2 [(0, 1, false), (1, 1, false)]) := rfl
theorem ty_14 : tab.ty 14 = some (TK.struct 2 [(0, 1, false), (1, 1, false)]) := rfl
theorem ty_15 : tab.ty 15 = some (TK.ptr 4) := rfl
theorem ty_17 : tab.ty 17 = some (TK.ptr 11) := rfl
theorem ty_18 : tab.ty 18 = some (TK.struct 1 [(0, 1, false)]) := rfl
theorem ty_19 : tab.ty 19 = some (TK.struct 1 [(0, 1, false)]) := rfl
theorem ty_21 : tab.ty 21 = some (TK.int IntKind.i32) := rfl
theorem ty_22 : tab.ty 22 = some (TK.slice 121 5 16) := rfl
theorem ty_23 : tab.ty 23 = some (TK.int IntKind.u16) := rfl
theorem ty_24 : tab.ty 24 = some TK.func := rfl
theorem ty_25 : tab.ty 25 = some (TK.slice 28 5 16) := rfl
theorem ty_26 : tab.ty 26 = some TK.func := rfl
theorem ty_27 : tab.ty 27 = some (TK.struct 5 [(0, 1, false), (1, 1, false), (2, 1, false), (3, 1, false), (4, 1, false)]) := rfl
theorem ty_28 : tab.ty 28 = some (TK.struct 5 [(0, 1, false), (1, 1, false), (2, 1, false), (3, 1, false), (4, 1, false)]) := rfl
theorem ty_29 : tab.ty 29 = some (TK.int IntKind.u64) := rfl
theorem ty_30 : tab.ty 30 = some (TK.struct 3 [(0, 1, false), (1, 1, false), (2, 1, false)]) := rfl
theorem ty_31 : tab.ty 31 = some (TK.struct 3 [(0, 1, false), (1, 1, false), (2, 1, false)]) := rfl
theorem ty_32 : tab.ty 32 = some (TK.int IntKind.i64) := rfl
theorem ty_34 : tab.ty 34 = some TK.func := rfl
theorem ty_35 : tab.ty 35 = some (TK.slice 44 17 136) := rfl
theorem ty_37 : tab.ty 37 = some TK.func := rfl
theorem ty_39 : tab.ty 39 = some TK.func := rfl
theorem ty_40 : tab.ty 40 = some (TK.struct 2 [(0, 1, false), (1, 1, false)]) := rfl
theorem ty_41 : tab.ty 41 = some (TK.struct 2 [(0, 1, false), (1, 1, false)]) := rfl
theorem ty_42 : tab.ty 42 = some (TK.array 41 8 2 true) := rfl
theorem ty_43 : tab.ty 43 = some (TK.struct 17 [(0, 1, false), (1, 16, true)]) := rfl
theorem ty_44 : tab.ty 44 = some (TK.struct 17 [(0, 1, false), (1, 16, true)]) := rfl
theorem ty_45 : tab.ty 45 = some TK.func := rfl
theorem ty_46 : tab.ty 46 = some (TK.array 2 8 1 false) := rfl
theorem ty_47 : tab.ty 47 = some (TK.slice 2 1 8) := rfl
theorem ty_48 : tab.ty 48 = some (TK.int IntKind.u32) := rfl
theorem ty_49 : tab.ty 49 = some (TK.struct 12 [(0, 1, false), (1, 8, true), (9, 1, false), (10, 1, false), (11, 1, false)]) := rfl
theorem ty_50 : tab.ty 50 = some (TK.struct 12 [(0, 1, false), (1, 8, true), (9, 1, false), (10, 1, false), (11, 1, false)]) := rfl
theorem ty_51 : tab.ty 51 = some (TK.slice 64 3 24) := rfl
theorem ty_52 : tab.ty 52 = some (TK.struct 13 [(0, 1, false), (1, 1, false), (2, 8, true), (10, 1, false), (11, 1, false), (12, 1, false)]) := rfl
theorem ty_53 : tab.ty 53 = some (TK.struct 13 [(0, 1, false), (1, 1, false), (2, 8, true), (10, 1, false), (11, 1, false), (12, 1, false)]) := rfl
theorem ty_54 : tab.ty 54 = some TK.func := rfl
theorem ty_55 : tab.ty 55 = some (TK.struct 5 [(0, 1, false), (1, 1, false), (2, 1, false), (3, 1, false), (4, 1, false)]) := rfl
theorem ty_56 : tab.ty 56 = some (TK.struct 5 [(0, 1, false), (1, 1, false), (2, 1, false), (3, 1, false), (4, 1, false)]) := rfl
theorem ty_58 : tab.ty 58 = some TK.func := rfl
theorem ty_59 : tab.ty 59 = some TK.func := rfl
theorem ty_60 : tab.ty 60 = some TK.func := rfl
theorem ty_62 : tab.ty 62 = some TK.func := rfl
theorem ty_63 : tab.ty 63 = some (TK.struct 3 [(0, 1, false), (1, 1, false), (2, 1, false)]) := rfl
theorem ty_64 : tab.ty 64 = some (TK.struct 3 [(0, 1, false), (1, 1, false), (2, 1, false)]) := rfl
theorem ty_65 : tab.ty 65 = some TK.func := rfl
theorem ty_66 : tab.ty 66 = some TK.func := rfl
theorem ty_67 : tab.ty 67 = some (TK.struct 3 [(0, 1, false), (1, 1, false), (2, 1, false)]) := rfl
theorem ty_68 : tab.ty 68 = some (TK.struct 3 [(0, 1, false), (1, 1, false), (2, 1, false)]) := rfl
theorem ty_69 : tab.ty 69 = some (TK.struct 5 [(0, 3, true), (3, 1, false), (4, 1, false)]) := rfl
theorem ty_70 : tab.ty 70 = some (TK.struct 5 [(0, 3, true), (3, 1, false), (4, 1, false)]) := rfl
theorem ty_71 : tab.ty 71 = some TK.func := rfl
theorem ty_72 : tab.ty 72 = some TK.func := rfl
theorem ty_73 : tab.ty 73 = some TK.func := rfl
theorem ty_74 : tab.ty 74 = some TK.func := rfl
theorem ty_75 : tab.ty 75 = some TK.func := rfl
theorem ty_76 : tab.ty 76 = some TK.func := rfl
theorem ty_77 : tab.ty 77 = some TK.func := rfl
theorem ty_78 : tab.ty 78 = some TK.func := rfl
theorem ty_79 : tab.ty 79 = some (TK.slice 3 1 8) := rfl
theorem ty_80 : tab.ty 80 = some (TK.slice 25 1 24) := rfl
theorem ty_81 : tab.ty 81 = some (TK.slice 32 1 8) := rfl
theorem ty_83 : tab.ty 83 = some TK.func := rfl
theorem ty_85 : tab.ty 85 = some TK.func := rfl
theorem ty_86 : tab.ty 86 = some TK.func := rfl
theorem ty_87 : tab.ty 87 = some (TK.array 2 3 1 false) := rfl
theorem ty_88 : tab.ty 88 = some TK.func := rfl
theorem ty_89 : tab.ty 89 = some (TK.ptr 11) := rfl
theorem ty_90 : tab.ty 90 = some (TK.struct 11 [(0, 8, true), (8, 1, false), (9, 1, false), (10, 1, false)]) := rfl
theorem ty_91 : tab.ty 91 = some (TK.struct 11 [(0, 8, true), (8, 1, false), (9, 1, false), (10, 1, false)]) := rfl
theorem ty_93 : tab.ty 93 = some TK.func := rfl
theorem ty_94 : tab.ty 94 = some TK.func := rfl
theorem ty_95 : tab.ty 95 = some TK.func := rfl
theorem ty_97 : tab.ty 97 = some TK.func := rfl
theorem ty_98 : tab.ty 98 = some TK.func := rfl
theorem ty_99 : tab.ty 99 = some (TK.ptr 2) := rfl
theorem ty_100 : tab.ty 100 = some (TK.ptr 23) := rfl
theorem ty_101 : tab.ty 101 = some (TK.struct 2 [(0, 1, false), (1, 1, false)]) := rfl
theorem ty_102 : tab.ty 102 = some (TK.struct 2 [(0, 1, false), (1, 1, false)]) := rfl
theorem ty_103 : tab.ty 103 = some (TK.slice 99 1 8) := rfl
theorem ty_104 : tab.ty 104 = some TK.func := rfl
theorem ty_105 : tab.ty 105 = some TK.func := rfl
theorem ty_106 : tab.ty 106 = some TK.func := rfl
theorem ty_107 : tab.ty 107 = some (TK.array 5 3 1 false) := rfl
theorem ty_108 : tab.ty 108 = some TK.func := rfl
theorem ty_109 : tab.ty 109 = some TK.func := rfl
theorem ty_110 : tab.ty 110 = some TK.func := rfl
theorem ty_111 : tab.ty 111 = some (TK.slice 4 1 1) := rfl
theorem ty_113 : tab.ty 113 = some TK.func := rfl
theorem ty_114 : tab.ty 114 = some TK.func := rfl
theorem ty_115 : tab.ty 115 = some TK.func := rfl
theorem ty_116 : tab.ty 116 = some TK.func := rfl
theorem ty_117 : tab.ty 117 = some TK.func := rfl
theorem ty_118 : tab.ty 118 = some TK.func := rfl
theorem ty_119 : tab.ty 119 = some TK.func := rfl
theorem ty_120 : tab.ty 120 = some TK.func := rfl
theorem ty_121 : tab.ty 121 = some (TK.struct 5 [(0, 1, false), (1, 1, false), (2, 1, false), (3, 1, false), (4, 1, false)]) := rfl
theorem ty_122 : tab.ty 122 = some TK.func := rfl
theorem ty_123 : tab.ty 123 = some TK.func := rfl
theorem ty_124 : tab.ty 124 = some TK.func := rfl
theorem ty_125 : tab.ty 125 = some TK.func := rfl
theorem ty_126 : tab.ty 126 = some TK.func := rfl
theorem ty_127 : tab.ty 127 = some TK.func := rfl
theorem ty_128 : tab.ty 128 = some TK.func := rfl
theorem ty_129 : tab.ty 129 = some TK.func := rfl
theorem ty_131 : tab.ty 131 = some TK.func := rfl
theorem ty_132 : tab.ty 132 = some TK.func := rfl
theorem ty_133 : tab.ty 133 = some (TK.slice 200 3 24) := rfl
theorem ty_134 : tab.ty 134 = some (TK.struct 13 [(0, 1, false), (1, 1, false), (2, 8, true), (10, 1, false), (11, 1, false), (12, 1, false)]) := rfl
theorem ty_135 : tab.ty 135 = some (TK.struct 13 [(0, 1, false), (1, 1, false), (2, 8, true), (10, 1, false), (11, 1, false), (12, 1, false)]) := rfl
theorem ty_136 : tab.ty 136 = some TK.func := rfl
theorem ty_138 : tab.ty 138 = some TK.func := rfl
theorem ty_139 : tab.ty 139 = some (TK.slice 202 5 16) := rfl
theorem ty_140 : tab.ty 140 = some TK.func := rfl
theorem ty_141 : tab.ty 141 = some (TK.struct 5 [(0, 1, false), (1, 1, false), (2, 1, false), (3, 1, false), (4, 1, false)]) := rfl
theorem ty_142 : tab.ty 142 = some TK.func := rfl
theorem ty_143 : tab.ty 143 = some TK.func := rfl
theorem ty_144 : tab.ty 144 = some TK.func := rfl
theorem ty_145 : tab.ty 145 = some TK.func := rfl
theorem ty_146 : tab.ty 146 = some TK.func := rfl
theorem ty_147 : tab.ty 147 = some TK.func := rfl
theorem ty_148 : tab.ty 148 = some TK.func := rfl
theorem ty_150 : tab.ty 150 = some TK.func := rfl
theorem ty_151 : tab.ty 151 = some (TK.struct 23 [(0, 13, true), (13, 5, true), (18, 5, true)]) := rfl
theorem ty_152 : tab.ty 152 = some (TK.struct 23 [(0, 13, true), (13, 5, true), (18, 5, true)]) := rfl
theorem ty_153 : tab.ty 153 = some (TK.struct 3 [(0, 1, false), (1, 1, false), (2, 1, false)]) := rfl
theorem ty_154 : tab.ty 154 = some (TK.slice 212 17 136) := rfl
theorem ty_156 : tab.ty 156 = some TK.func := rfl
theorem ty_158 : tab.ty 158 = some TK.func := rfl
theorem ty_160 : tab.ty 160 = some TK.func := rfl
theorem ty_161 : tab.ty 161 = some TK.func := rfl
theorem ty_163 : tab.ty 163 = some TK.func := rfl
theorem ty_164 : tab.ty 164 = some TK.func := rfl
theorem ty_165 : tab.ty 165 = some TK.func := rfl
theorem ty_166 : tab.ty 166 = some TK.func := rfl
theorem ty_167 : tab.ty 167 = some TK.func := rfl
theorem ty_168 : tab.ty 168 = some TK.func := rfl
theorem ty_169 : tab.ty 169 = some (TK.struct 2 [(0, 1, false), (1, 1, false)]) := rfl
theorem ty_170 : tab.ty 170 = some (TK.struct 2 [(0, 1, false), (1, 1, false)]) := rfl
theorem ty_171 : tab.ty 171 = some (TK.array 170 11 2 true) := rfl
theorem ty_172 : tab.ty 172 = some (TK.slice 56 5 40) := rfl
theorem ty_173 : tab.ty 173 = some TK.func := rfl
theorem ty_174 : tab.ty 174 = some TK.func := rfl
theorem ty_176 : tab.ty 176 = some TK.func := rfl
theorem ty_177 : tab.ty 177 = some TK.func := rfl
theorem ty_178 : tab.ty 178 = some TK.func := rfl
theorem ty_179 : tab.ty 179 = some (TK.int IntKind.u64) := rfl
theorem ty_181 : tab.ty 181 = some TK.func := rfl
theorem ty_182 : tab.ty 182 = some TK.func := rfl
theorem ty_183 : tab.ty 183 = some TK.func := rfl
theorem ty_184 : tab.ty 184 = some TK.func := rfl
theorem ty_185 : tab.ty 185 = some TK.func := rfl
theorem ty_186 : tab.ty 186 = some TK.func := rfl
theorem ty_187 : tab.ty 187 = some (TK.ptr 1) := rfl
theorem ty_188 : tab.ty 188 = some (TK.slice 187 1 8) := rfl
theorem ty_189 : tab.ty 189 = some (TK.slice 5 1 1) := rfl
theorem ty_190 : tab.ty 190 = some TK.func := rfl
theorem ty_191 : tab.ty 191 = some TK.func := rfl
theorem ty_192 : tab.ty 192 = some TK.func := rfl
theorem ty_193 : tab.ty 193 = some TK.func := rfl
theorem ty_194 : tab.ty 194 = some TK.func := rfl
theorem ty_195 : tab.ty 195 = some TK.func := rfl
theorem ty_196 : tab.ty 196 = some TK.func := rfl
theorem ty_197 : tab.ty 197 = some TK.func := rfl
theorem ty_198 : tab.ty 198 = some TK.func := rfl
theorem ty_199 : tab.ty 199 = some TK.func := rfl
theorem ty_200 : tab.ty 200 = some (TK.struct 3 [(0, 1, false), (1, 1, false), (2, 1, false)]) := rfl
theorem ty_201 : tab.ty 201 = some TK.func := rfl
theorem ty_202 : tab.ty 202 = some (TK.struct 5 [(0, 1, false), (1, 1, false), (2, 1, false), (3, 1, false), (4, 1, false)]) := rfl
theorem ty_203 : tab.ty 203 = some (TK.struct 2 [(0, 1, false), (1, 1, false)]) := rfl
theorem ty_204 : tab.ty 204 = some (TK.struct 2 [(0, 1, false), (1, 1, false)]) := rfl
theorem ty_205 : tab.ty 205 = some (TK.array 204 18 2 true) := rfl
theorem ty_206 : tab.ty 206 = some TK.func := rfl
theorem ty_207 : tab.ty 207 = some TK.func := rfl
theorem ty_208 : tab.ty 208 = some TK.func := rfl
theorem ty_209 : tab.ty 209 = some (TK.struct 2 [(0, 1, false), (1, 1, false)]) := rfl
theorem ty_210 : tab.ty 210 = some (TK.array 209 8 2 true) := rfl
theorem ty_211 : tab.ty 211 = some (TK.struct 17 [(0, 1, false), (1, 16, true)]) := rfl
theorem ty_212 : tab.ty 212 = some (TK.struct 17 [(0, 1, false), (1, 16, true)]) := rfl
theorem ty_213 : tab.ty 213 = some TK.func := rfl
theorem ty_214 : tab.ty 214 = some TK.func := rfl
theorem ty_215 : tab.ty 215 = some TK.func := rfl
theorem ty_216 : tab.ty 216 = some TK.func := rfl
theorem ty_217 : tab.ty 217 = some TK.func := rfl
theorem ty_219 : tab.ty 219 = some TK.func := rfl
theorem ty_221 : tab.ty 221 = some TK.func := rfl
theorem ty_222 : tab.ty 222 = some TK.func := rfl
theorem ty_223 : tab.ty 223 = some TK.func := rfl
theorem ty_224 : tab.ty 224 = some TK.func := rfl
theorem ty_226 : tab.ty 226 = some TK.func := rfl
theorem ty_227 : tab.ty 227 = some TK.func := rfl
theorem ty_228 : tab.ty 228 = some TK.func := rfl
theorem ty_229 : tab.ty 229 = some TK.func := rfl
theorem ty_230 : tab.ty 230 = some TK.func := rfl
theorem ty_232 : tab.ty 232 = some TK.func := rfl
theorem ty_233 : tab.ty 233 = some TK.func := rfl
theorem ty_234 : tab.ty 234 = some (TK.struct 2 [(0, 1, false), (1, 1, false)]) := rfl
theorem ty_235 : tab.ty 235 = some (TK.struct 2 [(0, 1, false), (1, 1, false)]) := rfl
theorem ty_236 : tab.ty 236 = some (TK.array 235 11 2 true) := rfl
theorem ty_237 : tab.ty 237 = some TK.func := rfl
theorem ty_238 : tab.ty 238 = some TK.func := rfl
theorem ty_239 : tab.ty 239 = some TK.func := rfl
theorem ty_240 : tab.ty 240 = some TK.func := rfl
theorem ty_241 : tab.ty 241 = some TK.func := rfl
theorem ty_242 : tab.ty 242 = some TK.func := rfl
theorem ty_243 : tab.ty 243 = some (TK.slice 29 1 8) := rfl
theorem ty_244 : tab.ty 244 = some TK.func := rfl
theorem ty_245 : tab.ty 245 = some TK.func := rfl
theorem ty_246 : tab.ty 246 = some TK.func := rfl
theorem ty_247 : tab.ty 247 = some TK.func := rfl
theorem ty_248 : tab.ty 248 = some TK.func := rfl
theorem ty_250 : tab.ty 250 = some TK.func := rfl
theorem ty_251 : tab.ty 251 = some TK.func := rfl
theorem ty_252 : tab.ty 252 = some TK.func := rfl
theorem ty_253 : tab.ty 253 = some TK.func := rfl
theorem ty_254 : tab.ty 254 = some TK.func := rfl
theorem ty_255 : tab.ty 255 = some TK.func := rfl
theorem ty_256 : tab.ty 256 = some (TK.ptr 1) := rfl
theorem ty_258 : tab.ty 258 = some TK.func := rfl
theorem ty_259 : tab.ty 259 = some TK.func := rfl
theorem ty_260 : tab.ty 260 = some TK.func := rfl
theorem ty_261 : tab.ty 261 = some TK.func := rfl
theorem ty_262 : tab.ty 262 = some TK.func := rfl
theorem ty_263 : tab.ty 263 = some (TK.struct 4 [(0, 1, false), (1, 1, false), (2, 1, false), (3, 1, false)]) := rfl
theorem ty_264 : tab.ty 264 = some (TK.struct 4 [(0, 1, false), (1, 1, false), (2, 1, false), (3, 1, false)]) := rfl
theorem ty_265 : tab.ty 265 = some (TK.array 16 0 1 false) := rfl
theorem ty_268 : tab.ty 268 = some (TK.int IntKind.u8) := rfl
theorem ty_269 : tab.ty 269 = some (TK.int IntKind.u8) := rfl
theorem ty_270 : tab.ty 270 = some TK.func := rfl
theorem ty_271 : tab.ty 271 = some (TK.int IntKind.i32) := rfl
theorem ty_272 : tab.ty 272 = some (TK.int IntKind.i32) := rfl
theorem ze_1 : tab.zero 1 = some (.nilf) := rfl
theorem ze_2 : tab.zero 2 = some (.nat .i64 0) := rfl
theorem ze_3 : tab.zero 3 = some (.nat .i64 0) := rfl
theorem ze_4 : tab.zero 4 = some (.bool false) := rfl
theorem ze_5 : tab.zero 5 = some (.nat .u8 0) := rfl
theorem ze_6 : tab.zero 6 = some (.nat .u8 0) := rfl
theorem ze_7 : tab.zero 7 = some (.agg [.nat .i64 0, .nat .i64 0, .bool false, .nat .u8 0]) := rfl
theorem ze_8 : tab.zero 8 = some (.agg [.nat .i64 0, .nat .i64 0, .bool false, .nat .u8 0]) := rfl
theorem ze_9 : tab.zero 9 = some (.str ⟨#[]⟩) := rfl
theorem ze_10 : tab.zero 10 = some (.str ⟨#[]⟩) := rfl
theorem ze_11 : tab.zero 11 = some (.str ⟨#[]⟩) := rfl
theorem ze_12 : tab.zero 12 = some (.nat .u64 0) := rfl
theorem ze_13 : tab.zero 13 = some (.agg [.str ⟨#[]⟩, .nat .u64 0]) := rfl
theorem ze_14 : tab.zero 14 = some (.agg [.str ⟨#[]⟩, .nat .u64 0]) := rfl
theorem ze_15 : tab.zero 15 = some (.nilp) := rfl
theorem ze_17 : tab.zero 17 = some (.nilp) := rfl
theorem ze_18 : tab.zero 18 = some (.agg [.nilp]) := rfl
theorem ze_19 : tab.zero 19 = some (.agg [.nilp]) := rfl
theorem ze_21 : tab.zero 21 = some (.nat .i32 0) := rfl
theorem ze_22 : tab.zero 22 = some (.sl 0 0 [] 0 0 0 (some 0)) := rfl
theorem ze_23 : tab.zero 23 = some (.nat .u16 0) := rfl
theorem ze_24 : tab.zero 24 = some (.nilf) := rfl
theorem ze_25 : tab.zero 25 = some (.sl 0 0 [] 0 0 0 (some 0)) := rfl
theorem ze_26 : tab.zero 26 = some (.nilf) := rfl
theorem ze_27 : tab.zero 27 = some (.agg [.nat .u8 0, .nat .u8 0, .nat .u8 0, .nat .u8 0, .nat .i64 0]) := rfl
theorem ze_28 : tab.zero 28 = some (.agg [.nat .u8 0, .nat .u8 0, .nat .u8 0, .nat .u8 0, .nat .i64 0]) := rfl
theorem ze_29 : tab.zero 29 = some (.nat .u64 0) := rfl
theorem ze_30 : tab.zero 30 = some (.agg [.nat .i64 0, .nat .i64 0, .nat .i64 0]) := rfl
theorem ze_31 : tab.zero 31 = some (.agg [.nat .i64 0, .nat .i64 0, .nat .i64 0]) := rfl
theorem ze_32 : tab.zero 32 = some (.nat .i64 0) := rfl
theorem ze_34 : tab.zero 34 = some (.nilf) := rfl
theorem ze_35 : tab.zero 35 = some (.sl 0 0 [] 0 0 0 (some 0)) := rfl
theorem ze_37 : tab.zero 37 = some (.nilf) := rfl
theorem ze_39 : tab.zero 39 = some (.nilf) := rfl
theorem ze_40 : tab.zero 40 = some (.agg [.bool false, .nat .i64 0]) := rfl
theorem ze_41 : tab.zero 41 = some (.agg [.bool false, .nat .i64 0]) := rfl
theorem ze_42 : tab.zero 42 = some (.arr 8 2 fun _ => .agg [.bool false, .nat .i64 0]) := rfl
theorem ze_43 : tab.zero 43 = some (.agg [.bool false, (.arr 8 2 fun _ => .agg [.bool false, .nat .i64 0])]) := rfl
theorem ze_44 : tab.zero 44 = some (.agg [.bool false, (.arr 8 2 fun _ => .agg [.bool false, .nat .i64 0])]) := rfl
theorem ze_45 : tab.zero 45 = some (.nilf) := rfl
theorem ze_46 : tab.zero 46 = some (.arr 8 1 fun _ => .nat .i64 0) := rfl
theorem ze_47 : tab.zero 47 = some (.sl 0 0 [] 0 0 0 (some 0)) := rfl
theorem ze_48 : tab.zero 48 = some (.nat .u32 0) := rfl
theorem ze_49 : tab.zero 49 = some (.agg [.nat .u8 0, (.arr 8 1 fun _ => .nat .i64 0), .sl 0 0 [] 0 0 0 (some 0), .nat .u32 0, .nat .u8 0]) := rfl
theorem ze_50 : tab.zero 50 = some (.agg [.nat .u8 0, (.arr 8 1 fun _ => .nat .i64 0), .sl 0 0 [] 0 0 0 (some 0), .nat .u32 0, .nat .u8 0]) := rfl
theorem ze_51 : tab.zero 51 = some (.sl 0 0 [] 0 0 0 (some 0)) := rfl
theorem ze_52 : tab.zero 52 = some (.agg [.nat .i64 0, .bool false, (.arr 8 1 fun _ => .nat .i64 0), .sl 0 0 [] 0 0 0 (some 0), .nat .i64 0, .sl 0 0 [] 0 0 0 (some 0)]) := rfl
theorem ze_53 : tab.zero 53 = some (.agg [.nat .i64 0, .bool false, (.arr 8 1 fun _ => .nat .i64 0), .sl 0 0 [] 0 0 0 (some 0), .nat .i64 0, .sl 0 0 [] 0 0 0 (some 0)]) := rfl
theorem ze_54 : tab.zero 54 = some (.nilf) := rfl
theorem ze_55 : tab.zero 55 = some (.agg [.nat .u64 0, .nat .i64 0, .nat .i64 0, .nat .i64 0, .nat .i64 0]) := rfl
theorem ze_56 : tab.zero 56 = some (.agg [.nat .u64 0, .nat .i64 0, .nat .i64 0, .nat .i64 0, .nat .i64 0]) := rfl
theorem ze_58 : tab.zero 58 = some (.nilf) := rfl
theorem ze_59 : tab.zero 59 = some (.nilf) := rfl
theorem ze_60 : tab.zero 60 = some (.nilf) := rfl
theorem ze_62 : tab.zero 62 = some (.nilf) := rfl
theorem ze_63 : tab.zero 63 = some (.agg [.nat .i64 0, .nat .i64 0, .nat .i64 0]) := rfl
theorem ze_64 : tab.zero 64 = some (.agg [.nat .i64 0, .nat .i64 0, .nat .i64 0]) := rfl
theorem ze_65 : tab.zero 65 = some (.nilf) := rfl
theorem ze_66 : tab.zero 66 = some (.nilf) := rfl
theorem ze_67 : tab.zero 67 = some (.agg [.nat .i64 0, .nat .i64 0, .nat .i64 0]) := rfl
theorem ze_68 : tab.zero 68 = some (.agg [.nat .i64 0, .nat .i64 0, .nat .i64 0]) := rfl
theorem ze_69 : tab.zero 69 = some (.agg [.agg [.nat .i64 0, .nat .i64 0, .nat .i64 0], .nat .i64 0, .nat .i64 0]) := rfl
theorem ze_70 : tab.zero 70 = some (.agg [.agg [.nat .i64 0, .nat .i64 0, .nat .i64 0], .nat .i64 0, .nat .i64 0]) := rfl
theorem ze_71 : tab.zero 71 = some (.nilf) := rfl
theorem ze_72 : tab.zero 72 = some (.nilf) := rfl
theorem ze_73 : tab.zero 73 = some (.nilf) := rfl
theorem ze_74 : tab.zero 74 = some (.nilf) := rfl
theorem ze_75 : tab.zero 75 = some (.nilf) := rfl
theorem ze_76 : tab.zero 76 = some (.nilf) := rfl
theorem ze_77 : tab.zero 77 = some (.nilf) := rfl
theorem ze_78 : tab.zero 78 = some (.nilf) := rfl
theorem ze_79 : tab.zero 79 = some (.sl 0 0 [] 0 0 0 (some 0)) := rfl
theorem ze_80 : tab.zero 80 = some (.sl 0 0 [] 0 0 0 (some 0)) := rfl
theorem ze_81 : tab.zero 81 = some (.sl 0 0 [] 0 0 0 (some 0)) := rfl
theorem ze_83 : tab.zero 83 = some (.nilf) := rfl
theorem ze_85 : tab.zero 85 = some (.nilf) := rfl
theorem ze_86 : tab.zero 86 = some (.nilf) := rfl
theorem ze_87 : tab.zero 87 = some (.arr 3 1 fun _ => .nat .i64 0) := rfl
theorem ze_88 : tab.zero 88 = some (.nilf) := rfl
theorem ze_89 : tab.zero 89 = some (.nilp) := rfl
theorem ze_90 : tab.zero 90 = some (.agg [(.arr 8 1 fun _ => .nat .i64 0), .sl 0 0 [] 0 0 0 (some 0), .sl 0 0 [] 0 0 0 (some 0), .nat .i64 0]) := rfl
theorem ze_91 : tab.zero 91 = some (.agg [(.arr 8 1 fun _ => .nat .i64 0), .sl 0 0 [] 0 0 0 (some 0), .sl 0 0 [] 0 0 0 (some 0), .nat .i64 0]) := rfl
theorem ze_93 : tab.zero 93 = some (.nilf) := rfl
theorem ze_94 : tab.zero 94 = some (.nilf) := rfl
theorem ze_95 : tab.zero 95 = some (.nilf) := rfl
theorem ze_97 : tab.zero 97 = some (.nilf) := rfl
theorem ze_98 : tab.zero 98 = some (.nilf) := rfl
theorem ze_99 : tab.zero 99 = some (.nilp) := rfl
theorem ze_100 : tab.zero 100 = some (.nilp) := rfl
theorem ze_101 : tab.zero 101 = some (.agg [.nilp, .sl 0 0 [] 0 0 0 (some 0)]) := rfl
theorem ze_102 : tab.zero 102 = some (.agg [.nilp, .sl 0 0 [] 0 0 0 (some 0)]) := rfl
theorem ze_103 : tab.zero 103 = some (.sl 0 0 [] 0 0 0 (some 0)) := rfl
theorem ze_104 : tab.zero 104 = some (.nilf) := rfl
theorem ze_105 : tab.zero 105 = some (.nilf) := rfl
theorem ze_106 : tab.zero 106 = some (.nilf) := rfl
theorem ze_107 : tab.zero 107 = some (.arr 3 1 fun _ => .nat .u8 0) := rfl
theorem ze_108 : tab.zero 108 = some (.nilf) := rfl
theorem ze_109 : tab.zero 109 = some (.nilf) := rfl
theorem ze_110 : tab.zero 110 = some (.nilf) := rfl
theorem ze_111 : tab.zero 111 = some (.sl 0 0 [] 0 0 0 (some 0)) := rfl
theorem ze_113 : tab.zero 113 = some (.nilf) := rfl
theorem ze_114 : tab.zero 114 = some (.nilf) := rfl
theorem ze_115 : tab.zero 115 = some (.nilf) := rfl
theorem ze_116 : tab.zero 116 = some (.nilf) := rfl
theorem ze_117 : tab.zero 117 = some (.nilf) := rfl
theorem ze_118 : tab.zero 118 = some (.nilf) := rfl
theorem ze_119 : tab.zero 119 = some (.nilf) := rfl
theorem ze_120 : tab.zero 120 = some (.nilf) := rfl
theorem ze_121 : tab.zero 121 = some (.agg [.nat .u8 0, .nat .u8 0, .nat .u8 0, .nat .u8 0, .nat .i64 0]) := rfl
theorem ze_122 : tab.zero 122 = some (.nilf) := rfl
theorem ze_123 : tab.zero 123 = some (.nilf) := rfl
theorem ze_124 : tab.zero 124 = some (.nilf) := rfl
theorem ze_125 : tab.zero 125 = some (.nilf) := rfl
theorem ze_126 : tab.zero 126 = some (.nilf) := rfl
theorem ze_127 : tab.zero 127 = some (.nilf) := rfl
theorem ze_128 : tab.zero 128 = some (.nilf) := rfl
theorem ze_129 : tab.zero 129 = some (.nilf) := rfl
theorem ze_131 : tab.zero 131 = some (.nilf) := rfl
theorem ze_132 : tab.zero 132 = some (.nilf) := rfl
theorem ze_133 : tab.zero 133 = some (.sl 0 0 [] 0 0 0 (some 0)) := rfl
theorem ze_134 : tab.zero 134 = some (.agg [.nat .i64 0, .bool false, (.arr 8 1 fun _ => .nat .i64 0), .sl 0 0 [] 0 0 0 (some 0), .nat .i64 0, .sl 0 0 [] 0 0 0 (some 0)]) := rfl
theorem ze_135 : tab.zero 135 = some (.agg [.nat .i64 0, .bool false, (.arr 8 1 fun _ => .nat .i64 0), .sl 0 0 [] 0 0 0 (some 0), .nat .i64 0, .sl 0 0 [] 0 0 0 (some 0)]) := rfl
theorem ze_136 : tab.zero 136 = some (.nilf) := rfl
theorem ze_138 : tab.zero 138 = some (.nilf) := rfl
theorem ze_139 : tab.zero 139 = some (.sl 0 0 [] 0 0 0 (some 0)) := rfl
theorem ze_140 : tab.zero 140 = some (.nilf) := rfl
theorem ze_141 : tab.zero 141 = some (.agg [.nat .u64 0, .nat .i64 0, .nat .i64 0, .nat .i64 0, .nat .i64 0]) := rfl
theorem ze_142 : tab.zero 142 = some (.nilf) := rfl
theorem ze_143 : tab.zero 143 = some (.nilf) := rfl
theorem ze_144 : tab.zero 144 = some (.nilf) := rfl
theorem ze_145 : tab.zero 145 = some (.nilf) := rfl
theorem ze_146 : tab.zero 146 = some (.nilf) := rfl
theorem ze_147 : tab.zero 147 = some (.nilf) := rfl
theorem ze_148 : tab.zero 148 = some (.nilf) := rfl
theorem ze_150 : tab.zero 150 = some (.nilf) := rfl
theorem ze_151 : tab.zero 151 = some (.agg [.agg [.nat .i64 0, .bool false, (.arr 8 1 fun _ => .nat .i64 0), .sl 0 0 [] 0 0 0 (some 0), .nat .i64 0, .sl 0 0 [] 0 0 0 (some 0)], .agg [.nat .u64 0, .nat .i64 0, .nat .i64 0, .nat .i64 0, .nat .i64 0], .agg [.nat .u8 0, .nat .u8 0, .nat .u8 0, .nat .u8 0, .nat .i64 0]]) := rfl
theorem ze_152 : tab.zero 152 = some (.agg [.agg [.nat .i64 0, .bool false, (.arr 8 1 fun _ => .nat .i64 0), .sl 0 0 [] 0 0 0 (some 0), .nat .i64 0, .sl 0 0 [] 0 0 0 (some 0)], .agg [.nat .u64 0, .nat .i64 0, .nat .i64 0, .nat .i64 0, .nat .i64 0], .agg [.nat .u8 0, .nat .u8 0, .nat .u8 0, .nat .u8 0, .nat .i64 0]]) := rfl
theorem ze_153 : tab.zero 153 = some (.agg [.nat .i64 0, .nat .i64 0, .nat .i64 0]) := rfl
theorem ze_154 : tab.zero 154 = some (.sl 0 0 [] 0 0 0 (some 0)) := rfl
theorem ze_156 : tab.zero 156 = some (.nilf) := rfl
theorem ze_158 : tab.zero 158 = some (.nilf) := rfl
theorem ze_160 : tab.zero 160 = some (.nilf) := rfl
theorem ze_161 : tab.zero 161 = some (.nilf) := rfl
theorem ze_163 : tab.zero 163 = some (.nilf) := rfl
theorem ze_164 : tab.zero 164 = some (.nilf) := rfl
theorem ze_165 : tab.zero 165 = some (.nilf) := rfl
theorem ze_166 : tab.zero 166 = some (.nilf) := rfl
theorem ze_167 : tab.zero 167 = some (.nilf) := rfl
theorem ze_168 : tab.zero 168 = some (.nilf) := rfl
theorem ze_169 : tab.zero 169 = some (.agg [.nat .u8 0, .str ⟨#[]⟩]) := rfl
theorem ze_170 : tab.zero 170 = some (.agg [.nat .u8 0, .str ⟨#[]⟩]) := rfl
theorem ze_171 : tab.zero 171 = some (.arr 11 2 fun _ => .agg [.nat .u8 0, .str ⟨#[]⟩]) := rfl
theorem ze_172 : tab.zero 172 = some (.sl 0 0 [] 0 0 0 (some 0)) := rfl
theorem ze_173 : tab.zero 173 = some (.nilf) := rfl
theorem ze_174 : tab.zero 174 = some (.nilf) := rfl
theorem ze_176 : tab.zero 176 = some (.nilf) := rfl
theorem ze_177 : tab.zero 177 = some (.nilf) := rfl
theorem ze_178 : tab.zero 178 = some (.nilf) := rfl
theorem ze_179 : tab.zero 179 = some (.nat .u64 0) := rfl
theorem ze_181 : tab.zero 181 = some (.nilf) := rfl
theorem ze_182 : tab.zero 182 = some (.nilf) := rfl
theorem ze_183 : tab.zero 183 = some (.nilf) := rfl
theorem ze_184 : tab.zero 184 = some (.nilf) := rfl
theorem ze_185 : tab.zero 185 = some (.nilf) := rfl
theorem ze_186 : tab.zero 186 = some (.nilf) := rfl
theorem ze_187 : tab.zero 187 = some (.nilp) := rfl
theorem ze_188 : tab.zero 188 = some (.sl 0 0 [] 0 0 0 (some 0)) := rfl
theorem ze_189 : tab.zero 189 = some (.sl 0 0 [] 0 0 0 (some 0)) := rfl
theorem ze_190 : tab.zero 190 = some (.nilf) := rfl
theorem ze_191 : tab.zero 191 = some (.nilf) := rfl
theorem ze_192 : tab.zero 192 = some (.nilf) := rfl
theorem ze_193 : tab.zero 193 = some (.nilf) := rfl
theorem ze_194 : tab.zero 194 = some (.nilf) := rfl
theorem ze_195 : tab.zero 195 = some (.nilf) := rfl
theorem ze_196 : tab.zero 196 = some (.nilf) := rfl
theorem ze_197 : tab.zero 197 = some (.nilf) := rfl
theorem ze_198 : tab.zero 198 = some (.nilf) := rfl
theorem ze_199 : tab.zero 199 = some (.nilf) := rfl
theorem ze_200 : tab.zero 200 = some (.agg [.nat .i64 0, .nat .i64 0, .nat .i64 0]) := rfl
theorem ze_201 : tab.zero 201 = some (.nilf) := rfl
theorem ze_202 : tab.zero 202 = some (.agg [.nat .u8 0, .nat .u8 0, .nat .u8 0, .nat .u8 0, .nat .i64 0]) := rfl
theorem ze_203 : tab.zero 203 = some (.agg [.str ⟨#[]⟩, .bool false]) := rfl
theorem ze_204 : tab.zero 204 = some (.agg [.str ⟨#[]⟩, .bool false]) := rfl
theorem ze_205 : tab.zero 205 = some (.arr 18 2 fun _ => .agg [.str ⟨#[]⟩, .bool false]) := rfl
theorem ze_206 : tab.zero 206 = some (.nilf) := rfl
theorem ze_207 : tab.zero 207 = some (.nilf) := rfl
theorem ze_208 : tab.zero 208 = some (.nilf) := rfl
theorem ze_209 : tab.zero 209 = some (.agg [.bool false, .nat .i64 0]) := rfl
theorem ze_210 : tab.zero 210 = some (.arr 8 2 fun _ => .agg [.bool false, .nat .i64 0]) := rfl
theorem ze_211 : tab.zero 211 = some (.agg [.bool false, (.arr 8 2 fun _ => .agg [.bool false, .nat .i64 0])]) := rfl
theorem ze_212 : tab.zero 212 = some (.agg [.bool false, (.arr 8 2 fun _ => .agg [.bool false, .nat .i64 0])]) := rfl
theorem ze_213 : tab.zero 213 = some (.nilf) := rfl
theorem ze_214 : tab.zero 214 = some (.nilf) := rfl
theorem ze_215 : tab.zero 215 = some (.nilf) := rfl
theorem ze_216 : tab.zero 216 = some (.nilf) := rfl
theorem ze_217 : tab.zero 217 = some (.nilf) := rfl
theorem ze_219 : tab.zero 219 = some (.nilf) := rfl
theorem ze_221 : tab.zero 221 = some (.nilf) := rfl
theorem ze_222 : tab.zero 222 = some (.nilf) := rfl
theorem ze_223 : tab.zero 223 = some (.nilf) := rfl
theorem ze_224 : tab.zero 224 = some (.nilf) := rfl
theorem ze_226 : tab.zero 226 = some (.nilf) := rfl
theorem ze_227 : tab.zero 227 = some (.nilf) := rfl
theorem ze_228 : tab.zero 228 = some (.nilf) := rfl
theorem ze_229 : tab.zero 229 = some (.nilf) := rfl
theorem ze_230 : tab.zero 230 = some (.nilf) := rfl
theorem ze_232 : tab.zero 232 = some (.nilf) := rfl
theorem ze_233 : tab.zero 233 = some (.nilf) := rfl
theorem ze_234 : tab.zero 234 = some (.agg [.nat .u8 0, .nilf]) := rfl
theorem ze_235 : tab.zero 235 = some (.agg [.nat .u8 0, .nilf]) := rfl
theorem ze_236 : tab.zero 236 = some (.arr 11 2 fun _ => .agg [.nat .u8 0, .nilf]) := rfl
theorem ze_237 : tab.zero 237 = some (.nilf) := rfl
theorem ze_238 : tab.zero 238 = some (.nilf) := rfl
theorem ze_239 : tab.zero 239 = some (.nilf) := rfl
theorem ze_240 : tab.zero 240 = some (.nilf) := rfl
theorem ze_241 : tab.zero 241 = some (.nilf) := rfl
theorem ze_242 : tab.zero 242 = some (.nilf) := rfl
theorem ze_243 : tab.zero 243 = some (.sl 0 0 [] 0 0 0 (some 0)) := rfl
theorem ze_244 : tab.zero 244 = some (.nilf) := rfl
theorem ze_245 : tab.zero 245 = some (.nilf) := rfl
theorem ze_246 : tab.zero 246 = some (.nilf) := rfl
theorem ze_247 : tab.zero 247 = some (.nilf) := rfl
theorem ze_248 : tab.zero 248 = some (.nilf) := rfl
theorem ze_250 : tab.zero 250 = some (.nilf) := rfl
theorem ze_251 : tab.zero 251 = some (.nilf) := rfl
theorem ze_252 : tab.zero 252 = some (.nilf) := rfl
theorem ze_253 : tab.zero 253 = some (.nilf) := rfl
theorem ze_254 : tab.zero 254 = some (.nilf) := rfl
theorem ze_255 : tab.zero 255 = some (.nilf) := rfl
theorem ze_256 : tab.zero 256 = some (.nilp) := rfl
theorem ze_258 : tab.zero 258 = some (.nilf) := rfl
theorem ze_259 : tab.zero 259 = some (.nilf) := rfl
theorem ze_260 : tab.zero 260 = some (.nilf) := rfl
theorem ze_261 : tab.zero 261 = some (.nilf) := rfl
theorem ze_262 : tab.zero 262 = some (.nilf) := rfl
theorem ze_263 : tab.zero 263 = some (.agg [.nilp, .nilp, .nilp, .str ⟨#[]⟩]) := rfl
theorem ze_264 : tab.zero 264 = some (.agg [.nilp, .nilp, .nilp, .str ⟨#[]⟩]) := rfl
theorem ze_268 : tab.zero 268 = some (.nat .u8 0) := rfl
theorem ze_269 : tab.zero 269 = some (.nat .u8 0) := rfl
theorem ze_270 : tab.zero 270 = some (.nilf) := rfl
theorem ze_271 : tab.zero 271 = some (.nat .i32 0) := rfl
theorem ze_272 : tab.zero 272 = some (.nat .i32 0) := rfl
end Go.Proofs.Ytmljmabbopkpiaa.Vm
end
