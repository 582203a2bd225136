/- The walk: each function does what its model says. -/
import Derived.Test.YtkbaoeklchdioaaDoorMoFnExactEntriesOk
import Derived.Test.YtkbaoeklchdioaaDoorProg
import Derived.KernelRfl
set_option linter.unusedVariables false
set_option maxRecDepth 100000
namespace Go.AM.YtkbaoeklchdioaaDoor
open Go Go.AM
def tys : List (Nat × TInf) := [
  (1, ⟨.func, 1, 8, [.nilF], none, false⟩),
  (2, ⟨.int .i64, 1, 8, [.int .i64 0], some (.int .i64), true⟩),
  (3, ⟨.int .i64, 1, 8, [.int .i64 0], some (.int .i64), true⟩),
  (4, ⟨.bool, 1, 1, [.bool false], some .bool, true⟩),
  (5, ⟨.int .u8, 1, 1, [.int .u8 0], some (.int .u8), true⟩),
  (6, ⟨.int .u8, 1, 1, [.int .u8 0], some (.int .u8), true⟩),
  (7, ⟨.struct [(0, 2), (1, 3), (2, 4), (3, 6)], 4, 24, [.int .i64 0, .int .i64 0, .bool false, .int .u8 0], some (.pair (.int .i64) (.pair (.int .i64) (.pair .bool (.int .u8)))), true⟩),
  (8, ⟨.struct [(0, 2), (1, 3), (2, 4), (3, 6)], 4, 24, [.int .i64 0, .int .i64 0, .bool false, .int .u8 0], some (.pair (.int .i64) (.pair (.int .i64) (.pair .bool (.int .u8)))), true⟩),
  (9, ⟨.str, 1, 16, [.str []], some .str, true⟩),
  (10, ⟨.str, 1, 16, [.str []], some .str, true⟩),
  (11, ⟨.str, 1, 16, [.str []], some .str, true⟩),
  (12, ⟨.int .u64, 1, 8, [.int .u64 0], some (.int .u64), true⟩),
  (13, ⟨.struct [(0, 9), (1, 12)], 2, 24, [.str [], .int .u64 0], some (.pair .str (.int .u64)), true⟩),
  (14, ⟨.struct [(0, 9), (1, 12)], 2, 24, [.str [], .int .u64 0], some (.pair .str (.int .u64)), true⟩),
  (15, ⟨.ptr 163, 1, 8, [.nilP], none, false⟩),
  (16, ⟨.ptr 166, 1, 8, [.nilP], none, false⟩),
  (17, ⟨.ptr 173, 1, 8, [.nilP], none, false⟩),
  (18, ⟨.struct [(0, 17)], 1, 8, [.nilP], none, false⟩),
  (19, ⟨.struct [(0, 17)], 1, 8, [.nilP], none, false⟩),
  (21, ⟨.int .i32, 1, 4, [.int .i32 0], some (.int .i32), true⟩),
  (22, ⟨.struct [(0, 4), (1, 4), (2, 4), (3, 4), (4, 4), (5, 4), (6, 4), (7, 4), (8, 4), (9, 4), (10, 4), (11, 4), (12, 4), (13, 3), (14, 4), (15, 9), (16, 9)], 17, 64, [.bool false, .bool false, .bool false, .bool false, .bool false, .bool false, .bool false, .bool false, .bool false, .bool false, .bool false, .bool false, .bool false, .int .i64 0, .bool false, .str [], .str []], some (.pair .bool (.pair .bool (.pair .bool (.pair .bool (.pair .bool (.pair .bool (.pair .bool (.pair .bool (.pair .bool (.pair .bool (.pair .bool (.pair .bool (.pair .bool (.pair (.int .i64) (.pair .bool (.pair .str .str)))))))))))))))), true⟩),
  (23, ⟨.struct [(0, 4), (1, 4), (2, 4), (3, 4), (4, 4), (5, 4), (6, 4), (7, 4), (8, 4), (9, 4), (10, 4), (11, 4), (12, 4), (13, 3), (14, 4), (15, 9), (16, 9)], 17, 64, [.bool false, .bool false, .bool false, .bool false, .bool false, .bool false, .bool false, .bool false, .bool false, .bool false, .bool false, .bool false, .bool false, .int .i64 0, .bool false, .str [], .str []], some (.pair .bool (.pair .bool (.pair .bool (.pair .bool (.pair .bool (.pair .bool (.pair .bool (.pair .bool (.pair .bool (.pair .bool (.pair .bool (.pair .bool (.pair .bool (.pair (.int .i64) (.pair .bool (.pair .str .str)))))))))))))))), true⟩),
  (24, ⟨.func, 1, 8, [.nilF], none, false⟩),
  (25, ⟨.func, 1, 8, [.nilF], none, false⟩),
  (26, ⟨.struct [(0, 4), (1, 4), (2, 4), (3, 4), (4, 4), (5, 4), (6, 4), (7, 4), (8, 4), (9, 4), (10, 4), (11, 4), (12, 4), (13, 3), (14, 4), (15, 9), (16, 9)], 17, 64, [.bool false, .bool false, .bool false, .bool false, .bool false, .bool false, .bool false, .bool false, .bool false, .bool false, .bool false, .bool false, .bool false, .int .i64 0, .bool false, .str [], .str []], some (.pair .bool (.pair .bool (.pair .bool (.pair .bool (.pair .bool (.pair .bool (.pair .bool (.pair .bool (.pair .bool (.pair .bool (.pair .bool (.pair .bool (.pair .bool (.pair (.int .i64) (.pair .bool (.pair .str .str)))))))))))))))), true⟩),
  (27, ⟨.func, 1, 8, [.nilF], none, false⟩),
  (28, ⟨.func, 1, 8, [.nilF], none, false⟩),
  (29, ⟨.func, 1, 8, [.nilF], none, false⟩),
  (30, ⟨.func, 1, 8, [.nilF], none, false⟩),
  (31, ⟨.func, 1, 8, [.nilF], none, false⟩),
  (33, ⟨.func, 1, 8, [.nilF], none, false⟩),
  (34, ⟨.func, 1, 8, [.nilF], none, false⟩),
  (35, ⟨.func, 1, 8, [.nilF], none, false⟩),
  (36, ⟨.slice 5, 1, 24, [.nilS], some (.list (.int .u8)), true⟩),
  (37, ⟨.func, 1, 8, [.nilF], none, false⟩),
  (38, ⟨.func, 1, 8, [.nilF], none, false⟩),
  (39, ⟨.func, 1, 8, [.nilF], none, false⟩),
  (40, ⟨.slice 96, 1, 24, [.nilS], some (.list (.pair .str (.pair (.int .i64) (.pair (.int .i64) (.pair (.int .i64) (.pair (.int .i64) (.pair .str (.int .i64)))))))), true⟩),
  (41, ⟨.func, 1, 8, [.nilF], none, false⟩),
  (42, ⟨.func, 1, 8, [.nilF], none, false⟩),
  (43, ⟨.slice 97, 1, 24, [.nilS], some (.list (.pair .str (.pair (.int .i64) (.pair (.int .i64) (.pair (.int .i64) (.pair (.int .i64) (.pair .str (.int .i64)))))))), true⟩),
  (44, ⟨.func, 1, 8, [.nilF], none, false⟩),
  (45, ⟨.func, 1, 8, [.nilF], none, false⟩),
  (46, ⟨.func, 1, 8, [.nilF], none, false⟩),
  (47, ⟨.func, 1, 8, [.nilF], none, false⟩),
  (48, ⟨.func, 1, 8, [.nilF], none, false⟩),
  (49, ⟨.func, 1, 8, [.nilF], none, false⟩),
  (50, ⟨.func, 1, 8, [.nilF], none, false⟩),
  (51, ⟨.struct [(0, 9), (1, 3), (2, 3), (3, 3), (4, 9), (5, 9), (6, 3)], 7, 80, [.str [], .int .i64 0, .int .i64 0, .int .i64 0, .str [], .str [], .int .i64 0], some (.pair .str (.pair (.int .i64) (.pair (.int .i64) (.pair (.int .i64) (.pair .str (.pair .str (.int .i64))))))), true⟩),
  (52, ⟨.struct [(0, 9), (1, 3), (2, 3), (3, 3), (4, 9), (5, 9), (6, 3)], 7, 80, [.str [], .int .i64 0, .int .i64 0, .int .i64 0, .str [], .str [], .int .i64 0], some (.pair .str (.pair (.int .i64) (.pair (.int .i64) (.pair (.int .i64) (.pair .str (.pair .str (.int .i64))))))), true⟩),
  (53, ⟨.struct [(0, 3), (1, 9), (2, 52), (9, 52)], 16, 184, [.int .i64 0, .str [], .str [], .int .i64 0, .int .i64 0, .int .i64 0, .str [], .str [], .int .i64 0, .str [], .int .i64 0, .int .i64 0, .int .i64 0, .str [], .str [], .int .i64 0], some (.pair (.int .i64) (.pair .str (.pair (.pair .str (.pair (.int .i64) (.pair (.int .i64) (.pair (.int .i64) (.pair .str (.pair .str (.int .i64))))))) (.pair .str (.pair (.int .i64) (.pair (.int .i64) (.pair (.int .i64) (.pair .str (.pair .str (.int .i64)))))))))), true⟩),
  (54, ⟨.struct [(0, 3), (1, 9), (2, 52), (9, 52)], 16, 184, [.int .i64 0, .str [], .str [], .int .i64 0, .int .i64 0, .int .i64 0, .str [], .str [], .int .i64 0, .str [], .int .i64 0, .int .i64 0, .int .i64 0, .str [], .str [], .int .i64 0], some (.pair (.int .i64) (.pair .str (.pair (.pair .str (.pair (.int .i64) (.pair (.int .i64) (.pair (.int .i64) (.pair .str (.pair .str (.int .i64))))))) (.pair .str (.pair (.int .i64) (.pair (.int .i64) (.pair (.int .i64) (.pair .str (.pair .str (.int .i64)))))))))), true⟩),
  (55, ⟨.func, 1, 8, [.nilF], none, false⟩),
  (56, ⟨.func, 1, 8, [.nilF], none, false⟩),
  (57, ⟨.struct [(0, 9), (1, 3), (2, 3), (3, 3), (4, 9), (5, 9), (6, 3)], 7, 80, [.str [], .int .i64 0, .int .i64 0, .int .i64 0, .str [], .str [], .int .i64 0], some (.pair .str (.pair (.int .i64) (.pair (.int .i64) (.pair (.int .i64) (.pair .str (.pair .str (.int .i64))))))), true⟩),
  (58, ⟨.struct [(0, 3), (1, 9), (2, 57), (9, 57)], 16, 184, [.int .i64 0, .str [], .str [], .int .i64 0, .int .i64 0, .int .i64 0, .str [], .str [], .int .i64 0, .str [], .int .i64 0, .int .i64 0, .int .i64 0, .str [], .str [], .int .i64 0], some (.pair (.int .i64) (.pair .str (.pair (.pair .str (.pair (.int .i64) (.pair (.int .i64) (.pair (.int .i64) (.pair .str (.pair .str (.int .i64))))))) (.pair .str (.pair (.int .i64) (.pair (.int .i64) (.pair (.int .i64) (.pair .str (.pair .str (.int .i64)))))))))), true⟩),
  (59, ⟨.struct [(0, 3), (1, 9), (2, 57), (9, 57)], 16, 184, [.int .i64 0, .str [], .str [], .int .i64 0, .int .i64 0, .int .i64 0, .str [], .str [], .int .i64 0, .str [], .int .i64 0, .int .i64 0, .int .i64 0, .str [], .str [], .int .i64 0], some (.pair (.int .i64) (.pair .str (.pair (.pair .str (.pair (.int .i64) (.pair (.int .i64) (.pair (.int .i64) (.pair .str (.pair .str (.int .i64))))))) (.pair .str (.pair (.int .i64) (.pair (.int .i64) (.pair (.int .i64) (.pair .str (.pair .str (.int .i64)))))))))), true⟩),
  (60, ⟨.func, 1, 8, [.nilF], none, false⟩),
  (61, ⟨.func, 1, 8, [.nilF], none, false⟩),
  (62, ⟨.slice 54, 1, 24, [.nilS], some (.list (.pair (.int .i64) (.pair .str (.pair (.pair .str (.pair (.int .i64) (.pair (.int .i64) (.pair (.int .i64) (.pair .str (.pair .str (.int .i64))))))) (.pair .str (.pair (.int .i64) (.pair (.int .i64) (.pair (.int .i64) (.pair .str (.pair .str (.int .i64))))))))))), true⟩),
  (63, ⟨.func, 1, 8, [.nilF], none, false⟩),
  (64, ⟨.func, 1, 8, [.nilF], none, false⟩),
  (65, ⟨.slice 59, 1, 24, [.nilS], some (.list (.pair (.int .i64) (.pair .str (.pair (.pair .str (.pair (.int .i64) (.pair (.int .i64) (.pair (.int .i64) (.pair .str (.pair .str (.int .i64))))))) (.pair .str (.pair (.int .i64) (.pair (.int .i64) (.pair (.int .i64) (.pair .str (.pair .str (.int .i64))))))))))), true⟩),
  (66, ⟨.func, 1, 8, [.nilF], none, false⟩),
  (67, ⟨.func, 1, 8, [.nilF], none, false⟩),
  (68, ⟨.func, 1, 8, [.nilF], none, false⟩),
  (69, ⟨.func, 1, 8, [.nilF], none, false⟩),
  (70, ⟨.slice 4, 1, 24, [.nilS], some (.list .bool), true⟩),
  (71, ⟨.slice 9, 1, 24, [.nilS], some (.list .str), true⟩),
  (72, ⟨.slice 76, 1, 24, [.nilS], some (.list (.pair (.int .u8) (.ptr .bool))), true⟩),
  (73, ⟨.func, 1, 8, [.nilF], none, false⟩),
  (74, ⟨.ptr 4, 1, 8, [.nilP], some (.ptr .bool), false⟩),
  (75, ⟨.struct [(0, 5), (1, 74)], 2, 16, [.int .u8 0, .nilP], some (.pair (.int .u8) (.ptr .bool)), false⟩),
  (76, ⟨.struct [(0, 5), (1, 74)], 2, 16, [.int .u8 0, .nilP], some (.pair (.int .u8) (.ptr .bool)), false⟩),
  (77, ⟨.func, 1, 8, [.nilF], none, false⟩),
  (78, ⟨.func, 1, 8, [.nilF], none, false⟩),
  (79, ⟨.func, 1, 8, [.nilF], none, false⟩),
  (80, ⟨.func, 1, 8, [.nilF], none, false⟩),
  (82, ⟨.func, 1, 8, [.nilF], none, false⟩),
  (84, ⟨.func, 1, 8, [.nilF], none, false⟩),
  (85, ⟨.ptr 87, 1, 8, [.nilP], some (.ptr (.pair (.pair .bool (.pair .bool (.pair .bool (.pair .bool (.pair .bool (.pair .bool (.pair .bool (.pair .bool (.pair .bool (.pair .bool (.pair .bool (.pair .bool (.pair .bool (.pair (.int .i64) (.pair .bool (.pair .str .str)))))))))))))))) (.pair (.int .i64) (.pair (.int .i64) .bool)))), false⟩),
  (86, ⟨.struct [(0, 26), (17, 3), (18, 3), (19, 4)], 20, 88, [.bool false, .bool false, .bool false, .bool false, .bool false, .bool false, .bool false, .bool false, .bool false, .bool false, .bool false, .bool false, .bool false, .int .i64 0, .bool false, .str [], .str [], .int .i64 0, .int .i64 0, .bool false], some (.pair (.pair .bool (.pair .bool (.pair .bool (.pair .bool (.pair .bool (.pair .bool (.pair .bool (.pair .bool (.pair .bool (.pair .bool (.pair .bool (.pair .bool (.pair .bool (.pair (.int .i64) (.pair .bool (.pair .str .str)))))))))))))))) (.pair (.int .i64) (.pair (.int .i64) .bool))), true⟩),
  (87, ⟨.struct [(0, 26), (17, 3), (18, 3), (19, 4)], 20, 88, [.bool false, .bool false, .bool false, .bool false, .bool false, .bool false, .bool false, .bool false, .bool false, .bool false, .bool false, .bool false, .bool false, .int .i64 0, .bool false, .str [], .str [], .int .i64 0, .int .i64 0, .bool false], some (.pair (.pair .bool (.pair .bool (.pair .bool (.pair .bool (.pair .bool (.pair .bool (.pair .bool (.pair .bool (.pair .bool (.pair .bool (.pair .bool (.pair .bool (.pair .bool (.pair (.int .i64) (.pair .bool (.pair .str .str)))))))))))))))) (.pair (.int .i64) (.pair (.int .i64) .bool))), true⟩),
  (88, ⟨.func, 1, 8, [.nilF], none, false⟩),
  (89, ⟨.func, 1, 8, [.nilF], none, false⟩),
  (90, ⟨.ptr 129, 1, 8, [.nilP], some (.ptr (.pair (.list (.int .u8)) (.pair (.int .i64) (.int .i64)))), false⟩),
  (91, ⟨.func, 1, 8, [.nilF], none, false⟩),
  (92, ⟨.func, 1, 8, [.nilF], none, false⟩),
  (93, ⟨.func, 1, 8, [.nilF], none, false⟩),
  (94, ⟨.func, 1, 8, [.nilF], none, false⟩),
  (95, ⟨.struct [(0, 9), (1, 3), (2, 3), (3, 3), (4, 3), (5, 9), (6, 3)], 7, 72, [.str [], .int .i64 0, .int .i64 0, .int .i64 0, .int .i64 0, .str [], .int .i64 0], some (.pair .str (.pair (.int .i64) (.pair (.int .i64) (.pair (.int .i64) (.pair (.int .i64) (.pair .str (.int .i64))))))), true⟩),
  (96, ⟨.struct [(0, 9), (1, 3), (2, 3), (3, 3), (4, 3), (5, 9), (6, 3)], 7, 72, [.str [], .int .i64 0, .int .i64 0, .int .i64 0, .int .i64 0, .str [], .int .i64 0], some (.pair .str (.pair (.int .i64) (.pair (.int .i64) (.pair (.int .i64) (.pair (.int .i64) (.pair .str (.int .i64))))))), true⟩),
  (97, ⟨.struct [(0, 9), (1, 3), (2, 3), (3, 3), (4, 3), (5, 9), (6, 3)], 7, 72, [.str [], .int .i64 0, .int .i64 0, .int .i64 0, .int .i64 0, .str [], .int .i64 0], some (.pair .str (.pair (.int .i64) (.pair (.int .i64) (.pair (.int .i64) (.pair (.int .i64) (.pair .str (.int .i64))))))), true⟩),
  (98, ⟨.func, 1, 8, [.nilF], none, false⟩),
  (99, ⟨.func, 1, 8, [.nilF], none, false⟩),
  (100, ⟨.func, 1, 8, [.nilF], none, false⟩),
  (101, ⟨.func, 1, 8, [.nilF], none, false⟩),
  (102, ⟨.func, 1, 8, [.nilF], none, false⟩),
  (103, ⟨.func, 1, 8, [.nilF], none, false⟩),
  (104, ⟨.func, 1, 8, [.nilF], none, false⟩),
  (105, ⟨.func, 1, 8, [.nilF], none, false⟩),
  (106, ⟨.func, 1, 8, [.nilF], none, false⟩),
  (107, ⟨.func, 1, 8, [.nilF], none, false⟩),
  (108, ⟨.func, 1, 8, [.nilF], none, false⟩),
  (109, ⟨.func, 1, 8, [.nilF], none, false⟩),
  (110, ⟨.func, 1, 8, [.nilF], none, false⟩),
  (111, ⟨.func, 1, 8, [.nilF], none, false⟩),
  (112, ⟨.ptr 114, 1, 8, [.nilP], none, false⟩),
  (113, ⟨.struct [(0, 112), (1, 36)], 2, 32, [.nilP, .nilS], none, false⟩),
  (114, ⟨.struct [(0, 112), (1, 36)], 2, 32, [.nilP, .nilS], none, false⟩),
  (118, ⟨.func, 1, 8, [.nilF], none, false⟩),
  (119, ⟨.func, 1, 8, [.nilF], none, false⟩),
  (120, ⟨.func, 1, 8, [.nilF], none, false⟩),
  (121, ⟨.ptr 26, 1, 8, [.nilP], some (.ptr (.pair .bool (.pair .bool (.pair .bool (.pair .bool (.pair .bool (.pair .bool (.pair .bool (.pair .bool (.pair .bool (.pair .bool (.pair .bool (.pair .bool (.pair .bool (.pair (.int .i64) (.pair .bool (.pair .str .str))))))))))))))))), false⟩),
  (122, ⟨.func, 1, 8, [.nilF], none, false⟩),
  (123, ⟨.func, 1, 8, [.nilF], none, false⟩),
  (124, ⟨.func, 1, 8, [.nilF], none, false⟩),
  (125, ⟨.func, 1, 8, [.nilF], none, false⟩),
  (126, ⟨.func, 1, 8, [.nilF], none, false⟩),
  (127, ⟨.slice 3, 1, 24, [.nilS], some (.list (.int .i64)), true⟩),
  (128, ⟨.struct [(0, 36), (1, 3), (2, 3)], 3, 40, [.nilS, .int .i64 0, .int .i64 0], some (.pair (.list (.int .u8)) (.pair (.int .i64) (.int .i64))), true⟩),
  (129, ⟨.struct [(0, 36), (1, 3), (2, 3)], 3, 40, [.nilS, .int .i64 0, .int .i64 0], some (.pair (.list (.int .u8)) (.pair (.int .i64) (.int .i64))), true⟩),
  (130, ⟨.func, 1, 8, [.nilF], none, false⟩),
  (131, ⟨.func, 1, 8, [.nilF], none, false⟩),
  (132, ⟨.func, 1, 8, [.nilF], none, false⟩),
  (133, ⟨.func, 1, 8, [.nilF], none, false⟩),
  (134, ⟨.ptr 5, 1, 8, [.nilP], some (.ptr (.int .u8)), false⟩),
  (135, ⟨.func, 1, 8, [.nilF], none, false⟩),
  (136, ⟨.func, 1, 8, [.nilF], none, false⟩),
  (137, ⟨.func, 1, 8, [.nilF], none, false⟩),
  (138, ⟨.func, 1, 8, [.nilF], none, false⟩),
  (139, ⟨.int .u64, 1, 8, [.int .u64 0], some (.int .u64), true⟩),
  (140, ⟨.func, 1, 8, [.nilF], none, false⟩),
  (142, ⟨.func, 1, 8, [.nilF], none, false⟩),
  (143, ⟨.func, 1, 8, [.nilF], none, false⟩),
  (145, ⟨.func, 1, 8, [.nilF], none, false⟩),
  (146, ⟨.func, 1, 8, [.nilF], none, false⟩),
  (148, ⟨.func, 1, 8, [.nilF], none, false⟩),
  (149, ⟨.func, 1, 8, [.nilF], none, false⟩),
  (150, ⟨.int .u32, 1, 4, [.int .u32 0], some (.int .u32), true⟩),
  (152, ⟨.func, 1, 8, [.nilF], none, false⟩),
  (153, ⟨.int .u64, 1, 8, [.int .u64 0], some (.int .u64), true⟩),
  (155, ⟨.func, 1, 8, [.nilF], none, false⟩),
  (156, ⟨.func, 1, 8, [.nilF], none, false⟩),
  (157, ⟨.array 256 5, 256, 256, [.int .u8 0, .int .u8 0, .int .u8 0, .int .u8 0, .int .u8 0, .int .u8 0, .int .u8 0, .int .u8 0, .int .u8 0, .int .u8 0, .int .u8 0, .int .u8 0, .int .u8 0, .int .u8 0, .int .u8 0, .int .u8 0, .int .u8 0, .int .u8 0, .int .u8 0, .int .u8 0, .int .u8 0, .int .u8 0, .int .u8 0, .int .u8 0, .int .u8 0, .int .u8 0, .int .u8 0, .int .u8 0, .int .u8 0, .int .u8 0, .int .u8 0, .int .u8 0, .int .u8 0, .int .u8 0, .int .u8 0, .int .u8 0, .int .u8 0, .int .u8 0, .int .u8 0, .int .u8 0, .int .u8 0, .int .u8 0, .int .u8 0, .int .u8 0, .int .u8 0, .int .u8 0, .int .u8 0, .int .u8 0, .int .u8 0, .int .u8 0, .int .u8 0, .int .u8 0, .int .u8 0, .int .u8 0, .int .u8 0, .int .u8 0, .int .u8 0, .int .u8 0, .int .u8 0, .int .u8 0, .int .u8 0, .int .u8 0, .int .u8 0, .int .u8 0, .int .u8 0, .int .u8 0, .int .u8 0, .int .u8 0, .int .u8 0, .int .u8 0, .int .u8 0, .int .u8 0, .int .u8 0, .int .u8 0, .int .u8 0, .int .u8 0, .int .u8 0, .int .u8 0, .int .u8 0, .int .u8 0, .int .u8 0, .int .u8 0, .int .u8 0, .int .u8 0, .int .u8 0, .int .u8 0, .int .u8 0, .int .u8 0, .int .u8 0, .int .u8 0, .int .u8 0, .int .u8 0, .int .u8 0, .int .u8 0, .int .u8 0, .int .u8 0, .int .u8 0, .int .u8 0, .int .u8 0, .int .u8 0, .int .u8 0, .int .u8 0, .int .u8 0, .int .u8 0, .int .u8 0, .int .u8 0, .int .u8 0, .int .u8 0, .int .u8 0, .int .u8 0, .int .u8 0, .int .u8 0, .int .u8 0, .int .u8 0, .int .u8 0, .int .u8 0, .int .u8 0, .int .u8 0, .int .u8 0, .int .u8 0, .int .u8 0, .int .u8 0, .int .u8 0, .int .u8 0, .int .u8 0, .int .u8 0, .int .u8 0, .int .u8 0, .int .u8 0, .int .u8 0, .int .u8 0, .int .u8 0, .int .u8 0, .int .u8 0, .int .u8 0, .int .u8 0, .int .u8 0, .int .u8 0, .int .u8 0, .int .u8 0, .int .u8 0, .int .u8 0, .int .u8 0, .int .u8 0, .int .u8 0, .int .u8 0, .int .u8 0, .int .u8 0, .int .u8 0, .int .u8 0, .int .u8 0, .int .u8 0, .int .u8 0, .int .u8 0, .int .u8 0, .int .u8 0, .int .u8 0, .int .u8 0, .int .u8 0, .int .u8 0, .int .u8 0, .int .u8 0, .int .u8 0, .int .u8 0, .int .u8 0, .int .u8 0, .int .u8 0, .int .u8 0, .int .u8 0, .int .u8 0, .int .u8 0, .int .u8 0, .int .u8 0, .int .u8 0, .int .u8 0, .int .u8 0, .int .u8 0, .int .u8 0, .int .u8 0, .int .u8 0, .int .u8 0, .int .u8 0, .int .u8 0, .int .u8 0, .int .u8 0, .int .u8 0, .int .u8 0, .int .u8 0, .int .u8 0, .int .u8 0, .int .u8 0, .int .u8 0, .int .u8 0, .int .u8 0, .int .u8 0, .int .u8 0, .int .u8 0, .int .u8 0, .int .u8 0, .int .u8 0, .int .u8 0, .int .u8 0, .int .u8 0, .int .u8 0, .int .u8 0, .int .u8 0, .int .u8 0, .int .u8 0, .int .u8 0, .int .u8 0, .int .u8 0, .int .u8 0, .int .u8 0, .int .u8 0, .int .u8 0, .int .u8 0, .int .u8 0, .int .u8 0, .int .u8 0, .int .u8 0, .int .u8 0, .int .u8 0, .int .u8 0, .int .u8 0, .int .u8 0, .int .u8 0, .int .u8 0, .int .u8 0, .int .u8 0, .int .u8 0, .int .u8 0, .int .u8 0, .int .u8 0, .int .u8 0, .int .u8 0, .int .u8 0, .int .u8 0, .int .u8 0, .int .u8 0, .int .u8 0, .int .u8 0, .int .u8 0, .int .u8 0, .int .u8 0, .int .u8 0, .int .u8 0, .int .u8 0, .int .u8 0, .int .u8 0, .int .u8 0, .int .u8 0, .int .u8 0, .int .u8 0, .int .u8 0, .int .u8 0, .int .u8 0], some (.arr 256 (.int .u8)), true⟩),
  (158, ⟨.struct [(0, 5), (1, 5)], 2, 2, [.int .u8 0, .int .u8 0], some (.pair (.int .u8) (.int .u8)), true⟩),
  (159, ⟨.struct [(0, 5), (1, 5)], 2, 2, [.int .u8 0, .int .u8 0], some (.pair (.int .u8) (.int .u8)), true⟩),
  (160, ⟨.array 16 159, 32, 32, [.int .u8 0, .int .u8 0, .int .u8 0, .int .u8 0, .int .u8 0, .int .u8 0, .int .u8 0, .int .u8 0, .int .u8 0, .int .u8 0, .int .u8 0, .int .u8 0, .int .u8 0, .int .u8 0, .int .u8 0, .int .u8 0, .int .u8 0, .int .u8 0, .int .u8 0, .int .u8 0, .int .u8 0, .int .u8 0, .int .u8 0, .int .u8 0, .int .u8 0, .int .u8 0, .int .u8 0, .int .u8 0, .int .u8 0, .int .u8 0, .int .u8 0, .int .u8 0], some (.arr 16 (.pair (.int .u8) (.int .u8))), true⟩),
  (161, ⟨.func, 1, 8, [.nilF], none, false⟩),
  (162, ⟨.struct [(0, 17), (1, 17), (2, 17), (3, 9)], 4, 40, [.nilP, .nilP, .nilP, .str []], none, false⟩),
  (163, ⟨.struct [(0, 17), (1, 17), (2, 17), (3, 9)], 4, 40, [.nilP, .nilP, .nilP, .str []], none, false⟩),
  (164, ⟨.array 0 16, 0, 0, [], none, false⟩),
  (165, ⟨.struct [(0, 164)], 0, 0, [], none, false⟩),
  (166, ⟨.struct [(0, 164)], 0, 0, [], none, false⟩),
  (167, ⟨.int .u8, 1, 1, [.int .u8 0], some (.int .u8), true⟩),
  (168, ⟨.int .u8, 1, 1, [.int .u8 0], some (.int .u8), true⟩),
  (169, ⟨.func, 1, 8, [.nilF], none, false⟩),
  (170, ⟨.int .i32, 1, 4, [.int .i32 0], some (.int .i32), true⟩),
  (171, ⟨.int .i32, 1, 4, [.int .i32 0], some (.int .i32), true⟩),
  (172, ⟨.struct [(0, 12), (1, 12), (2, 150), (3, 167), (4, 5), (5, 5), (6, 168), (7, 169), (8, 134), (9, 170), (10, 171)], 11, 48, [.int .u64 0, .int .u64 0, .int .u32 0, .int .u8 0, .int .u8 0, .int .u8 0, .int .u8 0, .nilF, .nilP, .int .i32 0, .int .i32 0], none, false⟩),
  (173, ⟨.struct [(0, 12), (1, 12), (2, 150), (3, 167), (4, 5), (5, 5), (6, 168), (7, 169), (8, 134), (9, 170), (10, 171)], 11, 48, [.int .u64 0, .int .u64 0, .int .u32 0, .int .u8 0, .int .u8 0, .int .u8 0, .int .u8 0, .nilF, .nilP, .int .i32 0, .int .i32 0], none, false⟩),
  (174, ⟨.func, 1, 8, [.nilF], none, false⟩)]
def cx : Cx := ⟨tget tys, fun g => none⟩
noncomputable abbrev P : Program := Go.Proofs.Tryd.prog
theorem tok : TOk P cx := TOk.of_list (by kernel_rfl)
theorem mix : P.follows .mixedOrders = true := by kernel_rfl
def codeOf (f : Func) : Code := f.body.getD .skip
def no (n : Nat) : List (List Ghost × Ann) := List.replicate n ([], .no)

-- laws.szEntry
noncomputable def fm_laws_szEntry : FM := ⟨.v (.one (.ty (.int .i64))), [], ⟨69, [.str (.pair .str (.pair (.int .i64) (.pair (.int .i64) (.pair (.int .i64) (.pair (.int .i64) (.pair .str (.int .i64))))))), .one (.ty (.int .i64))], [], fun x => m_laws_szEntry x.1.1 x.1.2.1⟩⟩
noncomputable def an_laws_szEntry : An := .seq (.reg [([], .key 4), ([], .no)]) (.seq (.reg (no 6)) (.seq (.seq (.reg (no 2)) (.cond (.seq (.reg (no 1)) (.leaf)) (.leaf))) (.seq (.reg (no 6)) (.seq (.seq (.reg (no 2)) (.cond (.seq (.reg (no 1)) (.leaf)) (.leaf))) (.seq (.reg (no 2)) (.leaf))))))
theorem v_laws_szEntry : fm_laws_szEntry.Valid P cx := FX.of_ex tok mix (fn := Go.Proofs.Tryd.f69) (c := codeOf Go.Proofs.Tryd.f69) (an := an_laws_szEntry) (ms := []) (by kernel_rfl) (by kernel_rfl) (by kernel_rfl) (by kernel_rfl) (by kernel_rfl) (by kernel_rfl)
  (fun x => by kernel_rfl) (by kernel_rfl) trivial
-- laws.szEntryS
noncomputable def fm_laws_szEntryS : FM := ⟨.v (.one (.ty (.int .i64))), [], ⟨27, [.one (.ty (.list (.pair .str (.pair (.int .i64) (.pair (.int .i64) (.pair (.int .i64) (.pair (.int .i64) (.pair .str (.int .i64))))))))), .one (.ty (.int .i64))], [], fun x => m_laws_szEntryS x.1.1 x.1.2.1⟩⟩
noncomputable def an_laws_szEntryS : An := .seq (.reg (no 1)) (.seq (.reg (no 5)) (.seq (.seq (.reg (no 2)) (.cond (.seq (.reg (no 1)) (.leaf)) (.leaf))) (.seq (.seq (.reg (no 1)) (.join true ⟨[(1, .one (.ty (.int .i64)))], []⟩ (.block (.loop ⟨[(0, .one (.ty (.list (.pair .str (.pair (.int .i64) (.pair (.int .i64) (.pair (.int .i64) (.pair (.int .i64) (.pair .str (.int .i64)))))))))), (1, .one (.ty (.int .i64))), (5, .one (.ty (.int .i64)))], []⟩ (fun s => s.1.1.length + s.1.2.1.toNat + s.1.2.2.1.toNat + 300) (.seq (.seq (.reg (no 4)) (.cond (.leaf) (.leaf))) (.seq (.block (.seq (.reg [([], .no), ([], .no), ([], .no), ([], .no), ([], .no), ([], (FM.ann fm_laws_szEntry [] [] [])), ([], .no)]) (.seq (.reg (no 2)) (.cond (.seq (.reg (no 1)) (.leaf)) (.leaf))))) (.reg (no 3)))))))) (.seq (.reg (no 2)) (.leaf)))))
theorem v_laws_szEntryS : fm_laws_szEntryS.Valid P cx := FX.of_ex tok mix (fn := Go.Proofs.Tryd.f27) (c := codeOf Go.Proofs.Tryd.f27) (an := an_laws_szEntryS) (ms := [fm_laws_szEntry]) (by kernel_rfl) (by kernel_rfl) (by kernel_rfl) (by kernel_rfl) (by kernel_rfl) (by kernel_rfl)
  (fun x => by kernel_rfl) (by kernel_rfl) ⟨v_laws_szEntry, trivial⟩
-- laws.toEntry
noncomputable def fm_laws_toEntry : FM := ⟨.v (.str (.pair .str (.pair (.int .i64) (.pair (.int .i64) (.pair (.int .i64) (.pair (.int .i64) (.pair .str (.int .i64)))))))), [], ⟨71, [.str (.pair .str (.pair (.int .i64) (.pair (.int .i64) (.pair (.int .i64) (.pair (.int .i64) (.pair .str (.int .i64)))))))], [], fun x => m_laws_toEntry x.1.1⟩⟩
noncomputable def an_laws_toEntry : An := .seq (.reg [([], .key 4), ([], .key 5)]) (.seq (.reg [([], .key 6)]) (.seq (.reg (no 4)) (.seq (.reg (no 4)) (.seq (.reg (no 4)) (.seq (.reg (no 4)) (.seq (.reg (no 4)) (.seq (.reg (no 4)) (.seq (.reg (no 4)) (.seq (.reg (no 2)) (.leaf))))))))))
theorem v_laws_toEntry : fm_laws_toEntry.Valid P cx := FX.of_ex tok mix (fn := Go.Proofs.Tryd.f71) (c := codeOf Go.Proofs.Tryd.f71) (an := an_laws_toEntry) (ms := []) (by kernel_rfl) (by kernel_rfl) (by kernel_rfl) (by kernel_rfl) (by kernel_rfl) (by kernel_rfl)
  (fun x => by kernel_rfl) (by kernel_rfl) trivial
-- laws.toEntryS
noncomputable def fm_laws_toEntryS : FM := ⟨.v (.one (.ty (.list (.pair .str (.pair (.int .i64) (.pair (.int .i64) (.pair (.int .i64) (.pair (.int .i64) (.pair .str (.int .i64)))))))))), [], ⟨29, [.one (.ty (.list (.pair .str (.pair (.int .i64) (.pair (.int .i64) (.pair (.int .i64) (.pair (.int .i64) (.pair .str (.int .i64)))))))))], [], fun x => m_laws_toEntryS x.1.1⟩⟩
noncomputable def an_laws_toEntryS : An := .seq (.reg (no 1)) (.seq (.reg [([], .no), ([], .no), ([], .key 4), ([], .no)]) (.seq (.seq (.reg (no 1)) (.join false ⟨[(3, .one (.con (.rs 4)))], [(4, .lst (.pair .str (.pair (.int .i64) (.pair (.int .i64) (.pair (.int .i64) (.pair (.int .i64) (.pair .str (.int .i64))))))))]⟩ (.block (.loop ⟨[(0, .one (.ty (.list (.pair .str (.pair (.int .i64) (.pair (.int .i64) (.pair (.int .i64) (.pair (.int .i64) (.pair .str (.int .i64)))))))))), (3, .one (.con (.rs 4))), (4, .one (.ty (.int .i64)))], [(4, .lst (.pair .str (.pair (.int .i64) (.pair (.int .i64) (.pair (.int .i64) (.pair (.int .i64) (.pair .str (.int .i64))))))))]⟩ (fun s => s.1.1.length + s.1.2.2.1.toNat + s.2.1.length + 300) (.seq (.seq (.reg (no 4)) (.cond (.leaf) (.leaf))) (.seq (.block (.reg [([], .no), ([], .no), ([], .no), ([], .no), ([], .no), ([], .no), ([], (FM.ann fm_laws_toEntry [] [] [])), ([], .no), ([], .no)])) (.reg (no 3)))))))) (.seq (.reg (no 2)) (.gh [.freeze 4] .leaf))))
theorem v_laws_toEntryS : fm_laws_toEntryS.Valid P cx := FX.of_ex tok mix (fn := Go.Proofs.Tryd.f29) (c := codeOf Go.Proofs.Tryd.f29) (an := an_laws_toEntryS) (ms := [fm_laws_toEntry]) (by kernel_rfl) (by kernel_rfl) (by kernel_rfl) (by kernel_rfl) (by kernel_rfl) (by kernel_rfl)
  (fun x => by kernel_rfl) (by kernel_rfl) ⟨v_laws_toEntry, trivial⟩
-- spec.l02Names
noncomputable def fm_spec_l02Names : FM := ⟨.v (.one (.ty (.list .str))), [], ⟨90, [.one (.ty .str)], [], fun x => m_spec_l02Names x.1.1⟩⟩
noncomputable def an_spec_l02Names : An := .seq (.reg (no 1)) (.seq (.reg [([], .key 4), ([], .no)]) (.seq (.reg (no 1)) (.seq (.seq (.reg (no 1)) (.join false ⟨[(0, .one (.ty .str)), (3, .one (.con (.rs 4))), (4, .one (.ty (.int .i64)))], [(4, .lst .str)]⟩ (.block (.loop ⟨[(0, .one (.ty .str)), (3, .one (.con (.rs 4))), (4, .one (.ty (.int .i64))), (5, .one (.ty (.int .i64)))], [(4, .lst .str)]⟩ (fun s => s.1.1.length + s.1.2.2.1.toNat + s.1.2.2.2.1.toNat + s.2.1.length + 300) (.seq (.seq (.reg (no 4)) (.cond (.leaf) (.leaf))) (.seq (.block (.seq (.reg (no 4)) (.join false ⟨[(0, .one (.ty .str)), (3, .one (.con (.rs 4))), (4, .one (.ty (.int .i64))), (5, .one (.ty (.int .i64)))], [(4, .lst .str)]⟩ (.cond (.seq (.reg [([], .no), ([], .no), ([], .no), ([], .no), ([], .no), ([], .key 5), ([], .no), ([], .no)]) (.reg (no 3))) (.leaf))))) (.reg (no 3)))))))) (.seq (.reg [([], .no), ([], .no), ([], .no), ([], .no), ([], .key 6), ([], .no), ([], .no)]) (.gh [.freeze 4] .leaf)))))
theorem v_spec_l02Names : fm_spec_l02Names.Valid P cx := FX.of_ex tok mix (fn := Go.Proofs.Tryd.f90) (c := codeOf Go.Proofs.Tryd.f90) (an := an_spec_l02Names) (ms := []) (by kernel_rfl) (by kernel_rfl) (by kernel_rfl) (by kernel_rfl) (by kernel_rfl) (by kernel_rfl)
  (fun x => by kernel_rfl) (by kernel_rfl) trivial
-- spec.l01In
noncomputable def fm_spec_l01In : FM := ⟨.v (.one (.ty .bool)), [], ⟨49, [.one (.ty (.int .i64)), .one (.ty (.int .i64)), .one (.ty (.int .i64))], [], fun x => m_spec_l01In x.1.1 x.1.2.1 x.1.2.2.1⟩⟩
noncomputable def an_spec_l01In : An := .seq (.reg (no 1)) (.seq (.join false ⟨[(6, .one (.ty .bool))], []⟩ (.reg (no 9))) (.leaf))
theorem v_spec_l01In : fm_spec_l01In.Valid P cx := FX.of_ex tok mix (fn := Go.Proofs.Tryd.f49) (c := codeOf Go.Proofs.Tryd.f49) (an := an_spec_l01In) (ms := []) (by kernel_rfl) (by kernel_rfl) (by kernel_rfl) (by kernel_rfl) (by kernel_rfl) (by kernel_rfl)
  (fun x => by kernel_rfl) (by kernel_rfl) trivial
-- spec.NameOk
noncomputable def fm_spec_NameOk : FM := ⟨.v (.one (.ty .bool)), [], ⟨89, [.one (.ty .str)], [], fun x => m_spec_NameOk x.1.1⟩⟩
noncomputable def an_spec_NameOk : An := .seq (.reg (no 1)) (.seq (.seq (.join false ⟨[(0, .one (.ty .str)), (16, .one (.ty .bool))], []⟩ (.reg [([], .no), ([], .no), ([], (FM.ann fm_spec_l01In [] [] [])), ([], .no), ([], .no), ([], .no), ([], .no), ([], .no), ([], .no), ([], .no), ([], .no), ([], .no)])) (.cond (.seq (.reg (no 1)) (.leaf)) (.leaf))) (.seq (.seq (.reg (no 1)) (.join true ⟨[], []⟩ (.block (.loop ⟨[(0, .one (.ty .str)), (3, .one (.ty (.int .i64)))], []⟩ (fun s => s.1.1.length + s.1.2.1.toNat + 300) (.seq (.seq (.reg (no 4)) (.cond (.leaf) (.leaf))) (.seq (.block (.seq (.reg (no 5)) (.seq (.join false ⟨[(0, .one (.ty .str)), (3, .one (.ty (.int .i64))), (57, .one (.ty .bool))], []⟩ (.reg [([], .no), ([], (FM.ann fm_spec_l01In [] [] [])), ([], .no), ([], .no), ([], .no), ([], (FM.ann fm_spec_l01In [] [] [])), ([], .no), ([], .no), ([], .no), ([], .no), ([], (FM.ann fm_spec_l01In [] [] [])), ([], .no), ([], .no), ([], .no), ([], .no), ([], .no), ([], .no), ([], .no), ([], .no), ([], .no), ([], .no), ([], .no), ([], .no), ([], .no), ([], .no), ([], .no), ([], .no), ([], .no), ([], .no), ([], .no), ([], .no)])) (.cond (.seq (.reg (no 1)) (.leaf)) (.leaf))))) (.reg (no 3)))))))) (.seq (.reg (no 1)) (.leaf))))
theorem v_spec_NameOk : fm_spec_NameOk.Valid P cx := FX.of_ex tok mix (fn := Go.Proofs.Tryd.f89) (c := codeOf Go.Proofs.Tryd.f89) (an := an_spec_NameOk) (ms := [fm_spec_l01In, fm_spec_l01In, fm_spec_l01In, fm_spec_l01In]) (by kernel_rfl) (by kernel_rfl) (by kernel_rfl) (by kernel_rfl) (by kernel_rfl) (by kernel_rfl)
  (fun x => by kernel_rfl) (by kernel_rfl) ⟨v_spec_l01In, v_spec_l01In, v_spec_l01In, v_spec_l01In, trivial⟩
-- spec.PathOk
noncomputable def fm_spec_PathOk : FM := ⟨.v (.one (.ty .bool)), [], ⟨51, [.one (.ty .str)], [], fun x => m_spec_PathOk x.1.1⟩⟩
noncomputable def an_spec_PathOk : An := .seq (.reg (no 1)) (.seq (.seq (.reg (no 3)) (.cond (.seq (.reg (no 1)) (.leaf)) (.leaf))) (.seq (.reg [([], .no), ([], (FM.ann fm_spec_l02Names [] [] [])), ([], .no)]) (.seq (.seq (.reg (no 1)) (.join true ⟨[(3, .one (.ty (.list .str)))], []⟩ (.block (.loop ⟨[(3, .one (.ty (.list .str))), (4, .one (.ty (.int .i64)))], []⟩ (fun s => s.1.1.length + s.1.2.1.toNat + 300) (.seq (.seq (.reg (no 4)) (.cond (.leaf) (.leaf))) (.seq (.block (.seq (.reg [([], .no), ([], .no), ([], .no), ([], .no), ([], (FM.ann fm_spec_NameOk [] [] [])), ([], .no)]) (.cond (.seq (.reg (no 1)) (.leaf)) (.leaf)))) (.reg (no 3)))))))) (.seq (.reg (no 4)) (.leaf)))))
theorem v_spec_PathOk : fm_spec_PathOk.Valid P cx := FX.of_ex tok mix (fn := Go.Proofs.Tryd.f51) (c := codeOf Go.Proofs.Tryd.f51) (an := an_spec_PathOk) (ms := [fm_spec_l02Names, fm_spec_NameOk]) (by kernel_rfl) (by kernel_rfl) (by kernel_rfl) (by kernel_rfl) (by kernel_rfl) (by kernel_rfl)
  (fun x => by kernel_rfl) (by kernel_rfl) ⟨v_spec_l02Names, v_spec_NameOk, trivial⟩
-- spec.NodeOk
noncomputable def fm_spec_NodeOk : FM := ⟨.v (.one (.ty .bool)), [], ⟨70, [.str (.pair .str (.pair (.int .i64) (.pair (.int .i64) (.pair (.int .i64) (.pair .str (.pair .str (.int .i64)))))))], [], fun x => m_spec_NodeOk x.1.1⟩⟩
noncomputable def an_spec_NodeOk : An := .seq (.reg [([], .key 4), ([], .no)]) (.seq (.seq (.join false ⟨[(1, .one (.con (.ref 4 0))), (19, .one (.ty .bool))], [(4, .box [.ty .str, .ty (.int .i64), .ty (.int .i64), .ty (.int .i64), .ty .str, .ty .str, .ty (.int .i64)])]⟩ (.reg [([], .no), ([], .no), ([], (FM.ann fm_spec_PathOk [] [] [])), ([], .no), ([], .no), ([], .no), ([], .no), ([], (FM.ann fm_spec_l01In [] [] [])), ([], .no), ([], .no), ([], .no), ([], .no), ([], .no), ([], (FM.ann fm_spec_l01In [] [] [])), ([], .no), ([], .no)])) (.cond (.seq (.reg (no 1)) (.leaf)) (.leaf))) (.seq (.seq (.reg (no 2)) (.block (.seq (.reg (no 2)) (.cond (.seq (.join false ⟨[(2, .one (.ty .bool))], []⟩ (.reg (no 14))) (.leaf)) (.seq (.reg (no 2)) (.cond (.seq (.join false ⟨[(2, .one (.ty .bool))], []⟩ (.reg [([], .no), ([], .no), ([], .no), ([], .no), ([], .no), ([], .no), ([], .no), ([], .no), ([], .no), ([], .no), ([], .no), ([], .no), ([], (FM.ann fm_spec_l01In [] [] [])), ([], .no), ([], .no)])) (.leaf)) (.seq (.reg (no 2)) (.cond (.seq (.seq (.join false ⟨[(1, .one (.con (.ref 4 0))), (74, .one (.ty .bool))], [(4, .box [.ty .str, .ty (.int .i64), .ty (.int .i64), .ty (.int .i64), .ty .str, .ty .str, .ty (.int .i64)])]⟩ (.reg [([], .no), ([], .no), ([], .no), ([], .no), ([], .no), ([], .no), ([], .no), ([], .no), ([], .no), ([], .no), ([], .no), ([], .no), ([], .no), ([], .no), ([], .no), ([], .no), ([], .no), ([], (FM.ann fm_spec_l01In [] [] [])), ([], .no), ([], .no)])) (.cond (.seq (.reg (no 1)) (.leaf)) (.leaf))) (.seq (.seq (.reg (no 1)) (.join true ⟨[], []⟩ (.block (.loop ⟨[(1, .one (.con (.ref 4 0))), (3, .one (.ty (.int .i64)))], [(4, .box [.ty .str, .ty (.int .i64), .ty (.int .i64), .ty (.int .i64), .ty .str, .ty .str, .ty (.int .i64)])]⟩ (fun s => s.1.2.1.toNat + s.2.1.1.length + s.2.1.2.1.toNat + s.2.1.2.2.1.toNat + s.2.1.2.2.2.1.toNat + s.2.1.2.2.2.2.1.length + s.2.1.2.2.2.2.2.1.length + s.2.1.2.2.2.2.2.2.1.toNat + 300) (.seq (.seq (.reg (no 5)) (.cond (.leaf) (.leaf))) (.seq (.block (.seq (.reg (no 5)) (.cond (.seq (.reg (no 1)) (.leaf)) (.leaf)))) (.reg (no 3)))))))) (.seq (.reg (no 1)) (.leaf)))) (.leaf))))))))) (.seq (.reg (no 1)) (.leaf))))
theorem v_spec_NodeOk : fm_spec_NodeOk.Valid P cx := FX.of_ex tok mix (fn := Go.Proofs.Tryd.f70) (c := codeOf Go.Proofs.Tryd.f70) (an := an_spec_NodeOk) (ms := [fm_spec_PathOk, fm_spec_l01In, fm_spec_l01In, fm_spec_l01In, fm_spec_l01In]) (by kernel_rfl) (by kernel_rfl) (by kernel_rfl) (by kernel_rfl) (by kernel_rfl) (by kernel_rfl)
  (fun x => by kernel_rfl) (by kernel_rfl) ⟨v_spec_PathOk, v_spec_l01In, v_spec_l01In, v_spec_l01In, v_spec_l01In, trivial⟩
-- spec.EntriesOk
noncomputable def fm_spec_EntriesOk : FM := ⟨.v (.one (.ty .bool)), [], ⟨28, [.one (.ty (.list (.pair .str (.pair (.int .i64) (.pair (.int .i64) (.pair (.int .i64) (.pair (.int .i64) (.pair .str (.int .i64)))))))))], [], fun x => m_spec_EntriesOk x.1.1⟩⟩
noncomputable def an_spec_EntriesOk : An := .seq (.reg (no 1)) (.seq (.seq (.reg (no 3)) (.cond (.seq (.reg (no 1)) (.leaf)) (.leaf))) (.seq (.seq (.reg (no 1)) (.join true ⟨[], []⟩ (.block (.loop ⟨[(0, .one (.ty (.list (.pair .str (.pair (.int .i64) (.pair (.int .i64) (.pair (.int .i64) (.pair (.int .i64) (.pair .str (.int .i64)))))))))), (3, .one (.ty (.int .i64)))], []⟩ (fun s => s.1.1.length + s.1.2.1.toNat + 300) (.seq (.seq (.reg (no 4)) (.cond (.leaf) (.leaf))) (.seq (.block (.seq (.reg [([], .no), ([], .no), ([], .no), ([], .no), ([], .key 4), ([], .no)]) (.seq (.reg [([], .no), ([], .no), ([], .no), ([], .no), ([], .no), ([], .no), ([], .no), ([], .no), ([], .no), ([], .no), ([], .no), ([], .no), ([], .no), ([], .key 5), ([], .no)]) (.seq (.join false ⟨[(0, .one (.ty (.list (.pair .str (.pair (.int .i64) (.pair (.int .i64) (.pair (.int .i64) (.pair (.int .i64) (.pair .str (.int .i64)))))))))), (3, .one (.ty (.int .i64))), (65, .one (.ty .bool))], []⟩ (.reg [([], .no), ([], (FM.ann fm_spec_NodeOk [] [] [])), ([], .no), ([], .no), ([], .no), ([], .no), ([], (FM.ann fm_spec_l01In [] [] [])), ([], .no), ([], .no), ([], .no), ([], .no), ([], .no), ([], .no), ([], .no), ([], .no), ([], .no), ([], .no), ([], .no), ([], .no), ([], .no), ([], .no), ([], .no), ([], .no), ([], .no), ([], .no), ([], .no), ([], .no), ([], .no), ([], .no), ([], .no), ([], .no), ([], .no), ([], .no), ([], .no)])) (.cond (.seq (.reg (no 1)) (.leaf)) (.leaf)))))) (.reg (no 3)))))))) (.seq (.reg (no 1)) (.leaf))))
theorem v_spec_EntriesOk : fm_spec_EntriesOk.Valid P cx := FX.of_ex tok mix (fn := Go.Proofs.Tryd.f28) (c := codeOf Go.Proofs.Tryd.f28) (an := an_spec_EntriesOk) (ms := [fm_spec_NodeOk, fm_spec_l01In]) (by kernel_rfl) (by kernel_rfl) (by kernel_rfl) (by kernel_rfl) (by kernel_rfl) (by kernel_rfl)
  (fun x => by kernel_rfl) (by kernel_rfl) ⟨v_spec_NodeOk, v_spec_l01In, trivial⟩
-- internal/bytealg.CountString
noncomputable def fm_bytealg_CountString : FM := ⟨.v (.one (.ty (.int .i64))), [], ⟨124, [.one (.ty .str), .one (.ty (.int .u8))], [], fun x => m_bytealg_CountString x.1.1 x.1.2.1⟩⟩
theorem v_bytealg_CountString : fm_bytealg_CountString.Valid P cx := native_str_byte (fn := Go.Proofs.Tryd.f124) (by kernel_rfl) (by kernel_rfl) (by kernel_rfl) (by kernel_rfl) (by kernel_rfl) (fun s c => (Go.Lib.countByte s c : Nat)) (fun s c w => Go.Lib.run_countString s c w)
-- strings.Count
noncomputable def fm_strings_Count : FM := ⟨.v (.one (.ty (.int .i64))), [], ⟨111, [.one (.ty .str), .one (.con (.str [47]))], [], fun x => m_strings_Count x.1.1⟩⟩
noncomputable def an_strings_Count : An := .seq (.reg (no 1)) (.seq (.seq (.reg (no 3)) (.cond .leaf (.leaf))) (.seq (.seq (.reg (no 3)) (.cond (.seq (.reg [([], .no), ([], .no), ([], .no), ([], (FM.ann fm_bytealg_CountString [] [] [])), ([], .no)]) (.leaf)) .leaf)) .leaf))
theorem v_strings_Count : fm_strings_Count.Valid P cx := FX.of_ex tok mix (fn := Go.Proofs.Tryd.f111) (c := codeOf Go.Proofs.Tryd.f111) (an := an_strings_Count) (ms := [fm_bytealg_CountString]) (by kernel_rfl) (by kernel_rfl) (by kernel_rfl) (by kernel_rfl) (by kernel_rfl) (by kernel_rfl)
  (fun x => by kernel_rfl) (by kernel_rfl) ⟨v_bytealg_CountString, trivial⟩
-- internal/bytealg.IndexByteString
noncomputable def fm_bytealg_IndexByteString : FM := ⟨.v (.one (.ty (.int .i64))), [], ⟨134, [.one (.ty .str), .one (.ty (.int .u8))], [], fun x => m_bytealg_IndexByteString x.1.1 x.1.2.1⟩⟩
theorem v_bytealg_IndexByteString : fm_bytealg_IndexByteString.Valid P cx := native_str_byte (fn := Go.Proofs.Tryd.f134) (by kernel_rfl) (by kernel_rfl) (by kernel_rfl) (by kernel_rfl) (by kernel_rfl) Go.Lib.indexByte (fun s c w => Go.Lib.run_indexByteString s c w)
-- internal/stringslite.IndexByte
noncomputable def fm_stringslite_IndexByte : FM := ⟨.v (.one (.ty (.int .i64))), [], ⟨130, [.one (.ty .str), .one (.ty (.int .u8))], [], fun x => m_stringslite_IndexByte x.1.1 x.1.2.1⟩⟩
noncomputable def an_stringslite_IndexByte : An := .seq (.reg (no 1)) (.seq (.reg [([], .no), ([], .no), ([], (FM.ann fm_bytealg_IndexByteString [] [] [])), ([], .no)]) (.leaf))
theorem v_stringslite_IndexByte : fm_stringslite_IndexByte.Valid P cx := FX.of_ex tok mix (fn := Go.Proofs.Tryd.f130) (c := codeOf Go.Proofs.Tryd.f130) (an := an_stringslite_IndexByte) (ms := [fm_bytealg_IndexByteString]) (by kernel_rfl) (by kernel_rfl) (by kernel_rfl) (by kernel_rfl) (by kernel_rfl) (by kernel_rfl)
  (fun x => by kernel_rfl) (by kernel_rfl) ⟨v_bytealg_IndexByteString, trivial⟩
-- internal/stringslite.Index
noncomputable def fm_stringslite_Index : FM := ⟨.v (.one (.ty (.int .i64))), [], ⟨125, [.one (.ty .str), .one (.con (.str [47]))], [], fun x => m_stringslite_Index x.1.1⟩⟩
noncomputable def an_stringslite_Index : An := .seq (.reg (no 1)) (.seq (.reg (no 3)) (.seq (.block (.seq (.join false ⟨[(0, .one (.ty .str)), (1, .one (.con (.str [47]))), (5, .one (.con (.int .i64 (1)))), (16, .one (.ty .bool))], []⟩ (.reg (no 8))) (.cond (.seq (.reg (no 1)) (.leaf)) (.seq (.reg (no 3)) (.cond (.seq (.reg [([], .no), ([], .no), ([], .no), ([], (FM.ann fm_stringslite_IndexByte [] [] [])), ([], .no)]) (.leaf)) .leaf))))) .leaf))
theorem v_stringslite_Index : fm_stringslite_Index.Valid P cx := FX.of_ex tok mix (fn := Go.Proofs.Tryd.f125) (c := codeOf Go.Proofs.Tryd.f125) (an := an_stringslite_Index) (ms := [fm_stringslite_IndexByte]) (by kernel_rfl) (by kernel_rfl) (by kernel_rfl) (by kernel_rfl) (by kernel_rfl) (by kernel_rfl)
  (fun x => by kernel_rfl) (by kernel_rfl) ⟨v_stringslite_IndexByte, trivial⟩
-- strings.Index
noncomputable def fm_strings_Index : FM := ⟨.v (.one (.ty (.int .i64))), [], ⟨112, [.one (.ty .str), .one (.con (.str [47]))], [], fun x => m_strings_Index x.1.1⟩⟩
noncomputable def an_strings_Index : An := .seq (.reg (no 1)) (.seq (.reg [([], .no), ([], .no), ([], (FM.ann fm_stringslite_Index [] [] [])), ([], .no)]) (.leaf))
theorem v_strings_Index : fm_strings_Index.Valid P cx := FX.of_ex tok mix (fn := Go.Proofs.Tryd.f112) (c := codeOf Go.Proofs.Tryd.f112) (an := an_strings_Index) (ms := [fm_stringslite_Index]) (by kernel_rfl) (by kernel_rfl) (by kernel_rfl) (by kernel_rfl) (by kernel_rfl) (by kernel_rfl)
  (fun x => by kernel_rfl) (by kernel_rfl) ⟨v_stringslite_Index, trivial⟩
-- strings.genSplit
noncomputable def fm_strings_genSplit : FM := ⟨.v (.one (.ty (.list .str))), [], ⟨94, [.one (.ty .str), .one (.con (.str [47])), .one (.con (.int .i64 (0))), .one (.con (.int .i64 (-1)))], [], fun x => m_strings_genSplit x.1.1⟩⟩
noncomputable def an_strings_genSplit : An := .seq (.reg (no 1)) (.seq (.seq (.reg (no 2)) (.cond .leaf (.leaf))) (.seq (.seq (.reg (no 2)) (.cond .leaf (.leaf))) (.seq (.seq (.reg (no 2)) (.cond (.reg [([], .no), ([], .no), ([], (FM.ann fm_strings_Count [] [] [])), ([], .no), ([], .no)]) .leaf)) (.seq (.reg (no 6)) (.seq (.reg [([], .no), ([], .key 4), ([], .no)]) (.seq (.reg (no 3)) (.seq (.reg (no 1)) (.seq (.join false ⟨[(0, .one (.ty .str)), (9, .one (.con (.rs 4))), (10, .one (.ty (.int .i64)))], [(4, .lst .str)]⟩ (.block (.loop ⟨[(0, .one (.ty .str)), (1, .one (.con (.str [47]))), (2, .one (.con (.int .i64 (0)))), (3, .one (.ty (.int .i64))), (9, .one (.con (.rs 4))), (10, .one (.ty (.int .i64)))], [(4, .lst .str)]⟩ (fun s => s.1.1.length + s.1.2.2.2.1.toNat + s.1.2.2.2.2.2.1.toNat + s.2.1.length + 300) (.seq (.seq (.reg (no 3)) (.cond (.leaf) (.leaf))) (.block (.seq (.reg [([], .no), ([], .no), ([], (FM.ann fm_strings_Index [] [] [])), ([], .no)]) (.seq (.seq (.reg (no 2)) (.cond (.leaf) (.leaf))) (.seq (.reg (no 9)) (.seq (.reg (no 7)) (.reg (no 3))))))))))) (.seq (.reg (no 5)) (.seq (.reg [([], .no), ([], .no), ([], .no), ([.freeze 4], .no), ([], .no)]) (.leaf)))))))))))
theorem v_strings_genSplit : fm_strings_genSplit.Valid P cx := FX.of_ex tok mix (fn := Go.Proofs.Tryd.f94) (c := codeOf Go.Proofs.Tryd.f94) (an := an_strings_genSplit) (ms := [fm_strings_Count, fm_strings_Index]) (by kernel_rfl) (by kernel_rfl) (by kernel_rfl) (by kernel_rfl) (by kernel_rfl) (by kernel_rfl)
  (fun x => by kernel_rfl) (by kernel_rfl) ⟨v_strings_Count, v_strings_Index, trivial⟩
-- strings.Split
noncomputable def fm_strings_Split : FM := ⟨.v (.one (.ty (.list .str))), [], ⟨62, [.one (.ty .str), .one (.con (.str [47]))], [], fun x => m_strings_Split x.1.1⟩⟩
noncomputable def an_strings_Split : An := .seq (.reg (no 1)) (.seq (.reg [([], .no), ([], .no), ([], (FM.ann fm_strings_genSplit [] [] [])), ([], .no)]) (.leaf))
theorem v_strings_Split : fm_strings_Split.Valid P cx := FX.of_ex tok mix (fn := Go.Proofs.Tryd.f62) (c := codeOf Go.Proofs.Tryd.f62) (an := an_strings_Split) (ms := [fm_strings_genSplit]) (by kernel_rfl) (by kernel_rfl) (by kernel_rfl) (by kernel_rfl) (by kernel_rfl) (by kernel_rfl)
  (fun x => by kernel_rfl) (by kernel_rfl) ⟨v_strings_genSplit, trivial⟩
-- impl.within
noncomputable def fm_impl_within : FM := ⟨.v (.one (.ty .bool)), [], ⟨52, [.one (.ty (.int .i64)), .one (.ty (.int .i64)), .one (.ty (.int .i64))], [], fun x => m_impl_within x.1.1 x.1.2.1 x.1.2.2.1⟩⟩
noncomputable def an_impl_within : An := .seq (.reg (no 1)) (.seq (.join false ⟨[(6, .one (.ty .bool))], []⟩ (.reg (no 9))) (.leaf))
theorem v_impl_within : fm_impl_within.Valid P cx := FX.of_ex tok mix (fn := Go.Proofs.Tryd.f52) (c := codeOf Go.Proofs.Tryd.f52) (an := an_impl_within) (ms := []) (by kernel_rfl) (by kernel_rfl) (by kernel_rfl) (by kernel_rfl) (by kernel_rfl) (by kernel_rfl)
  (fun x => by kernel_rfl) (by kernel_rfl) trivial
-- impl.NameOk
noncomputable def fm_impl_NameOk : FM := ⟨.v (.one (.ty .bool)), [], ⟨91, [.one (.ty .str)], [], fun x => m_impl_NameOk x.1.1⟩⟩
noncomputable def an_impl_NameOk : An := .seq (.reg (no 1)) (.seq (.seq (.reg (no 3)) (.join true ⟨[(0, .one (.ty .str))], []⟩ (.block (.loop ⟨[(0, .one (.ty .str)), (6, .one (.ty (.int .i64))), (7, .one (.ty (.int .i64)))], []⟩ (fun s => s.1.1.length + s.1.2.1.toNat + s.1.2.2.1.toNat + 300) (.seq (.reg (no 1)) (.seq (.cond (.leaf) (.leaf)) (.seq (.block (.seq (.reg (no 2)) (.seq (.reg (no 4)) (.seq (.join false ⟨[(0, .one (.ty .str)), (6, .one (.ty (.int .i64))), (7, .one (.ty (.int .i64))), (47, .one (.ty .bool))], []⟩ (.reg (no 35))) (.cond (.seq (.reg (no 1)) (.leaf)) (.leaf)))))) (.reg (no 2))))))))) (.seq (.join false ⟨[(2, .one (.ty .bool))], []⟩ (.reg [([], .no), ([], .no), ([], (FM.ann fm_impl_within [] [] [])), ([], .no), ([], .no), ([], .no), ([], .no), ([], .no), ([], .no), ([], .no), ([], .no), ([], .no)])) (.leaf)))
theorem v_impl_NameOk : fm_impl_NameOk.Valid P cx := FX.of_ex tok mix (fn := Go.Proofs.Tryd.f91) (c := codeOf Go.Proofs.Tryd.f91) (an := an_impl_NameOk) (ms := [fm_impl_within]) (by kernel_rfl) (by kernel_rfl) (by kernel_rfl) (by kernel_rfl) (by kernel_rfl) (by kernel_rfl)
  (fun x => by kernel_rfl) (by kernel_rfl) ⟨v_impl_within, trivial⟩
-- impl.Names
noncomputable def fm_impl_Names : FM := ⟨.v (.one (.ty (.list .str))), [], ⟨92, [.one (.ty .str)], [], fun x => m_impl_Names x.1.1⟩⟩
noncomputable def an_impl_Names : An := .seq (.reg (no 1)) (.seq (.seq (.reg (no 3)) (.cond (.seq (.reg (no 1)) (.leaf)) (.leaf))) (.seq (.reg [([], .no), ([], (FM.ann fm_strings_Split [] [] [])), ([], .no)]) (.seq (.seq (.reg (no 3)) (.cond (.seq (.reg (no 1)) (.leaf)) (.leaf))) (.seq (.seq (.reg (no 3)) (.join true ⟨[(3, .one (.ty (.list .str)))], []⟩ (.block (.loop ⟨[(3, .one (.ty (.list .str))), (14, .one (.ty (.list .str))), (15, .one (.ty (.int .i64))), (16, .one (.ty (.int .i64)))], []⟩ (fun s => s.1.1.length + s.1.2.1.length + s.1.2.2.1.toNat + s.1.2.2.2.1.toNat + 300) (.seq (.reg (no 1)) (.seq (.cond (.leaf) (.leaf)) (.seq (.block (.seq (.reg (no 3)) (.seq (.reg [([], .no), ([], (FM.ann fm_impl_NameOk [] [] [])), ([], .no)]) (.cond (.seq (.reg (no 1)) (.leaf)) (.leaf))))) (.reg (no 2))))))))) (.seq (.reg (no 2)) (.leaf))))))
theorem v_impl_Names : fm_impl_Names.Valid P cx := FX.of_ex tok mix (fn := Go.Proofs.Tryd.f92) (c := codeOf Go.Proofs.Tryd.f92) (an := an_impl_Names) (ms := [fm_strings_Split, fm_impl_NameOk]) (by kernel_rfl) (by kernel_rfl) (by kernel_rfl) (by kernel_rfl) (by kernel_rfl) (by kernel_rfl)
  (fun x => by kernel_rfl) (by kernel_rfl) ⟨v_strings_Split, v_impl_NameOk, trivial⟩
-- impl.PathOk
noncomputable def fm_impl_PathOk : FM := ⟨.v (.one (.ty .bool)), [], ⟨54, [.one (.ty .str)], [], fun x => m_impl_PathOk x.1.1⟩⟩
noncomputable def an_impl_PathOk : An := .seq (.reg (no 1)) (.seq (.reg [([], .no), ([], (FM.ann fm_impl_Names [] [] [])), ([], .no), ([], .no), ([], .no)]) (.leaf))
theorem v_impl_PathOk : fm_impl_PathOk.Valid P cx := FX.of_ex tok mix (fn := Go.Proofs.Tryd.f54) (c := codeOf Go.Proofs.Tryd.f54) (an := an_impl_PathOk) (ms := [fm_impl_Names]) (by kernel_rfl) (by kernel_rfl) (by kernel_rfl) (by kernel_rfl) (by kernel_rfl) (by kernel_rfl)
  (fun x => by kernel_rfl) (by kernel_rfl) ⟨v_impl_Names, trivial⟩
-- internal/stringslite.Index
noncomputable def fm_stringslite_Index_2 : FM := ⟨.v (.one (.ty (.int .i64))), [], ⟨125, [.one (.ty .str), .one (.con (.str [10]))], [], fun x => m_stringslite_Index_2 x.1.1⟩⟩
noncomputable def an_stringslite_Index_2 : An := .seq (.reg (no 1)) (.seq (.reg (no 3)) (.seq (.block (.seq (.join false ⟨[(0, .one (.ty .str)), (1, .one (.con (.str [10]))), (5, .one (.con (.int .i64 (1)))), (16, .one (.ty .bool))], []⟩ (.reg (no 8))) (.cond (.seq (.reg (no 1)) (.leaf)) (.seq (.reg (no 3)) (.cond (.seq (.reg [([], .no), ([], .no), ([], .no), ([], (FM.ann fm_stringslite_IndexByte [] [] [])), ([], .no)]) (.leaf)) .leaf))))) .leaf))
theorem v_stringslite_Index_2 : fm_stringslite_Index_2.Valid P cx := FX.of_ex tok mix (fn := Go.Proofs.Tryd.f125) (c := codeOf Go.Proofs.Tryd.f125) (an := an_stringslite_Index_2) (ms := [fm_stringslite_IndexByte]) (by kernel_rfl) (by kernel_rfl) (by kernel_rfl) (by kernel_rfl) (by kernel_rfl) (by kernel_rfl)
  (fun x => by kernel_rfl) (by kernel_rfl) ⟨v_stringslite_IndexByte, trivial⟩
-- strings.Index
noncomputable def fm_strings_Index_2 : FM := ⟨.v (.one (.ty (.int .i64))), [], ⟨112, [.one (.ty .str), .one (.con (.str [10]))], [], fun x => m_strings_Index_2 x.1.1⟩⟩
noncomputable def an_strings_Index_2 : An := .seq (.reg (no 1)) (.seq (.reg [([], .no), ([], .no), ([], (FM.ann fm_stringslite_Index_2 [] [] [])), ([], .no)]) (.leaf))
theorem v_strings_Index_2 : fm_strings_Index_2.Valid P cx := FX.of_ex tok mix (fn := Go.Proofs.Tryd.f112) (c := codeOf Go.Proofs.Tryd.f112) (an := an_strings_Index_2) (ms := [fm_stringslite_Index_2]) (by kernel_rfl) (by kernel_rfl) (by kernel_rfl) (by kernel_rfl) (by kernel_rfl) (by kernel_rfl)
  (fun x => by kernel_rfl) (by kernel_rfl) ⟨v_stringslite_Index_2, trivial⟩
-- strings.Contains
noncomputable def fm_strings_Contains : FM := ⟨.v (.one (.ty .bool)), [], ⟨104, [.one (.ty .str), .one (.con (.str [10]))], [], fun x => m_strings_Contains x.1.1⟩⟩
noncomputable def an_strings_Contains : An := .seq (.reg (no 1)) (.seq (.reg [([], .no), ([], .no), ([], (FM.ann fm_strings_Index_2 [] [] [])), ([], .no), ([], .no)]) (.leaf))
theorem v_strings_Contains : fm_strings_Contains.Valid P cx := FX.of_ex tok mix (fn := Go.Proofs.Tryd.f104) (c := codeOf Go.Proofs.Tryd.f104) (an := an_strings_Contains) (ms := [fm_strings_Index_2]) (by kernel_rfl) (by kernel_rfl) (by kernel_rfl) (by kernel_rfl) (by kernel_rfl) (by kernel_rfl)
  (fun x => by kernel_rfl) (by kernel_rfl) ⟨v_strings_Index_2, trivial⟩
-- impl.NodeOk
noncomputable def fm_impl_NodeOk : FM := ⟨.v (.one (.ty .bool)), [], ⟨82, [.str (.pair .str (.pair (.int .i64) (.pair (.int .i64) (.pair (.int .i64) (.pair .str (.pair .str (.int .i64)))))))], [], fun x => m_impl_NodeOk x.1.1⟩⟩
noncomputable def an_impl_NodeOk : An := .seq (.reg [([], .key 4), ([], .no)]) (.seq (.seq (.join false ⟨[(1, .one (.con (.ref 4 0))), (18, .one (.ty .bool))], [(4, .box [.ty .str, .ty (.int .i64), .ty (.int .i64), .ty (.int .i64), .ty .str, .ty .str, .ty (.int .i64)])]⟩ (.reg [([], .no), ([], .no), ([], (FM.ann fm_impl_PathOk [] [] [])), ([], .no), ([], .no), ([], .no), ([], .no), ([], (FM.ann fm_impl_within [] [] [])), ([], .no), ([], .no), ([], .no), ([], .no), ([], .no), ([], (FM.ann fm_impl_within [] [] [])), ([], .no), ([], .no)])) (.cond (.seq (.reg (no 1)) (.leaf)) (.leaf))) (.seq (.seq (.reg (no 2)) (.block (.seq (.reg (no 2)) (.cond (.seq (.join false ⟨[(2, .one (.ty .bool))], []⟩ (.reg (no 14))) (.leaf)) (.seq (.reg (no 2)) (.cond (.seq (.join false ⟨[(2, .one (.ty .bool))], []⟩ (.reg [([], .no), ([], .no), ([], .no), ([], .no), ([], .no), ([], .no), ([], .no), ([], .no), ([], .no), ([], .no), ([], .no), ([], .no), ([], (FM.ann fm_impl_within [] [] [])), ([], .no), ([], .no)])) (.leaf)) (.seq (.reg (no 2)) (.cond (.seq (.join false ⟨[(2, .one (.ty .bool))], []⟩ (.reg [([], .no), ([], .no), ([], .no), ([], .no), ([], .no), ([], .no), ([], .no), ([], .no), ([], .no), ([], .no), ([], .no), ([], .no), ([], .no), ([], .no), ([], .no), ([], .no), ([], .no), ([], (FM.ann fm_impl_within [] [] [])), ([], .no), ([], .no), ([], .no), ([], .no), ([], (FM.ann fm_strings_Contains [] [] [])), ([], .no), ([], .no), ([], .no)])) (.leaf)) (.leaf))))))))) (.seq (.reg (no 1)) (.leaf))))
theorem v_impl_NodeOk : fm_impl_NodeOk.Valid P cx := FX.of_ex tok mix (fn := Go.Proofs.Tryd.f82) (c := codeOf Go.Proofs.Tryd.f82) (an := an_impl_NodeOk) (ms := [fm_impl_PathOk, fm_impl_within, fm_impl_within, fm_impl_within, fm_impl_within, fm_strings_Contains]) (by kernel_rfl) (by kernel_rfl) (by kernel_rfl) (by kernel_rfl) (by kernel_rfl) (by kernel_rfl)
  (fun x => by kernel_rfl) (by kernel_rfl) ⟨v_impl_PathOk, v_impl_within, v_impl_within, v_impl_within, v_impl_within, v_strings_Contains, trivial⟩
-- impl.isEntry
noncomputable def fm_impl_isEntry : FM := ⟨.v (.one (.ty .bool)), [], ⟨72, [.str (.pair .str (.pair (.int .i64) (.pair (.int .i64) (.pair (.int .i64) (.pair (.int .i64) (.pair .str (.int .i64)))))))], [], fun x => m_impl_isEntry x.1.1⟩⟩
noncomputable def an_impl_isEntry : An := .seq (.reg [([], .key 4), ([], .no)]) (.seq (.reg [([], .no), ([], .no), ([], .no), ([], .no), ([], .no), ([], .no), ([], .no), ([], .no), ([], .no), ([], .no), ([], .no), ([], .no), ([], .no), ([], .key 5), ([], .no)]) (.seq (.join false ⟨[(2, .one (.ty .bool))], []⟩ (.reg [([], .no), ([], (FM.ann fm_impl_NodeOk [] [] [])), ([], .no), ([], .no), ([], .no), ([], (FM.ann fm_impl_within [] [] [])), ([], .no), ([], .no), ([], .no), ([], .no), ([], .no), ([], .no), ([], .no), ([], .no), ([], .no), ([], .no), ([], .no), ([], .no)])) (.leaf)))
theorem v_impl_isEntry : fm_impl_isEntry.Valid P cx := FX.of_ex tok mix (fn := Go.Proofs.Tryd.f72) (c := codeOf Go.Proofs.Tryd.f72) (an := an_impl_isEntry) (ms := [fm_impl_NodeOk, fm_impl_within]) (by kernel_rfl) (by kernel_rfl) (by kernel_rfl) (by kernel_rfl) (by kernel_rfl) (by kernel_rfl)
  (fun x => by kernel_rfl) (by kernel_rfl) ⟨v_impl_NodeOk, v_impl_within, trivial⟩
-- impl.EntriesOk
noncomputable def fm_impl_EntriesOk : FM := ⟨.v (.one (.ty .bool)), [], ⟨30, [.one (.ty (.list (.pair .str (.pair (.int .i64) (.pair (.int .i64) (.pair (.int .i64) (.pair (.int .i64) (.pair .str (.int .i64)))))))))], [], fun x => m_impl_EntriesOk x.1.1⟩⟩
noncomputable def an_impl_EntriesOk : An := .seq (.reg (no 1)) (.seq (.seq (.reg (no 3)) (.cond (.seq (.reg (no 1)) (.leaf)) (.leaf))) (.seq (.seq (.reg (no 3)) (.join true ⟨[], []⟩ (.block (.loop ⟨[(0, .one (.ty (.list (.pair .str (.pair (.int .i64) (.pair (.int .i64) (.pair (.int .i64) (.pair (.int .i64) (.pair .str (.int .i64)))))))))), (8, .one (.ty (.list (.pair .str (.pair (.int .i64) (.pair (.int .i64) (.pair (.int .i64) (.pair (.int .i64) (.pair .str (.int .i64)))))))))), (9, .one (.ty (.int .i64))), (10, .one (.ty (.int .i64)))], []⟩ (fun s => s.1.1.length + s.1.2.1.length + s.1.2.2.1.toNat + s.1.2.2.2.1.toNat + 300) (.seq (.reg (no 1)) (.seq (.cond (.leaf) (.leaf)) (.seq (.block (.seq (.reg [([], .no), ([], .no), ([], .no), ([], .key 4), ([], .no), ([], .no)]) (.seq (.join false ⟨[(0, .one (.ty (.list (.pair .str (.pair (.int .i64) (.pair (.int .i64) (.pair (.int .i64) (.pair (.int .i64) (.pair .str (.int .i64)))))))))), (8, .one (.ty (.list (.pair .str (.pair (.int .i64) (.pair (.int .i64) (.pair (.int .i64) (.pair (.int .i64) (.pair .str (.int .i64)))))))))), (9, .one (.ty (.int .i64))), (10, .one (.ty (.int .i64))), (32, .one (.ty .bool))], []⟩ (.reg [([], .no), ([], (FM.ann fm_impl_isEntry [] [] [])), ([], .no), ([], .no), ([], .no), ([], .no), ([], .no), ([], .no), ([], .no), ([], .no), ([], .no), ([], .no), ([], .no), ([], .no), ([], .no), ([], .no), ([], .no), ([], .no)])) (.cond (.seq (.reg (no 1)) (.leaf)) (.leaf))))) (.reg (no 2))))))))) (.seq (.reg (no 1)) (.leaf))))
theorem v_impl_EntriesOk : fm_impl_EntriesOk.Valid P cx := FX.of_ex tok mix (fn := Go.Proofs.Tryd.f30) (c := codeOf Go.Proofs.Tryd.f30) (an := an_impl_EntriesOk) (ms := [fm_impl_isEntry]) (by kernel_rfl) (by kernel_rfl) (by kernel_rfl) (by kernel_rfl) (by kernel_rfl) (by kernel_rfl)
  (fun x => by kernel_rfl) (by kernel_rfl) ⟨v_impl_isEntry, trivial⟩
-- laws.eqEntry
noncomputable def fm_laws_eqEntry : FM := ⟨.v (.one (.ty .bool)), [], ⟨73, [.str (.pair .str (.pair (.int .i64) (.pair (.int .i64) (.pair (.int .i64) (.pair (.int .i64) (.pair .str (.int .i64))))))), .str (.pair .str (.pair (.int .i64) (.pair (.int .i64) (.pair (.int .i64) (.pair (.int .i64) (.pair .str (.int .i64)))))))], [], fun x => m_laws_eqEntry x.1.1 x.1.2.1⟩⟩
noncomputable def an_laws_eqEntry : An := .seq (.reg [([], .key 4), ([], .key 5), ([], .no)]) (.seq (.seq (.reg (no 5)) (.cond (.seq (.reg (no 1)) (.leaf)) (.leaf))) (.seq (.seq (.reg (no 5)) (.cond (.seq (.reg (no 1)) (.leaf)) (.leaf))) (.seq (.seq (.reg (no 5)) (.cond (.seq (.reg (no 1)) (.leaf)) (.leaf))) (.seq (.seq (.reg (no 5)) (.cond (.seq (.reg (no 1)) (.leaf)) (.leaf))) (.seq (.seq (.reg (no 5)) (.cond (.seq (.reg (no 1)) (.leaf)) (.leaf))) (.seq (.seq (.reg (no 5)) (.cond (.seq (.reg (no 1)) (.leaf)) (.leaf))) (.seq (.seq (.reg (no 5)) (.cond (.seq (.reg (no 1)) (.leaf)) (.leaf))) (.seq (.reg (no 1)) (.leaf)))))))))
theorem v_laws_eqEntry : fm_laws_eqEntry.Valid P cx := FX.of_ex tok mix (fn := Go.Proofs.Tryd.f73) (c := codeOf Go.Proofs.Tryd.f73) (an := an_laws_eqEntry) (ms := []) (by kernel_rfl) (by kernel_rfl) (by kernel_rfl) (by kernel_rfl) (by kernel_rfl) (by kernel_rfl)
  (fun x => by kernel_rfl) (by kernel_rfl) trivial
-- laws.eqEntryS
noncomputable def fm_laws_eqEntryS : FM := ⟨.v (.one (.ty .bool)), [], ⟨31, [.one (.ty (.list (.pair .str (.pair (.int .i64) (.pair (.int .i64) (.pair (.int .i64) (.pair (.int .i64) (.pair .str (.int .i64))))))))), .one (.ty (.list (.pair .str (.pair (.int .i64) (.pair (.int .i64) (.pair (.int .i64) (.pair (.int .i64) (.pair .str (.int .i64)))))))))], [], fun x => m_laws_eqEntryS x.1.1 x.1.2.1⟩⟩
noncomputable def an_laws_eqEntryS : An := .seq (.reg (no 1)) (.seq (.seq (.reg (no 5)) (.cond (.seq (.reg (no 1)) (.leaf)) (.leaf))) (.seq (.seq (.reg (no 1)) (.join true ⟨[], []⟩ (.block (.loop ⟨[(0, .one (.ty (.list (.pair .str (.pair (.int .i64) (.pair (.int .i64) (.pair (.int .i64) (.pair (.int .i64) (.pair .str (.int .i64)))))))))), (1, .one (.ty (.list (.pair .str (.pair (.int .i64) (.pair (.int .i64) (.pair (.int .i64) (.pair (.int .i64) (.pair .str (.int .i64)))))))))), (5, .one (.ty (.int .i64)))], []⟩ (fun s => s.1.1.length + s.1.2.1.length + s.1.2.2.1.toNat + 300) (.seq (.seq (.reg (no 4)) (.cond (.leaf) (.leaf))) (.seq (.block (.seq (.reg [([], .no), ([], .no), ([], .no), ([], .no), ([], .no), ([], .no), ([], .no), ([], .no), ([], (FM.ann fm_laws_eqEntry [] [] [])), ([], .no)]) (.cond (.seq (.reg (no 1)) (.leaf)) (.leaf)))) (.reg (no 3)))))))) (.seq (.reg (no 1)) (.leaf))))
theorem v_laws_eqEntryS : fm_laws_eqEntryS.Valid P cx := FX.of_ex tok mix (fn := Go.Proofs.Tryd.f31) (c := codeOf Go.Proofs.Tryd.f31) (an := an_laws_eqEntryS) (ms := [fm_laws_eqEntry]) (by kernel_rfl) (by kernel_rfl) (by kernel_rfl) (by kernel_rfl) (by kernel_rfl) (by kernel_rfl)
  (fun x => by kernel_rfl) (by kernel_rfl) ⟨v_laws_eqEntry, trivial⟩
-- laws.FnExactEntriesOk
noncomputable def fm_laws_FnExactEntriesOk : FM := ⟨.v (.one (.ty .bool)), [], ⟨8, [.one (.ty (.list (.pair .str (.pair (.int .i64) (.pair (.int .i64) (.pair (.int .i64) (.pair (.int .i64) (.pair .str (.int .i64)))))))))], [], fun x => m_laws_FnExactEntriesOk x.1.1⟩⟩
noncomputable def an_laws_FnExactEntriesOk : An := .seq (.reg (no 1)) (.seq (.reg (no 1)) (.seq (.reg [([], .no), ([], .no), ([], (FM.ann fm_laws_szEntryS [] [] [])), ([], .no)]) (.seq (.seq (.reg (no 2)) (.cond (.seq (.reg (no 1)) (.leaf)) (.leaf))) (.seq (.reg [([], .no), ([], (FM.ann fm_laws_toEntryS [] [] [])), ([], (FM.ann fm_spec_EntriesOk [] [] [])), ([], .no)]) (.seq (.reg [([], .no), ([], (FM.ann fm_laws_toEntryS [] [] [])), ([], .no)]) (.seq (.reg [([], .no), ([], (FM.ann fm_impl_EntriesOk [] [] [])), ([], .no)]) (.seq (.seq (.reg (no 3)) (.cond (.seq (.reg (no 1)) (.leaf)) (.leaf))) (.seq (.seq (.reg [([], .no), ([], .no), ([], (FM.ann fm_laws_toEntryS [] [] [])), ([], (FM.ann fm_laws_eqEntryS [] [] [])), ([], .no)]) (.cond (.seq (.reg (no 1)) (.leaf)) (.leaf))) (.seq (.reg (no 1)) (.leaf))))))))))
theorem v_laws_FnExactEntriesOk : fm_laws_FnExactEntriesOk.Valid P cx := FX.of_ex tok mix (fn := Go.Proofs.Tryd.f8) (c := codeOf Go.Proofs.Tryd.f8) (an := an_laws_FnExactEntriesOk) (ms := [fm_laws_szEntryS, fm_laws_toEntryS, fm_spec_EntriesOk, fm_laws_toEntryS, fm_impl_EntriesOk, fm_laws_toEntryS, fm_laws_eqEntryS]) (by kernel_rfl) (by kernel_rfl) (by kernel_rfl) (by kernel_rfl) (by kernel_rfl) (by kernel_rfl)
  (fun x => by kernel_rfl) (by kernel_rfl) ⟨v_laws_szEntryS, v_laws_toEntryS, v_spec_EntriesOk, v_laws_toEntryS, v_impl_EntriesOk, v_laws_toEntryS, v_laws_eqEntryS, trivial⟩
end Go.AM.YtkbaoeklchdioaaDoor
