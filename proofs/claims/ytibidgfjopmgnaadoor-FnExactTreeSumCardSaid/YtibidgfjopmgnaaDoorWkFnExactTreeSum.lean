/- The walk: each function does what its model says. -/
import Derived.Test.YtibidgfjopmgnaaDoorMoFnExactTreeSum
import Derived.Test.YtibidgfjopmgnaaDoorProg
import Derived.KernelRfl
import Derived.Test.YtibidgfjopmgnaaDoorLyFnExactTreeSum
set_option linter.unusedVariables false
set_option maxRecDepth 100000
namespace Go.AM.YtibidgfjopmgnaaDoor
open Go Go.AM
def tys : List (Nat × TInf) := [
  (1, ⟨.func, 1, 8, [.nilF], none, false, false⟩),
  (2, ⟨.int .i64, 1, 8, [.int .i64 0], some (.int .i64), true, false⟩),
  (3, ⟨.int .i64, 1, 8, [.int .i64 0], some (.int .i64), true, false⟩),
  (4, ⟨.bool, 1, 1, [.bool false], some .bool, true, false⟩),
  (5, ⟨.int .u8, 1, 1, [.int .u8 0], some (.int .u8), true, false⟩),
  (6, ⟨.int .u8, 1, 1, [.int .u8 0], some (.int .u8), true, false⟩),
  (7, ⟨.struct [(0, 2), (1, 3), (2, 4), (3, 6)], 4, 24, [.int .i64 0, .int .i64 0, .bool false, .int .u8 0], some (.pair (.int .i64) (.pair (.int .i64) (.pair .bool (.int .u8)))), true, false⟩),
  (8, ⟨.struct [(0, 2), (1, 3), (2, 4), (3, 6)], 4, 24, [.int .i64 0, .int .i64 0, .bool false, .int .u8 0], some (.pair (.int .i64) (.pair (.int .i64) (.pair .bool (.int .u8)))), true, false⟩),
  (9, ⟨.str, 1, 16, [.str []], some .str, true, false⟩),
  (10, ⟨.str, 1, 16, [.str []], some .str, true, false⟩),
  (11, ⟨.str, 1, 16, [.str []], some .str, true, false⟩),
  (12, ⟨.int .u64, 1, 8, [.int .u64 0], some (.int .u64), true, false⟩),
  (13, ⟨.struct [(0, 9), (1, 12)], 2, 24, [.str [], .int .u64 0], some (.pair .str (.int .u64)), true, false⟩),
  (14, ⟨.struct [(0, 9), (1, 12)], 2, 24, [.str [], .int .u64 0], some (.pair .str (.int .u64)), true, false⟩),
  (15, ⟨.ptr 158, 1, 8, [.nilP], none, false, false⟩),
  (16, ⟨.ptr 161, 1, 8, [.nilP], none, false, false⟩),
  (17, ⟨.ptr 168, 1, 8, [.nilP], none, false, false⟩),
  (18, ⟨.struct [(0, 17)], 1, 8, [.nilP], none, false, false⟩),
  (19, ⟨.struct [(0, 17)], 1, 8, [.nilP], none, false, false⟩),
  (21, ⟨.int .i32, 1, 4, [.int .i32 0], some (.int .i32), true, false⟩),
  (22, ⟨.slice 41, 1, 24, [.nilS], some (.list (.pair .str (.pair (.int .i64) (.pair (.int .i64) (.pair (.int .i64) (.pair .str (.pair .str (.int .i64)))))))), true, false⟩),
  (23, ⟨.func, 1, 8, [.nilF], none, false, false⟩),
  (24, ⟨.func, 1, 8, [.nilF], none, false, false⟩),
  (25, ⟨.slice 44, 1, 24, [.nilS], some (.list (.pair .str (.pair (.int .i64) (.pair (.int .i64) (.pair (.int .i64) (.pair .str (.pair .str (.int .i64)))))))), true, false⟩),
  (26, ⟨.func, 1, 8, [.nilF], none, false, false⟩),
  (27, ⟨.func, 1, 8, [.nilF], none, false, false⟩),
  (28, ⟨.func, 1, 8, [.nilF], none, false, false⟩),
  (30, ⟨.func, 1, 8, [.nilF], none, false, false⟩),
  (31, ⟨.func, 1, 8, [.nilF], none, false, false⟩),
  (32, ⟨.struct [(0, 4), (1, 4), (2, 4), (3, 4), (4, 4), (5, 4), (6, 4), (7, 4), (8, 4), (9, 4), (10, 4), (11, 4), (12, 4), (13, 3), (14, 4), (15, 9), (16, 9)], 17, 64, [.bool false, .bool false, .bool false, .bool false, .bool false, .bool false, .bool false, .bool false, .bool false, .bool false, .bool false, .bool false, .bool false, .int .i64 0, .bool false, .str [], .str []], some (.pair .bool (.pair .bool (.pair .bool (.pair .bool (.pair .bool (.pair .bool (.pair .bool (.pair .bool (.pair .bool (.pair .bool (.pair .bool (.pair .bool (.pair .bool (.pair (.int .i64) (.pair .bool (.pair .str .str)))))))))))))))), true, true⟩),
  (33, ⟨.struct [(0, 4), (1, 4), (2, 4), (3, 4), (4, 4), (5, 4), (6, 4), (7, 4), (8, 4), (9, 4), (10, 4), (11, 4), (12, 4), (13, 3), (14, 4), (15, 9), (16, 9)], 17, 64, [.bool false, .bool false, .bool false, .bool false, .bool false, .bool false, .bool false, .bool false, .bool false, .bool false, .bool false, .bool false, .bool false, .int .i64 0, .bool false, .str [], .str []], some (.pair .bool (.pair .bool (.pair .bool (.pair .bool (.pair .bool (.pair .bool (.pair .bool (.pair .bool (.pair .bool (.pair .bool (.pair .bool (.pair .bool (.pair .bool (.pair (.int .i64) (.pair .bool (.pair .str .str)))))))))))))))), true, true⟩),
  (34, ⟨.func, 1, 8, [.nilF], none, false, false⟩),
  (36, ⟨.func, 1, 8, [.nilF], none, false, false⟩),
  (37, ⟨.struct [(0, 4), (1, 4), (2, 4), (3, 4), (4, 4), (5, 4), (6, 4), (7, 4), (8, 4), (9, 4), (10, 4), (11, 4), (12, 4), (13, 3), (14, 4), (15, 9), (16, 9)], 17, 64, [.bool false, .bool false, .bool false, .bool false, .bool false, .bool false, .bool false, .bool false, .bool false, .bool false, .bool false, .bool false, .bool false, .int .i64 0, .bool false, .str [], .str []], some (.pair .bool (.pair .bool (.pair .bool (.pair .bool (.pair .bool (.pair .bool (.pair .bool (.pair .bool (.pair .bool (.pair .bool (.pair .bool (.pair .bool (.pair .bool (.pair (.int .i64) (.pair .bool (.pair .str .str)))))))))))))))), true, true⟩),
  (38, ⟨.func, 1, 8, [.nilF], none, false, false⟩),
  (39, ⟨.func, 1, 8, [.nilF], none, false, false⟩),
  (40, ⟨.struct [(0, 9), (1, 3), (2, 3), (3, 3), (4, 9), (5, 9), (6, 3)], 7, 80, [.str [], .int .i64 0, .int .i64 0, .int .i64 0, .str [], .str [], .int .i64 0], some (.pair .str (.pair (.int .i64) (.pair (.int .i64) (.pair (.int .i64) (.pair .str (.pair .str (.int .i64))))))), true, true⟩),
  (41, ⟨.struct [(0, 9), (1, 3), (2, 3), (3, 3), (4, 9), (5, 9), (6, 3)], 7, 80, [.str [], .int .i64 0, .int .i64 0, .int .i64 0, .str [], .str [], .int .i64 0], some (.pair .str (.pair (.int .i64) (.pair (.int .i64) (.pair (.int .i64) (.pair .str (.pair .str (.int .i64))))))), true, true⟩),
  (42, ⟨.func, 1, 8, [.nilF], none, false, false⟩),
  (43, ⟨.func, 1, 8, [.nilF], none, false, false⟩),
  (44, ⟨.struct [(0, 9), (1, 3), (2, 3), (3, 3), (4, 9), (5, 9), (6, 3)], 7, 80, [.str [], .int .i64 0, .int .i64 0, .int .i64 0, .str [], .str [], .int .i64 0], some (.pair .str (.pair (.int .i64) (.pair (.int .i64) (.pair (.int .i64) (.pair .str (.pair .str (.int .i64))))))), true, true⟩),
  (45, ⟨.func, 1, 8, [.nilF], none, false, false⟩),
  (46, ⟨.func, 1, 8, [.nilF], none, false, false⟩),
  (47, ⟨.slice 9, 1, 24, [.nilS], some (.list .str), true, false⟩),
  (48, ⟨.func, 1, 8, [.nilF], none, false, false⟩),
  (49, ⟨.func, 1, 8, [.nilF], none, false, false⟩),
  (50, ⟨.func, 1, 8, [.nilF], none, false, false⟩),
  (51, ⟨.slice 5, 1, 24, [.nilS], some (.list (.int .u8)), true, false⟩),
  (52, ⟨.func, 1, 8, [.nilF], none, false, false⟩),
  (54, ⟨.func, 1, 8, [.nilF], none, false, false⟩),
  (55, ⟨.func, 1, 8, [.nilF], none, false, false⟩),
  (56, ⟨.func, 1, 8, [.nilF], none, false, false⟩),
  (57, ⟨.func, 1, 8, [.nilF], none, false, false⟩),
  (58, ⟨.func, 1, 8, [.nilF], none, false, false⟩),
  (59, ⟨.func, 1, 8, [.nilF], none, false, false⟩),
  (60, ⟨.func, 1, 8, [.nilF], none, false, false⟩),
  (61, ⟨.func, 1, 8, [.nilF], none, false, false⟩),
  (62, ⟨.func, 1, 8, [.nilF], none, false, false⟩),
  (63, ⟨.func, 1, 8, [.nilF], none, false, false⟩),
  (64, ⟨.func, 1, 8, [.nilF], none, false, false⟩),
  (65, ⟨.func, 1, 8, [.nilF], none, false, false⟩),
  (66, ⟨.func, 1, 8, [.nilF], none, false, false⟩),
  (67, ⟨.func, 1, 8, [.nilF], none, false, false⟩),
  (68, ⟨.func, 1, 8, [.nilF], none, false, false⟩),
  (69, ⟨.func, 1, 8, [.nilF], none, false, false⟩),
  (70, ⟨.func, 1, 8, [.nilF], none, false, false⟩),
  (71, ⟨.func, 1, 8, [.nilF], none, false, false⟩),
  (72, ⟨.func, 1, 8, [.nilF], none, false, false⟩),
  (73, ⟨.func, 1, 8, [.nilF], none, false, false⟩),
  (75, ⟨.func, 1, 8, [.nilF], none, false, false⟩),
  (76, ⟨.func, 1, 8, [.nilF], none, false, false⟩),
  (77, ⟨.ptr 113, 1, 8, [.nilP], some (.ptr (.pair (.list (.int .u8)) (.pair (.int .i64) (.int .i64)))), false, false⟩),
  (78, ⟨.func, 1, 8, [.nilF], none, false, false⟩),
  (79, ⟨.func, 1, 8, [.nilF], none, false, false⟩),
  (80, ⟨.func, 1, 8, [.nilF], none, false, false⟩),
  (81, ⟨.func, 1, 8, [.nilF], none, false, false⟩),
  (82, ⟨.func, 1, 8, [.nilF], none, false, false⟩),
  (83, ⟨.map 3 44, 1, 8, [.nilM], none, false, false⟩),
  (84, ⟨.map 3 3, 1, 8, [.nilM], none, false, false⟩),
  (85, ⟨.func, 1, 8, [.nilF], none, false, false⟩),
  (87, ⟨.func, 1, 8, [.nilF], none, false, false⟩),
  (88, ⟨.func, 1, 8, [.nilF], none, false, false⟩),
  (89, ⟨.array 16 5, 16, 16, [.int .u8 0, .int .u8 0, .int .u8 0, .int .u8 0, .int .u8 0, .int .u8 0, .int .u8 0, .int .u8 0, .int .u8 0, .int .u8 0, .int .u8 0, .int .u8 0, .int .u8 0, .int .u8 0, .int .u8 0, .int .u8 0], some (.arr 16 (.int .u8)), true, false⟩),
  (90, ⟨.func, 1, 8, [.nilF], none, false, false⟩),
  (91, ⟨.func, 1, 8, [.nilF], none, false, false⟩),
  (92, ⟨.ptr 94, 1, 8, [.nilP], none, false, false⟩),
  (93, ⟨.struct [(0, 92), (1, 51)], 2, 32, [.nilP, .nilS], none, false, false⟩),
  (94, ⟨.struct [(0, 92), (1, 51)], 2, 32, [.nilP, .nilS], none, false, false⟩),
  (98, ⟨.func, 1, 8, [.nilF], none, false, false⟩),
  (99, ⟨.func, 1, 8, [.nilF], none, false, false⟩),
  (100, ⟨.func, 1, 8, [.nilF], none, false, false⟩),
  (101, ⟨.func, 1, 8, [.nilF], none, false, false⟩),
  (102, ⟨.func, 1, 8, [.nilF], none, false, false⟩),
  (103, ⟨.func, 1, 8, [.nilF], none, false, false⟩),
  (105, ⟨.func, 1, 8, [.nilF], none, false, false⟩),
  (106, ⟨.func, 1, 8, [.nilF], none, false, false⟩),
  (107, ⟨.func, 1, 8, [.nilF], none, false, false⟩),
  (108, ⟨.func, 1, 8, [.nilF], none, false, false⟩),
  (109, ⟨.func, 1, 8, [.nilF], none, false, false⟩),
  (110, ⟨.func, 1, 8, [.nilF], none, false, false⟩),
  (111, ⟨.func, 1, 8, [.nilF], none, false, false⟩),
  (112, ⟨.struct [(0, 51), (1, 3), (2, 3)], 3, 40, [.nilS, .int .i64 0, .int .i64 0], some (.pair (.list (.int .u8)) (.pair (.int .i64) (.int .i64))), true, false⟩),
  (113, ⟨.struct [(0, 51), (1, 3), (2, 3)], 3, 40, [.nilS, .int .i64 0, .int .i64 0], some (.pair (.list (.int .u8)) (.pair (.int .i64) (.int .i64))), true, false⟩),
  (114, ⟨.func, 1, 8, [.nilF], none, false, false⟩),
  (115, ⟨.func, 1, 8, [.nilF], none, false, false⟩),
  (116, ⟨.func, 1, 8, [.nilF], none, false, false⟩),
  (117, ⟨.slice 3, 1, 24, [.nilS], some (.list (.int .i64)), true, false⟩),
  (118, ⟨.func, 1, 8, [.nilF], none, false, false⟩),
  (119, ⟨.func, 1, 8, [.nilF], none, false, false⟩),
  (120, ⟨.int .u32, 1, 4, [.int .u32 0], some (.int .u32), true, false⟩),
  (121, ⟨.array 4 120, 4, 16, [.int .u32 0, .int .u32 0, .int .u32 0, .int .u32 0], some (.arr 4 (.int .u32)), true, false⟩),
  (122, ⟨.func, 1, 8, [.nilF], none, false, false⟩),
  (123, ⟨.func, 1, 8, [.nilF], none, false, false⟩),
  (124, ⟨.int .u64, 1, 8, [.int .u64 0], some (.int .u64), true, false⟩),
  (125, ⟨.func, 1, 8, [.nilF], none, false, false⟩),
  (126, ⟨.func, 1, 8, [.nilF], none, false, false⟩),
  (127, ⟨.ptr 5, 1, 8, [.nilP], some (.ptr (.int .u8)), false, false⟩),
  (128, ⟨.func, 1, 8, [.nilF], none, false, false⟩),
  (129, ⟨.func, 1, 8, [.nilF], none, false, false⟩),
  (130, ⟨.func, 1, 8, [.nilF], none, false, false⟩),
  (131, ⟨.func, 1, 8, [.nilF], none, false, false⟩),
  (132, ⟨.func, 1, 8, [.nilF], none, false, false⟩),
  (134, ⟨.func, 1, 8, [.nilF], none, false, false⟩),
  (135, ⟨.func, 1, 8, [.nilF], none, false, false⟩),
  (136, ⟨.func, 1, 8, [.nilF], none, false, false⟩),
  (138, ⟨.func, 1, 8, [.nilF], none, false, false⟩),
  (139, ⟨.array 64 120, 64, 256, [.int .u32 0, .int .u32 0, .int .u32 0, .int .u32 0, .int .u32 0, .int .u32 0, .int .u32 0, .int .u32 0, .int .u32 0, .int .u32 0, .int .u32 0, .int .u32 0, .int .u32 0, .int .u32 0, .int .u32 0, .int .u32 0, .int .u32 0, .int .u32 0, .int .u32 0, .int .u32 0, .int .u32 0, .int .u32 0, .int .u32 0, .int .u32 0, .int .u32 0, .int .u32 0, .int .u32 0, .int .u32 0, .int .u32 0, .int .u32 0, .int .u32 0, .int .u32 0, .int .u32 0, .int .u32 0, .int .u32 0, .int .u32 0, .int .u32 0, .int .u32 0, .int .u32 0, .int .u32 0, .int .u32 0, .int .u32 0, .int .u32 0, .int .u32 0, .int .u32 0, .int .u32 0, .int .u32 0, .int .u32 0, .int .u32 0, .int .u32 0, .int .u32 0, .int .u32 0, .int .u32 0, .int .u32 0, .int .u32 0, .int .u32 0, .int .u32 0, .int .u32 0, .int .u32 0, .int .u32 0, .int .u32 0, .int .u32 0, .int .u32 0, .int .u32 0], some (.arr 64 (.int .u32)), true, false⟩),
  (140, ⟨.func, 1, 8, [.nilF], none, false, false⟩),
  (141, ⟨.func, 1, 8, [.nilF], none, false, false⟩),
  (142, ⟨.array 4 3, 4, 32, [.int .i64 0, .int .i64 0, .int .i64 0, .int .i64 0], some (.arr 4 (.int .i64)), true, false⟩),
  (143, ⟨.array 4 142, 16, 128, [.int .i64 0, .int .i64 0, .int .i64 0, .int .i64 0, .int .i64 0, .int .i64 0, .int .i64 0, .int .i64 0, .int .i64 0, .int .i64 0, .int .i64 0, .int .i64 0, .int .i64 0, .int .i64 0, .int .i64 0, .int .i64 0], some (.arr 4 (.arr 4 (.int .i64))), true, false⟩),
  (144, ⟨.func, 1, 8, [.nilF], none, false, false⟩),
  (145, ⟨.func, 1, 8, [.nilF], none, false, false⟩),
  (146, ⟨.slice 120, 1, 24, [.nilS], some (.list (.int .u32)), true, false⟩),
  (147, ⟨.func, 1, 8, [.nilF], none, false, false⟩),
  (148, ⟨.func, 1, 8, [.nilF], none, false, false⟩),
  (152, ⟨.func, 1, 8, [.nilF], none, false, false⟩),
  (154, ⟨.struct [(0, 5), (1, 5)], 2, 2, [.int .u8 0, .int .u8 0], some (.pair (.int .u8) (.int .u8)), true, false⟩),
  (155, ⟨.struct [(0, 5), (1, 5)], 2, 2, [.int .u8 0, .int .u8 0], some (.pair (.int .u8) (.int .u8)), true, false⟩),
  (156, ⟨.array 16 155, 32, 32, [.int .u8 0, .int .u8 0, .int .u8 0, .int .u8 0, .int .u8 0, .int .u8 0, .int .u8 0, .int .u8 0, .int .u8 0, .int .u8 0, .int .u8 0, .int .u8 0, .int .u8 0, .int .u8 0, .int .u8 0, .int .u8 0, .int .u8 0, .int .u8 0, .int .u8 0, .int .u8 0, .int .u8 0, .int .u8 0, .int .u8 0, .int .u8 0, .int .u8 0, .int .u8 0, .int .u8 0, .int .u8 0, .int .u8 0, .int .u8 0, .int .u8 0, .int .u8 0], some (.arr 16 (.pair (.int .u8) (.int .u8))), true, false⟩),
  (157, ⟨.struct [(0, 17), (1, 17), (2, 17), (3, 9)], 4, 40, [.nilP, .nilP, .nilP, .str []], none, false, false⟩),
  (158, ⟨.struct [(0, 17), (1, 17), (2, 17), (3, 9)], 4, 40, [.nilP, .nilP, .nilP, .str []], none, false, false⟩),
  (159, ⟨.array 0 16, 0, 0, [], none, false, false⟩),
  (160, ⟨.struct [(0, 159)], 0, 0, [], none, false, false⟩),
  (161, ⟨.struct [(0, 159)], 0, 0, [], none, false, false⟩),
  (162, ⟨.int .u8, 1, 1, [.int .u8 0], some (.int .u8), true, false⟩),
  (163, ⟨.int .u8, 1, 1, [.int .u8 0], some (.int .u8), true, false⟩),
  (164, ⟨.func, 1, 8, [.nilF], none, false, false⟩),
  (165, ⟨.int .i32, 1, 4, [.int .i32 0], some (.int .i32), true, false⟩),
  (166, ⟨.int .i32, 1, 4, [.int .i32 0], some (.int .i32), true, false⟩),
  (168, ⟨.struct [(0, 12), (1, 12), (2, 120), (3, 162), (4, 5), (5, 5), (6, 163), (7, 164), (8, 127), (9, 165), (10, 166)], 11, 48, [.int .u64 0, .int .u64 0, .int .u32 0, .int .u8 0, .int .u8 0, .int .u8 0, .int .u8 0, .nilF, .nilP, .int .i32 0, .int .i32 0], none, false, false⟩)]
def cx : Cx := ⟨tget tys, fun g => bif Nat.beq g 1 then some ⟨(.arr 4 (.arr 4 (.int .i64))), gv1⟩ else (bif Nat.beq g 0 then some ⟨(.arr 64 (.int .u32)), gv0⟩ else (none))⟩
noncomputable abbrev P : Program := Go.Proofs.Tryd.prog
theorem tok : TOk P cx := TOk.of_list (by kernel_rfl)
theorem mix : P.follows .mixedOrders = true := by kernel_rfl
open Go.Proofs.Tryd
abbrev tN : Ty := (.pair .str (.pair (.int .i64) (.pair (.int .i64) (.pair (.int .i64) (.pair .str (.pair .str (.int .i64)))))))
abbrev cN : List CT := [.ty .str, .ty (.int .i64), .ty (.int .i64), .ty (.int .i64), .ty .str, .ty .str, .ty (.int .i64)]
abbrev nn : List Ghost × Ann := ([], .no)
def codeOf (f : Func) : Code := f.body.getD .skip
def no (n : Nat) : List (List Ghost × Ann) := List.replicate n nn

-- laws.szNode
noncomputable def fm_laws_szNode : FM := ⟨.v (.one (.ty (.int .i64))), [], ⟨24, [.str tN, .one (.ty (.int .i64))], [], fun x => m_laws_szNode x.1.1 x.1.2.1⟩⟩
noncomputable def an_laws_szNode : An := .seq (.reg [([], .key 4), nn]) (.seq (.reg (no 6)) (.seq (.seq (.reg (no 2)) (.cond (.seq (.reg (no 1)) (.leaf)) (.leaf))) (.seq (.reg (no 6)) (.seq (.seq (.reg (no 2)) (.cond (.seq (.reg (no 1)) (.leaf)) (.leaf))) (.seq (.reg (no 6)) (.seq (.seq (.reg (no 2)) (.cond (.seq (.reg (no 1)) (.leaf)) (.leaf))) (.seq (.reg (no 2)) (.leaf))))))))
theorem v_laws_szNode : fm_laws_szNode.Valid P cx := FX.of_ex tok mix (fn := f24) (c := codeOf f24) (an := an_laws_szNode) (ms := []) (by kernel_rfl) (by kernel_rfl) (by kernel_rfl) (by kernel_rfl) (by kernel_rfl) (by kernel_rfl)
  (fun x => by kernel_rfl) (by kernel_rfl) trivial
-- laws.szNodeS
noncomputable def fm_laws_szNodeS : FM := ⟨.v (.one (.ty (.int .i64))), [], ⟨11, [.one (.ty (.list tN)), .one (.ty (.int .i64))], [], fun x => m_laws_szNodeS x.1.1 x.1.2.1⟩⟩
noncomputable def an_laws_szNodeS : An := .seq (.reg (no 1)) (.seq (.reg (no 5)) (.seq (.seq (.reg (no 2)) (.cond (.seq (.reg (no 1)) (.leaf)) (.leaf))) (.seq (.seq (.reg (no 1)) (.join true ⟨[(1, .one (.ty (.int .i64)))], []⟩ (.block (.loop ⟨[(0, .one (.ty (.list tN))), (1, .one (.ty (.int .i64))), (5, .one (.ty (.int .i64)))], []⟩ (fun s => s.1.1.length + s.1.2.1.toNat + s.1.2.2.1.toNat + 300) (.seq (.seq (.reg (no 4)) (.cond (.leaf) (.leaf))) (.seq (.block (.seq (.reg [nn, nn, nn, nn, nn, ([], (FM.ann fm_laws_szNode [] [] [])), nn]) (.seq (.reg (no 2)) (.cond (.seq (.reg (no 1)) (.leaf)) (.leaf))))) (.reg (no 3)))))))) (.seq (.reg (no 2)) (.leaf)))))
theorem v_laws_szNodeS : fm_laws_szNodeS.Valid P cx := FX.of_ex tok mix (fn := f11) (c := codeOf f11) (an := an_laws_szNodeS) (ms := [fm_laws_szNode]) (by kernel_rfl) (by kernel_rfl) (by kernel_rfl) (by kernel_rfl) (by kernel_rfl) (by kernel_rfl)
  (fun x => by kernel_rfl) (by kernel_rfl) ⟨v_laws_szNode, trivial⟩
-- laws.toNode
noncomputable def fm_laws_toNode : FM := ⟨.v (.str tN), [], ⟨26, [.str tN], [], fun x => m_laws_toNode x.1.1⟩⟩
noncomputable def an_laws_toNode : An := .seq (.reg [([], .key 4), ([], .key 5)]) (.seq (.reg [([], .key 6)]) (.seq (.reg (no 4)) (.seq (.reg (no 4)) (.seq (.reg (no 4)) (.seq (.reg (no 4)) (.seq (.reg (no 4)) (.seq (.reg (no 4)) (.seq (.reg (no 4)) (.seq (.reg (no 2)) (.leaf))))))))))
theorem v_laws_toNode : fm_laws_toNode.Valid P cx := FX.of_ex tok mix (fn := f26) (c := codeOf f26) (an := an_laws_toNode) (ms := []) (by kernel_rfl) (by kernel_rfl) (by kernel_rfl) (by kernel_rfl) (by kernel_rfl) (by kernel_rfl)
  (fun x => by kernel_rfl) (by kernel_rfl) trivial
-- laws.toNodeS
noncomputable def fm_laws_toNodeS : FM := ⟨.v (.one (.ty (.list tN))), [], ⟨13, [.one (.ty (.list tN))], [], fun x => m_laws_toNodeS x.1.1⟩⟩
noncomputable def an_laws_toNodeS : An := .seq (.reg (no 1)) (.seq (.reg [nn, nn, ([], .key 4), nn]) (.seq (.seq (.reg (no 1)) (.join false ⟨[(3, .one (.con (.rs 4)))], [(4, .lst false tN)]⟩ (.block (.loop ⟨[(0, .one (.ty (.list tN))), (3, .one (.con (.rs 4))), (4, .one (.ty (.int .i64)))], [(4, .lst false tN)]⟩ (fun s => s.1.1.length + s.1.2.2.1.toNat + s.2.1.length + 300) (.seq (.seq (.reg (no 4)) (.cond (.leaf) (.leaf))) (.seq (.block (.reg [nn, nn, nn, nn, nn, nn, ([], (FM.ann fm_laws_toNode [] [] [])), nn, nn])) (.reg (no 3)))))))) (.seq (.reg (no 2)) (.gh [.freeze 4] .leaf))))
theorem v_laws_toNodeS : fm_laws_toNodeS.Valid P cx := FX.of_ex tok mix (fn := f13) (c := codeOf f13) (an := an_laws_toNodeS) (ms := [fm_laws_toNode]) (by kernel_rfl) (by kernel_rfl) (by kernel_rfl) (by kernel_rfl) (by kernel_rfl) (by kernel_rfl)
  (fun x => by kernel_rfl) (by kernel_rfl) ⟨v_laws_toNode, trivial⟩
-- spec.l02Names
noncomputable def fm_spec_l02Names : FM := ⟨.v (.one (.ty (.list .str))), [], ⟨92, [.one (.ty .str)], [], fun x => m_spec_l02Names x.1.1⟩⟩
noncomputable def an_spec_l02Names : An := .seq (.reg (no 1)) (.seq (.reg [([], .key 4), nn]) (.seq (.reg (no 1)) (.seq (.seq (.reg (no 1)) (.join false ⟨[(0, .one (.ty .str)), (3, .one (.con (.rs 4))), (4, .one (.ty (.int .i64)))], [(4, .lst false .str)]⟩ (.block (.loop ⟨[(0, .one (.ty .str)), (3, .one (.con (.rs 4))), (4, .one (.ty (.int .i64))), (5, .one (.ty (.int .i64)))], [(4, .lst false .str)]⟩ (fun s => s.1.1.length + s.1.2.2.1.toNat + s.1.2.2.2.1.toNat + s.2.1.length + 300) (.seq (.seq (.reg (no 4)) (.cond (.leaf) (.leaf))) (.seq (.block (.seq (.reg (no 4)) (.join false ⟨[(0, .one (.ty .str)), (3, .one (.con (.rs 4))), (4, .one (.ty (.int .i64))), (5, .one (.ty (.int .i64)))], [(4, .lst false .str)]⟩ (.cond (.seq (.reg [nn, nn, nn, nn, nn, ([], .key 5), nn, nn]) (.reg (no 3))) (.leaf))))) (.reg (no 3)))))))) (.seq (.reg [nn, nn, nn, nn, ([], .key 6), nn, nn]) (.gh [.freeze 4] .leaf)))))
theorem v_spec_l02Names : fm_spec_l02Names.Valid P cx := FX.of_ex tok mix (fn := f92) (c := codeOf f92) (an := an_spec_l02Names) (ms := []) (by kernel_rfl) (by kernel_rfl) (by kernel_rfl) (by kernel_rfl) (by kernel_rfl) (by kernel_rfl)
  (fun x => by kernel_rfl) (by kernel_rfl) trivial
-- spec.l01In
noncomputable def fm_spec_l01In : FM := ⟨.v (.one (.ty .bool)), [], ⟨102, [.one (.ty (.int .i64)), .one (.ty (.int .i64)), .one (.ty (.int .i64))], [], fun x => m_spec_l01In x.1.1 x.1.2.1 x.1.2.2.1⟩⟩
noncomputable def an_spec_l01In : An := .seq (.reg (no 1)) (.seq (.join false ⟨[(6, .one (.ty .bool))], []⟩ (.reg (no 9))) (.leaf))
theorem v_spec_l01In : fm_spec_l01In.Valid P cx := FX.of_ex tok mix (fn := f102) (c := codeOf f102) (an := an_spec_l01In) (ms := []) (by kernel_rfl) (by kernel_rfl) (by kernel_rfl) (by kernel_rfl) (by kernel_rfl) (by kernel_rfl)
  (fun x => by kernel_rfl) (by kernel_rfl) trivial
-- spec.NameOk
noncomputable def fm_spec_NameOk : FM := ⟨.v (.one (.ty .bool)), [], ⟨93, [.one (.ty .str)], [], fun x => m_spec_NameOk x.1.1⟩⟩
noncomputable def an_spec_NameOk : An := .seq (.reg (no 1)) (.seq (.seq (.join false ⟨[(0, .one (.ty .str)), (16, .one (.ty .bool))], []⟩ (.reg [nn, nn, ([], (FM.ann fm_spec_l01In [] [] [])), nn, nn, nn, nn, nn, nn, nn, nn, nn])) (.cond (.seq (.reg (no 1)) (.leaf)) (.leaf))) (.seq (.seq (.reg (no 1)) (.join true ⟨[], []⟩ (.block (.loop ⟨[(0, .one (.ty .str)), (3, .one (.ty (.int .i64)))], []⟩ (fun s => s.1.1.length + s.1.2.1.toNat + 300) (.seq (.seq (.reg (no 4)) (.cond (.leaf) (.leaf))) (.seq (.block (.seq (.reg (no 5)) (.seq (.join false ⟨[(0, .one (.ty .str)), (3, .one (.ty (.int .i64))), (57, .one (.ty .bool))], []⟩ (.reg [nn, ([], (FM.ann fm_spec_l01In [] [] [])), nn, nn, nn, ([], (FM.ann fm_spec_l01In [] [] [])), nn, nn, nn, nn, ([], (FM.ann fm_spec_l01In [] [] [])), nn, nn, nn, nn, nn, nn, nn, nn, nn, nn, nn, nn, nn, nn, nn, nn, nn, nn, nn, nn])) (.cond (.seq (.reg (no 1)) (.leaf)) (.leaf))))) (.reg (no 3)))))))) (.seq (.reg (no 1)) (.leaf))))
theorem v_spec_NameOk : fm_spec_NameOk.Valid P cx := FX.of_ex tok mix (fn := f93) (c := codeOf f93) (an := an_spec_NameOk) (ms := [fm_spec_l01In, fm_spec_l01In, fm_spec_l01In, fm_spec_l01In]) (by kernel_rfl) (by kernel_rfl) (by kernel_rfl) (by kernel_rfl) (by kernel_rfl) (by kernel_rfl)
  (fun x => by kernel_rfl) (by kernel_rfl) ⟨v_spec_l01In, v_spec_l01In, v_spec_l01In, v_spec_l01In, trivial⟩
-- spec.PathOk
noncomputable def fm_spec_PathOk : FM := ⟨.v (.one (.ty .bool)), [], ⟨47, [.one (.ty .str)], [], fun x => m_spec_PathOk x.1.1⟩⟩
noncomputable def an_spec_PathOk : An := .seq (.reg (no 1)) (.seq (.seq (.reg (no 3)) (.cond (.seq (.reg (no 1)) (.leaf)) (.leaf))) (.seq (.reg [nn, ([], (FM.ann fm_spec_l02Names [] [] [])), nn]) (.seq (.seq (.reg (no 1)) (.join true ⟨[(3, .one (.ty (.list .str)))], []⟩ (.block (.loop ⟨[(3, .one (.ty (.list .str))), (4, .one (.ty (.int .i64)))], []⟩ (fun s => s.1.1.length + s.1.2.1.toNat + 300) (.seq (.seq (.reg (no 4)) (.cond (.leaf) (.leaf))) (.seq (.block (.seq (.reg [nn, nn, nn, nn, ([], (FM.ann fm_spec_NameOk [] [] [])), nn]) (.cond (.seq (.reg (no 1)) (.leaf)) (.leaf)))) (.reg (no 3)))))))) (.seq (.reg (no 4)) (.leaf)))))
theorem v_spec_PathOk : fm_spec_PathOk.Valid P cx := FX.of_ex tok mix (fn := f47) (c := codeOf f47) (an := an_spec_PathOk) (ms := [fm_spec_l02Names, fm_spec_NameOk]) (by kernel_rfl) (by kernel_rfl) (by kernel_rfl) (by kernel_rfl) (by kernel_rfl) (by kernel_rfl)
  (fun x => by kernel_rfl) (by kernel_rfl) ⟨v_spec_l02Names, v_spec_NameOk, trivial⟩
-- spec.NodeOk
noncomputable def fm_spec_NodeOk : FM := ⟨.v (.one (.ty .bool)), [], ⟨64, [.str tN], [], fun x => m_spec_NodeOk x.1.1⟩⟩
noncomputable def an_spec_NodeOk : An := .seq (.reg [([], .key 4), nn]) (.seq (.seq (.join false ⟨[(1, .one (.con (.ref 4 0))), (19, .one (.ty .bool))], [(4, .box cN)]⟩ (.reg [nn, nn, ([], (FM.ann fm_spec_PathOk [] [] [])), nn, nn, nn, nn, ([], (FM.ann fm_spec_l01In [] [] [])), nn, nn, nn, nn, nn, ([], (FM.ann fm_spec_l01In [] [] [])), nn, nn])) (.cond (.seq (.reg (no 1)) (.leaf)) (.leaf))) (.seq (.seq (.reg (no 2)) (.block (.seq (.reg (no 2)) (.cond (.seq (.join false ⟨[(2, .one (.ty .bool))], []⟩ (.reg (no 14))) (.leaf)) (.seq (.reg (no 2)) (.cond (.seq (.join false ⟨[(2, .one (.ty .bool))], []⟩ (.reg [nn, nn, nn, nn, nn, nn, nn, nn, nn, nn, nn, nn, ([], (FM.ann fm_spec_l01In [] [] [])), nn, nn])) (.leaf)) (.seq (.reg (no 2)) (.cond (.seq (.seq (.join false ⟨[(1, .one (.con (.ref 4 0))), (74, .one (.ty .bool))], [(4, .box cN)]⟩ (.reg [nn, nn, nn, nn, nn, nn, nn, nn, nn, nn, nn, nn, nn, nn, nn, nn, nn, ([], (FM.ann fm_spec_l01In [] [] [])), nn, nn])) (.cond (.seq (.reg (no 1)) (.leaf)) (.leaf))) (.seq (.seq (.reg (no 1)) (.join true ⟨[], []⟩ (.block (.loop ⟨[(1, .one (.con (.ref 4 0))), (3, .one (.ty (.int .i64)))], [(4, .box cN)]⟩ (fun s => s.1.2.1.toNat + s.2.1.1.length + s.2.1.2.1.toNat + s.2.1.2.2.1.toNat + s.2.1.2.2.2.1.toNat + s.2.1.2.2.2.2.1.length + s.2.1.2.2.2.2.2.1.length + s.2.1.2.2.2.2.2.2.1.toNat + 300) (.seq (.seq (.reg (no 5)) (.cond (.leaf) (.leaf))) (.seq (.block (.seq (.reg (no 5)) (.cond (.seq (.reg (no 1)) (.leaf)) (.leaf)))) (.reg (no 3)))))))) (.seq (.reg (no 1)) (.leaf)))) (.leaf))))))))) (.seq (.reg (no 1)) (.leaf))))
theorem v_spec_NodeOk : fm_spec_NodeOk.Valid P cx := FX.of_ex tok mix (fn := f64) (c := codeOf f64) (an := an_spec_NodeOk) (ms := [fm_spec_PathOk, fm_spec_l01In, fm_spec_l01In, fm_spec_l01In, fm_spec_l01In]) (by kernel_rfl) (by kernel_rfl) (by kernel_rfl) (by kernel_rfl) (by kernel_rfl) (by kernel_rfl)
  (fun x => by kernel_rfl) (by kernel_rfl) ⟨v_spec_PathOk, v_spec_l01In, v_spec_l01In, v_spec_l01In, v_spec_l01In, trivial⟩
-- spec.Names
noncomputable def fm_spec_Names : FM := ⟨.v (.one (.ty (.list .str))), [], ⟨91, [.one (.ty .str)], [], fun x => m_spec_Names x.1.1⟩⟩
noncomputable def an_spec_Names : An := .seq (.reg (no 1)) (.seq (.seq (.reg [nn, ([], (FM.ann fm_spec_PathOk [] [] [])), nn]) (.cond (.seq (.reg [([], .key 4), nn]) (.gh [.freeze 4] .leaf)) (.leaf))) (.seq (.reg [nn, ([], (FM.ann fm_spec_l02Names [] [] [])), nn]) (.leaf)))
theorem v_spec_Names : fm_spec_Names.Valid P cx := FX.of_ex tok mix (fn := f91) (c := codeOf f91) (an := an_spec_Names) (ms := [fm_spec_PathOk, fm_spec_l02Names]) (by kernel_rfl) (by kernel_rfl) (by kernel_rfl) (by kernel_rfl) (by kernel_rfl) (by kernel_rfl)
  (fun x => by kernel_rfl) (by kernel_rfl) ⟨v_spec_PathOk, v_spec_l02Names, trivial⟩
-- spec.ParentOf
noncomputable def fm_spec_ParentOf : FM := ⟨.v (.one (.ty .str)), [], ⟨44, [.one (.ty .str)], [], fun x => m_spec_ParentOf x.1.1⟩⟩
noncomputable def an_spec_ParentOf : An := .seq (.reg (no 1)) (.seq (.reg [nn, ([], (FM.ann fm_spec_Names [] [] [])), nn]) (.seq (.reg (no 1)) (.seq (.seq (.reg (no 1)) (.join false ⟨[(4, .one (.ty .str))], []⟩ (.block (.loop ⟨[(3, .one (.ty (.list .str))), (4, .one (.ty .str)), (5, .one (.ty (.int .i64)))], []⟩ (fun s => s.1.1.length + s.1.2.1.length + s.1.2.2.1.toNat + 300) (.seq (.seq (.reg (no 5)) (.cond (.leaf) (.leaf))) (.seq (.block (.seq (.seq (.reg (no 2)) (.join false ⟨[(3, .one (.ty (.list .str))), (4, .one (.ty .str)), (5, .one (.ty (.int .i64)))], []⟩ (.cond (.reg (no 3)) (.leaf)))) (.reg (no 7)))) (.reg (no 3)))))))) (.seq (.reg (no 2)) (.leaf)))))
theorem v_spec_ParentOf : fm_spec_ParentOf.Valid P cx := FX.of_ex tok mix (fn := f44) (c := codeOf f44) (an := an_spec_ParentOf) (ms := [fm_spec_Names]) (by kernel_rfl) (by kernel_rfl) (by kernel_rfl) (by kernel_rfl) (by kernel_rfl) (by kernel_rfl)
  (fun x => by kernel_rfl) (by kernel_rfl) ⟨v_spec_Names, trivial⟩
-- spec.l10At
noncomputable def fm_spec_l10At : FM := ⟨.v (.one (.ty (.int .i64))), [], ⟨61, [.one (.ty (.list tN)), .one (.ty .str)], [], fun x => m_spec_l10At x.1.1 x.1.2.1⟩⟩
noncomputable def an_spec_l10At : An := .seq (.reg (no 1)) (.seq (.seq (.reg (no 1)) (.join true ⟨[], []⟩ (.block (.loop ⟨[(0, .one (.ty (.list tN))), (1, .one (.ty .str)), (5, .one (.ty (.int .i64)))], []⟩ (fun s => s.1.1.length + s.1.2.1.length + s.1.2.2.1.toNat + 300) (.seq (.seq (.reg (no 4)) (.cond (.leaf) (.leaf))) (.seq (.block (.seq (.reg (no 7)) (.cond (.seq (.reg (no 2)) (.leaf)) (.leaf)))) (.reg (no 3)))))))) (.seq (.reg (no 1)) (.leaf)))
theorem v_spec_l10At : fm_spec_l10At.Valid P cx := FX.of_ex tok mix (fn := f61) (c := codeOf f61) (an := an_spec_l10At) (ms := []) (by kernel_rfl) (by kernel_rfl) (by kernel_rfl) (by kernel_rfl) (by kernel_rfl) (by kernel_rfl)
  (fun x => by kernel_rfl) (by kernel_rfl) trivial
-- spec.TreeOk
noncomputable def fm_spec_TreeOk : FM := ⟨.v (.one (.ty .bool)), [], ⟨46, [.one (.ty (.list tN))], [], fun x => m_spec_TreeOk x.1.1⟩⟩
noncomputable def an_spec_TreeOk : An := .seq (.reg (no 1)) (.seq (.seq (.reg (no 3)) (.cond (.seq (.reg (no 1)) (.leaf)) (.leaf))) (.seq (.reg (no 1)) (.seq (.seq (.reg (no 1)) (.join true ⟨[(0, .one (.ty (.list tN))), (3, .one (.ty (.int .i64)))], []⟩ (.block (.loop ⟨[(0, .one (.ty (.list tN))), (3, .one (.ty (.int .i64))), (4, .one (.ty (.int .i64)))], []⟩ (fun s => s.1.1.length + s.1.2.1.toNat + s.1.2.2.1.toNat + 300) (.seq (.seq (.reg (no 4)) (.cond (.leaf) (.leaf))) (.seq (.block (.seq (.reg [nn, nn, nn, nn, ([], .key 4), nn]) (.seq (.seq (.join false ⟨[(0, .one (.ty (.list tN))), (3, .one (.ty (.int .i64))), (4, .one (.ty (.int .i64))), (5, .one (.con (.ref 4 0))), (41, .one (.ty .bool))], [(4, .box cN)]⟩ (.reg [nn, ([], (FM.ann fm_spec_NodeOk [] [] [])), nn, nn, nn, nn, nn, nn, nn, nn, nn, nn, nn, nn, nn, nn, nn, nn])) (.cond (.seq (.reg (no 1)) (.leaf)) (.leaf))) (.seq (.reg (no 6)) (.seq (.reg [nn, nn, ([], (FM.ann fm_spec_ParentOf [] [] [])), nn]) (.seq (.reg [nn, nn, ([], (FM.ann fm_spec_l10At [] [] [])), nn]) (.seq (.join false ⟨[(0, .one (.ty (.list tN))), (3, .one (.ty (.int .i64))), (4, .one (.ty (.int .i64))), (66, .one (.ty .bool))], []⟩ (.reg (no 14))) (.cond (.seq (.reg (no 1)) (.leaf)) (.leaf))))))))) (.reg (no 3)))))))) (.seq (.seq (.reg (no 1)) (.join true ⟨[(3, .one (.ty (.int .i64)))], []⟩ (.block (.loop ⟨[(0, .one (.ty (.list tN))), (3, .one (.ty (.int .i64))), (8, .one (.ty (.int .i64)))], []⟩ (fun s => s.1.1.length + s.1.2.1.toNat + s.1.2.2.1.toNat + 300) (.seq (.seq (.reg (no 4)) (.cond (.leaf) (.leaf))) (.seq (.join true ⟨[(0, .one (.ty (.list tN))), (3, .one (.ty (.int .i64))), (8, .one (.ty (.int .i64)))], []⟩ (.block (.seq (.seq (.reg (no 6)) (.cond (.leaf) (.leaf))) (.seq (.reg (no 1)) (.seq (.seq (.reg (no 1)) (.join true ⟨[(0, .one (.ty (.list tN))), (3, .one (.ty (.int .i64))), (8, .one (.ty (.int .i64))), (9, .one (.ty (.int .i64)))], []⟩ (.block (.loop ⟨[(0, .one (.ty (.list tN))), (3, .one (.ty (.int .i64))), (8, .one (.ty (.int .i64))), (9, .one (.ty (.int .i64))), (10, .one (.ty (.int .i64)))], []⟩ (fun s => s.1.1.length + s.1.2.1.toNat + s.1.2.2.1.toNat + s.1.2.2.2.1.toNat + s.1.2.2.2.2.1.toNat + 300) (.seq (.seq (.reg (no 4)) (.cond (.leaf) (.leaf))) (.seq (.block (.seq (.reg (no 11)) (.join true ⟨[(0, .one (.ty (.list tN))), (3, .one (.ty (.int .i64))), (8, .one (.ty (.int .i64))), (9, .one (.ty (.int .i64))), (10, .one (.ty (.int .i64)))], []⟩ (.cond (.seq (.reg (no 3)) (.seq (.join false ⟨[(0, .one (.ty (.list tN))), (3, .one (.ty (.int .i64))), (8, .one (.ty (.int .i64))), (9, .one (.ty (.int .i64))), (10, .one (.ty (.int .i64))), (134, .one (.ty .bool))], []⟩ (.reg (no 37))) (.cond (.seq (.reg (no 1)) (.leaf)) (.leaf)))) (.leaf))))) (.reg (no 3)))))))) (.seq (.reg (no 2)) (.cond (.seq (.reg (no 1)) (.leaf)) (.leaf)))))))) (.reg (no 3)))))))) (.seq (.reg (no 3)) (.leaf))))))
theorem v_spec_TreeOk : fm_spec_TreeOk.Valid P cx := FX.of_ex tok mix (fn := f46) (c := codeOf f46) (an := an_spec_TreeOk) (ms := [fm_spec_NodeOk, fm_spec_ParentOf, fm_spec_l10At]) (by kernel_rfl) (by kernel_rfl) (by kernel_rfl) (by kernel_rfl) (by kernel_rfl) (by kernel_rfl)
  (fun x => by kernel_rfl) (by kernel_rfl) ⟨v_spec_NodeOk, v_spec_ParentOf, v_spec_l10At, trivial⟩
-- spec.PutVar
noncomputable def fm_spec_PutVar : FM := ⟨.v (.one (.con (.rs 0))), [.lst false (.int .u8)], ⟨79, [.one (.ty (.int .i64))], [], fun x => m_spec_PutVar x.1.1⟩⟩
noncomputable def an_spec_PutVar : An := .seq (.reg [([], .nilAs 4 (.int .u8))]) (.seq (.reg [([], .key 5), nn]) (.seq (.seq (.reg (no 2)) (.cond (.seq (.reg (no 2)) (.gh [.ren 5 0] .leaf)) (.leaf))) (.seq (.join false ⟨[(0, .one (.ty (.int .i64))), (3, .one (.con (.rs 5)))], [(5, .lst false (.int .u8))]⟩ (.block (.loop ⟨[(0, .one (.ty (.int .i64))), (3, .one (.con (.rs 5)))], [(5, .lst false (.int .u8))]⟩ (fun s => s.1.1.toNat + s.2.1.length + 300) (.seq (.seq (.reg (no 2)) (.cond (.leaf) (.leaf))) (.block (.seq (.reg [nn, nn, nn, nn, nn, ([], .key 6), nn, nn]) (.reg (no 3)))))))) (.seq (.reg [nn, nn, nn, ([], .key 7), nn, nn]) (.gh [.ren 5 0] .leaf)))))
theorem v_spec_PutVar : fm_spec_PutVar.Valid P cx := FX.of_ex tok mix (fn := f79) (c := codeOf f79) (an := an_spec_PutVar) (ms := []) (by kernel_rfl) (by kernel_rfl) (by kernel_rfl) (by kernel_rfl) (by kernel_rfl) (by kernel_rfl)
  (fun x => by kernel_rfl) (by kernel_rfl) trivial
-- spec.PutText
noncomputable def fm_spec_PutText : FM := ⟨.v (.one (.ty (.list (.int .u8)))), [], ⟨78, [.one (.ty .str)], [], fun x => m_spec_PutText x.1.1⟩⟩
noncomputable def an_spec_PutText : An := .seq (.reg (no 1)) (.seq (.seq (.reg (no 3)) (.cond (.seq (.reg [([], .key 4), nn]) (.gh [.freeze 4] .leaf)) (.leaf))) (.seq (.reg [nn, nn, ([], (FM.ann fm_spec_PutVar [] [5] [])), nn, ([], .key 6), nn, nn]) (.gh [.freeze 5] .leaf)))
theorem v_spec_PutText : fm_spec_PutText.Valid P cx := FX.of_ex tok mix (fn := f78) (c := codeOf f78) (an := an_spec_PutText) (ms := [fm_spec_PutVar]) (by kernel_rfl) (by kernel_rfl) (by kernel_rfl) (by kernel_rfl) (by kernel_rfl) (by kernel_rfl)
  (fun x => by kernel_rfl) (by kernel_rfl) ⟨v_spec_PutVar, trivial⟩
-- spec.PadStrong
noncomputable def fm_spec_PadStrong : FM := ⟨.v (.one (.ty (.list (.int .u8)))), [], ⟨118, [.one (.ty .str)], [], fun x => m_spec_PadStrong x.1.1⟩⟩
noncomputable def an_spec_PadStrong : An := .seq (.reg (no 1)) (.seq (.seq (.reg (no 3)) (.cond (.seq (.reg [([], .key 4), nn]) (.gh [.freeze 4] .leaf)) (.leaf))) (.seq (.reg [nn, ([], .key 5), ([], .key 6), nn, nn]) (.seq (.join false ⟨[(0, .one (.ty .str)), (3, .one (.con (.rs 5)))], [(5, .lst false (.int .u8))]⟩ (.block (.loop ⟨[(0, .one (.ty .str)), (3, .one (.con (.rs 5)))], [(5, .lst false (.int .u8))]⟩ (fun s => s.1.1.length + s.2.1.length + 300) (.seq (.seq (.reg (no 4)) (.cond (.leaf) (.leaf))) (.block (.reg [nn, ([], .key 7), nn, nn])))))) (.seq (.reg (no 4)) (.seq (.seq (.reg (no 1)) (.join false ⟨[(3, .one (.con (.rs 5)))], [(5, .lst false (.int .u8))]⟩ (.block (.loop ⟨[(3, .one (.con (.rs 5))), (4, .one (.ty (.int .i64))), (5, .one (.ty (.int .i64)))], [(5, .lst false (.int .u8))]⟩ (fun s => s.1.2.1.toNat + s.1.2.2.1.toNat + s.2.1.length + 300) (.seq (.seq (.reg (no 2)) (.cond (.leaf) (.leaf))) (.seq (.block (.seq (.reg [nn, nn, nn, nn, ([], .key 8), nn, nn]) (.reg (no 3)))) (.reg (no 3)))))))) (.seq (.reg (no 2)) (.gh [.freeze 5] .leaf)))))))
theorem v_spec_PadStrong : fm_spec_PadStrong.Valid P cx := FX.of_ex tok mix (fn := f118) (c := codeOf f118) (an := an_spec_PadStrong) (ms := []) (by kernel_rfl) (by kernel_rfl) (by kernel_rfl) (by kernel_rfl) (by kernel_rfl) (by kernel_rfl)
  (fun x => by kernel_rfl) (by kernel_rfl) trivial
-- spec.GetWord
noncomputable def fm_spec_GetWord : FM := ⟨.tup [(.one (.ty (.int .u32))), (.one (.ty .bool))], [], ⟨139, [.one (.ty (.list (.int .u8)))], [], fun x => m_spec_GetWord x.1.1⟩⟩
noncomputable def an_spec_GetWord : An := .seq (.reg (no 2)) (.seq (.seq (.reg (no 3)) (.cond (.seq (.reg (no 2)) (.leaf)) (.leaf))) (.seq (.reg (no 25)) (.leaf)))
theorem v_spec_GetWord : fm_spec_GetWord.Valid P cx := FX.of_ex tok mix (fn := f139) (c := codeOf f139) (an := an_spec_GetWord) (ms := []) (by kernel_rfl) (by kernel_rfl) (by kernel_rfl) (by kernel_rfl) (by kernel_rfl) (by kernel_rfl)
  (fun x => by kernel_rfl) (by kernel_rfl) trivial
-- spec.l04K
noncomputable def fm_spec_l04K : FM := ⟨.v (.one (.ty (.int .u32))), [], ⟨140, [.one (.ty (.int .i64))], [], fun x => m_spec_l04K x.1.1⟩⟩
noncomputable def an_spec_l04K : An := .seq (.reg (no 1)) (.seq (.reg [([], .key 4), nn]) (.seq (.reg (no 5)) (.leaf)))
theorem v_spec_l04K : fm_spec_l04K.Valid P cx := FX.of_ex tok mix (fn := f140) (c := codeOf f140) (an := an_spec_l04K) (ms := []) (by kernel_rfl) (by kernel_rfl) (by kernel_rfl) (by kernel_rfl) (by kernel_rfl) (by kernel_rfl)
  (fun x => by kernel_rfl) (by kernel_rfl) trivial
-- spec.l04S
noncomputable def fm_spec_l04S : FM := ⟨.v (.one (.ty (.int .i64))), [], ⟨141, [.one (.ty (.int .i64))], [], fun x => m_spec_l04S x.1.1⟩⟩
noncomputable def an_spec_l04S : An := .seq (.reg (no 1)) (.seq (.reg [([], .key 4), nn]) (.seq (.reg (no 10)) (.leaf)))
theorem v_spec_l04S : fm_spec_l04S.Valid P cx := FX.of_ex tok mix (fn := f141) (c := codeOf f141) (an := an_spec_l04S) (ms := []) (by kernel_rfl) (by kernel_rfl) (by kernel_rfl) (by kernel_rfl) (by kernel_rfl) (by kernel_rfl)
  (fun x => by kernel_rfl) (by kernel_rfl) trivial
-- spec.MixStrong
noncomputable def fm_spec_MixStrong : FM := ⟨.v (.str (.arr 4 (.int .u32))), [], ⟨119, [.str (.arr 4 (.int .u32)), .one (.ty .str)], [], fun x => m_spec_MixStrong x.1.1 x.1.2.1⟩⟩
noncomputable def an_spec_MixStrong : An := .seq (.reg [([], .keyT 4 (.arr 4 (.int .u32))), ([], .keyT 5 (.arr 4 (.int .u32)))]) (.seq (.seq (.reg (no 3)) (.cond (.seq (.reg (no 2)) (.leaf)) (.leaf))) (.seq (.reg (no 12)) (.seq (.seq (.reg (no 1)) (.join false ⟨[(2, .one (.con (.ref 4 0))), (4, .one (.con (.ref 5 0))), (5, .one (.ty (.int .u32))), (6, .one (.ty (.int .u32))), (7, .one (.ty (.int .u32))), (8, .one (.ty (.int .u32)))], [(4, .tb (.arr 4 (.int .u32))), (5, .tb (.arr 4 (.int .u32)))]⟩ (.block (.loop ⟨[(1, .one (.ty .str)), (2, .one (.con (.ref 4 0))), (4, .one (.con (.ref 5 0))), (5, .one (.ty (.int .u32))), (6, .one (.ty (.int .u32))), (7, .one (.ty (.int .u32))), (8, .one (.ty (.int .u32))), (9, .one (.ty (.int .i64)))], [(4, .tb (.arr 4 (.int .u32))), (5, .tb (.arr 4 (.int .u32)))]⟩ (fun s => s.1.1.length + s.1.2.2.2.1.toNat + s.1.2.2.2.2.1.toNat + s.1.2.2.2.2.2.1.toNat + s.1.2.2.2.2.2.2.1.toNat + s.1.2.2.2.2.2.2.2.1.toNat + 300) (.seq (.seq (.reg (no 2)) (.cond (.leaf) (.leaf))) (.seq (.block (.seq (.reg (no 2)) (.seq (.seq (.reg (no 2)) (.block (.seq (.reg (no 2)) (.join false ⟨[(1, .one (.ty .str)), (2, .one (.con (.ref 4 0))), (4, .one (.con (.ref 5 0))), (5, .one (.ty (.int .u32))), (6, .one (.ty (.int .u32))), (7, .one (.ty (.int .u32))), (8, .one (.ty (.int .u32))), (9, .one (.ty (.int .i64))), (10, .one (.ty (.int .u32))), (11, .one (.ty (.int .i64)))], [(4, .tb (.arr 4 (.int .u32))), (5, .tb (.arr 4 (.int .u32)))]⟩ (.cond (.seq (.reg (no 9)) (.reg (no 2))) (.seq (.reg (no 2)) (.join false ⟨[(1, .one (.ty .str)), (2, .one (.con (.ref 4 0))), (4, .one (.con (.ref 5 0))), (5, .one (.ty (.int .u32))), (6, .one (.ty (.int .u32))), (7, .one (.ty (.int .u32))), (8, .one (.ty (.int .u32))), (9, .one (.ty (.int .i64))), (10, .one (.ty (.int .u32))), (11, .one (.ty (.int .i64)))], [(4, .tb (.arr 4 (.int .u32))), (5, .tb (.arr 4 (.int .u32)))]⟩ (.cond (.seq (.reg (no 9)) (.reg (no 5))) (.seq (.reg (no 2)) (.join false ⟨[(1, .one (.ty .str)), (2, .one (.con (.ref 4 0))), (4, .one (.con (.ref 5 0))), (5, .one (.ty (.int .u32))), (6, .one (.ty (.int .u32))), (7, .one (.ty (.int .u32))), (8, .one (.ty (.int .u32))), (9, .one (.ty (.int .i64))), (10, .one (.ty (.int .u32))), (11, .one (.ty (.int .i64)))], [(4, .tb (.arr 4 (.int .u32))), (5, .tb (.arr 4 (.int .u32)))]⟩ (.cond (.seq (.reg (no 6)) (.reg (no 5))) (.seq (.reg (no 7)) (.reg (no 4)))))))))))))) (.seq (.reg [nn, nn, nn, nn, nn, nn, nn, ([], .key 6), ([], (FM.ann fm_spec_GetWord [] [] [6])), nn, nn, nn, nn, nn]) (.seq (.reg [nn, nn, nn, nn, ([], (FM.ann fm_spec_l04K [] [] [])), nn, nn, nn, nn]) (.seq (.reg [nn, ([], (FM.ann fm_spec_l04S [] [] [])), nn, nn]) (.seq (.reg (no 2)) (.seq (.reg (no 2)) (.seq (.reg (no 2)) (.reg (no 11))))))))))) (.reg (no 3)))))))) (.seq (.reg (no 18)) (.leaf)))))
theorem v_spec_MixStrong : fm_spec_MixStrong.Valid P cx := FX.of_ex tok mix (fn := f119) (c := codeOf f119) (an := an_spec_MixStrong) (ms := [fm_spec_GetWord, fm_spec_l04K, fm_spec_l04S]) (by kernel_rfl) (by kernel_rfl) (by kernel_rfl) (by kernel_rfl) (by kernel_rfl) (by kernel_rfl)
  (fun x => by kernel_rfl) (by kernel_rfl) ⟨v_spec_GetWord, v_spec_l04K, v_spec_l04S, trivial⟩
-- spec.PutWord
noncomputable def fm_spec_PutWord : FM := ⟨.v (.one (.ty (.list (.int .u8)))), [], ⟨120, [.one (.ty (.int .u32))], [], fun x => m_spec_PutWord x.1.1⟩⟩
noncomputable def an_spec_PutWord : An := .seq (.reg (no 1)) (.seq (.reg (no 3)) (.seq (.reg [nn, nn, nn, nn, nn, nn, nn, nn, nn, nn, nn, nn, nn, nn, ([], .key 4), nn]) (.gh [.freeze 4] .leaf)))
theorem v_spec_PutWord : fm_spec_PutWord.Valid P cx := FX.of_ex tok mix (fn := f120) (c := codeOf f120) (an := an_spec_PutWord) (ms := []) (by kernel_rfl) (by kernel_rfl) (by kernel_rfl) (by kernel_rfl) (by kernel_rfl) (by kernel_rfl)
  (fun x => by kernel_rfl) (by kernel_rfl) trivial
-- spec.StrongOf
noncomputable def fm_spec_StrongOf : FM := ⟨.v (.str (.arr 16 (.int .u8))), [], ⟨80, [.one (.ty .str)], [], fun x => m_spec_StrongOf x.1.1⟩⟩
noncomputable def an_spec_StrongOf : An := .seq (.reg [([], .keyT 4 (.arr 16 (.int .u8)))]) (.seq (.reg [nn, ([], .keyT 5 (.arr 16 (.int .u8))), nn]) (.seq (.reg [nn, ([], (FM.ann fm_spec_PadStrong [] [] [])), nn]) (.seq (.seq (.reg (no 3)) (.cond (.seq (.reg (no 2)) (.leaf)) (.leaf))) (.seq (.reg [nn, ([], .keyT 6 (.arr 4 (.int .u32))), nn]) (.seq (.seq (.reg (no 1)) (.join false ⟨[(2, .one (.con (.ref 4 0))), (3, .one (.con (.ref 5 0))), (5, .one (.con (.ref 6 0)))], [(4, .tb (.arr 16 (.int .u8))), (5, .tb (.arr 16 (.int .u8))), (6, .tb (.arr 4 (.int .u32)))]⟩ (.block (.loop ⟨[(2, .one (.con (.ref 4 0))), (3, .one (.con (.ref 5 0))), (4, .one (.ty (.list (.int .u8)))), (5, .one (.con (.ref 6 0))), (6, .one (.ty (.int .i64)))], [(4, .tb (.arr 16 (.int .u8))), (5, .tb (.arr 16 (.int .u8))), (6, .tb (.arr 4 (.int .u32)))]⟩ (fun s => s.1.2.2.1.length + s.1.2.2.2.2.1.toNat + 300) (.seq (.seq (.reg (no 5)) (.cond (.leaf) (.leaf))) (.seq (.block (.reg [nn, nn, nn, nn, nn, nn, nn, ([], (FM.ann fm_spec_MixStrong [] [] [])), nn])) (.reg (no 3)))))))) (.seq (.seq (.reg (no 1)) (.join false ⟨[(2, .one (.con (.ref 4 0))), (3, .one (.con (.ref 5 0)))], [(4, .tb (.arr 16 (.int .u8))), (5, .tb (.arr 16 (.int .u8)))]⟩ (.block (.loop ⟨[(2, .one (.con (.ref 4 0))), (3, .one (.con (.ref 5 0))), (5, .one (.con (.ref 6 0))), (7, .one (.ty (.int .i64)))], [(4, .tb (.arr 16 (.int .u8))), (5, .tb (.arr 16 (.int .u8))), (6, .tb (.arr 4 (.int .u32)))]⟩ (fun s => s.1.2.2.2.1.toNat + 300) (.seq (.seq (.reg (no 2)) (.cond (.leaf) (.leaf))) (.seq (.block (.seq (.reg [nn, nn, nn, ([], (FM.ann fm_spec_PutWord [] [] [])), nn]) (.seq (.reg (no 1)) (.join false ⟨[(2, .one (.con (.ref 4 0))), (3, .one (.con (.ref 5 0))), (5, .one (.con (.ref 6 0))), (7, .one (.ty (.int .i64)))], [(4, .tb (.arr 16 (.int .u8))), (5, .tb (.arr 16 (.int .u8))), (6, .tb (.arr 4 (.int .u32)))]⟩ (.block (.loop ⟨[(2, .one (.con (.ref 4 0))), (3, .one (.con (.ref 5 0))), (5, .one (.con (.ref 6 0))), (7, .one (.ty (.int .i64))), (8, .one (.ty (.list (.int .u8)))), (9, .one (.ty (.int .i64)))], [(4, .tb (.arr 16 (.int .u8))), (5, .tb (.arr 16 (.int .u8))), (6, .tb (.arr 4 (.int .u32)))]⟩ (fun s => s.1.2.2.2.1.toNat + s.1.2.2.2.2.1.length + s.1.2.2.2.2.2.1.toNat + 300) (.seq (.seq (.reg (no 2)) (.cond (.leaf) (.leaf))) (.seq (.block (.reg (no 10))) (.reg (no 3)))))))))) (.reg (no 3)))))))) (.seq (.reg (no 2)) (.leaf))))))))
theorem v_spec_StrongOf : fm_spec_StrongOf.Valid P cx := FX.of_ex tok mix (fn := f80) (c := codeOf f80) (an := an_spec_StrongOf) (ms := [fm_spec_PadStrong, fm_spec_MixStrong, fm_spec_PutWord]) (by kernel_rfl) (by kernel_rfl) (by kernel_rfl) (by kernel_rfl) (by kernel_rfl) (by kernel_rfl)
  (fun x => by kernel_rfl) (by kernel_rfl) ⟨v_spec_PadStrong, v_spec_MixStrong, v_spec_PutWord, trivial⟩
-- spec.HexText
noncomputable def fm_spec_HexText : FM := ⟨.v (.one (.ty .str)), [], ⟨81, [.one (.ty (.list (.int .u8)))], [], fun x => m_spec_HexText x.1.1⟩⟩
noncomputable def an_spec_HexText : An := .seq (.reg (no 1)) (.seq (.reg [([], .key 4), nn]) (.seq (.seq (.reg (no 3)) (.cond (.seq (.reg (no 1)) (.leaf)) (.leaf))) (.seq (.seq (.reg (no 1)) (.join false ⟨[(3, .one (.con (.rs 4)))], [(4, .lst false (.int .u8))]⟩ (.block (.loop ⟨[(0, .one (.ty (.list (.int .u8)))), (3, .one (.con (.rs 4))), (4, .one (.ty (.int .i64)))], [(4, .lst false (.int .u8))]⟩ (fun s => s.1.1.length + s.1.2.2.1.toNat + s.2.1.length + 300) (.seq (.seq (.reg (no 4)) (.cond (.leaf) (.leaf))) (.seq (.block (.reg (no 16))) (.reg (no 3)))))))) (.seq (.reg (no 3)) (.leaf)))))
theorem v_spec_HexText : fm_spec_HexText.Valid P cx := FX.of_ex tok mix (fn := f81) (c := codeOf f81) (an := an_spec_HexText) (ms := []) (by kernel_rfl) (by kernel_rfl) (by kernel_rfl) (by kernel_rfl) (by kernel_rfl) (by kernel_rfl)
  (fun x => by kernel_rfl) (by kernel_rfl) trivial
-- spec.TreeSum
noncomputable def fm_spec_TreeSum : FM := ⟨.v (.one (.ty .str)), [], ⟨40, [.one (.ty (.list tN))], [], fun x => m_spec_TreeSum x.1.1⟩⟩
noncomputable def an_spec_TreeSum : An := .seq (.reg (no 1)) (.seq (.reg [([], .key 4), nn]) (.seq (.seq (.reg [nn, ([], (FM.ann fm_spec_TreeOk [] [] [])), nn]) (.cond (.seq (.reg (no 1)) (.leaf)) (.leaf))) (.seq (.seq (.reg (no 1)) (.join false ⟨[(3, .one (.con (.rs 4)))], [(4, .lst false (.int .u8))]⟩ (.block (.loop ⟨[(0, .one (.ty (.list tN))), (3, .one (.con (.rs 4))), (4, .one (.ty (.int .i64)))], [(4, .lst false (.int .u8))]⟩ (fun s => s.1.1.length + s.1.2.2.1.toNat + s.2.1.length + 300) (.seq (.seq (.reg (no 4)) (.cond (.leaf) (.leaf))) (.seq (.block (.seq (.reg [nn, nn, nn, nn, ([], .key 5), nn]) (.seq (.reg [nn, nn, nn, ([], (FM.ann fm_spec_PutText [] [] [])), nn, nn]) (.seq (.reg [nn, nn, nn, ([], (FM.ann fm_spec_PutVar [] [6] [])), nn, nn]) (.seq (.reg [nn, nn, nn, ([], (FM.ann fm_spec_PutVar [] [7] [])), nn, nn]) (.seq (.reg [nn, nn, nn, ([], (FM.ann fm_spec_PutVar [] [8] [])), nn, nn]) (.seq (.reg [nn, nn, nn, ([], (FM.ann fm_spec_PutText [] [] [])), nn, nn]) (.seq (.reg [nn, nn, nn, ([], (FM.ann fm_spec_PutText [] [] [])), nn, nn]) (.reg [nn, nn, nn, ([], (FM.ann fm_spec_PutVar [] [9] [])), nn, nn]))))))))) (.reg (no 3)))))))) (.seq (.seq (.reg (no 3)) (.cond (.seq (.reg (no 1)) (.leaf)) (.leaf))) (.seq (.reg [nn, nn, ([], (FM.ann fm_spec_StrongOf [] [] [])), ([], .keyT 10 (.arr 16 (.int .u8))), nn]) (.seq (.reg [([.freezeBox 10 (.arr 16 (.int .u8))], .no), ([], (FM.ann fm_spec_HexText [] [] [])), nn]) (.leaf)))))))
theorem v_spec_TreeSum : fm_spec_TreeSum.Valid P cx := FX.of_ex tok mix (fn := f40) (c := codeOf f40) (an := an_spec_TreeSum) (ms := [fm_spec_TreeOk, fm_spec_PutText, fm_spec_PutVar, fm_spec_PutVar, fm_spec_PutVar, fm_spec_PutText, fm_spec_PutText, fm_spec_PutVar, fm_spec_StrongOf, fm_spec_HexText]) (by kernel_rfl) (by kernel_rfl) (by kernel_rfl) (by kernel_rfl) (by kernel_rfl) (by kernel_rfl)
  (fun x => by kernel_rfl) (by kernel_rfl) ⟨v_spec_TreeOk, v_spec_PutText, v_spec_PutVar, v_spec_PutVar, v_spec_PutVar, v_spec_PutText, v_spec_PutText, v_spec_PutVar, v_spec_StrongOf, v_spec_HexText, trivial⟩
-- internal/bytealg.CountString
noncomputable def fm_bytealg_CountString : FM := ⟨.v (.one (.ty (.int .i64))), [], ⟨162, [.one (.ty .str), .one (.ty (.int .u8))], [], fun x => m_bytealg_CountString x.1.1 x.1.2.1⟩⟩
theorem v_bytealg_CountString : fm_bytealg_CountString.Valid P cx := native_str_byte (fn := f162) (by kernel_rfl) (by kernel_rfl) (by kernel_rfl) (by kernel_rfl) (by kernel_rfl) (fun s c => (Go.Lib.countByte s c : Nat)) (fun s c w => Go.Lib.run_countString s c w)
-- strings.Count
noncomputable def fm_strings_Count : FM := ⟨.v (.one (.ty (.int .i64))), [], ⟨152, [.one (.ty .str), .one (.con (.str [47]))], [], fun x => m_strings_Count x.1.1⟩⟩
noncomputable def an_strings_Count : An := .seq (.reg (no 1)) (.seq (.seq (.reg (no 3)) (.cond .leaf (.leaf))) (.seq (.seq (.reg (no 3)) (.cond (.seq (.reg [nn, nn, nn, ([], (FM.ann fm_bytealg_CountString [] [] [])), nn]) (.leaf)) .leaf)) .leaf))
theorem v_strings_Count : fm_strings_Count.Valid P cx := FX.of_ex tok mix (fn := f152) (c := codeOf f152) (an := an_strings_Count) (ms := [fm_bytealg_CountString]) (by kernel_rfl) (by kernel_rfl) (by kernel_rfl) (by kernel_rfl) (by kernel_rfl) (by kernel_rfl)
  (fun x => by kernel_rfl) (by kernel_rfl) ⟨v_bytealg_CountString, trivial⟩
-- internal/bytealg.IndexByteString
noncomputable def fm_bytealg_IndexByteString : FM := ⟨.v (.one (.ty (.int .i64))), [], ⟨163, [.one (.ty .str), .one (.ty (.int .u8))], [], fun x => m_bytealg_IndexByteString x.1.1 x.1.2.1⟩⟩
theorem v_bytealg_IndexByteString : fm_bytealg_IndexByteString.Valid P cx := native_str_byte (fn := f163) (by kernel_rfl) (by kernel_rfl) (by kernel_rfl) (by kernel_rfl) (by kernel_rfl) Go.Lib.indexByte (fun s c w => Go.Lib.run_indexByteString s c w)
-- internal/stringslite.IndexByte
noncomputable def fm_stringslite_IndexByte : FM := ⟨.v (.one (.ty (.int .i64))), [], ⟨154, [.one (.ty .str), .one (.ty (.int .u8))], [], fun x => m_stringslite_IndexByte x.1.1 x.1.2.1⟩⟩
noncomputable def an_stringslite_IndexByte : An := .seq (.reg (no 1)) (.seq (.reg [nn, nn, ([], (FM.ann fm_bytealg_IndexByteString [] [] [])), nn]) (.leaf))
theorem v_stringslite_IndexByte : fm_stringslite_IndexByte.Valid P cx := FX.of_ex tok mix (fn := f154) (c := codeOf f154) (an := an_stringslite_IndexByte) (ms := [fm_bytealg_IndexByteString]) (by kernel_rfl) (by kernel_rfl) (by kernel_rfl) (by kernel_rfl) (by kernel_rfl) (by kernel_rfl)
  (fun x => by kernel_rfl) (by kernel_rfl) ⟨v_bytealg_IndexByteString, trivial⟩
-- internal/stringslite.Index
noncomputable def fm_stringslite_Index : FM := ⟨.v (.one (.ty (.int .i64))), [], ⟨148, [.one (.ty .str), .one (.con (.str [47]))], [], fun x => m_stringslite_Index x.1.1⟩⟩
noncomputable def an_stringslite_Index : An := .seq (.reg (no 1)) (.seq (.reg (no 3)) (.seq (.block (.seq (.join false ⟨[(0, .one (.ty .str)), (1, .one (.con (.str [47]))), (5, .one (.con (.int .i64 (1)))), (16, .one (.ty .bool))], []⟩ (.reg (no 8))) (.cond (.seq (.reg (no 1)) (.leaf)) (.seq (.reg (no 3)) (.cond (.seq (.reg [nn, nn, nn, ([], (FM.ann fm_stringslite_IndexByte [] [] [])), nn]) (.leaf)) .leaf))))) .leaf))
theorem v_stringslite_Index : fm_stringslite_Index.Valid P cx := FX.of_ex tok mix (fn := f148) (c := codeOf f148) (an := an_stringslite_Index) (ms := [fm_stringslite_IndexByte]) (by kernel_rfl) (by kernel_rfl) (by kernel_rfl) (by kernel_rfl) (by kernel_rfl) (by kernel_rfl)
  (fun x => by kernel_rfl) (by kernel_rfl) ⟨v_stringslite_IndexByte, trivial⟩
-- strings.Index
noncomputable def fm_strings_Index : FM := ⟨.v (.one (.ty (.int .i64))), [], ⟨133, [.one (.ty .str), .one (.con (.str [47]))], [], fun x => m_strings_Index x.1.1⟩⟩
noncomputable def an_strings_Index : An := .seq (.reg (no 1)) (.seq (.reg [nn, nn, ([], (FM.ann fm_stringslite_Index [] [] [])), nn]) (.leaf))
theorem v_strings_Index : fm_strings_Index.Valid P cx := FX.of_ex tok mix (fn := f133) (c := codeOf f133) (an := an_strings_Index) (ms := [fm_stringslite_Index]) (by kernel_rfl) (by kernel_rfl) (by kernel_rfl) (by kernel_rfl) (by kernel_rfl) (by kernel_rfl)
  (fun x => by kernel_rfl) (by kernel_rfl) ⟨v_stringslite_Index, trivial⟩
-- strings.genSplit
noncomputable def fm_strings_genSplit : FM := ⟨.v (.one (.ty (.list .str))), [], ⟨145, [.one (.ty .str), .one (.con (.str [47])), .one (.con (.int .i64 (0))), .one (.con (.int .i64 (-1)))], [], fun x => m_strings_genSplit x.1.1⟩⟩
noncomputable def an_strings_genSplit : An := .seq (.reg (no 1)) (.seq (.seq (.reg (no 2)) (.cond .leaf (.leaf))) (.seq (.seq (.reg (no 2)) (.cond .leaf (.leaf))) (.seq (.seq (.reg (no 2)) (.cond (.reg [nn, nn, ([], (FM.ann fm_strings_Count [] [] [])), nn, nn]) .leaf)) (.seq (.reg (no 6)) (.seq (.reg [nn, ([], .key 4), nn]) (.seq (.reg (no 3)) (.seq (.reg (no 1)) (.seq (.join false ⟨[(0, .one (.ty .str)), (9, .one (.con (.rs 4))), (10, .one (.ty (.int .i64)))], [(4, .lst false .str)]⟩ (.block (.loop ⟨[(0, .one (.ty .str)), (1, .one (.con (.str [47]))), (2, .one (.con (.int .i64 (0)))), (3, .one (.ty (.int .i64))), (9, .one (.con (.rs 4))), (10, .one (.ty (.int .i64)))], [(4, .lst false .str)]⟩ (fun s => s.1.1.length + s.1.2.2.2.1.toNat + s.1.2.2.2.2.2.1.toNat + s.2.1.length + 300) (.seq (.seq (.reg (no 3)) (.cond (.leaf) (.leaf))) (.block (.seq (.reg [nn, nn, ([], (FM.ann fm_strings_Index [] [] [])), nn]) (.seq (.seq (.reg (no 2)) (.cond (.leaf) (.leaf))) (.seq (.reg (no 9)) (.seq (.reg (no 7)) (.reg (no 3))))))))))) (.seq (.reg (no 5)) (.seq (.reg [nn, nn, nn, ([.freeze 4], .no), nn]) (.leaf)))))))))))
theorem v_strings_genSplit : fm_strings_genSplit.Valid P cx := FX.of_ex tok mix (fn := f145) (c := codeOf f145) (an := an_strings_genSplit) (ms := [fm_strings_Count, fm_strings_Index]) (by kernel_rfl) (by kernel_rfl) (by kernel_rfl) (by kernel_rfl) (by kernel_rfl) (by kernel_rfl)
  (fun x => by kernel_rfl) (by kernel_rfl) ⟨v_strings_Count, v_strings_Index, trivial⟩
-- strings.Split
noncomputable def fm_strings_Split : FM := ⟨.v (.one (.ty (.list .str))), [], ⟨128, [.one (.ty .str), .one (.con (.str [47]))], [], fun x => m_strings_Split x.1.1⟩⟩
noncomputable def an_strings_Split : An := .seq (.reg (no 1)) (.seq (.reg [nn, nn, ([], (FM.ann fm_strings_genSplit [] [] [])), nn]) (.leaf))
theorem v_strings_Split : fm_strings_Split.Valid P cx := FX.of_ex tok mix (fn := f128) (c := codeOf f128) (an := an_strings_Split) (ms := [fm_strings_genSplit]) (by kernel_rfl) (by kernel_rfl) (by kernel_rfl) (by kernel_rfl) (by kernel_rfl) (by kernel_rfl)
  (fun x => by kernel_rfl) (by kernel_rfl) ⟨v_strings_genSplit, trivial⟩
-- impl.within
noncomputable def fm_impl_within : FM := ⟨.v (.one (.ty .bool)), [], ⟨104, [.one (.ty (.int .i64)), .one (.ty (.int .i64)), .one (.ty (.int .i64))], [], fun x => m_impl_within x.1.1 x.1.2.1 x.1.2.2.1⟩⟩
noncomputable def an_impl_within : An := .seq (.reg (no 1)) (.seq (.join false ⟨[(6, .one (.ty .bool))], []⟩ (.reg (no 9))) (.leaf))
theorem v_impl_within : fm_impl_within.Valid P cx := FX.of_ex tok mix (fn := f104) (c := codeOf f104) (an := an_impl_within) (ms := []) (by kernel_rfl) (by kernel_rfl) (by kernel_rfl) (by kernel_rfl) (by kernel_rfl) (by kernel_rfl)
  (fun x => by kernel_rfl) (by kernel_rfl) trivial
-- impl.NameOk
noncomputable def fm_impl_NameOk : FM := ⟨.v (.one (.ty .bool)), [], ⟨129, [.one (.ty .str)], [], fun x => m_impl_NameOk x.1.1⟩⟩
noncomputable def an_impl_NameOk : An := .seq (.reg (no 1)) (.seq (.seq (.reg (no 3)) (.join true ⟨[(0, .one (.ty .str))], []⟩ (.block (.loop ⟨[(0, .one (.ty .str)), (6, .one (.ty (.int .i64))), (7, .one (.ty (.int .i64)))], []⟩ (fun s => s.1.1.length + s.1.2.1.toNat + s.1.2.2.1.toNat + 300) (.seq (.reg (no 1)) (.seq (.cond (.leaf) (.leaf)) (.seq (.block (.seq (.reg (no 2)) (.seq (.reg (no 4)) (.seq (.join false ⟨[(0, .one (.ty .str)), (6, .one (.ty (.int .i64))), (7, .one (.ty (.int .i64))), (47, .one (.ty .bool))], []⟩ (.reg (no 35))) (.cond (.seq (.reg (no 1)) (.leaf)) (.leaf)))))) (.reg (no 2))))))))) (.seq (.join false ⟨[(2, .one (.ty .bool))], []⟩ (.reg [nn, nn, ([], (FM.ann fm_impl_within [] [] [])), nn, nn, nn, nn, nn, nn, nn, nn, nn])) (.leaf)))
theorem v_impl_NameOk : fm_impl_NameOk.Valid P cx := FX.of_ex tok mix (fn := f129) (c := codeOf f129) (an := an_impl_NameOk) (ms := [fm_impl_within]) (by kernel_rfl) (by kernel_rfl) (by kernel_rfl) (by kernel_rfl) (by kernel_rfl) (by kernel_rfl)
  (fun x => by kernel_rfl) (by kernel_rfl) ⟨v_impl_within, trivial⟩
-- impl.Names
noncomputable def fm_impl_Names : FM := ⟨.v (.one (.ty (.list .str))), [], ⟨96, [.one (.ty .str)], [], fun x => m_impl_Names x.1.1⟩⟩
noncomputable def an_impl_Names : An := .seq (.reg (no 1)) (.seq (.seq (.reg (no 3)) (.cond (.seq (.reg (no 1)) (.leaf)) (.leaf))) (.seq (.reg [nn, ([], (FM.ann fm_strings_Split [] [] [])), nn]) (.seq (.seq (.reg (no 3)) (.cond (.seq (.reg (no 1)) (.leaf)) (.leaf))) (.seq (.seq (.reg (no 3)) (.join true ⟨[(3, .one (.ty (.list .str)))], []⟩ (.block (.loop ⟨[(3, .one (.ty (.list .str))), (14, .one (.ty (.list .str))), (15, .one (.ty (.int .i64))), (16, .one (.ty (.int .i64)))], []⟩ (fun s => s.1.1.length + s.1.2.1.length + s.1.2.2.1.toNat + s.1.2.2.2.1.toNat + 300) (.seq (.reg (no 1)) (.seq (.cond (.leaf) (.leaf)) (.seq (.block (.seq (.reg (no 3)) (.seq (.reg [nn, ([], (FM.ann fm_impl_NameOk [] [] [])), nn]) (.cond (.seq (.reg (no 1)) (.leaf)) (.leaf))))) (.reg (no 2))))))))) (.seq (.reg (no 2)) (.leaf))))))
theorem v_impl_Names : fm_impl_Names.Valid P cx := FX.of_ex tok mix (fn := f96) (c := codeOf f96) (an := an_impl_Names) (ms := [fm_strings_Split, fm_impl_NameOk]) (by kernel_rfl) (by kernel_rfl) (by kernel_rfl) (by kernel_rfl) (by kernel_rfl) (by kernel_rfl)
  (fun x => by kernel_rfl) (by kernel_rfl) ⟨v_strings_Split, v_impl_NameOk, trivial⟩
-- impl.PathOk
noncomputable def fm_impl_PathOk : FM := ⟨.v (.one (.ty .bool)), [], ⟨50, [.one (.ty .str)], [], fun x => m_impl_PathOk x.1.1⟩⟩
noncomputable def an_impl_PathOk : An := .seq (.reg (no 1)) (.seq (.reg [nn, ([], (FM.ann fm_impl_Names [] [] [])), nn, nn, nn]) (.leaf))
theorem v_impl_PathOk : fm_impl_PathOk.Valid P cx := FX.of_ex tok mix (fn := f50) (c := codeOf f50) (an := an_impl_PathOk) (ms := [fm_impl_Names]) (by kernel_rfl) (by kernel_rfl) (by kernel_rfl) (by kernel_rfl) (by kernel_rfl) (by kernel_rfl)
  (fun x => by kernel_rfl) (by kernel_rfl) ⟨v_impl_Names, trivial⟩
-- internal/stringslite.Index
noncomputable def fm_stringslite_Index_2 : FM := ⟨.v (.one (.ty (.int .i64))), [], ⟨148, [.one (.ty .str), .one (.con (.str [10]))], [], fun x => m_stringslite_Index_2 x.1.1⟩⟩
noncomputable def an_stringslite_Index_2 : An := .seq (.reg (no 1)) (.seq (.reg (no 3)) (.seq (.block (.seq (.join false ⟨[(0, .one (.ty .str)), (1, .one (.con (.str [10]))), (5, .one (.con (.int .i64 (1)))), (16, .one (.ty .bool))], []⟩ (.reg (no 8))) (.cond (.seq (.reg (no 1)) (.leaf)) (.seq (.reg (no 3)) (.cond (.seq (.reg [nn, nn, nn, ([], (FM.ann fm_stringslite_IndexByte [] [] [])), nn]) (.leaf)) .leaf))))) .leaf))
theorem v_stringslite_Index_2 : fm_stringslite_Index_2.Valid P cx := FX.of_ex tok mix (fn := f148) (c := codeOf f148) (an := an_stringslite_Index_2) (ms := [fm_stringslite_IndexByte]) (by kernel_rfl) (by kernel_rfl) (by kernel_rfl) (by kernel_rfl) (by kernel_rfl) (by kernel_rfl)
  (fun x => by kernel_rfl) (by kernel_rfl) ⟨v_stringslite_IndexByte, trivial⟩
-- strings.Index
noncomputable def fm_strings_Index_2 : FM := ⟨.v (.one (.ty (.int .i64))), [], ⟨133, [.one (.ty .str), .one (.con (.str [10]))], [], fun x => m_strings_Index_2 x.1.1⟩⟩
noncomputable def an_strings_Index_2 : An := .seq (.reg (no 1)) (.seq (.reg [nn, nn, ([], (FM.ann fm_stringslite_Index_2 [] [] [])), nn]) (.leaf))
theorem v_strings_Index_2 : fm_strings_Index_2.Valid P cx := FX.of_ex tok mix (fn := f133) (c := codeOf f133) (an := an_strings_Index_2) (ms := [fm_stringslite_Index_2]) (by kernel_rfl) (by kernel_rfl) (by kernel_rfl) (by kernel_rfl) (by kernel_rfl) (by kernel_rfl)
  (fun x => by kernel_rfl) (by kernel_rfl) ⟨v_stringslite_Index_2, trivial⟩
-- strings.Contains
noncomputable def fm_strings_Contains : FM := ⟨.v (.one (.ty .bool)), [], ⟨109, [.one (.ty .str), .one (.con (.str [10]))], [], fun x => m_strings_Contains x.1.1⟩⟩
noncomputable def an_strings_Contains : An := .seq (.reg (no 1)) (.seq (.reg [nn, nn, ([], (FM.ann fm_strings_Index_2 [] [] [])), nn, nn]) (.leaf))
theorem v_strings_Contains : fm_strings_Contains.Valid P cx := FX.of_ex tok mix (fn := f109) (c := codeOf f109) (an := an_strings_Contains) (ms := [fm_strings_Index_2]) (by kernel_rfl) (by kernel_rfl) (by kernel_rfl) (by kernel_rfl) (by kernel_rfl) (by kernel_rfl)
  (fun x => by kernel_rfl) (by kernel_rfl) ⟨v_strings_Index_2, trivial⟩
-- impl.NodeOk
noncomputable def fm_impl_NodeOk : FM := ⟨.v (.one (.ty .bool)), [], ⟨66, [.str tN], [], fun x => m_impl_NodeOk x.1.1⟩⟩
noncomputable def an_impl_NodeOk : An := .seq (.reg [([], .key 4), nn]) (.seq (.seq (.join false ⟨[(1, .one (.con (.ref 4 0))), (18, .one (.ty .bool))], [(4, .box cN)]⟩ (.reg [nn, nn, ([], (FM.ann fm_impl_PathOk [] [] [])), nn, nn, nn, nn, ([], (FM.ann fm_impl_within [] [] [])), nn, nn, nn, nn, nn, ([], (FM.ann fm_impl_within [] [] [])), nn, nn])) (.cond (.seq (.reg (no 1)) (.leaf)) (.leaf))) (.seq (.seq (.reg (no 2)) (.block (.seq (.reg (no 2)) (.cond (.seq (.join false ⟨[(2, .one (.ty .bool))], []⟩ (.reg (no 14))) (.leaf)) (.seq (.reg (no 2)) (.cond (.seq (.join false ⟨[(2, .one (.ty .bool))], []⟩ (.reg [nn, nn, nn, nn, nn, nn, nn, nn, nn, nn, nn, nn, ([], (FM.ann fm_impl_within [] [] [])), nn, nn])) (.leaf)) (.seq (.reg (no 2)) (.cond (.seq (.join false ⟨[(2, .one (.ty .bool))], []⟩ (.reg [nn, nn, nn, nn, nn, nn, nn, nn, nn, nn, nn, nn, nn, nn, nn, nn, nn, ([], (FM.ann fm_impl_within [] [] [])), nn, nn, nn, nn, ([], (FM.ann fm_strings_Contains [] [] [])), nn, nn, nn])) (.leaf)) (.leaf))))))))) (.seq (.reg (no 1)) (.leaf))))
theorem v_impl_NodeOk : fm_impl_NodeOk.Valid P cx := FX.of_ex tok mix (fn := f66) (c := codeOf f66) (an := an_impl_NodeOk) (ms := [fm_impl_PathOk, fm_impl_within, fm_impl_within, fm_impl_within, fm_impl_within, fm_strings_Contains]) (by kernel_rfl) (by kernel_rfl) (by kernel_rfl) (by kernel_rfl) (by kernel_rfl) (by kernel_rfl)
  (fun x => by kernel_rfl) (by kernel_rfl) ⟨v_impl_PathOk, v_impl_within, v_impl_within, v_impl_within, v_impl_within, v_strings_Contains, trivial⟩
-- strings.Join
noncomputable def fm_strings_Join : FM := ⟨.v (.one (.ty .str)), [], ⟨111, [.one (.ty (.list .str)), .one (.ty .str)], [], fun x => m_strings_Join x.1.1 x.1.2.1⟩⟩
theorem v_strings_Join : fm_strings_Join.Valid P cx := join_valid lays156 extra156
-- impl.ParentOf
noncomputable def fm_impl_ParentOf : FM := ⟨.v (.one (.ty .str)), [], ⟨68, [.one (.ty .str)], [], fun x => m_impl_ParentOf x.1.1⟩⟩
noncomputable def an_impl_ParentOf : An := .seq (.reg (no 1)) (.seq (.reg [nn, ([], (FM.ann fm_impl_Names [] [] [])), nn]) (.seq (.seq (.reg (no 3)) (.cond (.seq (.reg (no 1)) (.leaf)) (.leaf))) (.seq (.reg [nn, nn, nn, nn, nn, ([], (FM.ann fm_strings_Join [] [] [])), nn]) (.leaf))))
theorem v_impl_ParentOf : fm_impl_ParentOf.Valid P cx := FX.of_ex tok mix (fn := f68) (c := codeOf f68) (an := an_impl_ParentOf) (ms := [fm_impl_Names, fm_strings_Join]) (by kernel_rfl) (by kernel_rfl) (by kernel_rfl) (by kernel_rfl) (by kernel_rfl) (by kernel_rfl)
  (fun x => by kernel_rfl) (by kernel_rfl) ⟨v_impl_Names, v_strings_Join, trivial⟩
-- internal/bytealg.abigen_runtime_cmpstring
noncomputable def fm_bytealg_abigen_runtime_cmpstring : FM := ⟨.v (.one (.ty (.int .i64))), [], ⟨147, [.one (.ty .str), .one (.ty .str)], [], fun x => m_bytealg_abigen_runtime_cmpstring x.1.1 x.1.2.1⟩⟩
theorem v_bytealg_abigen_runtime_cmpstring : fm_bytealg_abigen_runtime_cmpstring.Valid P cx := native_str_str (fn := f147) (by kernel_rfl) (by kernel_rfl) (by kernel_rfl) (by kernel_rfl) (by kernel_rfl) Go.Lib.compareBytes (fun s c w => Go.Lib.run_compareString s c w)
-- internal/bytealg.CompareString
noncomputable def fm_bytealg_CompareString : FM := ⟨.v (.one (.ty (.int .i64))), [], ⟨132, [.one (.ty .str), .one (.ty .str)], [], fun x => m_bytealg_CompareString x.1.1 x.1.2.1⟩⟩
noncomputable def an_bytealg_CompareString : An := .seq (.reg (no 1)) (.seq (.reg [nn, nn, ([], (FM.ann fm_bytealg_abigen_runtime_cmpstring [] [] [])), nn]) (.leaf))
theorem v_bytealg_CompareString : fm_bytealg_CompareString.Valid P cx := FX.of_ex tok mix (fn := f132) (c := codeOf f132) (an := an_bytealg_CompareString) (ms := [fm_bytealg_abigen_runtime_cmpstring]) (by kernel_rfl) (by kernel_rfl) (by kernel_rfl) (by kernel_rfl) (by kernel_rfl) (by kernel_rfl)
  (fun x => by kernel_rfl) (by kernel_rfl) ⟨v_bytealg_abigen_runtime_cmpstring, trivial⟩
-- strings.Compare
noncomputable def fm_strings_Compare : FM := ⟨.v (.one (.ty (.int .i64))), [], ⟨108, [.one (.ty .str), .one (.ty .str)], [], fun x => m_strings_Compare x.1.1 x.1.2.1⟩⟩
noncomputable def an_strings_Compare : An := .seq (.reg (no 1)) (.seq (.reg [nn, nn, ([], (FM.ann fm_bytealg_CompareString [] [] [])), nn]) (.leaf))
theorem v_strings_Compare : fm_strings_Compare.Valid P cx := FX.of_ex tok mix (fn := f108) (c := codeOf f108) (an := an_strings_Compare) (ms := [fm_bytealg_CompareString]) (by kernel_rfl) (by kernel_rfl) (by kernel_rfl) (by kernel_rfl) (by kernel_rfl) (by kernel_rfl)
  (fun x => by kernel_rfl) (by kernel_rfl) ⟨v_bytealg_CompareString, trivial⟩
-- impl.place$1
noncomputable def fm_impl_place_1 : FM := ⟨.v (.one (.ty (.int .i64))), [], ⟨107, [.str tN, .one (.ty .str)], [], fun x => m_impl_place_1 x.1.1 x.1.2.1⟩⟩
noncomputable def an_impl_place_1 : An := .seq (.reg [([], .key 4), nn]) (.seq (.reg [nn, nn, nn, ([], (FM.ann fm_strings_Compare [] [] [])), nn]) (.leaf))
theorem v_impl_place_1 : fm_impl_place_1.Valid P cx := FX.of_ex tok mix (fn := f107) (c := codeOf f107) (an := an_impl_place_1) (ms := [fm_strings_Compare]) (by kernel_rfl) (by kernel_rfl) (by kernel_rfl) (by kernel_rfl) (by kernel_rfl) (by kernel_rfl)
  (fun x => by kernel_rfl) (by kernel_rfl) ⟨v_strings_Compare, trivial⟩
-- slices.BinarySearchFunc[[]impl.Node,impl.Node,string]
noncomputable def fm_slices_BinarySearchFunc_impl_Node_impl_Node_string : FM := ⟨.tup [(.one (.ty (.int .i64))), (.one (.ty .bool))], [], ⟨106, [.one (.ty (.list tN)), .one (.ty .str), .one (.con (.fn 107 []))], [], fun x => m_slices_BinarySearchFunc_impl_Node_impl_Node_string x.1.1 x.1.2.1⟩⟩
noncomputable def an_slices_BinarySearchFunc_impl_Node_impl_Node_string : An := .seq (.reg (no 2)) (.seq (.reg (no 3)) (.seq (.reg (no 3)) (.seq (.join false ⟨[(0, .one (.ty (.list tN))), (1, .one (.ty .str)), (2, .one (.con (.fn 107 []))), (8, .one (.ty (.int .i64))), (9, .one (.ty (.int .i64)))], []⟩ (.block (.loop ⟨[(0, .one (.ty (.list tN))), (1, .one (.ty .str)), (2, .one (.con (.fn 107 []))), (8, .one (.ty (.int .i64))), (9, .one (.ty (.int .i64))), (10, .one (.ty (.int .i64)))], []⟩ (fun s => s.1.1.length + s.1.2.1.length + s.1.2.2.2.1.toNat + s.1.2.2.2.2.1.toNat + s.1.2.2.2.2.2.1.toNat + 300) (.seq (.seq (.reg (no 3)) (.cond (.leaf) (.leaf))) (.block (.seq (.reg (no 7)) (.seq (.reg [nn, nn, nn, nn, nn, nn, ([], (FM.ann fm_impl_place_1 [] [] [])), nn]) (.join false ⟨[(0, .one (.ty (.list tN))), (1, .one (.ty .str)), (2, .one (.con (.fn 107 []))), (8, .one (.ty (.int .i64))), (9, .one (.ty (.int .i64))), (10, .one (.ty (.int .i64)))], []⟩ (.cond (.reg (no 3)) (.reg (no 2))))))))))) (.seq (.join false ⟨[(6, .one (.ty (.int .i64))), (7, .one (.ty .bool))], []⟩ (.reg [nn, nn, nn, nn, nn, nn, nn, nn, nn, nn, nn, ([], (FM.ann fm_impl_place_1 [] [] [])), nn, nn, nn, nn])) (.leaf)))))
theorem v_slices_BinarySearchFunc_impl_Node_impl_Node_string : fm_slices_BinarySearchFunc_impl_Node_impl_Node_string.Valid P cx := FX.of_ex tok mix (fn := f106) (c := codeOf f106) (an := an_slices_BinarySearchFunc_impl_Node_impl_Node_string) (ms := [fm_impl_place_1, fm_impl_place_1]) (by kernel_rfl) (by kernel_rfl) (by kernel_rfl) (by kernel_rfl) (by kernel_rfl) (by kernel_rfl)
  (fun x => by kernel_rfl) (by kernel_rfl) ⟨v_impl_place_1, v_impl_place_1, trivial⟩
-- impl.place
noncomputable def fm_impl_place : FM := ⟨.tup [(.one (.ty (.int .i64))), (.one (.ty .bool))], [], ⟨63, [.one (.ty (.list tN)), .one (.ty .str)], [], fun x => m_impl_place x.1.1 x.1.2.1⟩⟩
noncomputable def an_impl_place : An := .seq (.reg (no 2)) (.seq (.reg [nn, nn, ([], (FM.ann fm_slices_BinarySearchFunc_impl_Node_impl_Node_string [] [] [])), nn, nn, nn, nn]) (.leaf))
theorem v_impl_place : fm_impl_place.Valid P cx := FX.of_ex tok mix (fn := f63) (c := codeOf f63) (an := an_impl_place) (ms := [fm_slices_BinarySearchFunc_impl_Node_impl_Node_string]) (by kernel_rfl) (by kernel_rfl) (by kernel_rfl) (by kernel_rfl) (by kernel_rfl) (by kernel_rfl)
  (fun x => by kernel_rfl) (by kernel_rfl) ⟨v_slices_BinarySearchFunc_impl_Node_impl_Node_string, trivial⟩
-- impl.isDirIn
noncomputable def fm_impl_isDirIn : FM := ⟨.v (.one (.ty .bool)), [], ⟨74, [.one (.ty (.list tN)), .one (.ty .str)], [], fun x => m_impl_isDirIn x.1.1 x.1.2.1⟩⟩
noncomputable def an_impl_isDirIn : An := .seq (.reg (no 1)) (.seq (.reg [nn, nn, ([], (FM.ann fm_impl_place [] [] [])), nn, nn, nn, nn, nn]) (.seq (.join false ⟨[(4, .one (.ty .bool))], []⟩ (.reg (no 14))) (.leaf)))
theorem v_impl_isDirIn : fm_impl_isDirIn.Valid P cx := FX.of_ex tok mix (fn := f74) (c := codeOf f74) (an := an_impl_isDirIn) (ms := [fm_impl_place]) (by kernel_rfl) (by kernel_rfl) (by kernel_rfl) (by kernel_rfl) (by kernel_rfl) (by kernel_rfl)
  (fun x => by kernel_rfl) (by kernel_rfl) ⟨v_impl_place, trivial⟩
-- impl.isAlike
noncomputable def fm_impl_isAlike : FM := ⟨.v (.one (.ty .bool)), [], ⟨75, [.str tN, .str tN], [], fun x => m_impl_isAlike x.1.1 x.1.2.1⟩⟩
noncomputable def an_impl_isAlike : An := .seq (.reg [([], .key 4), ([], .key 5), nn]) (.seq (.join false ⟨[(4, .one (.ty .bool))], []⟩ (.reg (no 20))) (.leaf))
theorem v_impl_isAlike : fm_impl_isAlike.Valid P cx := FX.of_ex tok mix (fn := f75) (c := codeOf f75) (an := an_impl_isAlike) (ms := []) (by kernel_rfl) (by kernel_rfl) (by kernel_rfl) (by kernel_rfl) (by kernel_rfl) (by kernel_rfl)
  (fun x => by kernel_rfl) (by kernel_rfl) trivial
-- impl.areSmall
noncomputable def fm_impl_areSmall : FM := ⟨.v (.one (.ty .bool)), [], ⟨76, [.one (.ty (.list tN))], [], fun x => m_impl_areSmall x.1.1⟩⟩
noncomputable def an_impl_areSmall : An := .seq (.reg (no 1)) (.seq (.reg (no 1)) (.seq (.seq (.reg (no 3)) (.join false ⟨[(0, .one (.ty (.list tN))), (3, .one (.ty (.int .i64)))], []⟩ (.block (.loop ⟨[(0, .one (.ty (.list tN))), (3, .one (.ty (.int .i64))), (6, .one (.ty (.list tN))), (7, .one (.ty (.int .i64))), (8, .one (.ty (.int .i64)))], []⟩ (fun s => s.1.1.length + s.1.2.1.toNat + s.1.2.2.1.length + s.1.2.2.2.1.toNat + s.1.2.2.2.2.1.toNat + 300) (.seq (.reg (no 1)) (.seq (.cond (.leaf) (.leaf)) (.seq (.block (.seq (.reg [nn, nn, ([], .key 4), nn]) (.reg (no 6)))) (.reg (no 2))))))))) (.seq (.join false ⟨[(2, .one (.ty .bool))], []⟩ (.reg (no 8))) (.leaf))))
theorem v_impl_areSmall : fm_impl_areSmall.Valid P cx := FX.of_ex tok mix (fn := f76) (c := codeOf f76) (an := an_impl_areSmall) (ms := []) (by kernel_rfl) (by kernel_rfl) (by kernel_rfl) (by kernel_rfl) (by kernel_rfl) (by kernel_rfl)
  (fun x => by kernel_rfl) (by kernel_rfl) trivial
-- impl.TreeOk
noncomputable def fm_impl_TreeOk : FM := ⟨.v (.one (.ty .bool)), [], ⟨36, [.one (.ty (.list tN))], [], fun x => m_impl_TreeOk x.1.1⟩⟩
noncomputable def an_impl_TreeOk : An := .seq (.reg (no 1)) (.seq (.seq (.reg (no 3)) (.cond (.seq (.reg (no 1)) (.leaf)) (.leaf))) (.seq (.reg [([], .key 4), nn]) (.seq (.reg [([], .key 5), nn]) (.seq (.seq (.reg (no 3)) (.join true ⟨[(0, .one (.ty (.list tN))), (4, .one (.con (.rm 5)))], [(5, .mp (.int .i64) (.int .i64) false)]⟩ (.block (.loop ⟨[(0, .one (.ty (.list tN))), (3, .one (.con (.rm 4))), (4, .one (.con (.rm 5))), (16, .one (.ty (.list tN))), (17, .one (.ty (.int .i64))), (18, .one (.ty (.int .i64)))], [(4, .mp (.int .i64) tN true), (5, .mp (.int .i64) (.int .i64) false)]⟩ (fun s => s.1.1.length + s.1.2.2.2.1.length + s.1.2.2.2.2.1.toNat + s.1.2.2.2.2.2.1.toNat + s.2.1.length + s.2.2.1.length + 300) (.seq (.reg (no 1)) (.seq (.cond (.leaf) (.leaf)) (.seq (.join true ⟨[(0, .one (.ty (.list tN))), (3, .one (.con (.rm 4))), (4, .one (.con (.rm 5))), (16, .one (.ty (.list tN))), (17, .one (.ty (.int .i64))), (18, .one (.ty (.int .i64)))], [(4, .mp (.int .i64) tN true), (5, .mp (.int .i64) (.int .i64) false)]⟩ (.block (.seq (.reg [nn, nn, nn, ([], .key 6), nn, nn]) (.seq (.seq (.join false ⟨[(0, .one (.ty (.list tN))), (3, .one (.con (.rm 4))), (4, .one (.con (.rm 5))), (6, .one (.con (.ref 6 0))), (16, .one (.ty (.list tN))), (17, .one (.ty (.int .i64))), (18, .one (.ty (.int .i64))), (50, .one (.ty .bool))], [(4, .mp (.int .i64) tN true), (5, .mp (.int .i64) (.int .i64) false), (6, .box cN)]⟩ (.reg [nn, ([], (FM.ann fm_impl_NodeOk [] [] [])), nn, nn, nn, nn, nn, nn, nn, nn, nn, nn, nn, nn, nn, nn, nn, nn, nn, nn, nn, nn, nn, nn, ([], (FM.ann fm_impl_ParentOf [] [] [])), ([], (FM.ann fm_impl_isDirIn [] [] [])), nn, nn])) (.cond (.seq (.reg (no 1)) (.leaf)) (.leaf))) (.seq (.seq (.reg (no 3)) (.cond (.leaf) (.leaf))) (.seq (.seq (.reg [nn, nn, nn, nn, nn, nn, nn, ([], .key 7), nn, nn]) (.seq (.join false ⟨[(0, .one (.ty (.list tN))), (3, .one (.con (.rm 4))), (4, .one (.con (.rm 5))), (6, .one (.con (.ref 6 0))), (16, .one (.ty (.list tN))), (17, .one (.ty (.int .i64))), (18, .one (.ty (.int .i64))), (67, .one (.ty .bool))], [(4, .mp (.int .i64) tN true), (5, .mp (.int .i64) (.int .i64) false), (6, .box cN)]⟩ (.reg [nn, nn, nn, nn, ([], (FM.ann fm_impl_isAlike [] [] [])), nn, nn])) (.cond (.seq (.reg (no 1)) (.leaf)) (.leaf)))) (.seq (.reg (no 5)) (.reg (no 6))))))))) (.reg (no 2))))))))) (.seq (.rng [0] 5 (.seq (.reg (no 1)) (.leaf))) (.seq (.reg [nn, ([], (FM.ann fm_impl_areSmall [] [] [])), nn]) (.leaf)))))))
theorem v_impl_TreeOk : fm_impl_TreeOk.Valid P cx := FX.of_ex tok mix (fn := f36) (c := codeOf f36) (an := an_impl_TreeOk) (ms := [fm_impl_NodeOk, fm_impl_ParentOf, fm_impl_isDirIn, fm_impl_isAlike, fm_impl_areSmall]) (by kernel_rfl) (by kernel_rfl) (by kernel_rfl) (by kernel_rfl) (by kernel_rfl) (by kernel_rfl)
  (fun x => by kernel_rfl) (by kernel_rfl) ⟨v_impl_NodeOk, v_impl_ParentOf, v_impl_isDirIn, v_impl_isAlike, v_impl_areSmall, trivial⟩
-- (*strings.Builder).copyCheck
noncomputable def fm_strings_Builder_copyCheck : FM := ⟨.tup [], [.bd 94 (.con (.rs 1)), .brow 5], ⟨121, [.one (.con (.ref 0 0))], [.bd 94 (.con (.rs 1)), .brow 5], fun x => m_strings_Builder_copyCheck x.2.1 x.2.2.1⟩⟩
theorem v_strings_Builder_copyCheck : fm_strings_Builder_copyCheck.Valid P cx := copyCheck_valid156 lays156 extra156
-- (*strings.Builder).WriteByte
noncomputable def fm_strings_Builder_WriteByte : FM := ⟨.v (.one (.con .top)), [.bd 94 (.con (.rs 1)), .brow 5], ⟨122, [.one (.con (.ref 0 0)), .one (.ty (.int .u8))], [.bd 94 (.con (.rs 1)), .brow 5], fun x => m_strings_Builder_WriteByte x.1.2.1 x.2.1 x.2.2.1⟩⟩
noncomputable def an_strings_Builder_WriteByte : An := .seq (.reg (no 1)) (.seq (.reg [nn, ([], (FM.ann fm_strings_Builder_copyCheck [0, 1] [] []))]) (.seq (.reg [nn, nn, nn, nn, nn, nn, ([], .key 6), nn, nn, nn, nn]) (.seq (.reg (no 1)) (.leaf))))
theorem v_strings_Builder_WriteByte : fm_strings_Builder_WriteByte.Valid P cx := FX.of_ex tok mix (fn := f122) (c := codeOf f122) (an := an_strings_Builder_WriteByte) (ms := [fm_strings_Builder_copyCheck]) (by kernel_rfl) (by kernel_rfl) (by kernel_rfl) (by kernel_rfl) (by kernel_rfl) (by kernel_rfl)
  (fun x => by kernel_rfl) (by kernel_rfl) ⟨v_strings_Builder_copyCheck, trivial⟩
-- (*strings.Builder).String
noncomputable def fm_strings_Builder_String : FM := ⟨.v (.one (.ty .str)), [.bd 94 (.con .top), .brow 5], ⟨88, [.one (.con (.ref 0 0))], [.bd 94 (.con (.rs 1)), .brow 5], fun x => m_strings_Builder_String x.2.1 x.2.2.1⟩⟩
theorem v_strings_Builder_String : fm_strings_Builder_String.Valid P cx := string_valid lays169 extra169
-- impl.varText
noncomputable def fm_impl_varText : FM := ⟨.v (.one (.ty .str)), [], ⟨84, [.one (.ty (.int .i64))], [], fun x => m_impl_varText x.1.1⟩⟩
noncomputable def an_impl_varText : An := .seq (.reg (no 1)) (.seq (.reg [([], .keyB 4)]) (.seq (.join false ⟨[(0, .one (.ty (.int .i64))), (3, .one (.con (.ref 4 0)))], [(4, .bd 94 (.con (.rs 5))), (5, .brow 5)]⟩ (.block (.gh [.nilRow 4 5 5] (.loop ⟨[(0, .one (.ty (.int .i64))), (3, .one (.con (.ref 4 0)))], [(4, .bd 94 (.con (.rs 5))), (5, .brow 5)]⟩ (fun s => s.1.1.toNat + s.2.2.1.length + 300) (.seq (.seq (.reg (no 2)) (.cond (.leaf) (.leaf))) (.seq (.block (.reg [nn, nn, nn, nn, ([], (FM.ann fm_strings_Builder_WriteByte [4, 5] [] []))])) (.reg (no 3)))))))) (.seq (.reg [nn, nn, ([], (FM.ann fm_strings_Builder_WriteByte [4, 5] [] []))]) (.seq (.reg [([], (FM.ann fm_strings_Builder_String [4, 5] [] [])), nn]) (.leaf)))))
theorem v_impl_varText : fm_impl_varText.Valid P cx := FX.of_ex tok mix (fn := f84) (c := codeOf f84) (an := an_impl_varText) (ms := [fm_strings_Builder_WriteByte, fm_strings_Builder_WriteByte, fm_strings_Builder_String]) (by kernel_rfl) (by kernel_rfl) (by kernel_rfl) (by kernel_rfl) (by kernel_rfl) (by kernel_rfl)
  (fun x => by kernel_rfl) (by kernel_rfl) ⟨v_strings_Builder_WriteByte, v_strings_Builder_WriteByte, v_strings_Builder_String, trivial⟩
-- impl.putText
noncomputable def fm_impl_putText : FM := ⟨.v (.one (.ty .str)), [], ⟨83, [.one (.ty .str)], [], fun x => m_impl_putText x.1.1⟩⟩
noncomputable def an_impl_putText : An := .seq (.reg (no 1)) (.seq (.reg [nn, nn, ([], (FM.ann fm_impl_varText [] [] [])), nn, nn, nn]) (.leaf))
theorem v_impl_putText : fm_impl_putText.Valid P cx := FX.of_ex tok mix (fn := f83) (c := codeOf f83) (an := an_impl_putText) (ms := [fm_impl_varText]) (by kernel_rfl) (by kernel_rfl) (by kernel_rfl) (by kernel_rfl) (by kernel_rfl) (by kernel_rfl)
  (fun x => by kernel_rfl) (by kernel_rfl) ⟨v_impl_varText, trivial⟩
-- (*strings.Builder).WriteString
noncomputable def fm_strings_Builder_WriteString : FM := ⟨.tup [(.one (.ty (.int .i64))), (.one (.con .top))], [.bd 94 (.con (.rs 1)), .brow 5], ⟨82, [.one (.con (.ref 0 0)), .one (.ty .str)], [.bd 94 (.con (.rs 1)), .brow 5], fun x => m_strings_Builder_WriteString x.1.2.1 x.2.1 x.2.2.1⟩⟩
noncomputable def an_strings_Builder_WriteString : An := .seq (.reg (no 2)) (.seq (.reg [nn, ([], (FM.ann fm_strings_Builder_copyCheck [0, 1] [] []))]) (.seq (.reg (no 10)) (.seq (.reg (no 4)) (.leaf))))
theorem v_strings_Builder_WriteString : fm_strings_Builder_WriteString.Valid P cx := FX.of_ex tok mix (fn := f82) (c := codeOf f82) (an := an_strings_Builder_WriteString) (ms := [fm_strings_Builder_copyCheck]) (by kernel_rfl) (by kernel_rfl) (by kernel_rfl) (by kernel_rfl) (by kernel_rfl) (by kernel_rfl)
  (fun x => by kernel_rfl) (by kernel_rfl) ⟨v_strings_Builder_copyCheck, trivial⟩
-- (*strings.Builder).Len
noncomputable def fm_strings_Builder_Len : FM := ⟨.v (.one (.ty (.int .i64))), [.bd 94 (.con (.rs 1)), .brow 5], ⟨85, [.one (.con (.ref 0 0))], [.bd 94 (.con (.rs 1)), .brow 5], fun x => m_strings_Builder_Len x.2.1 x.2.2.1⟩⟩
noncomputable def an_strings_Builder_Len : An := .seq (.reg (no 1)) (.seq (.reg (no 6)) (.leaf))
theorem v_strings_Builder_Len : fm_strings_Builder_Len.Valid P cx := FX.of_ex tok mix (fn := f85) (c := codeOf f85) (an := an_strings_Builder_Len) (ms := []) (by kernel_rfl) (by kernel_rfl) (by kernel_rfl) (by kernel_rfl) (by kernel_rfl) (by kernel_rfl)
  (fun x => by kernel_rfl) (by kernel_rfl) trivial
-- impl.wordText
noncomputable def fm_impl_wordText : FM := ⟨.v (.one (.ty .str)), [], ⟨125, [.one (.ty (.int .u32))], [], fun x => m_impl_wordText x.1.1⟩⟩
noncomputable def an_impl_wordText : An := .seq (.reg (no 1)) (.seq (.reg [nn, nn, nn, nn, nn, nn, nn, nn, nn, nn, nn, ([], .key 4), nn, nn]) (.leaf))
theorem v_impl_wordText : fm_impl_wordText.Valid P cx := FX.of_ex tok mix (fn := f125) (c := codeOf f125) (an := an_impl_wordText) (ms := []) (by kernel_rfl) (by kernel_rfl) (by kernel_rfl) (by kernel_rfl) (by kernel_rfl) (by kernel_rfl)
  (fun x => by kernel_rfl) (by kernel_rfl) trivial
-- impl.padded
noncomputable def fm_impl_padded : FM := ⟨.v (.one (.ty .str)), [], ⟨123, [.one (.ty .str)], [], fun x => m_impl_padded x.1.1⟩⟩
noncomputable def an_impl_padded : An := .seq (.reg (no 1)) (.seq (.reg [nn, ([], .key 4), ([], .key 5), nn, nn]) (.seq (.join false ⟨[(0, .one (.ty .str)), (3, .one (.con (.rs 4)))], [(4, .lst false (.int .u8))]⟩ (.block (.loop ⟨[(0, .one (.ty .str)), (3, .one (.con (.rs 4)))], [(4, .lst false (.int .u8))]⟩ (fun s => s.1.1.length + s.2.1.length + 300) (.seq (.seq (.reg (no 4)) (.cond (.leaf) (.leaf))) (.block (.reg [nn, ([], .key 6), nn, nn])))))) (.seq (.reg (no 4)) (.seq (.reg [nn, nn, nn, nn, ([], (FM.ann fm_impl_wordText [] [] [])), nn, nn, nn, nn, ([], (FM.ann fm_impl_wordText [] [] [])), nn, nn]) (.leaf)))))
theorem v_impl_padded : fm_impl_padded.Valid P cx := FX.of_ex tok mix (fn := f123) (c := codeOf f123) (an := an_impl_padded) (ms := [fm_impl_wordText, fm_impl_wordText]) (by kernel_rfl) (by kernel_rfl) (by kernel_rfl) (by kernel_rfl) (by kernel_rfl) (by kernel_rfl)
  (fun x => by kernel_rfl) (by kernel_rfl) ⟨v_impl_wordText, v_impl_wordText, trivial⟩
-- impl.readWord
noncomputable def fm_impl_readWord : FM := ⟨.v (.one (.ty (.int .u32))), [], ⟨143, [.one (.ty .str)], [], fun x => m_impl_readWord x.1.1⟩⟩
noncomputable def an_impl_readWord : An := .seq (.reg (no 1)) (.seq (.reg (no 19)) (.leaf))
theorem v_impl_readWord : fm_impl_readWord.Valid P cx := FX.of_ex tok mix (fn := f143) (c := codeOf f143) (an := an_impl_readWord) (ms := []) (by kernel_rfl) (by kernel_rfl) (by kernel_rfl) (by kernel_rfl) (by kernel_rfl) (by kernel_rfl)
  (fun x => by kernel_rfl) (by kernel_rfl) trivial
-- math/bits.RotateLeft32
noncomputable def fm_bits_RotateLeft32 : FM := ⟨.v (.one (.ty (.int .u32))), [], ⟨144, [.one (.ty (.int .u32)), .one (.ty (.int .i64))], [], fun x => m_bits_RotateLeft32 x.1.1 x.1.2.1⟩⟩
noncomputable def an_bits_RotateLeft32 : An := .seq (.reg (no 1)) (.seq (.reg (no 4)) (.seq (.reg (no 9)) (.leaf)))
theorem v_bits_RotateLeft32 : fm_bits_RotateLeft32.Valid P cx := FX.of_ex tok mix (fn := f144) (c := codeOf f144) (an := an_bits_RotateLeft32) (ms := []) (by kernel_rfl) (by kernel_rfl) (by kernel_rfl) (by kernel_rfl) (by kernel_rfl) (by kernel_rfl)
  (fun x => by kernel_rfl) (by kernel_rfl) trivial
-- impl.mix
noncomputable def fm_impl_mix : FM := ⟨.v (.str (.arr 4 (.int .u32))), [], ⟨124, [.str (.arr 4 (.int .u32)), .one (.ty .str)], [], fun x => m_impl_mix x.1.1 x.1.2.1⟩⟩
noncomputable def an_impl_mix : An := .seq (.reg [([], .keyT 4 (.arr 4 (.int .u32))), ([], .keyT 5 (.arr 4 (.int .u32)))]) (.seq (.reg (no 12)) (.seq (.seq (.reg (no 1)) (.join false ⟨[(2, .one (.con (.ref 4 0))), (4, .one (.con (.ref 5 0))), (5, .one (.ty (.int .u32))), (6, .one (.ty (.int .u32))), (7, .one (.ty (.int .u32))), (8, .one (.ty (.int .u32)))], [(4, .tb (.arr 4 (.int .u32))), (5, .tb (.arr 4 (.int .u32)))]⟩ (.block (.loop ⟨[(1, .one (.ty .str)), (2, .one (.con (.ref 4 0))), (4, .one (.con (.ref 5 0))), (5, .one (.ty (.int .u32))), (6, .one (.ty (.int .u32))), (7, .one (.ty (.int .u32))), (8, .one (.ty (.int .u32))), (21, .one (.ty (.int .i64)))], [(4, .tb (.arr 4 (.int .u32))), (5, .tb (.arr 4 (.int .u32)))]⟩ (fun s => s.1.1.length + s.1.2.2.2.1.toNat + s.1.2.2.2.2.1.toNat + s.1.2.2.2.2.2.1.toNat + s.1.2.2.2.2.2.2.1.toNat + s.1.2.2.2.2.2.2.2.1.toNat + 300) (.seq (.reg (no 1)) (.seq (.cond (.leaf) (.leaf)) (.seq (.block (.seq (.reg (no 2)) (.seq (.reg (no 1)) (.seq (.reg (no 1)) (.seq (.seq (.reg (no 2)) (.block (.seq (.reg (no 2)) (.join false ⟨[(1, .one (.ty .str)), (2, .one (.con (.ref 4 0))), (4, .one (.con (.ref 5 0))), (5, .one (.ty (.int .u32))), (6, .one (.ty (.int .u32))), (7, .one (.ty (.int .u32))), (8, .one (.ty (.int .u32))), (9, .one (.ty (.int .i64))), (10, .one (.ty (.int .u32))), (11, .one (.ty (.int .i64))), (21, .one (.ty (.int .i64)))], [(4, .tb (.arr 4 (.int .u32))), (5, .tb (.arr 4 (.int .u32)))]⟩ (.cond (.reg (no 11)) (.seq (.reg (no 2)) (.join false ⟨[(1, .one (.ty .str)), (2, .one (.con (.ref 4 0))), (4, .one (.con (.ref 5 0))), (5, .one (.ty (.int .u32))), (6, .one (.ty (.int .u32))), (7, .one (.ty (.int .u32))), (8, .one (.ty (.int .u32))), (9, .one (.ty (.int .i64))), (10, .one (.ty (.int .u32))), (11, .one (.ty (.int .i64))), (21, .one (.ty (.int .i64)))], [(4, .tb (.arr 4 (.int .u32))), (5, .tb (.arr 4 (.int .u32)))]⟩ (.cond (.reg (no 14)) (.seq (.reg (no 2)) (.join false ⟨[(1, .one (.ty .str)), (2, .one (.con (.ref 4 0))), (4, .one (.con (.ref 5 0))), (5, .one (.ty (.int .u32))), (6, .one (.ty (.int .u32))), (7, .one (.ty (.int .u32))), (8, .one (.ty (.int .u32))), (9, .one (.ty (.int .i64))), (10, .one (.ty (.int .u32))), (11, .one (.ty (.int .i64))), (21, .one (.ty (.int .i64)))], [(4, .tb (.arr 4 (.int .u32))), (5, .tb (.arr 4 (.int .u32)))]⟩ (.cond (.reg (no 11)) (.reg (no 11))))))))))))) (.seq (.reg [nn, nn, nn, nn, nn, nn, nn, nn, nn, nn, nn, ([], (FM.ann fm_impl_readWord [] [] [])), nn, nn]) (.reg [nn, nn, nn, nn, nn, nn, nn, nn, nn, nn, ([], (FM.ann fm_bits_RotateLeft32 [] [] [])), nn, nn, nn, nn, nn, nn, nn]))))))) (.reg (no 2))))))))) (.seq (.reg (no 18)) (.leaf))))
theorem v_impl_mix : fm_impl_mix.Valid P cx := FX.of_ex tok mix (fn := f124) (c := codeOf f124) (an := an_impl_mix) (ms := [fm_impl_readWord, fm_bits_RotateLeft32]) (by kernel_rfl) (by kernel_rfl) (by kernel_rfl) (by kernel_rfl) (by kernel_rfl) (by kernel_rfl)
  (fun x => by kernel_rfl) (by kernel_rfl) ⟨v_impl_readWord, v_bits_RotateLeft32, trivial⟩
-- impl.strong
noncomputable def fm_impl_strong : FM := ⟨.v (.one (.ty .str)), [], ⟨87, [.one (.ty .str)], [], fun x => m_impl_strong x.1.1⟩⟩
noncomputable def an_impl_strong : An := .seq (.reg (no 1)) (.seq (.reg [nn, ([], .keyT 4 (.arr 4 (.int .u32))), nn]) (.seq (.seq (.reg [nn, ([], (FM.ann fm_impl_padded [] [] [])), nn]) (.join false ⟨[(3, .one (.con (.ref 4 0)))], [(4, .tb (.arr 4 (.int .u32)))]⟩ (.block (.loop ⟨[(3, .one (.con (.ref 4 0))), (4, .one (.ty .str))], [(4, .tb (.arr 4 (.int .u32)))]⟩ (fun s => s.1.2.1.length + 300) (.seq (.seq (.reg (no 2)) (.cond (.leaf) (.leaf))) (.seq (.block (.reg [nn, nn, nn, ([], (FM.ann fm_impl_mix [] [] [])), nn])) (.reg (no 3)))))))) (.seq (.reg [nn, nn, ([], (FM.ann fm_impl_wordText [] [] [])), nn, nn, ([], (FM.ann fm_impl_wordText [] [] [])), nn, nn, nn, ([], (FM.ann fm_impl_wordText [] [] [])), nn, nn, nn, ([], (FM.ann fm_impl_wordText [] [] [])), nn, nn]) (.leaf))))
theorem v_impl_strong : fm_impl_strong.Valid P cx := FX.of_ex tok mix (fn := f87) (c := codeOf f87) (an := an_impl_strong) (ms := [fm_impl_padded, fm_impl_mix, fm_impl_wordText, fm_impl_wordText, fm_impl_wordText, fm_impl_wordText]) (by kernel_rfl) (by kernel_rfl) (by kernel_rfl) (by kernel_rfl) (by kernel_rfl) (by kernel_rfl)
  (fun x => by kernel_rfl) (by kernel_rfl) ⟨v_impl_padded, v_impl_mix, v_impl_wordText, v_impl_wordText, v_impl_wordText, v_impl_wordText, trivial⟩
-- impl.hexText
noncomputable def fm_impl_hexText : FM := ⟨.v (.one (.ty .str)), [], ⟨86, [.one (.ty .str)], [], fun x => m_impl_hexText x.1.1⟩⟩
noncomputable def an_impl_hexText : An := .seq (.reg (no 1)) (.seq (.reg [nn, nn, nn, ([], .key 4), nn]) (.seq (.seq (.reg (no 3)) (.join false ⟨[(3, .one (.con (.rs 4)))], [(4, .lst false (.int .u8))]⟩ (.block (.loop ⟨[(0, .one (.ty .str)), (3, .one (.con (.rs 4))), (10, .one (.ty (.int .i64))), (11, .one (.ty (.int .i64)))], [(4, .lst false (.int .u8))]⟩ (fun s => s.1.1.length + s.1.2.2.1.toNat + s.1.2.2.2.1.toNat + s.2.1.length + 300) (.seq (.reg (no 1)) (.seq (.cond (.leaf) (.leaf)) (.seq (.block (.seq (.reg (no 2)) (.reg (no 14)))) (.reg (no 2))))))))) (.seq (.reg (no 3)) (.leaf))))
theorem v_impl_hexText : fm_impl_hexText.Valid P cx := FX.of_ex tok mix (fn := f86) (c := codeOf f86) (an := an_impl_hexText) (ms := []) (by kernel_rfl) (by kernel_rfl) (by kernel_rfl) (by kernel_rfl) (by kernel_rfl) (by kernel_rfl)
  (fun x => by kernel_rfl) (by kernel_rfl) trivial
-- impl.TreeSum
noncomputable def fm_impl_TreeSum : FM := ⟨.v (.one (.ty .str)), [], ⟨41, [.one (.ty (.list tN))], [], fun x => m_impl_TreeSum x.1.1⟩⟩
noncomputable def an_impl_TreeSum : An := .seq (.reg (no 1)) (.seq (.seq (.reg [nn, ([], (FM.ann fm_impl_TreeOk [] [] [])), nn]) (.cond (.seq (.reg (no 1)) (.leaf)) (.leaf))) (.seq (.reg [([], .keyB 4)]) (.seq (.seq (.reg [([.nilRow 4 5 5], .no), nn, nn]) (.join false ⟨[(3, .one (.con (.ref 4 0)))], [(4, .bd 94 (.con (.rs 5))), (5, .brow 5)]⟩ (.block (.loop ⟨[(3, .one (.con (.ref 4 0))), (9, .one (.ty (.list tN))), (10, .one (.ty (.int .i64))), (11, .one (.ty (.int .i64)))], [(4, .bd 94 (.con (.rs 5))), (5, .brow 5)]⟩ (fun s => s.1.2.1.length + s.1.2.2.1.toNat + s.1.2.2.2.1.toNat + s.2.2.1.length + 300) (.seq (.reg (no 1)) (.seq (.cond (.leaf) (.leaf)) (.seq (.block (.seq (.reg [nn, nn, ([], .key 6), nn]) (.reg [nn, nn, ([], (FM.ann fm_impl_putText [] [] [])), nn, nn, ([], (FM.ann fm_impl_varText [] [] [])), nn, nn, nn, ([], (FM.ann fm_impl_varText [] [] [])), nn, nn, nn, ([], (FM.ann fm_impl_varText [] [] [])), nn, nn, nn, ([], (FM.ann fm_impl_putText [] [] [])), nn, nn, nn, ([], (FM.ann fm_impl_putText [] [] [])), nn, nn, nn, ([], (FM.ann fm_impl_varText [] [] [])), nn, ([], (FM.ann fm_strings_Builder_WriteString [4, 5] [] []))]))) (.reg (no 2))))))))) (.seq (.seq (.reg [([], (FM.ann fm_strings_Builder_Len [4, 5] [] [])), nn]) (.cond (.seq (.reg (no 1)) (.leaf)) (.leaf))) (.seq (.reg [([], (FM.ann fm_strings_Builder_String [4, 5] [] [])), ([], (FM.ann fm_impl_strong [] [] [])), ([], (FM.ann fm_impl_hexText [] [] [])), nn]) (.leaf))))))
theorem v_impl_TreeSum : fm_impl_TreeSum.Valid P cx := FX.of_ex tok mix (fn := f41) (c := codeOf f41) (an := an_impl_TreeSum) (ms := [fm_impl_TreeOk, fm_impl_putText, fm_impl_varText, fm_impl_varText, fm_impl_varText, fm_impl_putText, fm_impl_putText, fm_impl_varText, fm_strings_Builder_WriteString, fm_strings_Builder_Len, fm_strings_Builder_String, fm_impl_strong, fm_impl_hexText]) (by kernel_rfl) (by kernel_rfl) (by kernel_rfl) (by kernel_rfl) (by kernel_rfl) (by kernel_rfl)
  (fun x => by kernel_rfl) (by kernel_rfl) ⟨v_impl_TreeOk, v_impl_putText, v_impl_varText, v_impl_varText, v_impl_varText, v_impl_putText, v_impl_putText, v_impl_varText, v_strings_Builder_WriteString, v_strings_Builder_Len, v_strings_Builder_String, v_impl_strong, v_impl_hexText, trivial⟩
-- laws.eqNode
noncomputable def fm_laws_eqNode : FM := ⟨.v (.one (.ty .bool)), [], ⟨52, [.str tN, .str tN], [], fun x => m_laws_eqNode x.1.1 x.1.2.1⟩⟩
noncomputable def an_laws_eqNode : An := .seq (.reg [([], .key 4), ([], .key 5), nn]) (.seq (.seq (.reg (no 5)) (.cond (.seq (.reg (no 1)) (.leaf)) (.leaf))) (.seq (.seq (.reg (no 5)) (.cond (.seq (.reg (no 1)) (.leaf)) (.leaf))) (.seq (.seq (.reg (no 5)) (.cond (.seq (.reg (no 1)) (.leaf)) (.leaf))) (.seq (.seq (.reg (no 5)) (.cond (.seq (.reg (no 1)) (.leaf)) (.leaf))) (.seq (.seq (.reg (no 5)) (.cond (.seq (.reg (no 1)) (.leaf)) (.leaf))) (.seq (.seq (.reg (no 5)) (.cond (.seq (.reg (no 1)) (.leaf)) (.leaf))) (.seq (.seq (.reg (no 5)) (.cond (.seq (.reg (no 1)) (.leaf)) (.leaf))) (.seq (.reg (no 1)) (.leaf)))))))))
theorem v_laws_eqNode : fm_laws_eqNode.Valid P cx := FX.of_ex tok mix (fn := f52) (c := codeOf f52) (an := an_laws_eqNode) (ms := []) (by kernel_rfl) (by kernel_rfl) (by kernel_rfl) (by kernel_rfl) (by kernel_rfl) (by kernel_rfl)
  (fun x => by kernel_rfl) (by kernel_rfl) trivial
-- laws.eqNodeS
noncomputable def fm_laws_eqNodeS : FM := ⟨.v (.one (.ty .bool)), [], ⟨15, [.one (.ty (.list tN)), .one (.ty (.list tN))], [], fun x => m_laws_eqNodeS x.1.1 x.1.2.1⟩⟩
noncomputable def an_laws_eqNodeS : An := .seq (.reg (no 1)) (.seq (.seq (.reg (no 5)) (.cond (.seq (.reg (no 1)) (.leaf)) (.leaf))) (.seq (.seq (.reg (no 1)) (.join true ⟨[], []⟩ (.block (.loop ⟨[(0, .one (.ty (.list tN))), (1, .one (.ty (.list tN))), (5, .one (.ty (.int .i64)))], []⟩ (fun s => s.1.1.length + s.1.2.1.length + s.1.2.2.1.toNat + 300) (.seq (.seq (.reg (no 4)) (.cond (.leaf) (.leaf))) (.seq (.block (.seq (.reg [nn, nn, nn, nn, nn, nn, nn, nn, ([], (FM.ann fm_laws_eqNode [] [] [])), nn]) (.cond (.seq (.reg (no 1)) (.leaf)) (.leaf)))) (.reg (no 3)))))))) (.seq (.reg (no 1)) (.leaf))))
theorem v_laws_eqNodeS : fm_laws_eqNodeS.Valid P cx := FX.of_ex tok mix (fn := f15) (c := codeOf f15) (an := an_laws_eqNodeS) (ms := [fm_laws_eqNode]) (by kernel_rfl) (by kernel_rfl) (by kernel_rfl) (by kernel_rfl) (by kernel_rfl) (by kernel_rfl)
  (fun x => by kernel_rfl) (by kernel_rfl) ⟨v_laws_eqNode, trivial⟩
-- laws.FnExactTreeSum
noncomputable def fm_laws_FnExactTreeSum : FM := ⟨.v (.one (.ty .bool)), [], ⟨9, [.one (.ty (.list tN))], [], fun x => m_laws_FnExactTreeSum x.1.1⟩⟩
noncomputable def an_laws_FnExactTreeSum : An := .seq (.reg (no 1)) (.seq (.reg (no 1)) (.seq (.reg [nn, nn, ([], (FM.ann fm_laws_szNodeS [] [] [])), nn]) (.seq (.seq (.reg (no 2)) (.cond (.seq (.reg (no 1)) (.leaf)) (.leaf))) (.seq (.reg [nn, ([], (FM.ann fm_laws_toNodeS [] [] [])), ([], (FM.ann fm_spec_TreeSum [] [] [])), nn]) (.seq (.reg [nn, ([], (FM.ann fm_laws_toNodeS [] [] [])), nn]) (.seq (.reg [nn, ([], (FM.ann fm_impl_TreeSum [] [] [])), nn]) (.seq (.seq (.reg (no 3)) (.cond (.seq (.reg (no 1)) (.leaf)) (.leaf))) (.seq (.seq (.reg [nn, nn, ([], (FM.ann fm_laws_toNodeS [] [] [])), ([], (FM.ann fm_laws_eqNodeS [] [] [])), nn]) (.cond (.seq (.reg (no 1)) (.leaf)) (.leaf))) (.seq (.reg (no 1)) (.leaf))))))))))
theorem v_laws_FnExactTreeSum : fm_laws_FnExactTreeSum.Valid P cx := FX.of_ex tok mix (fn := f9) (c := codeOf f9) (an := an_laws_FnExactTreeSum) (ms := [fm_laws_szNodeS, fm_laws_toNodeS, fm_spec_TreeSum, fm_laws_toNodeS, fm_impl_TreeSum, fm_laws_toNodeS, fm_laws_eqNodeS]) (by kernel_rfl) (by kernel_rfl) (by kernel_rfl) (by kernel_rfl) (by kernel_rfl) (by kernel_rfl)
  (fun x => by kernel_rfl) (by kernel_rfl) ⟨v_laws_szNodeS, v_laws_toNodeS, v_spec_TreeSum, v_laws_toNodeS, v_impl_TreeSum, v_laws_toNodeS, v_laws_eqNodeS, trivial⟩
end Go.AM.YtibidgfjopmgnaaDoor
