/- The walk: each function does what its model says. -/
import Derived.Test.YtfhcllnhlblliaaGreatDoorMoFnItems
import Derived.Test.YtfhcllnhlblliaaGreatDoorProg
import Derived.KernelRfl
import Derived.Test.YtfhcllnhlblliaaGreatDoorLyFnItems
set_option linter.unusedVariables false
set_option maxRecDepth 100000
namespace Go.AM.YtfhcllnhlblliaaGreatDoor
open Go Go.AM
def tys : List (Nat × TInf) := [
  (1, ⟨.func, 1, 8, [.nilF], none, false, false⟩),
  (2, ⟨.int .i64, 1, 8, [.int .i64 0], some (.int .i64), true, false⟩),
  (3, ⟨.int .i64, 1, 8, [.int .i64 0], some (.int .i64), true, false⟩),
  (4, ⟨.bool, 1, 1, [.bool false], some .bool, true, false⟩),
  (5, ⟨.int .u8, 1, 1, [.int .u8 0], some (.int .u8), true, false⟩),
  (6, ⟨.int .u8, 1, 1, [.int .u8 0], some (.int .u8), true, false⟩),
  (7, ⟨.struct [(0, 2), (1, 3), (2, 4), (3, 6)], 4, 24, [.int .i64 0, .int .i64 0, .bool false, .int .u8 0], some (.pair (.int .i64) (.pair (.int .i64) (.pair .bool (.int .u8)))), true, false⟩),
  (8, ⟨.struct [(0, 2), (1, 3), (2, 4), (3, 6)], 4, 24, [.int .i64 0, .int .i64 0, .bool false, .int .u8 0], some (.pair (.int .i64) (.pair (.int .i64) (.pair .bool (.int .u8)))), true, false⟩),
  (9, ⟨.str, 1, 16, [.str []], some .str, true, false⟩),
  (10, ⟨.str, 1, 16, [.str []], some .str, true, false⟩),
  (11, ⟨.str, 1, 16, [.str []], some .str, true, false⟩),
  (12, ⟨.int .u64, 1, 8, [.int .u64 0], some (.int .u64), true, false⟩),
  (13, ⟨.struct [(0, 9), (1, 12)], 2, 24, [.str [], .int .u64 0], some (.pair .str (.int .u64)), true, false⟩),
  (14, ⟨.struct [(0, 9), (1, 12)], 2, 24, [.str [], .int .u64 0], some (.pair .str (.int .u64)), true, false⟩),
  (15, ⟨.ptr 302, 1, 8, [.nilP], none, false, false⟩),
  (16, ⟨.ptr 305, 1, 8, [.nilP], none, false, false⟩),
  (17, ⟨.ptr 312, 1, 8, [.nilP], none, false, false⟩),
  (18, ⟨.struct [(0, 17)], 1, 8, [.nilP], none, false, false⟩),
  (19, ⟨.struct [(0, 17)], 1, 8, [.nilP], none, false, false⟩),
  (21, ⟨.int .i32, 1, 4, [.int .i32 0], some (.int .i32), true, false⟩),
  (22, ⟨.slice 5, 1, 24, [.nilS], some (.list (.int .u8)), true, false⟩),
  (23, ⟨.func, 1, 8, [.nilF], none, false, false⟩),
  (24, ⟨.slice 39, 1, 24, [.nilS], some (.list (.pair .str (.pair (.int .i64) (.pair (.int .i64) (.pair (.int .i64) (.pair .str (.pair .str (.int .i64)))))))), true, false⟩),
  (25, ⟨.struct [(0, 4), (1, 4), (2, 4), (3, 4), (4, 4), (5, 4), (6, 4), (7, 4), (8, 4), (9, 4), (10, 4), (11, 4), (12, 4), (13, 3), (14, 4), (15, 9), (16, 9)], 17, 64, [.bool false, .bool false, .bool false, .bool false, .bool false, .bool false, .bool false, .bool false, .bool false, .bool false, .bool false, .bool false, .bool false, .int .i64 0, .bool false, .str [], .str []], some (.pair .bool (.pair .bool (.pair .bool (.pair .bool (.pair .bool (.pair .bool (.pair .bool (.pair .bool (.pair .bool (.pair .bool (.pair .bool (.pair .bool (.pair .bool (.pair (.int .i64) (.pair .bool (.pair .str .str)))))))))))))))), true, true⟩),
  (26, ⟨.struct [(0, 4), (1, 4), (2, 4), (3, 4), (4, 4), (5, 4), (6, 4), (7, 4), (8, 4), (9, 4), (10, 4), (11, 4), (12, 4), (13, 3), (14, 4), (15, 9), (16, 9)], 17, 64, [.bool false, .bool false, .bool false, .bool false, .bool false, .bool false, .bool false, .bool false, .bool false, .bool false, .bool false, .bool false, .bool false, .int .i64 0, .bool false, .str [], .str []], some (.pair .bool (.pair .bool (.pair .bool (.pair .bool (.pair .bool (.pair .bool (.pair .bool (.pair .bool (.pair .bool (.pair .bool (.pair .bool (.pair .bool (.pair .bool (.pair (.int .i64) (.pair .bool (.pair .str .str)))))))))))))))), true, true⟩),
  (27, ⟨.slice 189, 1, 24, [.nilS], some (.list (.pair (.int .i64) (.pair .bool (.pair .bool .str)))), true, false⟩),
  (29, ⟨.func, 1, 8, [.nilF], none, false, false⟩),
  (30, ⟨.slice 41, 1, 24, [.nilS], some (.list (.pair (.int .i64) (.pair .str (.pair (.pair .str (.pair (.int .i64) (.pair (.int .i64) (.pair (.int .i64) (.pair .str (.pair .str (.int .i64))))))) (.pair .str (.pair (.int .i64) (.pair (.int .i64) (.pair (.int .i64) (.pair .str (.pair .str (.int .i64))))))))))), true, false⟩),
  (31, ⟨.slice 50, 1, 24, [.nilS], some (.list (.pair .str (.int .i64))), true, false⟩),
  (32, ⟨.struct [(0, 24), (1, 30), (2, 31)], 3, 72, [.nilS, .nilS, .nilS], some (.pair (.list (.pair .str (.pair (.int .i64) (.pair (.int .i64) (.pair (.int .i64) (.pair .str (.pair .str (.int .i64)))))))) (.pair (.list (.pair (.int .i64) (.pair .str (.pair (.pair .str (.pair (.int .i64) (.pair (.int .i64) (.pair (.int .i64) (.pair .str (.pair .str (.int .i64))))))) (.pair .str (.pair (.int .i64) (.pair (.int .i64) (.pair (.int .i64) (.pair .str (.pair .str (.int .i64))))))))))) (.list (.pair .str (.int .i64))))), true, false⟩),
  (33, ⟨.struct [(0, 24), (1, 30), (2, 31)], 3, 72, [.nilS, .nilS, .nilS], some (.pair (.list (.pair .str (.pair (.int .i64) (.pair (.int .i64) (.pair (.int .i64) (.pair .str (.pair .str (.int .i64)))))))) (.pair (.list (.pair (.int .i64) (.pair .str (.pair (.pair .str (.pair (.int .i64) (.pair (.int .i64) (.pair (.int .i64) (.pair .str (.pair .str (.int .i64))))))) (.pair .str (.pair (.int .i64) (.pair (.int .i64) (.pair (.int .i64) (.pair .str (.pair .str (.int .i64))))))))))) (.list (.pair .str (.int .i64))))), true, false⟩),
  (35, ⟨.func, 1, 8, [.nilF], none, false, false⟩),
  (36, ⟨.func, 1, 8, [.nilF], none, false, false⟩),
  (37, ⟨.func, 1, 8, [.nilF], none, false, false⟩),
  (38, ⟨.struct [(0, 9), (1, 3), (2, 3), (3, 3), (4, 9), (5, 9), (6, 3)], 7, 80, [.str [], .int .i64 0, .int .i64 0, .int .i64 0, .str [], .str [], .int .i64 0], some (.pair .str (.pair (.int .i64) (.pair (.int .i64) (.pair (.int .i64) (.pair .str (.pair .str (.int .i64))))))), true, true⟩),
  (39, ⟨.struct [(0, 9), (1, 3), (2, 3), (3, 3), (4, 9), (5, 9), (6, 3)], 7, 80, [.str [], .int .i64 0, .int .i64 0, .int .i64 0, .str [], .str [], .int .i64 0], some (.pair .str (.pair (.int .i64) (.pair (.int .i64) (.pair (.int .i64) (.pair .str (.pair .str (.int .i64))))))), true, true⟩),
  (40, ⟨.struct [(0, 3), (1, 9), (2, 39), (9, 39)], 16, 184, [.int .i64 0, .str [], .str [], .int .i64 0, .int .i64 0, .int .i64 0, .str [], .str [], .int .i64 0, .str [], .int .i64 0, .int .i64 0, .int .i64 0, .str [], .str [], .int .i64 0], some (.pair (.int .i64) (.pair .str (.pair (.pair .str (.pair (.int .i64) (.pair (.int .i64) (.pair (.int .i64) (.pair .str (.pair .str (.int .i64))))))) (.pair .str (.pair (.int .i64) (.pair (.int .i64) (.pair (.int .i64) (.pair .str (.pair .str (.int .i64)))))))))), true, false⟩),
  (41, ⟨.struct [(0, 3), (1, 9), (2, 39), (9, 39)], 16, 184, [.int .i64 0, .str [], .str [], .int .i64 0, .int .i64 0, .int .i64 0, .str [], .str [], .int .i64 0, .str [], .int .i64 0, .int .i64 0, .int .i64 0, .str [], .str [], .int .i64 0], some (.pair (.int .i64) (.pair .str (.pair (.pair .str (.pair (.int .i64) (.pair (.int .i64) (.pair (.int .i64) (.pair .str (.pair .str (.int .i64))))))) (.pair .str (.pair (.int .i64) (.pair (.int .i64) (.pair (.int .i64) (.pair .str (.pair .str (.int .i64)))))))))), true, false⟩),
  (42, ⟨.func, 1, 8, [.nilF], none, false, false⟩),
  (43, ⟨.func, 1, 8, [.nilF], none, false, false⟩),
  (44, ⟨.func, 1, 8, [.nilF], none, false, false⟩),
  (45, ⟨.func, 1, 8, [.nilF], none, false, false⟩),
  (46, ⟨.func, 1, 8, [.nilF], none, false, false⟩),
  (48, ⟨.func, 1, 8, [.nilF], none, false, false⟩),
  (49, ⟨.struct [(0, 9), (1, 3)], 2, 24, [.str [], .int .i64 0], some (.pair .str (.int .i64)), true, true⟩),
  (50, ⟨.struct [(0, 9), (1, 3)], 2, 24, [.str [], .int .i64 0], some (.pair .str (.int .i64)), true, true⟩),
  (51, ⟨.func, 1, 8, [.nilF], none, false, false⟩),
  (52, ⟨.func, 1, 8, [.nilF], none, false, false⟩),
  (53, ⟨.slice 9, 1, 24, [.nilS], some (.list .str), true, false⟩),
  (54, ⟨.func, 1, 8, [.nilF], none, false, false⟩),
  (55, ⟨.func, 1, 8, [.nilF], none, false, false⟩),
  (56, ⟨.func, 1, 8, [.nilF], none, false, false⟩),
  (57, ⟨.func, 1, 8, [.nilF], none, false, false⟩),
  (58, ⟨.int .u32, 1, 4, [.int .u32 0], some (.int .u32), true, false⟩),
  (60, ⟨.func, 1, 8, [.nilF], none, false, false⟩),
  (61, ⟨.slice 137, 1, 24, [.nilS], some (.list (.pair (.int .i64) (.pair .str (.pair (.int .i64) (.int .i64))))), true, false⟩),
  (63, ⟨.func, 1, 8, [.nilF], none, false, false⟩),
  (65, ⟨.func, 1, 8, [.nilF], none, false, false⟩),
  (66, ⟨.func, 1, 8, [.nilF], none, false, false⟩),
  (68, ⟨.func, 1, 8, [.nilF], none, false, false⟩),
  (69, ⟨.func, 1, 8, [.nilF], none, false, false⟩),
  (70, ⟨.array 16 5, 16, 16, [.int .u8 0, .int .u8 0, .int .u8 0, .int .u8 0, .int .u8 0, .int .u8 0, .int .u8 0, .int .u8 0, .int .u8 0, .int .u8 0, .int .u8 0, .int .u8 0, .int .u8 0, .int .u8 0, .int .u8 0, .int .u8 0], some (.arr 16 (.int .u8)), true, true⟩),
  (71, ⟨.func, 1, 8, [.nilF], none, false, false⟩),
  (72, ⟨.slice 144, 1, 24, [.nilS], some (.list (.pair .str (.pair (.int .i64) (.pair (.int .i64) (.pair (.int .i64) (.pair .str (.pair .str (.int .i64)))))))), true, false⟩),
  (73, ⟨.struct [(0, 4), (1, 4), (2, 4), (3, 4), (4, 4), (5, 4), (6, 4), (7, 4), (8, 4), (9, 4), (10, 4), (11, 4), (12, 4), (13, 3), (14, 4), (15, 9), (16, 9)], 17, 64, [.bool false, .bool false, .bool false, .bool false, .bool false, .bool false, .bool false, .bool false, .bool false, .bool false, .bool false, .bool false, .bool false, .int .i64 0, .bool false, .str [], .str []], some (.pair .bool (.pair .bool (.pair .bool (.pair .bool (.pair .bool (.pair .bool (.pair .bool (.pair .bool (.pair .bool (.pair .bool (.pair .bool (.pair .bool (.pair .bool (.pair (.int .i64) (.pair .bool (.pair .str .str)))))))))))))))), true, true⟩),
  (74, ⟨.func, 1, 8, [.nilF], none, false, false⟩),
  (75, ⟨.func, 1, 8, [.nilF], none, false, false⟩),
  (76, ⟨.func, 1, 8, [.nilF], none, false, false⟩),
  (77, ⟨.func, 1, 8, [.nilF], none, false, false⟩),
  (78, ⟨.func, 1, 8, [.nilF], none, false, false⟩),
  (79, ⟨.func, 1, 8, [.nilF], none, false, false⟩),
  (80, ⟨.func, 1, 8, [.nilF], none, false, false⟩),
  (81, ⟨.func, 1, 8, [.nilF], none, false, false⟩),
  (82, ⟨.ptr 166, 1, 8, [.nilP], some (.ptr (.pair (.list (.int .u8)) (.pair (.int .i64) (.int .i64)))), false, false⟩),
  (84, ⟨.func, 1, 8, [.nilF], none, false, false⟩),
  (85, ⟨.func, 1, 8, [.nilF], none, false, false⟩),
  (86, ⟨.func, 1, 8, [.nilF], none, false, false⟩),
  (87, ⟨.ptr 91, 1, 8, [.nilP], some (.ptr (.pair (.list (.pair .str (.pair (.int .i64) (.pair (.int .i64) (.pair (.int .i64) (.pair .str (.pair .str (.int .i64)))))))) (.pair (.pair (.list (.pair .str (.pair (.int .i64) (.pair (.int .i64) (.pair (.int .i64) (.pair .str (.pair .str (.int .i64)))))))) (.pair (.list (.pair (.int .i64) (.pair .str (.pair (.pair .str (.pair (.int .i64) (.pair (.int .i64) (.pair (.int .i64) (.pair .str (.pair .str (.int .i64))))))) (.pair .str (.pair (.int .i64) (.pair (.int .i64) (.pair (.int .i64) (.pair .str (.pair .str (.int .i64))))))))))) (.list (.pair .str (.int .i64))))) (.pair .bool (.list (.list (.pair .str (.pair (.int .i64) (.pair (.int .i64) (.pair (.int .i64) (.pair .str (.pair .str (.int .i64))))))))))))), false, false⟩),
  (88, ⟨.func, 1, 8, [.nilF], none, false, false⟩),
  (89, ⟨.slice 24, 1, 24, [.nilS], some (.list (.list (.pair .str (.pair (.int .i64) (.pair (.int .i64) (.pair (.int .i64) (.pair .str (.pair .str (.int .i64))))))))), true, false⟩),
  (90, ⟨.struct [(0, 24), (1, 33), (4, 4), (5, 89)], 6, 128, [.nilS, .nilS, .nilS, .nilS, .bool false, .nilS], some (.pair (.list (.pair .str (.pair (.int .i64) (.pair (.int .i64) (.pair (.int .i64) (.pair .str (.pair .str (.int .i64)))))))) (.pair (.pair (.list (.pair .str (.pair (.int .i64) (.pair (.int .i64) (.pair (.int .i64) (.pair .str (.pair .str (.int .i64)))))))) (.pair (.list (.pair (.int .i64) (.pair .str (.pair (.pair .str (.pair (.int .i64) (.pair (.int .i64) (.pair (.int .i64) (.pair .str (.pair .str (.int .i64))))))) (.pair .str (.pair (.int .i64) (.pair (.int .i64) (.pair (.int .i64) (.pair .str (.pair .str (.int .i64))))))))))) (.list (.pair .str (.int .i64))))) (.pair .bool (.list (.list (.pair .str (.pair (.int .i64) (.pair (.int .i64) (.pair (.int .i64) (.pair .str (.pair .str (.int .i64)))))))))))), true, false⟩),
  (91, ⟨.struct [(0, 24), (1, 33), (4, 4), (5, 89)], 6, 128, [.nilS, .nilS, .nilS, .nilS, .bool false, .nilS], some (.pair (.list (.pair .str (.pair (.int .i64) (.pair (.int .i64) (.pair (.int .i64) (.pair .str (.pair .str (.int .i64)))))))) (.pair (.pair (.list (.pair .str (.pair (.int .i64) (.pair (.int .i64) (.pair (.int .i64) (.pair .str (.pair .str (.int .i64)))))))) (.pair (.list (.pair (.int .i64) (.pair .str (.pair (.pair .str (.pair (.int .i64) (.pair (.int .i64) (.pair (.int .i64) (.pair .str (.pair .str (.int .i64))))))) (.pair .str (.pair (.int .i64) (.pair (.int .i64) (.pair (.int .i64) (.pair .str (.pair .str (.int .i64))))))))))) (.list (.pair .str (.int .i64))))) (.pair .bool (.list (.list (.pair .str (.pair (.int .i64) (.pair (.int .i64) (.pair (.int .i64) (.pair .str (.pair .str (.int .i64)))))))))))), true, false⟩),
  (92, ⟨.func, 1, 8, [.nilF], none, false, false⟩),
  (93, ⟨.ptr 95, 1, 8, [.nilP], none, false, false⟩),
  (94, ⟨.struct [(0, 93), (1, 22)], 2, 32, [.nilP, .nilS], none, false, false⟩),
  (95, ⟨.struct [(0, 93), (1, 22)], 2, 32, [.nilP, .nilS], none, false, false⟩),
  (99, ⟨.func, 1, 8, [.nilF], none, false, false⟩),
  (100, ⟨.func, 1, 8, [.nilF], none, false, false⟩),
  (101, ⟨.func, 1, 8, [.nilF], none, false, false⟩),
  (102, ⟨.func, 1, 8, [.nilF], none, false, false⟩),
  (103, ⟨.func, 1, 8, [.nilF], none, false, false⟩),
  (104, ⟨.func, 1, 8, [.nilF], none, false, false⟩),
  (105, ⟨.ptr 109, 1, 8, [.nilP], some (.ptr (.pair (.pair .bool (.pair .bool (.pair .bool (.pair .bool (.pair .bool (.pair .bool (.pair .bool (.pair .bool (.pair .bool (.pair .bool (.pair .bool (.pair .bool (.pair .bool (.pair (.int .i64) (.pair .bool (.pair .str .str)))))))))))))))) (.pair (.int .i64) (.pair (.list (.pair .str (.pair (.int .i64) (.pair (.int .i64) (.pair (.int .i64) (.pair .str (.pair .str (.int .i64)))))))) (.pair (.list (.pair (.int .i64) (.pair .str (.pair (.pair .str (.pair (.int .i64) (.pair (.int .i64) (.pair (.int .i64) (.pair .str (.pair .str (.int .i64))))))) (.pair .str (.pair (.int .i64) (.pair (.int .i64) (.pair (.int .i64) (.pair .str (.pair .str (.int .i64))))))))))) (.pair (.list (.pair .str (.int .i64))) (.pair (.list (.list (.pair .str (.pair (.int .i64) (.pair (.int .i64) (.pair (.int .i64) (.pair .str (.pair .str (.int .i64))))))))) .bool))))))), false, false⟩),
  (107, ⟨.func, 1, 8, [.nilF], none, false, false⟩),
  (108, ⟨.struct [(0, 26), (17, 3), (18, 24), (19, 30), (20, 31), (21, 89), (22, 4)], 23, 176, [.bool false, .bool false, .bool false, .bool false, .bool false, .bool false, .bool false, .bool false, .bool false, .bool false, .bool false, .bool false, .bool false, .int .i64 0, .bool false, .str [], .str [], .int .i64 0, .nilS, .nilS, .nilS, .nilS, .bool false], some (.pair (.pair .bool (.pair .bool (.pair .bool (.pair .bool (.pair .bool (.pair .bool (.pair .bool (.pair .bool (.pair .bool (.pair .bool (.pair .bool (.pair .bool (.pair .bool (.pair (.int .i64) (.pair .bool (.pair .str .str)))))))))))))))) (.pair (.int .i64) (.pair (.list (.pair .str (.pair (.int .i64) (.pair (.int .i64) (.pair (.int .i64) (.pair .str (.pair .str (.int .i64)))))))) (.pair (.list (.pair (.int .i64) (.pair .str (.pair (.pair .str (.pair (.int .i64) (.pair (.int .i64) (.pair (.int .i64) (.pair .str (.pair .str (.int .i64))))))) (.pair .str (.pair (.int .i64) (.pair (.int .i64) (.pair (.int .i64) (.pair .str (.pair .str (.int .i64))))))))))) (.pair (.list (.pair .str (.int .i64))) (.pair (.list (.list (.pair .str (.pair (.int .i64) (.pair (.int .i64) (.pair (.int .i64) (.pair .str (.pair .str (.int .i64))))))))) .bool)))))), true, false⟩),
  (109, ⟨.struct [(0, 26), (17, 3), (18, 24), (19, 30), (20, 31), (21, 89), (22, 4)], 23, 176, [.bool false, .bool false, .bool false, .bool false, .bool false, .bool false, .bool false, .bool false, .bool false, .bool false, .bool false, .bool false, .bool false, .int .i64 0, .bool false, .str [], .str [], .int .i64 0, .nilS, .nilS, .nilS, .nilS, .bool false], some (.pair (.pair .bool (.pair .bool (.pair .bool (.pair .bool (.pair .bool (.pair .bool (.pair .bool (.pair .bool (.pair .bool (.pair .bool (.pair .bool (.pair .bool (.pair .bool (.pair (.int .i64) (.pair .bool (.pair .str .str)))))))))))))))) (.pair (.int .i64) (.pair (.list (.pair .str (.pair (.int .i64) (.pair (.int .i64) (.pair (.int .i64) (.pair .str (.pair .str (.int .i64)))))))) (.pair (.list (.pair (.int .i64) (.pair .str (.pair (.pair .str (.pair (.int .i64) (.pair (.int .i64) (.pair (.int .i64) (.pair .str (.pair .str (.int .i64))))))) (.pair .str (.pair (.int .i64) (.pair (.int .i64) (.pair (.int .i64) (.pair .str (.pair .str (.int .i64))))))))))) (.pair (.list (.pair .str (.int .i64))) (.pair (.list (.list (.pair .str (.pair (.int .i64) (.pair (.int .i64) (.pair (.int .i64) (.pair .str (.pair .str (.int .i64))))))))) .bool)))))), true, false⟩),
  (110, ⟨.map 3 39, 1, 8, [.nilM], none, false, false⟩),
  (111, ⟨.map 3 3, 1, 8, [.nilM], none, false, false⟩),
  (112, ⟨.func, 1, 8, [.nilF], none, false, false⟩),
  (113, ⟨.func, 1, 8, [.nilF], none, false, false⟩),
  (115, ⟨.func, 1, 8, [.nilF], none, false, false⟩),
  (116, ⟨.func, 1, 8, [.nilF], none, false, false⟩),
  (117, ⟨.func, 1, 8, [.nilF], none, false, false⟩),
  (118, ⟨.func, 1, 8, [.nilF], none, false, false⟩),
  (119, ⟨.func, 1, 8, [.nilF], none, false, false⟩),
  (120, ⟨.func, 1, 8, [.nilF], none, false, false⟩),
  (121, ⟨.func, 1, 8, [.nilF], none, false, false⟩),
  (122, ⟨.func, 1, 8, [.nilF], none, false, false⟩),
  (123, ⟨.func, 1, 8, [.nilF], none, false, false⟩),
  (124, ⟨.func, 1, 8, [.nilF], none, false, false⟩),
  (125, ⟨.func, 1, 8, [.nilF], none, false, false⟩),
  (126, ⟨.func, 1, 8, [.nilF], none, false, false⟩),
  (127, ⟨.func, 1, 8, [.nilF], none, false, false⟩),
  (128, ⟨.func, 1, 8, [.nilF], none, false, false⟩),
  (129, ⟨.func, 1, 8, [.nilF], none, false, false⟩),
  (130, ⟨.func, 1, 8, [.nilF], none, false, false⟩),
  (131, ⟨.func, 1, 8, [.nilF], none, false, false⟩),
  (132, ⟨.func, 1, 8, [.nilF], none, false, false⟩),
  (134, ⟨.func, 1, 8, [.nilF], none, false, false⟩),
  (135, ⟨.func, 1, 8, [.nilF], none, false, false⟩),
  (136, ⟨.struct [(0, 3), (1, 9), (2, 3), (3, 3)], 4, 40, [.int .i64 0, .str [], .int .i64 0, .int .i64 0], some (.pair (.int .i64) (.pair .str (.pair (.int .i64) (.int .i64)))), true, true⟩),
  (137, ⟨.struct [(0, 3), (1, 9), (2, 3), (3, 3)], 4, 40, [.int .i64 0, .str [], .int .i64 0, .int .i64 0], some (.pair (.int .i64) (.pair .str (.pair (.int .i64) (.int .i64)))), true, true⟩),
  (138, ⟨.func, 1, 8, [.nilF], none, false, false⟩),
  (139, ⟨.func, 1, 8, [.nilF], none, false, false⟩),
  (140, ⟨.array 4 58, 4, 16, [.int .u32 0, .int .u32 0, .int .u32 0, .int .u32 0], some (.arr 4 (.int .u32)), true, true⟩),
  (141, ⟨.func, 1, 8, [.nilF], none, false, false⟩),
  (142, ⟨.func, 1, 8, [.nilF], none, false, false⟩),
  (143, ⟨.func, 1, 8, [.nilF], none, false, false⟩),
  (144, ⟨.struct [(0, 9), (1, 3), (2, 3), (3, 3), (4, 9), (5, 9), (6, 3)], 7, 80, [.str [], .int .i64 0, .int .i64 0, .int .i64 0, .str [], .str [], .int .i64 0], some (.pair .str (.pair (.int .i64) (.pair (.int .i64) (.pair (.int .i64) (.pair .str (.pair .str (.int .i64))))))), true, true⟩),
  (145, ⟨.func, 1, 8, [.nilF], none, false, false⟩),
  (146, ⟨.func, 1, 8, [.nilF], none, false, false⟩),
  (147, ⟨.func, 1, 8, [.nilF], none, false, false⟩),
  (149, ⟨.func, 1, 8, [.nilF], none, false, false⟩),
  (150, ⟨.func, 1, 8, [.nilF], none, false, false⟩),
  (151, ⟨.func, 1, 8, [.nilF], none, false, false⟩),
  (152, ⟨.func, 1, 8, [.nilF], none, false, false⟩),
  (153, ⟨.func, 1, 8, [.nilF], none, false, false⟩),
  (154, ⟨.slice 4, 1, 24, [.nilS], some (.list .bool), true, false⟩),
  (155, ⟨.slice 3, 1, 24, [.nilS], some (.list (.int .i64)), true, false⟩),
  (156, ⟨.ptr 5, 1, 8, [.nilP], some (.ptr (.int .u8)), false, false⟩),
  (157, ⟨.func, 1, 8, [.nilF], none, false, false⟩),
  (158, ⟨.func, 1, 8, [.nilF], none, false, false⟩),
  (159, ⟨.func, 1, 8, [.nilF], none, false, false⟩),
  (160, ⟨.func, 1, 8, [.nilF], none, false, false⟩),
  (161, ⟨.func, 1, 8, [.nilF], none, false, false⟩),
  (162, ⟨.func, 1, 8, [.nilF], none, false, false⟩),
  (163, ⟨.func, 1, 8, [.nilF], none, false, false⟩),
  (164, ⟨.func, 1, 8, [.nilF], none, false, false⟩),
  (165, ⟨.struct [(0, 22), (1, 3), (2, 3)], 3, 40, [.nilS, .int .i64 0, .int .i64 0], some (.pair (.list (.int .u8)) (.pair (.int .i64) (.int .i64))), true, false⟩),
  (166, ⟨.struct [(0, 22), (1, 3), (2, 3)], 3, 40, [.nilS, .int .i64 0, .int .i64 0], some (.pair (.list (.int .u8)) (.pair (.int .i64) (.int .i64))), true, false⟩),
  (167, ⟨.func, 1, 8, [.nilF], none, false, false⟩),
  (168, ⟨.func, 1, 8, [.nilF], none, false, false⟩),
  (169, ⟨.func, 1, 8, [.nilF], none, false, false⟩),
  (170, ⟨.func, 1, 8, [.nilF], none, false, false⟩),
  (171, ⟨.slice 58, 1, 24, [.nilS], some (.list (.int .u32)), true, false⟩),
  (172, ⟨.struct [(0, 3), (1, 3), (2, 171), (3, 53)], 4, 64, [.int .i64 0, .int .i64 0, .nilS, .nilS], some (.pair (.int .i64) (.pair (.int .i64) (.pair (.list (.int .u32)) (.list .str)))), true, false⟩),
  (173, ⟨.struct [(0, 3), (1, 3), (2, 171), (3, 53)], 4, 64, [.int .i64 0, .int .i64 0, .nilS, .nilS], some (.pair (.int .i64) (.pair (.int .i64) (.pair (.list (.int .u32)) (.list .str)))), true, false⟩),
  (175, ⟨.func, 1, 8, [.nilF], none, false, false⟩),
  (176, ⟨.func, 1, 8, [.nilF], none, false, false⟩),
  (177, ⟨.func, 1, 8, [.nilF], none, false, false⟩),
  (178, ⟨.func, 1, 8, [.nilF], none, false, false⟩),
  (179, ⟨.func, 1, 8, [.nilF], none, false, false⟩),
  (181, ⟨.func, 1, 8, [.nilF], none, false, false⟩),
  (182, ⟨.func, 1, 8, [.nilF], none, false, false⟩),
  (183, ⟨.int .u64, 1, 8, [.int .u64 0], some (.int .u64), true, false⟩),
  (184, ⟨.func, 1, 8, [.nilF], none, false, false⟩),
  (185, ⟨.func, 1, 8, [.nilF], none, false, false⟩),
  (186, ⟨.func, 1, 8, [.nilF], none, false, false⟩),
  (187, ⟨.func, 1, 8, [.nilF], none, false, false⟩),
  (188, ⟨.struct [(0, 3), (1, 4), (2, 4), (3, 9)], 4, 32, [.int .i64 0, .bool false, .bool false, .str []], some (.pair (.int .i64) (.pair .bool (.pair .bool .str))), true, true⟩),
  (189, ⟨.struct [(0, 3), (1, 4), (2, 4), (3, 9)], 4, 32, [.int .i64 0, .bool false, .bool false, .str []], some (.pair (.int .i64) (.pair .bool (.pair .bool .str))), true, true⟩),
  (190, ⟨.func, 1, 8, [.nilF], none, false, false⟩),
  (191, ⟨.func, 1, 8, [.nilF], none, false, false⟩),
  (192, ⟨.func, 1, 8, [.nilF], none, false, false⟩),
  (193, ⟨.func, 1, 8, [.nilF], none, false, false⟩),
  (194, ⟨.func, 1, 8, [.nilF], none, false, false⟩),
  (196, ⟨.func, 1, 8, [.nilF], none, false, false⟩),
  (198, ⟨.func, 1, 8, [.nilF], none, false, false⟩),
  (199, ⟨.func, 1, 8, [.nilF], none, false, false⟩),
  (200, ⟨.func, 1, 8, [.nilF], none, false, false⟩),
  (201, ⟨.func, 1, 8, [.nilF], none, false, false⟩),
  (202, ⟨.func, 1, 8, [.nilF], none, false, false⟩),
  (203, ⟨.func, 1, 8, [.nilF], none, false, false⟩),
  (204, ⟨.func, 1, 8, [.nilF], none, false, false⟩),
  (205, ⟨.func, 1, 8, [.nilF], none, false, false⟩),
  (206, ⟨.func, 1, 8, [.nilF], none, false, false⟩),
  (207, ⟨.func, 1, 8, [.nilF], none, false, false⟩),
  (209, ⟨.func, 1, 8, [.nilF], none, false, false⟩),
  (210, ⟨.map 9 3, 1, 8, [.nilM], none, false, false⟩),
  (211, ⟨.func, 1, 8, [.nilF], none, false, false⟩),
  (212, ⟨.func, 1, 8, [.nilF], none, false, false⟩),
  (213, ⟨.func, 1, 8, [.nilF], none, false, false⟩),
  (214, ⟨.func, 1, 8, [.nilF], none, false, false⟩),
  (215, ⟨.func, 1, 8, [.nilF], none, false, false⟩),
  (216, ⟨.func, 1, 8, [.nilF], none, false, false⟩),
  (217, ⟨.func, 1, 8, [.nilF], none, false, false⟩),
  (218, ⟨.func, 1, 8, [.nilF], none, false, false⟩),
  (219, ⟨.ptr 252, 1, 8, [.nilP], none, false, false⟩),
  (220, ⟨.func, 1, 8, [.nilF], none, false, false⟩),
  (221, ⟨.ptr 137, 1, 8, [.nilP], some (.ptr (.pair (.int .i64) (.pair .str (.pair (.int .i64) (.int .i64))))), false, false⟩),
  (222, ⟨.func, 1, 8, [.nilF], none, false, false⟩),
  (223, ⟨.func, 1, 8, [.nilF], none, false, false⟩),
  (224, ⟨.func, 1, 8, [.nilF], none, false, false⟩),
  (225, ⟨.func, 1, 8, [.nilF], none, false, false⟩),
  (227, ⟨.func, 1, 8, [.nilF], none, false, false⟩),
  (228, ⟨.func, 1, 8, [.nilF], none, false, false⟩),
  (229, ⟨.func, 1, 8, [.nilF], none, false, false⟩),
  (231, ⟨.func, 1, 8, [.nilF], none, false, false⟩),
  (232, ⟨.int .u64, 1, 8, [.int .u64 0], some (.int .u64), true, false⟩),
  (234, ⟨.func, 1, 8, [.nilF], none, false, false⟩),
  (235, ⟨.func, 1, 8, [.nilF], none, false, false⟩),
  (236, ⟨.func, 1, 8, [.nilF], none, false, false⟩),
  (237, ⟨.func, 1, 8, [.nilF], none, false, false⟩),
  (238, ⟨.func, 1, 8, [.nilF], none, false, false⟩),
  (239, ⟨.func, 1, 8, [.nilF], none, false, false⟩),
  (240, ⟨.func, 1, 8, [.nilF], none, false, false⟩),
  (241, ⟨.func, 1, 8, [.nilF], none, false, false⟩),
  (242, ⟨.func, 1, 8, [.nilF], none, false, false⟩),
  (243, ⟨.func, 1, 8, [.nilF], none, false, false⟩),
  (244, ⟨.func, 1, 8, [.nilF], none, false, false⟩),
  (245, ⟨.func, 1, 8, [.nilF], none, false, false⟩),
  (246, ⟨.func, 1, 8, [.nilF], none, false, false⟩),
  (247, ⟨.func, 1, 8, [.nilF], none, false, false⟩),
  (248, ⟨.func, 1, 8, [.nilF], none, false, false⟩),
  (249, ⟨.func, 1, 8, [.nilF], none, false, false⟩),
  (250, ⟨.map 58 155, 1, 8, [.nilM], none, false, false⟩),
  (251, ⟨.struct [(0, 173), (4, 58), (5, 9), (6, 171), (7, 171), (8, 250)], 9, 144, [.int .i64 0, .int .i64 0, .nilS, .nilS, .int .u32 0, .str [], .nilS, .nilS, .nilM], none, false, false⟩),
  (252, ⟨.struct [(0, 173), (4, 58), (5, 9), (6, 171), (7, 171), (8, 250)], 9, 144, [.int .i64 0, .int .i64 0, .nilS, .nilS, .int .u32 0, .str [], .nilS, .nilS, .nilM], none, false, false⟩),
  (253, ⟨.slice 171, 1, 24, [.nilS], some (.list (.list (.int .u32))), true, false⟩),
  (254, ⟨.array 64 58, 64, 256, [.int .u32 0, .int .u32 0, .int .u32 0, .int .u32 0, .int .u32 0, .int .u32 0, .int .u32 0, .int .u32 0, .int .u32 0, .int .u32 0, .int .u32 0, .int .u32 0, .int .u32 0, .int .u32 0, .int .u32 0, .int .u32 0, .int .u32 0, .int .u32 0, .int .u32 0, .int .u32 0, .int .u32 0, .int .u32 0, .int .u32 0, .int .u32 0, .int .u32 0, .int .u32 0, .int .u32 0, .int .u32 0, .int .u32 0, .int .u32 0, .int .u32 0, .int .u32 0, .int .u32 0, .int .u32 0, .int .u32 0, .int .u32 0, .int .u32 0, .int .u32 0, .int .u32 0, .int .u32 0, .int .u32 0, .int .u32 0, .int .u32 0, .int .u32 0, .int .u32 0, .int .u32 0, .int .u32 0, .int .u32 0, .int .u32 0, .int .u32 0, .int .u32 0, .int .u32 0, .int .u32 0, .int .u32 0, .int .u32 0, .int .u32 0, .int .u32 0, .int .u32 0, .int .u32 0, .int .u32 0, .int .u32 0, .int .u32 0, .int .u32 0, .int .u32 0], some (.arr 64 (.int .u32)), true, true⟩),
  (255, ⟨.func, 1, 8, [.nilF], none, false, false⟩),
  (256, ⟨.array 4 3, 4, 32, [.int .i64 0, .int .i64 0, .int .i64 0, .int .i64 0], some (.arr 4 (.int .i64)), true, true⟩),
  (257, ⟨.array 4 256, 16, 128, [.int .i64 0, .int .i64 0, .int .i64 0, .int .i64 0, .int .i64 0, .int .i64 0, .int .i64 0, .int .i64 0, .int .i64 0, .int .i64 0, .int .i64 0, .int .i64 0, .int .i64 0, .int .i64 0, .int .i64 0, .int .i64 0], some (.arr 4 (.arr 4 (.int .i64))), true, false⟩),
  (258, ⟨.func, 1, 8, [.nilF], none, false, false⟩),
  (259, ⟨.func, 1, 8, [.nilF], none, false, false⟩),
  (260, ⟨.func, 1, 8, [.nilF], none, false, false⟩),
  (261, ⟨.slice 272, 1, 24, [.nilS], some (.list (.pair (.int .i64) (.pair (.int .u8) (.pair .bool (.list .bool))))), true, false⟩),
  (263, ⟨.func, 1, 8, [.nilF], none, false, false⟩),
  (265, ⟨.func, 1, 8, [.nilF], none, false, false⟩),
  (266, ⟨.func, 1, 8, [.nilF], none, false, false⟩),
  (267, ⟨.func, 1, 8, [.nilF], none, false, false⟩),
  (270, ⟨.func, 1, 8, [.nilF], none, false, false⟩),
  (271, ⟨.struct [(0, 3), (1, 5), (2, 4), (3, 154)], 4, 40, [.int .i64 0, .int .u8 0, .bool false, .nilS], some (.pair (.int .i64) (.pair (.int .u8) (.pair .bool (.list .bool)))), true, false⟩),
  (272, ⟨.struct [(0, 3), (1, 5), (2, 4), (3, 154)], 4, 40, [.int .i64 0, .int .u8 0, .bool false, .nilS], some (.pair (.int .i64) (.pair (.int .u8) (.pair .bool (.list .bool)))), true, false⟩),
  (281, ⟨.func, 1, 8, [.nilF], none, false, false⟩),
  (282, ⟨.func, 1, 8, [.nilF], none, false, false⟩),
  (299, ⟨.struct [(0, 5), (1, 5)], 2, 2, [.int .u8 0, .int .u8 0], some (.pair (.int .u8) (.int .u8)), true, false⟩),
  (300, ⟨.array 16 299, 32, 32, [.int .u8 0, .int .u8 0, .int .u8 0, .int .u8 0, .int .u8 0, .int .u8 0, .int .u8 0, .int .u8 0, .int .u8 0, .int .u8 0, .int .u8 0, .int .u8 0, .int .u8 0, .int .u8 0, .int .u8 0, .int .u8 0, .int .u8 0, .int .u8 0, .int .u8 0, .int .u8 0, .int .u8 0, .int .u8 0, .int .u8 0, .int .u8 0, .int .u8 0, .int .u8 0, .int .u8 0, .int .u8 0, .int .u8 0, .int .u8 0, .int .u8 0, .int .u8 0], some (.arr 16 (.pair (.int .u8) (.int .u8))), true, false⟩),
  (302, ⟨.struct [(0, 17), (1, 17), (2, 17), (3, 9)], 4, 40, [.nilP, .nilP, .nilP, .str []], none, false, false⟩),
  (303, ⟨.array 0 16, 0, 0, [], none, false, false⟩),
  (305, ⟨.struct [(0, 303)], 0, 0, [], none, false, false⟩),
  (306, ⟨.int .u8, 1, 1, [.int .u8 0], some (.int .u8), true, false⟩),
  (307, ⟨.int .u8, 1, 1, [.int .u8 0], some (.int .u8), true, false⟩),
  (308, ⟨.func, 1, 8, [.nilF], none, false, false⟩),
  (309, ⟨.int .i32, 1, 4, [.int .i32 0], some (.int .i32), true, false⟩),
  (310, ⟨.int .i32, 1, 4, [.int .i32 0], some (.int .i32), true, false⟩),
  (312, ⟨.struct [(0, 12), (1, 12), (2, 58), (3, 306), (4, 5), (5, 5), (6, 307), (7, 308), (8, 156), (9, 309), (10, 310)], 11, 48, [.int .u64 0, .int .u64 0, .int .u32 0, .int .u8 0, .int .u8 0, .int .u8 0, .int .u8 0, .nilF, .nilP, .int .i32 0, .int .i32 0], none, false, false⟩)]
def cx : Cx := ⟨tget tys, fun g => none⟩
noncomputable abbrev P : Program := Go.Proofs.Tryz.prog
theorem tok : TOk P cx := TOk.of_list (by kernel_rfl)
theorem mix : P.follows .mixedOrders = true := by kernel_rfl
open Go.Proofs.Tryz
abbrev tN : Ty := (.pair .str (.pair (.int .i64) (.pair (.int .i64) (.pair (.int .i64) (.pair .str (.pair .str (.int .i64)))))))
abbrev tO : Ty := (.pair .bool (.pair .bool (.pair .bool (.pair .bool (.pair .bool (.pair .bool (.pair .bool (.pair .bool (.pair .bool (.pair .bool (.pair .bool (.pair .bool (.pair .bool (.pair (.int .i64) (.pair .bool (.pair .str .str))))))))))))))))
abbrev tR : Ty := (.pair (.int .i64) (.pair .bool (.pair .bool .str)))
abbrev cO : List CT := [.ty .bool, .ty .bool, .ty .bool, .ty .bool, .ty .bool, .ty .bool, .ty .bool, .ty .bool, .ty .bool, .ty .bool, .ty .bool, .ty .bool, .ty .bool, .ty (.int .i64), .ty .bool, .ty .str, .ty .str]
abbrev cC : List CT := [.ty (.list (.int .u8)), .ty (.int .i64), .ty (.int .i64)]
abbrev cN : List CT := [.ty .str, .ty (.int .i64), .ty (.int .i64), .ty (.int .i64), .ty .str, .ty .str, .ty (.int .i64)]
abbrev nn : List Ghost × Ann := ([], .no)
def qm (f : Func) : Code := f.body.getD .skip
def no (n : Nat) : List (List Ghost × Ann) := List.replicate n nn
abbrev xaa : Nat × SS := (0, .box [.ty (.list tN), .ty (.list tN), .ty (.list (.pair (.int .i64) (.pair .str (.pair tN tN)))), .ty (.list (.pair .str (.int .i64))), .ty .bool, .ty (.list (.list tN))])
abbrev xab : List (Nat × SS) := [(0, .box [.ty (.list tN), .con (.rs 1), .con (.rs 2), .con (.rs 3), .ty .bool, .con (.rs 4)]), (1, .lst false tN), (2, .lst false (.pair (.int .i64) (.pair .str (.pair tN tN)))), (3, .lst false (.pair .str (.int .i64))), (4, .lst false (.list tN)), (9, .box cO), (11, .box cN), (12, .box cN)]
abbrev xac : Nat × VT1 := (0, .one (.con (.ref 0 0)))
abbrev xad : List (Nat × SS) := [(0, .box [.ty (.list tN), .con (.rs 1), .con (.rs 2), .con (.rs 3), .ty .bool, .con (.rs 4)]), (1, .lst false tN), (2, .lst false (.pair (.int .i64) (.pair .str (.pair tN tN)))), (3, .lst false (.pair .str (.int .i64))), (4, .lst false (.list tN)), (10, .box cN), (11, .lst false .str)]
abbrev xae : List (Nat × SS) := [(4, .box [.ty (.int .i64), .ty (.int .u8), .ty .bool, .con .nilS]), (5, .box [.ty (.int .i64), .ty (.int .u8), .ty .bool, .con (.rs 7)]), (7, .lst false .bool)]
abbrev xaf : List (Nat × SS) := [(4, .box cO), (6, .box [.ty (.list tN), .con (.rs 7), .con (.rs 8), .con (.rs 9), .ty .bool, .con (.rs 10)]), (7, .lst false tN), (8, .lst false (.pair (.int .i64) (.pair .str (.pair tN tN)))), (9, .lst false (.pair .str (.int .i64))), (10, .lst false (.list tN))]
abbrev xag : Nat × VT1 := (5, .one (.ty (.list (.pair (.int .i64) (.pair (.int .u8) (.pair .bool (.list .bool)))))))
abbrev xah : Nat × SS := (5, .box [.ty (.list tN), .ty (.list (.pair (.int .i64) (.pair .str (.pair tN tN)))), .ty (.list (.pair .str (.int .i64)))])
abbrev xai : Nat × VT1 := (0, .one (.ty (.list tN)))
abbrev xaj : Nat × VT1 := (8, .one (.ty (.int .i64)))
abbrev xak : Nat × VT1 := (9, .one (.ty (.int .i64)))
abbrev xal : Nat × SS := (4, .box [.ty (.int .i64), .ty .str, .ty .str, .ty (.int .i64), .ty (.int .i64), .ty (.int .i64), .ty .str, .ty .str, .ty (.int .i64), .ty .str, .ty (.int .i64), .ty (.int .i64), .ty (.int .i64), .ty .str, .ty .str, .ty (.int .i64)])
abbrev xam : Nat × SS := (0, .box [.ty (.list tN), .con (.rs 1), .con (.rs 2), .con (.rs 3), .ty .bool, .con (.rs 4)])
abbrev xan : Nat × VT1 := (10, .one (.ty (.int .i64)))
abbrev xao : Nat × VT1 := (3, .one (.ty (.int .i64)))
abbrev xap : VT1 := (.one (.ty .bool))
abbrev xaq : Nat × SS := (4, .lst false (.pair (.int .i64) (.pair (.int .u8) (.pair .bool (.list .bool)))))
abbrev xar : Nat × SS := (2, .lst false (.pair (.int .i64) (.pair .str (.pair tN tN))))
abbrev xas : Nat × VT1 := (1, .one (.ty (.int .i64)))
abbrev xat : Nat × VT1 := (6, .one (.ty (.int .i64)))
abbrev xau : Nat × VT1 := (0, .one (.ty .str))
abbrev xav : Nat × VT1 := (4, .one (.ty (.int .i64)))
abbrev xaw : Nat × VT1 := (2, .one (.ty (.int .i64)))
abbrev xax : Nat × VT1 := (11, .one (.ty (.int .i64)))
abbrev xay : Nat × VT1 := (14, .one (.ty (.int .i64)))
abbrev xaz : Nat × VT1 := (1, .one (.ty .str))
abbrev xba : Nat × VT1 := (5, .one (.con (.rs 6)))
abbrev xbb : Nat × SS := (6, .lst false .bool)
abbrev xbc : Nat × VT1 := (4, .one (.con (.ref 5 0)))
abbrev xbd : List (Nat × VT1) := [(3, .one (.con (.ref 4 0))), (5, .one (.con (.ref 5 0))), (6, .one (.con (.ref 7 0))), (13, .one (.ty (.list (.pair (.int .i64) (.pair .str (.pair tN tN)))))), xay, (15, .one (.ty (.int .i64)))]
abbrev xbe : List (Nat × SS) := [(0, .box cC), (5, .lst false (.int .u8))]
abbrev xbf : List (Nat × SS) := [(0, .box cC), (6, .lst false tN)]
abbrev xbg : VT1 := (.one (.ty (.int .i64)))
abbrev xbh : Nat × SS := (7, .lst false (.int .i64))
abbrev xbi : Nat × VT1 := (5, .one (.ty (.int .i64)))
abbrev xbj : List (Nat × SS) := [(4, .box [.ty (.int .i64), .ty .bool, .ty .bool, .ty .str])]
abbrev xbk : Nat × VT1 := (12, .one (.ty (.int .i64)))
abbrev xbl : Nat × VT1 := (6, .one (.con (.rs 6)))
abbrev xbm : Nat × VT1 := (7, .one (.con (.rs 7)))
abbrev xbn : Nat × VT1 := (2, .one (.ty .bool))
abbrev xbo : Nat × SS := (3, .lst false (.pair .str (.int .i64)))
abbrev xbp : Nat × SS := (5, .lst false tN)
abbrev xbq : Nat × VT1 := (2, .one (.con (.ref 4 0)))
abbrev xbr : List (Nat × SS) := [(4, .box cO), (5, .bd 95 (.con (.rs 6))), (6, .brow 5), (7, .bd 95 (.con (.rs 8))), (8, .brow 5)]
abbrev xbs : Nat × VT1 := (10, .one (.con (.ref 11 0)))
abbrev xbt : Nat × VT1 := (3, .one (.con (.ref 4 0)))
abbrev xbu : Nat × VT1 := (7, .one (.ty (.int .i64)))
abbrev xbv : Nat × VT1 := (5, .one (.con (.ref 9 0)))
abbrev xbw : Nat × VT1 := (3, .one (.ty (.list tR)))
abbrev xbx : Nat × SS := (11, .lst false (.int .i64))
abbrev xby : Nat × VT1 := (7, .one (.con (.ref 10 0)))
abbrev xbz : Nat × VT1 := (13, .one (.con (.ref 12 0)))
abbrev xca : Nat × VT1 := (7, .one (.ty (.list tN)))
abbrev xcb : Nat × VT1 := (13, .one (.con (.rs 11)))
abbrev xcc : Nat × VT1 := (13, .one (.ty (.int .i64)))
abbrev xcd : Nat × SS := (5, .box [.ty (.int .i64), .ty (.int .u8), .ty .bool, .ty (.list .bool)])
abbrev xce : Nat × VT1 := (5, .one (.con (.ref 4 0)))
abbrev xcf : Nat × VT1 := (6, .one (.con (.ref 5 0)))
abbrev xcg : Nat × VT1 := (5, .one (.con (.rs 5)))
abbrev xch : Nat × VT1 := (6, .one (.con (.rs 5)))
abbrev xci : Nat × VT1 := (7, .one (.con (.rs 4)))
abbrev xcj : List (Nat × SS) := [(4, .box cO), (5, .lst false .str)]
abbrev xck : Nat × VT1 := (7, .one (.con (.ref 5 0)))
abbrev xcl : Nat × VT1 := (1, .one (.con (.ref 4 0)))
abbrev xcm : List (Nat × SS) := [(0, .box cC), (5, .box cO), (6, .box cO)]
abbrev xcn : Nat × SS := (4, .lst false (.list tN))
abbrev xco : VT1 := (.one (.ty .str))
abbrev xcp : Nat × SS := (4, .lst false .bool)
abbrev xcq : Nat × VT1 := (16, .one (.ty (.int .i64)))
abbrev xcr : Nat × VT1 := (12, .one (.ty .bool))
abbrev xcs : Nat × VT1 := (11, .one (.ty .bool))
abbrev xct : Nat × VT1 := (1, .one (.ty (.list tN)))
abbrev xcu : Nat × VT1 := (10, .one (.con (.rs 6)))
abbrev xcv : Nat × VT1 := (15, .one (.ty .bool))
abbrev xcw : Nat × VT1 := (9, .one (.ty .str))
abbrev xcx : Nat × VT1 := (8, .one (.ty .str))
abbrev xcy : VT1 := (.one (.ty (.list tN)))
abbrev xcz : Nat × VT1 := (9, .one (.con (.rs 5)))
abbrev xda : Nat × VT1 := (6, .one (.con (.ref 4 0)))
abbrev xdb : Nat × VT1 := (6, .one (.con (.ref 7 0)))
abbrev xdc : Nat × VT1 := (6, .one (.ty .bool))
abbrev xdd : Nat × VT1 := (0, .one (.ty (.list tR)))
abbrev xde : List (Nat × SS) := [(0, .box cC), xbp]
abbrev xdf : Nat × SS := (5, .box cO)
abbrev xdg : Nat × VT1 := (3, .one (.ty (.list .str)))
abbrev xdh : Nat × VT1 := (4, .one (.con (.rs 4)))
abbrev xdi : Nat × VT1 := (11, .one (.con (.ref 6 0)))
abbrev xdj : Nat × VT1 := (2, .one (.con (.ref 5 0)))
abbrev xdk : Nat × VT1 := (3, .one (.con (.ref 6 0)))
abbrev xdl : Nat × VT1 := (5, .one (.con (.ref 6 0)))
abbrev xdm : Nat × VT1 := (7, .one (.con (.ref 4 0)))
abbrev xdn : Nat × VT1 := (3, .one (.con (.ref 5 0)))
abbrev xdo : List (Nat × SS) := [(4, .box cN), (6, .lst false tN)]
abbrev xdp : Nat × SS := (1, .lst false tN)
abbrev xdq : VT1 := (.one (.ty (.list .str)))
abbrev xdr : Nat × VT1 := (7, .one (.ty .str))
abbrev xds : Nat × VT1 := (2, .one (.ty (.list tN)))
abbrev xdt : Nat × SS := (4, .box cO)
abbrev xdu : Nat × VT1 := (3, .one (.con (.rs 5)))
abbrev xdv : Nat × VT1 := (9, .one (.con (.rs 11)))
abbrev xdw : Nat × SS := (4, .box cN)
abbrev xdx : Nat × VT1 := (4, .one (.con (.ref 4 0)))
abbrev xdy : Nat × VT1 := (7, .one (.ty .bool))
abbrev xdz : List (Nat × SS) := [(4, .lst false .str)]
abbrev xea : Nat × SS := (5, .box [.ty (.int .i64), .ty (.int .u8), .ty .bool, .con .nilS])
abbrev xeb : Nat × VT1 := (0, .one (.ty (.list (.int .u8))))
abbrev xec : Nat × VT1 := (8, .one (.con (.rs 5)))
noncomputable def qAj : FM := ⟨.v xap, [], ⟨11, [.one (.ty (.list (.int .u8)))], [], fun x => qxk x.1.1⟩⟩
noncomputable def qjs : An := .seq (.reg (no 1)) (.seq (.reg (no 4)) (.leaf))
theorem qCu : qAj.Valid P cx := FX.of_ex tok mix (fn := f11) (c := qm f11) (an := qjs) (ms := []) (by kernel_rfl) (by kernel_rfl) (by kernel_rfl) (by kernel_rfl) (by kernel_rfl) (by kernel_rfl)
  (fun x => by kernel_rfl) (by kernel_rfl) trivial
noncomputable def qfh : FM := ⟨.v (.one (.con (.ref 0 0))), [.box cC], ⟨76, [.one (.ty (.list (.int .u8)))], [], fun x => qgg x.1.1⟩⟩
noncomputable def qco : An := .seq (.reg (no 1)) (.seq (.reg (no 4)) (.seq (.seq (.reg (no 1)) (.join false ⟨[xeb, xao], []⟩ (.block (.loop ⟨[xeb, xao, xav], []⟩ (fun s => s.1.1.length + s.1.2.1.toNat + s.1.2.2.1.toNat + 300) (.seq (.seq (.join false ⟨[xeb, xao, xav, xcv], []⟩ (.reg (no 8))) (.cond (.leaf) (.leaf))) (.seq (.block (.reg (no 11))) (.reg (no 3)))))))) (.seq (.reg [nn, nn, nn, ([], .key 4), nn]) (.gh [.ren 4 0] .leaf))))
theorem qIp : qfh.Valid P cx := FX.of_ex tok mix (fn := f76) (c := qm f76) (an := qco) (ms := []) (by kernel_rfl) (by kernel_rfl) (by kernel_rfl) (by kernel_rfl) (by kernel_rfl) (by kernel_rfl)
  (fun x => by kernel_rfl) (by kernel_rfl) trivial
noncomputable def qMg : FM := ⟨.v xbg, [], ⟨84, [.one (.ty (.list (.int .u8))), .one (.ty (.int .i64))], [], fun x => qCf x.1.1 x.1.2.1⟩⟩
noncomputable def qGn : An := .seq (.reg (no 1)) (.seq (.reg (no 5)) (.seq (.seq (.reg (no 3)) (.cond (.seq (.reg (no 2)) (.leaf)) (.leaf))) (.seq (.reg (no 2)) (.leaf))))
theorem qso : qMg.Valid P cx := FX.of_ex tok mix (fn := f84) (c := qm f84) (an := qGn) (ms := []) (by kernel_rfl) (by kernel_rfl) (by kernel_rfl) (by kernel_rfl) (by kernel_rfl) (by kernel_rfl)
  (fun x => by kernel_rfl) (by kernel_rfl) trivial
noncomputable def qH : FM := ⟨.v xbg, [.box cC], ⟨132, [.one (.con (.ref 0 0))], [.box cC], fun x => qab x.2.1⟩⟩
noncomputable def qWn : An := .seq (.reg (no 1)) (.seq (.reg (no 10)) (.seq (.reg (no 13)) (.seq (.seq (.reg (no 10)) (.join false ⟨[xao], [(0, .box cC)]⟩ (.cond (.seq (.reg (no 15)) (.reg (no 9))) (.leaf)))) (.seq (.reg (no 2)) (.leaf)))))
theorem qXc : qH.Valid P cx := FX.of_ex tok mix (fn := f132) (c := qm f132) (an := qWn) (ms := []) (by kernel_rfl) (by kernel_rfl) (by kernel_rfl) (by kernel_rfl) (by kernel_rfl) (by kernel_rfl)
  (fun x => by kernel_rfl) (by kernel_rfl) trivial
noncomputable def qd : FM := ⟨.v xbg, [.box cC], ⟨83, [.one (.con (.ref 0 0)), .one (.ty (.int .i64))], [.box cC], fun x => qh x.1.2.1 x.2.1⟩⟩
noncomputable def qSl : An := .seq (.reg (no 1)) (.seq (.seq (.reg (no 2)) (.cond (.seq (.reg (no 1)) (.leaf)) (.leaf))) (.seq (.seq (.reg (no 2)) (.cond (.seq (.reg [nn, ([], (FM.ann qH [0] [] [])), nn, nn, nn]) (.leaf)) (.leaf))) (.seq (.reg [nn, ([], (FM.ann qH [0] [] [])), nn]) (.seq (.reg [nn, ([], (FM.ann qH [0] [] [])), nn]) (.seq (.reg [nn, ([], (FM.ann qH [0] [] [])), nn]) (.seq (.reg [nn, ([], (FM.ann qH [0] [] [])), nn]) (.seq (.reg (no 13)) (.leaf))))))))
theorem qo : qd.Valid P cx := FX.of_ex tok mix (fn := f83) (c := qm f83) (an := qSl) (ms := [qH, qH, qH, qH, qH]) (by kernel_rfl) (by kernel_rfl) (by kernel_rfl) (by kernel_rfl) (by kernel_rfl) (by kernel_rfl)
  (fun x => by kernel_rfl) (by kernel_rfl) ⟨qXc, qXc, qXc, qXc, qXc, trivial⟩
noncomputable def qe : FM := ⟨.v xap, [.box cC], ⟨80, [.one (.con (.ref 0 0)), .one (.ty (.int .i64))], [.box cC], fun x => qq x.1.2.1 x.2.1⟩⟩
noncomputable def qKn : An := .seq (.reg (no 1)) (.seq (.reg [nn, nn, ([], (FM.ann qd [0] [] [])), nn, nn]) (.leaf))
theorem qv : qe.Valid P cx := FX.of_ex tok mix (fn := f80) (c := qm f80) (an := qKn) (ms := [qd]) (by kernel_rfl) (by kernel_rfl) (by kernel_rfl) (by kernel_rfl) (by kernel_rfl) (by kernel_rfl)
  (fun x => by kernel_rfl) (by kernel_rfl) ⟨qo, trivial⟩
noncomputable def qR : FM := ⟨.v xco, [.box cC], ⟨129, [.one (.con (.ref 0 0)), .one (.ty (.list .str))], [.box cC], fun x => qX x.1.2.1 x.2.1⟩⟩
noncomputable def qun : An := .seq (.reg (no 1)) (.seq (.reg [nn, nn, nn, nn, ([], (FM.ann qd [0] [] [])), nn, nn, nn]) (.leaf))
theorem qbe : qR.Valid P cx := FX.of_ex tok mix (fn := f129) (c := qm f129) (an := qun) (ms := [qd]) (by kernel_rfl) (by kernel_rfl) (by kernel_rfl) (by kernel_rfl) (by kernel_rfl) (by kernel_rfl)
  (fun x => by kernel_rfl) (by kernel_rfl) ⟨qo, trivial⟩
noncomputable def qod : FM := ⟨.v xco, [.box cC], ⟨158, [.one (.con (.ref 0 0))], [.box cC], fun x => qTd x.2.1⟩⟩
noncomputable def qHn : An := .seq (.reg (no 1)) (.seq (.reg [nn, ([], .key 5), ([.freeze 5], (FM.ann qR [0] [] [])), nn]) (.leaf))
theorem qZi : qod.Valid P cx := FX.of_ex tok mix (fn := f158) (c := qm f158) (an := qHn) (ms := [qR]) (by kernel_rfl) (by kernel_rfl) (by kernel_rfl) (by kernel_rfl) (by kernel_rfl) (by kernel_rfl)
  (fun x => by kernel_rfl) (by kernel_rfl) ⟨qbe, trivial⟩
noncomputable def qPc : FM := ⟨.v xdq, [], ⟨73, [.one (.ty .str)], [], fun x => qld x.1.1⟩⟩
noncomputable def qQl : An := .seq (.reg (no 1)) (.seq (.reg [([], .key 4), nn]) (.seq (.reg (no 1)) (.seq (.seq (.reg (no 1)) (.join false ⟨[xau, (3, .one (.con (.rs 4))), xav], xdz⟩ (.block (.loop ⟨[xau, (3, .one (.con (.rs 4))), xav, xbi], xdz⟩ (fun s => s.1.1.length + s.1.2.2.1.toNat + s.1.2.2.2.1.toNat + s.2.1.length + 300) (.seq (.seq (.reg (no 4)) (.cond (.leaf) (.leaf))) (.seq (.block (.seq (.reg (no 4)) (.join false ⟨[xau, (3, .one (.con (.rs 4))), xav, xbi], xdz⟩ (.cond (.seq (.reg [nn, nn, nn, nn, nn, ([], .key 5), nn, nn]) (.reg (no 3))) (.leaf))))) (.reg (no 3)))))))) (.seq (.reg [nn, nn, nn, nn, ([], .key 6), nn, nn]) (.gh [.freeze 4] .leaf)))))
theorem qni : qPc.Valid P cx := FX.of_ex tok mix (fn := f73) (c := qm f73) (an := qQl) (ms := []) (by kernel_rfl) (by kernel_rfl) (by kernel_rfl) (by kernel_rfl) (by kernel_rfl) (by kernel_rfl)
  (fun x => by kernel_rfl) (by kernel_rfl) trivial
noncomputable def qp : FM := ⟨.v xap, [], ⟨52, [.one (.ty (.int .i64)), .one (.ty (.int .i64)), .one (.ty (.int .i64))], [], fun x => qD x.1.1 x.1.2.1 x.1.2.2.1⟩⟩
noncomputable def qlq : An := .seq (.reg (no 1)) (.seq (.join false ⟨[xdc], []⟩ (.reg (no 9))) (.leaf))
theorem qkb : qp.Valid P cx := FX.of_ex tok mix (fn := f52) (c := qm f52) (an := qlq) (ms := []) (by kernel_rfl) (by kernel_rfl) (by kernel_rfl) (by kernel_rfl) (by kernel_rfl) (by kernel_rfl)
  (fun x => by kernel_rfl) (by kernel_rfl) trivial
noncomputable def qhc : FM := ⟨.v xap, [], ⟨74, [.one (.ty .str)], [], fun x => qJc x.1.1⟩⟩
noncomputable def qno : An := .seq (.reg (no 1)) (.seq (.seq (.join false ⟨[xau, (16, .one (.ty .bool))], []⟩ (.reg [nn, nn, ([], (FM.ann qp [] [] [])), nn, nn, nn, nn, nn, nn, nn, nn, nn])) (.cond (.seq (.reg (no 1)) (.leaf)) (.leaf))) (.seq (.seq (.reg (no 1)) (.join true ⟨[], []⟩ (.block (.loop ⟨[xau, xao], []⟩ (fun s => s.1.1.length + s.1.2.1.toNat + 300) (.seq (.seq (.reg (no 4)) (.cond (.leaf) (.leaf))) (.seq (.block (.seq (.reg (no 5)) (.seq (.join false ⟨[xau, xao, (57, .one (.ty .bool))], []⟩ (.reg [nn, ([], (FM.ann qp [] [] [])), nn, nn, nn, ([], (FM.ann qp [] [] [])), nn, nn, nn, nn, ([], (FM.ann qp [] [] [])), nn, nn, nn, nn, nn, nn, nn, nn, nn, nn, nn, nn, nn, nn, nn, nn, nn, nn, nn, nn])) (.cond (.seq (.reg (no 1)) (.leaf)) (.leaf))))) (.reg (no 3)))))))) (.seq (.reg (no 1)) (.leaf))))
theorem qKh : qhc.Valid P cx := FX.of_ex tok mix (fn := f74) (c := qm f74) (an := qno) (ms := [qp, qp, qp, qp]) (by kernel_rfl) (by kernel_rfl) (by kernel_rfl) (by kernel_rfl) (by kernel_rfl) (by kernel_rfl)
  (fun x => by kernel_rfl) (by kernel_rfl) ⟨qkb, qkb, qkb, qkb, trivial⟩
noncomputable def qr : FM := ⟨.v xap, [], ⟨29, [.one (.ty .str)], [], fun x => qQ x.1.1⟩⟩
noncomputable def qDo : An := .seq (.reg (no 1)) (.seq (.seq (.reg (no 3)) (.cond (.seq (.reg (no 1)) (.leaf)) (.leaf))) (.seq (.reg [nn, ([], (FM.ann qPc [] [] [])), nn]) (.seq (.seq (.reg (no 1)) (.join true ⟨[xdg], []⟩ (.block (.loop ⟨[xdg, xav], []⟩ (fun s => s.1.1.length + s.1.2.1.toNat + 300) (.seq (.seq (.reg (no 4)) (.cond (.leaf) (.leaf))) (.seq (.block (.seq (.reg [nn, nn, nn, nn, ([], (FM.ann qhc [] [] [])), nn]) (.cond (.seq (.reg (no 1)) (.leaf)) (.leaf)))) (.reg (no 3)))))))) (.seq (.reg (no 4)) (.leaf)))))
theorem qqb : qr.Valid P cx := FX.of_ex tok mix (fn := f29) (c := qm f29) (an := qDo) (ms := [qPc, qhc]) (by kernel_rfl) (by kernel_rfl) (by kernel_rfl) (by kernel_rfl) (by kernel_rfl) (by kernel_rfl)
  (fun x => by kernel_rfl) (by kernel_rfl) ⟨qni, qKh, trivial⟩
noncomputable def qUc : FM := ⟨.v xco, [], ⟨157, [.one (.ty .str), .one (.ty .str)], [], fun x => qyd x.1.1 x.1.2.1⟩⟩
noncomputable def qLl : An := .seq (.reg (no 1)) (.seq (.reg (no 2)) (.seq (.seq (.reg (no 2)) (.join false ⟨[xau, xaz, (5, .one (.ty .str))], []⟩ (.cond (.reg (no 5)) (.leaf)))) (.seq (.seq (.join false ⟨[(5, .one (.ty .str)), (29, .one (.ty .bool))], []⟩ (.reg [nn, nn, nn, nn, ([], (FM.ann qr [] [] [])), nn, nn, nn, nn, ([], (FM.ann qhc [] [] [])), nn, nn, nn, nn, ([], (FM.ann qr [] [] [])), nn, nn])) (.cond (.seq (.reg (no 1)) (.leaf)) (.leaf))) (.seq (.reg (no 2)) (.leaf)))))
theorem qpi : qUc.Valid P cx := FX.of_ex tok mix (fn := f157) (c := qm f157) (an := qLl) (ms := [qr, qhc, qr]) (by kernel_rfl) (by kernel_rfl) (by kernel_rfl) (by kernel_rfl) (by kernel_rfl) (by kernel_rfl)
  (fun x => by kernel_rfl) (by kernel_rfl) ⟨qqb, qKh, qqb, trivial⟩
noncomputable def qw : FM := ⟨.v xbg, [], ⟨92, [.one (.ty (.list tN)), .one (.ty .str)], [], fun x => qjb x.1.1 x.1.2.1⟩⟩
noncomputable def qxq : An := .seq (.reg (no 1)) (.seq (.seq (.reg (no 1)) (.join true ⟨[], []⟩ (.block (.loop ⟨[xai, xaz, xbi], []⟩ (fun s => s.1.1.length + s.1.2.1.length + s.1.2.2.1.toNat + 300) (.seq (.seq (.reg (no 4)) (.cond (.leaf) (.leaf))) (.seq (.block (.seq (.reg (no 7)) (.cond (.seq (.reg (no 2)) (.leaf)) (.leaf)))) (.reg (no 3)))))))) (.seq (.reg (no 1)) (.leaf)))
theorem qac : qw.Valid P cx := FX.of_ex tok mix (fn := f92) (c := qm f92) (an := qxq) (ms := []) (by kernel_rfl) (by kernel_rfl) (by kernel_rfl) (by kernel_rfl) (by kernel_rfl) (by kernel_rfl)
  (fun x => by kernel_rfl) (by kernel_rfl) trivial
noncomputable def qhb : FM := ⟨.v xbg, [.box cC], ⟨196, [.one (.con (.ref 0 0)), .one (.ty (.list (.int .i64)))], [.box cC], fun x => qJb x.1.2.1 x.2.1⟩⟩
noncomputable def qOj : An := .seq (.reg (no 1)) (.seq (.reg [nn, nn, nn, nn, ([], (FM.ann qd [0] [] [])), nn, nn, nn]) (.leaf))
theorem qgf : qhb.Valid P cx := FX.of_ex tok mix (fn := f196) (c := qm f196) (an := qOj) (ms := [qd]) (by kernel_rfl) (by kernel_rfl) (by kernel_rfl) (by kernel_rfl) (by kernel_rfl) (by kernel_rfl)
  (fun x => by kernel_rfl) (by kernel_rfl) ⟨qo, trivial⟩
noncomputable def qud : FM := ⟨.v xco, [.box cC], ⟨82, [.one (.con (.ref 0 0)), .one (.ty (.int .i64))], [.box cC], fun x => qYd x.1.2.1 x.2.1⟩⟩
noncomputable def qMn : An := .seq (.reg (no 1)) (.seq (.reg [([], .key 5), nn]) (.seq (.join false ⟨[xas, xcg], xbe⟩ (.block (.loop ⟨[xac, xas, xcg], xbe⟩ (fun s => 2 ^ 100) (.seq (.seq (.reg (no 4)) (.cond (.leaf) (.leaf))) (.block (.seq (.reg [nn, ([], (FM.ann qd [0] [] []))]) (.block (.seq (.reg (no 2)) (.join false ⟨[xac, xas, xcg], xbe⟩ (.cond (.reg [nn, nn, ([], (FM.ann qH [0] [] [])), nn, ([], .key 6), nn, nn]) (.seq (.reg (no 2)) (.join false ⟨[xac, xas, xcg], xbe⟩ (.cond (.seq (.reg [nn, ([], (FM.ann qd [0] [] [])), nn]) (.seq (.reg [nn, ([], (FM.ann qd [0] [] [])), nn, nn, nn]) (.seq (.reg (no 1)) (.join false ⟨[xac, xas, xcg], xbe⟩ (.block (.loop ⟨[xac, xas, xcg, xat, (7, .one (.ty (.int .u8))), xaj], xbe⟩ (fun s => 2 ^ 100) (.seq (.seq (.reg (no 3)) (.cond (.leaf) (.leaf))) (.seq (.block (.reg [nn, nn, ([], .key 7), nn, nn])) (.reg (no 3)))))))))) (.seq (.reg (no 2)) (.join false ⟨[xac, xas, xcg], xbe⟩ (.cond (.seq (.reg (no 3)) (.join false ⟨[xac, xas, xcg], xbe⟩ (.cond (.seq (.reg [nn, nn, nn, ([], (FM.ann qd [0] [] [])), nn]) (.seq (.reg [nn, ([], (FM.ann qd [0] [] [])), nn]) (.seq (.reg (no 1)) (.join false ⟨[xac, xas, xcg], xbe⟩ (.block (.loop ⟨[xac, xas, xcg, xak, xan, xax], xbe⟩ (fun s => 2 ^ 100) (.seq (.seq (.join false ⟨[xac, xas, xcg, xak, xan, xax, (72, .one (.ty .bool))], xbe⟩ (.reg (no 11))) (.cond (.leaf) (.leaf))) (.seq (.block (.reg [nn, nn, nn, nn, nn, nn, nn, ([], .key 8), nn, nn])) (.reg (no 3)))))))))) (.leaf)))) (.reg [nn, nn, ([], (FM.ann qd [0] [] [])), nn, nn, ([], .key 9), nn, nn]))))))))))))))))) (.seq (.reg [nn, nn, ([.freeze 5], .no), nn, nn]) (.leaf))))
theorem qaj : qud.Valid P cx := FX.of_ex tok mix (fn := f82) (c := qm f82) (an := qMn) (ms := [qd, qH, qd, qd, qd, qd, qd]) (by kernel_rfl) (by kernel_rfl) (by kernel_rfl) (by kernel_rfl) (by kernel_rfl) (by kernel_rfl)
  (fun x => by kernel_rfl) (by kernel_rfl) ⟨qo, qXc, qo, qo, qo, qo, qo, trivial⟩
noncomputable def qOb : FM := ⟨.v (.str tN), [.box cC], ⟨156, [.one (.con (.ref 0 0)), .one (.ty .str)], [.box cC], fun x => qYc x.1.2.1 x.2.1⟩⟩
noncomputable def qim : An := .seq (.reg [([], .key 5)]) (.seq (.reg [nn, nn, ([], .key 6), ([.freeze 6], (FM.ann qhb [0] [] [])), nn, ([], .key 7), ([.freeze 7], (FM.ann qhb [0] [] [])), nn, ([], (FM.ann qd [0] [] [])), nn, nn, ([], .key 8), nn]) (.seq (.seq (.reg (no 2)) (.block (.seq (.reg (no 2)) (.join false ⟨[xbc, (5, .one (.con (.ref 8 0)))], [(0, .box cC), (5, .box cN), (8, .box cN)]⟩ (.cond (.reg [nn, nn, ([], (FM.ann qd [0] [] [])), ([], (FM.ann qud [0] [] [])), nn, nn]) (.seq (.reg (no 2)) (.join false ⟨[xbc, (5, .one (.con (.ref 8 0)))], [(0, .box cC), (5, .box cN), (8, .box cN)]⟩ (.cond (.seq (.reg (no 2)) (.reg [nn, ([], .key 9), ([.freeze 9], (FM.ann qR [0] [] [])), nn, nn])) (.leaf))))))))) (.seq (.reg (no 2)) (.leaf))))
theorem qYg : qOb.Valid P cx := FX.of_ex tok mix (fn := f156) (c := qm f156) (an := qim) (ms := [qhb, qhb, qd, qd, qud, qR]) (by kernel_rfl) (by kernel_rfl) (by kernel_rfl) (by kernel_rfl) (by kernel_rfl) (by kernel_rfl)
  (fun x => by kernel_rfl) (by kernel_rfl) ⟨qgf, qgf, qo, qo, qaj, qbe, trivial⟩
noncomputable def qY : FM := ⟨.v (.one (.con (.rs 0))), [.lst false tN], ⟨130, [.one (.ty (.list tN)), .str tN], [], fun x => qdc x.1.1 x.1.2.1⟩⟩
noncomputable def qzo : An := .seq (.reg [([], .key 4), ([], .nilAs 5 tN)]) (.seq (.reg [([], .key 6), nn]) (.seq (.reg (no 1)) (.seq (.seq (.reg (no 1)) (.join false ⟨[xbt, xba, xdc], xdo⟩ (.block (.loop ⟨[xai, xbt, xba, xdc, xbu], xdo⟩ (fun s => s.1.1.length + s.1.2.2.2.2.1.toNat + s.2.1.1.length + s.2.1.2.1.toNat + s.2.1.2.2.1.toNat + s.2.1.2.2.2.1.toNat + s.2.1.2.2.2.2.1.length + s.2.1.2.2.2.2.2.1.length + s.2.1.2.2.2.2.2.2.1.toNat + s.2.2.1.length + 300) (.seq (.seq (.reg (no 4)) (.cond (.leaf) (.leaf))) (.seq (.block (.seq (.seq (.join false ⟨[xai, xbt, xba, xdc, xbu, (26, .one (.ty .bool))], xdo⟩ (.reg (no 12))) (.join false ⟨[xai, xbt, xba, xdc, xbu], xdo⟩ (.cond (.seq (.reg [nn, nn, ([], .key 7), nn, nn]) (.reg (no 1))) (.leaf)))) (.seq (.reg (no 8)) (.join false ⟨[xai, xbt, xba, xdc, xbu], xdo⟩ (.cond (.reg [nn, nn, nn, nn, nn, ([], .key 8), nn, nn]) (.leaf)))))) (.reg (no 3)))))))) (.seq (.seq (.reg (no 2)) (.join false ⟨[xba], [(6, .lst false tN)]⟩ (.cond (.reg [nn, nn, ([], .key 9), nn, nn]) (.leaf)))) (.seq (.reg (no 2)) (.gh [.ren 6 0] .leaf))))))
theorem qLe : qY.Valid P cx := FX.of_ex tok mix (fn := f130) (c := qm f130) (an := qzo) (ms := []) (by kernel_rfl) (by kernel_rfl) (by kernel_rfl) (by kernel_rfl) (by kernel_rfl) (by kernel_rfl)
  (fun x => by kernel_rfl) (by kernel_rfl) trivial
noncomputable def qF : FM := ⟨.v (.one (.con (.rs 0))), [.lst false tN], ⟨70, [.one (.ty (.list tN))], [], fun x => qtb x.1.1⟩⟩
noncomputable def qUn : An := .seq (.reg [([], .nilAs 4 tN)]) (.seq (.reg [([], .key 5), nn, nn, nn]) (.seq (.seq (.reg (no 1)) (.join false ⟨[xdu], [xbp]⟩ (.block (.loop ⟨[xai, xdu, xav], [xbp]⟩ (fun s => s.1.1.length + s.1.2.2.1.toNat + s.2.1.length + 300) (.seq (.seq (.reg (no 4)) (.cond (.leaf) (.leaf))) (.seq (.block (.seq (.reg (no 1)) (.seq (.seq (.reg (no 1)) (.join false ⟨[xai, xdu, xav, xbi], [xbp]⟩ (.block (.loop ⟨[xai, xdu, xav, xbi, xat], [xbp]⟩ (fun s => s.1.1.length + s.1.2.2.1.toNat + s.1.2.2.2.1.toNat + s.1.2.2.2.2.1.toNat + s.2.1.length + 300) (.seq (.seq (.reg (no 4)) (.cond (.leaf) (.leaf))) (.seq (.block (.seq (.reg (no 11)) (.join false ⟨[xai, xdu, xav, xbi, xat], [xbp]⟩ (.cond (.reg (no 3)) (.leaf))))) (.reg (no 3)))))))) (.seq (.reg (no 2)) (.join false ⟨[xai, xdu, xav], [xbp]⟩ (.cond (.reg (no 5)) (.leaf))))))) (.reg (no 3)))))))) (.seq (.reg (no 2)) (.gh [.ren 5 0] .leaf))))
theorem qbd : qF.Valid P cx := FX.of_ex tok mix (fn := f70) (c := qm f70) (an := qUn) (ms := []) (by kernel_rfl) (by kernel_rfl) (by kernel_rfl) (by kernel_rfl) (by kernel_rfl) (by kernel_rfl)
  (fun x => by kernel_rfl) (by kernel_rfl) trivial
noncomputable def qCg : FM := ⟨.v (.one (.con (.rs 1))), [.box cC, .lst false tN], ⟨154, [.one (.con (.ref 0 0)), .one (.ty (.int .i64))], [.box cC], fun x => qAf x.1.2.1 x.2.1⟩⟩
noncomputable def qBm : An := .seq (.reg [([], .nilAs 5 tN)]) (.seq (.reg [([], .key 6), nn]) (.seq (.seq (.reg (no 1)) (.join false ⟨[xac, xba], xbf⟩ (.block (.loop ⟨[xac, xas, xba, xat], xbf⟩ (fun s => s.1.2.1.toNat + s.1.2.2.2.1.toNat + s.2.1.1.length + s.2.1.2.1.toNat + s.2.1.2.2.1.toNat + s.2.2.1.length + 300) (.seq (.seq (.reg (no 3)) (.cond (.leaf) (.leaf))) (.seq (.join false ⟨[xac, xas, xba, xat], xbf⟩ (.block (.post (.seq (.reg (no 1)) (.seq (.seq (.join false ⟨[xac, xas, xba, xat, xdr, (26, .one (.ty .bool))], xbf⟩ (.reg [nn, nn, nn, nn, nn, ([], (FM.ann qe [0] [] [])), nn, nn])) (.join false ⟨[xac, xas, xba, xat, xdr], xbf⟩ (.cond (.seq (.reg [nn, nn, nn, ([], (FM.ann qd [0] [] [])), nn]) (.seq (.reg (no 6)) (.join false ⟨[xac, xas, xba, xat, xdr], xbf⟩ (.cond (.reg (no 6)) (.leaf))))) (.leaf)))) (.seq (.reg [nn, nn, ([], (FM.ann qod [0] [] [])), ([], (FM.ann qUc [] [] [])), nn]) (.seq (.seq (.join false ⟨[xac, xas, xba, xat, xcw, (53, .one (.ty .bool))], xbf⟩ (.reg [nn, nn, nn, nn, nn, ([], (FM.ann qw [] [] [6])), nn, nn])) (.cond (.leaf) (.leaf))) (.reg [nn, nn, nn, ([], (FM.ann qOb [0] [] [])), ([], (FM.ann qY [] [7] [6])), nn]))))) [.drop 6, .ren 7 6]))) (.reg (no 3)))))))) (.seq (.seq (.reg [nn, ([], (FM.ann qe [0] [] []))]) (.join false ⟨[xba], xbf⟩ (.cond (.seq (.reg (no 1)) (.seq (.reg (no 1)) (.join false ⟨[xba], xbf⟩ (.block (.loop ⟨[xac, xba, xan, xax], xbf⟩ (fun s => s.1.2.2.1.toNat + s.1.2.2.2.1.toNat + s.2.1.1.length + s.2.1.2.1.toNat + s.2.1.2.2.1.toNat + s.2.2.1.length + 300) (.seq (.seq (.reg (no 4)) (.cond (.leaf) (.leaf))) (.seq (.block (.seq (.reg (no 6)) (.join false ⟨[xac, xba, xan, xax], xbf⟩ (.cond (.seq (.reg (no 2)) (.join false ⟨[xac, xba, xan, xax], xbf⟩ (.cond (.reg (no 2)) (.seq (.reg [nn, ([], (FM.ann qe [0] [] []))]) (.join false ⟨[xac, xba, xan, xax], xbf⟩ (.cond (.seq (.reg (no 6)) (.seq (.reg (no 5)) (.seq (.reg (no 8)) (.reg (no 6))))) (.leaf))))))) (.leaf))))) (.reg (no 3))))))))) (.leaf)))) (.seq (.reg [nn, ([], (FM.ann qF [] [8] [6])), nn]) (.gh [.ren 8 1] .leaf)))))
theorem qlo : qCg.Valid P cx := FX.of_ex tok mix (fn := f154) (c := qm f154) (an := qBm) (ms := [qe, qd, qod, qUc, qw, qOb, qY, qe, qe, qF]) (by kernel_rfl) (by kernel_rfl) (by kernel_rfl) (by kernel_rfl) (by kernel_rfl) (by kernel_rfl)
  (fun x => by kernel_rfl) (by kernel_rfl) ⟨qv, qo, qZi, qpi, qac, qYg, qLe, qv, qv, qbd, trivial⟩
noncomputable def qLc : FM := ⟨.v xdq, [], ⟨126, [.one (.ty .str)], [], fun x => qse x.1.1⟩⟩
noncomputable def qyq : An := .seq (.reg (no 1)) (.seq (.seq (.reg [nn, ([], (FM.ann qr [] [] [])), nn]) (.cond (.seq (.reg [([], .key 4), nn]) (.gh [.freeze 4] .leaf)) (.leaf))) (.seq (.reg [nn, ([], (FM.ann qPc [] [] [])), nn]) (.leaf)))
theorem qoi : qLc.Valid P cx := FX.of_ex tok mix (fn := f126) (c := qm f126) (an := qyq) (ms := [qr, qPc]) (by kernel_rfl) (by kernel_rfl) (by kernel_rfl) (by kernel_rfl) (by kernel_rfl) (by kernel_rfl)
  (fun x => by kernel_rfl) (by kernel_rfl) ⟨qqb, qni, trivial⟩
noncomputable def qDb : FM := ⟨.v xap, [], ⟨71, [.one (.ty .str), .one (.ty .str)], [], fun x => qCc x.1.1 x.1.2.1⟩⟩
noncomputable def qAq : An := .seq (.reg (no 1)) (.seq (.reg [nn, ([], (FM.ann qLc [] [] [])), nn, ([], (FM.ann qLc [] [] [])), nn, nn]) (.seq (.seq (.join false ⟨[(5, .one (.ty (.list .str))), (6, .one (.ty (.list .str))), (30, .one (.ty .bool))], []⟩ (.reg (no 19))) (.cond (.seq (.reg (no 1)) (.leaf)) (.leaf))) (.seq (.seq (.reg (no 1)) (.join true ⟨[], []⟩ (.block (.loop ⟨[(5, .one (.ty (.list .str))), (6, .one (.ty (.list .str))), xbu], []⟩ (fun s => s.1.1.length + s.1.2.1.length + s.1.2.2.1.toNat + 300) (.seq (.seq (.reg (no 4)) (.cond (.leaf) (.leaf))) (.seq (.block (.seq (.reg (no 9)) (.cond (.seq (.reg (no 1)) (.leaf)) (.leaf)))) (.reg (no 3)))))))) (.seq (.reg (no 1)) (.leaf)))))
theorem qOg : qDb.Valid P cx := FX.of_ex tok mix (fn := f71) (c := qm f71) (an := qAq) (ms := [qLc, qLc]) (by kernel_rfl) (by kernel_rfl) (by kernel_rfl) (by kernel_rfl) (by kernel_rfl) (by kernel_rfl)
  (fun x => by kernel_rfl) (by kernel_rfl) ⟨qoi, qoi, trivial⟩
noncomputable def qcc : FM := ⟨.v xcy, [], ⟨155, [.one (.ty (.list tN)), .one (.ty .str)], [], fun x => qKb x.1.1 x.1.2.1⟩⟩
noncomputable def qQj : An := .seq (.reg (no 1)) (.seq (.reg [([], .key 4), nn]) (.seq (.seq (.reg (no 1)) (.join false ⟨[(5, .one (.con (.rs 4)))], [(4, .lst false tN)]⟩ (.block (.loop ⟨[xai, xaz, (5, .one (.con (.rs 4))), xat], [(4, .lst false tN)]⟩ (fun s => s.1.1.length + s.1.2.1.length + s.1.2.2.2.1.toNat + s.2.1.length + 300) (.seq (.seq (.reg (no 4)) (.cond (.leaf) (.leaf))) (.seq (.block (.seq (.reg [nn, nn, nn, nn, nn, nn, ([], (FM.ann qDb [] [] [])), nn]) (.join false ⟨[xai, xaz, (5, .one (.con (.rs 4))), xat], [(4, .lst false tN)]⟩ (.cond (.reg [nn, nn, nn, nn, nn, ([], .key 5), nn, nn]) (.leaf))))) (.reg (no 3)))))))) (.seq (.reg [nn, ([], (FM.ann qF [] [6] [4])), nn]) (.gh [.freeze 6] .leaf))))
theorem qkh : qcc.Valid P cx := FX.of_ex tok mix (fn := f155) (c := qm f155) (an := qQj) (ms := [qDb, qF]) (by kernel_rfl) (by kernel_rfl) (by kernel_rfl) (by kernel_rfl) (by kernel_rfl) (by kernel_rfl)
  (fun x => by kernel_rfl) (by kernel_rfl) ⟨qOg, qbd, trivial⟩
noncomputable def qGg : FM := ⟨.tup [xcy, xcy], [.box cC], ⟨105, [.one (.con (.ref 0 0)), .one (.ty (.int .i64))], [.box cC], fun x => qtf x.1.2.1 x.2.1⟩⟩
noncomputable def qmn : An := .seq (.reg (no 2)) (.seq (.reg [nn, nn, ([], (FM.ann qCg [0] [5] [])), nn]) (.seq (.reg [([], .key 6), nn, nn, nn]) (.seq (.reg [nn, ([], (FM.ann qd [0] [] [])), nn]) (.seq (.seq (.reg (no 1)) (.join false ⟨[xch, xca], xde⟩ (.block (.gh [.freeze 6] (.loop ⟨[xac, xch, xca, xaj, xak], xde⟩ (fun s => s.1.2.2.1.length + s.1.2.2.2.1.toNat + s.1.2.2.2.2.1.toNat + s.2.1.1.length + s.2.1.2.1.toNat + s.2.1.2.2.1.toNat + s.2.2.1.length + 300) (.seq (.seq (.join false ⟨[xac, xch, xca, xaj, xak, (30, .one (.ty .bool))], xde⟩ (.reg (no 8))) (.cond (.leaf) (.leaf))) (.seq (.block (.seq (.reg [nn, nn, nn, ([], (FM.ann qd [0] [] [])), nn]) (.seq (.reg [nn, ([], (FM.ann qd [0] [] []))]) (.block (.seq (.reg (no 2)) (.join false ⟨[xac, xch, xca, xaj, xak], xde⟩ (.cond (.reg [nn, nn, nn, nn, nn, nn, ([], (FM.ann qcc [] [] [])), nn]) (.seq (.reg (no 2)) (.join false ⟨[xac, xch, xca, xaj, xak], xde⟩ (.cond (.post (.seq (.reg [nn, nn, nn, nn, ([], .key 7), nn]) (.seq (.reg (no 2)) (.seq (.seq (.reg (no 3)) (.join false ⟨[xac, xch, xca, xaj, xak, (11, .one (.con (.ref 7 0)))], [(0, .box cC), xbp, (7, .box cN)]⟩ (.cond (.reg [nn, nn, ([], (FM.ann qd [0] [] [])), ([], (FM.ann qud [0] [] [])), nn, nn]) (.leaf)))) (.seq (.reg [nn, ([], (FM.ann qd [0] [] [])), nn, nn, nn]) (.reg [nn, nn, ([], (FM.ann qY [] [8] [])), ([], (FM.ann qF [] [9] [8])), nn]))))) [.freeze 9]) (.seq (.reg (no 2)) (.join false ⟨[xac, xch, xca, xaj, xak], xde⟩ (.cond (.seq (.reg [nn, nn, nn, nn, nn, nn, ([], (FM.ann qOb [0] [] [])), ([], .key 10), nn]) (.seq (.reg (no 6)) (.join false ⟨[xac, xch, xca, xaj, xak], xde⟩ (.cond (.post (.reg [nn, nn, ([], (FM.ann qY [] [11] [])), ([], (FM.ann qF [] [12] [11])), nn]) [.freeze 12]) (.leaf))))) (.seq (.reg (no 1)) (.seq (.seq (.reg (no 6)) (.join false ⟨[xac, xch, xca, xaj, xak, (13, .one (.ty .str))], xde⟩ (.cond (.reg (no 6)) (.leaf)))) (.seq (.reg [nn, nn, ([], (FM.ann qod [0] [] [])), ([], (FM.ann qUc [] [] [])), nn]) (.seq (.join false ⟨[xac, xch, xca, xaj, xak, (14, .one (.ty .str)), (61, .one (.ty .bool))], xde⟩ (.reg [nn, nn, nn, nn, nn, ([], (FM.ann qw [] [] [])), nn, nn])) (.join false ⟨[xac, xch, xca, xaj, xak], xde⟩ (.cond (.post (.reg [nn, nn, nn, ([], (FM.ann qOb [0] [] [])), ([], (FM.ann qY [] [13] [])), nn]) [.freeze 13]) (.leaf)))))))))))))))))))) (.reg (no 3))))))))) (.seq (.reg (no 4)) (.gh [.freeze 5] .leaf))))))
theorem qmo : qGg.Valid P cx := FX.of_ex tok mix (fn := f105) (c := qm f105) (an := qmn) (ms := [qCg, qd, qd, qd, qcc, qd, qud, qd, qY, qF, qOb, qY, qF, qod, qUc, qw, qOb, qY]) (by kernel_rfl) (by kernel_rfl) (by kernel_rfl) (by kernel_rfl) (by kernel_rfl) (by kernel_rfl)
  (fun x => by kernel_rfl) (by kernel_rfl) ⟨qlo, qo, qo, qo, qkh, qo, qaj, qo, qLe, qbd, qYg, qLe, qbd, qZi, qpi, qac, qYg, qLe, trivial⟩
noncomputable def qog : FM := ⟨.v (.str tO), [.box cC], ⟨78, [.one (.con (.ref 0 0))], [.box cC], fun x => qvf x.2.1⟩⟩
noncomputable def qNm : An := .seq (.reg [([], .key 5)]) (.seq (.reg [nn, ([], (FM.ann qe [0] [] [])), nn, nn, ([], (FM.ann qe [0] [] [])), nn, nn, ([], (FM.ann qe [0] [] [])), nn, nn, ([], (FM.ann qe [0] [] [])), nn, nn, ([], (FM.ann qe [0] [] [])), nn, ([], (FM.ann qe [0] [] [])), nn, ([], (FM.ann qe [0] [] [])), nn, ([], (FM.ann qe [0] [] [])), nn, ([], (FM.ann qe [0] [] [])), nn, ([], (FM.ann qe [0] [] [])), nn, ([], .key 6), nn]) (.seq (.seq (.reg [nn, ([], (FM.ann qd [0] [] []))]) (.block (.seq (.reg (no 2)) (.join false ⟨[xac, xdj, xdk], xcm⟩ (.cond (.reg (no 2)) (.seq (.reg (no 2)) (.join false ⟨[xac, xdj, xdk], xcm⟩ (.cond (.reg (no 2)) (.leaf))))))))) (.seq (.seq (.reg (no 2)) (.join false ⟨[xac, xdj, xdk], xcm⟩ (.cond (.reg [nn, ([], (FM.ann qd [0] [] [])), nn, nn]) (.leaf)))) (.seq (.seq (.reg [nn, ([], (FM.ann qe [0] [] []))]) (.join false ⟨[xdj, xdk], xcm⟩ (.cond (.seq (.reg (no 2)) (.seq (.reg [nn, ([], .key 7), ([.freeze 7], (FM.ann qR [0] [] [])), nn, nn]) (.seq (.join false ⟨[xac, xdj, xdk, (55, .one (.ty .bool))], xcm⟩ (.reg [nn, nn, nn, nn, nn, ([], (FM.ann qe [0] [] [])), nn])) (.join false ⟨[xdj, xdk], xcm⟩ (.cond (.reg [nn, ([], .key 8), ([.freeze 8], (FM.ann qR [0] [] [])), nn, nn]) (.leaf)))))) (.leaf)))) (.seq (.reg (no 2)) (.leaf))))))
theorem qro : qog.Valid P cx := FX.of_ex tok mix (fn := f78) (c := qm f78) (an := qNm) (ms := [qe, qe, qe, qe, qe, qe, qe, qe, qe, qe, qd, qd, qe, qR, qe, qR]) (by kernel_rfl) (by kernel_rfl) (by kernel_rfl) (by kernel_rfl) (by kernel_rfl) (by kernel_rfl)
  (fun x => by kernel_rfl) (by kernel_rfl) ⟨qv, qv, qv, qv, qv, qv, qv, qv, qv, qv, qo, qo, qv, qbe, qv, qbe, trivial⟩
noncomputable def qDg : FM := ⟨.v (.str tR), [.box cC], ⟨159, [.one (.con (.ref 0 0))], [.box cC], fun x => quf x.2.1⟩⟩
noncomputable def qtm : An := .seq (.reg [([], .key 5)]) (.seq (.reg [nn, ([], .key 6), ([.freeze 6], (FM.ann qhb [0] [] [])), nn, ([], (FM.ann qe [0] [] [])), nn, ([], (FM.ann qe [0] [] [])), nn, ([], .key 7), nn]) (.seq (.reg [nn, ([], .key 8), ([.freeze 8], (FM.ann qR [0] [] [])), nn, nn]) (.seq (.reg (no 2)) (.leaf))))
theorem qyo : qDg.Valid P cx := FX.of_ex tok mix (fn := f159) (c := qm f159) (an := qtm) (ms := [qhb, qe, qe, qR]) (by kernel_rfl) (by kernel_rfl) (by kernel_rfl) (by kernel_rfl) (by kernel_rfl) (by kernel_rfl)
  (fun x => by kernel_rfl) (by kernel_rfl) ⟨qgf, qv, qv, qbe, trivial⟩
noncomputable def qag : FM := ⟨.v (.one (.con (.rs 1))), [.box cC, .lst false tR], ⟨106, [.one (.con (.ref 0 0)), .one (.ty (.int .i64))], [.box cC], fun x => qTe x.1.2.1 x.2.1⟩⟩
noncomputable def qPl : An := .seq (.reg [([], .nilAs 5 tR)]) (.seq (.reg [([], .key 6), nn]) (.seq (.seq (.reg (no 1)) (.join false ⟨[xba], [(0, .box cC), (6, .lst false tR)]⟩ (.block (.loop ⟨[xac, xas, xba, xat], [(0, .box cC), (6, .lst false tR)]⟩ (fun s => s.1.2.1.toNat + s.1.2.2.2.1.toNat + s.2.1.1.length + s.2.1.2.1.toNat + s.2.1.2.2.1.toNat + s.2.2.1.length + 300) (.seq (.seq (.reg (no 3)) (.cond (.leaf) (.leaf))) (.seq (.block (.reg [nn, nn, ([], (FM.ann qDg [0] [] [])), ([], .key 7), nn, nn])) (.reg (no 3)))))))) (.seq (.reg (no 2)) (.gh [.ren 6 1] .leaf))))
theorem qAn : qag.Valid P cx := FX.of_ex tok mix (fn := f106) (c := qm f106) (an := qPl) (ms := [qDg]) (by kernel_rfl) (by kernel_rfl) (by kernel_rfl) (by kernel_rfl) (by kernel_rfl) (by kernel_rfl)
  (fun x => by kernel_rfl) (by kernel_rfl) ⟨qyo, trivial⟩
noncomputable def qyg : FM := ⟨.tup [xcy, xcy, (.str tO), (.one (.ty (.list tR))), (.one (.con (.ref 0 0)))], [.box cC], ⟨50, [.one (.ty (.list (.int .u8)))], [], fun x => qgh x.1.1⟩⟩
noncomputable def qSn : An := .seq (.reg [nn, nn, ([], .key 4), nn, nn]) (.seq (.reg [nn, ([], (FM.ann qfh [] [5] [])), nn]) (.seq (.reg [nn, nn, nn, ([], (FM.ann qMg [] [] [])), ([], (FM.ann qd [5] [] [])), nn, ([], (FM.ann qGg [5] [] [])), nn, nn, nn, nn, nn]) (.seq (.reg [nn, ([], (FM.ann qog [5] [] [])), ([], .key 6), nn]) (.seq (.reg [([], .key 7), nn]) (.seq (.seq (.reg [nn, ([], (FM.ann qe [5] [] []))]) (.join false ⟨[xdx, xck, (8, .one (.ty (.list tN))), (9, .one (.ty (.list tN))), (10, .one (.con (.ref 6 0))), (11, .one (.con (.rs 7)))], [xdt, (5, .box cC), (6, .box cO), (7, .lst false tR)]⟩ (.cond (.post (.reg [nn, nn, ([], (FM.ann qd [5] [] [])), ([], (FM.ann qag [5] [8] [])), nn]) [.drop 7, .ren 8 7]) (.leaf)))) (.seq (.reg (no 10)) (.gh [.freeze 7, .ren 5 0] .leaf)))))))
theorem qjo : qyg.Valid P cx := FX.of_ex tok mix (fn := f50) (c := qm f50) (an := qSn) (ms := [qfh, qMg, qd, qGg, qog, qe, qd, qag]) (by kernel_rfl) (by kernel_rfl) (by kernel_rfl) (by kernel_rfl) (by kernel_rfl) (by kernel_rfl)
  (fun x => by kernel_rfl) (by kernel_rfl) ⟨qIp, qso, qo, qmo, qro, qv, qo, qAn, trivial⟩
noncomputable def qRd : FM := ⟨.tup [xcy, xcy, (.str tO), (.one (.ty (.list tR)))], [], ⟨12, [.one (.ty (.list (.int .u8)))], [], fun x => qIc x.1.1⟩⟩
noncomputable def qVi : An := .seq (.reg [nn, nn, ([], .key 4), nn]) (.seq (.reg [nn, ([], (FM.ann qyg [] [5] [])), nn, nn, nn, nn, nn, nn, ([], .key 6), nn, nn, nn, nn, nn]) (.seq (.reg (no 8)) (.leaf)))
theorem qtj : qRd.Valid P cx := FX.of_ex tok mix (fn := f12) (c := qm f12) (an := qVi) (ms := [qyg]) (by kernel_rfl) (by kernel_rfl) (by kernel_rfl) (by kernel_rfl) (by kernel_rfl) (by kernel_rfl)
  (fun x => by kernel_rfl) (by kernel_rfl) ⟨qjo, trivial⟩
noncomputable def qZg : FM := ⟨.v xap, [], ⟨142, [.str tN], [], fun x => qMd x.1.1⟩⟩
noncomputable def qEo : An := .seq (.reg [([], .key 4), nn]) (.seq (.seq (.join false ⟨[xcl, (19, .one (.ty .bool))], [xdw]⟩ (.reg [nn, nn, ([], (FM.ann qr [] [] [])), nn, nn, nn, nn, ([], (FM.ann qp [] [] [])), nn, nn, nn, nn, nn, ([], (FM.ann qp [] [] [])), nn, nn])) (.cond (.seq (.reg (no 1)) (.leaf)) (.leaf))) (.seq (.seq (.reg (no 2)) (.block (.seq (.reg (no 2)) (.cond (.seq (.join false ⟨[xbn], []⟩ (.reg (no 14))) (.leaf)) (.seq (.reg (no 2)) (.cond (.seq (.join false ⟨[xbn], []⟩ (.reg [nn, nn, nn, nn, nn, nn, nn, nn, nn, nn, nn, nn, ([], (FM.ann qp [] [] [])), nn, nn])) (.leaf)) (.seq (.reg (no 2)) (.cond (.seq (.seq (.join false ⟨[xcl, (74, .one (.ty .bool))], [xdw]⟩ (.reg [nn, nn, nn, nn, nn, nn, nn, nn, nn, nn, nn, nn, nn, nn, nn, nn, nn, ([], (FM.ann qp [] [] [])), nn, nn])) (.cond (.seq (.reg (no 1)) (.leaf)) (.leaf))) (.seq (.seq (.reg (no 1)) (.join true ⟨[], []⟩ (.block (.loop ⟨[xcl, xao], [xdw]⟩ (fun s => s.1.2.1.toNat + s.2.1.1.length + s.2.1.2.1.toNat + s.2.1.2.2.1.toNat + s.2.1.2.2.2.1.toNat + s.2.1.2.2.2.2.1.length + s.2.1.2.2.2.2.2.1.length + s.2.1.2.2.2.2.2.2.1.toNat + 300) (.seq (.seq (.reg (no 5)) (.cond (.leaf) (.leaf))) (.seq (.block (.seq (.reg (no 5)) (.cond (.seq (.reg (no 1)) (.leaf)) (.leaf)))) (.reg (no 3)))))))) (.seq (.reg (no 1)) (.leaf)))) (.leaf))))))))) (.seq (.reg (no 1)) (.leaf))))
theorem qSp : qZg.Valid P cx := FX.of_ex tok mix (fn := f142) (c := qm f142) (an := qEo) (ms := [qr, qp, qp, qp, qp]) (by kernel_rfl) (by kernel_rfl) (by kernel_rfl) (by kernel_rfl) (by kernel_rfl) (by kernel_rfl)
  (fun x => by kernel_rfl) (by kernel_rfl) ⟨qqb, qkb, qkb, qkb, qkb, trivial⟩
noncomputable def qM : FM := ⟨.v xco, [], ⟨125, [.one (.ty .str)], [], fun x => qgb x.1.1⟩⟩
noncomputable def qOl : An := .seq (.reg (no 1)) (.seq (.reg [nn, ([], (FM.ann qLc [] [] [])), nn]) (.seq (.reg (no 1)) (.seq (.seq (.reg (no 1)) (.join false ⟨[(4, .one (.ty .str))], []⟩ (.block (.loop ⟨[xdg, (4, .one (.ty .str)), xbi], []⟩ (fun s => s.1.1.length + s.1.2.1.length + s.1.2.2.1.toNat + 300) (.seq (.seq (.reg (no 5)) (.cond (.leaf) (.leaf))) (.seq (.block (.seq (.seq (.reg (no 2)) (.join false ⟨[xdg, (4, .one (.ty .str)), xbi], []⟩ (.cond (.reg (no 3)) (.leaf)))) (.reg (no 7)))) (.reg (no 3)))))))) (.seq (.reg (no 2)) (.leaf)))))
theorem qpd : qM.Valid P cx := FX.of_ex tok mix (fn := f125) (c := qm f125) (an := qOl) (ms := [qLc]) (by kernel_rfl) (by kernel_rfl) (by kernel_rfl) (by kernel_rfl) (by kernel_rfl) (by kernel_rfl)
  (fun x => by kernel_rfl) (by kernel_rfl) ⟨qoi, trivial⟩
noncomputable def qsb : FM := ⟨.v xap, [], ⟨90, [.one (.ty (.list tN))], [], fun x => qEc x.1.1⟩⟩
noncomputable def qxo : An := .seq (.reg (no 1)) (.seq (.seq (.reg (no 3)) (.cond (.seq (.reg (no 1)) (.leaf)) (.leaf))) (.seq (.reg (no 1)) (.seq (.seq (.reg (no 1)) (.join true ⟨[xai, xao], []⟩ (.block (.loop ⟨[xai, xao, xav], []⟩ (fun s => s.1.1.length + s.1.2.1.toNat + s.1.2.2.1.toNat + 300) (.seq (.seq (.reg (no 4)) (.cond (.leaf) (.leaf))) (.seq (.block (.seq (.reg [nn, nn, nn, nn, ([], .key 4), nn]) (.seq (.seq (.join false ⟨[xai, xao, xav, xce, (41, .one (.ty .bool))], [xdw]⟩ (.reg [nn, ([], (FM.ann qZg [] [] [])), nn, nn, nn, nn, nn, nn, nn, nn, nn, nn, nn, nn, nn, nn, nn, nn])) (.cond (.seq (.reg (no 1)) (.leaf)) (.leaf))) (.seq (.reg (no 6)) (.seq (.reg [nn, nn, ([], (FM.ann qM [] [] [])), nn]) (.seq (.reg [nn, nn, ([], (FM.ann qw [] [] [])), nn]) (.seq (.join false ⟨[xai, xao, xav, (66, .one (.ty .bool))], []⟩ (.reg (no 14))) (.cond (.seq (.reg (no 1)) (.leaf)) (.leaf))))))))) (.reg (no 3)))))))) (.seq (.seq (.reg (no 1)) (.join true ⟨[xao], []⟩ (.block (.loop ⟨[xai, xao, xaj], []⟩ (fun s => s.1.1.length + s.1.2.1.toNat + s.1.2.2.1.toNat + 300) (.seq (.seq (.reg (no 4)) (.cond (.leaf) (.leaf))) (.seq (.join true ⟨[xai, xao, xaj], []⟩ (.block (.seq (.seq (.reg (no 6)) (.cond (.leaf) (.leaf))) (.seq (.reg (no 1)) (.seq (.seq (.reg (no 1)) (.join true ⟨[xai, xao, xaj, xak], []⟩ (.block (.loop ⟨[xai, xao, xaj, xak, xan], []⟩ (fun s => s.1.1.length + s.1.2.1.toNat + s.1.2.2.1.toNat + s.1.2.2.2.1.toNat + s.1.2.2.2.2.1.toNat + 300) (.seq (.seq (.reg (no 4)) (.cond (.leaf) (.leaf))) (.seq (.block (.seq (.reg (no 11)) (.join true ⟨[xai, xao, xaj, xak, xan], []⟩ (.cond (.seq (.reg (no 3)) (.seq (.join false ⟨[xai, xao, xaj, xak, xan, (134, .one (.ty .bool))], []⟩ (.reg (no 37))) (.cond (.seq (.reg (no 1)) (.leaf)) (.leaf)))) (.leaf))))) (.reg (no 3)))))))) (.seq (.reg (no 2)) (.cond (.seq (.reg (no 1)) (.leaf)) (.leaf)))))))) (.reg (no 3)))))))) (.seq (.reg (no 3)) (.leaf))))))
theorem qeg : qsb.Valid P cx := FX.of_ex tok mix (fn := f90) (c := qm f90) (an := qxo) (ms := [qZg, qM, qw]) (by kernel_rfl) (by kernel_rfl) (by kernel_rfl) (by kernel_rfl) (by kernel_rfl) (by kernel_rfl)
  (fun x => by kernel_rfl) (by kernel_rfl) ⟨qSp, qpd, qac, trivial⟩
noncomputable def qnf : FM := ⟨.v xap, [], ⟨143, [.one (.ty .str)], [], fun x => qie x.1.1⟩⟩
noncomputable def qRk : An := .seq (.reg (no 1)) (.seq (.join false ⟨[xbn], []⟩ (.reg [nn, nn, nn, nn, nn, nn, nn, nn, nn, ([], (FM.ann qhc [] [] [])), nn, nn, nn])) (.leaf))
theorem qNl : qnf.Valid P cx := FX.of_ex tok mix (fn := f143) (c := qm f143) (an := qRk) (ms := [qhc]) (by kernel_rfl) (by kernel_rfl) (by kernel_rfl) (by kernel_rfl) (by kernel_rfl) (by kernel_rfl)
  (fun x => by kernel_rfl) (by kernel_rfl) ⟨qKh, trivial⟩
noncomputable def qkc : FM := ⟨.v xap, [], ⟨91, [.str tO], [], fun x => qKd x.1.1⟩⟩
noncomputable def qAo : An := .seq (.reg [([], .key 4), nn]) (.seq (.seq (.join false ⟨[xcl, (24, .one (.ty .bool))], [xdt]⟩ (.reg [nn, nn, ([], (FM.ann qp [] [] [])), nn, nn, nn, nn, nn, nn, nn, nn, nn, nn, nn, nn, nn, nn, nn, nn, nn, nn, nn])) (.cond (.seq (.reg (no 1)) (.leaf)) (.leaf))) (.seq (.seq (.reg (no 3)) (.cond (.seq (.join false ⟨[xbn], []⟩ (.reg (no 9))) (.leaf)) (.leaf))) (.seq (.join false ⟨[xbn], []⟩ (.reg [nn, nn, ([], (FM.ann qnf [] [] [])), nn, nn, nn, nn, nn, nn, nn, ([], (FM.ann qr [] [] [])), nn, nn, nn, nn, nn, nn, nn, nn, nn, nn, nn])) (.leaf))))
theorem qBh : qkc.Valid P cx := FX.of_ex tok mix (fn := f91) (c := qm f91) (an := qAo) (ms := [qp, qnf, qr]) (by kernel_rfl) (by kernel_rfl) (by kernel_rfl) (by kernel_rfl) (by kernel_rfl) (by kernel_rfl)
  (fun x => by kernel_rfl) (by kernel_rfl) ⟨qkb, qNl, qqb, trivial⟩
noncomputable def qWf : FM := ⟨.tup [(.str (.pair (.int .i64) (.pair (.int .u8) (.pair .bool (.list .bool))))), xbg], [], ⟨270, [.one (.ty .str)], [], fun x => qZe x.1.1⟩⟩
noncomputable def qRl : An := .seq (.reg [([], .key 4), nn]) (.seq (.reg [nn, ([], .key 5), nn]) (.seq (.seq (.reg (no 1)) (.block (.gh [.nilCell 5 3 7 .bool] (.loop ⟨[xau, xbq, xbc, xbi], xae⟩ (fun s => s.1.1.length + s.1.2.2.2.1.toNat + s.2.1.1.toNat + s.2.1.2.1.toNat + s.2.2.1.1.toNat + s.2.2.1.2.1.toNat + s.2.2.2.1.length + 300) (.seq (.seq (.reg (no 2)) (.cond (.leaf) (.leaf))) (.seq (.block (.reg [nn, nn, ([], .key 6), nn, nn, nn])) (.reg (no 3)))))))) (.seq (.reg (no 1)) (.seq (.seq (.join false ⟨[xau, xbq, xbc, xat, (28, .one (.ty .bool))], xae⟩ (.reg (no 10))) (.join false ⟨[xau, xbq, xbc, xat], xae⟩ (.cond (.seq (.reg (no 2)) (.reg (no 3))) (.leaf)))) (.seq (.reg (no 1)) (.seq (.block (.loop ⟨[xau, xbq, xbc, xat, xdy], xae⟩ (fun s => s.1.1.length + s.1.2.2.2.1.toNat + s.2.1.1.toNat + s.2.1.2.1.toNat + s.2.2.1.1.toNat + s.2.2.1.2.1.toNat + s.2.2.2.1.length + 300) (.seq (.seq (.join false ⟨[xau, xbq, xbc, xat, (44, .one (.ty .bool))], xae⟩ (.reg (no 13))) (.cond (.leaf) (.leaf))) (.block (.seq (.reg (no 1)) (.seq (.join false ⟨[xau, xbq, xbc, xat, xdy, (63, .one (.ty .bool))], xae⟩ (.reg (no 19))) (.join false ⟨[xau, xbq, xbc, xat, xdy], xae⟩ (.cond (.seq (.seq (.reg (no 5)) (.block (.loop ⟨[xau, xbq, xbc, xat, xdy, xaj], xae⟩ (fun s => s.1.1.length + s.1.2.2.2.1.toNat + s.1.2.2.2.2.2.1.toNat + s.2.1.1.toNat + s.2.1.2.1.toNat + s.2.2.1.1.toNat + s.2.2.1.2.1.toNat + s.2.2.2.1.length + 300) (.seq (.seq (.reg (no 7)) (.cond (.leaf) (.leaf))) (.seq (.block (.reg (no 5))) (.reg (no 3))))))) (.reg (no 3))) (.seq (.reg (no 7)) (.reg (no 3))))))))))) (.seq (.seq (.reg (no 4)) (.cond (.seq (.reg (no 3)) (.leaf)) (.leaf))) (.seq (.reg (no 5)) (.gh [.freeze 7] .leaf)))))))))
theorem qFm : qWf.Valid P cx := FX.of_ex tok mix (fn := f270) (c := qm f270) (an := qRl) (ms := []) (by kernel_rfl) (by kernel_rfl) (by kernel_rfl) (by kernel_rfl) (by kernel_rfl) (by kernel_rfl)
  (fun x => by kernel_rfl) (by kernel_rfl) trivial
noncomputable def qwc : FM := ⟨.tup [(.one (.ty (.list (.pair (.int .i64) (.pair (.int .u8) (.pair .bool (.list .bool))))))), xap], [], ⟨252, [.one (.ty .str)], [], fun x => qRc x.1.1⟩⟩
noncomputable def qfl : An := .seq (.reg (no 2)) (.seq (.reg [([], .key 4), nn]) (.seq (.seq (.reg [nn, nn, ([], (FM.ann qp [] [] [])), nn]) (.cond (.seq (.reg (no 3)) (.gh [.freeze 4] .leaf)) (.leaf))) (.seq (.block (.loop ⟨[xau, xdh], [xaq]⟩ (fun s => s.1.1.length + s.2.1.length + 300) (.seq (.seq (.reg (no 3)) (.cond (.leaf) (.leaf))) (.block (.seq (.reg (no 1)) (.seq (.reg [nn, nn, nn, ([], .key 5), nn]) (.seq (.block (.seq (.join false ⟨[xau, xdh, xbi, xcf, (21, .one (.ty .bool))], [xaq, xea]⟩ (.reg (no 9))) (.join true ⟨[xau, xdh, xbi, xcf], [xaq, xcd]⟩ (.cond (.seq (.reg (no 2)) (.reg (no 1))) (.seq (.reg (no 4)) (.join true ⟨[xau, xdh, xbi, xcf], [xaq, xcd]⟩ (.cond (.reg (no 2)) (.seq (.reg (no 4)) (.join true ⟨[xau, xdh, xbi, xcf], [xaq, xcd]⟩ (.cond (.reg (no 2)) (.seq (.reg (no 4)) (.join true ⟨[xau, xdh, xbi, xcf], [xaq, xcd]⟩ (.cond (.seq (.reg [nn, nn, ([], (FM.ann qWf [] [] [])), nn, nn, nn, ([], .key 6), nn, nn]) (.seq (.seq (.reg (no 2)) (.cond (.seq (.reg [([], .key 7), nn, nn]) (.gh [.freeze 7] .leaf)) (.leaf))) (.seq (.reg (no 2)) (.reg (no 3))))) (.seq (.reg (no 4)) (.join true ⟨[xau, xdh, xbi, xcf], [xaq, xea]⟩ (.cond (.seq (.seq (.reg (no 3)) (.cond (.seq (.reg [([], .key 8), nn, nn]) (.gh [.freeze 8] .leaf)) (.leaf))) (.seq (.reg (no 4)) (.reg (no 1)))) (.leaf))))))))))))))))) (.seq (.reg [nn, nn, ([], .key 9), nn, nn]) (.reg (no 4)))))))))) (.seq (.reg (no 3)) (.gh [.freeze 4] .leaf)))))
theorem qNh : qwc.Valid P cx := FX.of_ex tok mix (fn := f252) (c := qm f252) (an := qfl) (ms := [qp, qWf]) (by kernel_rfl) (by kernel_rfl) (by kernel_rfl) (by kernel_rfl) (by kernel_rfl) (by kernel_rfl)
  (fun x => by kernel_rfl) (by kernel_rfl) ⟨qkb, qFm, trivial⟩
noncomputable def qjf : FM := ⟨.v xap, [], ⟨219, [.one (.ty .str)], [], fun x => qQc x.1.1⟩⟩
noncomputable def qKk : An := .seq (.reg (no 1)) (.seq (.reg [nn, ([], (FM.ann qwc [] [] [])), nn, nn, nn, nn, nn]) (.seq (.reg (no 2)) (.leaf)))
theorem qGl : qjf.Valid P cx := FX.of_ex tok mix (fn := f219) (c := qm f219) (an := qKk) (ms := [qwc]) (by kernel_rfl) (by kernel_rfl) (by kernel_rfl) (by kernel_rfl) (by kernel_rfl) (by kernel_rfl)
  (fun x => by kernel_rfl) (by kernel_rfl) ⟨qNh, trivial⟩
noncomputable def qUd : FM := ⟨.v xap, [], ⟨160, [.str tR], [], fun x => qFc x.1.1⟩⟩
noncomputable def qbo : An := .seq (.reg [([], .key 4), nn]) (.seq (.seq (.reg (no 3)) (.cond (.seq (.join false ⟨[xbn], []⟩ (.reg (no 14))) (.leaf)) (.leaf))) (.seq (.seq (.join false ⟨[xcl, (45, .one (.ty .bool))], xbj⟩ (.reg [nn, nn, ([], (FM.ann qp [] [] [])), nn, nn, nn, nn, ([], (FM.ann qjf [] [] [])), nn, nn, nn, nn, nn, nn, nn, nn, nn, nn, nn, nn, nn, nn, nn, nn, nn, nn])) (.cond (.seq (.reg (no 1)) (.leaf)) (.leaf))) (.seq (.seq (.reg (no 1)) (.join true ⟨[], []⟩ (.block (.loop ⟨[xcl, xao], xbj⟩ (fun s => s.1.2.1.toNat + s.2.1.1.toNat + s.2.1.2.2.2.1.length + 300) (.seq (.seq (.reg (no 5)) (.cond (.leaf) (.leaf))) (.seq (.block (.seq (.join false ⟨[xcl, xao, (64, .one (.ty .bool))], xbj⟩ (.reg (no 12))) (.cond (.seq (.reg (no 1)) (.leaf)) (.leaf)))) (.reg (no 3)))))))) (.seq (.reg (no 1)) (.leaf)))))
theorem qPj : qUd.Valid P cx := FX.of_ex tok mix (fn := f160) (c := qm f160) (an := qbo) (ms := [qp, qjf]) (by kernel_rfl) (by kernel_rfl) (by kernel_rfl) (by kernel_rfl) (by kernel_rfl) (by kernel_rfl)
  (fun x => by kernel_rfl) (by kernel_rfl) ⟨qkb, qGl, trivial⟩
noncomputable def qP : FM := ⟨.v xap, [], ⟨107, [.one (.ty (.list tR))], [], fun x => qob x.1.1⟩⟩
noncomputable def qSj : An := .seq (.reg (no 1)) (.seq (.seq (.reg (no 3)) (.cond (.seq (.reg (no 1)) (.leaf)) (.leaf))) (.seq (.seq (.reg (no 1)) (.join true ⟨[], []⟩ (.block (.loop ⟨[xdd, xao], []⟩ (fun s => s.1.1.length + s.1.2.1.toNat + 300) (.seq (.seq (.reg (no 4)) (.cond (.leaf) (.leaf))) (.seq (.block (.seq (.reg [nn, nn, nn, nn, ([], (FM.ann qUd [] [] [])), nn]) (.cond (.seq (.reg (no 1)) (.leaf)) (.leaf)))) (.reg (no 3)))))))) (.seq (.reg (no 1)) (.leaf))))
theorem qLd : qP.Valid P cx := FX.of_ex tok mix (fn := f107) (c := qm f107) (an := qSj) (ms := [qUd]) (by kernel_rfl) (by kernel_rfl) (by kernel_rfl) (by kernel_rfl) (by kernel_rfl) (by kernel_rfl)
  (fun x => by kernel_rfl) (by kernel_rfl) ⟨qPj, trivial⟩
noncomputable def qSe : FM := ⟨.v xap, [], ⟨51, [.one (.ty (.list tN)), .one (.ty (.list tN)), .str tO, .one (.ty (.list tR))], [], fun x => qRf x.1.1 x.1.2.1 x.1.2.2.1 x.1.2.2.2.1⟩⟩
noncomputable def qjq : An := .seq (.reg [([], .key 4), nn]) (.seq (.join false ⟨[(8, .one (.ty .bool))], []⟩ (.reg [nn, ([], (FM.ann qsb [] [] [])), nn, nn, ([], (FM.ann qsb [] [] [])), nn, nn, nn, ([], (FM.ann qkc [] [] [])), nn, nn, nn, ([], (FM.ann qP [] [] [])), nn, nn])) (.leaf))
theorem qll : qSe.Valid P cx := FX.of_ex tok mix (fn := f51) (c := qm f51) (an := qjq) (ms := [qsb, qsb, qkc, qP]) (by kernel_rfl) (by kernel_rfl) (by kernel_rfl) (by kernel_rfl) (by kernel_rfl) (by kernel_rfl)
  (fun x => by kernel_rfl) (by kernel_rfl) ⟨qeg, qeg, qBh, qLd, trivial⟩
noncomputable def qah : FM := ⟨.v xap, [], ⟨282, [.str (.pair (.int .i64) (.pair (.int .u8) (.pair .bool (.list .bool)))), .one (.ty (.int .u8))], [], fun x => qXe x.1.1 x.1.2.1⟩⟩
noncomputable def qio : An := .seq (.reg [([], .key 4), nn]) (.seq (.seq (.reg (no 2)) (.block (.seq (.reg (no 2)) (.cond (.seq (.reg (no 5)) (.leaf)) (.seq (.reg (no 2)) (.cond (.seq (.reg (no 3)) (.leaf)) (.seq (.reg (no 2)) (.cond (.seq (.join false ⟨[(4, .one (.ty .bool))], []⟩ (.reg (no 13))) (.leaf)) (.seq (.reg (no 2)) (.cond (.seq (.reg (no 3)) (.leaf)) (.leaf))))))))))) (.seq (.reg (no 1)) (.leaf)))
theorem qOp : qah.Valid P cx := FX.of_ex tok mix (fn := f282) (c := qm f282) (an := qio) (ms := []) (by kernel_rfl) (by kernel_rfl) (by kernel_rfl) (by kernel_rfl) (by kernel_rfl) (by kernel_rfl)
  (fun x => by kernel_rfl) (by kernel_rfl) trivial
noncomputable def qJe : FM := ⟨.v xap, [], ⟨267, [.one (.ty .str), .one (.ty .str)], [], fun x => qLf x.1.1 x.1.2.1⟩⟩
noncomputable def qpq : An := .seq (.reg (no 1)) (.seq (.reg [nn, ([], (FM.ann qwc [] [] [])), nn, nn, nn, nn, nn]) (.seq (.seq (.join false ⟨[xaz, xag, (25, .one (.ty .bool))], []⟩ (.reg (no 7))) (.cond (.seq (.reg (no 1)) (.leaf)) (.leaf))) (.seq (.reg [([], .key 4), nn]) (.seq (.seq (.reg (no 1)) (.join false ⟨[xaz, xag, xci], [xcp]⟩ (.block (.loop ⟨[xaz, xag, xci, xaj], [xcp]⟩ (fun s => s.1.1.length + s.1.2.1.length + s.1.2.2.2.1.toNat + s.2.1.length + 300) (.seq (.seq (.reg (no 4)) (.cond (.leaf) (.leaf))) (.seq (.block (.reg [nn, ([], .key 5), nn, nn])) (.reg (no 3)))))))) (.seq (.seq (.reg (no 1)) (.join false ⟨[xaz, xci], [xcp]⟩ (.block (.loop ⟨[xaz, xag, xci, xak], [xcp]⟩ (fun s => s.1.1.length + s.1.2.1.length + s.1.2.2.2.1.toNat + s.2.1.length + 300) (.post (.seq (.seq (.reg (no 4)) (.cond (.leaf) (.leaf))) (.seq (.block (.seq (.reg [([], .key 6), nn]) (.seq (.seq (.reg (no 1)) (.join false ⟨[xaz, xag, xci, xak, xcu], [xcp, xbb]⟩ (.block (.loop ⟨[xaz, xag, xci, xak, xcu, xax], [xcp, xbb]⟩ (fun s => s.1.1.length + s.1.2.1.length + s.1.2.2.2.1.toNat + s.1.2.2.2.2.2.1.toNat + s.2.1.length + s.2.2.1.length + 300) (.seq (.seq (.reg (no 4)) (.cond (.leaf) (.leaf))) (.seq (.block (.reg [nn, ([], .key 7), nn, nn])) (.reg (no 3)))))))) (.seq (.reg (no 7)) (.seq (.seq (.reg (no 1)) (.join false ⟨[xaz, xag, xak, xcu], [xbb]⟩ (.block (.loop ⟨[xaz, xag, xci, xak, xcu, xcr, xcc], [xcp, xbb]⟩ (fun s => s.1.1.length + s.1.2.1.length + s.1.2.2.2.1.toNat + s.1.2.2.2.2.2.2.1.toNat + s.2.1.length + s.2.2.1.length + 300) (.seq (.seq (.reg (no 4)) (.cond (.leaf) (.leaf))) (.seq (.block (.seq (.seq (.join false ⟨[xaz, xag, xci, xak, xcu, xcr, xcc, (70, .one (.ty .bool))], [xcp, xbb]⟩ (.reg (no 7))) (.join false ⟨[xaz, xag, xci, xak, xcu, xcr, xcc], [xcp, xbb]⟩ (.cond (.reg (no 4)) (.leaf)))) (.seq (.join false ⟨[xaz, xag, xci, xak, xcu, xcr, xcc, (102, .one (.ty .bool))], [xcp, xbb]⟩ (.reg [nn, nn, nn, nn, nn, nn, nn, nn, nn, nn, nn, nn, ([], (FM.ann qah [] [] [])), nn, nn, nn, nn, nn, nn, nn, nn, nn, nn, nn, nn, nn, nn, nn, nn])) (.join false ⟨[xaz, xag, xci, xak, xcu, xcr, xcc], [xcp, xbb]⟩ (.cond (.reg (no 5)) (.leaf)))))) (.reg (no 3)))))))) (.reg (no 2))))))) (.reg (no 3)))) [.ren 6 4]))))) (.seq (.reg (no 6)) (.leaf)))))))
theorem qBl : qJe.Valid P cx := FX.of_ex tok mix (fn := f267) (c := qm f267) (an := qpq) (ms := [qwc, qah]) (by kernel_rfl) (by kernel_rfl) (by kernel_rfl) (by kernel_rfl) (by kernel_rfl) (by kernel_rfl)
  (fun x => by kernel_rfl) (by kernel_rfl) ⟨qNh, qOp, trivial⟩
noncomputable def qsh : FM := ⟨.v xap, [], ⟨242, [.str tR, .one (.ty .str), .one (.ty .bool)], [], fun x => qDc x.1.1 x.1.2.1 x.1.2.2.1⟩⟩
noncomputable def qqq : An := .seq (.reg [([], .key 4), nn]) (.seq (.seq (.join false ⟨[xaz, xbt, (28, .one (.ty .bool))], xbj⟩ (.reg [nn, ([], (FM.ann qUd [] [] [])), nn, nn, nn, nn, nn, nn, nn, nn, ([], (FM.ann qr [] [] [])), nn, nn, nn, nn, nn, nn, nn, nn, nn, nn])) (.cond (.seq (.reg (no 1)) (.leaf)) (.leaf))) (.seq (.seq (.reg [nn, nn, nn, ([], (FM.ann qJe [] [] []))]) (.cond (.seq (.reg (no 1)) (.leaf)) (.leaf))) (.seq (.seq (.reg (no 1)) (.join true ⟨[], []⟩ (.block (.loop ⟨[xaz, xbt, xbu], xbj⟩ (fun s => s.1.1.length + s.1.2.2.1.toNat + s.2.1.1.toNat + s.2.1.2.2.2.1.length + 300) (.seq (.seq (.join false ⟨[xaz, xbt, xbu, (41, .one (.ty .bool))], xbj⟩ (.reg (no 9))) (.cond (.leaf) (.leaf))) (.seq (.block (.seq (.join false ⟨[xaz, xbt, xbu, (56, .one (.ty .bool))], xbj⟩ (.reg [nn, nn, nn, nn, nn, nn, nn, nn, nn, nn, nn, ([], (FM.ann qJe [] [] [])), nn])) (.cond (.seq (.reg (no 1)) (.leaf)) (.leaf)))) (.reg (no 3)))))))) (.seq (.reg (no 1)) (.leaf)))))
theorem qUr : qsh.Valid P cx := FX.of_ex tok mix (fn := f242) (c := qm f242) (an := qqq) (ms := [qUd, qr, qJe, qJe]) (by kernel_rfl) (by kernel_rfl) (by kernel_rfl) (by kernel_rfl) (by kernel_rfl) (by kernel_rfl)
  (fun x => by kernel_rfl) (by kernel_rfl) ⟨qPj, qqb, qBl, qBl, trivial⟩
noncomputable def qAb : FM := ⟨.v xbg, [], ⟨195, [.one (.ty (.list tR)), .one (.ty (.int .i64)), .one (.ty (.int .i64)), .one (.ty .str), .one (.ty .bool)], [], fun x => qSb x.1.1 x.1.2.1 x.1.2.2.1 x.1.2.2.2.1 x.1.2.2.2.2.1⟩⟩
noncomputable def qEl : An := .seq (.reg (no 1)) (.seq (.seq (.reg (no 1)) (.join true ⟨[], []⟩ (.block (.loop ⟨[xdd, xas, xaw, (3, .one (.ty .str)), (4, .one (.ty .bool)), xax], []⟩ (fun s => s.1.1.length + s.1.2.1.toNat + s.1.2.2.1.toNat + s.1.2.2.2.1.length + s.1.2.2.2.2.2.1.toNat + 300) (.seq (.seq (.reg (no 4)) (.cond (.leaf) (.leaf))) (.seq (.block (.seq (.join false ⟨[xdd, xas, xaw, (3, .one (.ty .str)), (4, .one (.ty .bool)), xax, (42, .one (.ty .bool))], []⟩ (.reg [nn, nn, nn, nn, nn, nn, nn, nn, nn, nn, nn, nn, nn, nn, nn, nn, nn, nn, nn, nn, nn, nn, nn, ([], (FM.ann qsh [] [] [])), nn])) (.cond (.seq (.reg (no 6)) (.leaf)) (.leaf)))) (.reg (no 3)))))))) (.seq (.reg (no 1)) (.leaf)))
theorem qxg : qAb.Valid P cx := FX.of_ex tok mix (fn := f195) (c := qm f195) (an := qEl) (ms := [qsh]) (by kernel_rfl) (by kernel_rfl) (by kernel_rfl) (by kernel_rfl) (by kernel_rfl) (by kernel_rfl)
  (fun x => by kernel_rfl) (by kernel_rfl) ⟨qUr, trivial⟩
noncomputable def qgc : FM := ⟨.v xap, [], ⟨124, [.one (.ty (.list tR)), .one (.ty .str), .one (.ty .bool)], [], fun x => qCd x.1.1 x.1.2.1 x.1.2.2.1⟩⟩
noncomputable def qqo : An := .seq (.reg (no 1)) (.seq (.seq (.join false ⟨[xdd, xaz, xbn, xcv], []⟩ (.reg [nn, ([], (FM.ann qP [] [] [])), nn, nn, nn, ([], (FM.ann qr [] [] [])), nn, nn])) (.cond (.seq (.reg (no 1)) (.leaf)) (.leaf))) (.seq (.seq (.reg (no 1)) (.join true ⟨[xdd, xaz, xbn], []⟩ (.block (.loop ⟨[xdd, xaz, xbn, xbu], []⟩ (fun s => s.1.1.length + s.1.2.1.length + s.1.2.2.2.1.toNat + 300) (.seq (.seq (.reg (no 4)) (.cond (.leaf) (.leaf))) (.seq (.block (.seq (.join false ⟨[xdd, xaz, xbn, xbu, (33, .one (.ty .bool))], []⟩ (.reg [nn, nn, nn, nn, nn, nn, nn, nn, nn, ([], (FM.ann qAb [] [] [])), nn, nn])) (.cond (.seq (.reg (no 1)) (.leaf)) (.leaf)))) (.reg (no 3)))))))) (.seq (.reg [nn, nn, nn, ([], (FM.ann qAb [] [] [])), nn, nn]) (.leaf))))
theorem qIh : qgc.Valid P cx := FX.of_ex tok mix (fn := f124) (c := qm f124) (an := qqo) (ms := [qP, qr, qAb, qAb]) (by kernel_rfl) (by kernel_rfl) (by kernel_rfl) (by kernel_rfl) (by kernel_rfl) (by kernel_rfl)
  (fun x => by kernel_rfl) (by kernel_rfl) ⟨qLd, qqb, qxg, qxg, trivial⟩
noncomputable def qIg : FM := ⟨.v xap, [], ⟨127, [.one (.ty (.list tR)), .one (.ty .str), .one (.ty .bool)], [], fun x => qzf x.1.1 x.1.2.1 x.1.2.2.1⟩⟩
noncomputable def qpm : An := .seq (.reg (no 1)) (.seq (.join false ⟨[xdc], []⟩ (.reg [nn, ([], (FM.ann qP [] [] [])), nn, nn, ([], (FM.ann qr [] [] [])), nn, nn, nn, nn, nn, ([], (FM.ann qAb [] [] [])), nn, nn, nn])) (.leaf))
theorem qvo : qIg.Valid P cx := FX.of_ex tok mix (fn := f127) (c := qm f127) (an := qpm) (ms := [qP, qr, qAb]) (by kernel_rfl) (by kernel_rfl) (by kernel_rfl) (by kernel_rfl) (by kernel_rfl) (by kernel_rfl)
  (fun x => by kernel_rfl) (by kernel_rfl) ⟨qLd, qqb, qxg, trivial⟩
noncomputable def qZf : FM := ⟨.v xap, [], ⟨72, [.one (.ty (.list tN)), .str tN, .str tO, .one (.ty (.list tR))], [], fun x => qAe x.1.1 x.1.2.1 x.1.2.2.1 x.1.2.2.2.1⟩⟩
noncomputable def qCl : An := .seq (.reg [([], .key 4), ([], .key 5), nn]) (.seq (.reg [nn, nn, nn, ([], (FM.ann qw [] [] [])), nn]) (.seq (.seq (.join false ⟨[xbw, xce, xcf, (29, .one (.ty .bool))], [xdw, xdf]⟩ (.reg [nn, nn, nn, nn, nn, nn, nn, nn, nn, nn, nn, nn, ([], (FM.ann qgc [] [] [])), nn, nn])) (.cond (.seq (.reg (no 1)) (.leaf)) (.leaf))) (.seq (.reg (no 4)) (.seq (.seq (.join false ⟨[xce, xcf, (44, .one (.ty .bool))], [xdw, xdf]⟩ (.reg [nn, nn, nn, nn, ([], (FM.ann qgc [] [] [])), nn, nn, nn, nn, nn, ([], (FM.ann qIg [] [] [])), nn])) (.cond (.seq (.reg (no 1)) (.leaf)) (.leaf))) (.seq (.seq (.join false ⟨[xce, xcf, (65, .one (.ty .bool))], [xdw, xdf]⟩ (.reg [nn, nn, nn, nn, nn, nn, nn, nn, nn, nn, nn, nn, ([], (FM.ann qDb [] [] [])), nn, nn, nn, nn, nn, ([], (FM.ann qDb [] [] [])), nn, nn])) (.cond (.seq (.reg (no 1)) (.leaf)) (.leaf))) (.seq (.seq (.join false ⟨[(96, .one (.ty .bool))], []⟩ (.reg (no 31))) (.cond (.seq (.reg (no 1)) (.leaf)) (.leaf))) (.seq (.reg (no 1)) (.leaf))))))))
theorem qpn : qZf.Valid P cx := FX.of_ex tok mix (fn := f72) (c := qm f72) (an := qCl) (ms := [qw, qgc, qgc, qIg, qDb, qDb]) (by kernel_rfl) (by kernel_rfl) (by kernel_rfl) (by kernel_rfl) (by kernel_rfl) (by kernel_rfl)
  (fun x => by kernel_rfl) (by kernel_rfl) ⟨qac, qIh, qIh, qvo, qOg, qOg, trivial⟩
noncomputable def qWg : FM := ⟨.v xdq, [], ⟨27, [.one (.ty (.list tN)), .one (.ty (.list tN)), .str tO, .one (.ty (.list tR))], [], fun x => qig x.1.1 x.1.2.1 x.1.2.2.1 x.1.2.2.2.1⟩⟩
noncomputable def qko : An := .seq (.reg [([], .key 4), nn]) (.seq (.reg [([], .key 5), nn]) (.seq (.seq (.join false ⟨[xai, xct, xbw, xda, xcz, (24, .one (.ty .bool))], xcj⟩ (.reg [nn, nn, nn, nn, ([], (FM.ann qSe [] [] [])), nn, nn, nn, nn, nn, nn])) (.cond (.seq (.reg (no 2)) (.gh [.freeze 5] .leaf)) (.leaf))) (.seq (.seq (.reg (no 4)) (.join false ⟨[xcz], [(5, .lst false .str)]⟩ (.block (.loop ⟨[xai, xct, xbw, xda, xcz, xan], xcj⟩ (fun s => s.1.1.length + s.1.2.1.length + s.1.2.2.1.length + s.1.2.2.2.2.2.1.toNat + s.2.1.2.2.2.2.2.2.2.2.2.2.2.2.2.1.toNat + s.2.1.2.2.2.2.2.2.2.2.2.2.2.2.2.2.2.1.length + s.2.1.2.2.2.2.2.2.2.2.2.2.2.2.2.2.2.2.1.length + s.2.2.1.length + 300) (.seq (.seq (.reg (no 2)) (.cond (.leaf) (.leaf))) (.seq (.block (.seq (.reg (no 1)) (.seq (.seq (.reg (no 1)) (.join false ⟨[xai, xct, xbw, xda, xcz, xan, xcs], xcj⟩ (.block (.loop ⟨[xai, xct, xbw, xda, xcz, xan, xcs, xbk], xcj⟩ (fun s => s.1.1.length + s.1.2.1.length + s.1.2.2.1.length + s.1.2.2.2.2.2.1.toNat + s.1.2.2.2.2.2.2.2.1.toNat + s.2.1.2.2.2.2.2.2.2.2.2.2.2.2.2.1.toNat + s.2.1.2.2.2.2.2.2.2.2.2.2.2.2.2.2.2.1.length + s.2.1.2.2.2.2.2.2.2.2.2.2.2.2.2.2.2.2.1.length + s.2.2.1.length + 300) (.seq (.seq (.reg (no 4)) (.cond (.leaf) (.leaf))) (.seq (.block (.seq (.join false ⟨[xai, xct, xbw, xda, xcz, xan, xcs, xbk, (60, .one (.ty .bool))], xcj⟩ (.reg [nn, nn, nn, nn, nn, nn, nn, nn, nn, nn, ([], (FM.ann qDb [] [] [])), nn, nn, nn, nn, nn, nn, nn, nn, ([], (FM.ann qZf [] [] [])), nn, nn])) (.join false ⟨[xai, xct, xbw, xda, xcz, xan, xcs, xbk], xcj⟩ (.cond (.reg (no 1)) (.leaf))))) (.reg (no 3)))))))) (.seq (.reg (no 1)) (.join false ⟨[xai, xct, xbw, xda, xcz, xan], xcj⟩ (.cond (.reg [nn, nn, nn, nn, nn, nn, ([], .key 6), nn, nn]) (.leaf))))))) (.reg (no 3)))))))) (.seq (.reg (no 2)) (.gh [.freeze 5] .leaf)))))
theorem qdq : qWg.Valid P cx := FX.of_ex tok mix (fn := f27) (c := qm f27) (an := qko) (ms := [qSe, qDb, qZf]) (by kernel_rfl) (by kernel_rfl) (by kernel_rfl) (by kernel_rfl) (by kernel_rfl) (by kernel_rfl)
  (fun x => by kernel_rfl) (by kernel_rfl) ⟨qll, qOg, qpn, trivial⟩
noncomputable def qqc : FM := ⟨.v xap, [], ⟨161, [.one (.ty (.list tN)), .one (.ty .str)], [], fun x => qNc x.1.1 x.1.2.1⟩⟩
noncomputable def qJk : An := .seq (.reg (no 1)) (.seq (.seq (.reg (no 1)) (.join true ⟨[], []⟩ (.block (.loop ⟨[xai, xaz, xbi], []⟩ (fun s => s.1.1.length + s.1.2.1.length + s.1.2.2.1.toNat + 300) (.seq (.seq (.reg (no 4)) (.cond (.leaf) (.leaf))) (.seq (.block (.seq (.reg [nn, nn, nn, nn, nn, ([], (FM.ann qM [] [] [])), nn, nn]) (.cond (.seq (.reg (no 1)) (.leaf)) (.leaf)))) (.reg (no 3)))))))) (.seq (.reg (no 1)) (.leaf)))
theorem qLh : qqc.Valid P cx := FX.of_ex tok mix (fn := f161) (c := qm f161) (an := qJk) (ms := [qM]) (by kernel_rfl) (by kernel_rfl) (by kernel_rfl) (by kernel_rfl) (by kernel_rfl) (by kernel_rfl)
  (fun x => by kernel_rfl) (by kernel_rfl) ⟨qpd, trivial⟩
noncomputable def qye : FM := ⟨.v xco, [], ⟨220, [.str tO, .one (.ty .str)], [], fun x => qBd x.1.1 x.1.2.1⟩⟩
noncomputable def qHj : An := .seq (.reg [([], .key 4), nn]) (.seq (.seq (.join false ⟨[xaz, xbq, (18, .one (.ty .bool))], [xdt]⟩ (.reg [nn, ([], (FM.ann qkc [] [] [])), nn, nn, nn, nn, nn, nn, nn, nn, ([], (FM.ann qr [] [] [])), nn, nn])) (.cond (.seq (.reg (no 1)) (.leaf)) (.leaf))) (.seq (.reg (no 5)) (.seq (.seq (.reg (no 3)) (.join false ⟨[(5, .one (.ty .str))], []⟩ (.cond (.reg (no 6)) (.leaf)))) (.seq (.seq (.reg [nn, ([], (FM.ann qr [] [] [])), nn]) (.cond (.seq (.reg (no 1)) (.leaf)) (.leaf))) (.seq (.reg (no 2)) (.leaf))))))
theorem qDk : qye.Valid P cx := FX.of_ex tok mix (fn := f220) (c := qm f220) (an := qHj) (ms := [qkc, qr, qr]) (by kernel_rfl) (by kernel_rfl) (by kernel_rfl) (by kernel_rfl) (by kernel_rfl) (by kernel_rfl)
  (fun x => by kernel_rfl) (by kernel_rfl) ⟨qBh, qqb, qqb, trivial⟩
noncomputable def qic : FM := ⟨.tup [], [.box [.ty (.list tN), .con (.rs 1), .con (.rs 2), .con (.rs 3), .ty .bool, .con (.rs 4)], .lst false tN, .lst false (.pair (.int .i64) (.pair .str (.pair tN tN))), .lst false (.pair .str (.int .i64)), .lst false (.list tN)], ⟨166, [.one (.con (.ref 0 0)), .str tN], [.box [.ty (.list tN), .con (.rs 1), .con (.rs 2), .con (.rs 3), .ty .bool, .con (.rs 4)], .lst false tN, .lst false (.pair (.int .i64) (.pair .str (.pair tN tN))), .lst false (.pair .str (.int .i64)), .lst false (.list tN)], fun x => qFd x.1.2.1 x.2.1 x.2.2.1 x.2.2.2.1 x.2.2.2.2.1 x.2.2.2.2.2.1⟩⟩
noncomputable def qdo : An := .post (.seq (.reg [([], .key 9)]) (.seq (.reg [nn, nn, nn, nn, nn, nn, ([], (FM.ann qY [] [10] [])), ([], (FM.ann qF [] [11] [10])), nn, nn, nn]) (.seq (.reg [nn, nn, nn, nn, ([], (FM.ann qsb [] [] [11])), nn]) (.join false ⟨[], [(0, .box [.con (.rs 11), .con (.rs 1), .con (.rs 2), .con (.rs 3), .ty .bool, .con (.rs 4)]), xdp, xar, xbo, xcn, (11, .lst false tN)]⟩ (.cond (.reg (no 4)) (.leaf)))))) [.freeze 11]
theorem quh : qic.Valid P cx := FX.of_ex tok mix (fn := f166) (c := qm f166) (an := qdo) (ms := [qY, qF, qsb]) (by kernel_rfl) (by kernel_rfl) (by kernel_rfl) (by kernel_rfl) (by kernel_rfl) (by kernel_rfl)
  (fun x => by kernel_rfl) (by kernel_rfl) ⟨qLe, qbd, qeg, trivial⟩
noncomputable def qwd : FM := ⟨.tup [], [.box [.ty (.list tN), .con (.rs 1), .con (.rs 2), .con (.rs 3), .ty .bool, .con (.rs 4)], .lst false tN, .lst false (.pair (.int .i64) (.pair .str (.pair tN tN))), .lst false (.pair .str (.int .i64)), .lst false (.list tN)], ⟨162, [.one (.con (.ref 0 0)), .str tO, .one (.ty (.int .i64)), .str tN], [.box [.ty (.list tN), .con (.rs 1), .con (.rs 2), .con (.rs 3), .ty .bool, .con (.rs 4)], .lst false tN, .lst false (.pair (.int .i64) (.pair .str (.pair tN tN))), .lst false (.pair .str (.int .i64)), .lst false (.list tN)], fun x => qfe x.1.2.1 x.1.2.2.1 x.1.2.2.2.1 x.2.1 x.2.2.1 x.2.2.2.1 x.2.2.2.2.1 x.2.2.2.2.2.1⟩⟩
noncomputable def qDm : An := .seq (.reg [([], .key 9), ([], .key 10)]) (.seq (.reg [nn, nn, nn, ([], (FM.ann qye [] [] [])), nn]) (.seq (.seq (.join false ⟨[xac, xaw, xby, xcx, (24, .one (.ty .bool))], [xam, xdp, xar, xbo, xcn, (10, .box cN)]⟩ (.reg (no 7))) (.cond (.leaf) (.leaf))) (.seq (.reg [([], .key 11), nn]) (.seq (.seq (.reg [nn, ([], (FM.ann qM [] [] [])), nn]) (.join true ⟨[xac, xaw, xby, xcx, xdv], xad⟩ (.block (.loop ⟨[xac, xaw, xby, xcx, xdv, (10, .one (.ty .str))], xad⟩ (fun s => s.1.2.1.toNat + s.1.2.2.2.1.length + s.1.2.2.2.2.2.1.length + s.2.1.1.length + s.2.2.1.length + s.2.2.2.1.length + s.2.2.2.2.1.length + s.2.2.2.2.2.1.length + s.2.2.2.2.2.2.1.1.length + s.2.2.2.2.2.2.1.2.1.toNat + s.2.2.2.2.2.2.1.2.2.1.toNat + s.2.2.2.2.2.2.1.2.2.2.1.toNat + s.2.2.2.2.2.2.1.2.2.2.2.1.length + s.2.2.2.2.2.2.1.2.2.2.2.2.1.length + s.2.2.2.2.2.2.1.2.2.2.2.2.2.1.toNat + s.2.2.2.2.2.2.2.1.length + 300) (.seq (.seq (.reg (no 2)) (.cond (.leaf) (.leaf))) (.seq (.block (.seq (.reg [nn, nn, nn, nn, nn, ([], (FM.ann qw [] [] [])), nn]) (.seq (.reg (no 2)) (.join true ⟨[xac, xaw, xby, xcx, xdv, (10, .one (.ty .str))], xad⟩ (.cond (.reg [nn, nn, ([], .key 12), nn, nn]) (.seq (.reg (no 9)) (.cond (.leaf) (.leaf)))))))) (.reg [nn, ([], (FM.ann qM [] [] [])), nn]))))))) (.seq (.reg [nn, nn, nn, nn, nn, ([], (FM.ann qw [] [] [])), nn]) (.seq (.seq (.join false ⟨[xac, xaw, xby, xcx, xdv, (71, .one (.ty .bool))], xad⟩ (.reg (no 13))) (.cond (.leaf) (.leaf))) (.seq (.seq (.reg (no 4)) (.join false ⟨[xac, xby, xcx], [xam, xdp, xar, xbo, xcn, (10, .box cN)]⟩ (.block (.loop ⟨[xac, xaw, xby, xcx, xdv, xcc], xad⟩ (fun s => s.1.2.1.toNat + s.1.2.2.2.1.length + s.1.2.2.2.2.2.1.toNat + s.2.1.1.length + s.2.2.1.length + s.2.2.2.1.length + s.2.2.2.2.1.length + s.2.2.2.2.2.1.length + s.2.2.2.2.2.2.1.1.length + s.2.2.2.2.2.2.1.2.1.toNat + s.2.2.2.2.2.2.1.2.2.1.toNat + s.2.2.2.2.2.2.1.2.2.2.1.toNat + s.2.2.2.2.2.2.1.2.2.2.2.1.length + s.2.2.2.2.2.2.1.2.2.2.2.2.1.length + s.2.2.2.2.2.2.1.2.2.2.2.2.2.1.toNat + s.2.2.2.2.2.2.2.1.length + 300) (.seq (.seq (.reg (no 2)) (.cond (.leaf) (.leaf))) (.seq (.block (.reg [nn, nn, nn, nn, nn, nn, nn, ([], (FM.ann qic [0, 1, 2, 3, 4] [] []))])) (.reg (no 3)))))))) (.seq (.reg (no 3)) (.seq (.reg (no 2)) (.reg [nn, nn, ([], (FM.ann qic [0, 1, 2, 3, 4] [] []))]))))))))))
theorem qbj : qwd.Valid P cx := FX.of_ex tok mix (fn := f162) (c := qm f162) (an := qDm) (ms := [qye, qM, qw, qM, qw, qic, qic]) (by kernel_rfl) (by kernel_rfl) (by kernel_rfl) (by kernel_rfl) (by kernel_rfl) (by kernel_rfl)
  (fun x => by kernel_rfl) (by kernel_rfl) ⟨qDk, qpd, qac, qpd, qac, quh, quh, trivial⟩
noncomputable def qAc : FM := ⟨.tup [], [.box [.ty (.list tN), .con (.rs 1), .con (.rs 2), .con (.rs 3), .ty .bool, .con (.rs 4)], .lst false tN, .lst false (.pair (.int .i64) (.pair .str (.pair tN tN))), .lst false (.pair .str (.int .i64)), .lst false (.list tN)], ⟨163, [.one (.con (.ref 0 0)), .one (.ty (.int .i64)), .str tN, .str tN], [.box [.ty (.list tN), .con (.rs 1), .con (.rs 2), .con (.rs 3), .ty .bool, .con (.rs 4)], .lst false tN, .lst false (.pair (.int .i64) (.pair .str (.pair tN tN))), .lst false (.pair .str (.int .i64)), .lst false (.list tN)], fun x => qSc x.1.2.1 x.1.2.2.1 x.1.2.2.2.1 x.2.1 x.2.2.1 x.2.2.2.1 x.2.2.2.2.1 x.2.2.2.2.2.1⟩⟩
noncomputable def qYk : An := .seq (.reg [([], .key 9), ([], .key 10)]) (.seq (.reg (no 3)) (.seq (.seq (.reg (no 2)) (.join false ⟨[xac, xas, (6, .one (.con (.ref 9 0))), xby, xcx], [xam, xdp, xar, xbo, xcn, (9, .box cN), (10, .box cN)]⟩ (.cond (.reg (no 3)) (.leaf)))) (.seq (.reg (no 17)) (.reg [nn, nn, nn, nn, nn, ([], .viewA), nn, nn, nn, nn, ([], .viewA), nn, nn, nn, nn, nn]))))
theorem qRh : qAc.Valid P cx := FX.of_ex tok mix (fn := f163) (c := qm f163) (an := qYk) (ms := []) (by kernel_rfl) (by kernel_rfl) (by kernel_rfl) (by kernel_rfl) (by kernel_rfl) (by kernel_rfl)
  (fun x => by kernel_rfl) (by kernel_rfl) trivial
noncomputable def qif : FM := ⟨.tup [], [.box [.ty (.list tN), .con (.rs 1), .con (.rs 2), .con (.rs 3), .ty .bool, .con (.rs 4)], .lst false tN, .lst false (.pair (.int .i64) (.pair .str (.pair tN tN))), .lst false (.pair .str (.int .i64)), .lst false (.list tN)], ⟨108, [.one (.con (.ref 0 0)), .str tO, .one (.ty (.int .i64)), .one (.ty .str)], [.box [.ty (.list tN), .con (.rs 1), .con (.rs 2), .con (.rs 3), .ty .bool, .con (.rs 4)], .lst false tN, .lst false (.pair (.int .i64) (.pair .str (.pair tN tN))), .lst false (.pair .str (.int .i64)), .lst false (.list tN)], fun x => qge x.1.2.1 x.1.2.2.1 x.1.2.2.2.1 x.2.1 x.2.2.1 x.2.2.2.1 x.2.2.2.2.1 x.2.2.2.2.2.1⟩⟩
noncomputable def qUk : An := .seq (.reg [([], .key 9)]) (.seq (.reg [nn, nn, nn, nn, nn, ([], (FM.ann qw [] [] [])), nn]) (.seq (.seq (.join false ⟨[xac, xaw, (3, .one (.ty .str)), xbv, xaj, (36, .one (.ty .bool))], [xam, xdp, xar, xbo, xcn, (9, .box cO)]⟩ (.reg [nn, nn, nn, nn, nn, nn, nn, nn, nn, nn, nn, nn, nn, nn, nn, nn, nn, nn, ([], (FM.ann qqc [] [] [])), nn, nn])) (.cond (.leaf) (.leaf))) (.seq (.reg [nn, nn, nn, nn, nn, nn, nn, ([], .key 10), nn]) (.seq (.reg [nn, nn, nn, nn, ([], (FM.ann qwd [0, 1, 2, 3, 4] [] []))]) (.seq (.reg [nn, nn, nn, nn, nn, nn, ([], (FM.ann qcc [] [] [])), nn, nn, nn]) (.reg [nn, nn, nn, ([], (FM.ann qAc [0, 1, 2, 3, 4] [] []))]))))))
theorem qDl : qif.Valid P cx := FX.of_ex tok mix (fn := f108) (c := qm f108) (an := qUk) (ms := [qw, qqc, qwd, qcc, qAc]) (by kernel_rfl) (by kernel_rfl) (by kernel_rfl) (by kernel_rfl) (by kernel_rfl) (by kernel_rfl)
  (fun x => by kernel_rfl) (by kernel_rfl) ⟨qac, qLh, qbj, qkh, qRh, trivial⟩
noncomputable def qGh : FM := ⟨.v xap, [], ⟨68, [.one (.ty (.list tN)), .str tO, .one (.ty (.list tR))], [], fun x => qVg x.1.1 x.1.2.1 x.1.2.2.1⟩⟩
noncomputable def qZp : An := .seq (.reg [([], .key 4), nn]) (.seq (.join false ⟨[xdc], []⟩ (.reg [nn, ([], (FM.ann qsb [] [] [])), nn, nn, ([], (FM.ann qkc [] [] [])), nn, nn, nn, ([], (FM.ann qP [] [] [])), nn, nn])) (.leaf))
theorem qpr : qGh.Valid P cx := FX.of_ex tok mix (fn := f68) (c := qm f68) (an := qZp) (ms := [qsb, qkc, qP]) (by kernel_rfl) (by kernel_rfl) (by kernel_rfl) (by kernel_rfl) (by kernel_rfl) (by kernel_rfl)
  (fun x => by kernel_rfl) (by kernel_rfl) ⟨qeg, qBh, qLd, trivial⟩
noncomputable def qqg : FM := ⟨.v xbg, [], ⟨69, [.str tN, .str tO, .one (.ty (.list tR))], [], fun x => qde x.1.1 x.1.2.1 x.1.2.2.1⟩⟩
noncomputable def qKm : An := .seq (.reg [([], .key 4), ([], .key 5), nn]) (.seq (.block (.seq (.reg [nn, nn, nn, nn, nn, nn, ([], (FM.ann qgc [] [] [])), nn]) (.cond (.seq (.reg (no 1)) (.leaf)) (.seq (.join false ⟨[xbt, xbc, xcv], [xdw, xdf]⟩ (.reg [nn, nn, nn, nn, nn, nn, nn, nn, nn, nn, ([], (FM.ann qM [] [] [])), nn, nn, nn, nn])) (.cond (.seq (.reg (no 1)) (.leaf)) (.seq (.join false ⟨[(30, .one (.ty .bool))], []⟩ (.reg (no 9))) (.cond (.seq (.reg (no 1)) (.leaf)) (.leaf)))))))) (.seq (.reg (no 1)) (.leaf)))
theorem qLo : qqg.Valid P cx := FX.of_ex tok mix (fn := f69) (c := qm f69) (an := qKm) (ms := [qgc, qM]) (by kernel_rfl) (by kernel_rfl) (by kernel_rfl) (by kernel_rfl) (by kernel_rfl) (by kernel_rfl)
  (fun x => by kernel_rfl) (by kernel_rfl) ⟨qIh, qpd, trivial⟩
noncomputable def qae : FM := ⟨.tup [xcy, xap], [], ⟨23, [.one (.ty (.list tN)), .str tO, .one (.ty (.list tR))], [], fun x => qDe x.1.1 x.1.2.1 x.1.2.2.1⟩⟩
noncomputable def qgo : An := .seq (.reg [([], .key 4), nn, nn]) (.seq (.reg [([], .key 5), nn]) (.seq (.seq (.reg [nn, nn, nn, ([], (FM.ann qGh [] [] [])), nn]) (.cond (.seq (.reg (no 3)) (.gh [.freeze 5] .leaf)) (.leaf))) (.seq (.seq (.reg (no 1)) (.join false ⟨[xec], [xbp]⟩ (.block (.loop ⟨[xai, (2, .one (.ty (.list tR))), xdx, xec, xak], [xdt, xbp]⟩ (fun s => s.1.1.length + s.1.2.1.length + s.1.2.2.2.2.1.toNat + s.2.1.2.2.2.2.2.2.2.2.2.2.2.2.2.1.toNat + s.2.1.2.2.2.2.2.2.2.2.2.2.2.2.2.2.2.1.length + s.2.1.2.2.2.2.2.2.2.2.2.2.2.2.2.2.2.2.1.length + s.2.2.1.length + 300) (.seq (.seq (.reg (no 4)) (.cond (.leaf) (.leaf))) (.seq (.block (.seq (.reg [nn, nn, nn, nn, nn, nn, ([], (FM.ann qqg [] [] [])), nn]) (.join false ⟨[xai, (2, .one (.ty (.list tR))), xdx, xec, xak], [xdt, xbp]⟩ (.cond (.seq (.reg [nn, nn, nn, nn, ([], .key 6), nn]) (.seq (.seq (.reg (no 3)) (.join false ⟨[xai, (2, .one (.ty (.list tR))), xdx, xec, xak, (10, .one (.con (.ref 6 0)))], [xdt, xbp, (6, .box cN)]⟩ (.cond (.reg (no 2)) (.leaf)))) (.reg [nn, nn, ([], .key 7), nn, nn]))) (.leaf))))) (.reg (no 3)))))))) (.seq (.reg [nn, ([], (FM.ann qF [] [8] [5])), nn, nn]) (.gh [.freeze 8] .leaf)))))
theorem qZj : qae.Valid P cx := FX.of_ex tok mix (fn := f23) (c := qm f23) (an := qgo) (ms := [qGh, qqg, qF]) (by kernel_rfl) (by kernel_rfl) (by kernel_rfl) (by kernel_rfl) (by kernel_rfl) (by kernel_rfl)
  (fun x => by kernel_rfl) (by kernel_rfl) ⟨qpr, qLo, qbd, trivial⟩
noncomputable def qze : FM := ⟨.v xbg, [], ⟨164, [.one (.ty (.list tN)), .str tO, .str tN, .one (.ty (.int .i64))], [], fun x => qId x.1.1 x.1.2.1 x.1.2.2.1 x.1.2.2.2.1⟩⟩
noncomputable def qRj : An := .seq (.reg [([], .key 4), ([], .key 5), nn]) (.seq (.block (.seq (.reg (no 3)) (.join true ⟨[], []⟩ (.cond (.seq (.reg (no 2)) (.cond (.seq (.reg (no 1)) (.leaf)) (.leaf))) (.seq (.reg (no 4)) (.join true ⟨[], []⟩ (.cond (.leaf) (.seq (.reg (no 3)) (.cond (.seq (.reg (no 1)) (.leaf)) (.seq (.join false ⟨[xai, xao, xcf, (21, .one (.ty .bool))], [(5, .box cN)]⟩ (.reg (no 26))) (.cond (.seq (.reg (no 1)) (.leaf)) (.seq (.join false ⟨[(47, .one (.ty .bool))], []⟩ (.reg [nn, nn, nn, nn, nn, nn, nn, nn, nn, nn, ([], (FM.ann qqc [] [] [])), nn, nn])) (.cond (.seq (.reg (no 1)) (.leaf)) (.leaf)))))))))))))) (.seq (.reg (no 1)) (.leaf)))
theorem qLk : qze.Valid P cx := FX.of_ex tok mix (fn := f164) (c := qm f164) (an := qRj) (ms := [qqc]) (by kernel_rfl) (by kernel_rfl) (by kernel_rfl) (by kernel_rfl) (by kernel_rfl) (by kernel_rfl)
  (fun x => by kernel_rfl) (by kernel_rfl) ⟨qLh, trivial⟩
noncomputable def qth : FM := ⟨.v xap, [], ⟨165, [.str tN, .str tN, .str tO], [], fun x => qTg x.1.1 x.1.2.1 x.1.2.2.1⟩⟩
noncomputable def qiq : An := .seq (.reg [([], .key 4), ([], .key 5), ([], .key 6), nn]) (.seq (.block (.seq (.join false ⟨[xbt, xbc, xdl, xdy], [xdw, (5, .box cN), (6, .box cO)]⟩ (.reg (no 18))) (.cond (.seq (.reg (no 1)) (.leaf)) (.seq (.reg (no 3)) (.cond (.seq (.reg (no 6)) (.leaf)) (.seq (.reg (no 3)) (.cond (.seq (.reg (no 1)) (.leaf)) (.leaf)))))))) (.seq (.reg (no 6)) (.leaf)))
theorem qIq : qth.Valid P cx := FX.of_ex tok mix (fn := f165) (c := qm f165) (an := qiq) (ms := []) (by kernel_rfl) (by kernel_rfl) (by kernel_rfl) (by kernel_rfl) (by kernel_rfl) (by kernel_rfl)
  (fun x => by kernel_rfl) (by kernel_rfl) trivial
noncomputable def qSf : FM := ⟨.tup [], [.box [.ty (.list tN), .con (.rs 1), .con (.rs 2), .con (.rs 3), .ty .bool, .con (.rs 4)], .lst false tN, .lst false (.pair (.int .i64) (.pair .str (.pair tN tN))), .lst false (.pair .str (.int .i64)), .lst false (.list tN)], ⟨109, [.one (.con (.ref 0 0)), .str tO, .one (.ty (.int .i64)), .str tN], [.box [.ty (.list tN), .con (.rs 1), .con (.rs 2), .con (.rs 3), .ty .bool, .con (.rs 4)], .lst false tN, .lst false (.pair (.int .i64) (.pair .str (.pair tN tN))), .lst false (.pair .str (.int .i64)), .lst false (.list tN)], fun x => qQe x.1.2.1 x.1.2.2.1 x.1.2.2.2.1 x.2.1 x.2.2.1 x.2.2.2.1 x.2.2.2.2.1 x.2.2.2.2.2.1⟩⟩
noncomputable def qUl : An := .seq (.reg [([], .key 9), ([], .key 10)]) (.seq (.reg [nn, nn, nn, nn, nn, nn, ([], (FM.ann qw [] [] [])), nn]) (.seq (.reg [nn, nn, nn, nn, nn, nn, nn, ([], (FM.ann qze [] [] [])), nn]) (.seq (.seq (.reg (no 2)) (.cond (.seq (.reg (no 16)) (.leaf)) (.leaf))) (.seq (.reg [nn, ([], .key 11), nn]) (.seq (.reg (no 1)) (.seq (.seq (.reg (no 2)) (.join false ⟨[xac, xaw, xbv, xby, xaj, xbs, xcs], [xam, xdp, xar, xbo, xcn, (9, .box cO), (10, .box cN), (11, .box cN)]⟩ (.cond (.seq (.reg (no 8)) (.reg (no 6))) (.leaf)))) (.seq (.join false ⟨[xac, xaw, xbv, xby, xaj, xbs, xcs, xcr], [xam, xdp, xar, xbo, xcn, (9, .box cO), (10, .box cN), (11, .box cN)]⟩ (.reg [nn, nn, nn, nn, nn, nn, nn, nn, nn, nn, nn, nn, nn, ([], (FM.ann qth [] [] [])), nn, nn, nn, nn, nn, nn, nn, nn, nn, nn, nn, nn, nn, nn, nn, nn])) (.seq (.reg [nn, nn, nn, nn, nn, nn, nn, nn, nn, nn, nn, nn, ([], .key 12), nn]) (.seq (.seq (.reg (no 1)) (.join false ⟨[xac, xaw, xbv, xby, xaj, xbs, xcs, xcr, xbz], [xam, xdp, xar, xbo, xcn, (9, .box cO), (10, .box cN), (11, .box cN), (12, .box cN)]⟩ (.cond (.seq (.reg (no 4)) (.reg (no 4))) (.leaf)))) (.seq (.seq (.reg (no 2)) (.join false ⟨[xac, xaw, xbv, xaj, xbs, xcs, xcr, xbz], xab⟩ (.cond (.reg (no 4)) (.leaf)))) (.seq (.seq (.join false ⟨[xac, xaw, xbv, xaj, xbs, xcs, xcr, xbz, (120, .one (.ty .bool))], xab⟩ (.reg (no 6))) (.join false ⟨[xac, xaw, xbv, xaj, xbs, xcs, xcr, xbz], xab⟩ (.cond (.reg (no 4)) (.leaf)))) (.seq (.reg (no 1)) (.seq (.block (.seq (.reg (no 3)) (.join true ⟨[xac, xaw, xbv, xbs, xbz, xay], xab⟩ (.cond (.reg (no 1)) (.seq (.reg (no 3)) (.join true ⟨[xac, xaw, xbv, xbs, xbz, xay], xab⟩ (.cond (.reg (no 1)) (.seq (.reg (no 3)) (.join true ⟨[xac, xaw, xbv, xbs, xbz, xay], xab⟩ (.cond (.reg (no 1)) (.seq (.join false ⟨[xac, xaw, xbv, xbs, xbz, xay, (133, .one (.ty .bool))], xab⟩ (.reg (no 13))) (.cond (.leaf) (.leaf))))))))))))) (.seq (.seq (.join false ⟨[xac, xaw, xbv, xbs, xbz, xay, (151, .one (.ty .bool))], xab⟩ (.reg (no 6))) (.join false ⟨[xac, xbs, xbz, xay], [xam, xdp, xar, xbo, xcn, (11, .box cN), (12, .box cN)]⟩ (.cond (.reg [nn, nn, nn, nn, ([], (FM.ann qwd [0, 1, 2, 3, 4] [] []))]) (.leaf)))) (.seq (.reg [nn, nn, ([], (FM.ann qic [0, 1, 2, 3, 4] [] []))]) (.reg [nn, nn, nn, nn, ([], (FM.ann qAc [0, 1, 2, 3, 4] [] []))]))))))))))))))))
theorem qWm : qSf.Valid P cx := FX.of_ex tok mix (fn := f109) (c := qm f109) (an := qUl) (ms := [qw, qze, qth, qwd, qic, qAc]) (by kernel_rfl) (by kernel_rfl) (by kernel_rfl) (by kernel_rfl) (by kernel_rfl) (by kernel_rfl)
  (fun x => by kernel_rfl) (by kernel_rfl) ⟨qac, qLk, qIq, qbj, quh, qRh, trivial⟩
noncomputable def qXg : FM := ⟨.v (.one (.con (.ref 0 0))), [.box [.ty (.list tN), .ty (.list tN), .ty (.list (.pair (.int .i64) (.pair .str (.pair tN tN)))), .ty (.list (.pair .str (.int .i64))), .ty .bool, .ty (.list (.list tN))]], ⟨53, [.one (.ty (.list tN)), .one (.ty (.list tN)), .str tO, .one (.ty (.list tR)), .one (.ty (.int .i64))], [], fun x => qfg x.1.1 x.1.2.1 x.1.2.2.1 x.1.2.2.2.1 x.1.2.2.2.2.1⟩⟩
noncomputable def qBo : An := .seq (.reg [([], .key 4), nn]) (.seq (.reg [([], .key 5), nn, nn, ([.freeze 5], .no), ([], .key 6), ([.nilCell 6 1 7 tN, .nilCell 6 2 8 (.pair (.int .i64) (.pair .str (.pair tN tN))), .nilCell 6 3 9 (.pair .str (.int .i64)), .nilCell 6 5 10 (.list tN)], .no)]) (.seq (.reg [nn, nn, nn, nn, ([], (FM.ann qWg [] [] [])), nn]) (.seq (.seq (.reg (no 1)) (.join false ⟨[xai, xbw, xav, xdm, xdi], xaf⟩ (.block (.loop ⟨[xai, xbw, xav, xdm, xdi, (12, .one (.ty (.list .str))), xcc], xaf⟩ (fun s => s.1.1.length + s.1.2.1.length + s.1.2.2.1.toNat + s.1.2.2.2.2.2.1.length + s.1.2.2.2.2.2.2.1.toNat + s.2.1.2.2.2.2.2.2.2.2.2.2.2.2.2.1.toNat + s.2.1.2.2.2.2.2.2.2.2.2.2.2.2.2.2.2.1.length + s.2.1.2.2.2.2.2.2.2.2.2.2.2.2.2.2.2.2.1.length + s.2.2.1.1.length + s.2.2.2.1.length + s.2.2.2.2.1.length + s.2.2.2.2.2.1.length + s.2.2.2.2.2.2.1.length + 300) (.seq (.seq (.join false ⟨[xai, xbw, xav, xdm, xdi, (12, .one (.ty (.list .str))), xcc, (37, .one (.ty .bool))], xaf⟩ (.reg (no 11))) (.cond (.leaf) (.leaf))) (.seq (.block (.reg [nn, nn, nn, nn, nn, nn, nn, ([], (FM.ann qif [6, 7, 8, 9, 10] [] []))])) (.reg (no 3)))))))) (.seq (.reg [nn, nn, nn, ([], (FM.ann qae [] [] [])), nn, nn, nn, nn, nn]) (.seq (.seq (.reg (no 1)) (.join false ⟨[xdi], [(6, .box [.ty (.list tN), .con (.rs 7), .con (.rs 8), .con (.rs 9), .ty .bool, .con (.rs 10)]), (7, .lst false tN), (8, .lst false (.pair (.int .i64) (.pair .str (.pair tN tN)))), (9, .lst false (.pair .str (.int .i64))), (10, .lst false (.list tN))]⟩ (.block (.loop ⟨[xav, xdm, xdi, (14, .one (.ty (.list tN))), xcq], xaf⟩ (fun s => s.1.1.toNat + s.1.2.2.2.1.length + s.1.2.2.2.2.1.toNat + s.2.1.2.2.2.2.2.2.2.2.2.2.2.2.2.1.toNat + s.2.1.2.2.2.2.2.2.2.2.2.2.2.2.2.2.2.1.length + s.2.1.2.2.2.2.2.2.2.2.2.2.2.2.2.2.2.2.1.length + s.2.2.1.1.length + s.2.2.2.1.length + s.2.2.2.2.1.length + s.2.2.2.2.2.1.length + s.2.2.2.2.2.2.1.length + 300) (.seq (.seq (.join false ⟨[xav, xdm, xdi, (14, .one (.ty (.list tN))), xcq, (65, .one (.ty .bool))], xaf⟩ (.reg (no 11))) (.cond (.leaf) (.leaf))) (.seq (.block (.reg [nn, nn, nn, nn, nn, nn, nn, ([], (FM.ann qSf [6, 7, 8, 9, 10] [] []))])) (.reg (no 3)))))))) (.seq (.reg (no 2)) (.gh [.freeze 7, .freeze 8, .freeze 9, .freeze 10, .ren 6 0] .leaf)))))))
theorem qrq : qXg.Valid P cx := FX.of_ex tok mix (fn := f53) (c := qm f53) (an := qBo) (ms := [qWg, qif, qae, qSf]) (by kernel_rfl) (by kernel_rfl) (by kernel_rfl) (by kernel_rfl) (by kernel_rfl) (by kernel_rfl)
  (fun x => by kernel_rfl) (by kernel_rfl) ⟨qdq, qDl, qZj, qWm, trivial⟩
noncomputable def qff : FM := ⟨.tup [], [.box [.ty (.list tN), .ty (.list tN), .ty (.list (.pair (.int .i64) (.pair .str (.pair tN tN)))), .ty (.list (.pair .str (.int .i64))), .ty .bool, .ty (.list (.list tN))]], ⟨54, [.one (.con (.ref 0 0)), .str tO, .one (.ty (.list tN))], [.box [.ty (.list tN), .ty (.list tN), .ty (.list (.pair (.int .i64) (.pair .str (.pair tN tN)))), .ty (.list (.pair .str (.int .i64))), .ty .bool, .ty (.list (.list tN))]], fun x => qhe x.1.2.1 x.1.2.2.1 x.2.1⟩⟩
noncomputable def qTk : An := .post (.seq (.reg [([], .key 5)]) (.seq (.reg [([], .key 6), ([], .key 7), nn, nn]) (.seq (.seq (.reg (no 1)) (.join false ⟨[xac, xbl, xbm], [xaa, xbb, xbh]⟩ (.block (.loop ⟨[xac, xds, xbc, xbl, xbm, xaj], [xaa, xdf, xbb, xbh]⟩ (fun s => s.1.2.1.length + s.1.2.2.2.2.2.1.toNat + s.2.1.1.length + s.2.1.2.1.length + s.2.1.2.2.1.length + s.2.1.2.2.2.1.length + s.2.1.2.2.2.2.2.1.length + s.2.2.1.2.2.2.2.2.2.2.2.2.2.2.2.2.1.toNat + s.2.2.1.2.2.2.2.2.2.2.2.2.2.2.2.2.2.2.1.length + s.2.2.1.2.2.2.2.2.2.2.2.2.2.2.2.2.2.2.2.1.length + s.2.2.2.1.length + s.2.2.2.2.1.length + 300) (.seq (.seq (.reg (no 7)) (.cond (.leaf) (.leaf))) (.seq (.block (.seq (.reg [nn, nn, nn, nn, nn, nn, nn, nn, nn, ([], (FM.ann qw [] [] [])), nn]) (.seq (.join false ⟨[xac, xds, xbc, xbl, xbm, xaj, xak, (10, .one (.ty .bool))], [xaa, xdf, xbb, xbh]⟩ (.reg (no 26))) (.seq (.seq (.reg (no 1)) (.join false ⟨[xac, xds, xbc, xbl, xbm, xaj, xak, (10, .one (.ty .bool))], [xaa, xdf, xbb, xbh]⟩ (.block (.loop ⟨[xac, xds, xbc, xbl, xbm, xaj, xak, (10, .one (.ty .bool)), xax], [xaa, xdf, xbb, xbh]⟩ (fun s => s.1.2.1.length + s.1.2.2.2.2.2.1.toNat + s.1.2.2.2.2.2.2.1.toNat + s.1.2.2.2.2.2.2.2.2.1.toNat + s.2.1.1.length + s.2.1.2.1.length + s.2.1.2.2.1.length + s.2.1.2.2.2.1.length + s.2.1.2.2.2.2.2.1.length + s.2.2.1.2.2.2.2.2.2.2.2.2.2.2.2.2.1.toNat + s.2.2.1.2.2.2.2.2.2.2.2.2.2.2.2.2.2.2.1.length + s.2.2.1.2.2.2.2.2.2.2.2.2.2.2.2.2.2.2.2.1.length + s.2.2.2.1.length + s.2.2.2.2.1.length + 300) (.seq (.seq (.reg (no 8)) (.cond (.leaf) (.leaf))) (.seq (.block (.seq (.reg (no 18)) (.join false ⟨[xac, xds, xbc, xbl, xbm, xaj, xak, (10, .one (.ty .bool)), xax], [xaa, xdf, xbb, xbh]⟩ (.cond (.reg (no 1)) (.leaf))))) (.reg (no 3)))))))) (.seq (.reg [nn, nn, ([], .key 8), nn, nn]) (.seq (.reg (no 1)) (.join false ⟨[xac, xds, xbc, xbl, xbm, xaj], [xaa, xdf, xbb, xbh]⟩ (.cond (.reg [nn, nn, nn, nn, nn, nn, ([], .key 9), nn, nn]) (.reg [nn, nn, nn, nn, nn, nn, nn, nn, nn, ([], .key 10), nn, nn]))))))))) (.reg (no 3)))))))) (.seq (.reg (no 1)) (.seq (.reg [([], .key 11), nn]) (.seq (.seq (.reg (no 1)) (.join false ⟨[xac, xcb], [xaa, xbx]⟩ (.block (.loop ⟨[xac, xbl, xbm, xbk, xcb, xay], [xaa, xbb, xbh, xbx]⟩ (fun s => s.1.2.2.2.1.toNat + s.1.2.2.2.2.2.1.toNat + s.2.1.1.length + s.2.1.2.1.length + s.2.1.2.2.1.length + s.2.1.2.2.2.1.length + s.2.1.2.2.2.2.2.1.length + s.2.2.1.length + s.2.2.2.1.length + s.2.2.2.2.1.length + 300) (.seq (.seq (.reg (no 7)) (.cond (.leaf) (.leaf))) (.seq (.block (.seq (.reg [nn, ([], .key 12), nn, nn]) (.seq (.reg (no 1)) (.seq (.seq (.reg (no 1)) (.join false ⟨[xac, xbl, xbm, xbk, xcb, xay, xcv], [xaa, xbb, xbh, xbx]⟩ (.block (.loop ⟨[xac, xbl, xbm, xbk, xcb, xay, xcv, xcq], [xaa, xbb, xbh, xbx]⟩ (fun s => s.1.2.2.2.1.toNat + s.1.2.2.2.2.2.1.toNat + s.1.2.2.2.2.2.2.2.1.toNat + s.2.1.1.length + s.2.1.2.1.length + s.2.1.2.2.1.length + s.2.1.2.2.2.1.length + s.2.1.2.2.2.2.2.1.length + s.2.2.1.length + s.2.2.2.1.length + s.2.2.2.2.1.length + 300) (.seq (.seq (.reg (no 7)) (.cond (.leaf) (.leaf))) (.seq (.join false ⟨[xac, xbl, xbm, xbk, xcb, xay, xcv, xcq], [xaa, xbb, xbh, xbx]⟩ (.block (.seq (.reg [nn, nn, nn, nn, nn, nn, nn, nn, nn, nn, nn, nn, nn, nn, ([], .key 13), ([], .key 14), nn, nn]) (.seq (.seq (.join false ⟨[xac, xbl, xbm, xbk, xcb, xay, xcv, xcq, (207, .one (.ty .bool))], [xaa, xbb, xbh, xbx]⟩ (.reg (no 53))) (.cond (.leaf) (.leaf))) (.seq (.reg (no 1)) (.seq (.join false ⟨[xac, xbl, xbm, xbk, xcb, xay, xcv, xcq, (217, .one (.ty .bool))], [xaa, xbb, xbh, xbx]⟩ (.reg (no 10))) (.join false ⟨[xac, xbl, xbm, xbk, xcb, xay, xcv, xcq], [xaa, xbb, xbh, xbx]⟩ (.cond (.reg (no 8)) (.leaf))))))))) (.reg (no 3)))))))) (.seq (.join false ⟨[xac, xbl, xbm, xbk, xcb, xay, (232, .one (.ty .bool))], [xaa, xbb, xbh, xbx]⟩ (.reg (no 8))) (.join false ⟨[xac, xbl, xbm, xbk, xcb, xay], [xaa, xbb, xbh, xbx]⟩ (.cond (.seq (.reg (no 3)) (.reg (no 5))) (.leaf)))))))) (.reg (no 3)))))))) (.seq (.reg [([], .key 15), nn, nn, nn, nn, nn, nn]) (.seq (.seq (.reg (no 1)) (.join false ⟨[xac, (19, .one (.con (.rs 15)))], [xaa, (15, .lst false tN)]⟩ (.block (.loop ⟨[xac, xcb, (19, .one (.con (.rs 15))), (20, .one (.ty (.int .i64)))], [xaa, xbx, (15, .lst false tN)]⟩ (fun s => s.1.2.2.2.1.toNat + s.2.1.1.length + s.2.1.2.1.length + s.2.1.2.2.1.length + s.2.1.2.2.2.1.length + s.2.1.2.2.2.2.2.1.length + s.2.2.1.length + s.2.2.2.1.length + 300) (.seq (.seq (.reg (no 4)) (.cond (.leaf) (.leaf))) (.seq (.block (.reg (no 9))) (.reg (no 3)))))))) (.reg (no 5)))))))))) [.freeze 15]
theorem qWl : qff.Valid P cx := FX.of_ex tok mix (fn := f54) (c := qm f54) (an := qTk) (ms := [qw]) (by kernel_rfl) (by kernel_rfl) (by kernel_rfl) (by kernel_rfl) (by kernel_rfl) (by kernel_rfl)
  (fun x => by kernel_rfl) (by kernel_rfl) ⟨qac, trivial⟩
noncomputable def qvj : FM := ⟨.tup [(.str (.pair (.list tN) (.pair (.list (.pair (.int .i64) (.pair .str (.pair tN tN)))) (.list (.pair .str (.int .i64)))))), xap], [], ⟨13, [.one (.ty (.list tN)), .one (.ty (.list tN)), .str tO, .one (.ty (.list tR)), .one (.ty (.int .i64))], [], fun x => qJi x.1.1 x.1.2.1 x.1.2.2.1 x.1.2.2.2.1 x.1.2.2.2.2.1⟩⟩
noncomputable def qUs : An := .seq (.reg [([], .key 4), ([], .key 5), nn]) (.seq (.seq (.join false ⟨[xai, xct, xbw, xav, xdm, (10, .one (.con (.ref 5 0))), (25, .one (.ty .bool))], [xdt, (5, .box [.con .nilS, .con .nilS, .con .nilS])]⟩ (.reg [nn, nn, nn, nn, ([], (FM.ann qSe [] [] [])), nn, nn, nn, ([], (FM.ann qp [] [] [])), nn, nn])) (.cond (.seq (.reg (no 3)) (.leaf)) (.leaf))) (.seq (.reg [nn, nn, nn, nn, nn, ([], (FM.ann qXg [] [6] [])), nn]) (.seq (.seq (.reg (no 4)) (.cond (.seq (.reg (no 3)) (.leaf)) (.leaf))) (.seq (.reg [nn, nn, nn, ([], (FM.ann qae [] [] [])), nn, nn, nn, nn, nn]) (.seq (.reg [nn, nn, nn, ([], (FM.ann qff [6] [] []))]) (.seq (.reg (no 9)) (.seq (.reg (no 6)) (.leaf))))))))
theorem qju : qvj.Valid P cx := FX.of_ex tok mix (fn := f13) (c := qm f13) (an := qUs) (ms := [qSe, qp, qXg, qae, qff]) (by kernel_rfl) (by kernel_rfl) (by kernel_rfl) (by kernel_rfl) (by kernel_rfl) (by kernel_rfl)
  (fun x => by kernel_rfl) (by kernel_rfl) ⟨qll, qkb, qrq, qZj, qWl, trivial⟩
noncomputable def qx : FM := ⟨.v xap, [], ⟨59, [.one (.ty (.int .i64)), .one (.ty (.int .i64)), .one (.ty (.int .i64))], [], fun x => qcb x.1.1 x.1.2.1 x.1.2.2.1⟩⟩
noncomputable def qFo : An := .seq (.reg (no 1)) (.seq (.join false ⟨[xdc], []⟩ (.reg (no 9))) (.leaf))
theorem qec : qx.Valid P cx := FX.of_ex tok mix (fn := f59) (c := qm f59) (an := qFo) (ms := []) (by kernel_rfl) (by kernel_rfl) (by kernel_rfl) (by kernel_rfl) (by kernel_rfl) (by kernel_rfl)
  (fun x => by kernel_rfl) (by kernel_rfl) trivial
noncomputable def qce : FM := ⟨.v xap, [], ⟨168, [.one (.ty .str)], [], fun x => qEe x.1.1⟩⟩
noncomputable def qfo : An := .seq (.reg (no 1)) (.seq (.seq (.reg (no 3)) (.join true ⟨[xau], []⟩ (.block (.loop ⟨[xau, xat, xbu], []⟩ (fun s => s.1.1.length + s.1.2.1.toNat + s.1.2.2.1.toNat + 300) (.seq (.reg (no 1)) (.seq (.cond (.leaf) (.leaf)) (.seq (.block (.seq (.reg (no 2)) (.seq (.reg (no 4)) (.seq (.join false ⟨[xau, xat, xbu, (47, .one (.ty .bool))], []⟩ (.reg (no 35))) (.cond (.seq (.reg (no 1)) (.leaf)) (.leaf)))))) (.reg (no 2))))))))) (.seq (.join false ⟨[xbn], []⟩ (.reg [nn, nn, ([], (FM.ann qx [] [] [])), nn, nn, nn, nn, nn, nn, nn, nn, nn])) (.leaf)))
theorem qVj : qce.Valid P cx := FX.of_ex tok mix (fn := f168) (c := qm f168) (an := qfo) (ms := [qx]) (by kernel_rfl) (by kernel_rfl) (by kernel_rfl) (by kernel_rfl) (by kernel_rfl) (by kernel_rfl)
  (fun x => by kernel_rfl) (by kernel_rfl) ⟨qec, trivial⟩
noncomputable def qXf : FM := ⟨.v xap, [], ⟨111, [.one (.ty .str)], [], fun x => qGe x.1.1⟩⟩
noncomputable def qIl : An := .seq (.reg (no 1)) (.seq (.join false ⟨[xbn], []⟩ (.reg [nn, nn, ([], (FM.ann qx [] [] [])), nn, nn, nn, ([], (FM.ann qce [] [] [])), nn, nn])) (.leaf))
theorem qhn : qXf.Valid P cx := FX.of_ex tok mix (fn := f111) (c := qm f111) (an := qIl) (ms := [qx, qce]) (by kernel_rfl) (by kernel_rfl) (by kernel_rfl) (by kernel_rfl) (by kernel_rfl) (by kernel_rfl)
  (fun x => by kernel_rfl) (by kernel_rfl) ⟨qec, qVj, trivial⟩
noncomputable def qcd : FM := ⟨.v xbg, [], ⟨281, [.one (.ty .str), .one (.ty (.int .u8))], [], fun x => qMf x.1.1 x.1.2.1⟩⟩
theorem qmi : qcd.Valid P cx := qui (fn := f281) (by kernel_rfl) (by kernel_rfl) (by kernel_rfl) (by kernel_rfl) (by kernel_rfl) (fun s c => (Go.Lib.countByte s c : Nat)) (fun s c w => Go.Lib.run_countString s c w)
noncomputable def qUf : FM := ⟨.v xbg, [], ⟨266, [.one (.ty .str), .one (.con (.str [47]))], [], fun x => qii x.1.1⟩⟩
noncomputable def qVl : An := .seq (.reg (no 1)) (.seq (.seq (.reg (no 3)) (.cond .leaf (.leaf))) (.seq (.seq (.reg (no 3)) (.cond (.seq (.reg [nn, nn, nn, ([], (FM.ann qcd [] [] [])), nn]) (.leaf)) .leaf)) .leaf))
theorem qEn : qUf.Valid P cx := FX.of_ex tok mix (fn := f266) (c := qm f266) (an := qVl) (ms := [qcd]) (by kernel_rfl) (by kernel_rfl) (by kernel_rfl) (by kernel_rfl) (by kernel_rfl) (by kernel_rfl)
  (fun x => by kernel_rfl) (by kernel_rfl) ⟨qmi, trivial⟩
noncomputable def qUb : FM := ⟨.v xbg, [], ⟨271, [.one (.ty .str), .one (.ty (.int .u8))], [], fun x => qVd x.1.1 x.1.2.1⟩⟩
theorem qch : qUb.Valid P cx := qui (fn := f271) (by kernel_rfl) (by kernel_rfl) (by kernel_rfl) (by kernel_rfl) (by kernel_rfl) Go.Lib.indexByte (fun s c w => Go.Lib.run_indexByteString s c w)
noncomputable def qfb : FM := ⟨.v xbg, [], ⟨253, [.one (.ty .str), .one (.ty (.int .u8))], [], fun x => qGc x.1.1 x.1.2.1⟩⟩
noncomputable def qhh : An := .seq (.reg (no 1)) (.seq (.reg [nn, nn, ([], (FM.ann qUb [] [] [])), nn]) (.leaf))
theorem qHe : qfb.Valid P cx := FX.of_ex tok mix (fn := f253) (c := qm f253) (an := qhh) (ms := [qUb]) (by kernel_rfl) (by kernel_rfl) (by kernel_rfl) (by kernel_rfl) (by kernel_rfl) (by kernel_rfl)
  (fun x => by kernel_rfl) (by kernel_rfl) ⟨qch, trivial⟩
noncomputable def qPd : FM := ⟨.v xbg, [], ⟨221, [.one (.ty .str), .one (.con (.str [47]))], [], fun x => qle x.1.1⟩⟩
noncomputable def qWi : An := .seq (.reg (no 1)) (.seq (.reg (no 3)) (.seq (.block (.seq (.join false ⟨[xau, (1, .one (.con (.str [47]))), (5, .one (.con (.int .i64 (1)))), (16, .one (.ty .bool))], []⟩ (.reg (no 8))) (.cond (.seq (.reg (no 1)) (.leaf)) (.seq (.reg (no 3)) (.cond (.seq (.reg [nn, nn, nn, ([], (FM.ann qfb [] [] [])), nn]) (.leaf)) .leaf))))) .leaf))
theorem qwj : qPd.Valid P cx := FX.of_ex tok mix (fn := f221) (c := qm f221) (an := qWi) (ms := [qfb]) (by kernel_rfl) (by kernel_rfl) (by kernel_rfl) (by kernel_rfl) (by kernel_rfl) (by kernel_rfl)
  (fun x => by kernel_rfl) (by kernel_rfl) ⟨qHe, trivial⟩
noncomputable def qYf : FM := ⟨.v xbg, [], ⟨169, [.one (.ty .str), .one (.con (.str [47]))], [], fun x => qBe x.1.1⟩⟩
noncomputable def qHl : An := .seq (.reg (no 1)) (.seq (.reg [nn, nn, ([], (FM.ann qPd [] [] [])), nn]) (.leaf))
theorem qPn : qYf.Valid P cx := FX.of_ex tok mix (fn := f169) (c := qm f169) (an := qHl) (ms := [qPd]) (by kernel_rfl) (by kernel_rfl) (by kernel_rfl) (by kernel_rfl) (by kernel_rfl) (by kernel_rfl)
  (fun x => by kernel_rfl) (by kernel_rfl) ⟨qwj, trivial⟩
noncomputable def qke : FM := ⟨.v xdq, [], ⟨241, [.one (.ty .str), .one (.con (.str [47])), .one (.con (.int .i64 (0))), .one (.con (.int .i64 (-1)))], [], fun x => qfd x.1.1⟩⟩
noncomputable def qnj : An := .seq (.reg (no 1)) (.seq (.seq (.reg (no 2)) (.cond .leaf (.leaf))) (.seq (.seq (.reg (no 2)) (.cond .leaf (.leaf))) (.seq (.seq (.reg (no 2)) (.cond (.reg [nn, nn, ([], (FM.ann qUf [] [] [])), nn, nn]) .leaf)) (.seq (.reg (no 6)) (.seq (.reg [nn, ([], .key 4), nn]) (.seq (.reg (no 3)) (.seq (.reg (no 1)) (.seq (.join false ⟨[xau, (9, .one (.con (.rs 4))), xan], xdz⟩ (.block (.loop ⟨[xau, (1, .one (.con (.str [47]))), (2, .one (.con (.int .i64 (0)))), xao, (9, .one (.con (.rs 4))), xan], xdz⟩ (fun s => s.1.1.length + s.1.2.2.2.1.toNat + s.1.2.2.2.2.2.1.toNat + s.2.1.length + 300) (.seq (.seq (.reg (no 3)) (.cond (.leaf) (.leaf))) (.block (.seq (.reg [nn, nn, ([], (FM.ann qYf [] [] [])), nn]) (.seq (.seq (.reg (no 2)) (.cond (.leaf) (.leaf))) (.seq (.reg (no 9)) (.seq (.reg (no 7)) (.reg (no 3))))))))))) (.seq (.reg (no 5)) (.seq (.reg [nn, nn, nn, ([.freeze 4], .no), nn]) (.leaf)))))))))))
theorem qbk : qke.Valid P cx := FX.of_ex tok mix (fn := f241) (c := qm f241) (an := qnj) (ms := [qUf, qYf]) (by kernel_rfl) (by kernel_rfl) (by kernel_rfl) (by kernel_rfl) (by kernel_rfl) (by kernel_rfl)
  (fun x => by kernel_rfl) (by kernel_rfl) ⟨qEn, qPn, trivial⟩
noncomputable def qVf : FM := ⟨.v xdq, [], ⟨194, [.one (.ty .str), .one (.con (.str [47]))], [], fun x => qWe x.1.1⟩⟩
noncomputable def qJl : An := .seq (.reg (no 1)) (.seq (.reg [nn, nn, ([], (FM.ann qke [] [] [])), nn]) (.leaf))
theorem qNn : qVf.Valid P cx := FX.of_ex tok mix (fn := f194) (c := qm f194) (an := qJl) (ms := [qke]) (by kernel_rfl) (by kernel_rfl) (by kernel_rfl) (by kernel_rfl) (by kernel_rfl) (by kernel_rfl)
  (fun x => by kernel_rfl) (by kernel_rfl) ⟨qbk, trivial⟩
noncomputable def qrh : FM := ⟨.v xdq, [], ⟨122, [.one (.ty .str)], [], fun x => qNg x.1.1⟩⟩
noncomputable def qhq : An := .seq (.reg (no 1)) (.seq (.seq (.reg (no 3)) (.cond (.seq (.reg (no 1)) (.leaf)) (.leaf))) (.seq (.reg [nn, ([], (FM.ann qVf [] [] [])), nn]) (.seq (.seq (.reg (no 3)) (.cond (.seq (.reg (no 1)) (.leaf)) (.leaf))) (.seq (.seq (.reg (no 3)) (.join true ⟨[xdg], []⟩ (.block (.loop ⟨[xdg, (14, .one (.ty (.list .str))), (15, .one (.ty (.int .i64))), xcq], []⟩ (fun s => s.1.1.length + s.1.2.1.length + s.1.2.2.1.toNat + s.1.2.2.2.1.toNat + 300) (.seq (.reg (no 1)) (.seq (.cond (.leaf) (.leaf)) (.seq (.block (.seq (.reg (no 3)) (.seq (.reg [nn, ([], (FM.ann qce [] [] [])), nn]) (.cond (.seq (.reg (no 1)) (.leaf)) (.leaf))))) (.reg (no 2))))))))) (.seq (.reg (no 2)) (.leaf))))))
theorem qLq : qrh.Valid P cx := FX.of_ex tok mix (fn := f122) (c := qm f122) (an := qhq) (ms := [qVf, qce]) (by kernel_rfl) (by kernel_rfl) (by kernel_rfl) (by kernel_rfl) (by kernel_rfl) (by kernel_rfl)
  (fun x => by kernel_rfl) (by kernel_rfl) ⟨qNn, qVj, trivial⟩
noncomputable def qXd : FM := ⟨.v xap, [], ⟨75, [.one (.ty .str)], [], fun x => qGd x.1.1⟩⟩
noncomputable def qho : An := .seq (.reg (no 1)) (.seq (.reg [nn, ([], (FM.ann qrh [] [] [])), nn, nn, nn]) (.leaf))
theorem qLj : qXd.Valid P cx := FX.of_ex tok mix (fn := f75) (c := qm f75) (an := qho) (ms := [qrh]) (by kernel_rfl) (by kernel_rfl) (by kernel_rfl) (by kernel_rfl) (by kernel_rfl) (by kernel_rfl)
  (fun x => by kernel_rfl) (by kernel_rfl) ⟨qLq, trivial⟩
noncomputable def qeh : FM := ⟨.v xap, [], ⟨60, [.str tO], [], fun x => qdg x.1.1⟩⟩
noncomputable def qJo : An := .seq (.reg [([], .key 4), nn]) (.seq (.seq (.join false ⟨[xcl, (24, .one (.ty .bool))], [xdt]⟩ (.reg [nn, nn, ([], (FM.ann qx [] [] [])), nn, nn, nn, nn, nn, nn, nn, nn, nn, nn, nn, nn, nn, nn, nn, nn, nn, nn, nn])) (.cond (.seq (.reg (no 1)) (.leaf)) (.leaf))) (.seq (.seq (.reg (no 3)) (.cond (.seq (.join false ⟨[xbn], []⟩ (.reg (no 9))) (.leaf)) (.leaf))) (.seq (.join false ⟨[xbn], []⟩ (.reg [nn, nn, nn, nn, nn, nn, ([], (FM.ann qXf [] [] [])), nn, nn, nn, nn, nn, nn, nn, nn, ([], (FM.ann qXd [] [] [])), nn, nn, nn, nn, nn, nn, nn, nn, nn, nn, nn, nn, nn])) (.leaf))))
theorem qGp : qeh.Valid P cx := FX.of_ex tok mix (fn := f60) (c := qm f60) (an := qJo) (ms := [qx, qXf, qXd]) (by kernel_rfl) (by kernel_rfl) (by kernel_rfl) (by kernel_rfl) (by kernel_rfl) (by kernel_rfl)
  (fun x => by kernel_rfl) (by kernel_rfl) ⟨qec, qhn, qLj, trivial⟩
noncomputable def qBb : FM := ⟨.v (.str tN), [], ⟨58, [.str (.pair (.int .i64) (.pair .str (.pair tN tN)))], [], fun x => qPb x.1.1⟩⟩
noncomputable def qXi : An := .seq (.reg [([], .key 4), ([], .key 5)]) (.seq (.seq (.reg (no 3)) (.cond (.seq (.reg (no 3)) (.leaf)) (.leaf))) (.seq (.reg (no 3)) (.leaf)))
theorem qJg : qBb.Valid P cx := FX.of_ex tok mix (fn := f58) (c := qm f58) (an := qXi) (ms := []) (by kernel_rfl) (by kernel_rfl) (by kernel_rfl) (by kernel_rfl) (by kernel_rfl) (by kernel_rfl)
  (fun x => by kernel_rfl) (by kernel_rfl) trivial
noncomputable def qdd : FM := ⟨.v xbg, [], ⟨221, [.one (.ty .str), .one (.con (.str [10]))], [], fun x => qtd x.1.1⟩⟩
noncomputable def qSh : An := .seq (.reg (no 1)) (.seq (.reg (no 3)) (.seq (.block (.seq (.join false ⟨[xau, (1, .one (.con (.str [10]))), (5, .one (.con (.int .i64 (1)))), (16, .one (.ty .bool))], []⟩ (.reg (no 8))) (.cond (.seq (.reg (no 1)) (.leaf)) (.seq (.reg (no 3)) (.cond (.seq (.reg [nn, nn, nn, ([], (FM.ann qfb [] [] [])), nn]) (.leaf)) .leaf))))) .leaf))
theorem qhi : qdd.Valid P cx := FX.of_ex tok mix (fn := f221) (c := qm f221) (an := qSh) (ms := [qfb]) (by kernel_rfl) (by kernel_rfl) (by kernel_rfl) (by kernel_rfl) (by kernel_rfl) (by kernel_rfl)
  (fun x => by kernel_rfl) (by kernel_rfl) ⟨qHe, trivial⟩
noncomputable def qUe : FM := ⟨.v xbg, [], ⟨169, [.one (.ty .str), .one (.con (.str [10]))], [], fun x => qhf x.1.1⟩⟩
noncomputable def qok : An := .seq (.reg (no 1)) (.seq (.reg [nn, nn, ([], (FM.ann qdd [] [] [])), nn]) (.leaf))
theorem qCk : qUe.Valid P cx := FX.of_ex tok mix (fn := f169) (c := qm f169) (an := qok) (ms := [qdd]) (by kernel_rfl) (by kernel_rfl) (by kernel_rfl) (by kernel_rfl) (by kernel_rfl) (by kernel_rfl)
  (fun x => by kernel_rfl) (by kernel_rfl) ⟨qhi, trivial⟩
noncomputable def qoe : FM := ⟨.v xap, [], ⟨112, [.one (.ty .str), .one (.con (.str [10]))], [], fun x => qgd x.1.1⟩⟩
noncomputable def qFj : An := .seq (.reg (no 1)) (.seq (.reg [nn, nn, ([], (FM.ann qUe [] [] [])), nn, nn]) (.leaf))
theorem qWj : qoe.Valid P cx := FX.of_ex tok mix (fn := f112) (c := qm f112) (an := qFj) (ms := [qUe]) (by kernel_rfl) (by kernel_rfl) (by kernel_rfl) (by kernel_rfl) (by kernel_rfl) (by kernel_rfl)
  (fun x => by kernel_rfl) (by kernel_rfl) ⟨qCk, trivial⟩
noncomputable def qZd : FM := ⟨.v xap, [], ⟨61, [.str tN], [], fun x => qFb x.1.1⟩⟩
noncomputable def qGo : An := .seq (.reg [([], .key 4), nn]) (.seq (.seq (.join false ⟨[xcl, (18, .one (.ty .bool))], [xdw]⟩ (.reg [nn, nn, ([], (FM.ann qXd [] [] [])), nn, nn, nn, nn, ([], (FM.ann qx [] [] [])), nn, nn, nn, nn, nn, ([], (FM.ann qx [] [] [])), nn, nn])) (.cond (.seq (.reg (no 1)) (.leaf)) (.leaf))) (.seq (.seq (.reg (no 2)) (.block (.seq (.reg (no 2)) (.cond (.seq (.join false ⟨[xbn], []⟩ (.reg (no 14))) (.leaf)) (.seq (.reg (no 2)) (.cond (.seq (.join false ⟨[xbn], []⟩ (.reg [nn, nn, nn, nn, nn, nn, nn, nn, nn, nn, nn, nn, ([], (FM.ann qx [] [] [])), nn, nn])) (.leaf)) (.seq (.reg (no 2)) (.cond (.seq (.join false ⟨[xbn], []⟩ (.reg [nn, nn, nn, nn, nn, nn, nn, nn, nn, nn, nn, nn, nn, nn, nn, nn, nn, ([], (FM.ann qx [] [] [])), nn, nn, nn, nn, ([], (FM.ann qoe [] [] [])), nn, nn, nn])) (.leaf)) (.leaf))))))))) (.seq (.reg (no 1)) (.leaf))))
theorem qwk : qZd.Valid P cx := FX.of_ex tok mix (fn := f61) (c := qm f61) (an := qGo) (ms := [qXd, qx, qx, qx, qx, qoe]) (by kernel_rfl) (by kernel_rfl) (by kernel_rfl) (by kernel_rfl) (by kernel_rfl) (by kernel_rfl)
  (fun x => by kernel_rfl) (by kernel_rfl) ⟨qLj, qec, qec, qec, qec, qWj, trivial⟩
noncomputable def qvc : FM := ⟨.v xco, [], ⟨113, [.one (.ty .str), .one (.ty (.int .i64))], [], fun x => qyb x.1.1 x.1.2.1⟩⟩
theorem qMh : qvc.Valid P cx := qcr qPv qvt
noncomputable def qYb : FM := ⟨.v xco, [], ⟨114, [.one (.ty .bool), .one (.ty .str)], [], fun x => qme x.1.1 x.1.2.1⟩⟩
noncomputable def qTr : An := .seq (.reg (no 1)) (.seq (.seq (.reg (no 1)) (.cond (.seq (.reg (no 2)) (.leaf)) (.leaf))) (.seq (.reg (no 1)) (.leaf)))
theorem qqh : qYb.Valid P cx := FX.of_ex tok mix (fn := f114) (c := qm f114) (an := qTr) (ms := []) (by kernel_rfl) (by kernel_rfl) (by kernel_rfl) (by kernel_rfl) (by kernel_rfl) (by kernel_rfl)
  (fun x => by kernel_rfl) (by kernel_rfl) trivial
noncomputable def qYh : FM := ⟨.v xco, [], ⟨62, [.str (.pair (.int .i64) (.pair .str (.pair tN tN))), .str tO], [], fun x => qug x.1.1 x.1.2.1⟩⟩
noncomputable def qxr : An := .seq (.reg [([], .key 4), ([], .key 5), nn]) (.seq (.seq (.reg (no 3)) (.cond (.seq (.reg (no 1)) (.leaf)) (.leaf))) (.seq (.reg [nn, nn, nn, nn, ([], .key 6), ([], .key 7), nn, nn]) (.seq (.reg (no 1)) (.seq (.block (.seq (.reg (no 4)) (.join false ⟨[xbq, xdn, xdl, xdb, xdr], [xal, xdf, (6, .box cN), (7, .box cN)]⟩ (.cond (.reg (no 1)) (.seq (.reg (no 4)) (.join false ⟨[xbq, xdn, xdl, xdb, xdr], [xal, xdf, (6, .box cN), (7, .box cN)]⟩ (.cond (.reg (no 1)) (.leaf)))))))) (.seq (.reg (no 9)) (.seq (.seq (.join false ⟨[xdn, xdl, xdb, xdr, (40, .one (.ty .bool))], [xdf, (6, .box cN), (7, .box cN)]⟩ (.reg (no 8))) (.cond (.seq (.reg [nn, ([], (FM.ann qvc [] [] [])), nn, nn]) (.leaf)) (.leaf))) (.seq (.reg (no 1)) (.seq (.seq (.reg (no 2)) (.join false ⟨[xdn, xdl, xdb, xdr, xcx], [xdf, (6, .box cN), (7, .box cN)]⟩ (.cond (.reg (no 1)) (.leaf)))) (.seq (.join false ⟨[xdl, xdb, xdr, xcx, (9, .one (.ty .bool))], [(6, .box cN), (7, .box cN)]⟩ (.reg (no 27))) (.seq (.reg [nn, nn, ([], (FM.ann qYb [] [] [])), nn, nn, nn, nn, nn, nn, nn, nn, ([], (FM.ann qYb [] [] [])), nn, nn, nn, nn, nn, nn, nn, ([], (FM.ann qYb [] [] [])), nn, nn, nn, nn, nn, nn, ([], (FM.ann qYb [] [] [])), nn, ([], (FM.ann qvc [] [] [])), nn, nn]) (.leaf)))))))))))
theorem qNs : qYh.Valid P cx := FX.of_ex tok mix (fn := f62) (c := qm f62) (an := qxr) (ms := [qvc, qYb, qYb, qYb, qYb, qvc]) (by kernel_rfl) (by kernel_rfl) (by kernel_rfl) (by kernel_rfl) (by kernel_rfl) (by kernel_rfl)
  (fun x => by kernel_rfl) (by kernel_rfl) ⟨qMh, qqh, qqh, qqh, qqh, qMh, trivial⟩
noncomputable def qGf : FM := ⟨.v xco, [], ⟨16, [.str (.pair (.int .i64) (.pair .str (.pair tN tN))), .str tO], [], fun x => qBg x.1.1 x.1.2.1⟩⟩
noncomputable def qTq : An := .seq (.reg [([], .key 4), ([], .key 5), nn]) (.seq (.seq (.join false ⟨[xbq, xdn, (19, .one (.ty .bool))], [xal, xdf]⟩ (.reg [nn, nn, ([], (FM.ann qx [] [] [])), nn, nn, nn, ([], (FM.ann qeh [] [] [])), nn, nn, nn, nn, ([], (FM.ann qBb [] [] [])), ([], (FM.ann qZd [] [] [])), nn, nn])) (.cond (.seq (.reg (no 1)) (.leaf)) (.leaf))) (.seq (.seq (.join false ⟨[xbq, xdn, (42, .one (.ty .bool))], [xal, xdf]⟩ (.reg [nn, nn, nn, nn, nn, nn, nn, nn, nn, nn, nn, ([], (FM.ann qZd [] [] [])), nn, nn, nn, nn, nn, nn, nn, nn, nn, nn, nn])) (.cond (.seq (.reg (no 1)) (.leaf)) (.leaf))) (.seq (.reg [nn, nn, ([], (FM.ann qYh [] [] [])), nn]) (.leaf))))
theorem qao : qGf.Valid P cx := FX.of_ex tok mix (fn := f16) (c := qm f16) (an := qTq) (ms := [qx, qeh, qBb, qZd, qZd, qYh]) (by kernel_rfl) (by kernel_rfl) (by kernel_rfl) (by kernel_rfl) (by kernel_rfl) (by kernel_rfl)
  (fun x => by kernel_rfl) (by kernel_rfl) ⟨qec, qGp, qJg, qwk, qwk, qNs, trivial⟩
noncomputable def qxh : FM := ⟨.v xco, [], ⟨57, [.one (.ty .bool)], [], fun x => qei x.1.1⟩⟩
noncomputable def qQp : An := .seq (.reg (no 1)) (.seq (.seq (.reg (no 1)) (.cond (.seq (.reg (no 1)) (.leaf)) (.leaf))) (.seq (.reg (no 1)) (.leaf)))
theorem qNr : qxh.Valid P cx := FX.of_ex tok mix (fn := f57) (c := qm f57) (an := qQp) (ms := []) (by kernel_rfl) (by kernel_rfl) (by kernel_rfl) (by kernel_rfl) (by kernel_rfl) (by kernel_rfl)
  (fun x => by kernel_rfl) (by kernel_rfl) trivial
noncomputable def qVc : FM := ⟨.v xco, [], ⟨15, [.str (.pair (.int .i64) (.pair .str (.pair tN tN))), .str tO], [], fun x => qNb x.1.1 x.1.2.1⟩⟩
noncomputable def qFl : An := .seq (.reg [([], .key 4), ([], .key 5), nn]) (.seq (.reg [nn, nn, ([], (FM.ann qGf [] [] [])), nn]) (.seq (.seq (.reg (no 2)) (.cond (.seq (.reg (no 1)) (.leaf)) (.leaf))) (.seq (.reg [nn, nn, nn, nn, nn, nn, ([], (FM.ann qBb [] [] [])), nn, nn, ([], (FM.ann qxh [] [] [])), nn, nn]) (.leaf))))
theorem qZh : qVc.Valid P cx := FX.of_ex tok mix (fn := f15) (c := qm f15) (an := qFl) (ms := [qGf, qBb, qxh]) (by kernel_rfl) (by kernel_rfl) (by kernel_rfl) (by kernel_rfl) (by kernel_rfl) (by kernel_rfl)
  (fun x => by kernel_rfl) (by kernel_rfl) ⟨qao, qJg, qNr, trivial⟩
noncomputable def qEb : FM := ⟨.tup [], [.bd 95 (.con (.rs 1)), .brow 5], ⟨110, [.one (.con (.ref 0 0))], [.bd 95 (.con (.rs 1)), .brow 5], fun x => qRb x.2.1 x.2.2.1⟩⟩
theorem qvg : qEb.Valid P cx := qpk qPv qvt
noncomputable def qL : FM := ⟨.tup [xbg, (.one (.con .top))], [.bd 95 (.con (.rs 1)), .brow 5], ⟨55, [.one (.con (.ref 0 0)), .one (.ty .str)], [.bd 95 (.con (.rs 1)), .brow 5], fun x => qN x.1.2.1 x.2.1 x.2.2.1⟩⟩
noncomputable def qFf : An := .seq (.reg (no 2)) (.seq (.reg [nn, ([], (FM.ann qEb [0, 1] [] []))]) (.seq (.reg (no 10)) (.seq (.reg (no 4)) (.leaf))))
theorem qOc : qL.Valid P cx := FX.of_ex tok mix (fn := f55) (c := qm f55) (an := qFf) (ms := [qEb]) (by kernel_rfl) (by kernel_rfl) (by kernel_rfl) (by kernel_rfl) (by kernel_rfl) (by kernel_rfl)
  (fun x => by kernel_rfl) (by kernel_rfl) ⟨qvg, trivial⟩
noncomputable def qZ : FM := ⟨.v xco, [.bd 95 (.con .top), .brow 5], ⟨56, [.one (.con (.ref 0 0))], [.bd 95 (.con (.rs 1)), .brow 5], fun x => qeb x.2.1 x.2.2.1⟩⟩
theorem qve : qZ.Valid P cx := qSr qjy qzx
noncomputable def qvh : FM := ⟨.v xco, [], ⟨14, [.one (.ty (.list (.pair (.int .i64) (.pair .str (.pair tN tN))))), .str tO], [], fun x => qSg x.1.1 x.1.2.1⟩⟩
noncomputable def qXp : An := .seq (.reg [([], .key 4), nn]) (.seq (.seq (.reg (no 3)) (.cond (.seq (.reg (no 1)) (.leaf)) (.leaf))) (.seq (.reg [([], .keyB 5), ([.nilRow 5 6 5], .keyB 7)]) (.seq (.seq (.reg [([.nilRow 7 8 5], .no), nn, nn]) (.join false ⟨[(5, .one (.con (.ref 5 0))), xdb], [(5, .bd 95 (.con (.rs 6))), (6, .brow 5), (7, .bd 95 (.con (.rs 8))), (8, .brow 5)]⟩ (.block (.loop ⟨xbd, xbr⟩ (fun s => s.1.2.2.2.1.length + s.1.2.2.2.2.1.toNat + s.1.2.2.2.2.2.1.toNat + s.2.1.2.2.2.2.2.2.2.2.2.2.2.2.2.1.toNat + s.2.1.2.2.2.2.2.2.2.2.2.2.2.2.2.2.2.1.length + s.2.1.2.2.2.2.2.2.2.2.2.2.2.2.2.2.2.2.1.length + s.2.2.2.1.length + s.2.2.2.2.2.1.length + 300) (.seq (.reg (no 1)) (.seq (.cond (.leaf) (.leaf)) (.seq (.block (.seq (.reg [nn, nn, ([], .key 9), nn]) (.seq (.reg [nn, nn, ([], (FM.ann qVc [] [] [])), nn]) (.block (.seq (.reg (no 3)) (.join false ⟨xbd, xbr⟩ (.cond (.leaf) (.seq (.join false ⟨[xbt, (5, .one (.con (.ref 5 0))), xdb, xcw, (13, .one (.ty (.list (.pair (.int .i64) (.pair .str (.pair tN tN)))))), xay, (15, .one (.ty (.int .i64))), (28, .one (.ty .bool))], xbr⟩ (.reg (no 9))) (.join false ⟨xbd, xbr⟩ (.cond (.reg [nn, nn, ([], (FM.ann qL [7, 8] [] []))]) (.reg [nn, nn, ([], (FM.ann qL [5, 6] [] []))]))))))))))) (.reg (no 2))))))))) (.seq (.reg [([], (FM.ann qZ [5, 6] [] [])), ([], (FM.ann qZ [7, 8] [] [])), nn, nn]) (.leaf)))))
theorem qir : qvh.Valid P cx := FX.of_ex tok mix (fn := f14) (c := qm f14) (an := qXp) (ms := [qVc, qL, qL, qZ, qZ]) (by kernel_rfl) (by kernel_rfl) (by kernel_rfl) (by kernel_rfl) (by kernel_rfl) (by kernel_rfl)
  (fun x => by kernel_rfl) (by kernel_rfl) ⟨qZh, qOc, qOc, qve, qve, trivial⟩
noncomputable def qnn : FM := ⟨.v xap, [], ⟨3, [.one (.ty (.list (.int .u8)))], [], fun x => qdh x.1.1⟩⟩
noncomputable def qSm : An := .seq (.reg (no 1)) (.seq (.seq (.reg [nn, ([], (FM.ann qAj [] [] []))]) (.cond (.seq (.reg (no 1)) (.leaf)) (.leaf))) (.seq (.reg [nn, ([], (FM.ann qRd [] [] [])), nn, nn, nn, nn, nn, ([], .key 4), nn, nn, nn, nn]) (.seq (.reg [nn, nn, nn, nn, ([], (FM.ann qvj [] [] [])), nn, nn, nn, ([], .key 5), nn, nn]) (.seq (.seq (.reg (no 2)) (.cond (.seq (.reg (no 1)) (.leaf)) (.leaf))) (.seq (.reg [nn, nn, nn, ([], (FM.ann qvh [] [] [])), nn]) (.seq (.reg (no 2)) (.seq (.seq (.reg (no 1)) (.join false ⟨[xce, xck, xcw, xan, xax], [xdt, xah]⟩ (.block (.loop ⟨[xce, xck, xcw, xan, xax, xbk], [xdt, xah]⟩ (fun s => s.1.2.2.1.length + s.1.2.2.2.1.toNat + s.1.2.2.2.2.1.toNat + s.1.2.2.2.2.2.1.toNat + s.2.1.2.2.2.2.2.2.2.2.2.2.2.2.2.1.toNat + s.2.1.2.2.2.2.2.2.2.2.2.2.2.2.2.2.2.1.length + s.2.1.2.2.2.2.2.2.2.2.2.2.2.2.2.2.2.2.1.length + s.2.2.1.1.length + s.2.2.1.2.1.length + s.2.2.1.2.2.1.length + 300) (.seq (.seq (.reg (no 4)) (.cond (.leaf) (.leaf))) (.seq (.block (.seq (.reg (no 4)) (.join false ⟨[xce, xck, xcw, xan, xax, xbk], [xdt, xah]⟩ (.cond (.reg (no 3)) (.leaf))))) (.reg (no 3)))))))) (.seq (.seq (.reg (no 1)) (.join true ⟨[xce, xck, xcw, xan, xax], [xdt, xah]⟩ (.block (.loop ⟨[xce, xck, xcw, xan, xax, xcc], [xdt, xah]⟩ (fun s => s.1.2.2.1.length + s.1.2.2.2.1.toNat + s.1.2.2.2.2.1.toNat + s.1.2.2.2.2.2.1.toNat + s.2.1.2.2.2.2.2.2.2.2.2.2.2.2.2.1.toNat + s.2.1.2.2.2.2.2.2.2.2.2.2.2.2.2.2.2.1.length + s.2.1.2.2.2.2.2.2.2.2.2.2.2.2.2.2.2.2.1.length + s.2.2.1.1.length + s.2.2.1.2.1.length + s.2.2.1.2.2.1.length + 300) (.seq (.seq (.reg (no 5)) (.cond (.leaf) (.leaf))) (.seq (.block (.seq (.reg [nn, nn, nn, nn, nn, nn, ([], (FM.ann qVc [] [] [])), nn]) (.seq (.seq (.join false ⟨[xce, xck, xcw, xan, xax, xcc, (14, .one (.ty .str)), (78, .one (.ty .bool))], [xdt, xah]⟩ (.reg [nn, nn, nn, nn, nn, nn, ([], (FM.ann qGf [] [] [])), nn, nn, nn, nn, nn, nn, nn])) (.cond (.seq (.reg (no 1)) (.leaf)) (.leaf))) (.reg (no 6))))) (.reg (no 3)))))))) (.seq (.reg (no 5)) (.seq (.seq (.join false ⟨[xck, xcw, xan, xax, (111, .one (.ty .bool))], [xah]⟩ (.reg (no 24))) (.join true ⟨[xck, xcw, xan, xax], [xah]⟩ (.cond (.seq (.reg (no 3)) (.cond (.seq (.reg (no 1)) (.leaf)) (.leaf))) (.leaf)))) (.seq (.join false ⟨[xbn], []⟩ (.reg (no 12))) (.leaf))))))))))))
theorem v_laws_FnItems : qnn.Valid P cx := FX.of_ex tok mix (fn := f3) (c := qm f3) (an := qSm) (ms := [qAj, qRd, qvj, qvh, qVc, qGf]) (by kernel_rfl) (by kernel_rfl) (by kernel_rfl) (by kernel_rfl) (by kernel_rfl) (by kernel_rfl)
  (fun x => by kernel_rfl) (by kernel_rfl) ⟨qCu, qtj, qju, qir, qZh, qao, trivial⟩
end Go.AM.YtfhcllnhlblliaaGreatDoor
