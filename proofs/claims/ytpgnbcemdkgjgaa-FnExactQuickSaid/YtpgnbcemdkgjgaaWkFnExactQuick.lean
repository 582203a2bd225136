/- The walk: each function does what its model says. -/
import Derived.Test.YtpgnbcemdkgjgaaMoFnExactQuick
import Derived.Test.YtpgnbcemdkgjgaaProg
import Derived.KernelRfl
set_option linter.unusedVariables false
set_option maxRecDepth 100000
namespace Go.AM.Ytpgnbcemdkgjgaa
open Go Go.AM
def tys : List (Nat × TInf) := [
  (1, ⟨.func, 1, 8, [.nilF], none, false⟩),
  (2, ⟨.int .i64, 1, 8, [.int .i64 0], some (.int .i64), true⟩),
  (3, ⟨.int .i64, 1, 8, [.int .i64 0], some (.int .i64), true⟩),
  (4, ⟨.bool, 1, 1, [.bool false], some .bool, true⟩),
  (5, ⟨.int .u8, 1, 1, [.int .u8 0], some (.int .u8), true⟩),
  (6, ⟨.int .u8, 1, 1, [.int .u8 0], some (.int .u8), true⟩),
  (7, ⟨.struct [(0, 2), (1, 3), (2, 4), (3, 6)], 4, 24, [.int .i64 0, .int .i64 0, .bool false, .int .u8 0], some (.pair (.int .i64) (.pair (.int .i64) (.pair .bool (.int .u8)))), true⟩),
  (8, ⟨.struct [(0, 2), (1, 3), (2, 4), (3, 6)], 4, 24, [.int .i64 0, .int .i64 0, .bool false, .int .u8 0], some (.pair (.int .i64) (.pair (.int .i64) (.pair .bool (.int .u8)))), true⟩),
  (9, ⟨.str, 1, 16, [.str []], some .str, true⟩),
  (10, ⟨.str, 1, 16, [.str []], some .str, true⟩),
  (11, ⟨.str, 1, 16, [.str []], some .str, true⟩),
  (12, ⟨.int .u64, 1, 8, [.int .u64 0], some (.int .u64), true⟩),
  (13, ⟨.struct [(0, 9), (1, 12)], 2, 24, [.str [], .int .u64 0], some (.pair .str (.int .u64)), true⟩),
  (14, ⟨.struct [(0, 9), (1, 12)], 2, 24, [.str [], .int .u64 0], some (.pair .str (.int .u64)), true⟩),
  (15, ⟨.ptr 91, 1, 8, [.nilP], none, false⟩),
  (16, ⟨.ptr 94, 1, 8, [.nilP], none, false⟩),
  (17, ⟨.ptr 103, 1, 8, [.nilP], none, false⟩),
  (18, ⟨.struct [(0, 17)], 1, 8, [.nilP], none, false⟩),
  (19, ⟨.struct [(0, 17)], 1, 8, [.nilP], none, false⟩),
  (21, ⟨.int .i32, 1, 4, [.int .i32 0], some (.int .i32), true⟩),
  (22, ⟨.struct [(0, 9), (1, 3), (2, 3), (3, 3), (4, 9), (5, 9), (6, 3)], 7, 80, [.str [], .int .i64 0, .int .i64 0, .int .i64 0, .str [], .str [], .int .i64 0], some (.pair .str (.pair (.int .i64) (.pair (.int .i64) (.pair (.int .i64) (.pair .str (.pair .str (.int .i64))))))), true⟩),
  (23, ⟨.struct [(0, 9), (1, 3), (2, 3), (3, 3), (4, 9), (5, 9), (6, 3)], 7, 80, [.str [], .int .i64 0, .int .i64 0, .int .i64 0, .str [], .str [], .int .i64 0], some (.pair .str (.pair (.int .i64) (.pair (.int .i64) (.pair (.int .i64) (.pair .str (.pair .str (.int .i64))))))), true⟩),
  (24, ⟨.func, 1, 8, [.nilF], none, false⟩),
  (25, ⟨.struct [(0, 9), (1, 3), (2, 3), (3, 3), (4, 3), (5, 9), (6, 3)], 7, 72, [.str [], .int .i64 0, .int .i64 0, .int .i64 0, .int .i64 0, .str [], .int .i64 0], some (.pair .str (.pair (.int .i64) (.pair (.int .i64) (.pair (.int .i64) (.pair (.int .i64) (.pair .str (.int .i64))))))), true⟩),
  (26, ⟨.struct [(0, 9), (1, 3), (2, 3), (3, 3), (4, 3), (5, 9), (6, 3)], 7, 72, [.str [], .int .i64 0, .int .i64 0, .int .i64 0, .int .i64 0, .str [], .int .i64 0], some (.pair .str (.pair (.int .i64) (.pair (.int .i64) (.pair (.int .i64) (.pair (.int .i64) (.pair .str (.int .i64))))))), true⟩),
  (27, ⟨.func, 1, 8, [.nilF], none, false⟩),
  (28, ⟨.struct [(0, 9), (1, 3), (2, 3), (3, 3), (4, 9), (5, 9), (6, 3)], 7, 80, [.str [], .int .i64 0, .int .i64 0, .int .i64 0, .str [], .str [], .int .i64 0], some (.pair .str (.pair (.int .i64) (.pair (.int .i64) (.pair (.int .i64) (.pair .str (.pair .str (.int .i64))))))), true⟩),
  (29, ⟨.func, 1, 8, [.nilF], none, false⟩),
  (30, ⟨.func, 1, 8, [.nilF], none, false⟩),
  (31, ⟨.func, 1, 8, [.nilF], none, false⟩),
  (32, ⟨.struct [(0, 4), (1, 4), (2, 4), (3, 4), (4, 4), (5, 4), (6, 4), (7, 4), (8, 4), (9, 4), (10, 4), (11, 4), (12, 4), (13, 3), (14, 4), (15, 9), (16, 9)], 17, 64, [.bool false, .bool false, .bool false, .bool false, .bool false, .bool false, .bool false, .bool false, .bool false, .bool false, .bool false, .bool false, .bool false, .int .i64 0, .bool false, .str [], .str []], some (.pair .bool (.pair .bool (.pair .bool (.pair .bool (.pair .bool (.pair .bool (.pair .bool (.pair .bool (.pair .bool (.pair .bool (.pair .bool (.pair .bool (.pair .bool (.pair (.int .i64) (.pair .bool (.pair .str .str)))))))))))))))), true⟩),
  (33, ⟨.struct [(0, 4), (1, 4), (2, 4), (3, 4), (4, 4), (5, 4), (6, 4), (7, 4), (8, 4), (9, 4), (10, 4), (11, 4), (12, 4), (13, 3), (14, 4), (15, 9), (16, 9)], 17, 64, [.bool false, .bool false, .bool false, .bool false, .bool false, .bool false, .bool false, .bool false, .bool false, .bool false, .bool false, .bool false, .bool false, .int .i64 0, .bool false, .str [], .str []], some (.pair .bool (.pair .bool (.pair .bool (.pair .bool (.pair .bool (.pair .bool (.pair .bool (.pair .bool (.pair .bool (.pair .bool (.pair .bool (.pair .bool (.pair .bool (.pair (.int .i64) (.pair .bool (.pair .str .str)))))))))))))))), true⟩),
  (34, ⟨.func, 1, 8, [.nilF], none, false⟩),
  (35, ⟨.func, 1, 8, [.nilF], none, false⟩),
  (36, ⟨.struct [(0, 4), (1, 4), (2, 4), (3, 4), (4, 4), (5, 4), (6, 4), (7, 4), (8, 4), (9, 4), (10, 4), (11, 4), (12, 4), (13, 3), (14, 4), (15, 9), (16, 9)], 17, 64, [.bool false, .bool false, .bool false, .bool false, .bool false, .bool false, .bool false, .bool false, .bool false, .bool false, .bool false, .bool false, .bool false, .int .i64 0, .bool false, .str [], .str []], some (.pair .bool (.pair .bool (.pair .bool (.pair .bool (.pair .bool (.pair .bool (.pair .bool (.pair .bool (.pair .bool (.pair .bool (.pair .bool (.pair .bool (.pair .bool (.pair (.int .i64) (.pair .bool (.pair .str .str)))))))))))))))), true⟩),
  (37, ⟨.func, 1, 8, [.nilF], none, false⟩),
  (38, ⟨.func, 1, 8, [.nilF], none, false⟩),
  (39, ⟨.func, 1, 8, [.nilF], none, false⟩),
  (40, ⟨.func, 1, 8, [.nilF], none, false⟩),
  (41, ⟨.slice 5, 1, 24, [.nilS], some (.list (.int .u8)), true⟩),
  (42, ⟨.func, 1, 8, [.nilF], none, false⟩),
  (44, ⟨.func, 1, 8, [.nilF], none, false⟩),
  (45, ⟨.slice 47, 1, 24, [.nilS], some (.list (.int .u32)), true⟩),
  (46, ⟨.func, 1, 8, [.nilF], none, false⟩),
  (47, ⟨.int .u32, 1, 4, [.int .u32 0], some (.int .u32), true⟩),
  (48, ⟨.func, 1, 8, [.nilF], none, false⟩),
  (49, ⟨.func, 1, 8, [.nilF], none, false⟩),
  (50, ⟨.func, 1, 8, [.nilF], none, false⟩),
  (51, ⟨.slice 73, 1, 24, [.nilS], some (.list (.pair (.int .i64) (.pair .str (.pair (.pair .str (.pair (.int .i64) (.pair (.int .i64) (.pair (.int .i64) (.pair .str (.pair .str (.int .i64))))))) (.pair .str (.pair (.int .i64) (.pair (.int .i64) (.pair (.int .i64) (.pair .str (.pair .str (.int .i64))))))))))), true⟩),
  (52, ⟨.func, 1, 8, [.nilF], none, false⟩),
  (53, ⟨.func, 1, 8, [.nilF], none, false⟩),
  (54, ⟨.slice 75, 1, 24, [.nilS], some (.list (.pair (.int .i64) (.pair .str (.pair (.pair .str (.pair (.int .i64) (.pair (.int .i64) (.pair (.int .i64) (.pair .str (.pair .str (.int .i64))))))) (.pair .str (.pair (.int .i64) (.pair (.int .i64) (.pair (.int .i64) (.pair .str (.pair .str (.int .i64))))))))))), true⟩),
  (55, ⟨.func, 1, 8, [.nilF], none, false⟩),
  (56, ⟨.func, 1, 8, [.nilF], none, false⟩),
  (57, ⟨.func, 1, 8, [.nilF], none, false⟩),
  (59, ⟨.func, 1, 8, [.nilF], none, false⟩),
  (60, ⟨.func, 1, 8, [.nilF], none, false⟩),
  (62, ⟨.func, 1, 8, [.nilF], none, false⟩),
  (63, ⟨.ptr 84, 1, 8, [.nilP], some (.ptr (.pair (.list (.int .u8)) (.pair (.int .i64) (.int .i64)))), false⟩),
  (64, ⟨.func, 1, 8, [.nilF], none, false⟩),
  (65, ⟨.func, 1, 8, [.nilF], none, false⟩),
  (66, ⟨.func, 1, 8, [.nilF], none, false⟩),
  (67, ⟨.func, 1, 8, [.nilF], none, false⟩),
  (69, ⟨.func, 1, 8, [.nilF], none, false⟩),
  (70, ⟨.func, 1, 8, [.nilF], none, false⟩),
  (71, ⟨.func, 1, 8, [.nilF], none, false⟩),
  (72, ⟨.struct [(0, 3), (1, 9), (2, 23), (9, 23)], 16, 184, [.int .i64 0, .str [], .str [], .int .i64 0, .int .i64 0, .int .i64 0, .str [], .str [], .int .i64 0, .str [], .int .i64 0, .int .i64 0, .int .i64 0, .str [], .str [], .int .i64 0], some (.pair (.int .i64) (.pair .str (.pair (.pair .str (.pair (.int .i64) (.pair (.int .i64) (.pair (.int .i64) (.pair .str (.pair .str (.int .i64))))))) (.pair .str (.pair (.int .i64) (.pair (.int .i64) (.pair (.int .i64) (.pair .str (.pair .str (.int .i64)))))))))), true⟩),
  (73, ⟨.struct [(0, 3), (1, 9), (2, 23), (9, 23)], 16, 184, [.int .i64 0, .str [], .str [], .int .i64 0, .int .i64 0, .int .i64 0, .str [], .str [], .int .i64 0, .str [], .int .i64 0, .int .i64 0, .int .i64 0, .str [], .str [], .int .i64 0], some (.pair (.int .i64) (.pair .str (.pair (.pair .str (.pair (.int .i64) (.pair (.int .i64) (.pair (.int .i64) (.pair .str (.pair .str (.int .i64))))))) (.pair .str (.pair (.int .i64) (.pair (.int .i64) (.pair (.int .i64) (.pair .str (.pair .str (.int .i64)))))))))), true⟩),
  (74, ⟨.struct [(0, 3), (1, 9), (2, 28), (9, 28)], 16, 184, [.int .i64 0, .str [], .str [], .int .i64 0, .int .i64 0, .int .i64 0, .str [], .str [], .int .i64 0, .str [], .int .i64 0, .int .i64 0, .int .i64 0, .str [], .str [], .int .i64 0], some (.pair (.int .i64) (.pair .str (.pair (.pair .str (.pair (.int .i64) (.pair (.int .i64) (.pair (.int .i64) (.pair .str (.pair .str (.int .i64))))))) (.pair .str (.pair (.int .i64) (.pair (.int .i64) (.pair (.int .i64) (.pair .str (.pair .str (.int .i64)))))))))), true⟩),
  (75, ⟨.struct [(0, 3), (1, 9), (2, 28), (9, 28)], 16, 184, [.int .i64 0, .str [], .str [], .int .i64 0, .int .i64 0, .int .i64 0, .str [], .str [], .int .i64 0, .str [], .int .i64 0, .int .i64 0, .int .i64 0, .str [], .str [], .int .i64 0], some (.pair (.int .i64) (.pair .str (.pair (.pair .str (.pair (.int .i64) (.pair (.int .i64) (.pair (.int .i64) (.pair .str (.pair .str (.int .i64))))))) (.pair .str (.pair (.int .i64) (.pair (.int .i64) (.pair (.int .i64) (.pair .str (.pair .str (.int .i64)))))))))), true⟩),
  (76, ⟨.func, 1, 8, [.nilF], none, false⟩),
  (77, ⟨.func, 1, 8, [.nilF], none, false⟩),
  (78, ⟨.func, 1, 8, [.nilF], none, false⟩),
  (79, ⟨.func, 1, 8, [.nilF], none, false⟩),
  (80, ⟨.func, 1, 8, [.nilF], none, false⟩),
  (81, ⟨.slice 9, 1, 24, [.nilS], some (.list .str), true⟩),
  (82, ⟨.func, 1, 8, [.nilF], none, false⟩),
  (83, ⟨.struct [(0, 41), (1, 3), (2, 3)], 3, 40, [.nilS, .int .i64 0, .int .i64 0], some (.pair (.list (.int .u8)) (.pair (.int .i64) (.int .i64))), true⟩),
  (84, ⟨.struct [(0, 41), (1, 3), (2, 3)], 3, 40, [.nilS, .int .i64 0, .int .i64 0], some (.pair (.list (.int .u8)) (.pair (.int .i64) (.int .i64))), true⟩),
  (85, ⟨.func, 1, 8, [.nilF], none, false⟩),
  (86, ⟨.func, 1, 8, [.nilF], none, false⟩),
  (87, ⟨.int .u64, 1, 8, [.int .u64 0], some (.int .u64), true⟩),
  (88, ⟨.func, 1, 8, [.nilF], none, false⟩),
  (89, ⟨.func, 1, 8, [.nilF], none, false⟩),
  (90, ⟨.struct [(0, 17), (1, 17), (2, 17), (3, 9)], 4, 40, [.nilP, .nilP, .nilP, .str []], none, false⟩),
  (91, ⟨.struct [(0, 17), (1, 17), (2, 17), (3, 9)], 4, 40, [.nilP, .nilP, .nilP, .str []], none, false⟩),
  (92, ⟨.array 0 16, 0, 0, [], none, false⟩),
  (93, ⟨.struct [(0, 92)], 0, 0, [], none, false⟩),
  (94, ⟨.struct [(0, 92)], 0, 0, [], none, false⟩),
  (95, ⟨.func, 1, 8, [.nilF], none, false⟩),
  (96, ⟨.int .u8, 1, 1, [.int .u8 0], some (.int .u8), true⟩),
  (97, ⟨.int .u8, 1, 1, [.int .u8 0], some (.int .u8), true⟩),
  (98, ⟨.func, 1, 8, [.nilF], none, false⟩),
  (99, ⟨.ptr 5, 1, 8, [.nilP], some (.ptr (.int .u8)), false⟩),
  (100, ⟨.int .i32, 1, 4, [.int .i32 0], some (.int .i32), true⟩),
  (101, ⟨.int .i32, 1, 4, [.int .i32 0], some (.int .i32), true⟩),
  (102, ⟨.struct [(0, 12), (1, 12), (2, 47), (3, 96), (4, 5), (5, 5), (6, 97), (7, 98), (8, 99), (9, 100), (10, 101)], 11, 48, [.int .u64 0, .int .u64 0, .int .u32 0, .int .u8 0, .int .u8 0, .int .u8 0, .int .u8 0, .nilF, .nilP, .int .i32 0, .int .i32 0], none, false⟩),
  (103, ⟨.struct [(0, 12), (1, 12), (2, 47), (3, 96), (4, 5), (5, 5), (6, 97), (7, 98), (8, 99), (9, 100), (10, 101)], 11, 48, [.int .u64 0, .int .u64 0, .int .u32 0, .int .u8 0, .int .u8 0, .int .u8 0, .int .u8 0, .nilF, .nilP, .int .i32 0, .int .i32 0], none, false⟩),
  (104, ⟨.func, 1, 8, [.nilF], none, false⟩)]
def cx : Cx := ⟨tget tys, fun g => none⟩
noncomputable abbrev P : Program := Go.Proofs.Try.prog
theorem tok : TOk P cx := TOk.of_list (by kernel_rfl)
theorem mix : P.follows .mixedOrders = true := by kernel_rfl
def codeOf (f : Func) : Code := f.body.getD .skip
def no (n : Nat) : List (List Ghost × Ann) := List.replicate n ([], .no)

-- laws.szNode
noncomputable def fm_laws_szNode : FM := ⟨.v (.one (.ty (.int .i64))), [], ⟨9, [.str (.pair .str (.pair (.int .i64) (.pair (.int .i64) (.pair (.int .i64) (.pair .str (.pair .str (.int .i64))))))), .one (.ty (.int .i64))], [], fun x => m_laws_szNode x.1.1 x.1.2.1⟩⟩
noncomputable def an_laws_szNode : An := .seq (.reg [([], .key 4), ([], .no)]) (.seq (.reg (no 6)) (.seq (.seq (.reg (no 2)) (.cond (.seq (.reg (no 1)) (.leaf)) (.leaf))) (.seq (.reg (no 6)) (.seq (.seq (.reg (no 2)) (.cond (.seq (.reg (no 1)) (.leaf)) (.leaf))) (.seq (.reg (no 6)) (.seq (.seq (.reg (no 2)) (.cond (.seq (.reg (no 1)) (.leaf)) (.leaf))) (.seq (.reg (no 2)) (.leaf))))))))
theorem v_laws_szNode : fm_laws_szNode.Valid P cx := FX.of_ex tok mix (fn := Go.Proofs.Try.f9) (c := codeOf Go.Proofs.Try.f9) (an := an_laws_szNode) (ms := []) (by kernel_rfl) (by kernel_rfl) (by kernel_rfl) (by kernel_rfl) (by kernel_rfl) (by kernel_rfl)
  (fun x => by kernel_rfl) (by kernel_rfl) trivial
-- laws.szOpts
noncomputable def fm_laws_szOpts : FM := ⟨.v (.one (.ty (.int .i64))), [], ⟨14, [.str (.pair .bool (.pair .bool (.pair .bool (.pair .bool (.pair .bool (.pair .bool (.pair .bool (.pair .bool (.pair .bool (.pair .bool (.pair .bool (.pair .bool (.pair .bool (.pair (.int .i64) (.pair .bool (.pair .str .str)))))))))))))))), .one (.ty (.int .i64))], [], fun x => m_laws_szOpts x.1.1 x.1.2.1⟩⟩
noncomputable def an_laws_szOpts : An := .seq (.reg [([], .key 4), ([], .no)]) (.seq (.reg (no 6)) (.seq (.seq (.reg (no 2)) (.cond (.seq (.reg (no 1)) (.leaf)) (.leaf))) (.seq (.reg (no 6)) (.seq (.seq (.reg (no 2)) (.cond (.seq (.reg (no 1)) (.leaf)) (.leaf))) (.seq (.reg (no 2)) (.leaf))))))
theorem v_laws_szOpts : fm_laws_szOpts.Valid P cx := FX.of_ex tok mix (fn := Go.Proofs.Try.f14) (c := codeOf Go.Proofs.Try.f14) (an := an_laws_szOpts) (ms := []) (by kernel_rfl) (by kernel_rfl) (by kernel_rfl) (by kernel_rfl) (by kernel_rfl) (by kernel_rfl)
  (fun x => by kernel_rfl) (by kernel_rfl) trivial
-- laws.toNode
noncomputable def fm_laws_toNode : FM := ⟨.v (.str (.pair .str (.pair (.int .i64) (.pair (.int .i64) (.pair (.int .i64) (.pair .str (.pair .str (.int .i64)))))))), [], ⟨11, [.str (.pair .str (.pair (.int .i64) (.pair (.int .i64) (.pair (.int .i64) (.pair .str (.pair .str (.int .i64)))))))], [], fun x => m_laws_toNode x.1.1⟩⟩
noncomputable def an_laws_toNode : An := .seq (.reg [([], .key 4), ([], .key 5)]) (.seq (.reg [([], .key 6)]) (.seq (.reg (no 4)) (.seq (.reg (no 4)) (.seq (.reg (no 4)) (.seq (.reg (no 4)) (.seq (.reg (no 4)) (.seq (.reg (no 4)) (.seq (.reg (no 4)) (.seq (.reg (no 2)) (.leaf))))))))))
theorem v_laws_toNode : fm_laws_toNode.Valid P cx := FX.of_ex tok mix (fn := Go.Proofs.Try.f11) (c := codeOf Go.Proofs.Try.f11) (an := an_laws_toNode) (ms := []) (by kernel_rfl) (by kernel_rfl) (by kernel_rfl) (by kernel_rfl) (by kernel_rfl) (by kernel_rfl)
  (fun x => by kernel_rfl) (by kernel_rfl) trivial
-- laws.toOpts
noncomputable def fm_laws_toOpts : FM := ⟨.v (.str (.pair .bool (.pair .bool (.pair .bool (.pair .bool (.pair .bool (.pair .bool (.pair .bool (.pair .bool (.pair .bool (.pair .bool (.pair .bool (.pair .bool (.pair .bool (.pair (.int .i64) (.pair .bool (.pair .str .str))))))))))))))))), [], ⟨16, [.str (.pair .bool (.pair .bool (.pair .bool (.pair .bool (.pair .bool (.pair .bool (.pair .bool (.pair .bool (.pair .bool (.pair .bool (.pair .bool (.pair .bool (.pair .bool (.pair (.int .i64) (.pair .bool (.pair .str .str))))))))))))))))], [], fun x => m_laws_toOpts x.1.1⟩⟩
noncomputable def an_laws_toOpts : An := .seq (.reg [([], .key 4), ([], .key 5)]) (.seq (.reg [([], .key 6)]) (.seq (.reg (no 4)) (.seq (.reg (no 4)) (.seq (.reg (no 4)) (.seq (.reg (no 4)) (.seq (.reg (no 4)) (.seq (.reg (no 4)) (.seq (.reg (no 4)) (.seq (.reg (no 4)) (.seq (.reg (no 4)) (.seq (.reg (no 4)) (.seq (.reg (no 4)) (.seq (.reg (no 4)) (.seq (.reg (no 4)) (.seq (.reg (no 4)) (.seq (.reg (no 4)) (.seq (.reg (no 4)) (.seq (.reg (no 4)) (.seq (.reg (no 2)) (.leaf))))))))))))))))))))
theorem v_laws_toOpts : fm_laws_toOpts.Valid P cx := FX.of_ex tok mix (fn := Go.Proofs.Try.f16) (c := codeOf Go.Proofs.Try.f16) (an := an_laws_toOpts) (ms := []) (by kernel_rfl) (by kernel_rfl) (by kernel_rfl) (by kernel_rfl) (by kernel_rfl) (by kernel_rfl)
  (fun x => by kernel_rfl) (by kernel_rfl) trivial
-- spec.Quick
noncomputable def fm_spec_Quick : FM := ⟨.v (.one (.ty .bool)), [], ⟨15, [.str (.pair .str (.pair (.int .i64) (.pair (.int .i64) (.pair (.int .i64) (.pair .str (.pair .str (.int .i64))))))), .str (.pair .str (.pair (.int .i64) (.pair (.int .i64) (.pair (.int .i64) (.pair .str (.pair .str (.int .i64))))))), .str (.pair .bool (.pair .bool (.pair .bool (.pair .bool (.pair .bool (.pair .bool (.pair .bool (.pair .bool (.pair .bool (.pair .bool (.pair .bool (.pair .bool (.pair .bool (.pair (.int .i64) (.pair .bool (.pair .str .str))))))))))))))))], [], fun x => m_spec_Quick x.1.1 x.1.2.1 x.1.2.2.1⟩⟩
noncomputable def an_spec_Quick : An := .seq (.reg [([], .key 4), ([], .key 5), ([], .key 6), ([], .no)]) (.seq (.block (.seq (.join false ⟨[(3, .one (.con (.ref 4 0))), (4, .one (.con (.ref 5 0))), (5, .one (.con (.ref 6 0))), (7, .one (.ty .bool))], [(4, .box [.ty .str, .ty (.int .i64), .ty (.int .i64), .ty (.int .i64), .ty .str, .ty .str, .ty (.int .i64)]), (5, .box [.ty .str, .ty (.int .i64), .ty (.int .i64), .ty (.int .i64), .ty .str, .ty .str, .ty (.int .i64)]), (6, .box [.ty .bool, .ty .bool, .ty .bool, .ty .bool, .ty .bool, .ty .bool, .ty .bool, .ty .bool, .ty .bool, .ty .bool, .ty .bool, .ty .bool, .ty .bool, .ty (.int .i64), .ty .bool, .ty .str, .ty .str])]⟩ (.reg (no 18))) (.cond (.seq (.reg (no 1)) (.leaf)) (.seq (.reg (no 3)) (.cond (.seq (.reg (no 6)) (.leaf)) (.seq (.reg (no 3)) (.cond (.seq (.reg (no 1)) (.leaf)) (.leaf)))))))) (.seq (.reg (no 6)) (.leaf)))
theorem v_spec_Quick : fm_spec_Quick.Valid P cx := FX.of_ex tok mix (fn := Go.Proofs.Try.f15) (c := codeOf Go.Proofs.Try.f15) (an := an_spec_Quick) (ms := []) (by kernel_rfl) (by kernel_rfl) (by kernel_rfl) (by kernel_rfl) (by kernel_rfl) (by kernel_rfl)
  (fun x => by kernel_rfl) (by kernel_rfl) trivial
-- impl.Quick
noncomputable def fm_impl_Quick : FM := ⟨.v (.one (.ty .bool)), [], ⟨17, [.str (.pair .str (.pair (.int .i64) (.pair (.int .i64) (.pair (.int .i64) (.pair .str (.pair .str (.int .i64))))))), .str (.pair .str (.pair (.int .i64) (.pair (.int .i64) (.pair (.int .i64) (.pair .str (.pair .str (.int .i64))))))), .str (.pair .bool (.pair .bool (.pair .bool (.pair .bool (.pair .bool (.pair .bool (.pair .bool (.pair .bool (.pair .bool (.pair .bool (.pair .bool (.pair .bool (.pair .bool (.pair (.int .i64) (.pair .bool (.pair .str .str))))))))))))))))], [], fun x => m_impl_Quick x.1.1 x.1.2.1 x.1.2.2.1⟩⟩
noncomputable def an_impl_Quick : An := .seq (.reg [([], .key 4), ([], .key 5), ([], .key 6), ([], .no)]) (.seq (.seq (.join false ⟨[(3, .one (.con (.ref 4 0))), (4, .one (.con (.ref 5 0))), (5, .one (.con (.ref 6 0))), (23, .one (.ty .bool))], [(4, .box [.ty .str, .ty (.int .i64), .ty (.int .i64), .ty (.int .i64), .ty .str, .ty .str, .ty (.int .i64)]), (5, .box [.ty .str, .ty (.int .i64), .ty (.int .i64), .ty (.int .i64), .ty .str, .ty .str, .ty (.int .i64)]), (6, .box [.ty .bool, .ty .bool, .ty .bool, .ty .bool, .ty .bool, .ty .bool, .ty .bool, .ty .bool, .ty .bool, .ty .bool, .ty .bool, .ty .bool, .ty .bool, .ty (.int .i64), .ty .bool, .ty .str, .ty .str])]⟩ (.reg (no 17))) (.cond (.seq (.reg (no 1)) (.leaf)) (.leaf))) (.seq (.block (.seq (.reg (no 3)) (.cond (.seq (.reg (no 6)) (.leaf)) (.seq (.reg (no 3)) (.cond (.seq (.reg (no 1)) (.leaf)) (.leaf)))))) (.seq (.reg (no 6)) (.leaf))))
theorem v_impl_Quick : fm_impl_Quick.Valid P cx := FX.of_ex tok mix (fn := Go.Proofs.Try.f17) (c := codeOf Go.Proofs.Try.f17) (an := an_impl_Quick) (ms := []) (by kernel_rfl) (by kernel_rfl) (by kernel_rfl) (by kernel_rfl) (by kernel_rfl) (by kernel_rfl)
  (fun x => by kernel_rfl) (by kernel_rfl) trivial
-- laws.FnExactQuick
noncomputable def fm_laws_FnExactQuick : FM := ⟨.v (.one (.ty .bool)), [], ⟨4, [.str (.pair .str (.pair (.int .i64) (.pair (.int .i64) (.pair (.int .i64) (.pair .str (.pair .str (.int .i64))))))), .str (.pair .str (.pair (.int .i64) (.pair (.int .i64) (.pair (.int .i64) (.pair .str (.pair .str (.int .i64))))))), .str (.pair .bool (.pair .bool (.pair .bool (.pair .bool (.pair .bool (.pair .bool (.pair .bool (.pair .bool (.pair .bool (.pair .bool (.pair .bool (.pair .bool (.pair .bool (.pair (.int .i64) (.pair .bool (.pair .str .str))))))))))))))))], [], fun x => m_laws_FnExactQuick x.1.1 x.1.2.1 x.1.2.2.1⟩⟩
noncomputable def an_laws_FnExactQuick : An := .seq (.reg [([], .key 4), ([], .key 5), ([], .key 6), ([], .no)]) (.seq (.reg (no 1)) (.seq (.reg [([], .no), ([], .no), ([], (FM.ann fm_laws_szNode [] [] [])), ([], .no)]) (.seq (.seq (.reg (no 2)) (.cond (.seq (.reg (no 1)) (.leaf)) (.leaf))) (.seq (.reg [([], .no), ([], .no), ([], (FM.ann fm_laws_szNode [] [] [])), ([], .no)]) (.seq (.seq (.reg (no 2)) (.cond (.seq (.reg (no 1)) (.leaf)) (.leaf))) (.seq (.reg [([], .no), ([], .no), ([], (FM.ann fm_laws_szOpts [] [] [])), ([], .no)]) (.seq (.seq (.reg (no 2)) (.cond (.seq (.reg (no 1)) (.leaf)) (.leaf))) (.seq (.reg [([], .no), ([], (FM.ann fm_laws_toNode [] [] [])), ([], .no), ([], (FM.ann fm_laws_toNode [] [] [])), ([], .no), ([], (FM.ann fm_laws_toOpts [] [] [])), ([], (FM.ann fm_spec_Quick [] [] [])), ([], .no)]) (.seq (.reg [([], .no), ([], (FM.ann fm_laws_toNode [] [] [])), ([], .no), ([], (FM.ann fm_laws_toNode [] [] [])), ([], .no), ([], (FM.ann fm_laws_toOpts [] [] [])), ([], (FM.ann fm_impl_Quick [] [] [])), ([], .no)]) (.seq (.seq (.reg (no 3)) (.cond (.seq (.reg (no 1)) (.leaf)) (.leaf))) (.seq (.reg (no 1)) (.leaf))))))))))))
theorem v_laws_FnExactQuick : fm_laws_FnExactQuick.Valid P cx := FX.of_ex tok mix (fn := Go.Proofs.Try.f4) (c := codeOf Go.Proofs.Try.f4) (an := an_laws_FnExactQuick) (ms := [fm_laws_szNode, fm_laws_szNode, fm_laws_szOpts, fm_laws_toNode, fm_laws_toNode, fm_laws_toOpts, fm_spec_Quick, fm_laws_toNode, fm_laws_toNode, fm_laws_toOpts, fm_impl_Quick]) (by kernel_rfl) (by kernel_rfl) (by kernel_rfl) (by kernel_rfl) (by kernel_rfl) (by kernel_rfl)
  (fun x => by kernel_rfl) (by kernel_rfl) ⟨v_laws_szNode, v_laws_szNode, v_laws_szOpts, v_laws_toNode, v_laws_toNode, v_laws_toOpts, v_spec_Quick, v_laws_toNode, v_laws_toNode, v_laws_toOpts, v_impl_Quick, trivial⟩
end Go.AM.Ytpgnbcemdkgjgaa
