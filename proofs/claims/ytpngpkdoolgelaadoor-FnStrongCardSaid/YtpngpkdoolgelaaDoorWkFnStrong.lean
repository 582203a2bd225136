/- The walk: each function does what its model says. -/
import Derived.Test.YtpngpkdoolgelaaDoorMoFnStrong
import Derived.Test.YtpngpkdoolgelaaDoorProg
import Derived.KernelRfl
set_option linter.unusedVariables false
set_option maxRecDepth 100000
namespace Go.AM.YtpngpkdoolgelaaDoor
open Go Go.AM
def tys : List (Nat × TInf) := [
  (1, ⟨.func, 1, 8, [.nilF], none, false, false⟩),
  (2, ⟨.int .i64, 1, 8, [.int .i64 0], some (.int .i64), true, false⟩),
  (3, ⟨.int .i64, 1, 8, [.int .i64 0], some (.int .i64), true, false⟩),
  (4, ⟨.bool, 1, 1, [.bool false], some .bool, true, false⟩),
  (5, ⟨.int .u8, 1, 1, [.int .u8 0], some (.int .u8), true, false⟩),
  (6, ⟨.int .u8, 1, 1, [.int .u8 0], some (.int .u8), true, false⟩),
  (7, ⟨.struct [(0, 2), (1, 3), (2, 4), (3, 6)], 4, 24, [.int .i64 0, .int .i64 0, .bool false, .int .u8 0], some (.pair (.int .i64) (.pair (.int .i64) (.pair .bool (.int .u8)))), true, false⟩),
  (8, ⟨.struct [(0, 2), (1, 3), (2, 4), (3, 6)], 4, 24, [.int .i64 0, .int .i64 0, .bool false, .int .u8 0], some (.pair (.int .i64) (.pair (.int .i64) (.pair .bool (.int .u8)))), true, false⟩),
  (9, ⟨.str, 1, 16, [.str []], some .str, true, false⟩),
  (10, ⟨.str, 1, 16, [.str []], some .str, true, false⟩),
  (11, ⟨.str, 1, 16, [.str []], some .str, true, false⟩),
  (12, ⟨.int .u64, 1, 8, [.int .u64 0], some (.int .u64), true, false⟩),
  (13, ⟨.struct [(0, 9), (1, 12)], 2, 24, [.str [], .int .u64 0], some (.pair .str (.int .u64)), true, false⟩),
  (14, ⟨.struct [(0, 9), (1, 12)], 2, 24, [.str [], .int .u64 0], some (.pair .str (.int .u64)), true, false⟩),
  (15, ⟨.ptr 103, 1, 8, [.nilP], none, false, false⟩),
  (16, ⟨.ptr 106, 1, 8, [.nilP], none, false, false⟩),
  (17, ⟨.ptr 115, 1, 8, [.nilP], none, false, false⟩),
  (18, ⟨.struct [(0, 17)], 1, 8, [.nilP], none, false, false⟩),
  (19, ⟨.struct [(0, 17)], 1, 8, [.nilP], none, false, false⟩),
  (21, ⟨.int .i32, 1, 4, [.int .i32 0], some (.int .i32), true, false⟩),
  (22, ⟨.slice 5, 1, 24, [.nilS], some (.list (.int .u8)), true, false⟩),
  (23, ⟨.func, 1, 8, [.nilF], none, false, false⟩),
  (24, ⟨.int .u32, 1, 4, [.int .u32 0], some (.int .u32), true, false⟩),
  (26, ⟨.func, 1, 8, [.nilF], none, false, false⟩),
  (27, ⟨.func, 1, 8, [.nilF], none, false, false⟩),
  (28, ⟨.slice 24, 1, 24, [.nilS], some (.list (.int .u32)), true, false⟩),
  (29, ⟨.slice 9, 1, 24, [.nilS], some (.list .str), true, false⟩),
  (30, ⟨.struct [(0, 3), (1, 3), (2, 28), (3, 29)], 4, 64, [.int .i64 0, .int .i64 0, .nilS, .nilS], some (.pair (.int .i64) (.pair (.int .i64) (.pair (.list (.int .u32)) (.list .str)))), true, false⟩),
  (31, ⟨.struct [(0, 3), (1, 3), (2, 28), (3, 29)], 4, 64, [.int .i64 0, .int .i64 0, .nilS, .nilS], some (.pair (.int .i64) (.pair (.int .i64) (.pair (.list (.int .u32)) (.list .str)))), true, false⟩),
  (33, ⟨.func, 1, 8, [.nilF], none, false, false⟩),
  (34, ⟨.slice 37, 1, 24, [.nilS], some (.list (.pair (.int .i64) (.pair .str (.pair (.int .i64) (.int .i64))))), true, false⟩),
  (35, ⟨.func, 1, 8, [.nilF], none, false, false⟩),
  (36, ⟨.struct [(0, 3), (1, 9), (2, 3), (3, 3)], 4, 40, [.int .i64 0, .str [], .int .i64 0, .int .i64 0], some (.pair (.int .i64) (.pair .str (.pair (.int .i64) (.int .i64)))), true, true⟩),
  (37, ⟨.struct [(0, 3), (1, 9), (2, 3), (3, 3)], 4, 40, [.int .i64 0, .str [], .int .i64 0, .int .i64 0], some (.pair (.int .i64) (.pair .str (.pair (.int .i64) (.int .i64)))), true, true⟩),
  (38, ⟨.func, 1, 8, [.nilF], none, false, false⟩),
  (40, ⟨.func, 1, 8, [.nilF], none, false, false⟩),
  (41, ⟨.func, 1, 8, [.nilF], none, false, false⟩),
  (43, ⟨.func, 1, 8, [.nilF], none, false, false⟩),
  (45, ⟨.func, 1, 8, [.nilF], none, false, false⟩),
  (46, ⟨.array 16 5, 16, 16, [.int .u8 0, .int .u8 0, .int .u8 0, .int .u8 0, .int .u8 0, .int .u8 0, .int .u8 0, .int .u8 0, .int .u8 0, .int .u8 0, .int .u8 0, .int .u8 0, .int .u8 0, .int .u8 0, .int .u8 0, .int .u8 0], some (.arr 16 (.int .u8)), true, true⟩),
  (47, ⟨.func, 1, 8, [.nilF], none, false, false⟩),
  (48, ⟨.func, 1, 8, [.nilF], none, false, false⟩),
  (49, ⟨.array 4 24, 4, 16, [.int .u32 0, .int .u32 0, .int .u32 0, .int .u32 0], some (.arr 4 (.int .u32)), true, true⟩),
  (50, ⟨.func, 1, 8, [.nilF], none, false, false⟩),
  (51, ⟨.func, 1, 8, [.nilF], none, false, false⟩),
  (52, ⟨.func, 1, 8, [.nilF], none, false, false⟩),
  (53, ⟨.func, 1, 8, [.nilF], none, false, false⟩),
  (54, ⟨.ptr 69, 1, 8, [.nilP], some (.ptr (.pair (.list (.int .u8)) (.pair (.int .i64) (.int .i64)))), false, false⟩),
  (55, ⟨.func, 1, 8, [.nilF], none, false, false⟩),
  (57, ⟨.func, 1, 8, [.nilF], none, false, false⟩),
  (58, ⟨.func, 1, 8, [.nilF], none, false, false⟩),
  (59, ⟨.func, 1, 8, [.nilF], none, false, false⟩),
  (60, ⟨.func, 1, 8, [.nilF], none, false, false⟩),
  (61, ⟨.func, 1, 8, [.nilF], none, false, false⟩),
  (62, ⟨.func, 1, 8, [.nilF], none, false, false⟩),
  (63, ⟨.func, 1, 8, [.nilF], none, false, false⟩),
  (64, ⟨.func, 1, 8, [.nilF], none, false, false⟩),
  (65, ⟨.func, 1, 8, [.nilF], none, false, false⟩),
  (66, ⟨.func, 1, 8, [.nilF], none, false, false⟩),
  (67, ⟨.func, 1, 8, [.nilF], none, false, false⟩),
  (68, ⟨.struct [(0, 22), (1, 3), (2, 3)], 3, 40, [.nilS, .int .i64 0, .int .i64 0], some (.pair (.list (.int .u8)) (.pair (.int .i64) (.int .i64))), true, false⟩),
  (69, ⟨.struct [(0, 22), (1, 3), (2, 3)], 3, 40, [.nilS, .int .i64 0, .int .i64 0], some (.pair (.list (.int .u8)) (.pair (.int .i64) (.int .i64))), true, false⟩),
  (70, ⟨.func, 1, 8, [.nilF], none, false, false⟩),
  (71, ⟨.func, 1, 8, [.nilF], none, false, false⟩),
  (72, ⟨.func, 1, 8, [.nilF], none, false, false⟩),
  (73, ⟨.func, 1, 8, [.nilF], none, false, false⟩),
  (74, ⟨.slice 3, 1, 24, [.nilS], some (.list (.int .i64)), true, false⟩),
  (75, ⟨.func, 1, 8, [.nilF], none, false, false⟩),
  (76, ⟨.func, 1, 8, [.nilF], none, false, false⟩),
  (77, ⟨.func, 1, 8, [.nilF], none, false, false⟩),
  (78, ⟨.func, 1, 8, [.nilF], none, false, false⟩),
  (79, ⟨.func, 1, 8, [.nilF], none, false, false⟩),
  (80, ⟨.ptr 97, 1, 8, [.nilP], none, false, false⟩),
  (81, ⟨.func, 1, 8, [.nilF], none, false, false⟩),
  (82, ⟨.ptr 37, 1, 8, [.nilP], some (.ptr (.pair (.int .i64) (.pair .str (.pair (.int .i64) (.int .i64))))), false, false⟩),
  (83, ⟨.func, 1, 8, [.nilF], none, false, false⟩),
  (84, ⟨.int .u64, 1, 8, [.int .u64 0], some (.int .u64), true, false⟩),
  (85, ⟨.array 64 24, 64, 256, [.int .u32 0, .int .u32 0, .int .u32 0, .int .u32 0, .int .u32 0, .int .u32 0, .int .u32 0, .int .u32 0, .int .u32 0, .int .u32 0, .int .u32 0, .int .u32 0, .int .u32 0, .int .u32 0, .int .u32 0, .int .u32 0, .int .u32 0, .int .u32 0, .int .u32 0, .int .u32 0, .int .u32 0, .int .u32 0, .int .u32 0, .int .u32 0, .int .u32 0, .int .u32 0, .int .u32 0, .int .u32 0, .int .u32 0, .int .u32 0, .int .u32 0, .int .u32 0, .int .u32 0, .int .u32 0, .int .u32 0, .int .u32 0, .int .u32 0, .int .u32 0, .int .u32 0, .int .u32 0, .int .u32 0, .int .u32 0, .int .u32 0, .int .u32 0, .int .u32 0, .int .u32 0, .int .u32 0, .int .u32 0, .int .u32 0, .int .u32 0, .int .u32 0, .int .u32 0, .int .u32 0, .int .u32 0, .int .u32 0, .int .u32 0, .int .u32 0, .int .u32 0, .int .u32 0, .int .u32 0, .int .u32 0, .int .u32 0, .int .u32 0, .int .u32 0], some (.arr 64 (.int .u32)), true, true⟩),
  (86, ⟨.func, 1, 8, [.nilF], none, false, false⟩),
  (87, ⟨.array 4 3, 4, 32, [.int .i64 0, .int .i64 0, .int .i64 0, .int .i64 0], some (.arr 4 (.int .i64)), true, true⟩),
  (88, ⟨.array 4 87, 16, 128, [.int .i64 0, .int .i64 0, .int .i64 0, .int .i64 0, .int .i64 0, .int .i64 0, .int .i64 0, .int .i64 0, .int .i64 0, .int .i64 0, .int .i64 0, .int .i64 0, .int .i64 0, .int .i64 0, .int .i64 0, .int .i64 0], some (.arr 4 (.arr 4 (.int .i64))), true, false⟩),
  (90, ⟨.func, 1, 8, [.nilF], none, false, false⟩),
  (91, ⟨.func, 1, 8, [.nilF], none, false, false⟩),
  (92, ⟨.func, 1, 8, [.nilF], none, false, false⟩),
  (93, ⟨.func, 1, 8, [.nilF], none, false, false⟩),
  (94, ⟨.func, 1, 8, [.nilF], none, false, false⟩),
  (95, ⟨.map 24 74, 1, 8, [.nilM], none, false, false⟩),
  (96, ⟨.struct [(0, 31), (4, 24), (5, 9), (6, 28), (7, 28), (8, 95)], 9, 144, [.int .i64 0, .int .i64 0, .nilS, .nilS, .int .u32 0, .str [], .nilS, .nilS, .nilM], none, false, false⟩),
  (97, ⟨.struct [(0, 31), (4, 24), (5, 9), (6, 28), (7, 28), (8, 95)], 9, 144, [.int .i64 0, .int .i64 0, .nilS, .nilS, .int .u32 0, .str [], .nilS, .nilS, .nilM], none, false, false⟩),
  (98, ⟨.slice 28, 1, 24, [.nilS], some (.list (.list (.int .u32))), true, false⟩),
  (99, ⟨.func, 1, 8, [.nilF], none, false, false⟩),
  (100, ⟨.func, 1, 8, [.nilF], none, false, false⟩),
  (101, ⟨.func, 1, 8, [.nilF], none, false, false⟩),
  (102, ⟨.struct [(0, 17), (1, 17), (2, 17), (3, 9)], 4, 40, [.nilP, .nilP, .nilP, .str []], none, false, false⟩),
  (103, ⟨.struct [(0, 17), (1, 17), (2, 17), (3, 9)], 4, 40, [.nilP, .nilP, .nilP, .str []], none, false, false⟩),
  (104, ⟨.array 0 16, 0, 0, [], none, false, false⟩),
  (105, ⟨.struct [(0, 104)], 0, 0, [], none, false, false⟩),
  (106, ⟨.struct [(0, 104)], 0, 0, [], none, false, false⟩),
  (107, ⟨.func, 1, 8, [.nilF], none, false, false⟩),
  (108, ⟨.int .u8, 1, 1, [.int .u8 0], some (.int .u8), true, false⟩),
  (109, ⟨.int .u8, 1, 1, [.int .u8 0], some (.int .u8), true, false⟩),
  (110, ⟨.func, 1, 8, [.nilF], none, false, false⟩),
  (111, ⟨.ptr 5, 1, 8, [.nilP], some (.ptr (.int .u8)), false, false⟩),
  (112, ⟨.int .i32, 1, 4, [.int .i32 0], some (.int .i32), true, false⟩),
  (113, ⟨.int .i32, 1, 4, [.int .i32 0], some (.int .i32), true, false⟩),
  (114, ⟨.struct [(0, 12), (1, 12), (2, 24), (3, 108), (4, 5), (5, 5), (6, 109), (7, 110), (8, 111), (9, 112), (10, 113)], 11, 48, [.int .u64 0, .int .u64 0, .int .u32 0, .int .u8 0, .int .u8 0, .int .u8 0, .int .u8 0, .nilF, .nilP, .int .i32 0, .int .i32 0], none, false, false⟩),
  (115, ⟨.struct [(0, 12), (1, 12), (2, 24), (3, 108), (4, 5), (5, 5), (6, 109), (7, 110), (8, 111), (9, 112), (10, 113)], 11, 48, [.int .u64 0, .int .u64 0, .int .u32 0, .int .u8 0, .int .u8 0, .int .u8 0, .int .u8 0, .nilF, .nilP, .int .i32 0, .int .i32 0], none, false, false⟩)]
def cx : Cx := ⟨tget tys, fun g => bif Nat.beq g 1 then some ⟨(.arr 4 (.arr 4 (.int .i64))), gv1⟩ else (bif Nat.beq g 0 then some ⟨(.arr 64 (.int .u32)), gv0⟩ else (none))⟩
noncomputable abbrev P : Program := Go.Proofs.Tryd.prog
theorem tok : TOk P cx := TOk.of_list (by kernel_rfl)
theorem mix : P.follows .mixedOrders = true := by kernel_rfl
open Go.Proofs.Tryd
abbrev cC : List CT := [.ty (.list (.int .u8)), .ty (.int .i64), .ty (.int .i64)]
abbrev nn : List Ghost × Ann := ([], .no)
def codeOf (f : Func) : Code := f.body.getD .skip
def no (n : Nat) : List (List Ghost × Ann) := List.replicate n nn

-- laws.big
noncomputable def fm_laws_big : FM := ⟨.v (.one (.ty .bool)), [], ⟨5, [.one (.ty (.list (.int .u8)))], [], fun x => m_laws_big x.1.1⟩⟩
noncomputable def an_laws_big : An := .seq (.reg (no 1)) (.seq (.reg (no 4)) (.leaf))
theorem v_laws_big : fm_laws_big.Valid P cx := FX.of_ex tok mix (fn := f5) (c := codeOf f5) (an := an_laws_big) (ms := []) (by kernel_rfl) (by kernel_rfl) (by kernel_rfl) (by kernel_rfl) (by kernel_rfl) (by kernel_rfl)
  (fun x => by kernel_rfl) (by kernel_rfl) trivial
-- spec.l01New
noncomputable def fm_spec_l01New : FM := ⟨.v (.one (.con (.ref 0 0))), [.box cC], ⟨23, [.one (.ty (.list (.int .u8)))], [], fun x => m_spec_l01New x.1.1⟩⟩
noncomputable def an_spec_l01New : An := .seq (.reg (no 1)) (.seq (.reg (no 4)) (.seq (.seq (.reg (no 1)) (.join false ⟨[(0, .one (.ty (.list (.int .u8)))), (3, .one (.ty (.int .i64)))], []⟩ (.block (.loop ⟨[(0, .one (.ty (.list (.int .u8)))), (3, .one (.ty (.int .i64))), (4, .one (.ty (.int .i64)))], []⟩ (fun s => s.1.1.length + s.1.2.1.toNat + s.1.2.2.1.toNat + 300) (.seq (.seq (.join false ⟨[(0, .one (.ty (.list (.int .u8)))), (3, .one (.ty (.int .i64))), (4, .one (.ty (.int .i64))), (15, .one (.ty .bool))], []⟩ (.reg (no 8))) (.cond (.leaf) (.leaf))) (.seq (.block (.reg (no 11))) (.reg (no 3)))))))) (.seq (.reg [nn, nn, nn, ([], .key 4), nn]) (.gh [.ren 4 0] .leaf))))
theorem v_spec_l01New : fm_spec_l01New.Valid P cx := FX.of_ex tok mix (fn := f23) (c := codeOf f23) (an := an_spec_l01New) (ms := []) (by kernel_rfl) (by kernel_rfl) (by kernel_rfl) (by kernel_rfl) (by kernel_rfl) (by kernel_rfl)
  (fun x => by kernel_rfl) (by kernel_rfl) trivial
-- spec.l01Byte
noncomputable def fm_spec_l01Byte : FM := ⟨.v (.one (.ty (.int .i64))), [.box cC], ⟨60, [.one (.con (.ref 0 0))], [.box cC], fun x => m_spec_l01Byte x.2.1⟩⟩
noncomputable def an_spec_l01Byte : An := .seq (.reg (no 1)) (.seq (.reg (no 10)) (.seq (.reg (no 13)) (.seq (.seq (.reg (no 10)) (.join false ⟨[(3, .one (.ty (.int .i64)))], [(0, .box cC)]⟩ (.cond (.seq (.reg (no 15)) (.reg (no 9))) (.leaf)))) (.seq (.reg (no 2)) (.leaf)))))
theorem v_spec_l01Byte : fm_spec_l01Byte.Valid P cx := FX.of_ex tok mix (fn := f60) (c := codeOf f60) (an := an_spec_l01Byte) (ms := []) (by kernel_rfl) (by kernel_rfl) (by kernel_rfl) (by kernel_rfl) (by kernel_rfl) (by kernel_rfl)
  (fun x => by kernel_rfl) (by kernel_rfl) trivial
-- spec.l01Below
noncomputable def fm_spec_l01Below : FM := ⟨.v (.one (.ty (.int .i64))), [.box cC], ⟨44, [.one (.con (.ref 0 0)), .one (.ty (.int .i64))], [.box cC], fun x => m_spec_l01Below x.1.2.1 x.2.1⟩⟩
noncomputable def an_spec_l01Below : An := .seq (.reg (no 1)) (.seq (.seq (.reg (no 2)) (.cond (.seq (.reg (no 1)) (.leaf)) (.leaf))) (.seq (.seq (.reg (no 2)) (.cond (.seq (.reg [nn, ([], (FM.ann fm_spec_l01Byte [0] [] [])), nn, nn, nn]) (.leaf)) (.leaf))) (.seq (.reg [nn, ([], (FM.ann fm_spec_l01Byte [0] [] [])), nn]) (.seq (.reg [nn, ([], (FM.ann fm_spec_l01Byte [0] [] [])), nn]) (.seq (.reg [nn, ([], (FM.ann fm_spec_l01Byte [0] [] [])), nn]) (.seq (.reg [nn, ([], (FM.ann fm_spec_l01Byte [0] [] [])), nn]) (.seq (.reg (no 13)) (.leaf))))))))
theorem v_spec_l01Below : fm_spec_l01Below.Valid P cx := FX.of_ex tok mix (fn := f44) (c := codeOf f44) (an := an_spec_l01Below) (ms := [fm_spec_l01Byte, fm_spec_l01Byte, fm_spec_l01Byte, fm_spec_l01Byte, fm_spec_l01Byte]) (by kernel_rfl) (by kernel_rfl) (by kernel_rfl) (by kernel_rfl) (by kernel_rfl) (by kernel_rfl)
  (fun x => by kernel_rfl) (by kernel_rfl) ⟨v_spec_l01Byte, v_spec_l01Byte, v_spec_l01Byte, v_spec_l01Byte, v_spec_l01Byte, trivial⟩
-- spec.l01PickInt
noncomputable def fm_spec_l01PickInt : FM := ⟨.v (.one (.ty (.int .i64))), [.box cC], ⟨46, [.one (.con (.ref 0 0)), .one (.ty (.list (.int .i64)))], [.box cC], fun x => m_spec_l01PickInt x.1.2.1 x.2.1⟩⟩
noncomputable def an_spec_l01PickInt : An := .seq (.reg (no 1)) (.seq (.reg [nn, nn, nn, nn, ([], (FM.ann fm_spec_l01Below [0] [] [])), nn, nn, nn]) (.leaf))
theorem v_spec_l01PickInt : fm_spec_l01PickInt.Valid P cx := FX.of_ex tok mix (fn := f46) (c := codeOf f46) (an := an_spec_l01PickInt) (ms := [fm_spec_l01Below]) (by kernel_rfl) (by kernel_rfl) (by kernel_rfl) (by kernel_rfl) (by kernel_rfl) (by kernel_rfl)
  (fun x => by kernel_rfl) (by kernel_rfl) ⟨v_spec_l01Below, trivial⟩
-- spec.l01Word
noncomputable def fm_spec_l01Word : FM := ⟨.v (.one (.ty (.int .u32))), [.box cC], ⟨26, [.one (.con (.ref 0 0))], [.box cC], fun x => m_spec_l01Word x.2.1⟩⟩
noncomputable def an_spec_l01Word : An := .seq (.reg (no 1)) (.seq (.seq (.reg [nn, ([], (FM.ann fm_spec_l01Below [0] [] []))]) (.block (.seq (.reg (no 2)) (.cond (.seq (.reg [nn, ([], .key 5), ([.freeze 5], (FM.ann fm_spec_l01PickInt [0] [] [])), nn, nn]) (.leaf)) (.seq (.reg (no 2)) (.cond (.seq (.reg [nn, ([], (FM.ann fm_spec_l01Below [0] [] [])), nn, nn]) (.leaf)) (.leaf))))))) (.seq (.reg [nn, ([], (FM.ann fm_spec_l01Below [0] [] [])), nn, nn, nn, ([], (FM.ann fm_spec_l01Below [0] [] [])), nn, nn, nn]) (.leaf)))
theorem v_spec_l01Word : fm_spec_l01Word.Valid P cx := FX.of_ex tok mix (fn := f26) (c := codeOf f26) (an := an_spec_l01Word) (ms := [fm_spec_l01Below, fm_spec_l01PickInt, fm_spec_l01Below, fm_spec_l01Below, fm_spec_l01Below]) (by kernel_rfl) (by kernel_rfl) (by kernel_rfl) (by kernel_rfl) (by kernel_rfl) (by kernel_rfl)
  (fun x => by kernel_rfl) (by kernel_rfl) ⟨v_spec_l01Below, v_spec_l01PickInt, v_spec_l01Below, v_spec_l01Below, v_spec_l01Below, trivial⟩
-- spec.l01Size
noncomputable def fm_spec_l01Size : FM := ⟨.v (.one (.ty (.int .i64))), [], ⟨25, [.one (.ty (.list (.int .u8))), .one (.ty (.int .i64))], [], fun x => m_spec_l01Size x.1.1 x.1.2.1⟩⟩
noncomputable def an_spec_l01Size : An := .seq (.reg (no 1)) (.seq (.reg (no 5)) (.seq (.seq (.reg (no 3)) (.cond (.seq (.reg (no 2)) (.leaf)) (.leaf))) (.seq (.reg (no 2)) (.leaf))))
theorem v_spec_l01Size : fm_spec_l01Size.Valid P cx := FX.of_ex tok mix (fn := f25) (c := codeOf f25) (an := an_spec_l01Size) (ms := []) (by kernel_rfl) (by kernel_rfl) (by kernel_rfl) (by kernel_rfl) (by kernel_rfl) (by kernel_rfl)
  (fun x => by kernel_rfl) (by kernel_rfl) trivial
-- spec.l01Once
noncomputable def fm_spec_l01Once : FM := ⟨.v (.one (.ty .bool)), [.box cC], ⟨45, [.one (.con (.ref 0 0)), .one (.ty (.int .i64))], [.box cC], fun x => m_spec_l01Once x.1.2.1 x.2.1⟩⟩
noncomputable def an_spec_l01Once : An := .seq (.reg (no 1)) (.seq (.reg [nn, nn, ([], (FM.ann fm_spec_l01Below [0] [] [])), nn, nn]) (.leaf))
theorem v_spec_l01Once : fm_spec_l01Once.Valid P cx := FX.of_ex tok mix (fn := f45) (c := codeOf f45) (an := an_spec_l01Once) (ms := [fm_spec_l01Below]) (by kernel_rfl) (by kernel_rfl) (by kernel_rfl) (by kernel_rfl) (by kernel_rfl) (by kernel_rfl)
  (fun x => by kernel_rfl) (by kernel_rfl) ⟨v_spec_l01Below, trivial⟩
-- spec.l01Text
noncomputable def fm_spec_l01Text : FM := ⟨.v (.one (.ty .str)), [.box cC], ⟨43, [.one (.con (.ref 0 0)), .one (.ty (.int .i64))], [.box cC], fun x => m_spec_l01Text x.1.2.1 x.2.1⟩⟩
noncomputable def an_spec_l01Text : An := .seq (.reg (no 1)) (.seq (.reg [([], .key 5), nn]) (.seq (.join false ⟨[(1, .one (.ty (.int .i64))), (5, .one (.con (.rs 5)))], [(0, .box cC), (5, .lst false (.int .u8))]⟩ (.block (.loop ⟨[(0, .one (.con (.ref 0 0))), (1, .one (.ty (.int .i64))), (5, .one (.con (.rs 5)))], [(0, .box cC), (5, .lst false (.int .u8))]⟩ (fun s => 2 ^ 100) (.seq (.seq (.reg (no 4)) (.cond (.leaf) (.leaf))) (.block (.seq (.reg [nn, ([], (FM.ann fm_spec_l01Below [0] [] []))]) (.block (.seq (.reg (no 2)) (.join false ⟨[(0, .one (.con (.ref 0 0))), (1, .one (.ty (.int .i64))), (5, .one (.con (.rs 5)))], [(0, .box cC), (5, .lst false (.int .u8))]⟩ (.cond (.reg [nn, nn, ([], (FM.ann fm_spec_l01Byte [0] [] [])), nn, ([], .key 6), nn, nn]) (.seq (.reg (no 2)) (.join false ⟨[(0, .one (.con (.ref 0 0))), (1, .one (.ty (.int .i64))), (5, .one (.con (.rs 5)))], [(0, .box cC), (5, .lst false (.int .u8))]⟩ (.cond (.seq (.reg [nn, ([], (FM.ann fm_spec_l01Below [0] [] [])), nn]) (.seq (.reg [nn, ([], (FM.ann fm_spec_l01Below [0] [] [])), nn, nn, nn]) (.seq (.reg (no 1)) (.join false ⟨[(0, .one (.con (.ref 0 0))), (1, .one (.ty (.int .i64))), (5, .one (.con (.rs 5)))], [(0, .box cC), (5, .lst false (.int .u8))]⟩ (.block (.loop ⟨[(0, .one (.con (.ref 0 0))), (1, .one (.ty (.int .i64))), (5, .one (.con (.rs 5))), (6, .one (.ty (.int .i64))), (7, .one (.ty (.int .u8))), (8, .one (.ty (.int .i64)))], [(0, .box cC), (5, .lst false (.int .u8))]⟩ (fun s => 2 ^ 100) (.seq (.seq (.reg (no 3)) (.cond (.leaf) (.leaf))) (.seq (.block (.reg [nn, nn, ([], .key 7), nn, nn])) (.reg (no 3)))))))))) (.seq (.reg (no 2)) (.join false ⟨[(0, .one (.con (.ref 0 0))), (1, .one (.ty (.int .i64))), (5, .one (.con (.rs 5)))], [(0, .box cC), (5, .lst false (.int .u8))]⟩ (.cond (.seq (.reg (no 3)) (.join false ⟨[(0, .one (.con (.ref 0 0))), (1, .one (.ty (.int .i64))), (5, .one (.con (.rs 5)))], [(0, .box cC), (5, .lst false (.int .u8))]⟩ (.cond (.seq (.reg [nn, nn, nn, ([], (FM.ann fm_spec_l01Below [0] [] [])), nn]) (.seq (.reg [nn, ([], (FM.ann fm_spec_l01Below [0] [] [])), nn]) (.seq (.reg (no 1)) (.join false ⟨[(0, .one (.con (.ref 0 0))), (1, .one (.ty (.int .i64))), (5, .one (.con (.rs 5)))], [(0, .box cC), (5, .lst false (.int .u8))]⟩ (.block (.loop ⟨[(0, .one (.con (.ref 0 0))), (1, .one (.ty (.int .i64))), (5, .one (.con (.rs 5))), (9, .one (.ty (.int .i64))), (10, .one (.ty (.int .i64))), (11, .one (.ty (.int .i64)))], [(0, .box cC), (5, .lst false (.int .u8))]⟩ (fun s => 2 ^ 100) (.seq (.seq (.join false ⟨[(0, .one (.con (.ref 0 0))), (1, .one (.ty (.int .i64))), (5, .one (.con (.rs 5))), (9, .one (.ty (.int .i64))), (10, .one (.ty (.int .i64))), (11, .one (.ty (.int .i64))), (72, .one (.ty .bool))], [(0, .box cC), (5, .lst false (.int .u8))]⟩ (.reg (no 11))) (.cond (.leaf) (.leaf))) (.seq (.block (.reg [nn, nn, nn, nn, nn, nn, nn, ([], .key 8), nn, nn])) (.reg (no 3)))))))))) (.leaf)))) (.reg [nn, nn, ([], (FM.ann fm_spec_l01Below [0] [] [])), nn, nn, ([], .key 9), nn, nn]))))))))))))))))) (.seq (.reg [nn, nn, ([.freeze 5], .no), nn, nn]) (.leaf))))
theorem v_spec_l01Text : fm_spec_l01Text.Valid P cx := FX.of_ex tok mix (fn := f43) (c := codeOf f43) (an := an_spec_l01Text) (ms := [fm_spec_l01Below, fm_spec_l01Byte, fm_spec_l01Below, fm_spec_l01Below, fm_spec_l01Below, fm_spec_l01Below, fm_spec_l01Below]) (by kernel_rfl) (by kernel_rfl) (by kernel_rfl) (by kernel_rfl) (by kernel_rfl) (by kernel_rfl)
  (fun x => by kernel_rfl) (by kernel_rfl) ⟨v_spec_l01Below, v_spec_l01Byte, v_spec_l01Below, v_spec_l01Below, v_spec_l01Below, v_spec_l01Below, v_spec_l01Below, trivial⟩
-- spec.l04Data
noncomputable def fm_spec_l04Data : FM := ⟨.v (.one (.ty .str)), [.box cC], ⟨35, [.one (.ty (.list (.int .u8))), .one (.con (.ref 0 0))], [.box cC], fun x => m_spec_l04Data x.1.1 x.2.1⟩⟩
noncomputable def an_spec_l04Data : An := .seq (.reg (no 1)) (.seq (.reg [nn, nn, ([], (FM.ann fm_spec_l01Size [] [] [])), ([], (FM.ann fm_spec_l01Below [0] [] [])), nn]) (.seq (.seq (.reg [nn, ([], (FM.ann fm_spec_l01Once [0] [] []))]) (.join false ⟨[(1, .one (.con (.ref 0 0))), (5, .one (.ty (.int .i64)))], [(0, .box cC)]⟩ (.cond (.reg [nn, ([], .key 5), ([.freeze 5], (FM.ann fm_spec_l01PickInt [0] [] [])), nn]) (.leaf)))) (.seq (.seq (.reg [nn, ([], (FM.ann fm_spec_l01Once [0] [] []))]) (.join false ⟨[(1, .one (.con (.ref 0 0))), (5, .one (.ty (.int .i64)))], [(0, .box cC)]⟩ (.cond (.reg [nn, ([], (FM.ann fm_spec_l01Below [0] [] [])), nn, nn]) (.leaf)))) (.seq (.reg [nn, nn, ([], (FM.ann fm_spec_l01Text [0] [] [])), nn]) (.leaf)))))
theorem v_spec_l04Data : fm_spec_l04Data.Valid P cx := FX.of_ex tok mix (fn := f35) (c := codeOf f35) (an := an_spec_l04Data) (ms := [fm_spec_l01Size, fm_spec_l01Below, fm_spec_l01Once, fm_spec_l01PickInt, fm_spec_l01Once, fm_spec_l01Below, fm_spec_l01Text]) (by kernel_rfl) (by kernel_rfl) (by kernel_rfl) (by kernel_rfl) (by kernel_rfl) (by kernel_rfl)
  (fun x => by kernel_rfl) (by kernel_rfl) ⟨v_spec_l01Size, v_spec_l01Below, v_spec_l01Once, v_spec_l01PickInt, v_spec_l01Once, v_spec_l01Below, v_spec_l01Text, trivial⟩
-- spec.DrawSeedStrong
noncomputable def fm_spec_DrawSeedStrong : FM := ⟨.tup [(.one (.ty (.int .u32))), (.one (.ty .str))], [], ⟨14, [.one (.ty (.list (.int .u8)))], [], fun x => m_spec_DrawSeedStrong x.1.1⟩⟩
noncomputable def an_spec_DrawSeedStrong : An := .seq (.reg (no 2)) (.seq (.reg [nn, ([], (FM.ann fm_spec_l01New [] [4] [])), nn]) (.seq (.reg [nn, ([], (FM.ann fm_spec_l01Word [4] [] [])), nn]) (.seq (.reg [nn, nn, nn, ([], (FM.ann fm_spec_l04Data [4] [] [])), nn, nn]) (.leaf))))
theorem v_spec_DrawSeedStrong : fm_spec_DrawSeedStrong.Valid P cx := FX.of_ex tok mix (fn := f14) (c := codeOf f14) (an := an_spec_DrawSeedStrong) (ms := [fm_spec_l01New, fm_spec_l01Word, fm_spec_l04Data]) (by kernel_rfl) (by kernel_rfl) (by kernel_rfl) (by kernel_rfl) (by kernel_rfl) (by kernel_rfl)
  (fun x => by kernel_rfl) (by kernel_rfl) ⟨v_spec_l01New, v_spec_l01Word, v_spec_l04Data, trivial⟩
-- impl.wordText
noncomputable def fm_impl_wordText : FM := ⟨.v (.one (.ty .str)), [], ⟨36, [.one (.ty (.int .u32))], [], fun x => m_impl_wordText x.1.1⟩⟩
noncomputable def an_impl_wordText : An := .seq (.reg (no 1)) (.seq (.reg [nn, nn, nn, nn, nn, nn, nn, nn, nn, nn, nn, ([], .key 4), nn, nn]) (.leaf))
theorem v_impl_wordText : fm_impl_wordText.Valid P cx := FX.of_ex tok mix (fn := f36) (c := codeOf f36) (an := an_impl_wordText) (ms := []) (by kernel_rfl) (by kernel_rfl) (by kernel_rfl) (by kernel_rfl) (by kernel_rfl) (by kernel_rfl)
  (fun x => by kernel_rfl) (by kernel_rfl) trivial
-- impl.padded
noncomputable def fm_impl_padded : FM := ⟨.v (.one (.ty .str)), [], ⟨38, [.one (.ty .str)], [], fun x => m_impl_padded x.1.1⟩⟩
noncomputable def an_impl_padded : An := .seq (.reg (no 1)) (.seq (.reg [nn, ([], .key 4), ([], .key 5), nn, nn]) (.seq (.join false ⟨[(0, .one (.ty .str)), (3, .one (.con (.rs 4)))], [(4, .lst false (.int .u8))]⟩ (.block (.loop ⟨[(0, .one (.ty .str)), (3, .one (.con (.rs 4)))], [(4, .lst false (.int .u8))]⟩ (fun s => s.1.1.length + s.2.1.length + 300) (.seq (.seq (.reg (no 4)) (.cond (.leaf) (.leaf))) (.block (.reg [nn, ([], .key 6), nn, nn])))))) (.seq (.reg (no 4)) (.seq (.reg [nn, nn, nn, nn, ([], (FM.ann fm_impl_wordText [] [] [])), nn, nn, nn, nn, ([], (FM.ann fm_impl_wordText [] [] [])), nn, nn]) (.leaf)))))
theorem v_impl_padded : fm_impl_padded.Valid P cx := FX.of_ex tok mix (fn := f38) (c := codeOf f38) (an := an_impl_padded) (ms := [fm_impl_wordText, fm_impl_wordText]) (by kernel_rfl) (by kernel_rfl) (by kernel_rfl) (by kernel_rfl) (by kernel_rfl) (by kernel_rfl)
  (fun x => by kernel_rfl) (by kernel_rfl) ⟨v_impl_wordText, v_impl_wordText, trivial⟩
-- impl.readWord
noncomputable def fm_impl_readWord : FM := ⟨.v (.one (.ty (.int .u32))), [], ⟨55, [.one (.ty .str)], [], fun x => m_impl_readWord x.1.1⟩⟩
noncomputable def an_impl_readWord : An := .seq (.reg (no 1)) (.seq (.reg (no 19)) (.leaf))
theorem v_impl_readWord : fm_impl_readWord.Valid P cx := FX.of_ex tok mix (fn := f55) (c := codeOf f55) (an := an_impl_readWord) (ms := []) (by kernel_rfl) (by kernel_rfl) (by kernel_rfl) (by kernel_rfl) (by kernel_rfl) (by kernel_rfl)
  (fun x => by kernel_rfl) (by kernel_rfl) trivial
-- math/bits.RotateLeft32
noncomputable def fm_bits_RotateLeft32 : FM := ⟨.v (.one (.ty (.int .u32))), [], ⟨56, [.one (.ty (.int .u32)), .one (.ty (.int .i64))], [], fun x => m_bits_RotateLeft32 x.1.1 x.1.2.1⟩⟩
noncomputable def an_bits_RotateLeft32 : An := .seq (.reg (no 1)) (.seq (.reg (no 4)) (.seq (.reg (no 9)) (.leaf)))
theorem v_bits_RotateLeft32 : fm_bits_RotateLeft32.Valid P cx := FX.of_ex tok mix (fn := f56) (c := codeOf f56) (an := an_bits_RotateLeft32) (ms := []) (by kernel_rfl) (by kernel_rfl) (by kernel_rfl) (by kernel_rfl) (by kernel_rfl) (by kernel_rfl)
  (fun x => by kernel_rfl) (by kernel_rfl) trivial
-- impl.mix
noncomputable def fm_impl_mix : FM := ⟨.v (.str (.arr 4 (.int .u32))), [], ⟨39, [.str (.arr 4 (.int .u32)), .one (.ty .str)], [], fun x => m_impl_mix x.1.1 x.1.2.1⟩⟩
noncomputable def an_impl_mix : An := .seq (.reg [([], .keyT 4 (.arr 4 (.int .u32))), ([], .keyT 5 (.arr 4 (.int .u32)))]) (.seq (.reg (no 12)) (.seq (.seq (.reg (no 1)) (.join false ⟨[(2, .one (.con (.ref 4 0))), (4, .one (.con (.ref 5 0))), (5, .one (.ty (.int .u32))), (6, .one (.ty (.int .u32))), (7, .one (.ty (.int .u32))), (8, .one (.ty (.int .u32)))], [(4, .tb (.arr 4 (.int .u32))), (5, .tb (.arr 4 (.int .u32)))]⟩ (.block (.loop ⟨[(1, .one (.ty .str)), (2, .one (.con (.ref 4 0))), (4, .one (.con (.ref 5 0))), (5, .one (.ty (.int .u32))), (6, .one (.ty (.int .u32))), (7, .one (.ty (.int .u32))), (8, .one (.ty (.int .u32))), (21, .one (.ty (.int .i64)))], [(4, .tb (.arr 4 (.int .u32))), (5, .tb (.arr 4 (.int .u32)))]⟩ (fun s => s.1.1.length + s.1.2.2.2.1.toNat + s.1.2.2.2.2.1.toNat + s.1.2.2.2.2.2.1.toNat + s.1.2.2.2.2.2.2.1.toNat + s.1.2.2.2.2.2.2.2.1.toNat + 300) (.seq (.reg (no 1)) (.seq (.cond (.leaf) (.leaf)) (.seq (.block (.seq (.reg (no 2)) (.seq (.reg (no 1)) (.seq (.reg (no 1)) (.seq (.seq (.reg (no 2)) (.block (.seq (.reg (no 2)) (.join false ⟨[(1, .one (.ty .str)), (2, .one (.con (.ref 4 0))), (4, .one (.con (.ref 5 0))), (5, .one (.ty (.int .u32))), (6, .one (.ty (.int .u32))), (7, .one (.ty (.int .u32))), (8, .one (.ty (.int .u32))), (9, .one (.ty (.int .i64))), (10, .one (.ty (.int .u32))), (11, .one (.ty (.int .i64))), (21, .one (.ty (.int .i64)))], [(4, .tb (.arr 4 (.int .u32))), (5, .tb (.arr 4 (.int .u32)))]⟩ (.cond (.reg (no 11)) (.seq (.reg (no 2)) (.join false ⟨[(1, .one (.ty .str)), (2, .one (.con (.ref 4 0))), (4, .one (.con (.ref 5 0))), (5, .one (.ty (.int .u32))), (6, .one (.ty (.int .u32))), (7, .one (.ty (.int .u32))), (8, .one (.ty (.int .u32))), (9, .one (.ty (.int .i64))), (10, .one (.ty (.int .u32))), (11, .one (.ty (.int .i64))), (21, .one (.ty (.int .i64)))], [(4, .tb (.arr 4 (.int .u32))), (5, .tb (.arr 4 (.int .u32)))]⟩ (.cond (.reg (no 14)) (.seq (.reg (no 2)) (.join false ⟨[(1, .one (.ty .str)), (2, .one (.con (.ref 4 0))), (4, .one (.con (.ref 5 0))), (5, .one (.ty (.int .u32))), (6, .one (.ty (.int .u32))), (7, .one (.ty (.int .u32))), (8, .one (.ty (.int .u32))), (9, .one (.ty (.int .i64))), (10, .one (.ty (.int .u32))), (11, .one (.ty (.int .i64))), (21, .one (.ty (.int .i64)))], [(4, .tb (.arr 4 (.int .u32))), (5, .tb (.arr 4 (.int .u32)))]⟩ (.cond (.reg (no 11)) (.reg (no 11))))))))))))) (.seq (.reg [nn, nn, nn, nn, nn, nn, nn, nn, nn, nn, nn, ([], (FM.ann fm_impl_readWord [] [] [])), nn, nn]) (.reg [nn, nn, nn, nn, nn, nn, nn, nn, nn, nn, ([], (FM.ann fm_bits_RotateLeft32 [] [] [])), nn, nn, nn, nn, nn, nn, nn]))))))) (.reg (no 2))))))))) (.seq (.reg (no 18)) (.leaf))))
theorem v_impl_mix : fm_impl_mix.Valid P cx := FX.of_ex tok mix (fn := f39) (c := codeOf f39) (an := an_impl_mix) (ms := [fm_impl_readWord, fm_bits_RotateLeft32]) (by kernel_rfl) (by kernel_rfl) (by kernel_rfl) (by kernel_rfl) (by kernel_rfl) (by kernel_rfl)
  (fun x => by kernel_rfl) (by kernel_rfl) ⟨v_impl_readWord, v_bits_RotateLeft32, trivial⟩
-- impl.strong
noncomputable def fm_impl_strong : FM := ⟨.v (.one (.ty .str)), [], ⟨40, [.one (.ty .str)], [], fun x => m_impl_strong x.1.1⟩⟩
noncomputable def an_impl_strong : An := .seq (.reg (no 1)) (.seq (.reg [nn, ([], .keyT 4 (.arr 4 (.int .u32))), nn]) (.seq (.seq (.reg [nn, ([], (FM.ann fm_impl_padded [] [] [])), nn]) (.join false ⟨[(3, .one (.con (.ref 4 0)))], [(4, .tb (.arr 4 (.int .u32)))]⟩ (.block (.loop ⟨[(3, .one (.con (.ref 4 0))), (4, .one (.ty .str))], [(4, .tb (.arr 4 (.int .u32)))]⟩ (fun s => s.1.2.1.length + 300) (.seq (.seq (.reg (no 2)) (.cond (.leaf) (.leaf))) (.seq (.block (.reg [nn, nn, nn, ([], (FM.ann fm_impl_mix [] [] [])), nn])) (.reg (no 3)))))))) (.seq (.reg [nn, nn, ([], (FM.ann fm_impl_wordText [] [] [])), nn, nn, ([], (FM.ann fm_impl_wordText [] [] [])), nn, nn, nn, ([], (FM.ann fm_impl_wordText [] [] [])), nn, nn, nn, ([], (FM.ann fm_impl_wordText [] [] [])), nn, nn]) (.leaf))))
theorem v_impl_strong : fm_impl_strong.Valid P cx := FX.of_ex tok mix (fn := f40) (c := codeOf f40) (an := an_impl_strong) (ms := [fm_impl_padded, fm_impl_mix, fm_impl_wordText, fm_impl_wordText, fm_impl_wordText, fm_impl_wordText]) (by kernel_rfl) (by kernel_rfl) (by kernel_rfl) (by kernel_rfl) (by kernel_rfl) (by kernel_rfl)
  (fun x => by kernel_rfl) (by kernel_rfl) ⟨v_impl_padded, v_impl_mix, v_impl_wordText, v_impl_wordText, v_impl_wordText, v_impl_wordText, trivial⟩
-- impl.StrongOf
noncomputable def fm_impl_StrongOf : FM := ⟨.v (.str (.arr 16 (.int .u8))), [], ⟨19, [.one (.ty .str)], [], fun x => m_impl_StrongOf x.1.1⟩⟩
noncomputable def an_impl_StrongOf : An := .seq (.reg [([], .keyT 4 (.arr 16 (.int .u8)))]) (.seq (.reg [([], .keyT 5 (.arr 16 (.int .u8)))]) (.seq (.seq (.reg (no 3)) (.join false ⟨[(2, .one (.con (.ref 4 0))), (3, .one (.con (.ref 5 0)))], [(4, .tb (.arr 16 (.int .u8))), (5, .tb (.arr 16 (.int .u8)))]⟩ (.cond (.reg [nn, nn, ([], (FM.ann fm_impl_strong [] [] [])), nn]) (.leaf)))) (.seq (.reg (no 2)) (.leaf))))
theorem v_impl_StrongOf : fm_impl_StrongOf.Valid P cx := FX.of_ex tok mix (fn := f19) (c := codeOf f19) (an := an_impl_StrongOf) (ms := [fm_impl_strong]) (by kernel_rfl) (by kernel_rfl) (by kernel_rfl) (by kernel_rfl) (by kernel_rfl) (by kernel_rfl)
  (fun x => by kernel_rfl) (by kernel_rfl) ⟨v_impl_strong, trivial⟩
-- impl.SeedStrong
noncomputable def fm_impl_SeedStrong : FM := ⟨.v (.str (.arr 16 (.int .u8))), [], ⟨15, [.one (.ty (.int .u32)), .one (.ty .str)], [], fun x => m_impl_SeedStrong x.1.1 x.1.2.1⟩⟩
noncomputable def an_impl_SeedStrong : An := .seq (.reg [([], .keyT 4 (.arr 16 (.int .u8)))]) (.seq (.reg [nn, ([], (FM.ann fm_impl_wordText [] [] [])), nn, nn, ([], (FM.ann fm_impl_StrongOf [] [] [])), nn]) (.leaf))
theorem v_impl_SeedStrong : fm_impl_SeedStrong.Valid P cx := FX.of_ex tok mix (fn := f15) (c := codeOf f15) (an := an_impl_SeedStrong) (ms := [fm_impl_wordText, fm_impl_StrongOf]) (by kernel_rfl) (by kernel_rfl) (by kernel_rfl) (by kernel_rfl) (by kernel_rfl) (by kernel_rfl)
  (fun x => by kernel_rfl) (by kernel_rfl) ⟨v_impl_wordText, v_impl_StrongOf, trivial⟩
-- spec.PutWord
noncomputable def fm_spec_PutWord : FM := ⟨.v (.one (.ty (.list (.int .u8)))), [], ⟨37, [.one (.ty (.int .u32))], [], fun x => m_spec_PutWord x.1.1⟩⟩
noncomputable def an_spec_PutWord : An := .seq (.reg (no 1)) (.seq (.reg (no 3)) (.seq (.reg [nn, nn, nn, nn, nn, nn, nn, nn, nn, nn, nn, nn, nn, nn, ([], .key 4), nn]) (.gh [.freeze 4] .leaf)))
theorem v_spec_PutWord : fm_spec_PutWord.Valid P cx := FX.of_ex tok mix (fn := f37) (c := codeOf f37) (an := an_spec_PutWord) (ms := []) (by kernel_rfl) (by kernel_rfl) (by kernel_rfl) (by kernel_rfl) (by kernel_rfl) (by kernel_rfl)
  (fun x => by kernel_rfl) (by kernel_rfl) trivial
-- spec.PadStrong
noncomputable def fm_spec_PadStrong : FM := ⟨.v (.one (.ty (.list (.int .u8)))), [], ⟨41, [.one (.ty .str)], [], fun x => m_spec_PadStrong x.1.1⟩⟩
noncomputable def an_spec_PadStrong : An := .seq (.reg (no 1)) (.seq (.seq (.reg (no 3)) (.cond (.seq (.reg [([], .key 4), nn]) (.gh [.freeze 4] .leaf)) (.leaf))) (.seq (.reg [nn, ([], .key 5), ([], .key 6), nn, nn]) (.seq (.join false ⟨[(0, .one (.ty .str)), (3, .one (.con (.rs 5)))], [(5, .lst false (.int .u8))]⟩ (.block (.loop ⟨[(0, .one (.ty .str)), (3, .one (.con (.rs 5)))], [(5, .lst false (.int .u8))]⟩ (fun s => s.1.1.length + s.2.1.length + 300) (.seq (.seq (.reg (no 4)) (.cond (.leaf) (.leaf))) (.block (.reg [nn, ([], .key 7), nn, nn])))))) (.seq (.reg (no 4)) (.seq (.seq (.reg (no 1)) (.join false ⟨[(3, .one (.con (.rs 5)))], [(5, .lst false (.int .u8))]⟩ (.block (.loop ⟨[(3, .one (.con (.rs 5))), (4, .one (.ty (.int .i64))), (5, .one (.ty (.int .i64)))], [(5, .lst false (.int .u8))]⟩ (fun s => s.1.2.1.toNat + s.1.2.2.1.toNat + s.2.1.length + 300) (.seq (.seq (.reg (no 2)) (.cond (.leaf) (.leaf))) (.seq (.block (.seq (.reg [nn, nn, nn, nn, ([], .key 8), nn, nn]) (.reg (no 3)))) (.reg (no 3)))))))) (.seq (.reg (no 2)) (.gh [.freeze 5] .leaf)))))))
theorem v_spec_PadStrong : fm_spec_PadStrong.Valid P cx := FX.of_ex tok mix (fn := f41) (c := codeOf f41) (an := an_spec_PadStrong) (ms := []) (by kernel_rfl) (by kernel_rfl) (by kernel_rfl) (by kernel_rfl) (by kernel_rfl) (by kernel_rfl)
  (fun x => by kernel_rfl) (by kernel_rfl) trivial
-- spec.GetWord
noncomputable def fm_spec_GetWord : FM := ⟨.tup [(.one (.ty (.int .u32))), (.one (.ty .bool))], [], ⟨57, [.one (.ty (.list (.int .u8)))], [], fun x => m_spec_GetWord x.1.1⟩⟩
noncomputable def an_spec_GetWord : An := .seq (.reg (no 2)) (.seq (.seq (.reg (no 3)) (.cond (.seq (.reg (no 2)) (.leaf)) (.leaf))) (.seq (.reg (no 25)) (.leaf)))
theorem v_spec_GetWord : fm_spec_GetWord.Valid P cx := FX.of_ex tok mix (fn := f57) (c := codeOf f57) (an := an_spec_GetWord) (ms := []) (by kernel_rfl) (by kernel_rfl) (by kernel_rfl) (by kernel_rfl) (by kernel_rfl) (by kernel_rfl)
  (fun x => by kernel_rfl) (by kernel_rfl) trivial
-- spec.l04K
noncomputable def fm_spec_l04K : FM := ⟨.v (.one (.ty (.int .u32))), [], ⟨58, [.one (.ty (.int .i64))], [], fun x => m_spec_l04K x.1.1⟩⟩
noncomputable def an_spec_l04K : An := .seq (.reg (no 1)) (.seq (.reg [([], .key 4), nn]) (.seq (.reg (no 5)) (.leaf)))
theorem v_spec_l04K : fm_spec_l04K.Valid P cx := FX.of_ex tok mix (fn := f58) (c := codeOf f58) (an := an_spec_l04K) (ms := []) (by kernel_rfl) (by kernel_rfl) (by kernel_rfl) (by kernel_rfl) (by kernel_rfl) (by kernel_rfl)
  (fun x => by kernel_rfl) (by kernel_rfl) trivial
-- spec.l04S
noncomputable def fm_spec_l04S : FM := ⟨.v (.one (.ty (.int .i64))), [], ⟨59, [.one (.ty (.int .i64))], [], fun x => m_spec_l04S x.1.1⟩⟩
noncomputable def an_spec_l04S : An := .seq (.reg (no 1)) (.seq (.reg [([], .key 4), nn]) (.seq (.reg (no 10)) (.leaf)))
theorem v_spec_l04S : fm_spec_l04S.Valid P cx := FX.of_ex tok mix (fn := f59) (c := codeOf f59) (an := an_spec_l04S) (ms := []) (by kernel_rfl) (by kernel_rfl) (by kernel_rfl) (by kernel_rfl) (by kernel_rfl) (by kernel_rfl)
  (fun x => by kernel_rfl) (by kernel_rfl) trivial
-- spec.MixStrong
noncomputable def fm_spec_MixStrong : FM := ⟨.v (.str (.arr 4 (.int .u32))), [], ⟨42, [.str (.arr 4 (.int .u32)), .one (.ty .str)], [], fun x => m_spec_MixStrong x.1.1 x.1.2.1⟩⟩
noncomputable def an_spec_MixStrong : An := .seq (.reg [([], .keyT 4 (.arr 4 (.int .u32))), ([], .keyT 5 (.arr 4 (.int .u32)))]) (.seq (.seq (.reg (no 3)) (.cond (.seq (.reg (no 2)) (.leaf)) (.leaf))) (.seq (.reg (no 12)) (.seq (.seq (.reg (no 1)) (.join false ⟨[(2, .one (.con (.ref 4 0))), (4, .one (.con (.ref 5 0))), (5, .one (.ty (.int .u32))), (6, .one (.ty (.int .u32))), (7, .one (.ty (.int .u32))), (8, .one (.ty (.int .u32)))], [(4, .tb (.arr 4 (.int .u32))), (5, .tb (.arr 4 (.int .u32)))]⟩ (.block (.loop ⟨[(1, .one (.ty .str)), (2, .one (.con (.ref 4 0))), (4, .one (.con (.ref 5 0))), (5, .one (.ty (.int .u32))), (6, .one (.ty (.int .u32))), (7, .one (.ty (.int .u32))), (8, .one (.ty (.int .u32))), (9, .one (.ty (.int .i64)))], [(4, .tb (.arr 4 (.int .u32))), (5, .tb (.arr 4 (.int .u32)))]⟩ (fun s => s.1.1.length + s.1.2.2.2.1.toNat + s.1.2.2.2.2.1.toNat + s.1.2.2.2.2.2.1.toNat + s.1.2.2.2.2.2.2.1.toNat + s.1.2.2.2.2.2.2.2.1.toNat + 300) (.seq (.seq (.reg (no 2)) (.cond (.leaf) (.leaf))) (.seq (.block (.seq (.reg (no 2)) (.seq (.seq (.reg (no 2)) (.block (.seq (.reg (no 2)) (.join false ⟨[(1, .one (.ty .str)), (2, .one (.con (.ref 4 0))), (4, .one (.con (.ref 5 0))), (5, .one (.ty (.int .u32))), (6, .one (.ty (.int .u32))), (7, .one (.ty (.int .u32))), (8, .one (.ty (.int .u32))), (9, .one (.ty (.int .i64))), (10, .one (.ty (.int .u32))), (11, .one (.ty (.int .i64)))], [(4, .tb (.arr 4 (.int .u32))), (5, .tb (.arr 4 (.int .u32)))]⟩ (.cond (.seq (.reg (no 9)) (.reg (no 2))) (.seq (.reg (no 2)) (.join false ⟨[(1, .one (.ty .str)), (2, .one (.con (.ref 4 0))), (4, .one (.con (.ref 5 0))), (5, .one (.ty (.int .u32))), (6, .one (.ty (.int .u32))), (7, .one (.ty (.int .u32))), (8, .one (.ty (.int .u32))), (9, .one (.ty (.int .i64))), (10, .one (.ty (.int .u32))), (11, .one (.ty (.int .i64)))], [(4, .tb (.arr 4 (.int .u32))), (5, .tb (.arr 4 (.int .u32)))]⟩ (.cond (.seq (.reg (no 9)) (.reg (no 5))) (.seq (.reg (no 2)) (.join false ⟨[(1, .one (.ty .str)), (2, .one (.con (.ref 4 0))), (4, .one (.con (.ref 5 0))), (5, .one (.ty (.int .u32))), (6, .one (.ty (.int .u32))), (7, .one (.ty (.int .u32))), (8, .one (.ty (.int .u32))), (9, .one (.ty (.int .i64))), (10, .one (.ty (.int .u32))), (11, .one (.ty (.int .i64)))], [(4, .tb (.arr 4 (.int .u32))), (5, .tb (.arr 4 (.int .u32)))]⟩ (.cond (.seq (.reg (no 6)) (.reg (no 5))) (.seq (.reg (no 7)) (.reg (no 4)))))))))))))) (.seq (.reg [nn, nn, nn, nn, nn, nn, nn, ([], .key 6), ([], (FM.ann fm_spec_GetWord [] [] [6])), nn, nn, nn, nn, nn]) (.seq (.reg [nn, nn, nn, nn, ([], (FM.ann fm_spec_l04K [] [] [])), nn, nn, nn, nn]) (.seq (.reg [nn, ([], (FM.ann fm_spec_l04S [] [] [])), nn, nn]) (.seq (.reg (no 2)) (.seq (.reg (no 2)) (.seq (.reg (no 2)) (.reg (no 11))))))))))) (.reg (no 3)))))))) (.seq (.reg (no 18)) (.leaf)))))
theorem v_spec_MixStrong : fm_spec_MixStrong.Valid P cx := FX.of_ex tok mix (fn := f42) (c := codeOf f42) (an := an_spec_MixStrong) (ms := [fm_spec_GetWord, fm_spec_l04K, fm_spec_l04S]) (by kernel_rfl) (by kernel_rfl) (by kernel_rfl) (by kernel_rfl) (by kernel_rfl) (by kernel_rfl)
  (fun x => by kernel_rfl) (by kernel_rfl) ⟨v_spec_GetWord, v_spec_l04K, v_spec_l04S, trivial⟩
-- spec.StrongOf
noncomputable def fm_spec_StrongOf : FM := ⟨.v (.str (.arr 16 (.int .u8))), [], ⟨22, [.one (.ty .str)], [], fun x => m_spec_StrongOf x.1.1⟩⟩
noncomputable def an_spec_StrongOf : An := .seq (.reg [([], .keyT 4 (.arr 16 (.int .u8)))]) (.seq (.reg [nn, ([], .keyT 5 (.arr 16 (.int .u8))), nn]) (.seq (.reg [nn, ([], (FM.ann fm_spec_PadStrong [] [] [])), nn]) (.seq (.seq (.reg (no 3)) (.cond (.seq (.reg (no 2)) (.leaf)) (.leaf))) (.seq (.reg [nn, ([], .keyT 6 (.arr 4 (.int .u32))), nn]) (.seq (.seq (.reg (no 1)) (.join false ⟨[(2, .one (.con (.ref 4 0))), (3, .one (.con (.ref 5 0))), (5, .one (.con (.ref 6 0)))], [(4, .tb (.arr 16 (.int .u8))), (5, .tb (.arr 16 (.int .u8))), (6, .tb (.arr 4 (.int .u32)))]⟩ (.block (.loop ⟨[(2, .one (.con (.ref 4 0))), (3, .one (.con (.ref 5 0))), (4, .one (.ty (.list (.int .u8)))), (5, .one (.con (.ref 6 0))), (6, .one (.ty (.int .i64)))], [(4, .tb (.arr 16 (.int .u8))), (5, .tb (.arr 16 (.int .u8))), (6, .tb (.arr 4 (.int .u32)))]⟩ (fun s => s.1.2.2.1.length + s.1.2.2.2.2.1.toNat + 300) (.seq (.seq (.reg (no 5)) (.cond (.leaf) (.leaf))) (.seq (.block (.reg [nn, nn, nn, nn, nn, nn, nn, ([], (FM.ann fm_spec_MixStrong [] [] [])), nn])) (.reg (no 3)))))))) (.seq (.seq (.reg (no 1)) (.join false ⟨[(2, .one (.con (.ref 4 0))), (3, .one (.con (.ref 5 0)))], [(4, .tb (.arr 16 (.int .u8))), (5, .tb (.arr 16 (.int .u8)))]⟩ (.block (.loop ⟨[(2, .one (.con (.ref 4 0))), (3, .one (.con (.ref 5 0))), (5, .one (.con (.ref 6 0))), (7, .one (.ty (.int .i64)))], [(4, .tb (.arr 16 (.int .u8))), (5, .tb (.arr 16 (.int .u8))), (6, .tb (.arr 4 (.int .u32)))]⟩ (fun s => s.1.2.2.2.1.toNat + 300) (.seq (.seq (.reg (no 2)) (.cond (.leaf) (.leaf))) (.seq (.block (.seq (.reg [nn, nn, nn, ([], (FM.ann fm_spec_PutWord [] [] [])), nn]) (.seq (.reg (no 1)) (.join false ⟨[(2, .one (.con (.ref 4 0))), (3, .one (.con (.ref 5 0))), (5, .one (.con (.ref 6 0))), (7, .one (.ty (.int .i64)))], [(4, .tb (.arr 16 (.int .u8))), (5, .tb (.arr 16 (.int .u8))), (6, .tb (.arr 4 (.int .u32)))]⟩ (.block (.loop ⟨[(2, .one (.con (.ref 4 0))), (3, .one (.con (.ref 5 0))), (5, .one (.con (.ref 6 0))), (7, .one (.ty (.int .i64))), (8, .one (.ty (.list (.int .u8)))), (9, .one (.ty (.int .i64)))], [(4, .tb (.arr 16 (.int .u8))), (5, .tb (.arr 16 (.int .u8))), (6, .tb (.arr 4 (.int .u32)))]⟩ (fun s => s.1.2.2.2.1.toNat + s.1.2.2.2.2.1.length + s.1.2.2.2.2.2.1.toNat + 300) (.seq (.seq (.reg (no 2)) (.cond (.leaf) (.leaf))) (.seq (.block (.reg (no 10))) (.reg (no 3)))))))))) (.reg (no 3)))))))) (.seq (.reg (no 2)) (.leaf))))))))
theorem v_spec_StrongOf : fm_spec_StrongOf.Valid P cx := FX.of_ex tok mix (fn := f22) (c := codeOf f22) (an := an_spec_StrongOf) (ms := [fm_spec_PadStrong, fm_spec_MixStrong, fm_spec_PutWord]) (by kernel_rfl) (by kernel_rfl) (by kernel_rfl) (by kernel_rfl) (by kernel_rfl) (by kernel_rfl)
  (fun x => by kernel_rfl) (by kernel_rfl) ⟨v_spec_PadStrong, v_spec_MixStrong, v_spec_PutWord, trivial⟩
-- spec.SeedStrong
noncomputable def fm_spec_SeedStrong : FM := ⟨.v (.str (.arr 16 (.int .u8))), [], ⟨16, [.one (.ty (.int .u32)), .one (.ty .str)], [], fun x => m_spec_SeedStrong x.1.1 x.1.2.1⟩⟩
noncomputable def an_spec_SeedStrong : An := .seq (.reg [([], .keyT 4 (.arr 16 (.int .u8)))]) (.seq (.seq (.reg (no 3)) (.cond (.seq (.reg (no 2)) (.leaf)) (.leaf))) (.seq (.reg [nn, ([], (FM.ann fm_spec_PutWord [] [] [])), nn, nn, nn, ([], (FM.ann fm_spec_StrongOf [] [] [])), nn]) (.leaf)))
theorem v_spec_SeedStrong : fm_spec_SeedStrong.Valid P cx := FX.of_ex tok mix (fn := f16) (c := codeOf f16) (an := an_spec_SeedStrong) (ms := [fm_spec_PutWord, fm_spec_StrongOf]) (by kernel_rfl) (by kernel_rfl) (by kernel_rfl) (by kernel_rfl) (by kernel_rfl) (by kernel_rfl)
  (fun x => by kernel_rfl) (by kernel_rfl) ⟨v_spec_PutWord, v_spec_StrongOf, trivial⟩
-- impl.PadStrong
noncomputable def fm_impl_PadStrong : FM := ⟨.v (.one (.ty (.list (.int .u8)))), [], ⟨17, [.one (.ty .str)], [], fun x => m_impl_PadStrong x.1.1⟩⟩
noncomputable def an_impl_PadStrong : An := .seq (.reg (no 1)) (.seq (.seq (.reg (no 3)) (.cond (.seq (.reg (no 1)) (.leaf)) (.leaf))) (.seq (.reg [nn, ([], (FM.ann fm_impl_padded [] [] [])), ([], .key 4), nn]) (.gh [.freeze 4] .leaf)))
theorem v_impl_PadStrong : fm_impl_PadStrong.Valid P cx := FX.of_ex tok mix (fn := f17) (c := codeOf f17) (an := an_impl_PadStrong) (ms := [fm_impl_padded]) (by kernel_rfl) (by kernel_rfl) (by kernel_rfl) (by kernel_rfl) (by kernel_rfl) (by kernel_rfl)
  (fun x => by kernel_rfl) (by kernel_rfl) ⟨v_impl_padded, trivial⟩
-- impl.MixStrong
noncomputable def fm_impl_MixStrong : FM := ⟨.v (.str (.arr 4 (.int .u32))), [], ⟨18, [.str (.arr 4 (.int .u32)), .one (.ty .str)], [], fun x => m_impl_MixStrong x.1.1 x.1.2.1⟩⟩
noncomputable def an_impl_MixStrong : An := .seq (.reg [([], .keyT 4 (.arr 4 (.int .u32))), ([], .keyT 5 (.arr 4 (.int .u32)))]) (.seq (.seq (.reg (no 3)) (.cond (.seq (.reg (no 2)) (.leaf)) (.leaf))) (.seq (.reg [nn, nn, ([], (FM.ann fm_impl_mix [] [] [])), nn]) (.leaf)))
theorem v_impl_MixStrong : fm_impl_MixStrong.Valid P cx := FX.of_ex tok mix (fn := f18) (c := codeOf f18) (an := an_impl_MixStrong) (ms := [fm_impl_mix]) (by kernel_rfl) (by kernel_rfl) (by kernel_rfl) (by kernel_rfl) (by kernel_rfl) (by kernel_rfl)
  (fun x => by kernel_rfl) (by kernel_rfl) ⟨v_impl_mix, trivial⟩
-- impl.PutWord
noncomputable def fm_impl_PutWord : FM := ⟨.v (.one (.ty (.list (.int .u8)))), [], ⟨20, [.one (.ty (.int .u32))], [], fun x => m_impl_PutWord x.1.1⟩⟩
noncomputable def an_impl_PutWord : An := .seq (.reg (no 1)) (.seq (.reg [nn, ([], (FM.ann fm_impl_wordText [] [] [])), ([], .key 4), nn]) (.gh [.freeze 4] .leaf))
theorem v_impl_PutWord : fm_impl_PutWord.Valid P cx := FX.of_ex tok mix (fn := f20) (c := codeOf f20) (an := an_impl_PutWord) (ms := [fm_impl_wordText]) (by kernel_rfl) (by kernel_rfl) (by kernel_rfl) (by kernel_rfl) (by kernel_rfl) (by kernel_rfl)
  (fun x => by kernel_rfl) (by kernel_rfl) ⟨v_impl_wordText, trivial⟩
-- laws.at
noncomputable def fm_laws_at : FM := ⟨.v (.one (.ty (.int .i64))), [], ⟨7, [.one (.ty (.list (.int .u8))), .one (.ty (.int .i64))], [], fun x => m_laws_at x.1.1 x.1.2.1⟩⟩
noncomputable def an_laws_at : An := .seq (.reg (no 1)) (.seq (.seq (.reg (no 4)) (.cond (.seq (.reg (no 6)) (.leaf)) (.leaf))) (.seq (.reg (no 7)) (.leaf)))
theorem v_laws_at : fm_laws_at.Valid P cx := FX.of_ex tok mix (fn := f7) (c := codeOf f7) (an := an_laws_at) (ms := []) (by kernel_rfl) (by kernel_rfl) (by kernel_rfl) (by kernel_rfl) (by kernel_rfl) (by kernel_rfl)
  (fun x => by kernel_rfl) (by kernel_rfl) trivial
-- impl.within
noncomputable def fm_impl_within : FM := ⟨.v (.one (.ty .bool)), [], ⟨27, [.one (.ty (.int .i64)), .one (.ty (.int .i64)), .one (.ty (.int .i64))], [], fun x => m_impl_within x.1.1 x.1.2.1 x.1.2.2.1⟩⟩
noncomputable def an_impl_within : An := .seq (.reg (no 1)) (.seq (.join false ⟨[(6, .one (.ty .bool))], []⟩ (.reg (no 9))) (.leaf))
theorem v_impl_within : fm_impl_within.Valid P cx := FX.of_ex tok mix (fn := f27) (c := codeOf f27) (an := an_impl_within) (ms := []) (by kernel_rfl) (by kernel_rfl) (by kernel_rfl) (by kernel_rfl) (by kernel_rfl) (by kernel_rfl)
  (fun x => by kernel_rfl) (by kernel_rfl) trivial
-- impl.short
noncomputable def fm_impl_short : FM := ⟨.v (.one (.ty .str)), [], ⟨30, [.one (.ty (.int .u32)), .one (.ty .str), .one (.ty (.int .i64))], [], fun x => m_impl_short x.1.1 x.1.2.1 x.1.2.2.1⟩⟩
noncomputable def an_impl_short : An := .seq (.reg (no 1)) (.seq (.reg [nn, ([], (FM.ann fm_impl_wordText [] [] [])), nn, nn, ([], (FM.ann fm_impl_strong [] [] [])), nn, nn, nn]) (.leaf))
theorem v_impl_short : fm_impl_short.Valid P cx := FX.of_ex tok mix (fn := f30) (c := codeOf f30) (an := an_impl_short) (ms := [fm_impl_wordText, fm_impl_strong]) (by kernel_rfl) (by kernel_rfl) (by kernel_rfl) (by kernel_rfl) (by kernel_rfl) (by kernel_rfl)
  (fun x => by kernel_rfl) (by kernel_rfl) ⟨v_impl_wordText, v_impl_strong, trivial⟩
-- impl.ShortSum
noncomputable def fm_impl_ShortSum : FM := ⟨.v (.one (.ty .str)), [], ⟨21, [.one (.ty (.int .u32)), .one (.ty .str), .one (.ty (.int .i64))], [], fun x => m_impl_ShortSum x.1.1 x.1.2.1 x.1.2.2.1⟩⟩
noncomputable def an_impl_ShortSum : An := .seq (.reg (no 1)) (.seq (.seq (.join false ⟨[(0, .one (.ty (.int .u32))), (1, .one (.ty .str)), (2, .one (.ty (.int .i64))), (14, .one (.ty .bool))], []⟩ (.reg [nn, ([], (FM.ann fm_impl_within [] [] [])), nn, nn, nn, nn, nn, nn])) (.cond (.seq (.reg (no 1)) (.leaf)) (.leaf))) (.seq (.reg [nn, nn, nn, ([], (FM.ann fm_impl_short [] [] [])), nn]) (.leaf)))
theorem v_impl_ShortSum : fm_impl_ShortSum.Valid P cx := FX.of_ex tok mix (fn := f21) (c := codeOf f21) (an := an_impl_ShortSum) (ms := [fm_impl_within, fm_impl_short]) (by kernel_rfl) (by kernel_rfl) (by kernel_rfl) (by kernel_rfl) (by kernel_rfl) (by kernel_rfl)
  (fun x => by kernel_rfl) (by kernel_rfl) ⟨v_impl_within, v_impl_short, trivial⟩
-- laws.FnStrong
noncomputable def fm_laws_FnStrong : FM := ⟨.v (.one (.ty .bool)), [], ⟨4, [.one (.ty (.list (.int .u8)))], [], fun x => m_laws_FnStrong x.1.1⟩⟩
noncomputable def an_laws_FnStrong : An := .seq (.reg (no 1)) (.seq (.seq (.reg [nn, ([], (FM.ann fm_laws_big [] [] []))]) (.cond (.seq (.reg (no 1)) (.leaf)) (.leaf))) (.seq (.reg [nn, ([], (FM.ann fm_spec_DrawSeedStrong [] [] [])), nn, nn, nn, nn, nn]) (.seq (.seq (.reg (no 3)) (.cond (.seq (.reg [nn, nn, ([], (FM.ann fm_impl_SeedStrong [] [] [])), nn, nn, ([], (FM.ann fm_spec_SeedStrong [] [] [])), nn, nn]) (.leaf)) (.leaf))) (.seq (.reg [nn, ([], (FM.ann fm_impl_PadStrong [] [] [])), nn]) (.seq (.seq (.join false ⟨[(0, .one (.ty (.list (.int .u8)))), (3, .one (.ty (.int .u32))), (4, .one (.ty .str)), (5, .one (.ty (.list (.int .u8)))), (59, .one (.ty .bool))], []⟩ (.reg (no 29))) (.cond (.seq (.reg (no 1)) (.leaf)) (.leaf))) (.seq (.reg [nn, ([], .keyT 4 (.arr 4 (.int .u32))), nn]) (.seq (.seq (.reg (no 1)) (.join false ⟨[(0, .one (.ty (.list (.int .u8)))), (3, .one (.ty (.int .u32))), (4, .one (.ty .str)), (6, .one (.con (.ref 4 0)))], [(4, .tb (.arr 4 (.int .u32)))]⟩ (.block (.loop ⟨[(0, .one (.ty (.list (.int .u8)))), (3, .one (.ty (.int .u32))), (4, .one (.ty .str)), (5, .one (.ty (.list (.int .u8)))), (6, .one (.con (.ref 4 0))), (7, .one (.ty (.int .i64)))], [(4, .tb (.arr 4 (.int .u32)))]⟩ (fun s => s.1.1.length + s.1.2.1.toNat + s.1.2.2.1.length + s.1.2.2.2.1.length + s.1.2.2.2.2.2.1.toNat + 300) (.seq (.seq (.reg (no 5)) (.cond (.leaf) (.leaf))) (.seq (.block (.reg [nn, nn, nn, nn, nn, nn, nn, ([], (FM.ann fm_impl_MixStrong [] [] [])), nn])) (.reg (no 3)))))))) (.seq (.reg [nn, ([], (FM.ann fm_impl_StrongOf [] [] [])), ([], .keyT 5 (.arr 16 (.int .u8))), nn]) (.seq (.seq (.reg (no 1)) (.join true ⟨[(0, .one (.ty (.list (.int .u8)))), (3, .one (.ty (.int .u32))), (4, .one (.ty .str)), (8, .one (.ty (.ptr (.arr 16 (.int .u8)))))], []⟩ (.block (.gh [.freezeBox 5 (.arr 16 (.int .u8))] (.loop ⟨[(0, .one (.ty (.list (.int .u8)))), (3, .one (.ty (.int .u32))), (4, .one (.ty .str)), (6, .one (.con (.ref 4 0))), (8, .one (.ty (.ptr (.arr 16 (.int .u8))))), (9, .one (.ty (.int .i64)))], [(4, .tb (.arr 4 (.int .u32)))]⟩ (fun s => s.1.1.length + s.1.2.1.toNat + s.1.2.2.1.length + s.1.2.2.2.2.2.1.toNat + 300) (.seq (.seq (.reg (no 2)) (.cond (.leaf) (.leaf))) (.seq (.block (.seq (.reg [nn, nn, nn, nn, nn, nn, nn, nn, nn, nn, ([], (FM.ann fm_impl_PutWord [] [] [])), nn, nn]) (.cond (.seq (.reg (no 1)) (.leaf)) (.leaf)))) (.reg (no 3))))))))) (.seq (.reg [nn, nn, ([], (FM.ann fm_impl_SeedStrong [] [] [])), ([], .keyT 6 (.arr 16 (.int .u8))), nn]) (.seq (.reg [nn, ([], (FM.ann fm_laws_at [] [] [])), nn, nn, nn]) (.seq (.gh [.freezeBox 6 (.arr 16 (.int .u8))] (.join false ⟨[(2, .one (.ty .bool))], []⟩ (.reg [nn, nn, ([], (FM.ann fm_impl_PutWord [] [] [])), nn, nn, nn, ([], (FM.ann fm_impl_StrongOf [] [] [])), nn, nn, nn, nn, nn, ([], (FM.ann fm_impl_ShortSum [] [] [])), nn, nn, nn, nn, nn, nn, nn, nn, ([], (FM.ann fm_spec_StrongOf [] [] [])), nn, nn, nn]))) (.leaf)))))))))))))
theorem v_laws_FnStrong : fm_laws_FnStrong.Valid P cx := FX.of_ex tok mix (fn := f4) (c := codeOf f4) (an := an_laws_FnStrong) (ms := [fm_laws_big, fm_spec_DrawSeedStrong, fm_impl_SeedStrong, fm_spec_SeedStrong, fm_impl_PadStrong, fm_impl_MixStrong, fm_impl_StrongOf, fm_impl_PutWord, fm_impl_SeedStrong, fm_laws_at, fm_impl_PutWord, fm_impl_StrongOf, fm_impl_ShortSum, fm_spec_StrongOf]) (by kernel_rfl) (by kernel_rfl) (by kernel_rfl) (by kernel_rfl) (by kernel_rfl) (by kernel_rfl)
  (fun x => by kernel_rfl) (by kernel_rfl) ⟨v_laws_big, v_spec_DrawSeedStrong, v_impl_SeedStrong, v_spec_SeedStrong, v_impl_PadStrong, v_impl_MixStrong, v_impl_StrongOf, v_impl_PutWord, v_impl_SeedStrong, v_laws_at, v_impl_PutWord, v_impl_StrongOf, v_impl_ShortSum, v_spec_StrongOf, trivial⟩
end Go.AM.YtpngpkdoolgelaaDoor
