/- The numbers and bodies of functions of the library. -/
import Derived.Test.YtkjbhlhebjfklaaAmE
import Derived.Test.YtkjbhlhebjfklaaProg
import Derived.KernelRfl
set_option maxRecDepth 100000
namespace Go.AM.Ytkjbhlhebjfklaa
open Go Go.Proofs Go.Shelf
def lays150_ren : Go.Shelf.Ren := ⟨fun | 150 => 13 | 153 => 23 | 152 => 40 | 226 => 41 | 227 => 42 | 228 => 43 | 137 => 17 | 119 => 49 | 224 => 50 | 225 => 51 | 217 => 30 | 266 => 46 | n => n, fun | 9 => 9 | 4 => 4 | 3 => 3 | 5 => 5 | 21 => 21 | 117 => 74 | 116 => 73 | 0 => 0 | 46 => 81 | 124 => 82 | 20 => 20 | n => n, fun | n => n⟩
theorem lays150 : Go.Proofs.Lays.n150 Go.Proofs.Try.prog lays150_ren where
  mixed := by kernel_rfl
  f119 := Go.Proofs.Try.func49.trans (congrArg some (by kernel_rfl))
  f137 := Go.Proofs.Try.func17.trans (congrArg some (by kernel_rfl))
  f150 := Go.Proofs.Try.func13.trans (congrArg some (by kernel_rfl))
  f152 := Go.Proofs.Try.func40.trans (congrArg some (by kernel_rfl))
  f153 := Go.Proofs.Try.func23.trans (congrArg some (by kernel_rfl))
  f217 := Go.Proofs.Try.func30.trans (congrArg some (by kernel_rfl))
  f224 := Go.Proofs.Try.func50.trans (congrArg some (by kernel_rfl))
  f225 := Go.Proofs.Try.func51.trans (congrArg some (by kernel_rfl))
  f226 := Go.Proofs.Try.func41.trans (congrArg some (by kernel_rfl))
  f227 := Go.Proofs.Try.func42.trans (congrArg some (by kernel_rfl))
  f228 := Go.Proofs.Try.func43.trans (congrArg some (by kernel_rfl))
  f266 := Go.Proofs.Try.func46.trans (congrArg some (by kernel_rfl))
  t0 := Go.Proofs.Try.underlying0
  a0 := Go.Proofs.Try.isAgg0
  z0 := Go.Proofs.Try.sizeOf0
  v0 := Go.Proofs.Try.zeroValue0
  t3 := Go.Proofs.Try.underlying3
  a3 := Go.Proofs.Try.isAgg3
  z3 := Go.Proofs.Try.sizeOf3
  v3 := Go.Proofs.Try.zeroValue3
  t4 := Go.Proofs.Try.underlying4
  a4 := Go.Proofs.Try.isAgg4
  z4 := Go.Proofs.Try.sizeOf4
  v4 := Go.Proofs.Try.zeroValue4
  t5 := Go.Proofs.Try.underlying5
  a5 := Go.Proofs.Try.isAgg5
  z5 := Go.Proofs.Try.sizeOf5
  v5 := Go.Proofs.Try.zeroValue5
  t9 := Go.Proofs.Try.underlying9
  a9 := Go.Proofs.Try.isAgg9
  z9 := Go.Proofs.Try.sizeOf9
  v9 := Go.Proofs.Try.zeroValue9
  t21 := Go.Proofs.Try.underlying21
  a21 := Go.Proofs.Try.isAgg21
  z21 := Go.Proofs.Try.sizeOf21
  v21 := Go.Proofs.Try.zeroValue21
  t46 := Go.Proofs.Try.underlying81
  a46 := Go.Proofs.Try.isAgg81
  z46 := Go.Proofs.Try.sizeOf81
  v46 := Go.Proofs.Try.zeroValue81
  t116 := Go.Proofs.Try.underlying73
  a116 := Go.Proofs.Try.isAgg73
  z116 := Go.Proofs.Try.sizeOf73
  t117 := Go.Proofs.Try.underlying74
  a117 := Go.Proofs.Try.isAgg74
  z117 := Go.Proofs.Try.sizeOf74
  v117 := Go.Proofs.Try.zeroValue74
  t124 := Go.Proofs.Try.underlying82
  a124 := Go.Proofs.Try.isAgg82
  z124 := Go.Proofs.Try.sizeOf82
  v124 := Go.Proofs.Try.zeroValue82
def lays169_ren : Go.Shelf.Ren := ⟨fun | 169 => 19 | n => n, fun | 70 => 32 | 9 => 9 | 0 => 0 | 72 => 34 | 37 => 23 | 127 => 55 | 3 => 3 | 5 => 5 | 20 => 20 | n => n, fun | n => n⟩
theorem lays169 : Go.Proofs.Lays.n169 Go.Proofs.Try.prog lays169_ren where
  mixed := by kernel_rfl
  f169 := Go.Proofs.Try.func19.trans (congrArg some (by kernel_rfl))
  t0 := Go.Proofs.Try.underlying0
  a0 := Go.Proofs.Try.isAgg0
  z0 := Go.Proofs.Try.sizeOf0
  v0 := Go.Proofs.Try.zeroValue0
  t3 := Go.Proofs.Try.underlying3
  a3 := Go.Proofs.Try.isAgg3
  z3 := Go.Proofs.Try.sizeOf3
  v3 := Go.Proofs.Try.zeroValue3
  t9 := Go.Proofs.Try.underlying9
  a9 := Go.Proofs.Try.isAgg9
  z9 := Go.Proofs.Try.sizeOf9
  v9 := Go.Proofs.Try.zeroValue9
  t37 := Go.Proofs.Try.underlying23
  a37 := Go.Proofs.Try.isAgg23
  z37 := Go.Proofs.Try.sizeOf23
  v37 := Go.Proofs.Try.zeroValue23
  t70 := Go.Proofs.Try.underlying32
  a70 := Go.Proofs.Try.isAgg32
  z70 := Go.Proofs.Try.sizeOf32
  v70 := Go.Proofs.Try.zeroValue32
  t72 := Go.Proofs.Try.underlying34
  a72 := Go.Proofs.Try.isAgg34
  z72 := Go.Proofs.Try.sizeOf34
  v72 := Go.Proofs.Try.zeroValue34
  t127 := Go.Proofs.Try.underlying55
  a127 := Go.Proofs.Try.isAgg55
  z127 := Go.Proofs.Try.sizeOf55
  v127 := Go.Proofs.Try.zeroValue55
theorem extra169 : Go.Proofs.Builder.Extra Go.Proofs.Try.prog lays169_ren where
  sizeBuilder := by kernel_rfl
  liesBuilder := by kernel_rfl
  t5 := Go.Proofs.Try.underlying5
  a5 := Go.Proofs.Try.isAgg5
  z5 := Go.Proofs.Try.sizeOf5
  v5 := Go.Proofs.Try.zeroValue5
  infoByte := by kernel_rfl
  cellsByte := by kernel_rfl
  sizeByte := by kernel_rfl
  neB5 := by decide
def lays240_ren : Go.Shelf.Ren := ⟨fun | 240 => 31 | 276 => 47 | n => n, fun | 70 => 32 | 0 => 0 | 72 => 34 | 4 => 4 | 164 => 77 | 37 => 23 | 5 => 5 | 9 => 9 | 20 => 20 | n => n, fun | n => n⟩
theorem lays240 : Go.Proofs.Lays.n240 Go.Proofs.Try.prog lays240_ren where
  mixed := by kernel_rfl
  f240 := Go.Proofs.Try.func31.trans (congrArg some (by kernel_rfl))
  f276 := Go.Proofs.Try.func47.trans (congrArg some (by kernel_rfl))
  t0 := Go.Proofs.Try.underlying0
  a0 := Go.Proofs.Try.isAgg0
  z0 := Go.Proofs.Try.sizeOf0
  v0 := Go.Proofs.Try.zeroValue0
  t4 := Go.Proofs.Try.underlying4
  a4 := Go.Proofs.Try.isAgg4
  z4 := Go.Proofs.Try.sizeOf4
  v4 := Go.Proofs.Try.zeroValue4
  t9 := Go.Proofs.Try.underlying9
  a9 := Go.Proofs.Try.isAgg9
  z9 := Go.Proofs.Try.sizeOf9
  v9 := Go.Proofs.Try.zeroValue9
  t20 := Go.Proofs.Try.underlying20
  a20 := Go.Proofs.Try.isAgg20
  z20 := Go.Proofs.Try.sizeOf20
  v20 := Go.Proofs.Try.zeroValue20
  t70 := Go.Proofs.Try.underlying32
  a70 := Go.Proofs.Try.isAgg32
  z70 := Go.Proofs.Try.sizeOf32
  v70 := Go.Proofs.Try.zeroValue32
  t72 := Go.Proofs.Try.underlying34
  a72 := Go.Proofs.Try.isAgg34
  z72 := Go.Proofs.Try.sizeOf34
  v72 := Go.Proofs.Try.zeroValue34
  t164 := Go.Proofs.Try.underlying77
  a164 := Go.Proofs.Try.isAgg77
  z164 := Go.Proofs.Try.sizeOf77
  v164 := Go.Proofs.Try.zeroValue77
theorem extra240 : Go.Proofs.Builder.Extra Go.Proofs.Try.prog lays240_ren where
  sizeBuilder := by kernel_rfl
  liesBuilder := by kernel_rfl
  t5 := Go.Proofs.Try.underlying5
  a5 := Go.Proofs.Try.isAgg5
  z5 := Go.Proofs.Try.sizeOf5
  v5 := Go.Proofs.Try.zeroValue5
  infoByte := by kernel_rfl
  cellsByte := by kernel_rfl
  sizeByte := by kernel_rfl
  neB5 := by decide
end Go.AM.Ytkjbhlhebjfklaa
