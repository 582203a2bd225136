/- The numbers and bodies of functions of the library. -/
import Derived.Test.YtkjbhlhebjfklaaDoorAmE
import Derived.Test.YtkjbhlhebjfklaaDoorProg
import Derived.KernelRfl
set_option maxRecDepth 100000
namespace Go.AM.YtkjbhlhebjfklaaDoor
open Go Go.Proofs Go.Shelf
def lays156_ren : Go.Shelf.Ren := ⟨fun | 156 => 42 | 165 => 70 | 166 => 71 | 169 => 72 | 240 => 86 | 241 => 87 | 276 => 97 | 277 => 98 | n => n, fun | 31 => 29 | 9 => 9 | 3 => 3 | 4 => 4 | 0 => 0 | 20 => 20 | 72 => 109 | 76 => 113 | 70 => 107 | 37 => 22 | 75 => 112 | 127 => 128 | 164 => 137 | 5 => 5 | 80 => 115 | n => n, fun | n => n⟩
theorem lays156 : Go.Proofs.Lays.n156 Go.Proofs.Tryd.prog lays156_ren where
  mixed := by kernel_rfl
  f156 := Go.Proofs.Tryd.func42.trans (congrArg some (by kernel_rfl))
  f165 := Go.Proofs.Tryd.func70.trans (congrArg some (by kernel_rfl))
  f166 := Go.Proofs.Tryd.func71.trans (congrArg some (by kernel_rfl))
  f169 := Go.Proofs.Tryd.func72.trans (congrArg some (by kernel_rfl))
  f240 := Go.Proofs.Tryd.func86.trans (congrArg some (by kernel_rfl))
  f241 := Go.Proofs.Tryd.func87.trans (congrArg some (by kernel_rfl))
  f276 := Go.Proofs.Tryd.func97.trans (congrArg some (by kernel_rfl))
  f277 := Go.Proofs.Tryd.func98.trans (congrArg some (by kernel_rfl))
  t0 := Go.Proofs.Tryd.underlying0
  a0 := Go.Proofs.Tryd.isAgg0
  z0 := Go.Proofs.Tryd.sizeOf0
  v0 := Go.Proofs.Tryd.zeroValue0
  t3 := Go.Proofs.Tryd.underlying3
  a3 := Go.Proofs.Tryd.isAgg3
  z3 := Go.Proofs.Tryd.sizeOf3
  v3 := Go.Proofs.Tryd.zeroValue3
  t4 := Go.Proofs.Tryd.underlying4
  a4 := Go.Proofs.Tryd.isAgg4
  z4 := Go.Proofs.Tryd.sizeOf4
  v4 := Go.Proofs.Tryd.zeroValue4
  t9 := Go.Proofs.Tryd.underlying9
  a9 := Go.Proofs.Tryd.isAgg9
  z9 := Go.Proofs.Tryd.sizeOf9
  v9 := Go.Proofs.Tryd.zeroValue9
  t20 := Go.Proofs.Tryd.underlying20
  a20 := Go.Proofs.Tryd.isAgg20
  z20 := Go.Proofs.Tryd.sizeOf20
  v20 := Go.Proofs.Tryd.zeroValue20
  t31 := Go.Proofs.Tryd.underlying29
  a31 := Go.Proofs.Tryd.isAgg29
  z31 := Go.Proofs.Tryd.sizeOf29
  v31 := Go.Proofs.Tryd.zeroValue29
  t37 := Go.Proofs.Tryd.underlying22
  a37 := Go.Proofs.Tryd.isAgg22
  z37 := Go.Proofs.Tryd.sizeOf22
  v37 := Go.Proofs.Tryd.zeroValue22
  t70 := Go.Proofs.Tryd.underlying107
  a70 := Go.Proofs.Tryd.isAgg107
  z70 := Go.Proofs.Tryd.sizeOf107
  v70 := Go.Proofs.Tryd.zeroValue107
  t72 := Go.Proofs.Tryd.underlying109
  a72 := Go.Proofs.Tryd.isAgg109
  z72 := Go.Proofs.Tryd.sizeOf109
  v72 := Go.Proofs.Tryd.zeroValue109
  t75 := Go.Proofs.Tryd.underlying112
  a75 := Go.Proofs.Tryd.isAgg112
  z75 := Go.Proofs.Tryd.sizeOf112
  v75 := Go.Proofs.Tryd.zeroValue112
  t76 := Go.Proofs.Tryd.underlying113
  a76 := Go.Proofs.Tryd.isAgg113
  z76 := Go.Proofs.Tryd.sizeOf113
  v76 := Go.Proofs.Tryd.zeroValue113
  t127 := Go.Proofs.Tryd.underlying128
  a127 := Go.Proofs.Tryd.isAgg128
  z127 := Go.Proofs.Tryd.sizeOf128
  v127 := Go.Proofs.Tryd.zeroValue128
  t164 := Go.Proofs.Tryd.underlying137
  a164 := Go.Proofs.Tryd.isAgg137
  z164 := Go.Proofs.Tryd.sizeOf137
  v164 := Go.Proofs.Tryd.zeroValue137
theorem extra156 : Go.Proofs.Builder.Extra Go.Proofs.Tryd.prog lays156_ren where
  sizeBuilder := by kernel_rfl
  liesBuilder := by kernel_rfl
  t5 := Go.Proofs.Tryd.underlying5
  a5 := Go.Proofs.Tryd.isAgg5
  z5 := Go.Proofs.Tryd.sizeOf5
  v5 := Go.Proofs.Tryd.zeroValue5
  infoByte := by kernel_rfl
  cellsByte := by kernel_rfl
  sizeByte := by kernel_rfl
  neB5 := by decide
end Go.AM.YtkjbhlhebjfklaaDoor
