/- The numbers and bodies of functions of the library. -/
import Derived.Test.YtibidgfjopmgnaaDoorAmE
import Derived.Test.YtibidgfjopmgnaaDoorProg
import Derived.KernelRfl
set_option maxRecDepth 100000
namespace Go.AM.YtibidgfjopmgnaaDoor
open Go Go.Proofs Go.Shelf
def lays156_ren : Go.Shelf.Ren := ⟨fun | 156 => 111 | 165 => 136 | 166 => 82 | 169 => 88 | 240 => 121 | 241 => 150 | 276 => 142 | 277 => 159 | n => n, fun | 31 => 47 | 9 => 9 | 3 => 3 | 4 => 4 | 0 => 0 | 20 => 20 | 72 => 94 | 76 => 97 | 70 => 92 | 37 => 51 | 75 => 96 | 127 => 127 | 164 => 137 | 5 => 5 | 80 => 100 | n => n, fun | n => n⟩
theorem lays156 : Go.Proofs.Lays.n156 Go.Proofs.Tryd.prog lays156_ren where
  mixed := by kernel_rfl
  f156 := Go.Proofs.Tryd.func111.trans (congrArg some (by kernel_rfl))
  f165 := Go.Proofs.Tryd.func136.trans (congrArg some (by kernel_rfl))
  f166 := Go.Proofs.Tryd.func82.trans (congrArg some (by kernel_rfl))
  f169 := Go.Proofs.Tryd.func88.trans (congrArg some (by kernel_rfl))
  f240 := Go.Proofs.Tryd.func121.trans (congrArg some (by kernel_rfl))
  f241 := Go.Proofs.Tryd.func150.trans (congrArg some (by kernel_rfl))
  f276 := Go.Proofs.Tryd.func142.trans (congrArg some (by kernel_rfl))
  f277 := Go.Proofs.Tryd.func159.trans (congrArg some (by kernel_rfl))
  t0 := Go.Proofs.Tryd.underlying0
  a0 := Go.Proofs.Tryd.isAgg0
  z0 := Go.Proofs.Tryd.sizeOf0
  v0 := Go.Proofs.Tryd.zeroValue0
  t3 := Go.Proofs.Tryd.underlying3
  a3 := Go.Proofs.Tryd.isAgg3
  z3 := Go.Proofs.Tryd.sizeOf3
  v3 := Go.Proofs.Tryd.zeroValue3
  t4 := Go.Proofs.Tryd.underlying4
  a4 := Go.Proofs.Tryd.isAgg4
  z4 := Go.Proofs.Tryd.sizeOf4
  v4 := Go.Proofs.Tryd.zeroValue4
  t9 := Go.Proofs.Tryd.underlying9
  a9 := Go.Proofs.Tryd.isAgg9
  z9 := Go.Proofs.Tryd.sizeOf9
  v9 := Go.Proofs.Tryd.zeroValue9
  t20 := Go.Proofs.Tryd.underlying20
  a20 := Go.Proofs.Tryd.isAgg20
  z20 := Go.Proofs.Tryd.sizeOf20
  v20 := Go.Proofs.Tryd.zeroValue20
  t31 := Go.Proofs.Tryd.underlying47
  a31 := Go.Proofs.Tryd.isAgg47
  z31 := Go.Proofs.Tryd.sizeOf47
  v31 := Go.Proofs.Tryd.zeroValue47
  t37 := Go.Proofs.Tryd.underlying51
  a37 := Go.Proofs.Tryd.isAgg51
  z37 := Go.Proofs.Tryd.sizeOf51
  v37 := Go.Proofs.Tryd.zeroValue51
  t70 := Go.Proofs.Tryd.underlying92
  a70 := Go.Proofs.Tryd.isAgg92
  z70 := Go.Proofs.Tryd.sizeOf92
  v70 := Go.Proofs.Tryd.zeroValue92
  t72 := Go.Proofs.Tryd.underlying94
  a72 := Go.Proofs.Tryd.isAgg94
  z72 := Go.Proofs.Tryd.sizeOf94
  v72 := Go.Proofs.Tryd.zeroValue94
  t75 := Go.Proofs.Tryd.underlying96
  a75 := Go.Proofs.Tryd.isAgg96
  z75 := Go.Proofs.Tryd.sizeOf96
  v75 := Go.Proofs.Tryd.zeroValue96
  t76 := Go.Proofs.Tryd.underlying97
  a76 := Go.Proofs.Tryd.isAgg97
  z76 := Go.Proofs.Tryd.sizeOf97
  v76 := Go.Proofs.Tryd.zeroValue97
  t127 := Go.Proofs.Tryd.underlying127
  a127 := Go.Proofs.Tryd.isAgg127
  z127 := Go.Proofs.Tryd.sizeOf127
  v127 := Go.Proofs.Tryd.zeroValue127
  t164 := Go.Proofs.Tryd.underlying137
  a164 := Go.Proofs.Tryd.isAgg137
  z164 := Go.Proofs.Tryd.sizeOf137
  v164 := Go.Proofs.Tryd.zeroValue137
theorem extra156 : Go.Proofs.Builder.Extra Go.Proofs.Tryd.prog lays156_ren where
  sizeBuilder := by kernel_rfl
  liesBuilder := by kernel_rfl
  t5 := Go.Proofs.Tryd.underlying5
  a5 := Go.Proofs.Tryd.isAgg5
  z5 := Go.Proofs.Tryd.sizeOf5
  v5 := Go.Proofs.Tryd.zeroValue5
  infoByte := by kernel_rfl
  cellsByte := by kernel_rfl
  sizeByte := by kernel_rfl
  neB5 := by decide
def lays169_ren : Go.Shelf.Ren := ⟨fun | 169 => 88 | n => n, fun | 70 => 92 | 9 => 9 | 0 => 0 | 72 => 94 | 37 => 51 | 127 => 127 | 3 => 3 | 5 => 5 | n => n, fun | n => n⟩
theorem lays169 : Go.Proofs.Lays.n169 Go.Proofs.Tryd.prog lays169_ren where
  mixed := by kernel_rfl
  f169 := Go.Proofs.Tryd.func88.trans (congrArg some (by kernel_rfl))
  t0 := Go.Proofs.Tryd.underlying0
  a0 := Go.Proofs.Tryd.isAgg0
  z0 := Go.Proofs.Tryd.sizeOf0
  v0 := Go.Proofs.Tryd.zeroValue0
  t3 := Go.Proofs.Tryd.underlying3
  a3 := Go.Proofs.Tryd.isAgg3
  z3 := Go.Proofs.Tryd.sizeOf3
  v3 := Go.Proofs.Tryd.zeroValue3
  t9 := Go.Proofs.Tryd.underlying9
  a9 := Go.Proofs.Tryd.isAgg9
  z9 := Go.Proofs.Tryd.sizeOf9
  v9 := Go.Proofs.Tryd.zeroValue9
  t37 := Go.Proofs.Tryd.underlying51
  a37 := Go.Proofs.Tryd.isAgg51
  z37 := Go.Proofs.Tryd.sizeOf51
  v37 := Go.Proofs.Tryd.zeroValue51
  t70 := Go.Proofs.Tryd.underlying92
  a70 := Go.Proofs.Tryd.isAgg92
  z70 := Go.Proofs.Tryd.sizeOf92
  v70 := Go.Proofs.Tryd.zeroValue92
  t72 := Go.Proofs.Tryd.underlying94
  a72 := Go.Proofs.Tryd.isAgg94
  z72 := Go.Proofs.Tryd.sizeOf94
  v72 := Go.Proofs.Tryd.zeroValue94
  t127 := Go.Proofs.Tryd.underlying127
  a127 := Go.Proofs.Tryd.isAgg127
  z127 := Go.Proofs.Tryd.sizeOf127
  v127 := Go.Proofs.Tryd.zeroValue127
theorem extra169 : Go.Proofs.Builder.Extra Go.Proofs.Tryd.prog lays169_ren where
  sizeBuilder := by kernel_rfl
  liesBuilder := by kernel_rfl
  t5 := Go.Proofs.Tryd.underlying5
  a5 := Go.Proofs.Tryd.isAgg5
  z5 := Go.Proofs.Tryd.sizeOf5
  v5 := Go.Proofs.Tryd.zeroValue5
  infoByte := by kernel_rfl
  cellsByte := by kernel_rfl
  sizeByte := by kernel_rfl
  neB5 := by decide
end Go.AM.YtibidgfjopmgnaaDoor
