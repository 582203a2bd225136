/- The numbers and bodies of functions of the library. -/
import Derived.Test.YtibidgfjopmgnaaGreatDoorAmE
import Derived.Test.YtibidgfjopmgnaaGreatDoorProg
import Derived.KernelRfl
set_option maxRecDepth 100000
namespace Go.AM.YtibidgfjopmgnaaGreatDoor
open Go Go.Proofs Go.Shelf
def lays156_ren : Go.Shelf.Ren := ⟨fun | 156 => 87 | 165 => 135 | 166 => 136 | 169 => 137 | 240 => 171 | 241 => 172 | 276 => 195 | 277 => 196 | n => n, fun | 31 => 113 | 9 => 9 | 3 => 3 | 4 => 4 | 0 => 0 | 20 => 20 | 72 => 150 | 76 => 154 | 70 => 148 | 37 => 22 | 75 => 153 | 127 => 176 | 164 => 198 | 5 => 5 | 80 => 156 | n => n, fun | n => n⟩
theorem lays156 : Go.Proofs.Lays.n156 Go.Proofs.Tryz.prog lays156_ren where
  mixed := by kernel_rfl
  f156 := Go.Proofs.Tryz.func87.trans (congrArg some (by kernel_rfl))
  f165 := Go.Proofs.Tryz.func135.trans (congrArg some (by kernel_rfl))
  f166 := Go.Proofs.Tryz.func136.trans (congrArg some (by kernel_rfl))
  f169 := Go.Proofs.Tryz.func137.trans (congrArg some (by kernel_rfl))
  f240 := Go.Proofs.Tryz.func171.trans (congrArg some (by kernel_rfl))
  f241 := Go.Proofs.Tryz.func172.trans (congrArg some (by kernel_rfl))
  f276 := Go.Proofs.Tryz.func195.trans (congrArg some (by kernel_rfl))
  f277 := Go.Proofs.Tryz.func196.trans (congrArg some (by kernel_rfl))
  t0 := Go.Proofs.Tryz.underlying0
  a0 := Go.Proofs.Tryz.isAgg0
  z0 := Go.Proofs.Tryz.sizeOf0
  v0 := Go.Proofs.Tryz.zeroValue0
  t3 := Go.Proofs.Tryz.underlying3
  a3 := Go.Proofs.Tryz.isAgg3
  z3 := Go.Proofs.Tryz.sizeOf3
  v3 := Go.Proofs.Tryz.zeroValue3
  t4 := Go.Proofs.Tryz.underlying4
  a4 := Go.Proofs.Tryz.isAgg4
  z4 := Go.Proofs.Tryz.sizeOf4
  v4 := Go.Proofs.Tryz.zeroValue4
  t9 := Go.Proofs.Tryz.underlying9
  a9 := Go.Proofs.Tryz.isAgg9
  z9 := Go.Proofs.Tryz.sizeOf9
  v9 := Go.Proofs.Tryz.zeroValue9
  t20 := Go.Proofs.Tryz.underlying20
  a20 := Go.Proofs.Tryz.isAgg20
  z20 := Go.Proofs.Tryz.sizeOf20
  v20 := Go.Proofs.Tryz.zeroValue20
  t31 := Go.Proofs.Tryz.underlying113
  a31 := Go.Proofs.Tryz.isAgg113
  z31 := Go.Proofs.Tryz.sizeOf113
  v31 := Go.Proofs.Tryz.zeroValue113
  t37 := Go.Proofs.Tryz.underlying22
  a37 := Go.Proofs.Tryz.isAgg22
  z37 := Go.Proofs.Tryz.sizeOf22
  v37 := Go.Proofs.Tryz.zeroValue22
  t70 := Go.Proofs.Tryz.underlying148
  a70 := Go.Proofs.Tryz.isAgg148
  z70 := Go.Proofs.Tryz.sizeOf148
  v70 := Go.Proofs.Tryz.zeroValue148
  t72 := Go.Proofs.Tryz.underlying150
  a72 := Go.Proofs.Tryz.isAgg150
  z72 := Go.Proofs.Tryz.sizeOf150
  v72 := Go.Proofs.Tryz.zeroValue150
  t75 := Go.Proofs.Tryz.underlying153
  a75 := Go.Proofs.Tryz.isAgg153
  z75 := Go.Proofs.Tryz.sizeOf153
  v75 := Go.Proofs.Tryz.zeroValue153
  t76 := Go.Proofs.Tryz.underlying154
  a76 := Go.Proofs.Tryz.isAgg154
  z76 := Go.Proofs.Tryz.sizeOf154
  v76 := Go.Proofs.Tryz.zeroValue154
  t127 := Go.Proofs.Tryz.underlying176
  a127 := Go.Proofs.Tryz.isAgg176
  z127 := Go.Proofs.Tryz.sizeOf176
  v127 := Go.Proofs.Tryz.zeroValue176
  t164 := Go.Proofs.Tryz.underlying198
  a164 := Go.Proofs.Tryz.isAgg198
  z164 := Go.Proofs.Tryz.sizeOf198
  v164 := Go.Proofs.Tryz.zeroValue198
theorem extra156 : Go.Proofs.Builder.Extra Go.Proofs.Tryz.prog lays156_ren where
  sizeBuilder := by kernel_rfl
  liesBuilder := by kernel_rfl
  t5 := Go.Proofs.Tryz.underlying5
  a5 := Go.Proofs.Tryz.isAgg5
  z5 := Go.Proofs.Tryz.sizeOf5
  v5 := Go.Proofs.Tryz.zeroValue5
  infoByte := by kernel_rfl
  cellsByte := by kernel_rfl
  sizeByte := by kernel_rfl
  neB5 := by decide
end Go.AM.YtibidgfjopmgnaaGreatDoor
