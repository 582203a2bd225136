/- The numbers and bodies of functions of the library. -/
import Derived.Test.YtkbaoeklchdioaaDoorAmE
import Derived.Test.YtkbaoeklchdioaaDoorProg
import Derived.KernelRfl
set_option maxRecDepth 100000
namespace Go.AM.YtkbaoeklchdioaaDoor
open Go Go.Proofs Go.Shelf
def lays105_ren : Go.Shelf.Ren := ⟨fun | 105 => 105 | 212 => 117 | 99 => 118 | 165 => 93 | 166 => 86 | 170 => 119 | 169 => 87 | 263 => 127 | 264 => 128 | 206 => 126 | 240 => 107 | 241 => 109 | 276 => 120 | 277 => 121 | n => n, fun | 9 => 9 | 3 => 3 | 4 => 4 | 20 => 20 | 0 => 0 | 46 => 139 | 109 => 141 | 5 => 5 | 72 => 114 | 76 => 117 | 51 => 150 | 146 => 151 | 53 => 153 | 148 => 154 | 70 => 112 | 37 => 36 | 75 => 116 | 127 => 134 | 164 => 144 | 80 => 119 | n => n, fun | n => n⟩
theorem lays105 : Go.Proofs.Lays.n105 Go.Proofs.Tryd.prog lays105_ren where
  mixed := by kernel_rfl
  f99 := Go.Proofs.Tryd.func118.trans (congrArg some (by kernel_rfl))
  f105 := Go.Proofs.Tryd.func105.trans (congrArg some (by kernel_rfl))
  f165 := Go.Proofs.Tryd.func93.trans (congrArg some (by kernel_rfl))
  f166 := Go.Proofs.Tryd.func86.trans (congrArg some (by kernel_rfl))
  f169 := Go.Proofs.Tryd.func87.trans (congrArg some (by kernel_rfl))
  f170 := Go.Proofs.Tryd.func119.trans (congrArg some (by kernel_rfl))
  f206 := Go.Proofs.Tryd.func126.trans (congrArg some (by kernel_rfl))
  f212 := Go.Proofs.Tryd.func117.trans (congrArg some (by kernel_rfl))
  f240 := Go.Proofs.Tryd.func107.trans (congrArg some (by kernel_rfl))
  f241 := Go.Proofs.Tryd.func109.trans (congrArg some (by kernel_rfl))
  f263 := Go.Proofs.Tryd.func127.trans (congrArg some (by kernel_rfl))
  f264 := Go.Proofs.Tryd.func128.trans (congrArg some (by kernel_rfl))
  f276 := Go.Proofs.Tryd.func120.trans (congrArg some (by kernel_rfl))
  f277 := Go.Proofs.Tryd.func121.trans (congrArg some (by kernel_rfl))
  t0 := Go.Proofs.Tryd.underlying0
  a0 := Go.Proofs.Tryd.isAgg0
  z0 := Go.Proofs.Tryd.sizeOf0
  v0 := Go.Proofs.Tryd.zeroValue0
  t3 := Go.Proofs.Tryd.underlying3
  a3 := Go.Proofs.Tryd.isAgg3
  z3 := Go.Proofs.Tryd.sizeOf3
  v3 := Go.Proofs.Tryd.zeroValue3
  t4 := Go.Proofs.Tryd.underlying4
  a4 := Go.Proofs.Tryd.isAgg4
  z4 := Go.Proofs.Tryd.sizeOf4
  v4 := Go.Proofs.Tryd.zeroValue4
  t5 := Go.Proofs.Tryd.underlying5
  a5 := Go.Proofs.Tryd.isAgg5
  z5 := Go.Proofs.Tryd.sizeOf5
  v5 := Go.Proofs.Tryd.zeroValue5
  t9 := Go.Proofs.Tryd.underlying9
  a9 := Go.Proofs.Tryd.isAgg9
  z9 := Go.Proofs.Tryd.sizeOf9
  v9 := Go.Proofs.Tryd.zeroValue9
  t20 := Go.Proofs.Tryd.underlying20
  a20 := Go.Proofs.Tryd.isAgg20
  z20 := Go.Proofs.Tryd.sizeOf20
  v20 := Go.Proofs.Tryd.zeroValue20
  t37 := Go.Proofs.Tryd.underlying36
  a37 := Go.Proofs.Tryd.isAgg36
  z37 := Go.Proofs.Tryd.sizeOf36
  v37 := Go.Proofs.Tryd.zeroValue36
  t46 := Go.Proofs.Tryd.underlying139
  a46 := Go.Proofs.Tryd.isAgg139
  z46 := Go.Proofs.Tryd.sizeOf139
  v46 := Go.Proofs.Tryd.zeroValue139
  t51 := Go.Proofs.Tryd.underlying150
  a51 := Go.Proofs.Tryd.isAgg150
  z51 := Go.Proofs.Tryd.sizeOf150
  v51 := Go.Proofs.Tryd.zeroValue150
  t53 := Go.Proofs.Tryd.underlying153
  a53 := Go.Proofs.Tryd.isAgg153
  z53 := Go.Proofs.Tryd.sizeOf153
  v53 := Go.Proofs.Tryd.zeroValue153
  t70 := Go.Proofs.Tryd.underlying112
  a70 := Go.Proofs.Tryd.isAgg112
  z70 := Go.Proofs.Tryd.sizeOf112
  v70 := Go.Proofs.Tryd.zeroValue112
  t72 := Go.Proofs.Tryd.underlying114
  a72 := Go.Proofs.Tryd.isAgg114
  z72 := Go.Proofs.Tryd.sizeOf114
  v72 := Go.Proofs.Tryd.zeroValue114
  t75 := Go.Proofs.Tryd.underlying116
  a75 := Go.Proofs.Tryd.isAgg116
  z75 := Go.Proofs.Tryd.sizeOf116
  v75 := Go.Proofs.Tryd.zeroValue116
  t76 := Go.Proofs.Tryd.underlying117
  a76 := Go.Proofs.Tryd.isAgg117
  z76 := Go.Proofs.Tryd.sizeOf117
  v76 := Go.Proofs.Tryd.zeroValue117
  t109 := Go.Proofs.Tryd.underlying141
  a109 := Go.Proofs.Tryd.isAgg141
  z109 := Go.Proofs.Tryd.sizeOf141
  v109 := Go.Proofs.Tryd.zeroValue141
  t127 := Go.Proofs.Tryd.underlying134
  a127 := Go.Proofs.Tryd.isAgg134
  z127 := Go.Proofs.Tryd.sizeOf134
  v127 := Go.Proofs.Tryd.zeroValue134
  t146 := Go.Proofs.Tryd.underlying151
  a146 := Go.Proofs.Tryd.isAgg151
  z146 := Go.Proofs.Tryd.sizeOf151
  v146 := Go.Proofs.Tryd.zeroValue151
  t148 := Go.Proofs.Tryd.underlying154
  a148 := Go.Proofs.Tryd.isAgg154
  z148 := Go.Proofs.Tryd.sizeOf154
  v148 := Go.Proofs.Tryd.zeroValue154
  t164 := Go.Proofs.Tryd.underlying144
  a164 := Go.Proofs.Tryd.isAgg144
  z164 := Go.Proofs.Tryd.sizeOf144
  v164 := Go.Proofs.Tryd.zeroValue144
theorem extra105 : Go.Proofs.Builder.Extra Go.Proofs.Tryd.prog lays105_ren where
  sizeBuilder := by kernel_rfl
  liesBuilder := by kernel_rfl
  t5 := Go.Proofs.Tryd.underlying5
  a5 := Go.Proofs.Tryd.isAgg5
  z5 := Go.Proofs.Tryd.sizeOf5
  v5 := Go.Proofs.Tryd.zeroValue5
  infoByte := by kernel_rfl
  cellsByte := by kernel_rfl
  sizeByte := by kernel_rfl
  neB5 := by decide
end Go.AM.YtkbaoeklchdioaaDoor
