/- The numbers and bodies of functions of the library. -/
import Derived.Test.YtbpbnhgkdfhdcaaDoorAmE
import Derived.Test.YtbpbnhgkdfhdcaaDoorProg
import Derived.KernelRfl
set_option maxRecDepth 100000
namespace Go.AM.YtbpbnhgkdfhdcaaDoor
open Go Go.Proofs Go.Shelf
def lays143_ren : Go.Shelf.Ren := ⟨fun | 143 => 29 | 219 => 52 | 217 => 68 | 225 => 69 | 224 => 70 | 267 => 71 | 266 => 79 | 314 => 80 | n => n, fun | 9 => 9 | 3 => 3 | 4 => 4 | 5 => 5 | 46 => 86 | 146 => 98 | 51 => 97 | n => n, fun | 1 => 0 | n => n⟩
theorem lays143 : Go.Proofs.Lays.n143 Go.Proofs.Tryd.prog lays143_ren where
  mixed := by kernel_rfl
  f143 := Go.Proofs.Tryd.func29.trans (congrArg some (by kernel_rfl))
  f217 := Go.Proofs.Tryd.func68.trans (congrArg some (by kernel_rfl))
  f219 := Go.Proofs.Tryd.func52.trans (congrArg some (by kernel_rfl))
  f224 := Go.Proofs.Tryd.func70.trans (congrArg some (by kernel_rfl))
  f225 := Go.Proofs.Tryd.func69.trans (congrArg some (by kernel_rfl))
  f266 := Go.Proofs.Tryd.func79.trans (congrArg some (by kernel_rfl))
  f267 := Go.Proofs.Tryd.func71.trans (congrArg some (by kernel_rfl))
  f314 := Go.Proofs.Tryd.func80.trans (congrArg some (by kernel_rfl))
  t3 := Go.Proofs.Tryd.underlying3
  a3 := Go.Proofs.Tryd.isAgg3
  z3 := Go.Proofs.Tryd.sizeOf3
  v3 := Go.Proofs.Tryd.zeroValue3
  t4 := Go.Proofs.Tryd.underlying4
  a4 := Go.Proofs.Tryd.isAgg4
  z4 := Go.Proofs.Tryd.sizeOf4
  v4 := Go.Proofs.Tryd.zeroValue4
  t5 := Go.Proofs.Tryd.underlying5
  a5 := Go.Proofs.Tryd.isAgg5
  z5 := Go.Proofs.Tryd.sizeOf5
  v5 := Go.Proofs.Tryd.zeroValue5
  t9 := Go.Proofs.Tryd.underlying9
  a9 := Go.Proofs.Tryd.isAgg9
  z9 := Go.Proofs.Tryd.sizeOf9
  v9 := Go.Proofs.Tryd.zeroValue9
  t46 := Go.Proofs.Tryd.underlying86
  a46 := Go.Proofs.Tryd.isAgg86
  z46 := Go.Proofs.Tryd.sizeOf86
  v46 := Go.Proofs.Tryd.zeroValue86
  t51 := Go.Proofs.Tryd.underlying97
  a51 := Go.Proofs.Tryd.isAgg97
  z51 := Go.Proofs.Tryd.sizeOf97
  v51 := Go.Proofs.Tryd.zeroValue97
  t146 := Go.Proofs.Tryd.underlying98
  a146 := Go.Proofs.Tryd.isAgg98
  z146 := Go.Proofs.Tryd.sizeOf98
  v146 := Go.Proofs.Tryd.zeroValue98
  g1 := by kernel_rfl
end Go.AM.YtbpbnhgkdfhdcaaDoor
