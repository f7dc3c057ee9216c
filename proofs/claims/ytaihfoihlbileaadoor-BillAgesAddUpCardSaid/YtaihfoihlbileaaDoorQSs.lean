-- Made by a program of this session out of the translation (wip/pp.py): functions, contracts.
import Derived.Shelf.SlSortCmp.Insertion
import Derived.Test.YtaihfoihlbileaaDoorProg
namespace Go.Proofs
open Go.Shelf
def Tryd.lf20_debt_ren : Go.Shelf.Ren := ⟨fun | 20 => 60 | n => n, fun | 24 => 58 | 22 => 55 | 3 => 3 | 25 => 76 | 4 => 4 | 0 => 0 | n => n, fun | n => n⟩
theorem Tryd.lf20_debt : Go.Proofs.SlLaysF.n20 Tryd.prog Tryd.lf20_debt_ren := {
  mixed := by kernel_rfl
  f20 := ⟨Tryd.f60.name, by decide, Tryd.func60.trans (congrArg some (by kernel_rfl))⟩
  t0 := Tryd.underlying0
  a0 := Tryd.isAgg0
  z0 := Tryd.sizeOf0
  v0 := Tryd.zeroValue0
  t3 := Tryd.underlying3
  a3 := Tryd.isAgg3
  z3 := Tryd.sizeOf3
  v3 := Tryd.zeroValue3
  t4 := Tryd.underlying4
  a4 := Tryd.isAgg4
  z4 := Tryd.sizeOf4
  v4 := Tryd.zeroValue4
  t22 := Tryd.underlying55
  a22 := Tryd.isAgg55
  z22 := Tryd.sizeOf55
  v22 := Tryd.zeroValue55
  a24 := Tryd.isAgg58
  z24 := Tryd.sizeOf58
  t25 := Tryd.underlying76
  a25 := Tryd.isAgg76
  z25 := Tryd.sizeOf76
  v25 := Tryd.zeroValue76 }
end Go.Proofs
