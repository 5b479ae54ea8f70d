import Derived.Test.YthkccaclmodjiaaProg
import Derived.Shelf.SlSortCmp.Insertion1
namespace Go.Proofs
open Go.Shelf
def Try.insA_ren : Go.Shelf.Ren := ⟨fun | 20 => 131 | n => n, fun | 24 => 2 | 22 => 37 | 3 => 3 | 25 => 97 | 4 => 4 | 0 => 0 | n => n, fun | n => n⟩
theorem Try.insA : Go.Proofs.SlLaysF.n20 Try.prog Try.insA_ren := {
  mixed := by kernel_rfl
  f20 := ⟨Try.f131.name, by decide, Try.func131.trans (congrArg some (by kernel_rfl))⟩
  t0 := Try.underlying0
  a0 := Try.isAgg0
  z0 := Try.sizeOf0
  v0 := Try.zeroValue0
  t3 := Try.underlying3
  a3 := Try.isAgg3
  z3 := Try.sizeOf3
  v3 := Try.zeroValue3
  t4 := Try.underlying4
  a4 := Try.isAgg4
  z4 := Try.sizeOf4
  v4 := Try.zeroValue4
  t22 := Try.underlying37
  a22 := Try.isAgg37
  z22 := Try.sizeOf37
  v22 := Try.zeroValue37
  a24 := Try.isAgg2
  z24 := Try.sizeOf2
  t25 := Try.underlying97
  a25 := Try.isAgg97
  z25 := Try.sizeOf97
  v25 := Try.zeroValue97 }
end Go.Proofs
