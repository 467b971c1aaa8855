/- The library's sort (and others) at this program: the numbers of its functions and types, and the facts that the contracts of the shelf ask. Written by the kit's lay-plain.mjs. -/
import Derived.Shelf.Bits.Mul64
import Derived.Test.YtkiookioejckbaaProg
namespace Go.Proofs
open Go.Shelf
def Try.laysMul_ren : Go.Shelf.Ren := ⟨fun | 212 => 102 | 263 => 104 | 264 => 105 | n => n, fun | 46 => 85 | 51 => 90 | 146 => 91 | 53 => 93 | 148 => 94 | n => n, fun | n => n⟩
theorem Try.laysMul : Go.Proofs.Lays.n212 Try.prog Try.laysMul_ren := {
  mixed := by kernel_rfl
  f212 := Try.func102.trans (congrArg some (by kernel_rfl))
  f263 := Try.func104.trans (congrArg some (by kernel_rfl))
  f264 := Try.func105.trans (congrArg some (by kernel_rfl))
  t46 := Try.underlying85
  a46 := Try.isAgg85
  z46 := Try.sizeOf85
  v46 := Try.zeroValue85
  t51 := Try.underlying90
  a51 := Try.isAgg90
  z51 := Try.sizeOf90
  v51 := Try.zeroValue90
  t53 := Try.underlying93
  a53 := Try.isAgg93
  z53 := Try.sizeOf93
  v53 := Try.zeroValue93
  t146 := Try.underlying91
  a146 := Try.isAgg91
  z146 := Try.sizeOf91
  v146 := Try.zeroValue91
  t148 := Try.underlying94
  a148 := Try.isAgg94
  z148 := Try.sizeOf94
  v148 := Try.zeroValue94 }
end Go.Proofs
