/- Contracts and plain laws on the way to the statement: part 11. -/
import Derived.Shelf.SlSortCmp.InsertionK
import Derived.Test.YtggcbblikgankaaDoorProg
set_option linter.unusedVariables false
set_option linter.unusedSimpArgs false
section
namespace Go.Proofs.YtggcbblikgankaaDoor
open Go Go.Shelf Go.RowKit
def ren20 : Go.Shelf.Ren := ⟨fun | 20 => 128 | n => n, fun | 22 => 198 | 24 => 200 | 25 => 202 | n => n, fun | n => n⟩
theorem lays20 : Go.Proofs.SlLaysF0.n20 Tryd.prog ren20 := {
 mixed := by kernel_rfl
 f20 := ⟨Tryd.f128.name, by kernel_rfl, Tryd.func128.trans (congrArg some (by kernel_rfl))⟩
 t0 := Tryd.underlying0
 a0 := Tryd.isAgg0
 z0 := Tryd.sizeOf0
 v0 := Tryd.zeroValue0
 t3 := Tryd.underlying3
 a3 := Tryd.isAgg3
 z3 := Tryd.sizeOf3
 v3 := Tryd.zeroValue3
 t4 := Tryd.underlying4
 a4 := Tryd.isAgg4
 z4 := Tryd.sizeOf4
 v4 := Tryd.zeroValue4
 t22 := Tryd.underlying198
 a22 := Tryd.isAgg198
 z22 := Tryd.sizeOf198
 v22 := Tryd.zeroValue198
 t25 := Tryd.underlying202
 a25 := Tryd.isAgg202
 z25 := Tryd.sizeOf202
 v25 := Tryd.zeroValue202 }
end Go.Proofs.YtggcbblikgankaaDoor
end
