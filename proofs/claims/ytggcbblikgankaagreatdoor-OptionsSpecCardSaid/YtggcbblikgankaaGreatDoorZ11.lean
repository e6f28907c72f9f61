/- Contracts and plain laws on the way to the statement: part 11. -/
import Derived.Shelf.SlSortCmp.InsertionK
import Derived.Test.YtggcbblikgankaaGreatDoorProg
set_option linter.unusedVariables false
set_option linter.unusedSimpArgs false
section
namespace Go.Proofs.YtggcbblikgankaaGreatDoor
open Go Go.Shelf Go.RowKit
def ren20 : Go.Shelf.Ren := ⟨fun | 20 => 152 | n => n, fun | 22 => 162 | 24 => 164 | 25 => 166 | n => n, fun | n => n⟩
theorem lays20 : Go.Proofs.SlLaysF0.n20 Tryz.prog ren20 := {
 mixed := by kernel_rfl
 f20 := ⟨Tryz.f152.name, by kernel_rfl, Tryz.func152.trans (congrArg some (by kernel_rfl))⟩
 t0 := Tryz.underlying0
 a0 := Tryz.isAgg0
 z0 := Tryz.sizeOf0
 v0 := Tryz.zeroValue0
 t3 := Tryz.underlying3
 a3 := Tryz.isAgg3
 z3 := Tryz.sizeOf3
 v3 := Tryz.zeroValue3
 t4 := Tryz.underlying4
 a4 := Tryz.isAgg4
 z4 := Tryz.sizeOf4
 v4 := Tryz.zeroValue4
 t22 := Tryz.underlying162
 a22 := Tryz.isAgg162
 z22 := Tryz.sizeOf162
 v22 := Tryz.zeroValue162
 t25 := Tryz.underlying166
 a25 := Tryz.isAgg166
 z25 := Tryz.sizeOf166
 v25 := Tryz.zeroValue166 }
end Go.Proofs.YtggcbblikgankaaGreatDoor
end
