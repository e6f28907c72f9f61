/- Contracts and plain laws on the way to the statement: part 12. -/
import Derived.Shelf.SlSortCmp.InsertionK
import Derived.Test.YtggcbblikgankaaGreatDoorProg
import Derived.Test.YtggcbblikgankaaGreatDoorZ3
set_option linter.unusedVariables false
set_option linter.unusedSimpArgs false
set_option maxRecDepth 100000
set_option maxHeartbeats 16000000
namespace Go.Proofs.YtggcbblikgankaaGreatDoor
open Go.Value (int)
open Go.IntKind (i64)
section
open Go Go.Shelf Go.RowKit
def SO : Go.Shelf.Ren := ⟨fun | 20 => 152 | n => n, fun | 22 => 162 | 24 => 164 | 25 => 166 | n => n, fun | n => n⟩
theorem Sg : Go.Proofs.SlLaysF0.n20 Tryz.prog SO := {
 mixed := by kernel_rfl
 f20 := ⟨Tryz.f152.name, by kernel_rfl, Tryz.func152.trans (congrArg some (by kernel_rfl))⟩
 t0 := Tryz.underlying0
 a0 := Tryz.isAgg0
 z0 := Tryz.sizeOf0
 v0 := Tryz.zeroValue0
 t3 := Tryz.underlying3
 a3 := Tryz.isAgg3
 z3 := Tryz.sizeOf3
 v3 := Tryz.zeroValue3
 t4 := Tryz.underlying4
 a4 := Tryz.isAgg4
 z4 := Tryz.sizeOf4
 v4 := Tryz.zeroValue4
 t22 := Tryz.underlying162
 a22 := Tryz.isAgg162
 z22 := Tryz.sizeOf162
 v22 := Tryz.zeroValue162
 t25 := Tryz.underlying166
 a25 := Tryz.isAgg166
 z25 := Tryz.sizeOf166
 v25 := Tryz.zeroValue166 }
end
end Go.Proofs.YtggcbblikgankaaGreatDoor
