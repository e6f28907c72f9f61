/- Contracts and plain laws on the way to the statement: part 37. -/
import Derived.Test.YtbkemlgfdklpfaaGreatDoorV31
import Derived.Shelf.Vars
import Derived.Test.YtbkemlgfdklpfaaGreatDoorChecked
import Derived.Test.YtbkemlgfdklpfaaGreatDoorV4
set_option linter.unusedVariables false
set_option linter.unusedSimpArgs false
set_option maxRecDepth 100000
set_option maxHeartbeats 16000000
namespace Go.Proofs.YtbkemlgfdklpfaaGreatDoor
open Go.Value (int)
open Go.IntKind (i64)
section
open Go Go.ChangeShapes Go.WideShapes Go.ChangeAt Go.RowKit Go.Deep
section
variable {H:Type} {et:TypeId×Value→H} {W:World}
end
theorem Pr:laidOutB Tryz.prog=true:=by kernel_rfl
section
variable {H:Type} {enc:TypeId×Value→H} {W:World}
theorem Qw{W:World}(h:W.ShapedOpen Tryz.prog):Env W:=cell_of_shapedOpen_int (g:=1) (t:=3) (zero:=#[int i64 0]) h (of_decide_eq_true (by kernel_rfl)) (by kernel_rfl) rfl (by kernel_rfl) (by kernel_rfl) Tryz.underlying3
end
end
end Go.Proofs.YtbkemlgfdklpfaaGreatDoor
