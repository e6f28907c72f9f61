/- Contracts and plain laws on the way to the statement: part 38. -/
import Derived.Test.YtbkemlgfdklpfaaDoorZ31
import Derived.Shelf.Vars
import Derived.Test.YtbkemlgfdklpfaaDoorChecked
import Derived.Test.YtbkemlgfdklpfaaDoorZ4
set_option linter.unusedVariables false
set_option linter.unusedSimpArgs false
set_option maxRecDepth 100000
set_option maxHeartbeats 16000000
namespace Go.Proofs.YtbkemlgfdklpfaaDoor
open Go.Value (int)
open Go.IntKind (i64)
section
open Go Go.ChangeShapes Go.WideShapes Go.ChangeAt Go.RowKit Go.Deep
section
variable {H:Type} {et:TypeId×Value→H} {W:World}
end
theorem KR:laidOutB Tryd.prog=true:=by kernel_rfl
section
variable {H:Type} {enc:TypeId×Value→H} {W:World}
theorem QI{W:World}(h:W.ShapedOpen Tryd.prog):Env W:=cell_of_shapedOpen_int (g:=1) (t:=3) (zero:=#[int i64 0]) h (of_decide_eq_true (by kernel_rfl)) (by kernel_rfl) rfl (by kernel_rfl) (by kernel_rfl) Tryd.underlying3
end
end
end Go.Proofs.YtbkemlgfdklpfaaDoor
