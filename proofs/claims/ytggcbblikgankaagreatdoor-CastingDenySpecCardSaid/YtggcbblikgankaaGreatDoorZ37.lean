/- Contracts and plain laws on the way to the statement: part 37. -/
import Derived.Test.YtggcbblikgankaaGreatDoorZ36
import Derived.OpenShut
import Derived.ShutString
set_option linter.unusedVariables false
set_option linter.unusedSimpArgs false
section
namespace Go.Proofs.YtggcbblikgankaaGreatDoor
open Go Go.ChangeShapes Go.WideShapes Go.ChangeAt Go.RowKit
section
variable {H : Type} {et : TypeId × Value → H} {W : World}
theorem cellsT3 : Tryz.prog.cellsOf 3 = 1 := by kernel_rfl
end
end Go.Proofs.YtggcbblikgankaaGreatDoor
end
