/- Contracts and plain laws on the way to the statement: part 39. -/
import Derived.Test.YtggcbblikgankaaGreatDoorZ38
import Derived.Test.YtggcbblikgankaaGreatDoorZ27
set_option linter.unusedVariables false
set_option linter.unusedSimpArgs false
section
set_option maxRecDepth 100000
namespace Go.Proofs.YtggcbblikgankaaGreatDoor
open Go.ChangeShapes Go.WideShapes Go.ChangeAt Go.RowKit Go.Deep
section
variable {H : Type} {enc : TypeId × Value → H} {W : World}
end
end Go.Proofs.YtggcbblikgankaaGreatDoor
end
