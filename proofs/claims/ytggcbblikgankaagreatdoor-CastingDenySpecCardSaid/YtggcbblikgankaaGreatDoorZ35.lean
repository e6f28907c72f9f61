/- Contracts and plain laws on the way to the statement: part 35. -/
import Derived.Test.YtggcbblikgankaaGreatDoorZ34
set_option linter.unusedVariables false
set_option linter.unusedSimpArgs false
section
namespace Go.Proofs.YtggcbblikgankaaGreatDoor
open Go Go.RowKit
end Go.Proofs.YtggcbblikgankaaGreatDoor
end
