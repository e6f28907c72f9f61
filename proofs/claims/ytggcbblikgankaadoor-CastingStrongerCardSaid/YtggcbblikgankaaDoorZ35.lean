/- Contracts and plain laws on the way to the statement: part 35. -/
import Derived.Test.YtggcbblikgankaaDoorZ34
set_option linter.unusedVariables false
set_option linter.unusedSimpArgs false
section
namespace Go.Proofs.YtggcbblikgankaaDoor
open Go Go.RowKit
end Go.Proofs.YtggcbblikgankaaDoor
end
