/- Contracts and plain laws on the way to the statement: part 30. -/
import Derived.Test.YtpnbpepkoekkoaaZ29
set_option linter.unusedVariables false
set_option linter.unusedSimpArgs false
section
namespace Go.Proofs.Ytpnbpepkoekkoaa
open Go Go.RowKit Go.Shelf Go.Deep
end Go.Proofs.Ytpnbpepkoekkoaa
end
