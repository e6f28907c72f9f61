/- Contracts and plain laws on the way to the statement: part 33. -/
import Derived.Test.YtpnbpepkoekkoaaZ32
set_option linter.unusedVariables false
set_option linter.unusedSimpArgs false
section
namespace Go.Proofs.Ytpnbpepkoekkoaa
open Go Go.RowKit Go.Shelf Go.Deep
end Go.Proofs.Ytpnbpepkoekkoaa
end
