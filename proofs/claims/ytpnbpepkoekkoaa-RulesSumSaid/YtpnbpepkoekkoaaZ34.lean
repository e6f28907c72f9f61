/- Contracts and plain laws on the way to the statement: part 34. -/
import Derived.Test.YtpnbpepkoekkoaaZ33
set_option linter.unusedVariables false
set_option linter.unusedSimpArgs false
section
namespace Go.Proofs.Ytpnbpepkoekkoaa
open Go Go.RowKit Go.Shelf Go.Deep
end Go.Proofs.Ytpnbpepkoekkoaa
end
section
namespace Go.Proofs.Ytpnbpepkoekkoaa
open Go Go.RowKit Go.Shelf Go.Deep
end Go.Proofs.Ytpnbpepkoekkoaa
end
