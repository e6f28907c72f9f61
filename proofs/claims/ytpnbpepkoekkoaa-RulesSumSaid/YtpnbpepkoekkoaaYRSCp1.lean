/- The walk of the statement: part 1. -/
import Derived.Test.YtpnbpepkoekkoaaZ1
set_option linter.unusedVariables false
set_option linter.unusedSimpArgs false
section
namespace Go.Proofs.Ytpnbpepkoekkoaa
end Go.Proofs.Ytpnbpepkoekkoaa
end
