/- Contracts and plain laws on the way to the statement: part 5. -/
import Derived.Test.YtggcbblikgankaaGreatDoorZ1
import Derived.WalkKit
set_option linter.unusedVariables false
set_option linter.unusedSimpArgs false
section
namespace Go.Proofs.YtggcbblikgankaaGreatDoor
open Go.RowKit
def gi (l : List Int) (j : Nat) : Int := l[j]?.getD 0
def gb (l : List Bool) (j : Nat) : Bool := l[j]?.getD false
end Go.Proofs.YtggcbblikgankaaGreatDoor
end
