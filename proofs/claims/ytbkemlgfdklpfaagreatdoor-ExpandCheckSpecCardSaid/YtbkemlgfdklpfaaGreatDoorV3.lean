/- Contracts and plain laws on the way to the statement: part 3. -/
import Derived.OrdersHeld
import Derived.Deep.RegionHeld3
import Derived.Test.YtbkemlgfdklpfaaGreatDoorV4
set_option linter.unusedVariables false
set_option linter.unusedSimpArgs false
set_option maxRecDepth 100000
set_option maxHeartbeats 16000000
namespace Go.Proofs.YtbkemlgfdklpfaaGreatDoor
open Go.Value (int)
open Go.IntKind (i64)
section
open Go
section
variable {P:Program} {ops:Array Oper} {Q:Exit→Act→World→Prop} {md:Region.Mode} {D1 D2:Nat} {S1 S2:World→Prop}
end
end
end Go.Proofs.YtbkemlgfdklpfaaGreatDoor
