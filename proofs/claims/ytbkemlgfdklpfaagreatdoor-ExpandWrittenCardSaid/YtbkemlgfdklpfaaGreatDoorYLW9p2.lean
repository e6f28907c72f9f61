/- The walk of the statement: part 2. -/
import Derived.Test.YtbkemlgfdklpfaaGreatDoorZ40
import Derived.Test.YtbkemlgfdklpfaaGreatDoorZ4
set_option linter.unusedVariables false
set_option linter.unusedSimpArgs false
set_option maxRecDepth 100000
set_option maxHeartbeats 16000000
namespace Go.Proofs.YtbkemlgfdklpfaaGreatDoor
open Go.Value (int)
open Go.IntKind (i64)
section
open Go Go.RowKit Go.Shelf Go.Deep
theorem Ws:∀(k:Int) (l:List Sgn),(Qd k l).length=l.length
 | _,[]=>rfl
 | k,s::r=>by rw [Qd,List.length_cons,Ws (k+1) r,List.length_cons]
end
end Go.Proofs.YtbkemlgfdklpfaaGreatDoor
