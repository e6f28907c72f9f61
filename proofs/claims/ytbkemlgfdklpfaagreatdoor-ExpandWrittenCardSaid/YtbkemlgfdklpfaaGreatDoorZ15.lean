/- Contracts and plain laws on the way to the statement: part 15. -/
import Derived.Test.YtbkemlgfdklpfaaGreatDoorZ14
import Derived.Maps.AppendAt
import Derived.Test.YtbkemlgfdklpfaaGreatDoorZ4
set_option linter.unusedVariables false
set_option linter.unusedSimpArgs false
set_option maxRecDepth 100000
set_option maxHeartbeats 16000000
namespace Go.Proofs.YtbkemlgfdklpfaaGreatDoor
open Go.Value (int)
open Go.IntKind (i64)
section
open Go Go.RowKit Go.Deep
theorem Bg{w w':World}{B e s n:Nat}{v:Value}{xs:List Value}(h:w.ownsRow B e s v n xs)(hb:Below w.heap.size w w'):w'.ownsRow B e s v n xs :=
 h.kept (row:=none) ⟨hb.os,hb.tape,hb.output,hb.size,λk hk _=>hb.block k hk⟩ (by cases hv:v.ownBlock<;>simp)
end
end Go.Proofs.YtbkemlgfdklpfaaGreatDoor
