/- The walk of the statement: part 1. -/
import Derived.Test.YtbkemlgfdklpfaaGreatDoorV37
import Derived.Test.YtbkemlgfdklpfaaGreatDoorV4
set_option linter.unusedVariables false
set_option linter.unusedSimpArgs false
set_option maxRecDepth 100000
set_option maxHeartbeats 16000000
namespace Go.Proofs.YtbkemlgfdklpfaaGreatDoor
open Go.Value (int)
open Go.IntKind (i64)
section
open Go Go.ChangeShapes Go.WideShapes Go.ChangeAt Go.RowKit
section
variable {H:Type} {enc:TypeId×Value→H} {W:World}
theorem Wq{base:Nat}{v:Value}(hv:Value.okWide Tryz.prog W .any base 3 v):∃n:Int,v=int i64 n:=okWide_int Tryz.underlying3 hv
theorem Xk{v:Value}{d:DataW H}{p:List MemPlace}(h:DataW.Trod enc Tryz.prog W 0 (λ_=>true) true 3 v d p)(hA:∀x∈p,x.block<W.heap.size){W':World}(hb:Below W.heap.size W W') :
  DataW.Trod enc Tryz.prog W' 0 (λb=>decide (b<W.heap.size)) true 3 v d p :=
 Below.trod Pr (by kernel_rfl) (of_decide_eq_true (by kernel_rfl)) h hb hA
end
end
end Go.Proofs.YtbkemlgfdklpfaaGreatDoor
