/- Contracts and plain laws on the way to the statement: part 35. -/
import Derived.Test.YtbkemlgfdklpfaaGreatDoorV34
import Derived.Great.BuildSlice
import Derived.Test.YtbkemlgfdklpfaaGreatDoorV4
set_option linter.unusedVariables false
set_option linter.unusedSimpArgs false
set_option maxRecDepth 100000
set_option maxHeartbeats 16000000
namespace Go.Proofs.YtbkemlgfdklpfaaGreatDoor
open Go.Value (int)
open Go.IntKind (i64)
section
open Go.RowKit
def NJ(d:Int):Value:=.tuple #[int i64 (if inB d 0 8 then (if d≤1 then d else 10-d) else 0),int i64 (if inB d 0 8 then 0 else 150)]
theorem JK(d:Int)(w:World):Calls Tryz.prog 22 #[int i64 d] w λe w'=>e=.returned (NJ d)∧w=w':=by
 by_cases h1:d<0
 ·have H:=qh (BZ.2 (Or.inl h1):inB d 0 8=false)
  go_enter Tryz.func22,Tryz.ntmps22;go_wp2_with fail;go_ret2;exact ⟨by unfold NJ;rw [H.out];rfl,rfl⟩
 by_cases h2:8<d
 ·have H:=qh (BZ.2 (Or.inr h2):inB d 0 8=false)
  go_enter Tryz.func22,Tryz.ntmps22;go_wp2_with fail;go_ret2;exact ⟨by unfold NJ;rw [H.out];rfl,rfl⟩
 have H:=qh (AL.2 ⟨by omega,by omega⟩:inB d 0 8=true);by_cases h3:d≤1
 ·have H3:=qh h3
  go_enter Tryz.func22,Tryz.ntmps22;go_wp2_with fail;go_ret2;exact ⟨by unfold NJ;rw [H.out,if_pos rfl,if_pos rfl,if_pos H3.out];rfl,rfl⟩
 ·have H3:=qh h3
  have e1:IntKind.i64.wrap (10-d)=10-d:=IntWalk.i64_in _ (by omega);go_enter Tryz.func22,Tryz.ntmps22;go_wp2_with fail;go_ret2;exact ⟨by unfold NJ;rw [H.out,if_pos rfl,if_pos rfl,if_neg (show ¬d≤1 by have:=H3.out;omega)];rfl,rfl⟩
end
end Go.Proofs.YtbkemlgfdklpfaaGreatDoor
