/- The walk of the statement: part 2. -/
import Derived.Test.YtbkemlgfdklpfaaGreatDoorZ28
import Derived.Test.YtbkemlgfdklpfaaGreatDoorZ3
import Derived.Test.YtbkemlgfdklpfaaGreatDoorZ4
set_option linter.unusedVariables false
set_option linter.unusedSimpArgs false
set_option maxRecDepth 100000
set_option maxHeartbeats 16000000
namespace Go.Proofs.YtbkemlgfdklpfaaGreatDoor
open Go.Value (int)
open Go.IntKind (i64)
section
open Go Go.RowKit Go.Deep
def RowV{α:Type}(enc:α→List Value)(W:World)(g:Nat)(xs:List α):Prop:=∀j u,(xs.flatMap enc)[j]?=some u→W.cell? ⟨g,j,none⟩=some u
section
variable {α:Type} {enc:α→List Value} {k:Nat}
theorem RowV.get(hk:∀x,(enc x).length=k){W:World}{g:Nat}{xs:List α}(h:RowV enc W g xs){i r:Nat}{x:α}{u:Value}(hx:xs[i]?=some x)(hr:(enc x)[r]?=some u):W.cell? ⟨g,i*k+r,none⟩=some u:=h _ _ (KO hk hx hr)
theorem RowV.set(hk:∀x,(enc x).length=k){W W':World}{g i:Nat}{xs:List α}{p:α}(h:RowV enc W g xs)(hi:i<xs.length)(h1:∀r u,(enc p)[r]?=some u→W'.cell? ⟨g,i*k+r,none⟩=some u)
  (h2:∀q v,(q<i*k∨i*k+k≤q)→W.cell? ⟨g,q,none⟩=some v→W'.cell? ⟨g,q,none⟩=some v):RowV enc W' g (xs.set i p):=by
 intro j u hj;obtain ⟨i',x,r,h3,h4,rfl,h5⟩:=KN hk hj;rw [List.getElem?_set] at h3;by_cases e:i=i'
 ·subst e
  rw [if_pos rfl,if_pos hi] at h3;cases h3;exact h1 r u h4
 ·rw [if_neg e] at h3
  refine h2 _ _ ?_ (h.get hk h3 h4);rcases Nat.lt_or_gt_of_ne e with h6|h6
  ·right
   have:=Nat.mul_le_mul_right k (show i+1≤i' by omega);rw [Nat.add_mul] at this;omega
  ·left
   have:=Nat.mul_le_mul_right k (show i'+1≤i by omega);rw [Nat.add_mul] at this;omega
end
end
end Go.Proofs.YtbkemlgfdklpfaaGreatDoor
