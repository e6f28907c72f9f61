/- The walk of the statement: part 2. -/
import Derived.Test.YtpnbpepkoekkoaaZ28
import Derived.Test.YtpnbpepkoekkoaaZ3
set_option linter.unusedVariables false
set_option linter.unusedSimpArgs false
set_option maxRecDepth 100000
set_option maxHeartbeats 16000000
namespace Go.Proofs.Ytpnbpepkoekkoaa
open Go.Value (int)
open Go.IntKind (i64)
section
open Go Go.RowKit Go.Deep
section
variable {α : Type} {enc : α → List Value} {k : Nat}
end
theorem Qu (p : Ph) : (Dp p).length = 2 := rfl
theorem QD (xs : List Ph) : ∀ u ∈ xs.flatMap Dp, u.oneCell' = true := by
 intro u hu; obtain ⟨x, _, h⟩ := List.mem_flatMap.1 hu; simp only [Dp, List.mem_cons, List.mem_nil_iff, or_false] at h; rcases h with rfl | rfl <;> rfl
end
end Go.Proofs.Ytpnbpepkoekkoaa
