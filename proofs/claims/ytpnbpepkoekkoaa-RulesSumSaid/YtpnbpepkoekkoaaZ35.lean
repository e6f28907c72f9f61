/- Contracts and plain laws on the way to the statement: part 35. -/
import Derived.Test.YtpnbpepkoekkoaaZ13
import Derived.Test.YtpnbpepkoekkoaaZ29
import Derived.Test.YtpnbpepkoekkoaaZ23
set_option linter.unusedVariables false
set_option linter.unusedSimpArgs false
section
namespace Go.Proofs.Ytpnbpepkoekkoaa
open Go Go.RowKit
structure Ls.small (s : Ls) : Prop where
 roles : s.roles.length ≤ 300
 tempos : s.tempos.length ≤ 300
 pauses : s.pauses.length ≤ 300
 spans : s.spans.length ≤ 300
 phrases : s.phrases.length ≤ 300
 dances : s.dances.length ≤ 300
 items : ∀ p ∈ s.phrases, p.its.size ≤ 300 ∧ p.its.movs ≤ 300
def Ls.mfit (s : Ls) : Prop := ∀ p ∈ s.phrases, p.its.mfit
structure FewS (s : Ls) (w : World) (B : Nat) (W : World) : Prop where
 at_ : s.At W
 fit : s.mfit
 box : W.heap[B]? = some (.cells s.cells 30 (0, 0))
 below : Below w.heap.size w W
theorem FewS.next {s : Ls} {w : World} {B : Nat} {W W' : World} (h : FewS s w B W) (hb : Below W.heap.size W W') : FewS s w B W' := ⟨h.at_.below hb, h.fit, keepO hb h.box, thenB h.below hb⟩
theorem phAt_its {w : World} {b : Nat} : ∀ {o : Nat} {ps : List Ph} {i : Nat} {p : Ph}, phAt w b o ps → ps[i]? = some p → p.Its w
 | _, [], _, _, _, h => by cases h
 | _, _ :: _, 0, _, ⟨⟨_, _, h3⟩, _⟩, h => by cases h; exact h3
 | _, _ :: r, i + 1, _, ⟨_, h⟩, hi => phAt_its (ps := r) (i := i) h (by simpa using hi)
end Go.Proofs.Ytpnbpepkoekkoaa
end
