/- The walk of the statement: part 3. -/
import Derived.Test.YtpnbpepkoekkoaaZ13
import Derived.BigQuiet
import Derived.BigCall
import Derived.BigGuard
set_option linter.unusedVariables false
set_option linter.unusedSimpArgs false
section
namespace Go.Proofs.Ytpnbpepkoekkoaa
open Go Go.RowKit Go.Deep
theorem movRefs_len (b : Nat) : ∀ (o : Nat) (ms : List Mov), (movRefs b o ms).length = ms.length
 | _, [] => rfl
 | o, m :: r => by simp [movRefs, movRefs_len b (o + 12) r]
theorem Lt.At.dn {w : World} {T : Lt} {b o : Nat} (h : T.At w b o) (q : Nat) : T.At (w.drewN q) b o := h.kept (fun _ _ _ h => h) (fun _ _ _ _ h => h)
theorem NsAt.dn {w : World} {xs : List RefL} {ks : List Int} (h : NsAt w xs ks) (q : Nat) : NsAt (w.drewN q) xs ks := h.kept fun _ _ _ h => h
end Go.Proofs.Ytpnbpepkoekkoaa
end
