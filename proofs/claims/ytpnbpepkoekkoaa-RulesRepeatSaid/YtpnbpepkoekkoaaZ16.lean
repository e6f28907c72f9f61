/- Contracts and plain laws on the way to the statement: part 16. -/
import Derived.Test.YtpnbpepkoekkoaaZ13
import Derived.BigQuiet
import Derived.BigCall
import Derived.BigGuard
import Derived.Test.YtpnbpepkoekkoaaZ3
set_option linter.unusedVariables false
set_option linter.unusedSimpArgs false
set_option maxRecDepth 100000
set_option maxHeartbeats 16000000
namespace Go.Proofs.Ytpnbpepkoekkoaa
open Go.Value (int)
open Go.IntKind (i64)
section
open Go Go.RowKit Go.Deep
theorem EJ (b : Nat) : ∀ (o : Nat) (ms : List Mov), (Aw b o ms).length = ms.length
 | _, [] => rfl
 | o, m :: r => by simp [Aw, EJ b (o + 12) r]
theorem Lt.At.dn {w : World} {T : Lt} {b o : Nat} (h : T.At w b o) (q : Nat) : T.At (w.drewN q) b o := h.kept (fun _ _ _ h => h) (fun _ _ _ _ h => h)
theorem NsAt.dn {w : World} {xs : List RefL} {ks : List Int} (h : NsAt w xs ks) (q : Nat) : NsAt (w.drewN q) xs ks := h.kept fun _ _ _ h => h
end
end Go.Proofs.Ytpnbpepkoekkoaa
