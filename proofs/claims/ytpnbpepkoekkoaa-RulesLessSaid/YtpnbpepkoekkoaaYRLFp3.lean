/- The walk of the statement: part 3. -/
import Derived.Test.YtpnbpepkoekkoaaZ38
import Derived.Test.YtpnbpepkoekkoaaZ3
set_option linter.unusedVariables false
set_option linter.unusedSimpArgs false
set_option maxRecDepth 100000
set_option maxHeartbeats 16000000
namespace Go.Proofs.Ytpnbpepkoekkoaa
open Go.Value (int)
open Go.IntKind (i64)
section
open Go Go.ChangeShapes Go.WideShapes Go.ChangeAt Go.RowKit Go.Deep
section
variable {H : Type} {enc : TypeId × Value → H} {W : World}
end
end
section
open Go Go.ChangeShapes Go.WideShapes Go.ChangeAt Go.RowKit Go.Deep
section
variable {H : Type} {enc : TypeId × Value → H} {W : World}
theorem QC {et : TypeId × Value → H} {n : Nat} {t e : TypeId} {ao : Option Addr} {l cap : Nat} {y : DataW H × List MemPlace} (ht : Try.prog.underlying t = some (.slice e)) (h : DataW.trod et Try.prog W 0 (fun _ => true) true n t [.slice ao l cap] = some y) : l ≤ cap := by
 rcases DataW.trod_slice ht h with ⟨e1, _⟩ | ⟨a, len, cap', elems, rest, m, rfl, e1, rfl, _, hlc, _⟩
 ·cases e1; exact Nat.zero_le _
 ·cases e1; exact hlc
theorem RB {et : TypeId × Value → H} {n : Nat} {s : Ls} {y : DataW H × List MemPlace} (h : DataW.trod et Try.prog W 0 (fun _ => true) true n 30 s.cells.toList = some y) : s.dances.length ≤ s.dc ∧ s.pauses.length ≤ s.uc ∧ s.spans.length ≤ s.sc := by
 obtain ⟨ys, m, rfl, rfl, hl, hyl, hf⟩ := DataW.trod_struct Try.underlying30 h; obtain ⟨y7, hy7⟩ : ∃ y, ys[7]? = some y := ⟨_, qg (by rw [hyl]; decide)⟩; have f7 : DataW.trod et Try.prog W 0 (fun _ => true) true m 25 ((s.cells.toList.drop 8).take (Try.prog.cellsOf 25)) = some y7 := (hf 7 _ rfl).trans hy7; rw [KJ] at f7; obtain ⟨y8, hy8⟩ : ∃ y, ys[8]? = some y := ⟨_, qg (by rw [hyl]; decide)⟩; have f8 : DataW.trod et Try.prog W 0 (fun _ => true) true m 26 ((s.cells.toList.drop 9).take (Try.prog.cellsOf 26)) = some y8 := (hf 8 _ rfl).trans hy8; rw [KK] at f8; obtain ⟨y10, hy10⟩ : ∃ y, ys[10]? = some y := ⟨_, qg (by rw [hyl]; decide)⟩; have f10 : DataW.trod et Try.prog W 0 (fun _ => true) true m 28 ((s.cells.toList.drop 11).take (Try.prog.cellsOf 28)) = some y10 := (hf 10 _ rfl).trans hy10; rw [KM] at f10; exact ⟨QC (ao := s.da) Try.underlying28 f10, QC (ao := s.ua) Try.underlying25 f7, QC (ao := s.sa) Try.underlying26 f8⟩
theorem QP {s : Ls} {d : DataW H} {p : List MemPlace} (h : DataW.Trod enc Try.prog W 0 (fun _ => true) true 30 s.val d p) : s.dances.length ≤ s.dc ∧ s.pauses.length ≤ s.uc ∧ s.spans.length ≤ s.sc := by
 obtain ⟨fuel, hf⟩ := h; exact RB hf
end
end
end Go.Proofs.Ytpnbpepkoekkoaa
