/- The walk of the statement: part 10. -/
import Derived.Test.YtpnbpepkoekkoaaZ39
set_option linter.unusedVariables false
set_option linter.unusedSimpArgs false
section
namespace Go.Proofs.Ytpnbpepkoekkoaa
open Go Go.ChangeShapes Go.WideShapes Go.ChangeAt Go.RowKit Go.Deep
section
variable {H : Type} {enc : TypeId × Value → H} {W : World}
set_option maxRecDepth 100000
set_option maxRecDepth 100000 in
theorem len30 {et : TypeId × Value → H} {n : Nat} {s : Ls} {y : DataW H × List MemPlace} (h : DataW.trod et Try.prog W 0 (fun _ => true) true n 30 s.cells.toList = some y) (hw : Wt 30 y.1) : s.roles.length ≤ 4000000000000 ∧ s.phrases.length ≤ 4000000000000 := by
 obtain ⟨ys, m, rfl, rfl, hl, hyl, hf⟩ := DataW.trod_struct Try.underlying30 h
 obtain ⟨y5, hy5⟩ : ∃ y, ys[5]? = some y := ⟨_, List.getElem?_eq_getElem (by rw [hyl]; decide)⟩
 have f5 : DataW.trod et Try.prog W 0 (fun _ => true) true m 23 ((s.cells.toList.drop 6).take (Try.prog.cellsOf 23)) = some y5 := (hf 5 _ rfl).trans hy5
 rw [cellsT23] at f5
 obtain ⟨y9, hy9⟩ : ∃ y, ys[9]? = some y := ⟨_, List.getElem?_eq_getElem (by rw [hyl]; decide)⟩
 have f9 : DataW.trod et Try.prog W 0 (fun _ => true) true m 27 ((s.cells.toList.drop 10).take (Try.prog.cellsOf 27)) = some y9 := (hf 9 _ rfl).trans hy9
 rw [cellsT27] at f9
 have w5 : Wt 23 y5.1 := hw.field Try.underlying30 (j := 5) rfl (by rw [List.getElem?_map, hy5]; rfl)
 have w9 : Wt 27 y9.1 := hw.field Try.underlying30 (j := 9) rfl (by rw [List.getElem?_map, hy9]; rfl)
 have g5 := slice_wt (l := s.roles.length) (ao := s.ra) (cap := s.rc) Try.underlying23 f5 w5
 have g9 := slice_wt (l := s.phrases.length) (ao := s.fa) (cap := s.fc) Try.underlying27 f9 w9
 rw [show Try.prog.bytesOf 59 = 40 by kernel_rfl] at g5
 rw [show Try.prog.bytesOf 57 = 40 by kernel_rfl] at g9
 unfold reachBytes at g5 g9
 omega
theorem score_len {s : Ls} {d : DataW H} {p : List MemPlace} (h : DataW.Trod enc Try.prog W 0 (fun _ => true) true 30 s.val d p) (hw : Wt 30 d) : s.roles.length ≤ 4000000000000 ∧ s.phrases.length ≤ 4000000000000 := by
 obtain ⟨fuel, hf⟩ := h
 exact len30 hf hw
end
end Go.Proofs.Ytpnbpepkoekkoaa
end
