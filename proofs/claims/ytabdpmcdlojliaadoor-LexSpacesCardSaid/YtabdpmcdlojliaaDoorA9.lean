/- Contracts of Lex's deferred closure: of a frame that panics, and of one that returns. -/
import Derived.Test.YtabdpmcdlojliaaDoorA8
import Derived.Defers
import Derived.Recover
import Derived.Laws.Pointers
import Derived.BigRegion
namespace Go.Proofs.YtabdpmcdlojliaaDoor
open Go.RowKit

theorem catch_idle (p q r : Addr) (w : World) :
    CallsD Tryd.prog 24 #[.pointer (some p), .pointer (some q), .pointer (some r)] .returning w fun e u' w' => e = .returned (.tuple #[]) ∧ u' = .returning ∧ w = w' := by
  refine callsD_of_wpS Tryd.func24 rfl fun c₀ cs hu => ?_
  apply wpS_seq
  apply wpS_region
  simp [wpOpsS, go_sem, recoverD, hu, Tryd.ntmps24, Exit.thenS]
  apply wpS_seq
  apply wpS_region
  simp [wpOpsS, go_sem, Exit.thenS]
  refine wpS_cond (t := false) (by simp [Act.eval, Array.replicate]) ?_
  simp only [Bool.false_eq_true, if_false]
  refine wpS_of_wp (wp_skip ?_)
  cases c₀
  simp_all [bodyPostS, results, Tryd.results24]

theorem run_place (a : Int) (w : World) : (Instr.typeAssert (.iface 42 (.int .i64 a)) 20 42 false).run Tryd.prog w = .ok (.int .i64 a) w := by kernel_rfl

set_option maxHeartbeats 1000000 in
theorem catch_panicking (B : Nat) (a : Nat) (x y z : Value) (older : List PanicEntry) (w : World) (h0 : w.heap[B]? = some (.cells #[x] 23 (0, 0))) (h1 : w.heap[B + 1]? = some (.cells #[y] 3 (0, 0))) (h2 : w.heap[B + 2]? = some (.cells #[z] 24 (0, 0))) :
    CallsD Tryd.prog 24 #[.pointer (some ⟨B, 0, none⟩), .pointer (some ⟨B + 1, 0, none⟩), .pointer (some ⟨B + 2, 0, none⟩)] (.panicking ({ v := .iface 42 (.int .i64 a), recovered := false } :: older)) w fun e u' w' =>
      e = .returned (.tuple #[]) ∧ u' = .panicking ({ v := .iface 42 (.int .i64 a), recovered := true } :: older) ∧
      w'.heap[B]? = some (.cells #[.slice none 0 0] 23 (0, 0)) ∧ w'.heap[B + 1]? = some (.cells #[.int .i64 a] 3 (0, 0)) ∧ w'.heap[B + 2]? = some (.cells #[.int .i64 30] 24 (0, 0)) ∧ Below B w w' := by
  have c0 := cell_of_block h0 0 (by simp)
  have c1 := cell_of_block h1 0 (by simp)
  have c2 := cell_of_block h2 0 (by simp)
  have f0 := free_of_block h0 0
  have f1 := free_of_block h1 0
  have f2 := free_of_block h2 0
  simp at c0 c1 c2
  have H0 := Lib.hid h0; have H1 := Lib.hid h1; have H2 := Lib.hid h2; clear h0 h1 h2
  refine callsD_of_wpS Tryd.func24 rfl fun c₀ cs hu => ?_
  apply wpS_seq
  apply wpS_region
  simp [wpOpsS, go_sem, recoverD, hu, Tryd.ntmps24, Exit.thenS]
  apply wpS_seq
  apply wpS_region
  simp [wpOpsS, go_sem, Exit.thenS]
  refine wpS_cond (t := true) (by simp [Act.eval, Array.replicate]) ?_
  simp only [if_true]
  refine wpS_of_wp ?_
  have hta := run_place
  simp only [Array.replicate]
  go_wp2
  go_region
  all_goals
    refine ⟨rfl, _, rfl, .tuple #[], results_none rfl _ _ _, rfl, rfl, ?_⟩
    have hb : Below B w (((w.setCell ⟨B, 0, none⟩ (.slice none 0 0)).setCell ⟨B + 1, 0, none⟩ (.int .i64 a)).setCell ⟨B + 2, 0, none⟩ (.int .i64 30)).drew :=
      (((((Below.refl B w).setCell (p := ⟨B, 0, none⟩) (Nat.le_refl _) _).setCell (p := ⟨B + 1, 0, none⟩) (by show B ≤ B + 1; omega) _).setCell (p := ⟨B + 2, 0, none⟩) (by show B ≤ B + 2; omega) _)).drew
    refine ⟨?_, ?_, ?_, hb⟩
    · show (((w.setCell ⟨B, 0, none⟩ (.slice none 0 0)).setCell ⟨B + 1, 0, none⟩ (.int .i64 a)).setCell ⟨B + 2, 0, none⟩ (.int .i64 30)).heap[B]? = _
      rw [Below.heap_setCell _ _ _ _ (by show B ≠ B + 2; omega), Below.heap_setCell _ _ _ _ (by show B ≠ B + 1; omega), heap_setCell_same H0.out]; simp
    · show (((w.setCell ⟨B, 0, none⟩ (.slice none 0 0)).setCell ⟨B + 1, 0, none⟩ (.int .i64 a)).setCell ⟨B + 2, 0, none⟩ (.int .i64 30)).heap[B + 1]? = _
      rw [Below.heap_setCell _ _ _ _ (by show B + 1 ≠ B + 2; omega), heap_setCell_same ((Below.heap_setCell _ _ _ _ (by show B + 1 ≠ B; omega)).trans H1.out)]; simp
    · show (((w.setCell ⟨B, 0, none⟩ (.slice none 0 0)).setCell ⟨B + 1, 0, none⟩ (.int .i64 a)).setCell ⟨B + 2, 0, none⟩ (.int .i64 30)).heap[B + 2]? = _
      rw [heap_setCell_same ((Below.heap_setCell _ _ _ _ (by show B + 2 ≠ B + 1; omega)).trans ((Below.heap_setCell _ _ _ _ (by show B + 2 ≠ B; omega)).trans H2.out))]; simp
end Go.Proofs.YtabdpmcdlojliaaDoor
