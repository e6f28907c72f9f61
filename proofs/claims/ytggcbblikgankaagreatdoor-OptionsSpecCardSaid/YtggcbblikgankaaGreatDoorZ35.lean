/- Contracts and plain laws on the way to the statement: part 35. -/
import Derived.Test.YtggcbblikgankaaGreatDoorZ34
set_option linter.unusedVariables false
set_option linter.unusedSimpArgs false
section
namespace Go.Proofs.YtggcbblikgankaaGreatDoor
open Go Go.RowKit
set_option maxRecDepth 100000 in
set_option maxHeartbeats 8000000 in
theorem whole_any (s : Sgn) (w : World) : Calls Tryz.prog 60 #[sgnV s] w fun e w' => e = .returned (sgnV { s with fn := 0, fd := 1, tn := 1, td := 1 }) ∧ Below w.heap.size w w' := by
 have hb := blocks2 w (.cells #[.int .i64 s.id, .int .i64 s.role, .int .i64 s.bar, .int .i64 s.mark, .int .i64 s.kind, .int .i64 s.side, .int .i64 s.dir, .int .i64 s.level, .int .i64 s.size, .int .i64 s.wth, .int .i64 0, .int .i64 1, .int .i64 1, .int .i64 1] 72) (.cells #[.int .i64 s.id, .int .i64 s.role, .int .i64 s.bar, .int .i64 s.mark, .int .i64 s.kind, .int .i64 s.side, .int .i64 s.dir, .int .i64 s.level, .int .i64 s.size, .int .i64 s.wth, .int .i64 0, .int .i64 1, .int .i64 1, .int .i64 1] 72)
 have HB := Lib.hid hb; clear hb
 unfold sgnV
 go_enter Tryz.func60, Tryz.ntmps60
 go_wp2_with fail
 refine bodyPost_ret (results_cell_row rfl _ _ (w.heap.size + 1) 72 _ (0, 0) _ rfl HB.out.2.1 Tryz.underlying72 rfl (by kernel_rfl)) rfl ⟨rfl, HB.out.2.2.2⟩
set_option maxRecDepth 100000 in
set_option maxHeartbeats 8000000 in
theorem dancer_any (w : World) : Calls Tryz.prog 32 #[] w fun e w' => e = .returned (bodV ⟨[100], 60, 40, 1, 3, 2, 4, 3, 2, 100, 100, 100, 2, 3, 3, 500, 100⟩) ∧ Below w.heap.size w w' := by
 have hb := blocks1 w (.cells (bodCells ⟨[100], 60, 40, 1, 3, 2, 4, 3, 2, 100, 100, 100, 2, 3, 3, 500, 100⟩) 35)
 unfold bodCells at hb
 have HB := Lib.hid hb; clear hb
 unfold bodV
 go_enter Tryz.func32, Tryz.ntmps32
 go_wp2_with fail
 refine bodyPost_ret (results_cell_row rfl _ _ w.heap.size 35 _ (0, 0) _ rfl HB.out.1 Tryz.underlying35 rfl (by kernel_rfl)) rfl ⟨rfl, HB.out.2.2⟩
end Go.Proofs.YtggcbblikgankaaGreatDoor
end
