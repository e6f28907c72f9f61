/- Contracts and plain laws on the way to the statement: part 11. -/
import Derived.Test.YtggcbblikgankaaGreatDoorZ2
import Derived.Test.YtggcbblikgankaaGreatDoorZ8
import Derived.Test.YtggcbblikgankaaGreatDoorProg
import Derived.WalkKit
import Derived.WalkSpells
import Derived.WalkLawsBesides
import Derived.Lib.Hide
import Derived.Laws.StructEq
import Derived.Test.YtggcbblikgankaaGreatDoorZ3
set_option linter.unusedVariables false
set_option linter.unusedSimpArgs false
set_option maxRecDepth 100000
set_option maxHeartbeats 16000000
namespace Go.Proofs.YtggcbblikgankaaGreatDoor
open Go.Value (int)
open Go.IntKind (i64)
section
open Go.RowKit
theorem Af {a b : Int} (h : a = b) : Ending.returned (int i64 a) = .returned (int i64 b) := by rw [h]
theorem Nu {a b : Int} (h : a = b) : Ending.returned (.int .u64 a) = .returned (.int .u64 b) := by rw [h]
theorem Aa {a b : Bool} (h : a = b) : Ending.returned (.bool a) = .returned (.bool b) := by rw [h]
theorem wrap_u64 (n : Int) : IntKind.u64.wrap n = n % 18446744073709551616 := by
 unfold IntKind.wrap; simp [IntKind.signed, IntKind.bits]
theorem FW (a : Int) (w : World) : Calls Tryz.prog 88 #[int i64 a] w fun e w' => e = .returned (.bool false) ∧ w = w' := by
 go_enter Tryz.func88, Tryz.ntmps88
 go_wp2
 go_ret
 exact ⟨Aa (by simp), rfl⟩
theorem Ew (a b : Int) (w : World) : Calls Tryz.prog 63 #[int i64 a, int i64 b] w fun e w' => e = .returned (int i64 (By a b)) ∧ w = w' := by
 by_cases h1 : a < b
 ·go_enter Tryz.func63, Tryz.ntmps63
  go_wp2_with (go_at_call 88; refine (FW _ _).mono ?_; rintro e w' ⟨rfl, rfl⟩)
  go_ret
  exact ⟨Af (by unfold By; rw [if_pos h1]), rfl⟩
 ·by_cases h2 : b < a
  ·go_enter Tryz.func63, Tryz.ntmps63
   go_wp2_with (go_at_call 88; refine (FW _ _).mono ?_; rintro e w' ⟨rfl, rfl⟩)
   go_ret
   exact ⟨Af (by unfold By; rw [if_neg (by omega), if_pos h2]), rfl⟩
  ·go_enter Tryz.func63, Tryz.ntmps63
   go_wp2_with (go_at_call 88; refine (FW _ _).mono ?_; rintro e w' ⟨rfl, rfl⟩)
   go_ret
   exact ⟨Af (by unfold By; rw [if_neg (by omega), if_neg (by omega)]), rfl⟩
theorem IN (n : Int) (h1 : -1073741824 ≤ n) (h2 : n ≤ 1073741824) (w : World) : Calls Tryz.prog 150 #[int i64 n] w fun e w' => e = .returned (.int .u64 (n.natAbs : Nat)) ∧ w = w' := by
 by_cases h : n < 0
 ·go_enter Tryz.func150, Tryz.ntmps150
  go_wp2
  go_ret
  exact ⟨Nu (by rw [wrap_u64, wrap_u64]; omega), rfl⟩
 ·go_enter Tryz.func150, Tryz.ntmps150
  go_wp2
  go_ret
  exact ⟨Nu (by omega), rfl⟩
end
section
open Go.RowKit
theorem Ed (a b c d : Int) (w : World) : (binOp .eql 70 (.agg #[int i64 a, int i64 b]) (.agg #[int i64 c, int i64 d])).run Tryz.prog w = .ok (.bool (a == c && b == d)) w := by
 have u3 := Tryz.underlying3
 have a3 := Tryz.isAgg3
 have z3 := Tryz.sizeOf3
 have hS : Tryz.prog.underlying 70 = some (.struct (Tryz.prog.fieldsOf 70)) := by kernel_rfl
 have hp : Tryz.prog.stoodInHeld 70 = false := by kernel_rfl
 rw [run_eql_struct, show (10000 : Nat) = 9999 + 1 from rfl, run_equalIn_agg w 9999 70 _ _ hS hp]
 simp only [Program.fieldsOf, Tryz.underlying70]
 go_simp
 by_cases h1 : a = c <;> by_cases h2 : b = d <;> simp [h1, h2]
end
end Go.Proofs.YtggcbblikgankaaGreatDoor
