/- Contracts and plain laws on the way to the statement: part 18. -/
import Derived.Test.YtggcbblikgankaaGreatDoorZ17
import Derived.Test.YtggcbblikgankaaGreatDoorZ10
import Derived.Deep.RegionHeld3
set_option linter.unusedVariables false
set_option linter.unusedSimpArgs false
section
namespace Go.Proofs.YtggcbblikgankaaGreatDoor
open Go.RowKit
theorem eq_turn (a b c d e f : Int) (w : World) : (binOp .neq 23 (.agg #[.int .i64 a, .int .i64 b, .int .i64 c]) (.agg #[.int .i64 d, .int .i64 e, .int .i64 f])).run Tryz.prog w = .ok (.bool (!(a == d && b == e && c == f))) w := by
 have u3 := Tryz.underlying3
 have a3 := Tryz.isAgg3
 have z3 := Tryz.sizeOf3
 have hS : Tryz.prog.underlying 23 = some (.struct (Tryz.prog.fieldsOf 23)) := by kernel_rfl
 have hp : Tryz.prog.stoodInHeld 23 = false := by kernel_rfl
 rw [run_neq_struct, show (10000 : Nat) = 9999 + 1 from rfl, run_equalIn_agg w 9999 23 _ _ hS hp]
 simp only [Program.fieldsOf, Tryz.underlying23]
 go_simp
 by_cases h1 : a = d <;> by_cases h2 : b = e <;> by_cases h3 : c = f <;> simp [h1, h2, h3]
theorem trn_c {a b c : Int} (h : c < 1 ∨ 32768 < c) : trnB a b c = false := by unfold trnB; rw [inB_false.2 h]; rfl
theorem trn_a {a b c : Int} (h : a < -c ∨ c < a ∨ b < -c ∨ c < b) : trnB a b c = false := by
 unfold trnB
 rcases h with h | h | h | h
 ·rw [inB_false.2 (show a < -c ∨ _ from Or.inl h)]; simp
 ·rw [inB_false.2 (show _ ∨ c < a from Or.inr h)]; simp
 ·rw [inB_false.2 (show b < -c ∨ _ from Or.inl h)]; simp
 ·rw [inB_false.2 (show _ ∨ c < b from Or.inr h)]; simp
theorem trn_eq {a b c : Int} (h : ¬ a * a + b * b = c * c) : trnB a b c = false := by unfold trnB; rw [decide_eq_false h]; simp
set_option maxHeartbeats 2000000 in
theorem turn_no (A B C : Int) (h : C < 1 ∨ 32768 < C) (w : World) : Calls Tryz.prog 81 #[.agg #[.int .i64 A, .int .i64 B, .int .i64 C]] w fun e w' => e = .returned (.int .i64 140) ∧ Below w.heap.size w w' := by
 by_cases h1 : C < 1
 ·clear h
  go_enter Tryz.func81, Tryz.ntmps81
  go_wp2_with fail
  go_quiet (fail)
  go_wp2
  go_ret
  exact ⟨rfl, below_drewN ((Below.refl _ _).alloc (Nat.le_refl _) _) _⟩
 ·have f1 : decide (C < 1) = false := by simpa using h1
  have h2 : 32768 < C := by omega
  clear h h1
  go_enter Tryz.func81, Tryz.ntmps81
  go_wp2_with fail
  go_quiet (fail)
  go_wp2
  go_ret
  exact ⟨rfl, below_drewN ((Below.refl _ _).alloc (Nat.le_refl _) _) _⟩
theorem sq_bd {a : Int} (h1 : -32768 ≤ a) (h2 : a ≤ 32768) : 0 ≤ a * a ∧ a * a ≤ 1073741824 := by
 have hx : (a * a).natAbs ≤ 1073741824 := by
  rw [Int.natAbs_mul]
  calc a.natAbs * a.natAbs ≤ 32768 * 32768 := Nat.mul_le_mul (by omega) (by omega)
   _ = 1073741824 := by decide
 have h0 : 0 ≤ a * a := by
  rcases Int.le_total 0 a with h | h
  ·exact Int.mul_nonneg h h
  ·exact Int.mul_nonneg_of_nonpos_of_nonpos h h
 omega
theorem gcd3_one {a b c : Int} (hc : 1 ≤ c) : ((a.tdiv (gcd3 a b c) == a && b.tdiv (gcd3 a b c) == b && c / gcd3 a b c == c)) = decide (Nat.gcd (Nat.gcd a.natAbs b.natAbs) c.natAbs = 1) := by
 by_cases h : Nat.gcd (Nat.gcd a.natAbs b.natAbs) c.natAbs = 1
 ·have : gcd3 a b c = 1 := by unfold gcd3; omega
  rw [this, decide_eq_true h]; simp
 ·rw [decide_eq_false h]
  have hp : 0 < Nat.gcd (Nat.gcd a.natAbs b.natAbs) c.natAbs := Nat.gcd_pos_of_pos_right _ (by omega)
  have h2 : 2 ≤ gcd3 a b c := by unfold gcd3; omega
  have : ¬ c / gcd3 a b c = c := by
   intro e
   have h3 : gcd3 a b c * (c / gcd3 a b c) ≤ c := Int.mul_ediv_self_le (by omega)
   rw [e] at h3
   have : 2 * c ≤ gcd3 a b c * c := Int.mul_le_mul_of_nonneg_right h2 (by omega)
   omega
  simp [this]
theorem trn_all {a b c : Int} (h1 : 1 ≤ c) (h2 : c ≤ 32768) (h3 : -c ≤ a) (h4 : a ≤ c) (h5 : -c ≤ b) (h6 : b ≤ c) (h7 : a * a + b * b = c * c) : trnB a b c = decide (Nat.gcd (Nat.gcd a.natAbs b.natAbs) c.natAbs = 1) := by
 unfold trnB; rw [inB_iff.2 ⟨h1, h2⟩, inB_iff.2 ⟨h3, h4⟩, inB_iff.2 ⟨h5, h6⟩, decide_eq_true h7]; rfl
set_option maxHeartbeats 4000000 in
theorem turn_min_lt (A B C : Int) (hc1 : 1 ≤ C) (hc2 : C ≤ 32768) (ho : A < B) (h : A < -C) (w : World) : Calls Tryz.prog 81 #[.agg #[.int .i64 A, .int .i64 B, .int .i64 C]] w fun e w' => e = .returned (.int .i64 140) ∧ Below w.heap.size w w' := by
 have f1 : decide (C < 1) = false := by simpa using by omega
 have f2 : decide (32768 < C) = false := by simpa using by omega
 go_enter Tryz.func81, Tryz.ntmps81
 go_wp2_with fail
 go_quiet (fail)
 go_wp2
 go_ret
 exact ⟨rfl, below_drewN ((Below.refl _ _).alloc (Nat.le_refl _) _) _⟩
set_option maxHeartbeats 4000000 in
theorem turn_max_lt (A B C : Int) (hc1 : 1 ≤ C) (hc2 : C ≤ 32768) (ho : A < B) (h0 : ¬ A < -C) (h : C < B) (w : World) : Calls Tryz.prog 81 #[.agg #[.int .i64 A, .int .i64 B, .int .i64 C]] w fun e w' => e = .returned (.int .i64 140) ∧ Below w.heap.size w w' := by
 have f1 : decide (C < 1) = false := by simpa using by omega
 have f2 : decide (32768 < C) = false := by simpa using by omega
 have f3 : decide (A < -C) = false := by simpa using h0
 go_enter Tryz.func81, Tryz.ntmps81
 go_wp2_with fail
 go_quiet (fail)
 go_wp2
 go_ret
 exact ⟨rfl, below_drewN ((Below.refl _ _).alloc (Nat.le_refl _) _) _⟩
set_option maxHeartbeats 4000000 in
theorem turn_sum_lt (A B C : Int) (hc1 : 1 ≤ C) (hc2 : C ≤ 32768) (ho : A < B) (h0 : ¬ A < -C) (h1 : ¬ C < B) (h : ¬ A * A + B * B = C * C) (w : World) : Calls Tryz.prog 81 #[.agg #[.int .i64 A, .int .i64 B, .int .i64 C]] w fun e w' => e = .returned (.int .i64 140) ∧ Below w.heap.size w w' := by
 have pa := sq_bd (a := A) (by omega) (by omega)
 have pb := sq_bd (a := B) (by omega) (by omega)
 have pc := sq_bd (a := C) (by omega) (by omega)
 have f1 : decide (C < 1) = false := by simpa using by omega
 have f2 : decide (32768 < C) = false := by simpa using by omega
 have f3 : decide (A < -C) = false := by simpa using h0
 have f4 : decide (C < B) = false := by simpa using h1
 have hw1 : IntKind.i64.wrap (A * A) = A * A := IntWalk.i64_in _ (by omega)
 have hw2 : IntKind.i64.wrap (B * B) = B * B := IntWalk.i64_in _ (by omega)
 have hw3 : IntKind.i64.wrap (C * C) = C * C := IntWalk.i64_in _ (by omega)
 have hw4 : IntKind.i64.wrap (A * A + B * B) = A * A + B * B := IntWalk.i64_in _ (by omega)
 have f5 : (A * A + B * B != C * C) = true := by simpa using h
 clear h h0 h1 pa pb pc
 go_enter Tryz.func81, Tryz.ntmps81
 go_wp2_with fail
 go_quiet (fail)
 go_wp2
 go_ret
 exact ⟨rfl, below_drewN ((Below.refl _ _).alloc (Nat.le_refl _) _) _⟩
set_option maxHeartbeats 4000000 in
theorem turn_min_eq (A B C : Int) (hc1 : 1 ≤ C) (hc2 : C ≤ 32768) (ho : A = B) (h : A < -C) (w : World) : Calls Tryz.prog 81 #[.agg #[.int .i64 A, .int .i64 B, .int .i64 C]] w fun e w' => e = .returned (.int .i64 140) ∧ Below w.heap.size w w' := by
 subst ho
 have f1 : decide (C < 1) = false := by simpa using by omega
 have f2 : decide (32768 < C) = false := by simpa using by omega
 go_enter Tryz.func81, Tryz.ntmps81
 go_wp2_with fail
 go_quiet (fail)
 go_wp2
 go_ret
 exact ⟨rfl, below_drewN ((Below.refl _ _).alloc (Nat.le_refl _) _) _⟩
set_option maxHeartbeats 4000000 in
theorem turn_max_eq (A B C : Int) (hc1 : 1 ≤ C) (hc2 : C ≤ 32768) (ho : A = B) (h0 : ¬ A < -C) (h : C < A) (w : World) : Calls Tryz.prog 81 #[.agg #[.int .i64 A, .int .i64 B, .int .i64 C]] w fun e w' => e = .returned (.int .i64 140) ∧ Below w.heap.size w w' := by
 subst ho
 have f1 : decide (C < 1) = false := by simpa using by omega
 have f2 : decide (32768 < C) = false := by simpa using by omega
 have f3 : decide (A < -C) = false := by simpa using h0
 go_enter Tryz.func81, Tryz.ntmps81
 go_wp2_with fail
 go_quiet (fail)
 go_wp2
 go_ret
 exact ⟨rfl, below_drewN ((Below.refl _ _).alloc (Nat.le_refl _) _) _⟩
set_option maxHeartbeats 4000000 in
theorem turn_sum_eq (A B C : Int) (hc1 : 1 ≤ C) (hc2 : C ≤ 32768) (ho : A = B) (h0 : ¬ A < -C) (h1 : ¬ C < A) (h : ¬ A * A + B * B = C * C) (w : World) : Calls Tryz.prog 81 #[.agg #[.int .i64 A, .int .i64 B, .int .i64 C]] w fun e w' => e = .returned (.int .i64 140) ∧ Below w.heap.size w w' := by
 have pa := sq_bd (a := A) (by omega) (by omega)
 have pb := sq_bd (a := B) (by omega) (by omega)
 have pc := sq_bd (a := C) (by omega) (by omega)
 subst ho
 have f1 : decide (C < 1) = false := by simpa using by omega
 have f2 : decide (32768 < C) = false := by simpa using by omega
 have f3 : decide (A < -C) = false := by simpa using h0
 have f4 : decide (C < A) = false := by simpa using h1
 have hw1 : IntKind.i64.wrap (A * A) = A * A := IntWalk.i64_in _ (by omega)
 have hw2 : IntKind.i64.wrap (A * A) = A * A := IntWalk.i64_in _ (by omega)
 have hw3 : IntKind.i64.wrap (C * C) = C * C := IntWalk.i64_in _ (by omega)
 have hw4 : IntKind.i64.wrap (A * A + A * A) = A * A + A * A := IntWalk.i64_in _ (by omega)
 have f5 : (A * A + A * A != C * C) = true := by simpa using h
 clear h h0 h1 pa pb pc
 go_enter Tryz.func81, Tryz.ntmps81
 go_wp2_with fail
 go_quiet (fail)
 go_wp2
 go_ret
 exact ⟨rfl, below_drewN ((Below.refl _ _).alloc (Nat.le_refl _) _) _⟩
set_option maxHeartbeats 4000000 in
theorem turn_min_gt (A B C : Int) (hc1 : 1 ≤ C) (hc2 : C ≤ 32768) (ho : B < A) (h : B < -C) (w : World) : Calls Tryz.prog 81 #[.agg #[.int .i64 A, .int .i64 B, .int .i64 C]] w fun e w' => e = .returned (.int .i64 140) ∧ Below w.heap.size w w' := by
 have f1 : decide (C < 1) = false := by simpa using by omega
 have f2 : decide (32768 < C) = false := by simpa using by omega
 go_enter Tryz.func81, Tryz.ntmps81
 go_wp2_with fail
 go_quiet (fail)
 go_wp2
 go_ret
 exact ⟨rfl, below_drewN ((Below.refl _ _).alloc (Nat.le_refl _) _) _⟩
set_option maxHeartbeats 4000000 in
theorem turn_max_gt (A B C : Int) (hc1 : 1 ≤ C) (hc2 : C ≤ 32768) (ho : B < A) (h0 : ¬ B < -C) (h : C < A) (w : World) : Calls Tryz.prog 81 #[.agg #[.int .i64 A, .int .i64 B, .int .i64 C]] w fun e w' => e = .returned (.int .i64 140) ∧ Below w.heap.size w w' := by
 have f1 : decide (C < 1) = false := by simpa using by omega
 have f2 : decide (32768 < C) = false := by simpa using by omega
 have f3 : decide (B < -C) = false := by simpa using h0
 go_enter Tryz.func81, Tryz.ntmps81
 go_wp2_with fail
 go_quiet (fail)
 go_wp2
 go_ret
 exact ⟨rfl, below_drewN ((Below.refl _ _).alloc (Nat.le_refl _) _) _⟩
set_option maxHeartbeats 4000000 in
theorem turn_sum_gt (A B C : Int) (hc1 : 1 ≤ C) (hc2 : C ≤ 32768) (ho : B < A) (h0 : ¬ B < -C) (h1 : ¬ C < A) (h : ¬ A * A + B * B = C * C) (w : World) : Calls Tryz.prog 81 #[.agg #[.int .i64 A, .int .i64 B, .int .i64 C]] w fun e w' => e = .returned (.int .i64 140) ∧ Below w.heap.size w w' := by
 have pa := sq_bd (a := A) (by omega) (by omega)
 have pb := sq_bd (a := B) (by omega) (by omega)
 have pc := sq_bd (a := C) (by omega) (by omega)
 have f1 : decide (C < 1) = false := by simpa using by omega
 have f2 : decide (32768 < C) = false := by simpa using by omega
 have f3 : decide (B < -C) = false := by simpa using h0
 have f4 : decide (C < A) = false := by simpa using h1
 have hw1 : IntKind.i64.wrap (A * A) = A * A := IntWalk.i64_in _ (by omega)
 have hw2 : IntKind.i64.wrap (B * B) = B * B := IntWalk.i64_in _ (by omega)
 have hw3 : IntKind.i64.wrap (C * C) = C * C := IntWalk.i64_in _ (by omega)
 have hw4 : IntKind.i64.wrap (A * A + B * B) = A * A + B * B := IntWalk.i64_in _ (by omega)
 have f5 : (A * A + B * B != C * C) = true := by simpa using h
 clear h h0 h1 pa pb pc
 go_enter Tryz.func81, Tryz.ntmps81
 go_wp2_with fail
 go_quiet (fail)
 go_wp2
 go_ret
 exact ⟨rfl, below_drewN ((Below.refl _ _).alloc (Nat.le_refl _) _) _⟩
end Go.Proofs.YtggcbblikgankaaGreatDoor
end
