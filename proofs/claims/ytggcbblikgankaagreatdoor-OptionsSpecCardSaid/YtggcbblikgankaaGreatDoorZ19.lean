/- Contracts and plain laws on the way to the statement: part 19. -/
import Derived.Test.YtggcbblikgankaaGreatDoorZ18
set_option linter.unusedVariables false
set_option linter.unusedSimpArgs false
section
namespace Go.Proofs.YtggcbblikgankaaGreatDoor
open Go.RowKit
def boxS (A B C : Int) (g : Nat) (W : World) : World → Prop := fun w2 => w2.cell? ⟨g, 0, none⟩ = some (.int .i64 A) ∧ w2.cell? ⟨g, 1, none⟩ = some (.int .i64 B) ∧ w2.cell? ⟨g, 2, none⟩ = some (.int .i64 C) ∧ Below g W w2 ∧ g < w2.heap.size
theorem lowest_box (A B C x y z : Int) (g : Nat) (W w : World) (hl : ∀ w, Calls Tryz.prog 114 #[.agg #[.int .i64 A, .int .i64 B, .int .i64 C]] w fun e w' => e = .returned (.agg #[.int .i64 x, .int .i64 y, .int .i64 z]) ∧ Below w.heap.size w w')
  (h : w.cell? ⟨g, 0, none⟩ = some (.int .i64 A) ∧ w.cell? ⟨g, 1, none⟩ = some (.int .i64 B) ∧ w.cell? ⟨g, 2, none⟩ = some (.int .i64 C) ∧ Below g W w ∧ g < w.heap.size) :
  Calls Tryz.prog 114 #[.agg #[.int .i64 A, .int .i64 B, .int .i64 C]] w fun e w' => e = .returned (.agg #[.int .i64 x, .int .i64 y, .int .i64 z]) ∧ (w'.cell? ⟨g, 0, none⟩ = some (.int .i64 A) ∧ w'.cell? ⟨g, 1, none⟩ = some (.int .i64 B) ∧ w'.cell? ⟨g, 2, none⟩ = some (.int .i64 C) ∧ Below g W w' ∧ g < w'.heap.size) :=
 (hl w).mono fun _ _ ⟨he, hx⟩ => ⟨he, (hx.cell (p := ⟨g, 0, none⟩) h.2.2.2.2).trans h.1, (hx.cell (p := ⟨g, 1, none⟩) h.2.2.2.2).trans h.2.1, (hx.cell (p := ⟨g, 2, none⟩) h.2.2.2.2).trans h.2.2.1, h.2.2.2.1.trans (hx.mono (Nat.le_of_lt h.2.2.2.2)), Nat.lt_of_lt_of_le h.2.2.2.2 hx.size⟩
theorem turn_pack (A B C : Int) (hc1 : 1 ≤ C) (h1 : -1073741824 ≤ A ∧ A ≤ 1073741824) (h2 : -1073741824 ≤ B ∧ B ≤ 1073741824) (h3 : C ≤ 1073741824) : ∃ (x y z : Int) (bc : Bool), (∀ w, Calls Tryz.prog 114 #[.agg #[.int .i64 A, .int .i64 B, .int .i64 C]] w fun e w' => e = .returned (.agg #[.int .i64 x, .int .i64 y, .int .i64 z]) ∧ Below w.heap.size w w') ∧
  (∀ w, (binOp .neq 23 (.agg #[.int .i64 x, .int .i64 y, .int .i64 z]) (.agg #[.int .i64 A, .int .i64 B, .int .i64 C])).run Tryz.prog w = .ok (.bool bc) w) ∧ bc = !decide (Nat.gcd (Nat.gcd A.natAbs B.natAbs) C.natAbs = 1) := by
 refine ⟨A.tdiv (gcd3 A B C), B.tdiv (gcd3 A B C), C / gcd3 A B C, _, fun w => lowest_any A B C w (by omega) (by omega) (by omega), fun w => eq_turn _ _ _ _ _ _ w, ?_⟩
 rw [gcd3_one hc1]
set_option maxRecDepth 100000 in
set_option maxHeartbeats 4000000 in
theorem turn_yes_lt (A B C : Int) (hc1 : 1 ≤ C) (hc2 : C ≤ 32768) (ho : A < B) (h0 : ¬ A < -C) (h1 : ¬ C < B) (h : A * A + B * B = C * C) (w : World) : Calls Tryz.prog 81 #[.agg #[.int .i64 A, .int .i64 B, .int .i64 C]] w fun e w' => e = .returned (.int .i64 (codeI (trnB A B C) 140)) ∧ Below w.heap.size w w' := by
 have pa := sq_bd (a := A) (by omega) (by omega)
 have pb := sq_bd (a := B) (by omega) (by omega)
 have pc := sq_bd (a := C) (by omega) (by omega)
 have HT := Lib.hid (trn_all hc1 hc2 (by omega) (by omega) (by omega) (by omega) h)
 obtain ⟨x, y, z, bc, hlow, hq, hbc⟩ := turn_pack A B C hc1 (by omega) (by omega) (by omega)
 have HL := Lib.hid hlow; clear hlow
 have HB := Lib.hid hbc; clear hbc
 skip
 have f1 : decide (C < 1) = false := by simpa using by omega
 have f2 : decide (32768 < C) = false := by simpa using by omega
 have f3 : decide (A < -C) = false := by simpa using h0
 have f4 : decide (C < B) = false := by simpa using h1
 have hw1 : IntKind.i64.wrap (A * A) = A * A := IntWalk.i64_in _ (by omega)
 have hw2 : IntKind.i64.wrap (B * B) = B * B := IntWalk.i64_in _ (by omega)
 have hw3 : IntKind.i64.wrap (C * C) = C * C := IntWalk.i64_in _ (by omega)
 have hw4 : IntKind.i64.wrap (A * A + B * B) = A * A + B * B := IntWalk.i64_in _ (by omega)
 have f5 : (A * A + B * B != C * C) = false := by simpa using h
 have hmin : (if B < A then B else A) = A := if_neg (by omega)
 have hmax : (if A < B then B else A) = B := if_pos ho
 have hneg : IntKind.i64.wrap (-C) = -C := IntWalk.i64_in _ (by omega)
 clear h h0 h1 pa pb pc
 go_enter Tryz.func81, Tryz.ntmps81
 go_wp2_with fail
 have hS : boxS A B C w.heap.size w (w.alloc (.cells #[.int .i64 A, .int .i64 B, .int .i64 C] 23)) := ⟨cell_at (heap_alloc_new w _) 0 rfl, cell_at (heap_alloc_new w _) 1 rfl, cell_at (heap_alloc_new w _) 2 rfl, (Below.refl _ _).alloc (Nat.le_refl _) _, by simp⟩
 generalize w.alloc (.cells #[.int .i64 A, .int .i64 B, .int .i64 C] 23) = w0 at *
 obtain ⟨c0, c1, c2, c3, c4⟩ := hS
 have hbd := c3.drew
 go_region_held3 (fun w2 => w2.cell? ⟨w.heap.size, 0, none⟩ = some (.int .i64 A) ∧ w2.cell? ⟨w.heap.size, 1, none⟩ = some (.int .i64 B) ∧ w2.cell? ⟨w.heap.size, 2, none⟩ = some (.int .i64 C) ∧ Below w.heap.size w w2 ∧ w.heap.size < w2.heap.size) (first | assumption | exact ⟨c0, c1, c2, hbd, c4⟩ | (refine ⟨?_, ?_, ?_, ?_, ?_⟩ <;> first | assumption | go_keep))
  (first | (go_at_call 114; refine (lowest_box A B C x y z w.heap.size w _ HL.out (by assumption)).mono ?_; rintro e w3 ⟨rfl, hd⟩))
 all_goals
  rename_i hHeld
  have HB3 := Lib.hid hHeld.2.2.2.1
  clear hHeld c0 c1 c2 c3 c4 hbd
  cases bc
 all_goals
  go_wp2_with fail
  go_ret
  exact ⟨ret_i64 (by rw [HT.out]; simpa [codeI] using HB.out), HB3.out⟩
set_option maxRecDepth 100000 in
set_option maxHeartbeats 4000000 in
theorem turn_yes_eq (A B C : Int) (hc1 : 1 ≤ C) (hc2 : C ≤ 32768) (ho : A = B) (h0 : ¬ A < -C) (h1 : ¬ C < A) (h : A * A + B * B = C * C) (w : World) : Calls Tryz.prog 81 #[.agg #[.int .i64 A, .int .i64 B, .int .i64 C]] w fun e w' => e = .returned (.int .i64 (codeI (trnB A B C) 140)) ∧ Below w.heap.size w w' := by
 have pa := sq_bd (a := A) (by omega) (by omega)
 have pb := sq_bd (a := B) (by omega) (by omega)
 have pc := sq_bd (a := C) (by omega) (by omega)
 have HT := Lib.hid (trn_all hc1 hc2 (by omega) (by omega) (by omega) (by omega) h)
 obtain ⟨x, y, z, bc, hlow, hq, hbc⟩ := turn_pack A B C hc1 (by omega) (by omega) (by omega)
 have HL := Lib.hid hlow; clear hlow
 have HB := Lib.hid hbc; clear hbc
 subst ho
 have f1 : decide (C < 1) = false := by simpa using by omega
 have f2 : decide (32768 < C) = false := by simpa using by omega
 have f3 : decide (A < -C) = false := by simpa using h0
 have f4 : decide (C < A) = false := by simpa using h1
 have hw1 : IntKind.i64.wrap (A * A) = A * A := IntWalk.i64_in _ (by omega)
 have hw2 : IntKind.i64.wrap (A * A) = A * A := IntWalk.i64_in _ (by omega)
 have hw3 : IntKind.i64.wrap (C * C) = C * C := IntWalk.i64_in _ (by omega)
 have hw4 : IntKind.i64.wrap (A * A + A * A) = A * A + A * A := IntWalk.i64_in _ (by omega)
 have f5 : (A * A + A * A != C * C) = false := by simpa using h
 have hneg : IntKind.i64.wrap (-C) = -C := IntWalk.i64_in _ (by omega)
 clear h h0 h1 pa pb pc
 go_enter Tryz.func81, Tryz.ntmps81
 go_wp2_with fail
 have hS : boxS A A C w.heap.size w (w.alloc (.cells #[.int .i64 A, .int .i64 A, .int .i64 C] 23)) := ⟨cell_at (heap_alloc_new w _) 0 rfl, cell_at (heap_alloc_new w _) 1 rfl, cell_at (heap_alloc_new w _) 2 rfl, (Below.refl _ _).alloc (Nat.le_refl _) _, by simp⟩
 generalize w.alloc (.cells #[.int .i64 A, .int .i64 A, .int .i64 C] 23) = w0 at *
 obtain ⟨c0, c1, c2, c3, c4⟩ := hS
 have hbd := c3.drew
 go_region_held3 (fun w2 => w2.cell? ⟨w.heap.size, 0, none⟩ = some (.int .i64 A) ∧ w2.cell? ⟨w.heap.size, 1, none⟩ = some (.int .i64 A) ∧ w2.cell? ⟨w.heap.size, 2, none⟩ = some (.int .i64 C) ∧ Below w.heap.size w w2 ∧ w.heap.size < w2.heap.size) (first | assumption | exact ⟨c0, c1, c2, hbd, c4⟩ | (refine ⟨?_, ?_, ?_, ?_, ?_⟩ <;> first | assumption | go_keep))
  (first | (go_at_call 114; refine (lowest_box A A C x y z w.heap.size w _ HL.out (by assumption)).mono ?_; rintro e w3 ⟨rfl, hd⟩))
 all_goals
  rename_i hHeld
  have HB3 := Lib.hid hHeld.2.2.2.1
  clear hHeld c0 c1 c2 c3 c4 hbd
  cases bc
 all_goals
  go_wp2_with fail
  go_ret
  exact ⟨ret_i64 (by rw [HT.out]; simpa [codeI] using HB.out), HB3.out⟩
set_option maxRecDepth 100000 in
set_option maxHeartbeats 4000000 in
theorem turn_yes_gt (A B C : Int) (hc1 : 1 ≤ C) (hc2 : C ≤ 32768) (ho : B < A) (h0 : ¬ B < -C) (h1 : ¬ C < A) (h : A * A + B * B = C * C) (w : World) : Calls Tryz.prog 81 #[.agg #[.int .i64 A, .int .i64 B, .int .i64 C]] w fun e w' => e = .returned (.int .i64 (codeI (trnB A B C) 140)) ∧ Below w.heap.size w w' := by
 have pa := sq_bd (a := A) (by omega) (by omega)
 have pb := sq_bd (a := B) (by omega) (by omega)
 have pc := sq_bd (a := C) (by omega) (by omega)
 have HT := Lib.hid (trn_all hc1 hc2 (by omega) (by omega) (by omega) (by omega) h)
 obtain ⟨x, y, z, bc, hlow, hq, hbc⟩ := turn_pack A B C hc1 (by omega) (by omega) (by omega)
 have HL := Lib.hid hlow; clear hlow
 have HB := Lib.hid hbc; clear hbc
 skip
 have f1 : decide (C < 1) = false := by simpa using by omega
 have f2 : decide (32768 < C) = false := by simpa using by omega
 have f3 : decide (B < -C) = false := by simpa using h0
 have f4 : decide (C < A) = false := by simpa using h1
 have hw1 : IntKind.i64.wrap (A * A) = A * A := IntWalk.i64_in _ (by omega)
 have hw2 : IntKind.i64.wrap (B * B) = B * B := IntWalk.i64_in _ (by omega)
 have hw3 : IntKind.i64.wrap (C * C) = C * C := IntWalk.i64_in _ (by omega)
 have hw4 : IntKind.i64.wrap (A * A + B * B) = A * A + B * B := IntWalk.i64_in _ (by omega)
 have f5 : (A * A + B * B != C * C) = false := by simpa using h
 have hmin : (if B < A then B else A) = B := if_pos ho
 have hmax : (if A < B then B else A) = A := if_neg (by omega)
 have hneg : IntKind.i64.wrap (-C) = -C := IntWalk.i64_in _ (by omega)
 clear h h0 h1 pa pb pc
 go_enter Tryz.func81, Tryz.ntmps81
 go_wp2_with fail
 have hS : boxS A B C w.heap.size w (w.alloc (.cells #[.int .i64 A, .int .i64 B, .int .i64 C] 23)) := ⟨cell_at (heap_alloc_new w _) 0 rfl, cell_at (heap_alloc_new w _) 1 rfl, cell_at (heap_alloc_new w _) 2 rfl, (Below.refl _ _).alloc (Nat.le_refl _) _, by simp⟩
 generalize w.alloc (.cells #[.int .i64 A, .int .i64 B, .int .i64 C] 23) = w0 at *
 obtain ⟨c0, c1, c2, c3, c4⟩ := hS
 have hbd := c3.drew
 go_region_held3 (fun w2 => w2.cell? ⟨w.heap.size, 0, none⟩ = some (.int .i64 A) ∧ w2.cell? ⟨w.heap.size, 1, none⟩ = some (.int .i64 B) ∧ w2.cell? ⟨w.heap.size, 2, none⟩ = some (.int .i64 C) ∧ Below w.heap.size w w2 ∧ w.heap.size < w2.heap.size) (first | assumption | exact ⟨c0, c1, c2, hbd, c4⟩ | (refine ⟨?_, ?_, ?_, ?_, ?_⟩ <;> first | assumption | go_keep))
  (first | (go_at_call 114; refine (lowest_box A B C x y z w.heap.size w _ HL.out (by assumption)).mono ?_; rintro e w3 ⟨rfl, hd⟩))
 all_goals
  rename_i hHeld
  have HB3 := Lib.hid hHeld.2.2.2.1
  clear hHeld c0 c1 c2 c3 c4 hbd
  cases bc
 all_goals
  go_wp2_with fail
  go_ret
  exact ⟨ret_i64 (by rw [HT.out]; simpa [codeI] using HB.out), HB3.out⟩
theorem turn_any (A B C : Int) (w : World) : Calls Tryz.prog 81 #[.agg #[.int .i64 A, .int .i64 B, .int .i64 C]] w fun e w' => e = .returned (.int .i64 (codeI (trnB A B C) 140)) ∧ Below w.heap.size w w' := by
 have bad : trnB A B C = false → (Calls Tryz.prog 81 #[.agg #[.int .i64 A, .int .i64 B, .int .i64 C]] w fun e w' => e = .returned (.int .i64 140) ∧ Below w.heap.size w w') → Calls Tryz.prog 81 #[.agg #[.int .i64 A, .int .i64 B, .int .i64 C]] w fun e w' => e = .returned (.int .i64 (codeI (trnB A B C) 140)) ∧ Below w.heap.size w w' :=
  fun h hc => hc.mono fun e w' ⟨he, hb⟩ => ⟨by rw [he, h]; rfl, hb⟩
 by_cases hc : C < 1 ∨ 32768 < C
 ·exact bad (trn_c hc) (turn_no A B C hc w)
 have hc1 : 1 ≤ C := by omega
 have hc2 : C ≤ 32768 := by omega
 clear hc
 rcases Int.lt_trichotomy A B with ho | ho | ho
 ·by_cases h0 : A < -C
  ·exact bad (trn_a (by omega)) (turn_min_lt A B C hc1 hc2 ho h0 w)
  by_cases h1 : C < B
  ·exact bad (trn_a (by omega)) (turn_max_lt A B C hc1 hc2 ho h0 h1 w)
  by_cases h : A * A + B * B = C * C
  ·exact turn_yes_lt A B C hc1 hc2 ho h0 h1 h w
  ·exact bad (trn_eq h) (turn_sum_lt A B C hc1 hc2 ho h0 h1 h w)
 ·by_cases h0 : A < -C
  ·exact bad (trn_a (by omega)) (turn_min_eq A B C hc1 hc2 ho h0 w)
  by_cases h1 : C < A
  ·exact bad (trn_a (by omega)) (turn_max_eq A B C hc1 hc2 ho h0 h1 w)
  by_cases h : A * A + B * B = C * C
  ·exact turn_yes_eq A B C hc1 hc2 ho h0 h1 h w
  ·exact bad (trn_eq h) (turn_sum_eq A B C hc1 hc2 ho h0 h1 h w)
 ·by_cases h0 : B < -C
  ·exact bad (trn_a (by omega)) (turn_min_gt A B C hc1 hc2 ho h0 w)
  by_cases h1 : C < A
  ·exact bad (trn_a (by omega)) (turn_max_gt A B C hc1 hc2 ho h0 h1 w)
  by_cases h : A * A + B * B = C * C
  ·exact turn_yes_gt A B C hc1 hc2 ho h0 h1 h w
  ·exact bad (trn_eq h) (turn_sum_gt A B C hc1 hc2 ho h0 h1 h w)
end Go.Proofs.YtggcbblikgankaaGreatDoor
end
