/- The walk of the statement: part 1. -/
import Derived.Test.YtggcbblikgankaaGreatDoorZ13
import Derived.Test.YtggcbblikgankaaGreatDoorZ10
import Derived.Test.YtggcbblikgankaaGreatDoorZ16
import Derived.BigQuiet
set_option linter.unusedVariables false
set_option linter.unusedSimpArgs false
section
set_option linter.unusedSimpArgs false
set_option linter.unusedVariables false
namespace Go.Proofs.YtggcbblikgankaaGreatDoor
open Go Go.RowKit Go.Deep
theorem gcd_next {a b : Nat} (h : 0 < b) : Nat.gcd b (a % b) = Nat.gcd a b := by
 rw [Nat.gcd_comm a b, Nat.gcd_rec b a, Nat.gcd_comm]
set_option maxRecDepth 100000 in
set_option maxHeartbeats 4000000 in
theorem rdiv_any (a b : Nat) (ha : a ≤ 1099511627776) (hb : b ≤ 1099511627776) (w : World) : Calls Tryz.prog 156 #[.int .i64 a, .int .i64 b] w fun e w' => e = .returned (.int .i64 (Nat.gcd a b)) ∧ w' = w := by
 go_enter Tryz.func156, Tryz.ntmps156
 go_wp2_with fail
 go_loopw [0, 1] (fun av bv wr => ∃ x y : Nat, av = .int .i64 x ∧ bv = .int .i64 y ∧ x ≤ 1099511627776 ∧ y ≤ 1099511627776 ∧ Hid (Nat.gcd x y = Nat.gcd a b) ∧ wr = w) (fun _ bv _ => (intOf bv).toNat)
 case atStart => exact ⟨a, b, rfl, rfl, ha, hb, Lib.hid rfl, rfl⟩
 case round =>
  obtain ⟨x, y, rfl, rfl, hx, hy, hG, rfl⟩ := hrel
  by_cases h0 : y = 0
  ·subst h0
   have HG := Lib.hid (show x = Nat.gcd a b by rw [← hG.out, Nat.gcd_zero_right])
   clear hG
   go_wp2_with fail
   go_ret
   exact ⟨by rw [← HG.out]; rfl, rfl⟩
  ·have h1 : (0 : Int) < (y : Int) := by omega
   have hm : Int.tmod (x : Int) (y : Int) = ((x % y : Nat) : Int) := rfl
   have hlt : x % y < y := Nat.mod_lt _ (by omega)
   have hg2 : Nat.gcd y (x % y) = Nat.gcd a b := by rw [gcd_next (by omega), hG.out]
   have HG := Lib.hid hg2
   clear hG hg2
   generalize x % y = z at *
   go_wp2_with fail
   go_roundw
   case rel => exact ⟨y, z, by go_num, by go_num, hy, by omega, HG, trivial⟩
   case measure => simp [intOf] <;> omega
set_option maxRecDepth 100000 in
set_option maxHeartbeats 4000000 in
theorem rcom_any (a b : Nat) (ha : a ≤ 1099511627776) (hb : b ≤ 1099511627776) (w : World) : Calls Tryz.prog 124 #[.int .i64 a, .int .i64 b] w fun e w' => e = .returned (.int .i64 (Nat.gcd a b)) ∧ w' = w := by
 go_enter Tryz.func124, Tryz.ntmps124
 go_wp2_with fail
 go_loopw [0, 1] (fun av bv wr => ∃ x y : Nat, av = .int .i64 x ∧ bv = .int .i64 y ∧ x ≤ 1099511627776 ∧ y ≤ 1099511627776 ∧ Hid (Nat.gcd x y = Nat.gcd a b) ∧ wr = w) (fun _ bv _ => (intOf bv).toNat)
 case atStart => exact ⟨a, b, rfl, rfl, ha, hb, Lib.hid rfl, rfl⟩
 case round =>
  obtain ⟨x, y, rfl, rfl, hx, hy, hG, rfl⟩ := hrel
  by_cases h0 : y = 0
  ·subst h0
   have HG := Lib.hid (show x = Nat.gcd a b by rw [← hG.out, Nat.gcd_zero_right])
   clear hG
   go_wp2_with fail
   go_ret
   exact ⟨by rw [← HG.out]; rfl, rfl⟩
  ·have h1 : (0 : Int) < (y : Int) := by omega
   have hm : Int.tmod (x : Int) (y : Int) = ((x % y : Nat) : Int) := rfl
   have hlt : x % y < y := Nat.mod_lt _ (by omega)
   have hg2 : Nat.gcd y (x % y) = Nat.gcd a b := by rw [gcd_next (by omega), hG.out]
   have HG := Lib.hid hg2
   clear hG hg2
   generalize x % y = z at *
   go_wp2_with fail
   go_roundw
   case rel => exact ⟨y, z, by go_num, by go_num, hy, by omega, HG, trivial⟩
   case measure => simp [intOf] <;> omega
theorem rsize_any (n : Int) (h1 : -1099511627776 ≤ n) (h2 : n ≤ 1099511627776) (w : World) : Calls Tryz.prog 157 #[.int .i64 n] w fun e w' => e = .returned (.int .i64 (n.natAbs : Nat)) ∧ w' = w := by
 by_cases h0 : n < 0
 ·have h3 : ((n.natAbs : Nat) : Int) = -n := by omega
  go_enter Tryz.func157, Tryz.ntmps157
  go_wp2_with fail
  go_ret
  first | exact ⟨rfl, rfl⟩ | exact ⟨by rw [h3]; rfl, rfl⟩
 ·have h3 : ((n.natAbs : Nat) : Int) = n := by omega
  go_enter Tryz.func157, Tryz.ntmps157
  go_wp2_with fail
  go_ret
  first | exact ⟨rfl, rfl⟩ | exact ⟨by rw [h3]; rfl, rfl⟩
theorem rabs_any (n : Int) (h1 : -1099511627776 ≤ n) (h2 : n ≤ 1099511627776) (w : World) : Calls Tryz.prog 125 #[.int .i64 n] w fun e w' => e = .returned (.int .i64 (n.natAbs : Nat)) ∧ w' = w := by
 by_cases h0 : n < 0
 ·have h3 : ((n.natAbs : Nat) : Int) = -n := by omega
  have h4 : max n (-n) = -n := by omega
  rw [h3]
  clear h3
  go_enter Tryz.func125, Tryz.ntmps125
  go_wp2_with fail
  go_ret
  exact ⟨rfl, rfl⟩
 ·have h3 : ((n.natAbs : Nat) : Int) = n := by omega
  have h4 : max n (-n) = n := by omega
  rw [h3]
  clear h3
  go_enter Tryz.func125, Tryz.ntmps125
  go_wp2_with fail
  go_ret
  exact ⟨rfl, rfl⟩
theorem bel_dn {B : Nat} {a w : World} (h : Below B a w) (n : Nat) : Below B a (w.drewN n) := ⟨h.os, h.tape, h.output, h.size, h.block⟩
set_option maxRecDepth 100000 in
set_option maxHeartbeats 4000000 in
theorem rvalid12_any (n d : Int) (w : World) : Calls Tryz.prog 142 #[.agg #[.int .i64 n, .int .i64 d]] w fun e w' => e = .returned (.bool (ratB n d)) ∧ Below w.heap.size w w' := by
 have g0 := heap_alloc_new w (.cells #[.int .i64 n, .int .i64 d] 70)
 have b0 : Below w.heap.size w (w.alloc (.cells #[.int .i64 n, .int .i64 d] 70)) := (Below.refl _ w).alloc (Nat.le_refl _) _
 obtain ⟨r, hr⟩ : ∃ r, ratB n d = r := ⟨_, rfl⟩
 have HR := Lib.hid hr
 rw [hr]
 clear hr
 have no : ratB n d = false → ∀ W : World, Below w.heap.size w W → (.returned (.bool false) : Ending) = .returned (.bool r) ∧ Below w.heap.size w W := fun h W hb => ⟨by rw [← HR.out, h], hb⟩
 have NO := Lib.hid no
 clear no
 go_enter Tryz.func142, Tryz.ntmps142
 go_wp2_with fail
 generalize w.alloc (.cells #[.int .i64 n, .int .i64 d] 70) = w0 at *
 have c0 : w0.cell? ⟨w.heap.size, 0, none⟩ = some (.int .i64 n) := cell_at g0 0 rfl
 have c1 : w0.cell? ⟨w.heap.size, 1, none⟩ = some (.int .i64 d) := cell_at g0 1 rfl
 have HB := Lib.hid b0
 clear g0 b0
 by_cases h1 : 1 ≤ d
 case neg =>
  have HX := Lib.hid (fun q => NO.out (by unfold ratB inB; simp [h1]) _ (bel_dn HB.out q))
  go_quiet (fail)
  go_wp2_with fail
  go_ret
  exact HX.out _
 by_cases h2 : d ≤ 1073741824
 case neg =>
  have HX := Lib.hid (fun q => NO.out (by unfold ratB inB; simp [h2]) _ (bel_dn HB.out q))
  go_quiet (fail)
  go_wp2_with fail
  go_ret
  exact HX.out _
 by_cases h3 : -1073741824 ≤ n
 case neg =>
  have HX := Lib.hid (fun q => NO.out (by unfold ratB inB; simp [h3]) _ (bel_dn HB.out q))
  go_quiet (fail)
  go_wp2_with fail
  go_ret
  exact HX.out _
 by_cases h4 : n ≤ 1073741824
 case neg =>
  have HX := Lib.hid (fun q => NO.out (by unfold ratB inB; simp [h4]) _ (bel_dn HB.out q))
  go_quiet (fail)
  go_wp2_with fail
  go_ret
  exact HX.out _
 have k1 : ∀ W : World, Calls Tryz.prog 157 #[.int .i64 n] W fun e w' => e = .returned (.int .i64 (n.natAbs : Nat)) ∧ w' = W := fun W => rsize_any n (by omega) (by omega) W
 have k2 : ∀ W : World, Calls Tryz.prog 156 #[.int .i64 (n.natAbs : Nat), .int .i64 d] W fun e w' => e = .returned (.int .i64 (Nat.gcd n.natAbs d.natAbs)) ∧ w' = W := fun W => by
  have := rdiv_any n.natAbs d.natAbs (by omega) (by omega) W
  rwa [show ((d.natAbs : Nat) : Int) = d by omega] at this
 have hr : r = decide (Nat.gcd n.natAbs d.natAbs = 1) := by rw [← HR.out]; unfold ratB inB; simp [h1, h2, h3, h4]
 have hg1 : (((Nat.gcd n.natAbs d.natAbs : Nat) : Int) == 1) = r := by rw [hr, Bool.eq_iff_iff, beq_iff_eq, decide_eq_true_eq]; omega
 have K1 := Lib.hid k1; have K2 := Lib.hid k2; have HG := Lib.hid hg1
 clear k1 k2 hr hg1 NO HR
 obtain ⟨g, hg⟩ : ∃ g, Nat.gcd n.natAbs d.natAbs = g := ⟨_, rfl⟩
 obtain ⟨na, hna⟩ : ∃ x, n.natAbs = x := ⟨_, rfl⟩
 rw [hg] at K2 HG
 rw [hna] at K1 K2
 clear hg hna
 go_quiet (first | (go_at_call 157; refine Calls.quiet_of_same (K1.out _)) | (go_at_call 156; refine Calls.quiet_of_same (K2.out _)))
 go_wp2_with fail
 go_ret
 exact ⟨by rw [← HG.out]; rfl, bel_dn HB.out _⟩
set_option maxRecDepth 100000 in
set_option maxHeartbeats 4000000 in
theorem rcheck12_any (n d : Int) (w : World) : Calls Tryz.prog 126 #[.agg #[.int .i64 n, .int .i64 d]] w fun e w' => e = .returned (.int .i64 (if ratB n d then 0 else 120)) ∧ Below w.heap.size w w' := by
 have g0 := heap_alloc_new w (.cells #[.int .i64 n, .int .i64 d] 70)
 have b0 : Below w.heap.size w (w.alloc (.cells #[.int .i64 n, .int .i64 d] 70)) := (Below.refl _ w).alloc (Nat.le_refl _) _
 have hvv := fun W => rvalid12_any n d W
 generalize ratB n d = r at hvv ⊢
 have HVV := Lib.hid hvv
 clear hvv
 cases r
 all_goals
  go_enter Tryz.func126, Tryz.ntmps126
  go_wp2_with fail
  generalize w.alloc (.cells #[.int .i64 n, .int .i64 d] 70) = w0 at *
  have HV := Lib.hid (HVV.out w0)
  have HB := Lib.hid b0
  clear b0 HVV
  go_wp2_with fail
  refine HV.out.mono ?_
  rintro e w1 ⟨rfl, hb⟩
  have HB2 := Lib.hid (HB.out.trans (hb.mono HB.out.size))
  clear HV hb
  go_wp2_with fail
  go_ret
  exact ⟨rfl, HB2.out⟩
set_option maxRecDepth 100000 in
set_option maxHeartbeats 4000000 in
theorem rboth_any (n d n2 d2 : Int) (h1 : ratB n d = true) (h2 : ratB n2 d2 = true) (w : World) : Calls Tryz.prog 143 #[.agg #[.int .i64 n, .int .i64 d], .agg #[.int .i64 n2, .int .i64 d2]] w fun e w' => e = .returned (.bool true) ∧ Below w.heap.size w w' := by
 have g0 := heap_alloc_new w (.cells #[.int .i64 n, .int .i64 d] 70)
 have b0 : Below w.heap.size w (w.alloc (.cells #[.int .i64 n, .int .i64 d] 70)) := (Below.refl _ w).alloc (Nat.le_refl _) _
 have g1 := heap_alloc_new (w.alloc (.cells #[.int .i64 n, .int .i64 d] 70)) (.cells #[.int .i64 n2, .int .i64 d2] 70)
 have b1 := b0.alloc b0.size (.cells #[.int .i64 n2, .int .i64 d2] 70)
 have hlt : w.heap.size < (w.alloc (.cells #[.int .i64 n, .int .i64 d] 70)).heap.size := by simp
 have k0 := (Below.heap_alloc _ (.cells #[.int .i64 n2, .int .i64 d2] 70) w.heap.size hlt).trans g0
 have hsz : (w.alloc (.cells #[.int .i64 n, .int .i64 d] 70)).heap.size = w.heap.size + 1 := by simp
 rw [hsz] at g1
 go_enter Tryz.func143, Tryz.ntmps143
 go_wp2_with fail
 generalize (w.alloc (.cells #[.int .i64 n, .int .i64 d] 70)).alloc (.cells #[.int .i64 n2, .int .i64 d2] 70) = w0 at *
 have HV := Lib.hid (rvalid12_any n d w0)
 rw [h1] at HV
 have HB := Lib.hid b1
 have HG1 := Lib.hid g1
 have hs0 : w.heap.size + 1 < w0.heap.size := (Array.getElem?_eq_some_iff.1 g1).1
 clear b0 b1 g0 hlt
 go_wp2_with fail
 refine HV.out.mono ?_
 rintro e w1 ⟨rfl, hb⟩
 have HB2 := Lib.hid (HB.out.trans (hb.mono HB.out.size))
 have g2 := (hb.block _ hs0).trans g1
 have c2 : w1.cell? ⟨w.heap.size + 1, 0, none⟩ = some (.int .i64 n2) := cell_at g2 0 rfl
 have c3 : w1.cell? ⟨w.heap.size + 1, 1, none⟩ = some (.int .i64 d2) := cell_at g2 1 rfl
 clear g2
 have HV2 := Lib.hid (rvalid12_any n2 d2 w1)
 rw [h2] at HV2
 clear HV hb g1 k0
 go_wp2_with fail
 refine HV2.out.mono ?_
 rintro e w2 ⟨rfl, hb⟩
 have HB3 := Lib.hid (HB2.out.trans (hb.mono HB2.out.size))
 clear HV2 hb
 go_wp2_with fail
 go_ret
 exact ⟨rfl, HB3.out⟩
theorem mul30 {a b : Int} (h1 : -1073741824 ≤ a) (h2 : a ≤ 1073741824) (h3 : 0 ≤ b) (h4 : b ≤ 1073741824) : -1152921504606846976 ≤ a * b ∧ a * b ≤ 1152921504606846976 := by
 have x1 : a * b ≤ 1073741824 * b := Int.mul_le_mul_of_nonneg_right h2 h3
 have x2 : -1073741824 * b ≤ a * b := Int.mul_le_mul_of_nonneg_right h1 h3
 omega
set_option maxRecDepth 100000 in
set_option maxHeartbeats 4000000 in
theorem rless_any (n d n2 d2 : Int) (h1 : ratB n d = true) (h2 : ratB n2 d2 = true) (w : World) : Calls Tryz.prog 144 #[.agg #[.int .i64 n, .int .i64 d], .agg #[.int .i64 n2, .int .i64 d2]] w fun e w' => e = .returned (.bool (decide (n * d2 < n2 * d))) ∧ Below w.heap.size w w' := by
 unfold ratB at h1 h2
 simp only [Bool.and_eq_true, inB_iff] at h1 h2
 have m1 := mul30 h1.1.2.1 h1.1.2.2 (show 0 ≤ d2 by omega) h2.1.1.2
 have m2 := mul30 h2.1.2.1 h2.1.2.2 (show 0 ≤ d by omega) h1.1.1.2
 have g0 := heap_alloc_new w (.cells #[.int .i64 n, .int .i64 d] 70)
 have b0 : Below w.heap.size w (w.alloc (.cells #[.int .i64 n, .int .i64 d] 70)) := (Below.refl _ w).alloc (Nat.le_refl _) _
 have g1 := heap_alloc_new (w.alloc (.cells #[.int .i64 n, .int .i64 d] 70)) (.cells #[.int .i64 n2, .int .i64 d2] 70)
 have b1 := b0.alloc b0.size (.cells #[.int .i64 n2, .int .i64 d2] 70)
 have hlt : w.heap.size < (w.alloc (.cells #[.int .i64 n, .int .i64 d] 70)).heap.size := by simp
 have k0 := (Below.heap_alloc _ (.cells #[.int .i64 n2, .int .i64 d2] 70) w.heap.size hlt).trans g0
 have hsz : (w.alloc (.cells #[.int .i64 n, .int .i64 d] 70)).heap.size = w.heap.size + 1 := by simp
 rw [hsz] at g1
 go_enter Tryz.func144, Tryz.ntmps144
 go_wp2_with fail
 generalize (w.alloc (.cells #[.int .i64 n, .int .i64 d] 70)).alloc (.cells #[.int .i64 n2, .int .i64 d2] 70) = w0 at *
 have HB := Lib.hid b1
 have c0 : w0.cell? ⟨w.heap.size, 0, none⟩ = some (.int .i64 n) := cell_at k0 0 rfl
 have c1 : w0.cell? ⟨w.heap.size, 1, none⟩ = some (.int .i64 d) := cell_at k0 1 rfl
 have c2 : w0.cell? ⟨w.heap.size + 1, 0, none⟩ = some (.int .i64 n2) := cell_at g1 0 rfl
 have c3 : w0.cell? ⟨w.heap.size + 1, 1, none⟩ = some (.int .i64 d2) := cell_at g1 1 rfl
 clear b0 b1 g0 g1 k0 hlt hsz h1 h2
 generalize n * d2 = x at *
 generalize n2 * d = y at *
 go_wp2_with fail
 go_ret
 exact ⟨rfl, HB.out⟩
end Go.Proofs.YtggcbblikgankaaGreatDoor
end
section
set_option linter.unusedSimpArgs false
set_option linter.unusedVariables false
namespace Go.Proofs.YtggcbblikgankaaGreatDoor
open Go Go.RowKit Go.Deep
set_option maxRecDepth 100000 in
set_option maxHeartbeats 4000000 in
theorem rcmp12_any (n d n2 d2 : Int) (h1 : ratB n d = true) (h2 : ratB n2 d2 = true) (w : World) : Calls Tryz.prog 127 #[.agg #[.int .i64 n, .int .i64 d], .agg #[.int .i64 n2, .int .i64 d2]] w fun e w' => e = .returned (.tuple #[.int .i64 (cmpI (n * d2) (n2 * d)), .int .i64 0]) ∧ Below w.heap.size w w' := by
 obtain ⟨r, hr⟩ : ∃ r, cmpI (n * d2) (n2 * d) = r := ⟨_, rfl⟩
 rw [hr]
 have HCM : Hid (r = if n * d2 < n2 * d then -1 else if n2 * d < n * d2 then 1 else 0) := Lib.hid (by rw [← hr]; rfl)
 clear hr
 have g0 := heap_alloc_new w (.cells #[.int .i64 n, .int .i64 d] 70)
 have b0 : Below w.heap.size w (w.alloc (.cells #[.int .i64 n, .int .i64 d] 70)) := (Below.refl _ w).alloc (Nat.le_refl _) _
 have g1 := heap_alloc_new (w.alloc (.cells #[.int .i64 n, .int .i64 d] 70)) (.cells #[.int .i64 n2, .int .i64 d2] 70)
 have b1 := b0.alloc b0.size (.cells #[.int .i64 n2, .int .i64 d2] 70)
 have hlt : w.heap.size < (w.alloc (.cells #[.int .i64 n, .int .i64 d] 70)).heap.size := by simp
 have k0 := (Below.heap_alloc _ (.cells #[.int .i64 n2, .int .i64 d2] 70) w.heap.size hlt).trans g0
 have hsz : (w.alloc (.cells #[.int .i64 n, .int .i64 d] 70)).heap.size = w.heap.size + 1 := by simp
 rw [hsz] at g1
 go_enter Tryz.func127, Tryz.ntmps127
 go_wp2_with fail
 generalize (w.alloc (.cells #[.int .i64 n, .int .i64 d] 70)).alloc (.cells #[.int .i64 n2, .int .i64 d2] 70) = w0 at *
 have hs0 : w.heap.size + 1 < w0.heap.size := (Array.getElem?_eq_some_iff.1 g1).1
 have CC := Lib.hid (fun (W : World) (hb : Below w0.heap.size w0 W) => (show W.cell? ⟨w.heap.size, 0, none⟩ = some (.int .i64 n) ∧ W.cell? ⟨w.heap.size, 1, none⟩ = some (.int .i64 d) ∧ W.cell? ⟨w.heap.size + 1, 0, none⟩ = some (.int .i64 n2) ∧ W.cell? ⟨w.heap.size + 1, 1, none⟩ = some (.int .i64 d2) from
  ⟨cell_at ((hb.block _ (by omega)).trans k0) 0 rfl, cell_at ((hb.block _ (by omega)).trans k0) 1 rfl, cell_at ((hb.block _ hs0).trans g1) 0 rfl, cell_at ((hb.block _ hs0).trans g1) 1 rfl⟩))
 have HV := Lib.hid (rboth_any n d n2 d2 h1 h2 w0)
 have HL1 := Lib.hid (fun W => rless_any n d n2 d2 h1 h2 W)
 have HL2 := Lib.hid (fun W => rless_any n2 d2 n d h2 h1 W)
 have HB := Lib.hid b1
 obtain ⟨c0, c1, c2, c3⟩ := CC.out w0 (Below.refl _ _)
 clear b0 b1 g0 g1 k0 hlt hsz h1 h2
 go_wp2_with fail
 refine HV.out.mono ?_
 rintro e w1 ⟨rfl, hb1⟩
 have HB1 := Lib.hid (HB.out.trans (hb1.mono HB.out.size))
 clear c0 c1 c2 c3
 obtain ⟨c0, c1, c2, c3⟩ := CC.out w1 hb1
 have HC1 := Lib.hid hb1
 have HL := Lib.hid (HL1.out w1)
 clear HV hb1 HB HL1
 go_wp2_with fail
 refine HL.out.mono ?_
 rintro e w2 ⟨rfl, hb2⟩
 have HB2 := Lib.hid (HB1.out.trans (hb2.mono HB1.out.size))
 have hb2' := HC1.out.trans (hb2.mono HC1.out.size)
 clear c0 c1 c2 c3
 obtain ⟨c0, c1, c2, c3⟩ := CC.out w2 hb2'
 have HM := Lib.hid (HL2.out w2)
 clear HL hb2 hb2' HB1 HC1 HL2 CC
 generalize hx : n * d2 = x at *
 generalize hy : n2 * d = y at *
 by_cases q1 : x < y
 ·have e1 : decide (x < y) = true := decide_eq_true q1
  rw [if_pos q1] at HCM
  clear q1 HM
  go_wp2_with fail
  go_ret2
  exact ⟨by rw [HCM.out]; rfl, HB2.out⟩
 ·have e1 : decide (x < y) = false := decide_eq_false q1
  rw [if_neg q1] at HCM
  clear q1
  go_wp2_with fail
  refine HM.out.mono ?_
  rintro e w3 ⟨rfl, hb3⟩
  have HB3 := Lib.hid (HB2.out.trans (hb3.mono HB2.out.size))
  clear HM hb3
  by_cases q2 : y < x
  ·have e2 : decide (y < x) = true := decide_eq_true q2
   rw [if_pos q2] at HCM
   clear q2
   go_wp2_with fail
   go_ret2
   exact ⟨by rw [HCM.out]; rfl, HB3.out⟩
  ·have e2 : decide (y < x) = false := decide_eq_false q2
   rw [if_neg q2] at HCM
   clear q2
   go_wp2_with fail
   go_ret2
   exact ⟨by rw [HCM.out]; rfl, HB3.out⟩
theorem sq_bd14 {a : Int} (h1 : -32768 ≤ a) (h2 : a ≤ 32768) : 0 ≤ a * a ∧ a * a ≤ 1073741824 := by
 have e : ((a.natAbs * a.natAbs : Nat) : Int) = a * a := Int.natAbs_mul_self
 have hn : a.natAbs ≤ 32768 := by omega
 have h3 : a.natAbs * a.natAbs ≤ 1073741824 := Nat.le_trans (Nat.mul_le_mul hn hn) (by decide)
 rw [← e]
 obtain ⟨k, hk⟩ : ∃ k, a.natAbs * a.natAbs = k := ⟨_, rfl⟩
 rw [hk] at h3 ⊢
 omega
set_option maxRecDepth 100000 in
set_option maxHeartbeats 8000000 in
theorem rcheck14_any (a b c : Int) (w : World) : Calls Tryz.prog 105 #[.agg #[.int .i64 a, .int .i64 b, .int .i64 c]] w fun e w' => e = .returned (.int .i64 (if trnB a b c then 0 else 140)) ∧ Below w.heap.size w w' := by
 have g0 := heap_alloc_new w (.cells #[.int .i64 a, .int .i64 b, .int .i64 c] 23)
 have b0 : Below w.heap.size w (w.alloc (.cells #[.int .i64 a, .int .i64 b, .int .i64 c] 23)) := (Below.refl _ w).alloc (Nat.le_refl _) _
 obtain ⟨r, hr⟩ : ∃ r, (if trnB a b c then (0 : Int) else 140) = r := ⟨_, rfl⟩
 have HR := Lib.hid hr
 rw [hr]
 clear hr
 have no : trnB a b c = false → ∀ W : World, Below w.heap.size w W → (.returned (.int .i64 140) : Ending) = .returned (.int .i64 r) ∧ Below w.heap.size w W := fun h W hb => ⟨by rw [← HR.out, h]; rfl, hb⟩
 have NO := Lib.hid no
 clear no
 go_enter Tryz.func105, Tryz.ntmps105
 go_wp2_with fail
 any_goals
  go_ret
  refine NO.out ?_ _ b0
  rw [Bool.eq_false_iff]
  intro q
  unfold trnB inB at q
  simp only [Bool.and_eq_true, decide_eq_true_eq] at q
  omega
 generalize w.alloc (.cells #[.int .i64 a, .int .i64 b, .int .i64 c] 23) = w0 at *
 generalize Value.bool (decide (c < 1) || decide (32768 < c) || decide (a < -c) || decide (c < a) || decide (b < -c) || decide (c < b)) = vv6
 generalize Value.bool (decide (c < 1) || decide (32768 < c) || decide (a < -c) || decide (c < a) || decide (b < -c)) = vv5
 generalize Value.bool (decide (c < 1) || decide (32768 < c) || decide (a < -c) || decide (c < a)) = vv4
 generalize Value.bool (decide (c < 1) || decide (32768 < c) || decide (a < -c)) = vv3
 generalize Value.bool (decide (c < 1) || decide (32768 < c)) = vv2
 generalize Value.bool (decide (c < 1)) = ww0
 generalize Value.bool (decide (32768 < c)) = ww1
 generalize Value.bool (decide (a < -c)) = ww2
 generalize Value.bool (decide (c < a)) = ww3
 generalize Value.bool (decide (b < -c)) = ww4
 generalize Value.bool (decide (c < b)) = ww5
 have c0 : w0.cell? ⟨w.heap.size, 0, none⟩ = some (.int .i64 a) := cell_at g0 0 rfl
 have c1 : w0.cell? ⟨w.heap.size, 1, none⟩ = some (.int .i64 b) := cell_at g0 1 rfl
 have c2 : w0.cell? ⟨w.heap.size, 2, none⟩ = some (.int .i64 c) := cell_at g0 2 rfl
 have HB := Lib.hid b0
 clear g0 b0
 have q1 := sq_bd14 (show -32768 ≤ a by omega) (show a ≤ 32768 by omega)
 have q2 := sq_bd14 (show -32768 ≤ b by omega) (show b ≤ 32768 by omega)
 have q3 := sq_bd14 (show -32768 ≤ c by omega) (show c ≤ 32768 by omega)
 have kA : ∀ W : World, Calls Tryz.prog 125 #[.int .i64 a] W fun e w' => e = .returned (.int .i64 (a.natAbs : Nat)) ∧ w' = W := fun W => rabs_any a (by omega) (by omega) W
 have kB : ∀ W : World, Calls Tryz.prog 125 #[.int .i64 b] W fun e w' => e = .returned (.int .i64 (b.natAbs : Nat)) ∧ w' = W := fun W => rabs_any b (by omega) (by omega) W
 have hgl : Nat.gcd a.natAbs b.natAbs ≤ 1099511627776 := by
  by_cases z : a.natAbs = 0
  ·rw [z, Nat.gcd_zero_left]; omega
  ·have := Nat.gcd_le_left b.natAbs (show 0 < a.natAbs by omega); omega
 have kC : ∀ W : World, Calls Tryz.prog 124 #[.int .i64 (a.natAbs : Nat), .int .i64 (b.natAbs : Nat)] W fun e w' => e = .returned (.int .i64 (Nat.gcd a.natAbs b.natAbs)) ∧ w' = W := fun W => rcom_any _ _ (by omega) (by omega) W
 have kD : ∀ W : World, Calls Tryz.prog 124 #[.int .i64 (Nat.gcd a.natAbs b.natAbs : Nat), .int .i64 c] W fun e w' => e = .returned (.int .i64 (Nat.gcd (Nat.gcd a.natAbs b.natAbs) c.natAbs)) ∧ w' = W := fun W => by
  have := rcom_any (Nat.gcd a.natAbs b.natAbs) c.natAbs (by omega) (by omega) W
  rwa [show ((c.natAbs : Nat) : Int) = c by omega] at this
 have hT : trnB a b c = (inB c 1 32768 && inB a (-c) c && inB b (-c) c && decide (a * a + b * b = c * c) && decide (Nat.gcd (Nat.gcd a.natAbs b.natAbs) c.natAbs = 1)) := rfl
 obtain ⟨aa, haa⟩ : ∃ x, a * a = x := ⟨_, rfl⟩
 obtain ⟨bb, hbb⟩ : ∃ x, b * b = x := ⟨_, rfl⟩
 obtain ⟨cc, hcc⟩ : ∃ x, c * c = x := ⟨_, rfl⟩
 rw [haa] at q1
 rw [hbb] at q2
 rw [hcc] at q3
 rw [haa, hbb, hcc] at hT
 have wa : IntKind.i64.wrap aa = aa := IntWalk.i64_in _ (by omega)
 have wb : IntKind.i64.wrap bb = bb := IntWalk.i64_in _ (by omega)
 have wc : IntKind.i64.wrap cc = cc := IntWalk.i64_in _ (by omega)
 obtain ⟨sm, hsm⟩ : ∃ x, aa + bb = x := ⟨_, rfl⟩
 have wab : IntKind.i64.wrap sm = sm := IntWalk.i64_in _ (by omega)
 rw [hsm] at hT
 have HT := Lib.hid hT
 clear hT q1 q2 q3
 by_cases hs : sm = cc
 case neg =>
  have HX := Lib.hid (fun q => NO.out (by rw [HT.out, decide_eq_false hs]; simp) _ (bel_dn HB.out q))
  have hne : (sm != cc) = true := by simpa using hs
  clear kA kB kC kD hgl hs NO HR HT
  refine wp_region_quiet_lit (by kernel_rfl) (by kernel_rfl) ?_
  repeat (with_reducible refine wpQuiet_step (fun K hK => ?_); go_simp; first | (with_reducible refine hK _ ?_; clear hK K))
  refine wpQuiet_nil ?_
  intro _ hw'
  obtain ⟨nq, hw''⟩ := hw'
  subst hw''
  go_wp2_with fail
  go_ret
  exact HX.out _
 have hne : (sm != cc) = false := by simpa using hs
 have hgood : (((Nat.gcd (Nat.gcd a.natAbs b.natAbs) c.natAbs : Nat) : Int) != 1) = false → r = 0 := fun h => by
  rw [← HR.out]
  have h7 : Nat.gcd (Nat.gcd a.natAbs b.natAbs) c.natAbs = 1 := by
   have : ((Nat.gcd (Nat.gcd a.natAbs b.natAbs) c.natAbs : Nat) : Int) = 1 := by simpa using h
   omega
  rw [if_pos]
  rw [HT.out]
  unfold inB
  simp only [Bool.and_eq_true, decide_eq_true_eq]
  exact ⟨⟨⟨⟨⟨by omega, by omega⟩, by omega, by omega⟩, by omega, by omega⟩, hs⟩, h7⟩
 have hbad : (((Nat.gcd (Nat.gcd a.natAbs b.natAbs) c.natAbs : Nat) : Int) != 1) = true → r = 140 := fun h => by
  rw [← HR.out]
  have h7 : ¬ Nat.gcd (Nat.gcd a.natAbs b.natAbs) c.natAbs = 1 := by
   have : ¬ ((Nat.gcd (Nat.gcd a.natAbs b.natAbs) c.natAbs : Nat) : Int) = 1 := by simpa using h
   omega
  rw [if_neg]
  rw [HT.out]
  simp only [Bool.and_eq_true, decide_eq_true_eq]
  exact fun q => h7 q.2
 have HG := Lib.hid hgood; have HBAD := Lib.hid hbad; have KA := Lib.hid kA; have KB := Lib.hid kB; have KC := Lib.hid kC; have KD := Lib.hid kD
 clear kA kB kC kD hgood hbad hgl hs NO HR HT
 obtain ⟨g, hg⟩ : ∃ g, Nat.gcd (Nat.gcd a.natAbs b.natAbs) c.natAbs = g := ⟨_, rfl⟩
 rw [hg] at KD HG HBAD
 obtain ⟨g2, hg2⟩ : ∃ g, Nat.gcd a.natAbs b.natAbs = g := ⟨_, rfl⟩
 rw [hg2] at KC KD
 obtain ⟨na, hna⟩ : ∃ x, a.natAbs = x := ⟨_, rfl⟩
 obtain ⟨nb, hnb⟩ : ∃ x, b.natAbs = x := ⟨_, rfl⟩
 rw [hna] at KA KC
 rw [hnb] at KB KC
 clear hg hg2 hna hnb
 cases hgg : ((g : Int) != 1) with
 | true =>
  refine wp_region_quiet_lit (by kernel_rfl) (by kernel_rfl) ?_
  repeat (with_reducible refine wpQuiet_step (fun K hK => ?_); go_simp; first | (with_reducible refine hK _ ?_; clear hK K) | (apply Exists.intro; with_reducible refine ⟨fun _ => ?_, hK _ ?_⟩; (first | exact Calls.quiet_of_same (KA.out _) | exact Calls.quiet_of_same (KB.out _) | exact Calls.quiet_of_same (KC.out _) | exact Calls.quiet_of_same (KD.out _)); clear hK K))
  refine wpQuiet_nil ?_
  intro _ hw'
  obtain ⟨nq, hw''⟩ := hw'
  subst hw''
  go_wp2_with fail
  go_ret
  exact ⟨by rw [HBAD.out hgg]; rfl, bel_dn HB.out _⟩
 | false =>
  refine wp_region_quiet_lit (by kernel_rfl) (by kernel_rfl) ?_
  repeat (with_reducible refine wpQuiet_step (fun K hK => ?_); go_simp; first | (with_reducible refine hK _ ?_; clear hK K) | (apply Exists.intro; with_reducible refine ⟨fun _ => ?_, hK _ ?_⟩; (first | exact Calls.quiet_of_same (KA.out _) | exact Calls.quiet_of_same (KB.out _) | exact Calls.quiet_of_same (KC.out _) | exact Calls.quiet_of_same (KD.out _)); clear hK K))
  refine wpQuiet_nil ?_
  intro _ hw'
  obtain ⟨nq, hw''⟩ := hw'
  subst hw''
  go_wp2_with fail
  go_ret
  exact ⟨by rw [HG.out hgg]; rfl, bel_dn HB.out _⟩
end Go.Proofs.YtggcbblikgankaaGreatDoor
end
section
set_option linter.unusedSimpArgs false
set_option linter.unusedVariables false
namespace Go.Proofs.YtggcbblikgankaaGreatDoor
open Go Go.RowKit Go.Deep
theorem rin19_any (n lo hi : Int) (w : World) : Calls Tryz.prog 104 #[.int .i64 n, .int .i64 lo, .int .i64 hi] w fun e w' => e = .returned (.bool (inB n lo hi)) ∧ w' = w := by
 go_enter Tryz.func104, Tryz.ntmps104
 go_wp2
 all_goals
  go_ret
  refine ⟨ret_bool ?_, rfl⟩
  unfold inB
  rw [Bool.eq_iff_iff]; simp; omega
def zeroF (s d l z h : Int) : Bool := s == 0 && d == 0 && l == 0 && z == 0 && h == 0
theorem eq_sgn0 (s d l z h : Int) (w : World) : (binOp .eql 72 (.agg #[.int .i64 0, .int .i64 0, .int .i64 0, .int .i64 0, .int .i64 0, .int .i64 s, .int .i64 d, .int .i64 l, .int .i64 z, .int .i64 h, .int .i64 0, .int .i64 0, .int .i64 0, .int .i64 0]) (.agg #[.int .i64 0, .int .i64 0, .int .i64 0, .int .i64 0, .int .i64 0, .int .i64 0, .int .i64 0, .int .i64 0, .int .i64 0, .int .i64 0, .int .i64 0, .int .i64 0, .int .i64 0, .int .i64 0])).run Tryz.prog w = .ok (.bool (zeroF s d l z h)) w := by
 have u3 := Tryz.underlying3
 have a3 := Tryz.isAgg3
 have z3 := Tryz.sizeOf3
 have hS : Tryz.prog.underlying 72 = some (.struct (Tryz.prog.fieldsOf 72)) := by kernel_rfl
 have hp : Tryz.prog.stoodInHeld 72 = false := by kernel_rfl
 rw [run_eql_struct, show (10000 : Nat) = 9999 + 1 from rfl, run_equalIn_agg w 9999 72 _ _ hS hp]
 simp only [Program.fieldsOf, Tryz.underlying72]
 go_simp
 unfold zeroF
 by_cases h1 : s = 0 <;> by_cases h2 : d = 0 <;> by_cases h3 : l = 0 <;> by_cases h4 : z = 0 <;> by_cases h5 : h = 0 <;> simp [h1, h2, h3, h4, h5]
def sgnC (s : Sgn) : Array Value := #[.int .i64 s.id, .int .i64 s.role, .int .i64 s.bar, .int .i64 s.mark, .int .i64 s.kind, .int .i64 s.side, .int .i64 s.dir, .int .i64 s.level, .int .i64 s.size, .int .i64 s.wth, .int .i64 s.fn, .int .i64 s.fd, .int .i64 s.tn, .int .i64 s.td]
theorem cmpI_neg (x y : Int) : decide (cmpI x y < 0) = decide (x < y) := by
 unfold cmpI
 by_cases h : x < y
 ·simp [h]
 ·by_cases h2 : y < x <;> simp [h, h2]
set_option maxRecDepth 100000 in
set_option maxHeartbeats 8000000 in
theorem rspan_any (s : Sgn) (w : World) : Calls Tryz.prog 107 #[.agg (sgnC s)] w fun e w' => e = .returned (.bool (spanB s)) ∧ Below w.heap.size w w' := by
 have hbw : Below w.heap.size w (w.alloc (.cells (sgnC s) 72)) := (Below.refl _ w).alloc (Nat.le_refl _) _
 have g0 := heap_alloc_new w (.cells (sgnC s) 72)
 have hsz : w.heap.size < (w.alloc (.cells (sgnC s) 72)).heap.size := by simp
 obtain ⟨r, hr⟩ : ∃ r, spanB s = r := ⟨_, rfl⟩
 rw [hr]
 have hsp : spanB s = (ratB s.fn s.fd && ratB s.tn s.td && decide (0 ≤ s.fn) && decide (s.fn * s.td < s.tn * s.fd) && decide (s.tn ≤ s.td)) := rfl
 rw [hr] at hsp
 have HR := Lib.hid hsp; have HBW := Lib.hid hbw
 clear hr hsp hbw
 unfold sgnC at *
 go_enter Tryz.func107, Tryz.ntmps107
 have CC : Hid (∀ W, Below (w.heap.size + 1) (w.alloc (.cells (sgnC s) 72)) W → W.cell? ⟨w.heap.size, 10, none⟩ = some (.int .i64 s.fn) ∧ W.cell? ⟨w.heap.size, 11, none⟩ = some (.int .i64 s.fd) ∧ W.cell? ⟨w.heap.size, 12, none⟩ = some (.int .i64 s.tn) ∧ W.cell? ⟨w.heap.size, 13, none⟩ = some (.int .i64 s.td)) := Lib.hid fun W h => by
  have g := (h.block w.heap.size (by omega)).trans (heap_alloc_new w (.cells (sgnC s) 72))
  exact ⟨cell_at g 10 rfl, cell_at g 11 rfl, cell_at g 12 rfl, cell_at g 13 rfl⟩
 unfold sgnC at CC
 obtain ⟨c0, c1, c2, c3⟩ := CC.out _ (Below.refl _ _)
 have hs1 : (w.alloc (.cells #[.int .i64 s.id, .int .i64 s.role, .int .i64 s.bar, .int .i64 s.mark, .int .i64 s.kind, .int .i64 s.side, .int .i64 s.dir, .int .i64 s.level, .int .i64 s.size, .int .i64 s.wth, .int .i64 s.fn, .int .i64 s.fd, .int .i64 s.tn, .int .i64 s.td] 72)).heap.size = w.heap.size + 1 := by simp
 go_wp2_with fail
 generalize w.alloc (.cells #[.int .i64 s.id, .int .i64 s.role, .int .i64 s.bar, .int .i64 s.mark, .int .i64 s.kind, .int .i64 s.side, .int .i64 s.dir, .int .i64 s.level, .int .i64 s.size, .int .i64 s.wth, .int .i64 s.fn, .int .i64 s.fd, .int .i64 s.tn, .int .i64 s.td] 72) = w0 at *
 clear g0
 refine (rcheck12_any s.fn s.fd w0).mono ?_
 rintro e w1 ⟨rfl, hb1⟩
 rw [hs1] at hb1
 have HX1 := Lib.hid hb1
 have HB1 := Lib.hid (HBW.out.trans (hb1.mono (by omega)))
 clear c0 c1 c2 c3
 obtain ⟨c0, c1, c2, c3⟩ := CC.out _ hb1
 have hs2 := hb1.size
 clear hb1
 cases q1 : ratB s.fn s.fd with
 | false =>
  have HF := Lib.hid (show r = false by rw [HR.out, q1]; rfl)
  go_wp2_with fail
  go_ret
  exact ⟨by rw [HF.out]; rfl, HB1.out⟩
 | true =>
 have Q1 := Lib.hid q1
 clear q1
 go_wp2_with fail
 refine (rcheck12_any s.tn s.td w1).mono ?_
 rintro e w2 ⟨rfl, hb2⟩
 have HX2 := Lib.hid (HX1.out.trans (hb2.mono (by omega)))
 have HB2 := Lib.hid (HB1.out.trans (hb2.mono HB1.out.size))
 clear c0 c1 c2 c3
 obtain ⟨c0, c1, c2, c3⟩ := CC.out _ HX2.out
 clear hb2
 cases q2 : ratB s.tn s.td with
 | false =>
  have HF := Lib.hid (show r = false by rw [HR.out, q2]; simp)
  go_wp2_with fail
  go_ret
  exact ⟨by rw [HF.out]; rfl, HB2.out⟩
 | true =>
 have Q2 := Lib.hid q2
 clear q2
 have HC := Lib.hid (rcmp12_any s.fn s.fd s.tn s.td Q1.out Q2.out w2)
 go_wp2_with fail
 refine HC.out.mono ?_
 rintro e w3 ⟨rfl, hb3⟩
 have HX3 := Lib.hid (HX2.out.trans (hb3.mono (by have := HX2.out.size; omega)))
 have HB3 := Lib.hid (HB2.out.trans (hb3.mono HB2.out.size))
 clear c0 c1 c2 c3
 obtain ⟨c0, c1, c2, c3⟩ := CC.out _ (by have := HX3.out; exact this)
 have hcm := cmpI_neg (s.fn * s.td) (s.tn * s.fd)
 have hfin : r = (decide (0 ≤ s.fn) && decide (cmpI (s.fn * s.td) (s.tn * s.fd) < 0) && decide (s.tn ≤ s.td)) := by rw [HR.out, Q1.out, Q2.out, hcm]; rfl
 have HFI := Lib.hid hfin
 clear hb3 HC hcm hfin
 generalize cmpI (s.fn * s.td) (s.tn * s.fd) = cm at *
 by_cases k1 : 0 ≤ s.fn
 ·by_cases k2 : cm < 0
  ·by_cases k3 : s.tn ≤ s.td
   ·have HF := Lib.hid (show r = true by rw [HFI.out, decide_eq_true k1, decide_eq_true k2, decide_eq_true k3]; rfl)
    go_wp2_with fail
    go_ret
    exact ⟨by rw [HF.out]; rfl, HB3.out⟩
   ·have HF := Lib.hid (show r = false by rw [HFI.out, decide_eq_false k3]; simp)
    go_wp2_with fail
    go_ret
    refine ⟨?_, HB3.out⟩
    rw [HF.out]
    show Ending.returned (.bool (decide (s.tn ≤ s.td))) = _
    rw [decide_eq_false (by omega)]
  ·have HF := Lib.hid (show r = false by rw [HFI.out, decide_eq_false k2]; simp)
   go_wp2_with fail
   go_ret
   exact ⟨by rw [HF.out]; rfl, HB3.out⟩
 ·have HF := Lib.hid (show r = false by rw [HFI.out, decide_eq_false k1]; simp)
  go_wp2_with fail
  go_ret
  exact ⟨by rw [HF.out]; rfl, HB3.out⟩
end Go.Proofs.YtggcbblikgankaaGreatDoor
end
section
namespace Go.Proofs.YtggcbblikgankaaGreatDoor
theorem upTo_at {l : List Tmp} {i : Nat} {t : Tmp} {x : Int} (hs : SortedT l) (ht : l[i]? = some t) (h1 : t.bar ≤ x) (h2 : ∀ t', l[i + 1]? = some t' → x < t'.bar) : upTo l x = i + 1 := by
 have a := (upTo_iff (bar := x) hs ht).1 h1
 have hle := upTo_le l x
 by_cases e : i + 1 < l.length
 ·have ht' := List.getElem?_eq_getElem e
  have b := upTo_iff (bar := x) hs ht'
  have c := h2 _ ht'
  have : ¬ i + 1 < upTo l x := fun q => by have := b.2 q; omega
  omega
 ·omega
def lastOf (bars : Int) (l : List Tmp) (i : Nat) : Int := match l[i + 1]? with
 | some t => t.bar - 1
 | none => bars - 1
def segB (bars : Int) (l : List Tmp) (i : Nat) : Bool := inB (ticksAt l (l[i]!.bar)) 1 65536 && inB (ticksAt l (lastOf bars l i)) 1 65536
theorem ticksB_iff {l : List Tmp} : ∀ n, ticksB l n = true ↔ ∀ k : Nat, k < n → inB (ticksAt l k) 1 65536 = true
 | 0 => by simp [ticksB]
 | n + 1 => by
  unfold ticksB
  rw [Bool.and_eq_true, ticksB_iff n]
  constructor
  ·rintro ⟨h1, h2⟩ k hk
   by_cases e : k = n
   ·rw [e]; exact h2
   ·exact h1 k (by omega)
  ·intro h
   exact ⟨fun k hk => h k (by omega), h n (by omega)⟩
theorem sorted_at {l : List Tmp} (hs : SortedT l) {i j : Nat} {a b : Tmp} (hi : l[i]? = some a) (hj : l[j]? = some b) (h : i < j) : a.bar < b.bar := by
 obtain ⟨h1, e1⟩ := List.getElem?_eq_some_iff.1 hi
 obtain ⟨h2, e2⟩ := List.getElem?_eq_some_iff.1 hj
 have := List.pairwise_iff_getElem.1 hs i j h1 h2 h
 rwa [e1, e2] at this
theorem ticksAt_eq {l : List Tmp} {i : Nat} {t : Tmp} {x : Int} (ht : l[i]? = some t) (hu : upTo l x = i + 1) : ticksAt l x = t.ticks + (x - t.bar) * t.step := by
 unfold ticksAt
 simp only [hu, Nat.add_sub_cancel]
 rw [show l[i]! = t by simp [ht]]
theorem lastOf_le {bars : Int} {l : List Tmp} {i : Nat} {t : Tmp} (hb : tmpsB bars (-1) l = true) (ht : l[i]? = some t) : t.bar ≤ lastOf bars l i ∧ lastOf bars l i ≤ bars - 1 := by
 obtain ⟨hs, hall⟩ := tmps_sorted hb
 have h1 := hall t (List.mem_of_getElem? ht)
 unfold lastOf
 cases h : l[i + 1]? with
 | none => simp only; omega
 | some t' =>
  have h2 := sorted_at hs ht h (by omega)
  have h3 := hall t' (List.mem_of_getElem? h)
  simp only; omega
theorem seg_ticks {bars : Int} {l : List Tmp} {t0 : Tmp} (hb : tmpsB bars (-1) l = true) (h0 : l[0]? = some t0) (hz : t0.bar = 0) : ticksB l bars.toNat = true ↔ ∀ i, i < l.length → segB bars l i = true := by
 obtain ⟨hs, hall⟩ := tmps_sorted hb
 rw [ticksB_iff]
 constructor
 ·intro h i hi
  have ht := List.getElem?_eq_getElem hi
  have h1 := hall _ (List.mem_of_getElem? ht)
  have h2 := lastOf_le hb ht
  unfold segB
  rw [Bool.and_eq_true]
  have e : l[i]! = l[i] := by simp [hi]
  rw [e]
  refine ⟨?_, ?_⟩
  ·have := h l[i].bar.toNat (by omega)
   rwa [show ((l[i].bar.toNat : Nat) : Int) = l[i].bar by omega] at this
  ·have := h (lastOf bars l i).toNat (by omega)
   rwa [show (((lastOf bars l i).toNat : Nat) : Int) = lastOf bars l i by omega] at this
 ·intro h k hk
  have hp : 0 < upTo l (k : Int) := upTo_pos h0 (by omega)
  have hle := upTo_le l (k : Int)
  obtain ⟨i, hi⟩ : ∃ i, upTo l (k : Int) = i + 1 := ⟨upTo l (k : Int) - 1, by omega⟩
  have hil : i < l.length := by omega
  have ht := List.getElem?_eq_getElem hil
  have e : l[i]! = l[i] := by simp [hil]
  have hseg := h i hil
  unfold segB at hseg
  rw [Bool.and_eq_true, e, inB_iff, inB_iff] at hseg
  have h1 : l[i].bar ≤ (k : Int) := (upTo_iff hs ht).2 (by omega)
  have hnx : ∀ t', l[i + 1]? = some t' → (k : Int) < t'.bar := fun t' ht' => by
   have := upTo_iff (bar := (k : Int)) hs ht'
   by_cases q : t'.bar ≤ (k : Int)
   ·have := this.1 q; omega
   ·omega
  have h2 : (k : Int) ≤ lastOf bars l i := by
   unfold lastOf
   cases q : l[i + 1]? with
   | none => simp only; omega
   | some t' => have := hnx t' q; simp only; omega
  have hlast := lastOf_le hb ht
  have u2 : upTo l l[i].bar = i + 1 := upTo_at hs ht (Int.le_refl _) fun t' ht' => sorted_at hs ht ht' (by omega)
  have u3 : upTo l (lastOf bars l i) = i + 1 := upTo_at hs ht hlast.1 fun t' ht' => by unfold lastOf; rw [ht']; simp only; omega
  rw [ticksAt_eq ht u2, ticksAt_eq ht u3] at hseg
  rw [inB_iff, ticksAt_eq ht hi]
  obtain ⟨⟨a1, a2⟩, a3, a4⟩ := hseg
  rw [Int.sub_self, Int.zero_mul, Int.add_zero] at a1 a2
  generalize l[i].bar = b at *
  generalize l[i].ticks = T at *
  generalize l[i].step = s at *
  generalize lastOf bars l i = L at *
  by_cases hs0 : 0 ≤ s
  ·have m1 : (k - b) * s ≤ (L - b) * s := Int.mul_le_mul_of_nonneg_right (by omega) hs0
   have m2 : 0 ≤ (k - b) * s := Int.mul_nonneg (by omega) hs0
   omega
  ·have m1 : (k - b) * (-s) ≤ (L - b) * (-s) := Int.mul_le_mul_of_nonneg_right (by omega) (by omega)
   have m2 : 0 ≤ (k - b) * (-s) := Int.mul_nonneg (by omega) (by omega)
   rw [Int.mul_neg, Int.mul_neg] at m1
   rw [Int.mul_neg] at m2
   omega
end Go.Proofs.YtggcbblikgankaaGreatDoor
end
section
set_option linter.unusedSimpArgs false
set_option linter.unusedVariables false
namespace Go.Proofs.YtggcbblikgankaaGreatDoor
open Go Go.RowKit Go.Deep
theorem rin13_any (n lo hi : Int) (w : World) : Calls Tryz.prog 100 #[.int .i64 n, .int .i64 lo, .int .i64 hi] w fun e w' => e = .returned (.bool (inB n lo hi)) ∧ w' = w := by
 go_enter Tryz.func100, Tryz.ntmps100
 go_wp2
 all_goals
  go_ret
  refine ⟨ret_bool ?_, rfl⟩
  unfold inB
  rw [Bool.eq_iff_iff]; simp; omega
structure ClkBox (w0 : World) (g : Nat) (bars : Int) (vT vP vS : Value) (wr : World) : Prop where
 below : Below w0.heap.size w0 wr
 c0 : wr.cell? ⟨g, 0, none⟩ = some (.int .i64 bars)
 c1 : wr.cell? ⟨g, 1, none⟩ = some vT
 c2 : wr.cell? ⟨g, 2, none⟩ = some vP
 c3 : wr.cell? ⟨g, 3, none⟩ = some vS
theorem ClkBox.make (w : World) (bars : Int) (vT vP vS : Value) : ClkBox (w.alloc (.cells #[.int .i64 bars, vT, vP, vS] 29)) w.heap.size bars vT vP vS (w.alloc (.cells #[.int .i64 bars, vT, vP, vS] 29)) := by
 have g := heap_alloc_new w (.cells #[.int .i64 bars, vT, vP, vS] 29)
 exact ⟨Below.refl _ _, cell_at g 0 rfl, cell_at g 1 rfl, cell_at g 2 rfl, cell_at g 3 rfl⟩
theorem ClkBox.next {w0 : World} {g : Nat} {bars : Int} {vT vP vS : Value} {wr w2 : World} (h : ClkBox w0 g bars vT vP vS wr) (hg : g < w0.heap.size) (hb : Below w0.heap.size wr w2) : ClkBox w0 g bars vT vP vS w2 :=
 ⟨h.below.trans hb, (hb.cell (p := ⟨g, 0, none⟩) hg).trans h.c0, (hb.cell (p := ⟨g, 1, none⟩) hg).trans h.c1, (hb.cell (p := ⟨g, 2, none⟩) hg).trans h.c2, (hb.cell (p := ⟨g, 3, none⟩) hg).trans h.c3⟩
set_option maxRecDepth 100000 in
set_option maxHeartbeats 4000000 in
theorem rticks_any (bars bar : Int) (b o n c : Nat) (vp vs : Value) (ts : List Tmp) (w : World) (hn : ts.length = n) (hm : n ≤ 65536) (hr : AtRow encT 3 w b o ts) (hb : b < w.heap.size) (hw : NoWrap ts bar) :
  Calls Tryz.prog 123 #[.agg #[.int .i64 bars, .slice (some ⟨b, o, none⟩) n c, vp, vs], .int .i64 bar] w fun e w' => e = .returned (.int .i64 (ticksAt ts bar)) ∧ Below w.heap.size w w' := by
 obtain ⟨hs, hu, hb1, hb2, hall⟩ := hw
 have hul := upTo_le ts bar
 rw [hn] at hul
 have hbx := ClkBox.make w bars (.slice (some ⟨b, o, none⟩) n c) vp vs
 have hbw : Below w.heap.size w (w.alloc (.cells #[.int .i64 bars, .slice (some ⟨b, o, none⟩) n c, vp, vs] 29)) := (Below.refl _ w).alloc (Nat.le_refl _) _
 have HS := Lib.hid hs; have HN := Lib.hid hn; have HR := Lib.hid (hr.below hbw hb); have HALL := Lib.hid hall; have HBW := Lib.hid hbw
 clear hs hn hr hall hbw
 go_enter Tryz.func123, Tryz.ntmps123
 go_wp2_with fail
 generalize w.alloc (.cells #[.int .i64 bars, .slice (some ⟨b, o, none⟩) n c, vp, vs] 29) = w0 at *
 have c1 := hbx.c1
 clear hbx
 go_loopw [5] (fun kv wr => ∃ k : Nat, kv = .int .i64 k ∧ k < upTo ts bar ∧ wr = w0) (fun kv _ => n - (intOf kv).toNat)
 case atStart => exact ⟨0, rfl, hu, rfl⟩
 case round =>
  obtain ⟨k, rfl, hk, rfl⟩ := hrel
  have hmulb : ∀ t ∈ ts, 0 ≤ t.bar ∧ t.bar ≤ 4096 ∧ -65536 ≤ t.ticks ∧ t.ticks ≤ 65536 ∧ -65536 ≤ t.step ∧ t.step ≤ 65536 := HALL.out
  have stop : (∀ t', ts[k + 1]? = some t' → bar < t'.bar) → ∃ t, ts[k]? = some t ∧ ticksAt ts bar = t.ticks + (bar - t.bar) * t.step := fun h => by
   have ht := List.getElem?_eq_getElem (show k < ts.length by rw [HN.out]; omega)
   exact ⟨_, ht, ticksAt_eq ht (upTo_at HS.out ht ((upTo_iff HS.out ht).2 hk) h)⟩
  obtain ⟨k1, hk1⟩ : ∃ x, k + 1 = x := ⟨_, rfl⟩
  have hk1I : (k : Int) + 1 = (k1 : Int) := by omega
  rw [hk1] at stop
  have fin : (∀ t', ts[k1]? = some t' → bar < t'.bar) → ∃ t : Tmp, (wr.cell? ⟨b, o + k * 3, none⟩ = some (.int .i64 t.bar) ∧ wr.cell? ⟨b, o + k * 3 + 1, none⟩ = some (.int .i64 t.ticks) ∧ wr.cell? ⟨b, o + k * 3 + 2, none⟩ = some (.int .i64 t.step)) ∧ ticksAt ts bar = t.ticks + (bar - t.bar) * t.step ∧ (-268435456 ≤ (bar - t.bar) * t.step ∧ (bar - t.bar) * t.step ≤ 268435456) ∧ (0 ≤ t.bar ∧ t.bar ≤ 4096 ∧ -65536 ≤ t.ticks ∧ t.ticks ≤ 65536) := fun h => by
   obtain ⟨t, h1, h2⟩ := stop h
   have h3 := hmulb t (List.mem_of_getElem? h1)
   exact ⟨t, atT HR.out h1, h2, mul_bd2 (by omega) (by omega) (by omega) (by omega), by omega⟩
  have HF := Lib.hid fin
  clear stop fin hmulb
  have hkn : (k : Int) < (n : Int) := by omega
  by_cases h1 : k1 < n
  ·have h1I : (k1 : Int) < (n : Int) := by omega
   have ht := List.getElem?_eq_getElem (show k1 < ts.length by rw [HN.out]; exact h1)
   obtain ⟨t1, ht1⟩ : ∃ t, ts[k1]'(by rw [HN.out]; exact h1) = t := ⟨_, rfl⟩
   rw [ht1] at ht
   obtain ⟨p0, _, _⟩ := atT HR.out ht
   have hiff := upTo_iff (bar := bar) HS.out ht
   have HT := Lib.hid ht
   clear ht ht1
   by_cases h2 : t1.bar ≤ bar
   ·have hk2 : k1 < upTo ts bar := hiff.1 h2
    clear hiff HF HT
    go_wp2_with fail
    go_roundw
    case rel => exact ⟨k1, by go_num, hk2, trivial⟩
    case measure => simp [intOf] <;> omega
   ·obtain ⟨t, ⟨q0, q1, q2⟩, htk, hmb, htb⟩ := HF.out (fun t' h => by have h3 := h.symm.trans HT.out; injection h3 with h3; rw [h3]; omega)
    have HTK := Lib.hid htk
    have h2' : ¬ t1.bar ≤ bar := h2
    clear hiff HF HT htk
    go_wp2_with fail
    go_ret
    exact ⟨by rw [HTK.out]; rfl, HBW.out.alloc HBW.out.size _⟩
  ·have h1I : ¬ (k1 : Int) < (n : Int) := by omega
   obtain ⟨t, ⟨q0, q1, q2⟩, htk, hmb, htb⟩ := HF.out (fun t' h => by
    have := (List.getElem?_eq_some_iff.1 h).1
    rw [HN.out] at this; omega)
   have HTK := Lib.hid htk
   clear HF htk
   go_wp2_with fail
   go_ret
   exact ⟨by rw [HTK.out]; rfl, HBW.out.alloc HBW.out.size _⟩
theorem all_take {α : Type} {f : α → Bool} {l : List α} {i : Nat} {x : α} (h : (l.take i).all f = true) (hx : l[i]? = some x) (hf : f x = true) : (l.take (i + 1)).all f = true := by
 rw [List.take_add_one, hx, List.all_append, h]
 simp [hf]
theorem all_bad {α : Type} {f : α → Bool} {l : List α} {i : Nat} {x : α} (hx : l[i]? = some x) (hf : f x = false) : l.all f = false := by
 rw [Bool.eq_false_iff]
 intro h
 have := List.all_eq_true.1 h x (List.mem_of_getElem? hx)
 rw [hf] at this; cases this
set_option maxRecDepth 100000 in
set_option maxHeartbeats 8000000 in
theorem rspans_any (bars : Int) (hb1 : 1 ≤ bars) (hb2 : bars ≤ 4096) (vT vP : Value) (ss : List Con) (aS : Option Addr) (nS cS : Nat) (w : World) (hn : ss.length = nS) (hX : IsRow encC 4 w (.slice aS nS cS) ss) :
  Calls Tryz.prog 103 #[.agg #[.int .i64 bars, vT, vP, .slice aS nS cS]] w fun e w' => e = .returned (.bool (ss.all (conB bars))) ∧ Below w.heap.size w w' := by
 have hmx : nS ≤ maxLen := by obtain ⟨_, _, _, h, _⟩ := hX; omega
 simp only [maxLen] at hmx
 obtain ⟨r, hr⟩ : ∃ r, ss.all (conB bars) = r := ⟨_, rfl⟩
 rw [hr]
 have HR := Lib.hid hr
 clear hr
 have hbx := ClkBox.make w bars vT vP (.slice aS nS cS)
 have hbw : Below w.heap.size w (w.alloc (.cells #[.int .i64 bars, vT, vP, .slice aS nS cS] 29)) := (Below.refl _ w).alloc (Nat.le_refl _) _
 have hsz : w.heap.size < (w.alloc (.cells #[.int .i64 bars, vT, vP, .slice aS nS cS] 29)).heap.size := by simp
 have HN := Lib.hid hn; have HX := Lib.hid hX; have HBW := Lib.hid hbw
 clear hn hX hbw
 go_enter Tryz.func103, Tryz.ntmps103
 go_wp2_with fail
 generalize w.alloc (.cells #[.int .i64 bars, vT, vP, .slice aS nS cS] 29) = w0 at *
 have HBX := Lib.hid hbx
 clear hbx
 have HA0 : Hid ((ss.take 0).all (conB bars) = true) := Lib.hid rfl
 go_loopw [3] (fun iv wr => ∃ i : Nat, i ≤ nS ∧ iv = .int .i64 i ∧ Hid ((ss.take i).all (conB bars) = true) ∧ Hid (ClkBox w0 w.heap.size bars vT vP (.slice aS nS cS) wr)) (fun iv _ => nS - (intOf iv).toNat)
 case atStart => exact ⟨0, Nat.zero_le _, rfl, HA0, HBX⟩
 case round =>
  clear HBX HA0
  obtain ⟨i, hi, rfl, hA, hB⟩ := hrel
  obtain ⟨hbe, c0, c1, c2, c3⟩ := hB.out
  have hbw2 := HBW.out.trans (hbe.mono HBW.out.size)
  have HBE := Lib.hid hbe; have HBW2 := Lib.hid hbw2
  have hsr := hbe.size
  clear hbe hbw2
  by_cases hin : i < nS
  ·have hin' : (i : Int) < (nS : Int) := by omega
   obtain ⟨s, hs⟩ : ∃ s, ss[i]? = some s := ⟨_, List.getElem?_eq_getElem (by rw [HN.out]; exact hin)⟩
   obtain ⟨b, o, hao, hat, hlt⟩ := HX.out.block hs
   subst hao
   obtain ⟨p0, p1, p2, p3⟩ := atC (hat.below HBW2.out hlt) hs
   have HOK : Hid (conB bars s = true → (ss.take (i + 1)).all (conB bars) = true) := Lib.hid fun h => all_take hA.out hs h
   have HNO : Hid (conB bars s = false → r = false) := Lib.hid fun h => by rw [← HR.out]; exact all_bad hs h
   have hcon : conB bars s = (inB s.frm 0 bars && inB s.to 0 bars && decide (s.frm ≠ s.to) && inB s.lo (-1099511627776) s.hi && decide (s.hi ≤ 1099511627776)) := rfl
   have HC := Lib.hid hcon
   have hB5 := hB.out.next (w2 := wr.alloc (.cells #[.int .i64 s.frm, .int .i64 s.to, .int .i64 s.lo, .int .i64 s.hi] 173)) hsz ((Below.refl _ _).alloc hsr _)
   have x2 := heap_alloc_new wr (.cells #[.int .i64 s.frm, .int .i64 s.to, .int .i64 s.lo, .int .i64 s.hi] 173)
   have e0 := hB5.c0
   clear hat hlt hs hA hB hcon
   go_wp2_with fail
   generalize wr.alloc (.cells #[.int .i64 s.frm, .int .i64 s.to, .int .i64 s.lo, .int .i64 s.hi] 173) = w5 at *
   have l0 : w5.cell? ⟨wr.heap.size, 0, none⟩ = some (.int .i64 s.frm) := cell_at x2 0 rfl
   have l1 : w5.cell? ⟨wr.heap.size, 1, none⟩ = some (.int .i64 s.to) := cell_at x2 1 rfl
   have l2 : w5.cell? ⟨wr.heap.size, 2, none⟩ = some (.int .i64 s.lo) := cell_at x2 2 rfl
   have l3 : w5.cell? ⟨wr.heap.size, 3, none⟩ = some (.int .i64 s.hi) := cell_at x2 3 rfl
   have HB5 := Lib.hid hB5
   have HBW5 := Lib.hid (HBW.out.trans (hB5.below.mono HBW.out.size))
   clear c0 c1 c2 c3 p0 p1 p2 p3 x2 hB5
   generalize wr.heap.size = gw at *
   refine (rin13_any s.frm 0 bars _).mono ?_
   rintro e w6 ⟨rfl, rfl⟩
   cases q0 : inB s.frm 0 bars with
   | false =>
    have HF := Lib.hid (HNO.out (by rw [HC.out, q0]; rfl))
    go_wp2_with fail
    go_ret
    exact ⟨by rw [HF.out]; rfl, HBW5.out⟩
   | true =>
   have Q0 := Lib.hid q0
   clear q0
   go_wp2_with fail
   refine (rin13_any s.to 0 bars _).mono ?_
   rintro e w7 ⟨rfl, rfl⟩
   cases q1 : inB s.to 0 bars with
   | false =>
    have HF := Lib.hid (HNO.out (by rw [HC.out, q1]; simp))
    go_wp2_with fail
    go_ret
    exact ⟨by rw [HF.out]; rfl, HBW5.out⟩
   | true =>
   have Q1 := Lib.hid q1
   clear q1
   by_cases q2 : s.frm = s.to
   ·have HF := Lib.hid (HNO.out (by rw [HC.out]; simp [q2]))
    have q2' : (s.frm == s.to) = true := by simpa using q2
    clear q2
    go_wp2_with fail
    go_ret
    exact ⟨by rw [HF.out]; rfl, HBW5.out⟩
   have q2' : (s.frm == s.to) = false := by simpa using q2
   have Q2 := Lib.hid q2
   clear q2
   by_cases q3 : s.lo < -1099511627776
   ·have HF := Lib.hid (HNO.out (by rw [HC.out, inB_false.2 (Or.inl q3)]; simp))
    go_wp2_with fail
    go_ret
    exact ⟨by rw [HF.out]; rfl, HBW5.out⟩
   by_cases q4 : s.hi < s.lo
   ·have HF := Lib.hid (HNO.out (by rw [HC.out, inB_false.2 (Or.inr q4)]; simp))
    go_wp2_with fail
    go_ret
    exact ⟨by rw [HF.out]; rfl, HBW5.out⟩
   by_cases q5 : 1099511627776 < s.hi
   ·have HF := Lib.hid (HNO.out (by rw [HC.out]; simp; omega))
    go_wp2_with fail
    go_ret
    exact ⟨by rw [HF.out]; rfl, HBW5.out⟩
   have HA2 := Lib.hid (HOK.out (by rw [HC.out, Q0.out, Q1.out, decide_eq_true Q2.out, inB_iff.2 (by omega), decide_eq_true (by omega)]; rfl))
   go_wp2_with fail
   go_roundw
   case rel => exact ⟨i + 1, by omega, by go_num, HA2, HB5⟩
   case measure => simp [intOf] <;> omega
  ·obtain rfl : i = nS := by omega
   have hin' : ¬ (i : Int) < (i : Int) := by omega
   have HF : Hid (r = true) := Lib.hid (by
    rw [← HR.out]
    have := hA.out
    rwa [List.take_of_length_le (by rw [HN.out]; exact Nat.le_refl _)] at this)
   clear hA hB
   go_wp2_with fail
   go_ret
   exact ⟨by rw [HF.out]; rfl, HBW2.out⟩
end Go.Proofs.YtggcbblikgankaaGreatDoor
end
section
set_option linter.unusedSimpArgs false
set_option linter.unusedVariables false
namespace Go.Proofs.YtggcbblikgankaaGreatDoor
open Go Go.RowKit Go.Deep
theorem pausB_cons (bars last : Int) (p : Pau) (r : List Pau) : pausB bars last (p :: r) = ((inB p.bar (last + 1) (bars - 2) && inB p.kind 1 2 && inB p.lo 0 p.hi && decide (p.hi ≤ 1048576)) && pausB bars p.bar r) := rfl
theorem hB5c {w0 : World} {g : Nat} {bars : Int} {vT vP vS : Value} {wr : World} (h : ClkBox w0 g bars vT vP vS wr) (q : Nat) : ClkBox w0 g bars vT vP vS (wr.drewN q) := ⟨bel_dn h.below q, h.c0, h.c1, h.c2, h.c3⟩
set_option maxRecDepth 100000 in
set_option maxHeartbeats 8000000 in
theorem rpauses_any (bars : Int) (hb1 : 1 ≤ bars) (hb2 : bars ≤ 4096) (vT vS : Value) (ps : List Pau) (aP : Option Addr) (nP cP : Nat) (w : World) (hn : ps.length = nP) (hX : IsRow encP 4 w (.slice aP nP cP) ps) :
  Calls Tryz.prog 102 #[.agg #[.int .i64 bars, vT, .slice aP nP cP, vS]] w fun e w' => e = .returned (.bool (pausB bars (-1) ps)) ∧ Below w.heap.size w w' := by
 have hmx : nP ≤ maxLen := by obtain ⟨_, _, _, h, _⟩ := hX; omega
 simp only [maxLen] at hmx
 obtain ⟨r, hr⟩ : ∃ r, pausB bars (-1) ps = r := ⟨_, rfl⟩
 rw [hr]
 have HR := Lib.hid hr
 clear hr
 have hbx := ClkBox.make w bars vT (.slice aP nP cP) vS
 have hbw : Below w.heap.size w (w.alloc (.cells #[.int .i64 bars, vT, .slice aP nP cP, vS] 29)) := (Below.refl _ w).alloc (Nat.le_refl _) _
 have hsz : w.heap.size < (w.alloc (.cells #[.int .i64 bars, vT, .slice aP nP cP, vS] 29)).heap.size := by simp
 have HN := Lib.hid hn; have HX := Lib.hid hX; have HBW := Lib.hid hbw
 clear hn hX hbw
 go_enter Tryz.func102, Tryz.ntmps102
 go_wp2_with fail
 generalize w.alloc (.cells #[.int .i64 bars, vT, .slice aP nP cP, vS] 29) = w0 at *
 have HBX := Lib.hid hbx
 clear hbx
 have HA0 : Hid (r = pausB bars (-1) (ps.drop 0)) := Lib.hid HR.out.symm
 have HP0 : Hid (∀ i0 p, 0 = i0 + 1 → ps[i0]? = some p → p.bar = (-1 : Int)) := Lib.hid fun i0 p h => by omega
 go_loopw [3] (fun iv wr => ∃ (i : Nat) (last : Int), i ≤ nP ∧ iv = .int .i64 i ∧ (i = 0 ∧ last = -1 ∨ 0 < i ∧ 0 ≤ last) ∧ Hid (r = pausB bars last (ps.drop i)) ∧ Hid (∀ i0 p, i = i0 + 1 → ps[i0]? = some p → p.bar = last) ∧ Hid (ClkBox w0 w.heap.size bars vT (.slice aP nP cP) vS wr)) (fun iv _ => nP - (intOf iv).toNat)
 case atStart => exact ⟨0, -1, Nat.zero_le _, rfl, Or.inl ⟨rfl, rfl⟩, HA0, HP0, HBX⟩
 case round =>
  clear HBX HA0 HP0
  obtain ⟨i, last, hi, rfl, hlast, hA, hP, hB⟩ := hrel
  obtain ⟨hbe, c0, c1, c2, c3⟩ := hB.out
  have hbw2 := HBW.out.trans (hbe.mono HBW.out.size)
  have HBE := Lib.hid hbe; have HBW2 := Lib.hid hbw2
  have hsr := hbe.size
  clear hbe hbw2
  by_cases hin : i < nP
  ·have hin' : (i : Int) < (nP : Int) := by omega
   obtain ⟨p, hs⟩ : ∃ s, ps[i]? = some s := ⟨_, List.getElem?_eq_getElem (by rw [HN.out]; exact hin)⟩
   obtain ⟨b, o, hao, hat, hlt⟩ := HX.out.block hs
   subst hao
   obtain ⟨p0, p1, p2, p3⟩ := atP (hat.below HBW2.out hlt) hs
   have hrr : r = ((inB p.bar (last + 1) (bars - 2) && inB p.kind 1 2 && inB p.lo 0 p.hi && decide (p.hi ≤ 1048576)) && pausB bars p.bar (ps.drop (i + 1))) := by
    rw [hA.out, drop_at hs, pausB_cons]
   have HRR := Lib.hid hrr
   have HPN : Hid (∀ i0 q, i + 1 = i0 + 1 → ps[i0]? = some q → q.bar = p.bar) := Lib.hid fun i0 q h1 h2 => by
    obtain rfl : i0 = i := by omega
    rw [hs] at h2; cases h2; rfl
   have hB5 := hB.out.next (w2 := wr.alloc (.cells #[.int .i64 p.bar, .int .i64 p.kind, .int .i64 p.lo, .int .i64 p.hi] 171)) hsz ((Below.refl _ _).alloc hsr _)
   have x2 := heap_alloc_new wr (.cells #[.int .i64 p.bar, .int .i64 p.kind, .int .i64 p.lo, .int .i64 p.hi] 171)
   have HPV : Hid (0 < i → ∀ W, Below w.heap.size w W → ∃ i0 : Nat, (i : Int) - 1 = (i0 : Int) ∧ (i0 : Int) < (nP : Int) ∧ W.cell? ⟨b, o + i0 * 4, none⟩ = some (.int .i64 last)) := Lib.hid fun h W hW => by
    obtain ⟨i0, rfl⟩ : ∃ i0, i = i0 + 1 := ⟨i - 1, by omega⟩
    obtain ⟨q, hq⟩ : ∃ s, ps[i0]? = some s := ⟨_, List.getElem?_eq_getElem (by rw [HN.out]; omega)⟩
    refine ⟨i0, by omega, by omega, ?_⟩
    rw [← hP.out i0 q rfl hq]
    exact (atP (hat.below hW hlt) hq).1
   have e0 := hB5.c0
   have e2 := hB5.c2
   clear hat hlt hs hA hB hrr hP
   go_wp2_with fail
   generalize wr.alloc (.cells #[.int .i64 p.bar, .int .i64 p.kind, .int .i64 p.lo, .int .i64 p.hi] 171) = w5 at *
   have l0 : w5.cell? ⟨wr.heap.size, 0, none⟩ = some (.int .i64 p.bar) := cell_at x2 0 rfl
   have l1 : w5.cell? ⟨wr.heap.size, 1, none⟩ = some (.int .i64 p.kind) := cell_at x2 1 rfl
   have l2 : w5.cell? ⟨wr.heap.size, 2, none⟩ = some (.int .i64 p.lo) := cell_at x2 2 rfl
   have l3 : w5.cell? ⟨wr.heap.size, 3, none⟩ = some (.int .i64 p.hi) := cell_at x2 3 rfl
   have HB5 := Lib.hid hB5
   have HBW5 := Lib.hid (HBW.out.trans (hB5.below.mono HBW.out.size))
   clear c0 c1 c2 c3 p0 p1 p2 p3 x2 hB5
   generalize wr.heap.size = gw at *
   have hwb : IntKind.i64.wrap (bars - 2) = bars - 2 := IntWalk.i64_in _ (by omega)
   have HW := Lib.hid (fun W => rin13_any p.bar 0 (bars - 2) W)
   have hcase : (r = false ∧ (inB p.bar 0 (bars - 2) = false ∨ (inB p.bar 0 (bars - 2) = true ∧ 0 < i ∧ p.bar ≤ last) ∨ (inB p.bar 0 (bars - 2) = true ∧ (i = 0 ∨ last < p.bar) ∧ ¬ p.kind = 1 ∧ ¬ p.kind = 2))) ∨ (inB p.bar (last + 1) (bars - 2) = true ∧ inB p.bar 0 (bars - 2) = true ∧ (i = 0 ∨ last < p.bar) ∧ (p.kind = 1 ∨ p.kind = 2)) := by
    rw [HRR.out]
    by_cases q1 : inB p.bar 0 (bars - 2) = true
    ·have q2 := inB_iff.1 q1
     by_cases q3 : 0 < i ∧ p.bar ≤ last
     ·exact Or.inl ⟨by rw [inB_false.2 (Or.inl (by omega))]; rfl, Or.inr (Or.inl ⟨q1, q3⟩)⟩
     ·by_cases q4 : p.kind = 1 ∨ p.kind = 2
      ·exact Or.inr ⟨inB_iff.2 (by omega), q1, by omega, q4⟩
      ·exact Or.inl ⟨by rw [inB_false.2 (show p.kind < 1 ∨ 2 < p.kind by omega)]; simp, Or.inr (Or.inr ⟨q1, by omega, by omega, by omega⟩)⟩
    ·rw [Bool.not_eq_true] at q1
     refine Or.inl ⟨?_, Or.inl q1⟩
     rw [inB_false] at q1
     rw [inB_false.2 (by omega)]; rfl
   rcases hcase with ⟨rfl, hbad⟩ | ⟨k1, k2, k3, k4⟩
   ·rcases hbad with hq | ⟨hq, hpi, hle⟩ | ⟨hq, hfi, hk1, hk2⟩
    ·rw [hq] at HW
     clear hq hlast HRR HPN
     go_quiet (first | (go_at_call 100; refine Calls.quiet_of_same (HW.out _)))
     go_wp2_with fail
     go_ret
     exact ⟨rfl, bel_dn HBW5.out _⟩
    ·rw [hq] at HW
     obtain ⟨i0, hi0, hi0n, pc⟩ := HPV.out hpi w5 HBW5.out
     have hpi' : (0 : Int) < (i : Int) := by omega
     have hwi : IntKind.i64.wrap (i0 : Int) = (i0 : Int) := IntWalk.i64_in _ (by omega)
     clear hq hlast HRR HPN HPV
     go_quiet (first | (go_at_call 100; refine Calls.quiet_of_same (HW.out _)))
     go_wp2_with fail
     go_ret
     exact ⟨rfl, bel_dn HBW5.out _⟩
    ·rw [hq] at HW
     have hm1 : (p.kind != 1) = true := by simpa using hk1
     have hm2 : (p.kind != 2) = true := by simpa using hk2
     by_cases hpi : 0 < i
     ·obtain ⟨i0, hi0, hi0n, pc⟩ := HPV.out hpi w5 HBW5.out
      have hpi' : (0 : Int) < (i : Int) := by omega
      have hwi : IntKind.i64.wrap (i0 : Int) = (i0 : Int) := IntWalk.i64_in _ (by omega)
      have hgt : ¬ p.bar ≤ last := by omega
      clear hq hlast HRR HPN HPV hk1 hk2 hfi
      go_quiet (first | (go_at_call 100; refine Calls.quiet_of_same (HW.out _)))
      go_wp2_with fail
      go_ret
      exact ⟨rfl, bel_dn HBW5.out _⟩
     ·have hpi' : ¬ (0 : Int) < (i : Int) := by omega
      clear hq hlast HRR HPN HPV hk1 hk2 hfi
      go_quiet (first | (go_at_call 100; refine Calls.quiet_of_same (HW.out _)))
      go_wp2_with fail
      go_ret
      exact ⟨rfl, bel_dn HBW5.out _⟩
   ·rw [k2] at HW
    have hq7 : (r = false ∧ ((p.lo < 0) ∨ (¬ p.lo < 0 ∧ p.hi < p.lo) ∨ (¬ p.lo < 0 ∧ ¬ p.hi < p.lo ∧ 1048576 < p.hi))) ∨ ((¬ p.lo < 0 ∧ ¬ p.hi < p.lo ∧ ¬ 1048576 < p.hi) ∧ r = pausB bars p.bar (ps.drop (i + 1))) := by
     rw [HRR.out, k1, inB_iff.2 (show 1 ≤ p.kind ∧ p.kind ≤ 2 by omega)]
     by_cases q3 : p.lo < 0
     ·exact Or.inl ⟨by rw [inB_false.2 (Or.inl q3)]; simp, Or.inl q3⟩
     by_cases q4 : p.hi < p.lo
     ·exact Or.inl ⟨by rw [inB_false.2 (Or.inr q4)]; simp, Or.inr (Or.inl ⟨q3, q4⟩)⟩
     by_cases q5 : 1048576 < p.hi
     ·exact Or.inl ⟨by rw [decide_eq_false (show ¬ p.hi ≤ 1048576 by omega)]; simp, Or.inr (Or.inr ⟨q3, q4, q5⟩)⟩
     ·exact Or.inr ⟨⟨q3, q4, q5⟩, by rw [inB_iff.2 (show 0 ≤ p.lo ∧ p.lo ≤ p.hi by omega), decide_eq_true (show p.hi ≤ 1048576 by omega)]; simp⟩
    have hkd : ((p.kind != 1) = false) ∨ ((p.kind != 1) = true ∧ (p.kind != 2) = false) := by
     rcases k4 with h | h
     ·exact Or.inl (by rw [h]; rfl)
     ·exact Or.inr ⟨by rw [h]; rfl, by rw [h]; rfl⟩
    have hpv : (0 < i ∧ ¬ p.bar ≤ last ∧ ∃ i0 : Nat, (i : Int) - 1 = (i0 : Int) ∧ (i0 : Int) < (nP : Int) ∧ IntKind.i64.wrap (i0 : Int) = (i0 : Int) ∧ w5.cell? ⟨b, o + i0 * 4, none⟩ = some (.int .i64 last)) ∨ ¬ 0 < i := by
     by_cases h : 0 < i
     ·obtain ⟨i0, a1, a2, a3⟩ := HPV.out h w5 HBW5.out
      exact Or.inl ⟨by omega, by omega, i0, a1, a2, IntWalk.i64_in _ (by omega), a3⟩
     ·exact Or.inr (by omega)
    have hb5 : 0 ≤ p.bar := by have := inB_iff.1 k2; omega
    have HB6 := Lib.hid (fun q => hB5c HB5.out q)
    clear HRR HPV k1 k2 k3 k4 hlast HBE
    rcases hq7 with ⟨rfl, hq⟩ | ⟨⟨hq1, hq2, hq3⟩, hrr⟩
    ·rcases hpv with ⟨hpi, hgt, i0, hi0, hi0n, hwi, pc⟩ | hpi <;> rcases hkd with hm1 | ⟨hm1, hm2⟩ <;> rcases hq with hq | ⟨hqa, hq⟩ | ⟨hqa, hqb, hq⟩
     all_goals
      go_quiet (first | (go_at_call 100; refine Calls.quiet_of_same (HW.out _)))
      go_wp2_with fail
      go_ret
      exact ⟨rfl, bel_dn HBW5.out _⟩
    ·have HRR2 := Lib.hid hrr
     clear hrr
     rcases hpv with ⟨hpi, hgt, i0, hi0, hi0n, hwi, pc⟩ | hpi <;> rcases hkd with hm1 | ⟨hm1, hm2⟩
     all_goals
      go_quiet (first | (go_at_call 100; refine Calls.quiet_of_same (HW.out _)))
      go_wp2_with fail
      go_roundw
      case rel => exact ⟨i + 1, p.bar, by omega, by go_num, Or.inr ⟨by omega, hb5⟩, HRR2, HPN, Lib.hid (HB6.out _)⟩
      case measure => simp [intOf] <;> omega
  ·obtain rfl : i = nP := by omega
   have hin' : ¬ (i : Int) < (i : Int) := by omega
   have HF : Hid (r = true) := Lib.hid (by
    have := hA.out
    rw [List.drop_of_length_le (by rw [HN.out]; exact Nat.le_refl _)] at this
    rw [this]; rfl)
   clear hA hB
   go_wp2_with fail
   go_ret
   exact ⟨by rw [HF.out]; rfl, HBW2.out⟩
end Go.Proofs.YtggcbblikgankaaGreatDoor
end
