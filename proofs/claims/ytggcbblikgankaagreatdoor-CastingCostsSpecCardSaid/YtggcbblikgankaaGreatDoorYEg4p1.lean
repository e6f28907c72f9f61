/- The walk of the statement: part 1. -/
import Derived.Test.YtggcbblikgankaaGreatDoorZ14
import Derived.Test.YtggcbblikgankaaGreatDoorZ11
import Derived.Test.YtggcbblikgankaaGreatDoorZ17
import Derived.BigQuiet
import Derived.Test.YtggcbblikgankaaGreatDoorZ3
set_option linter.unusedVariables false
set_option linter.unusedSimpArgs false
set_option maxRecDepth 100000
set_option maxHeartbeats 16000000
namespace Go.Proofs.YtggcbblikgankaaGreatDoor
open Go.Value (int)
open Go.IntKind (i64)
section
open Go Go.RowKit Go.Deep
theorem LM {a b : Nat} (h : 0 < b) : Nat.gcd b (a % b) = Nat.gcd a b := by
 rw [Nat.gcd_comm a b, Nat.gcd_rec b a, Nat.gcd_comm]
theorem QQ (a b : Nat) (ha : a ≤ 1099511627776) (hb : b ≤ 1099511627776) (w : World) : Calls Tryz.prog 156 #[int i64 a, int i64 b] w fun e w' => e = .returned (int i64 (Nat.gcd a b)) ∧ w' = w := by
 go_enter Tryz.func156, Tryz.ntmps156
 go_wp2_with fail
 go_loopw [0, 1] (fun av bv wr => ∃ x y : Nat, av = int i64 x ∧ bv = int i64 y ∧ x ≤ 1099511627776 ∧ y ≤ 1099511627776 ∧ Hid (Nat.gcd x y = Nat.gcd a b) ∧ wr = w) (fun _ bv _ => (intOf bv).toNat)
 case atStart => exact ⟨a, b, rfl, rfl, ha, hb, qh rfl, rfl⟩
 case round =>
  obtain ⟨x, y, rfl, rfl, hx, hy, hG, rfl⟩ := hrel
  by_cases h0 : y = 0
  ·subst h0
   have HG := qh (show x = Nat.gcd a b by rw [← hG.out, Nat.gcd_zero_right])
   clear hG
   go_wp2_with fail
   go_ret
   exact ⟨by rw [← HG.out]; rfl, rfl⟩
  ·have h1 : (0 : Int) < (y : Int) := by omega
   have hm : Int.tmod (x : Int) (y : Int) = ((x % y : Nat) : Int) := rfl
   have hlt : x % y < y := Nat.mod_lt _ (by omega)
   have hg2 : Nat.gcd y (x % y) = Nat.gcd a b := by rw [LM (by omega), hG.out]
   have HG := qh hg2
   clear hG hg2
   generalize x % y = z at *
   go_wp2_with fail
   go_roundw
   case rel => exact ⟨y, z, by go_num, by go_num, hy, by omega, HG, trivial⟩
   case measure => simp [intOf] <;> omega
theorem Lp (a b : Nat) (ha : a ≤ 1099511627776) (hb : b ≤ 1099511627776) (w : World) : Calls Tryz.prog 124 #[int i64 a, int i64 b] w fun e w' => e = .returned (int i64 (Nat.gcd a b)) ∧ w' = w := by
 go_enter Tryz.func124, Tryz.ntmps124
 go_wp2_with fail
 go_loopw [0, 1] (fun av bv wr => ∃ x y : Nat, av = int i64 x ∧ bv = int i64 y ∧ x ≤ 1099511627776 ∧ y ≤ 1099511627776 ∧ Hid (Nat.gcd x y = Nat.gcd a b) ∧ wr = w) (fun _ bv _ => (intOf bv).toNat)
 case atStart => exact ⟨a, b, rfl, rfl, ha, hb, qh rfl, rfl⟩
 case round =>
  obtain ⟨x, y, rfl, rfl, hx, hy, hG, rfl⟩ := hrel
  by_cases h0 : y = 0
  ·subst h0
   have HG := qh (show x = Nat.gcd a b by rw [← hG.out, Nat.gcd_zero_right])
   clear hG
   go_wp2_with fail
   go_ret
   exact ⟨by rw [← HG.out]; rfl, rfl⟩
  ·have h1 : (0 : Int) < (y : Int) := by omega
   have hm : Int.tmod (x : Int) (y : Int) = ((x % y : Nat) : Int) := rfl
   have hlt : x % y < y := Nat.mod_lt _ (by omega)
   have hg2 : Nat.gcd y (x % y) = Nat.gcd a b := by rw [LM (by omega), hG.out]
   have HG := qh hg2
   clear hG hg2
   generalize x % y = z at *
   go_wp2_with fail
   go_roundw
   case rel => exact ⟨y, z, by go_num, by go_num, hy, by omega, HG, trivial⟩
   case measure => simp [intOf] <;> omega
theorem Oz (n : Int) (h1 : -1099511627776 ≤ n) (h2 : n ≤ 1099511627776) (w : World) : Calls Tryz.prog 157 #[int i64 n] w fun e w' => e = .returned (int i64 (n.natAbs : Nat)) ∧ w' = w := by
 by_cases h0 : n < 0
 ·have h3 : ((n.natAbs : Nat) : Int) = -n := by omega
  go_enter Tryz.func157, Tryz.ntmps157
  go_wp2_with fail
  go_ret
  first | exact ⟨rfl, rfl⟩ | exact ⟨by rw [h3]; rfl, rfl⟩
 ·have h3 : ((n.natAbs : Nat) : Int) = n := by omega
  go_enter Tryz.func157, Tryz.ntmps157
  go_wp2_with fail
  go_ret
  first | exact ⟨rfl, rfl⟩ | exact ⟨by rw [h3]; rfl, rfl⟩
theorem KK (n : Int) (h1 : -1099511627776 ≤ n) (h2 : n ≤ 1099511627776) (w : World) : Calls Tryz.prog 125 #[int i64 n] w fun e w' => e = .returned (int i64 (n.natAbs : Nat)) ∧ w' = w := by
 by_cases h0 : n < 0
 ·have h3 : ((n.natAbs : Nat) : Int) = -n := by omega
  have h4 : max n (-n) = -n := by omega
  rw [h3]
  clear h3
  go_enter Tryz.func125, Tryz.ntmps125
  go_wp2_with fail
  go_ret
  exact ⟨rfl, rfl⟩
 ·have h3 : ((n.natAbs : Nat) : Int) = n := by omega
  have h4 : max n (-n) = n := by omega
  rw [h3]
  clear h3
  go_enter Tryz.func125, Tryz.ntmps125
  go_wp2_with fail
  go_ret
  exact ⟨rfl, rfl⟩
theorem AO {B : Nat} {a w : World} (h : Below B a w) (n : Nat) : Below B a (w.drewN n) := ⟨h.os, h.tape, h.output, h.size, h.block⟩
theorem DP (n d : Int) (w : World) : Calls Tryz.prog 142 #[.agg #[int i64 n, int i64 d]] w fun e w' => e = .returned (.bool (AE n d)) ∧ Below w.heap.size w w' := by
 have g0 := heap_alloc_new w (.cells #[int i64 n, int i64 d] 70)
 have b0 : Below w.heap.size w (w.alloc (.cells #[int i64 n, int i64 d] 70)) := (Below.refl _ w).alloc (qn _) _
 obtain ⟨r, hr⟩ : ∃ r, AE n d = r := ⟨_, rfl⟩
 have HR := qh hr
 rw [hr]
 clear hr
 have no : AE n d = false → ∀ W : World, Below w.heap.size w W → (.returned (.bool false) : Ending) = .returned (.bool r) ∧ Below w.heap.size w W := fun h W hb => ⟨by rw [← HR.out, h], hb⟩
 have NO := qh no
 clear no
 go_enter Tryz.func142, Tryz.ntmps142
 go_wp2_with fail
 generalize w.alloc (.cells #[int i64 n, int i64 d] 70) = w0 at *
 have c0 : w0.cell? ⟨w.heap.size, 0, none⟩ = some (int i64 n) := A0 g0 0 rfl
 have c1 : w0.cell? ⟨w.heap.size, 1, none⟩ = some (int i64 d) := A0 g0 1 rfl
 have HB := qh b0
 clear g0 b0
 by_cases h1 : 1 ≤ d
 case neg =>
  have HX := qh (fun q => NO.out (by unfold AE inB; simp [h1]) _ (AO HB.out q))
  go_quiet (fail)
  go_wp2_with fail
  go_ret
  exact HX.out _
 by_cases h2 : d ≤ 1073741824
 case neg =>
  have HX := qh (fun q => NO.out (by unfold AE inB; simp [h2]) _ (AO HB.out q))
  go_quiet (fail)
  go_wp2_with fail
  go_ret
  exact HX.out _
 by_cases h3 : -1073741824 ≤ n
 case neg =>
  have HX := qh (fun q => NO.out (by unfold AE inB; simp [h3]) _ (AO HB.out q))
  go_quiet (fail)
  go_wp2_with fail
  go_ret
  exact HX.out _
 by_cases h4 : n ≤ 1073741824
 case neg =>
  have HX := qh (fun q => NO.out (by unfold AE inB; simp [h4]) _ (AO HB.out q))
  go_quiet (fail)
  go_wp2_with fail
  go_ret
  exact HX.out _
 have k1 : ∀ W : World, Calls Tryz.prog 157 #[int i64 n] W fun e w' => e = .returned (int i64 (n.natAbs : Nat)) ∧ w' = W := fun W => Oz n (by omega) (by omega) W
 have k2 : ∀ W : World, Calls Tryz.prog 156 #[int i64 (n.natAbs : Nat), int i64 d] W fun e w' => e = .returned (int i64 (Nat.gcd n.natAbs d.natAbs)) ∧ w' = W := fun W => by
  have := QQ n.natAbs d.natAbs (by omega) (by omega) W
  rwa [show ((d.natAbs : Nat) : Int) = d by omega] at this
 have hr : r = decide (Nat.gcd n.natAbs d.natAbs = 1) := by rw [← HR.out]; unfold AE inB; simp [h1, h2, h3, h4]
 have hg1 : (((Nat.gcd n.natAbs d.natAbs : Nat) : Int) == 1) = r := by rw [hr, Bool.eq_iff_iff, beq_iff_eq, decide_eq_true_eq]; omega
 have K1 := qh k1; have K2 := qh k2; have HG := qh hg1
 clear k1 k2 hr hg1 NO HR
 obtain ⟨g, hg⟩ : ∃ g, Nat.gcd n.natAbs d.natAbs = g := ⟨_, rfl⟩
 obtain ⟨na, hna⟩ : ∃ x, n.natAbs = x := ⟨_, rfl⟩
 rw [hg] at K2 HG
 rw [hna] at K1 K2
 clear hg hna
 go_quiet (first | (go_at_call 157; refine Calls.quiet_of_same (K1.out _)) | (go_at_call 156; refine Calls.quiet_of_same (K2.out _)))
 go_wp2_with fail
 go_ret
 exact ⟨by rw [← HG.out]; rfl, AO HB.out _⟩
theorem Fr (n d : Int) (w : World) : Calls Tryz.prog 126 #[.agg #[int i64 n, int i64 d]] w fun e w' => e = .returned (int i64 (if AE n d then 0 else 120)) ∧ Below w.heap.size w w' := by
 have g0 := heap_alloc_new w (.cells #[int i64 n, int i64 d] 70)
 have b0 : Below w.heap.size w (w.alloc (.cells #[int i64 n, int i64 d] 70)) := (Below.refl _ w).alloc (qn _) _
 have hvv := fun W => DP n d W
 generalize AE n d = r at hvv ⊢
 have HVV := qh hvv
 clear hvv
 cases r
 all_goals
  go_enter Tryz.func126, Tryz.ntmps126
  go_wp2_with fail
  generalize w.alloc (.cells #[int i64 n, int i64 d] 70) = w0 at *
  have HV := qh (HVV.out w0)
  have HB := qh b0
  clear b0 HVV
  go_wp2_with fail
  refine HV.out.mono ?_
  rintro e w1 ⟨rfl, hb⟩
  have HB2 := qh (HB.out.trans (hb.mono HB.out.size))
  clear HV hb
  go_wp2_with fail
  go_ret
  exact ⟨rfl, HB2.out⟩
theorem Ov (n d n2 d2 : Int) (h1 : AE n d = true) (h2 : AE n2 d2 = true) (w : World) : Calls Tryz.prog 143 #[.agg #[int i64 n, int i64 d], .agg #[int i64 n2, int i64 d2]] w fun e w' => e = .returned (.bool true) ∧ Below w.heap.size w w' := by
 have g0 := heap_alloc_new w (.cells #[int i64 n, int i64 d] 70)
 have b0 : Below w.heap.size w (w.alloc (.cells #[int i64 n, int i64 d] 70)) := (Below.refl _ w).alloc (qn _) _
 have g1 := heap_alloc_new (w.alloc (.cells #[int i64 n, int i64 d] 70)) (.cells #[int i64 n2, int i64 d2] 70)
 have b1 := b0.alloc b0.size (.cells #[int i64 n2, int i64 d2] 70)
 have hlt : w.heap.size < (w.alloc (.cells #[int i64 n, int i64 d] 70)).heap.size := by simp
 have k0 := (Below.heap_alloc _ (.cells #[int i64 n2, int i64 d2] 70) w.heap.size hlt).trans g0
 have hsz : (w.alloc (.cells #[int i64 n, int i64 d] 70)).heap.size = w.heap.size + 1 := by simp
 rw [hsz] at g1
 go_enter Tryz.func143, Tryz.ntmps143
 go_wp2_with fail
 generalize (w.alloc (.cells #[int i64 n, int i64 d] 70)).alloc (.cells #[int i64 n2, int i64 d2] 70) = w0 at *
 have HV := qh (DP n d w0)
 rw [h1] at HV
 have HB := qh b1
 have HG1 := qh g1
 have hs0 : w.heap.size + 1 < w0.heap.size := (qs.1 g1).1
 clear b0 b1 g0 hlt
 go_wp2_with fail
 refine HV.out.mono ?_
 rintro e w1 ⟨rfl, hb⟩
 have HB2 := qh (HB.out.trans (hb.mono HB.out.size))
 have g2 := (hb.block _ hs0).trans g1
 have c2 : w1.cell? ⟨w.heap.size + 1, 0, none⟩ = some (int i64 n2) := A0 g2 0 rfl
 have c3 : w1.cell? ⟨w.heap.size + 1, 1, none⟩ = some (int i64 d2) := A0 g2 1 rfl
 clear g2
 have HV2 := qh (DP n2 d2 w1)
 rw [h2] at HV2
 clear HV hb g1 k0
 go_wp2_with fail
 refine HV2.out.mono ?_
 rintro e w2 ⟨rfl, hb⟩
 have HB3 := qh (HB2.out.trans (hb.mono HB2.out.size))
 clear HV2 hb
 go_wp2_with fail
 go_ret
 exact ⟨rfl, HB3.out⟩
theorem S8 {a b : Int} (h1 : -1073741824 ≤ a) (h2 : a ≤ 1073741824) (h3 : 0 ≤ b) (h4 : b ≤ 1073741824) : -1152921504606846976 ≤ a * b ∧ a * b ≤ 1152921504606846976 := by
 have x1 : a * b ≤ 1073741824 * b := Int.mul_le_mul_of_nonneg_right h2 h3
 have x2 : -1073741824 * b ≤ a * b := Int.mul_le_mul_of_nonneg_right h1 h3
 omega
theorem Jw (n d n2 d2 : Int) (h1 : AE n d = true) (h2 : AE n2 d2 = true) (w : World) : Calls Tryz.prog 144 #[.agg #[int i64 n, int i64 d], .agg #[int i64 n2, int i64 d2]] w fun e w' => e = .returned (.bool (decide (n * d2 < n2 * d))) ∧ Below w.heap.size w w' := by
 unfold AE at h1 h2
 simp only [Bool.and_eq_true, A4] at h1 h2
 have m1 := S8 h1.1.2.1 h1.1.2.2 (show 0 ≤ d2 by omega) h2.1.1.2
 have m2 := S8 h2.1.2.1 h2.1.2.2 (show 0 ≤ d by omega) h1.1.1.2
 have g0 := heap_alloc_new w (.cells #[int i64 n, int i64 d] 70)
 have b0 : Below w.heap.size w (w.alloc (.cells #[int i64 n, int i64 d] 70)) := (Below.refl _ w).alloc (qn _) _
 have g1 := heap_alloc_new (w.alloc (.cells #[int i64 n, int i64 d] 70)) (.cells #[int i64 n2, int i64 d2] 70)
 have b1 := b0.alloc b0.size (.cells #[int i64 n2, int i64 d2] 70)
 have hlt : w.heap.size < (w.alloc (.cells #[int i64 n, int i64 d] 70)).heap.size := by simp
 have k0 := (Below.heap_alloc _ (.cells #[int i64 n2, int i64 d2] 70) w.heap.size hlt).trans g0
 have hsz : (w.alloc (.cells #[int i64 n, int i64 d] 70)).heap.size = w.heap.size + 1 := by simp
 rw [hsz] at g1
 go_enter Tryz.func144, Tryz.ntmps144
 go_wp2_with fail
 generalize (w.alloc (.cells #[int i64 n, int i64 d] 70)).alloc (.cells #[int i64 n2, int i64 d2] 70) = w0 at *
 have HB := qh b1
 have c0 : w0.cell? ⟨w.heap.size, 0, none⟩ = some (int i64 n) := A0 k0 0 rfl
 have c1 : w0.cell? ⟨w.heap.size, 1, none⟩ = some (int i64 d) := A0 k0 1 rfl
 have c2 : w0.cell? ⟨w.heap.size + 1, 0, none⟩ = some (int i64 n2) := A0 g1 0 rfl
 have c3 : w0.cell? ⟨w.heap.size + 1, 1, none⟩ = some (int i64 d2) := A0 g1 1 rfl
 clear b0 b1 g0 g1 k0 hlt hsz h1 h2
 generalize n * d2 = x at *
 generalize n2 * d = y at *
 go_wp2_with fail
 go_ret
 exact ⟨rfl, HB.out⟩
end
section
open Go Go.RowKit Go.Deep
theorem LZ (n d n2 d2 : Int) (h1 : AE n d = true) (h2 : AE n2 d2 = true) (w : World) : Calls Tryz.prog 127 #[.agg #[int i64 n, int i64 d], .agg #[int i64 n2, int i64 d2]] w fun e w' => e = .returned (.tuple #[int i64 (By (n * d2) (n2 * d)), int i64 0]) ∧ Below w.heap.size w w' := by
 obtain ⟨r, hr⟩ : ∃ r, By (n * d2) (n2 * d) = r := ⟨_, rfl⟩
 rw [hr]
 have HCM : Hid (r = if n * d2 < n2 * d then -1 else if n2 * d < n * d2 then 1 else 0) := qh (by rw [← hr]; rfl)
 clear hr
 have g0 := heap_alloc_new w (.cells #[int i64 n, int i64 d] 70)
 have b0 : Below w.heap.size w (w.alloc (.cells #[int i64 n, int i64 d] 70)) := (Below.refl _ w).alloc (qn _) _
 have g1 := heap_alloc_new (w.alloc (.cells #[int i64 n, int i64 d] 70)) (.cells #[int i64 n2, int i64 d2] 70)
 have b1 := b0.alloc b0.size (.cells #[int i64 n2, int i64 d2] 70)
 have hlt : w.heap.size < (w.alloc (.cells #[int i64 n, int i64 d] 70)).heap.size := by simp
 have k0 := (Below.heap_alloc _ (.cells #[int i64 n2, int i64 d2] 70) w.heap.size hlt).trans g0
 have hsz : (w.alloc (.cells #[int i64 n, int i64 d] 70)).heap.size = w.heap.size + 1 := by simp
 rw [hsz] at g1
 go_enter Tryz.func127, Tryz.ntmps127
 go_wp2_with fail
 generalize (w.alloc (.cells #[int i64 n, int i64 d] 70)).alloc (.cells #[int i64 n2, int i64 d2] 70) = w0 at *
 have hs0 : w.heap.size + 1 < w0.heap.size := (qs.1 g1).1
 have CC := qh (fun (W : World) (hb : Below w0.heap.size w0 W) => (show W.cell? ⟨w.heap.size, 0, none⟩ = some (int i64 n) ∧ W.cell? ⟨w.heap.size, 1, none⟩ = some (int i64 d) ∧ W.cell? ⟨w.heap.size + 1, 0, none⟩ = some (int i64 n2) ∧ W.cell? ⟨w.heap.size + 1, 1, none⟩ = some (int i64 d2) from
  ⟨A0 ((hb.block _ (by omega)).trans k0) 0 rfl, A0 ((hb.block _ (by omega)).trans k0) 1 rfl, A0 ((hb.block _ hs0).trans g1) 0 rfl, A0 ((hb.block _ hs0).trans g1) 1 rfl⟩))
 have HV := qh (Ov n d n2 d2 h1 h2 w0)
 have HL1 := qh (fun W => Jw n d n2 d2 h1 h2 W)
 have HL2 := qh (fun W => Jw n2 d2 n d h2 h1 W)
 have HB := qh b1
 obtain ⟨c0, c1, c2, c3⟩ := CC.out w0 (Below.refl _ _)
 clear b0 b1 g0 g1 k0 hlt hsz h1 h2
 go_wp2_with fail
 refine HV.out.mono ?_
 rintro e w1 ⟨rfl, hb1⟩
 have HB1 := qh (HB.out.trans (hb1.mono HB.out.size))
 clear c0 c1 c2 c3
 obtain ⟨c0, c1, c2, c3⟩ := CC.out w1 hb1
 have HC1 := qh hb1
 have HL := qh (HL1.out w1)
 clear HV hb1 HB HL1
 go_wp2_with fail
 refine HL.out.mono ?_
 rintro e w2 ⟨rfl, hb2⟩
 have HB2 := qh (HB1.out.trans (hb2.mono HB1.out.size))
 have hb2' := HC1.out.trans (hb2.mono HC1.out.size)
 clear c0 c1 c2 c3
 obtain ⟨c0, c1, c2, c3⟩ := CC.out w2 hb2'
 have HM := qh (HL2.out w2)
 clear HL hb2 hb2' HB1 HC1 HL2 CC
 generalize hx : n * d2 = x at *
 generalize hy : n2 * d = y at *
 by_cases q1 : x < y
 ·have e1 : decide (x < y) = true := decide_eq_true q1
  rw [if_pos q1] at HCM
  clear q1 HM
  go_wp2_with fail
  go_ret2
  exact ⟨by rw [HCM.out]; rfl, HB2.out⟩
 ·have e1 : decide (x < y) = false := decide_eq_false q1
  rw [if_neg q1] at HCM
  clear q1
  go_wp2_with fail
  refine HM.out.mono ?_
  rintro e w3 ⟨rfl, hb3⟩
  have HB3 := qh (HB2.out.trans (hb3.mono HB2.out.size))
  clear HM hb3
  by_cases q2 : y < x
  ·have e2 : decide (y < x) = true := decide_eq_true q2
   rw [if_pos q2] at HCM
   clear q2
   go_wp2_with fail
   go_ret2
   exact ⟨by rw [HCM.out]; rfl, HB3.out⟩
  ·have e2 : decide (y < x) = false := decide_eq_false q2
   rw [if_neg q2] at HCM
   clear q2
   go_wp2_with fail
   go_ret2
   exact ⟨by rw [HCM.out]; rfl, HB3.out⟩
theorem Kk {a : Int} (h1 : -32768 ≤ a) (h2 : a ≤ 32768) : 0 ≤ a * a ∧ a * a ≤ 1073741824 := by
 have e : ((a.natAbs * a.natAbs : Nat) : Int) = a * a := Int.natAbs_mul_self
 have hn : a.natAbs ≤ 32768 := by omega
 have h3 : a.natAbs * a.natAbs ≤ 1073741824 := Nat.le_trans (Nat.mul_le_mul hn hn) (by decide)
 rw [← e]
 obtain ⟨k, hk⟩ : ∃ k, a.natAbs * a.natAbs = k := ⟨_, rfl⟩
 rw [hk] at h3 ⊢
 omega
theorem Kh (a b c : Int) (w : World) : Calls Tryz.prog 105 #[.agg #[int i64 a, int i64 b, int i64 c]] w fun e w' => e = .returned (int i64 (if CM a b c then 0 else 140)) ∧ Below w.heap.size w w' := by
 have g0 := heap_alloc_new w (.cells #[int i64 a, int i64 b, int i64 c] 23)
 have b0 : Below w.heap.size w (w.alloc (.cells #[int i64 a, int i64 b, int i64 c] 23)) := (Below.refl _ w).alloc (qn _) _
 obtain ⟨r, hr⟩ : ∃ r, (if CM a b c then (0 : Int) else 140) = r := ⟨_, rfl⟩
 have HR := qh hr
 rw [hr]
 clear hr
 have no : CM a b c = false → ∀ W : World, Below w.heap.size w W → (.returned (int i64 140) : Ending) = .returned (int i64 r) ∧ Below w.heap.size w W := fun h W hb => ⟨by rw [← HR.out, h]; rfl, hb⟩
 have NO := qh no
 clear no
 go_enter Tryz.func105, Tryz.ntmps105
 go_wp2_with fail
 any_goals
  go_ret
  refine NO.out ?_ _ b0
  rw [Bool.eq_false_iff]
  intro q
  unfold CM inB at q
  simp only [Bool.and_eq_true, decide_eq_true_eq] at q
  omega
 generalize w.alloc (.cells #[int i64 a, int i64 b, int i64 c] 23) = w0 at *
 generalize Value.bool (decide (c < 1) || decide (32768 < c) || decide (a < -c) || decide (c < a) || decide (b < -c) || decide (c < b)) = vv6
 generalize Value.bool (decide (c < 1) || decide (32768 < c) || decide (a < -c) || decide (c < a) || decide (b < -c)) = vv5
 generalize Value.bool (decide (c < 1) || decide (32768 < c) || decide (a < -c) || decide (c < a)) = vv4
 generalize Value.bool (decide (c < 1) || decide (32768 < c) || decide (a < -c)) = vv3
 generalize Value.bool (decide (c < 1) || decide (32768 < c)) = vv2
 generalize Value.bool (decide (c < 1)) = ww0
 generalize Value.bool (decide (32768 < c)) = ww1
 generalize Value.bool (decide (a < -c)) = ww2
 generalize Value.bool (decide (c < a)) = ww3
 generalize Value.bool (decide (b < -c)) = ww4
 generalize Value.bool (decide (c < b)) = ww5
 have c0 : w0.cell? ⟨w.heap.size, 0, none⟩ = some (int i64 a) := A0 g0 0 rfl
 have c1 : w0.cell? ⟨w.heap.size, 1, none⟩ = some (int i64 b) := A0 g0 1 rfl
 have c2 : w0.cell? ⟨w.heap.size, 2, none⟩ = some (int i64 c) := A0 g0 2 rfl
 have HB := qh b0
 clear g0 b0
 have q1 := Kk (show -32768 ≤ a by omega) (show a ≤ 32768 by omega)
 have q2 := Kk (show -32768 ≤ b by omega) (show b ≤ 32768 by omega)
 have q3 := Kk (show -32768 ≤ c by omega) (show c ≤ 32768 by omega)
 have kA : ∀ W : World, Calls Tryz.prog 125 #[int i64 a] W fun e w' => e = .returned (int i64 (a.natAbs : Nat)) ∧ w' = W := fun W => KK a (by omega) (by omega) W
 have kB : ∀ W : World, Calls Tryz.prog 125 #[int i64 b] W fun e w' => e = .returned (int i64 (b.natAbs : Nat)) ∧ w' = W := fun W => KK b (by omega) (by omega) W
 have hgl : Nat.gcd a.natAbs b.natAbs ≤ 1099511627776 := by
  by_cases z : a.natAbs = 0
  ·rw [z, Nat.gcd_zero_left]; omega
  ·have := Nat.gcd_le_left b.natAbs (show 0 < a.natAbs by omega); omega
 have kC : ∀ W : World, Calls Tryz.prog 124 #[int i64 (a.natAbs : Nat), int i64 (b.natAbs : Nat)] W fun e w' => e = .returned (int i64 (Nat.gcd a.natAbs b.natAbs)) ∧ w' = W := fun W => Lp _ _ (by omega) (by omega) W
 have kD : ∀ W : World, Calls Tryz.prog 124 #[int i64 (Nat.gcd a.natAbs b.natAbs : Nat), int i64 c] W fun e w' => e = .returned (int i64 (Nat.gcd (Nat.gcd a.natAbs b.natAbs) c.natAbs)) ∧ w' = W := fun W => by
  have := Lp (Nat.gcd a.natAbs b.natAbs) c.natAbs (by omega) (by omega) W
  rwa [show ((c.natAbs : Nat) : Int) = c by omega] at this
 have hT : CM a b c = (inB c 1 32768 && inB a (-c) c && inB b (-c) c && decide (a * a + b * b = c * c) && decide (Nat.gcd (Nat.gcd a.natAbs b.natAbs) c.natAbs = 1)) := rfl
 obtain ⟨aa, haa⟩ : ∃ x, a * a = x := ⟨_, rfl⟩
 obtain ⟨bb, hbb⟩ : ∃ x, b * b = x := ⟨_, rfl⟩
 obtain ⟨cc, hcc⟩ : ∃ x, c * c = x := ⟨_, rfl⟩
 rw [haa] at q1
 rw [hbb] at q2
 rw [hcc] at q3
 rw [haa, hbb, hcc] at hT
 have wa : IntKind.i64.wrap aa = aa := IntWalk.i64_in _ (by omega)
 have wb : IntKind.i64.wrap bb = bb := IntWalk.i64_in _ (by omega)
 have wc : IntKind.i64.wrap cc = cc := IntWalk.i64_in _ (by omega)
 obtain ⟨sm, hsm⟩ : ∃ x, aa + bb = x := ⟨_, rfl⟩
 have wab : IntKind.i64.wrap sm = sm := IntWalk.i64_in _ (by omega)
 rw [hsm] at hT
 have HT := qh hT
 clear hT q1 q2 q3
 by_cases hs : sm = cc
 case neg =>
  have HX := qh (fun q => NO.out (by rw [HT.out, decide_eq_false hs]; simp) _ (AO HB.out q))
  have hne : (sm != cc) = true := by simpa using hs
  clear kA kB kC kD hgl hs NO HR HT
  refine wp_region_quiet_lit (by kernel_rfl) (by kernel_rfl) ?_
  repeat (with_reducible refine wpQuiet_step (fun K hK => ?_); go_simp; first | (with_reducible refine hK _ ?_; clear hK K))
  refine wpQuiet_nil ?_
  intro _ hw'
  obtain ⟨nq, hw''⟩ := hw'
  subst hw''
  go_wp2_with fail
  go_ret
  exact HX.out _
 have hne : (sm != cc) = false := by simpa using hs
 have hgood : (((Nat.gcd (Nat.gcd a.natAbs b.natAbs) c.natAbs : Nat) : Int) != 1) = false → r = 0 := fun h => by
  rw [← HR.out]
  have h7 : Nat.gcd (Nat.gcd a.natAbs b.natAbs) c.natAbs = 1 := by
   have : ((Nat.gcd (Nat.gcd a.natAbs b.natAbs) c.natAbs : Nat) : Int) = 1 := by simpa using h
   omega
  rw [if_pos]
  rw [HT.out]
  unfold inB
  simp only [Bool.and_eq_true, decide_eq_true_eq]
  exact ⟨⟨⟨⟨⟨by omega, by omega⟩, by omega, by omega⟩, by omega, by omega⟩, hs⟩, h7⟩
 have hbad : (((Nat.gcd (Nat.gcd a.natAbs b.natAbs) c.natAbs : Nat) : Int) != 1) = true → r = 140 := fun h => by
  rw [← HR.out]
  have h7 : ¬ Nat.gcd (Nat.gcd a.natAbs b.natAbs) c.natAbs = 1 := by
   have : ¬ ((Nat.gcd (Nat.gcd a.natAbs b.natAbs) c.natAbs : Nat) : Int) = 1 := by simpa using h
   omega
  rw [if_neg]
  rw [HT.out]
  simp only [Bool.and_eq_true, decide_eq_true_eq]
  exact fun q => h7 q.2
 have HG := qh hgood; have HBAD := qh hbad; have KA := qh kA; have KB := qh kB; have KC := qh kC; have KD := qh kD
 clear kA kB kC kD hgood hbad hgl hs NO HR HT
 obtain ⟨g, hg⟩ : ∃ g, Nat.gcd (Nat.gcd a.natAbs b.natAbs) c.natAbs = g := ⟨_, rfl⟩
 rw [hg] at KD HG HBAD
 obtain ⟨g2, hg2⟩ : ∃ g, Nat.gcd a.natAbs b.natAbs = g := ⟨_, rfl⟩
 rw [hg2] at KC KD
 obtain ⟨na, hna⟩ : ∃ x, a.natAbs = x := ⟨_, rfl⟩
 obtain ⟨nb, hnb⟩ : ∃ x, b.natAbs = x := ⟨_, rfl⟩
 rw [hna] at KA KC
 rw [hnb] at KB KC
 clear hg hg2 hna hnb
 cases hgg : ((g : Int) != 1) with
 | true =>
  refine wp_region_quiet_lit (by kernel_rfl) (by kernel_rfl) ?_
  repeat (with_reducible refine wpQuiet_step (fun K hK => ?_); go_simp; first | (with_reducible refine hK _ ?_; clear hK K) | (apply Exists.intro; with_reducible refine ⟨fun _ => ?_, hK _ ?_⟩; (first | exact Calls.quiet_of_same (KA.out _) | exact Calls.quiet_of_same (KB.out _) | exact Calls.quiet_of_same (KC.out _) | exact Calls.quiet_of_same (KD.out _)); clear hK K))
  refine wpQuiet_nil ?_
  intro _ hw'
  obtain ⟨nq, hw''⟩ := hw'
  subst hw''
  go_wp2_with fail
  go_ret
  exact ⟨by rw [HBAD.out hgg]; rfl, AO HB.out _⟩
 | false =>
  refine wp_region_quiet_lit (by kernel_rfl) (by kernel_rfl) ?_
  repeat (with_reducible refine wpQuiet_step (fun K hK => ?_); go_simp; first | (with_reducible refine hK _ ?_; clear hK K) | (apply Exists.intro; with_reducible refine ⟨fun _ => ?_, hK _ ?_⟩; (first | exact Calls.quiet_of_same (KA.out _) | exact Calls.quiet_of_same (KB.out _) | exact Calls.quiet_of_same (KC.out _) | exact Calls.quiet_of_same (KD.out _)); clear hK K))
  refine wpQuiet_nil ?_
  intro _ hw'
  obtain ⟨nq, hw''⟩ := hw'
  subst hw''
  go_wp2_with fail
  go_ret
  exact ⟨by rw [HG.out hgg]; rfl, AO HB.out _⟩
end
section
open Go Go.RowKit Go.Deep
theorem Pi (n lo hi : Int) (w : World) : Calls Tryz.prog 104 #[int i64 n, int i64 lo, int i64 hi] w fun e w' => e = .returned (.bool (inB n lo hi)) ∧ w' = w := by
 go_enter Tryz.func104, Tryz.ntmps104
 go_wp2
 all_goals
  go_ret
  refine ⟨Aa ?_, rfl⟩
  unfold inB
  rw [Bool.eq_iff_iff]; simp; omega
def Aq (s d l z h : Int) : Bool := s == 0 && d == 0 && l == 0 && z == 0 && h == 0
theorem CW (s d l z h : Int) (w : World) : (binOp .eql 72 (.agg #[int i64 0, int i64 0, int i64 0, int i64 0, int i64 0, int i64 s, int i64 d, int i64 l, int i64 z, int i64 h, int i64 0, int i64 0, int i64 0, int i64 0]) (.agg #[int i64 0, int i64 0, int i64 0, int i64 0, int i64 0, int i64 0, int i64 0, int i64 0, int i64 0, int i64 0, int i64 0, int i64 0, int i64 0, int i64 0])).run Tryz.prog w = .ok (.bool (Aq s d l z h)) w := by
 have u3 := Tryz.underlying3
 have a3 := Tryz.isAgg3
 have z3 := Tryz.sizeOf3
 have hS : Tryz.prog.underlying 72 = some (.struct (Tryz.prog.fieldsOf 72)) := by kernel_rfl
 have hp : Tryz.prog.stoodInHeld 72 = false := by kernel_rfl
 rw [run_eql_struct, show (10000 : Nat) = 9999 + 1 from rfl, run_equalIn_agg w 9999 72 _ _ hS hp]
 simp only [Program.fieldsOf, Tryz.underlying72]
 go_simp
 unfold Aq
 by_cases h1 : s = 0 <;> by_cases h2 : d = 0 <;> by_cases h3 : l = 0 <;> by_cases h4 : z = 0 <;> by_cases h5 : h = 0 <;> simp [h1, h2, h3, h4, h5]
def AR (s : Sgn) : Array Value := #[int i64 s.id, int i64 s.role, int i64 s.bar, int i64 s.mark, int i64 s.kind, int i64 s.side, int i64 s.dir, int i64 s.level, int i64 s.size, int i64 s.wth, int i64 s.fn, int i64 s.fd, int i64 s.tn, int i64 s.td]
theorem PE (x y : Int) : decide (By x y < 0) = decide (x < y) := by
 unfold By
 by_cases h : x < y
 ·simp [h]
 ·by_cases h2 : y < x <;> simp [h, h2]
theorem Ps (s : Sgn) (w : World) : Calls Tryz.prog 107 #[.agg (AR s)] w fun e w' => e = .returned (.bool (Fj s)) ∧ Below w.heap.size w w' := by
 have hbw : Below w.heap.size w (w.alloc (.cells (AR s) 72)) := (Below.refl _ w).alloc (qn _) _
 have g0 := heap_alloc_new w (.cells (AR s) 72)
 have hsz : w.heap.size < (w.alloc (.cells (AR s) 72)).heap.size := by simp
 obtain ⟨r, hr⟩ : ∃ r, Fj s = r := ⟨_, rfl⟩
 rw [hr]
 have hsp : Fj s = (AE s.fn s.fd && AE s.tn s.td && decide (0 ≤ s.fn) && decide (s.fn * s.td < s.tn * s.fd) && decide (s.tn ≤ s.td)) := rfl
 rw [hr] at hsp
 have HR := qh hsp; have HBW := qh hbw
 clear hr hsp hbw
 unfold AR at *
 go_enter Tryz.func107, Tryz.ntmps107
 have CC : Hid (∀ W, Below (w.heap.size + 1) (w.alloc (.cells (AR s) 72)) W → W.cell? ⟨w.heap.size, 10, none⟩ = some (int i64 s.fn) ∧ W.cell? ⟨w.heap.size, 11, none⟩ = some (int i64 s.fd) ∧ W.cell? ⟨w.heap.size, 12, none⟩ = some (int i64 s.tn) ∧ W.cell? ⟨w.heap.size, 13, none⟩ = some (int i64 s.td)) := qh fun W h => by
  have g := (h.block w.heap.size (by omega)).trans (heap_alloc_new w (.cells (AR s) 72))
  exact ⟨A0 g 10 rfl, A0 g 11 rfl, A0 g 12 rfl, A0 g 13 rfl⟩
 unfold AR at CC
 obtain ⟨c0, c1, c2, c3⟩ := CC.out _ (Below.refl _ _)
 have hs1 : (w.alloc (.cells #[int i64 s.id, int i64 s.role, int i64 s.bar, int i64 s.mark, int i64 s.kind, int i64 s.side, int i64 s.dir, int i64 s.level, int i64 s.size, int i64 s.wth, int i64 s.fn, int i64 s.fd, int i64 s.tn, int i64 s.td] 72)).heap.size = w.heap.size + 1 := by simp
 go_wp2_with fail
 generalize w.alloc (.cells #[int i64 s.id, int i64 s.role, int i64 s.bar, int i64 s.mark, int i64 s.kind, int i64 s.side, int i64 s.dir, int i64 s.level, int i64 s.size, int i64 s.wth, int i64 s.fn, int i64 s.fd, int i64 s.tn, int i64 s.td] 72) = w0 at *
 clear g0
 refine (Fr s.fn s.fd w0).mono ?_
 rintro e w1 ⟨rfl, hb1⟩
 rw [hs1] at hb1
 have HX1 := qh hb1
 have HB1 := qh (HBW.out.trans (hb1.mono (by omega)))
 clear c0 c1 c2 c3
 obtain ⟨c0, c1, c2, c3⟩ := CC.out _ hb1
 have hs2 := hb1.size
 clear hb1
 cases q1 : AE s.fn s.fd with
 | false =>
  have HF := qh (show r = false by rw [HR.out, q1]; rfl)
  go_wp2_with fail
  go_ret
  exact ⟨by rw [HF.out]; rfl, HB1.out⟩
 | true =>
 have Q1 := qh q1
 clear q1
 go_wp2_with fail
 refine (Fr s.tn s.td w1).mono ?_
 rintro e w2 ⟨rfl, hb2⟩
 have HX2 := qh (HX1.out.trans (hb2.mono (by omega)))
 have HB2 := qh (HB1.out.trans (hb2.mono HB1.out.size))
 clear c0 c1 c2 c3
 obtain ⟨c0, c1, c2, c3⟩ := CC.out _ HX2.out
 clear hb2
 cases q2 : AE s.tn s.td with
 | false =>
  have HF := qh (show r = false by rw [HR.out, q2]; simp)
  go_wp2_with fail
  go_ret
  exact ⟨by rw [HF.out]; rfl, HB2.out⟩
 | true =>
 have Q2 := qh q2
 clear q2
 have HC := qh (LZ s.fn s.fd s.tn s.td Q1.out Q2.out w2)
 go_wp2_with fail
 refine HC.out.mono ?_
 rintro e w3 ⟨rfl, hb3⟩
 have HX3 := qh (HX2.out.trans (hb3.mono (by have := HX2.out.size; omega)))
 have HB3 := qh (HB2.out.trans (hb3.mono HB2.out.size))
 clear c0 c1 c2 c3
 obtain ⟨c0, c1, c2, c3⟩ := CC.out _ (by have := HX3.out; exact this)
 have hcm := PE (s.fn * s.td) (s.tn * s.fd)
 have hfin : r = (decide (0 ≤ s.fn) && decide (By (s.fn * s.td) (s.tn * s.fd) < 0) && decide (s.tn ≤ s.td)) := by rw [HR.out, Q1.out, Q2.out, hcm]; rfl
 have HFI := qh hfin
 clear hb3 HC hcm hfin
 generalize By (s.fn * s.td) (s.tn * s.fd) = cm at *
 by_cases k1 : 0 ≤ s.fn
 ·by_cases k2 : cm < 0
  ·by_cases k3 : s.tn ≤ s.td
   ·have HF := qh (show r = true by rw [HFI.out, decide_eq_true k1, decide_eq_true k2, decide_eq_true k3]; rfl)
    go_wp2_with fail
    go_ret
    exact ⟨by rw [HF.out]; rfl, HB3.out⟩
   ·have HF := qh (show r = false by rw [HFI.out, decide_eq_false k3]; simp)
    go_wp2_with fail
    go_ret
    refine ⟨?_, HB3.out⟩
    rw [HF.out]
    show Ending.returned (.bool (decide (s.tn ≤ s.td))) = _
    rw [decide_eq_false (by omega)]
  ·have HF := qh (show r = false by rw [HFI.out, decide_eq_false k2]; simp)
   go_wp2_with fail
   go_ret
   exact ⟨by rw [HF.out]; rfl, HB3.out⟩
 ·have HF := qh (show r = false by rw [HFI.out, decide_eq_false k1]; simp)
  go_wp2_with fail
  go_ret
  exact ⟨by rw [HF.out]; rfl, HB3.out⟩
end
section
theorem JX {l : List Tmp} {i : Nat} {t : Tmp} {x : Int} (hs : C0 l) (ht : l[i]? = some t) (h1 : t.bar ≤ x) (h2 : ∀ t', l[i + 1]? = some t' → x < t'.bar) : BO l x = i + 1 := by
 have a := (BL (bar := x) hs ht).1 h1
 have hle := EI l x
 by_cases e : i + 1 < l.length
 ·have ht' := qg e
  have b := BL (bar := x) hs ht'
  have c := h2 _ ht'
  have : ¬ i + 1 < BO l x := fun q => by have := b.2 q; omega
  omega
 ·omega
def C5 (bars : Int) (l : List Tmp) (i : Nat) : Int := match l[i + 1]? with
 | some t => t.bar - 1
 | none => bars - 1
def IK (bars : Int) (l : List Tmp) (i : Nat) : Bool := inB (AH l (l[i]!.bar)) 1 65536 && inB (AH l (C5 bars l i)) 1 65536
theorem Hr {l : List Tmp} : ∀ n, BE l n = true ↔ ∀ k : Nat, k < n → inB (AH l k) 1 65536 = true
 | 0 => by simp [BE]
 | n + 1 => by
  unfold BE
  rw [Bool.and_eq_true, Hr n]
  constructor
  ·rintro ⟨h1, h2⟩ k hk
   by_cases e : k = n
   ·rw [e]; exact h2
   ·exact h1 k (by omega)
  ·intro h
   exact ⟨fun k hk => h k (by omega), h n (by omega)⟩
theorem Jn {l : List Tmp} (hs : C0 l) {i j : Nat} {a b : Tmp} (hi : l[i]? = some a) (hj : l[j]? = some b) (h : i < j) : a.bar < b.bar := by
 obtain ⟨h1, e1⟩ := ql.1 hi
 obtain ⟨h2, e2⟩ := ql.1 hj
 have := List.pairwise_iff_getElem.1 hs i j h1 h2 h
 rwa [e1, e2] at this
theorem DV {l : List Tmp} {i : Nat} {t : Tmp} {x : Int} (ht : l[i]? = some t) (hu : BO l x = i + 1) : AH l x = t.ticks + (x - t.bar) * t.step := by
 unfold AH
 simp only [hu, Nat.add_sub_cancel]
 rw [show l[i]! = t by simp [ht]]
theorem FY {bars : Int} {l : List Tmp} {i : Nat} {t : Tmp} (hb : AK bars (-1) l = true) (ht : l[i]? = some t) : t.bar ≤ C5 bars l i ∧ C5 bars l i ≤ bars - 1 := by
 obtain ⟨hs, hall⟩ := Cj hb
 have h1 := hall t (List.mem_of_getElem? ht)
 unfold C5
 cases h : l[i + 1]? with
 | none => simp only; omega
 | some t' =>
  have h2 := Jn hs ht h (by omega)
  have h3 := hall t' (List.mem_of_getElem? h)
  simp only; omega
theorem OS {bars : Int} {l : List Tmp} {t0 : Tmp} (hb : AK bars (-1) l = true) (h0 : l[0]? = some t0) (hz : t0.bar = 0) : BE l bars.toNat = true ↔ ∀ i, i < l.length → IK bars l i = true := by
 obtain ⟨hs, hall⟩ := Cj hb
 rw [Hr]
 constructor
 ·intro h i hi
  have ht := qg hi
  have h1 := hall _ (List.mem_of_getElem? ht)
  have h2 := FY hb ht
  unfold IK
  rw [Bool.and_eq_true]
  have e : l[i]! = l[i] := by simp [hi]
  rw [e]
  refine ⟨?_, ?_⟩
  ·have := h l[i].bar.toNat (by omega)
   rwa [show ((l[i].bar.toNat : Nat) : Int) = l[i].bar by omega] at this
  ·have := h (C5 bars l i).toNat (by omega)
   rwa [show (((C5 bars l i).toNat : Nat) : Int) = C5 bars l i by omega] at this
 ·intro h k hk
  have hp : 0 < BO l (k : Int) := FE h0 (by omega)
  have hle := EI l (k : Int)
  obtain ⟨i, hi⟩ : ∃ i, BO l (k : Int) = i + 1 := ⟨BO l (k : Int) - 1, by omega⟩
  have hil : i < l.length := by omega
  have ht := qg hil
  have e : l[i]! = l[i] := by simp [hil]
  have hseg := h i hil
  unfold IK at hseg
  rw [Bool.and_eq_true, e, A4, A4] at hseg
  have h1 : l[i].bar ≤ (k : Int) := (BL hs ht).2 (by omega)
  have hnx : ∀ t', l[i + 1]? = some t' → (k : Int) < t'.bar := fun t' ht' => by
   have := BL (bar := (k : Int)) hs ht'
   by_cases q : t'.bar ≤ (k : Int)
   ·have := this.1 q; omega
   ·omega
  have h2 : (k : Int) ≤ C5 bars l i := by
   unfold C5
   cases q : l[i + 1]? with
   | none => simp only; omega
   | some t' => have := hnx t' q; simp only; omega
  have hlast := FY hb ht
  have u2 : BO l l[i].bar = i + 1 := JX hs ht (Int.le_refl _) fun t' ht' => Jn hs ht ht' (by omega)
  have u3 : BO l (C5 bars l i) = i + 1 := JX hs ht hlast.1 fun t' ht' => by unfold C5; rw [ht']; simp only; omega
  rw [DV ht u2, DV ht u3] at hseg
  rw [A4, DV ht hi]
  obtain ⟨⟨a1, a2⟩, a3, a4⟩ := hseg
  rw [Int.sub_self, Int.zero_mul, Int.add_zero] at a1 a2
  generalize l[i].bar = b at *
  generalize l[i].ticks = T at *
  generalize l[i].step = s at *
  generalize C5 bars l i = L at *
  by_cases hs0 : 0 ≤ s
  ·have m1 : (k - b) * s ≤ (L - b) * s := Int.mul_le_mul_of_nonneg_right (by omega) hs0
   have m2 : 0 ≤ (k - b) * s := Int.mul_nonneg (by omega) hs0
   omega
  ·have m1 : (k - b) * (-s) ≤ (L - b) * (-s) := Int.mul_le_mul_of_nonneg_right (by omega) (by omega)
   have m2 : 0 ≤ (k - b) * (-s) := Int.mul_nonneg (by omega) (by omega)
   rw [Int.mul_neg, Int.mul_neg] at m1
   rw [Int.mul_neg] at m2
   omega
end
section
open Go Go.RowKit Go.Deep
theorem Cc (n lo hi : Int) (w : World) : Calls Tryz.prog 100 #[int i64 n, int i64 lo, int i64 hi] w fun e w' => e = .returned (.bool (inB n lo hi)) ∧ w' = w := by
 go_enter Tryz.func100, Tryz.ntmps100
 go_wp2
 all_goals
  go_ret
  refine ⟨Aa ?_, rfl⟩
  unfold inB
  rw [Bool.eq_iff_iff]; simp; omega
structure ClkBox (w0 : World) (g : Nat) (bars : Int) (vT vP vS : Value) (wr : World) : Prop where
 below : Below w0.heap.size w0 wr
 c0 : wr.cell? ⟨g, 0, none⟩ = some (int i64 bars)
 c1 : wr.cell? ⟨g, 1, none⟩ = some vT
 c2 : wr.cell? ⟨g, 2, none⟩ = some vP
 c3 : wr.cell? ⟨g, 3, none⟩ = some vS
theorem ClkBox.make (w : World) (bars : Int) (vT vP vS : Value) : ClkBox (w.alloc (.cells #[int i64 bars, vT, vP, vS] 29)) w.heap.size bars vT vP vS (w.alloc (.cells #[int i64 bars, vT, vP, vS] 29)) := by
 have g := heap_alloc_new w (.cells #[int i64 bars, vT, vP, vS] 29)
 exact ⟨Below.refl _ _, A0 g 0 rfl, A0 g 1 rfl, A0 g 2 rfl, A0 g 3 rfl⟩
theorem ClkBox.next {w0 : World} {g : Nat} {bars : Int} {vT vP vS : Value} {wr w2 : World} (h : ClkBox w0 g bars vT vP vS wr) (hg : g < w0.heap.size) (hb : Below w0.heap.size wr w2) : ClkBox w0 g bars vT vP vS w2 :=
 ⟨h.below.trans hb, (hb.cell (p := ⟨g, 0, none⟩) hg).trans h.c0, (hb.cell (p := ⟨g, 1, none⟩) hg).trans h.c1, (hb.cell (p := ⟨g, 2, none⟩) hg).trans h.c2, (hb.cell (p := ⟨g, 3, none⟩) hg).trans h.c3⟩
theorem Mt (bars bar : Int) (b o n c : Nat) (vp vs : Value) (ts : List Tmp) (w : World) (hn : ts.length = n) (hm : n ≤ 65536) (hr : AtRow Bq 3 w b o ts) (hb : b < w.heap.size) (hw : GW ts bar) :
  Calls Tryz.prog 123 #[.agg #[int i64 bars, .slice (some ⟨b, o, none⟩) n c, vp, vs], int i64 bar] w fun e w' => e = .returned (int i64 (AH ts bar)) ∧ Below w.heap.size w w' := by
 obtain ⟨hs, hu, hb1, hb2, hall⟩ := hw
 have hul := EI ts bar
 rw [hn] at hul
 have hbx := ClkBox.make w bars (.slice (some ⟨b, o, none⟩) n c) vp vs
 have hbw : Below w.heap.size w (w.alloc (.cells #[int i64 bars, .slice (some ⟨b, o, none⟩) n c, vp, vs] 29)) := (Below.refl _ w).alloc (qn _) _
 have HS := qh hs; have HN := qh hn; have HR := qh (hr.below hbw hb); have HALL := qh hall; have HBW := qh hbw
 clear hs hn hr hall hbw
 go_enter Tryz.func123, Tryz.ntmps123
 go_wp2_with fail
 generalize w.alloc (.cells #[int i64 bars, .slice (some ⟨b, o, none⟩) n c, vp, vs] 29) = w0 at *
 have c1 := hbx.c1
 clear hbx
 go_loopw [5] (fun kv wr => ∃ k : Nat, kv = int i64 k ∧ k < BO ts bar ∧ wr = w0) (fun kv _ => n - (intOf kv).toNat)
 case atStart => exact ⟨0, rfl, hu, rfl⟩
 case round =>
  obtain ⟨k, rfl, hk, rfl⟩ := hrel
  have hmulb : ∀ t ∈ ts, 0 ≤ t.bar ∧ t.bar ≤ 4096 ∧ -65536 ≤ t.ticks ∧ t.ticks ≤ 65536 ∧ -65536 ≤ t.step ∧ t.step ≤ 65536 := HALL.out
  have stop : (∀ t', ts[k + 1]? = some t' → bar < t'.bar) → ∃ t, ts[k]? = some t ∧ AH ts bar = t.ticks + (bar - t.bar) * t.step := fun h => by
   have ht := qg (show k < ts.length by rw [HN.out]; omega)
   exact ⟨_, ht, DV ht (JX HS.out ht ((BL HS.out ht).2 hk) h)⟩
  obtain ⟨k1, hk1⟩ : ∃ x, k + 1 = x := ⟨_, rfl⟩
  have hk1I : (k : Int) + 1 = (k1 : Int) := by omega
  rw [hk1] at stop
  have fin : (∀ t', ts[k1]? = some t' → bar < t'.bar) → ∃ t : Tmp, (wr.cell? ⟨b, o + k * 3, none⟩ = some (int i64 t.bar) ∧ wr.cell? ⟨b, o + k * 3 + 1, none⟩ = some (int i64 t.ticks) ∧ wr.cell? ⟨b, o + k * 3 + 2, none⟩ = some (int i64 t.step)) ∧ AH ts bar = t.ticks + (bar - t.bar) * t.step ∧ (-268435456 ≤ (bar - t.bar) * t.step ∧ (bar - t.bar) * t.step ≤ 268435456) ∧ (0 ≤ t.bar ∧ t.bar ≤ 4096 ∧ -65536 ≤ t.ticks ∧ t.ticks ≤ 65536) := fun h => by
   obtain ⟨t, h1, h2⟩ := stop h
   have h3 := hmulb t (List.mem_of_getElem? h1)
   exact ⟨t, atT HR.out h1, h2, Nv (by omega) (by omega) (by omega) (by omega), by omega⟩
  have HF := qh fin
  clear stop fin hmulb
  have hkn : (k : Int) < (n : Int) := by omega
  by_cases h1 : k1 < n
  ·have h1I : (k1 : Int) < (n : Int) := by omega
   have ht := qg (show k1 < ts.length by rw [HN.out]; exact h1)
   obtain ⟨t1, ht1⟩ : ∃ t, ts[k1]'(by rw [HN.out]; exact h1) = t := ⟨_, rfl⟩
   rw [ht1] at ht
   obtain ⟨p0, _, _⟩ := atT HR.out ht
   have hiff := BL (bar := bar) HS.out ht
   have HT := qh ht
   clear ht ht1
   by_cases h2 : t1.bar ≤ bar
   ·have hk2 : k1 < BO ts bar := hiff.1 h2
    clear hiff HF HT
    go_wp2_with fail
    go_roundw
    case rel => exact ⟨k1, by go_num, hk2, trivial⟩
    case measure => simp [intOf] <;> omega
   ·obtain ⟨t, ⟨q0, q1, q2⟩, htk, hmb, htb⟩ := HF.out (fun t' h => by have h3 := h.symm.trans HT.out; injection h3 with h3; rw [h3]; omega)
    have HTK := qh htk
    have h2' : ¬ t1.bar ≤ bar := h2
    clear hiff HF HT htk
    go_wp2_with fail
    go_ret
    exact ⟨by rw [HTK.out]; rfl, HBW.out.alloc HBW.out.size _⟩
  ·have h1I : ¬ (k1 : Int) < (n : Int) := by omega
   obtain ⟨t, ⟨q0, q1, q2⟩, htk, hmb, htb⟩ := HF.out (fun t' h => by
    have := (ql.1 h).1
    rw [HN.out] at this; omega)
   have HTK := qh htk
   clear HF htk
   go_wp2_with fail
   go_ret
   exact ⟨by rw [HTK.out]; rfl, HBW.out.alloc HBW.out.size _⟩
theorem It {α : Type} {f : α → Bool} {l : List α} {i : Nat} {x : α} (h : (l.take i).all f = true) (hx : l[i]? = some x) (hf : f x = true) : (l.take (i + 1)).all f = true := by
 rw [List.take_add_one, hx, List.all_append, h]
 simp [hf]
theorem JV {α : Type} {f : α → Bool} {l : List α} {i : Nat} {x : α} (hx : l[i]? = some x) (hf : f x = false) : l.all f = false := by
 rw [Bool.eq_false_iff]
 intro h
 have := List.all_eq_true.1 h x (List.mem_of_getElem? hx)
 rw [hf] at this; cases this
theorem MV (bars : Int) (hb1 : 1 ≤ bars) (hb2 : bars ≤ 4096) (vT vP : Value) (ss : List Con) (aS : Option Addr) (nS cS : Nat) (w : World) (hn : ss.length = nS) (hX : IsRow Ck 4 w (.slice aS nS cS) ss) :
  Calls Tryz.prog 103 #[.agg #[int i64 bars, vT, vP, .slice aS nS cS]] w fun e w' => e = .returned (.bool (ss.all (C9 bars))) ∧ Below w.heap.size w w' := by
 have hmx : nS ≤ maxLen := by obtain ⟨_, _, _, h, _⟩ := hX; omega
 simp only [maxLen] at hmx
 obtain ⟨r, hr⟩ : ∃ r, ss.all (C9 bars) = r := ⟨_, rfl⟩
 rw [hr]
 have HR := qh hr
 clear hr
 have hbx := ClkBox.make w bars vT vP (.slice aS nS cS)
 have hbw : Below w.heap.size w (w.alloc (.cells #[int i64 bars, vT, vP, .slice aS nS cS] 29)) := (Below.refl _ w).alloc (qn _) _
 have hsz : w.heap.size < (w.alloc (.cells #[int i64 bars, vT, vP, .slice aS nS cS] 29)).heap.size := by simp
 have HN := qh hn; have HX := qh hX; have HBW := qh hbw
 clear hn hX hbw
 go_enter Tryz.func103, Tryz.ntmps103
 go_wp2_with fail
 generalize w.alloc (.cells #[int i64 bars, vT, vP, .slice aS nS cS] 29) = w0 at *
 have HBX := qh hbx
 clear hbx
 have HA0 : Hid ((ss.take 0).all (C9 bars) = true) := qh rfl
 go_loopw [3] (fun iv wr => ∃ i : Nat, i ≤ nS ∧ iv = int i64 i ∧ Hid ((ss.take i).all (C9 bars) = true) ∧ Hid (ClkBox w0 w.heap.size bars vT vP (.slice aS nS cS) wr)) (fun iv _ => nS - (intOf iv).toNat)
 case atStart => exact ⟨0, Nat.zero_le _, rfl, HA0, HBX⟩
 case round =>
  clear HBX HA0
  obtain ⟨i, hi, rfl, hA, hB⟩ := hrel
  obtain ⟨hbe, c0, c1, c2, c3⟩ := hB.out
  have hbw2 := HBW.out.trans (hbe.mono HBW.out.size)
  have HBE := qh hbe; have HBW2 := qh hbw2
  have hsr := hbe.size
  clear hbe hbw2
  by_cases hin : i < nS
  ·have hin' : (i : Int) < (nS : Int) := by omega
   obtain ⟨s, hs⟩ : ∃ s, ss[i]? = some s := ⟨_, qg (by rw [HN.out]; exact hin)⟩
   obtain ⟨b, o, hao, hat, hlt⟩ := HX.out.block hs
   subst hao
   obtain ⟨p0, p1, p2, p3⟩ := atC (hat.below HBW2.out hlt) hs
   have HOK : Hid (C9 bars s = true → (ss.take (i + 1)).all (C9 bars) = true) := qh fun h => It hA.out hs h
   have HNO : Hid (C9 bars s = false → r = false) := qh fun h => by rw [← HR.out]; exact JV hs h
   have hcon : C9 bars s = (inB s.frm 0 bars && inB s.to 0 bars && decide (s.frm ≠ s.to) && inB s.lo (-1099511627776) s.hi && decide (s.hi ≤ 1099511627776)) := rfl
   have HC := qh hcon
   have hB5 := hB.out.next (w2 := wr.alloc (.cells #[int i64 s.frm, int i64 s.to, int i64 s.lo, int i64 s.hi] 173)) hsz ((Below.refl _ _).alloc hsr _)
   have x2 := heap_alloc_new wr (.cells #[int i64 s.frm, int i64 s.to, int i64 s.lo, int i64 s.hi] 173)
   have e0 := hB5.c0
   clear hat hlt hs hA hB hcon
   go_wp2_with fail
   generalize wr.alloc (.cells #[int i64 s.frm, int i64 s.to, int i64 s.lo, int i64 s.hi] 173) = w5 at *
   have l0 : w5.cell? ⟨wr.heap.size, 0, none⟩ = some (int i64 s.frm) := A0 x2 0 rfl
   have l1 : w5.cell? ⟨wr.heap.size, 1, none⟩ = some (int i64 s.to) := A0 x2 1 rfl
   have l2 : w5.cell? ⟨wr.heap.size, 2, none⟩ = some (int i64 s.lo) := A0 x2 2 rfl
   have l3 : w5.cell? ⟨wr.heap.size, 3, none⟩ = some (int i64 s.hi) := A0 x2 3 rfl
   have HB5 := qh hB5
   have HBW5 := qh (HBW.out.trans (hB5.below.mono HBW.out.size))
   clear c0 c1 c2 c3 p0 p1 p2 p3 x2 hB5
   generalize wr.heap.size = gw at *
   refine (Cc s.frm 0 bars _).mono ?_
   rintro e w6 ⟨rfl, rfl⟩
   cases q0 : inB s.frm 0 bars with
   | false =>
    have HF := qh (HNO.out (by rw [HC.out, q0]; rfl))
    go_wp2_with fail
    go_ret
    exact ⟨by rw [HF.out]; rfl, HBW5.out⟩
   | true =>
   have Q0 := qh q0
   clear q0
   go_wp2_with fail
   refine (Cc s.to 0 bars _).mono ?_
   rintro e w7 ⟨rfl, rfl⟩
   cases q1 : inB s.to 0 bars with
   | false =>
    have HF := qh (HNO.out (by rw [HC.out, q1]; simp))
    go_wp2_with fail
    go_ret
    exact ⟨by rw [HF.out]; rfl, HBW5.out⟩
   | true =>
   have Q1 := qh q1
   clear q1
   by_cases q2 : s.frm = s.to
   ·have HF := qh (HNO.out (by rw [HC.out]; simp [q2]))
    have q2' : (s.frm == s.to) = true := by simpa using q2
    clear q2
    go_wp2_with fail
    go_ret
    exact ⟨by rw [HF.out]; rfl, HBW5.out⟩
   have q2' : (s.frm == s.to) = false := by simpa using q2
   have Q2 := qh q2
   clear q2
   by_cases q3 : s.lo < -1099511627776
   ·have HF := qh (HNO.out (by rw [HC.out, Ah.2 (Or.inl q3)]; simp))
    go_wp2_with fail
    go_ret
    exact ⟨by rw [HF.out]; rfl, HBW5.out⟩
   by_cases q4 : s.hi < s.lo
   ·have HF := qh (HNO.out (by rw [HC.out, Ah.2 (Or.inr q4)]; simp))
    go_wp2_with fail
    go_ret
    exact ⟨by rw [HF.out]; rfl, HBW5.out⟩
   by_cases q5 : 1099511627776 < s.hi
   ·have HF := qh (HNO.out (by rw [HC.out]; simp; omega))
    go_wp2_with fail
    go_ret
    exact ⟨by rw [HF.out]; rfl, HBW5.out⟩
   have HA2 := qh (HOK.out (by rw [HC.out, Q0.out, Q1.out, decide_eq_true Q2.out, A4.2 (by omega), decide_eq_true (by omega)]; rfl))
   go_wp2_with fail
   go_roundw
   case rel => exact ⟨i + 1, by omega, by go_num, HA2, HB5⟩
   case measure => simp [intOf] <;> omega
  ·obtain rfl : i = nS := by omega
   have hin' : ¬ (i : Int) < (i : Int) := by omega
   have HF : Hid (r = true) := qh (by
    rw [← HR.out]
    have := hA.out
    rwa [List.take_of_length_le (by rw [HN.out]; exact qn _)] at this)
   clear hA hB
   go_wp2_with fail
   go_ret
   exact ⟨by rw [HF.out]; rfl, HBW2.out⟩
end
section
open Go Go.RowKit Go.Deep
theorem Ms (bars last : Int) (p : Pau) (r : List Pau) : AW bars last (p :: r) = ((inB p.bar (last + 1) (bars - 2) && inB p.kind 1 2 && inB p.lo 0 p.hi && decide (p.hi ≤ 1048576)) && AW bars p.bar r) := rfl
theorem SY {w0 : World} {g : Nat} {bars : Int} {vT vP vS : Value} {wr : World} (h : ClkBox w0 g bars vT vP vS wr) (q : Nat) : ClkBox w0 g bars vT vP vS (wr.drewN q) := ⟨AO h.below q, h.c0, h.c1, h.c2, h.c3⟩
theorem LB (bars : Int) (hb1 : 1 ≤ bars) (hb2 : bars ≤ 4096) (vT vS : Value) (ps : List Pau) (aP : Option Addr) (nP cP : Nat) (w : World) (hn : ps.length = nP) (hX : IsRow Cl 4 w (.slice aP nP cP) ps) :
  Calls Tryz.prog 102 #[.agg #[int i64 bars, vT, .slice aP nP cP, vS]] w fun e w' => e = .returned (.bool (AW bars (-1) ps)) ∧ Below w.heap.size w w' := by
 have hmx : nP ≤ maxLen := by obtain ⟨_, _, _, h, _⟩ := hX; omega
 simp only [maxLen] at hmx
 obtain ⟨r, hr⟩ : ∃ r, AW bars (-1) ps = r := ⟨_, rfl⟩
 rw [hr]
 have HR := qh hr
 clear hr
 have hbx := ClkBox.make w bars vT (.slice aP nP cP) vS
 have hbw : Below w.heap.size w (w.alloc (.cells #[int i64 bars, vT, .slice aP nP cP, vS] 29)) := (Below.refl _ w).alloc (qn _) _
 have hsz : w.heap.size < (w.alloc (.cells #[int i64 bars, vT, .slice aP nP cP, vS] 29)).heap.size := by simp
 have HN := qh hn; have HX := qh hX; have HBW := qh hbw
 clear hn hX hbw
 go_enter Tryz.func102, Tryz.ntmps102
 go_wp2_with fail
 generalize w.alloc (.cells #[int i64 bars, vT, .slice aP nP cP, vS] 29) = w0 at *
 have HBX := qh hbx
 clear hbx
 have HA0 : Hid (r = AW bars (-1) (ps.drop 0)) := qh HR.out.symm
 have HP0 : Hid (∀ i0 p, 0 = i0 + 1 → ps[i0]? = some p → p.bar = (-1 : Int)) := qh fun i0 p h => by omega
 go_loopw [3] (fun iv wr => ∃ (i : Nat) (last : Int), i ≤ nP ∧ iv = int i64 i ∧ (i = 0 ∧ last = -1 ∨ 0 < i ∧ 0 ≤ last) ∧ Hid (r = AW bars last (ps.drop i)) ∧ Hid (∀ i0 p, i = i0 + 1 → ps[i0]? = some p → p.bar = last) ∧ Hid (ClkBox w0 w.heap.size bars vT (.slice aP nP cP) vS wr)) (fun iv _ => nP - (intOf iv).toNat)
 case atStart => exact ⟨0, -1, Nat.zero_le _, rfl, Or.inl ⟨rfl, rfl⟩, HA0, HP0, HBX⟩
 case round =>
  clear HBX HA0 HP0
  obtain ⟨i, last, hi, rfl, hlast, hA, hP, hB⟩ := hrel
  obtain ⟨hbe, c0, c1, c2, c3⟩ := hB.out
  have hbw2 := HBW.out.trans (hbe.mono HBW.out.size)
  have HBE := qh hbe; have HBW2 := qh hbw2
  have hsr := hbe.size
  clear hbe hbw2
  by_cases hin : i < nP
  ·have hin' : (i : Int) < (nP : Int) := by omega
   obtain ⟨p, hs⟩ : ∃ s, ps[i]? = some s := ⟨_, qg (by rw [HN.out]; exact hin)⟩
   obtain ⟨b, o, hao, hat, hlt⟩ := HX.out.block hs
   subst hao
   obtain ⟨p0, p1, p2, p3⟩ := atP (hat.below HBW2.out hlt) hs
   have hrr : r = ((inB p.bar (last + 1) (bars - 2) && inB p.kind 1 2 && inB p.lo 0 p.hi && decide (p.hi ≤ 1048576)) && AW bars p.bar (ps.drop (i + 1))) := by
    rw [hA.out, Ab hs, Ms]
   have HRR := qh hrr
   have HPN : Hid (∀ i0 q, i + 1 = i0 + 1 → ps[i0]? = some q → q.bar = p.bar) := qh fun i0 q h1 h2 => by
    obtain rfl : i0 = i := by omega
    rw [hs] at h2; cases h2; rfl
   have hB5 := hB.out.next (w2 := wr.alloc (.cells #[int i64 p.bar, int i64 p.kind, int i64 p.lo, int i64 p.hi] 171)) hsz ((Below.refl _ _).alloc hsr _)
   have x2 := heap_alloc_new wr (.cells #[int i64 p.bar, int i64 p.kind, int i64 p.lo, int i64 p.hi] 171)
   have HPV : Hid (0 < i → ∀ W, Below w.heap.size w W → ∃ i0 : Nat, (i : Int) - 1 = (i0 : Int) ∧ (i0 : Int) < (nP : Int) ∧ W.cell? ⟨b, o + i0 * 4, none⟩ = some (int i64 last)) := qh fun h W hW => by
    obtain ⟨i0, rfl⟩ : ∃ i0, i = i0 + 1 := ⟨i - 1, by omega⟩
    obtain ⟨q, hq⟩ : ∃ s, ps[i0]? = some s := ⟨_, qg (by rw [HN.out]; omega)⟩
    refine ⟨i0, by omega, by omega, ?_⟩
    rw [← hP.out i0 q rfl hq]
    exact (atP (hat.below hW hlt) hq).1
   have e0 := hB5.c0
   have e2 := hB5.c2
   clear hat hlt hs hA hB hrr hP
   go_wp2_with fail
   generalize wr.alloc (.cells #[int i64 p.bar, int i64 p.kind, int i64 p.lo, int i64 p.hi] 171) = w5 at *
   have l0 : w5.cell? ⟨wr.heap.size, 0, none⟩ = some (int i64 p.bar) := A0 x2 0 rfl
   have l1 : w5.cell? ⟨wr.heap.size, 1, none⟩ = some (int i64 p.kind) := A0 x2 1 rfl
   have l2 : w5.cell? ⟨wr.heap.size, 2, none⟩ = some (int i64 p.lo) := A0 x2 2 rfl
   have l3 : w5.cell? ⟨wr.heap.size, 3, none⟩ = some (int i64 p.hi) := A0 x2 3 rfl
   have HB5 := qh hB5
   have HBW5 := qh (HBW.out.trans (hB5.below.mono HBW.out.size))
   clear c0 c1 c2 c3 p0 p1 p2 p3 x2 hB5
   generalize wr.heap.size = gw at *
   have hwb : IntKind.i64.wrap (bars - 2) = bars - 2 := IntWalk.i64_in _ (by omega)
   have HW := qh (fun W => Cc p.bar 0 (bars - 2) W)
   have hcase : (r = false ∧ (inB p.bar 0 (bars - 2) = false ∨ (inB p.bar 0 (bars - 2) = true ∧ 0 < i ∧ p.bar ≤ last) ∨ (inB p.bar 0 (bars - 2) = true ∧ (i = 0 ∨ last < p.bar) ∧ ¬ p.kind = 1 ∧ ¬ p.kind = 2))) ∨ (inB p.bar (last + 1) (bars - 2) = true ∧ inB p.bar 0 (bars - 2) = true ∧ (i = 0 ∨ last < p.bar) ∧ (p.kind = 1 ∨ p.kind = 2)) := by
    rw [HRR.out]
    by_cases q1 : inB p.bar 0 (bars - 2) = true
    ·have q2 := A4.1 q1
     by_cases q3 : 0 < i ∧ p.bar ≤ last
     ·exact Or.inl ⟨by rw [Ah.2 (Or.inl (by omega))]; rfl, Or.inr (Or.inl ⟨q1, q3⟩)⟩
     ·by_cases q4 : p.kind = 1 ∨ p.kind = 2
      ·exact Or.inr ⟨A4.2 (by omega), q1, by omega, q4⟩
      ·exact Or.inl ⟨by rw [Ah.2 (show p.kind < 1 ∨ 2 < p.kind by omega)]; simp, Or.inr (Or.inr ⟨q1, by omega, by omega, by omega⟩)⟩
    ·rw [Bool.not_eq_true] at q1
     refine Or.inl ⟨?_, Or.inl q1⟩
     rw [Ah] at q1
     rw [Ah.2 (by omega)]; rfl
   rcases hcase with ⟨rfl, hbad⟩ | ⟨k1, k2, k3, k4⟩
   ·rcases hbad with hq | ⟨hq, hpi, hle⟩ | ⟨hq, hfi, hk1, hk2⟩
    ·rw [hq] at HW
     clear hq hlast HRR HPN
     go_quiet (first | (go_at_call 100; refine Calls.quiet_of_same (HW.out _)))
     go_wp2_with fail
     go_ret
     exact ⟨rfl, AO HBW5.out _⟩
    ·rw [hq] at HW
     obtain ⟨i0, hi0, hi0n, pc⟩ := HPV.out hpi w5 HBW5.out
     have hpi' : (0 : Int) < (i : Int) := by omega
     have hwi : IntKind.i64.wrap (i0 : Int) = (i0 : Int) := IntWalk.i64_in _ (by omega)
     clear hq hlast HRR HPN HPV
     go_quiet (first | (go_at_call 100; refine Calls.quiet_of_same (HW.out _)))
     go_wp2_with fail
     go_ret
     exact ⟨rfl, AO HBW5.out _⟩
    ·rw [hq] at HW
     have hm1 : (p.kind != 1) = true := by simpa using hk1
     have hm2 : (p.kind != 2) = true := by simpa using hk2
     by_cases hpi : 0 < i
     ·obtain ⟨i0, hi0, hi0n, pc⟩ := HPV.out hpi w5 HBW5.out
      have hpi' : (0 : Int) < (i : Int) := by omega
      have hwi : IntKind.i64.wrap (i0 : Int) = (i0 : Int) := IntWalk.i64_in _ (by omega)
      have hgt : ¬ p.bar ≤ last := by omega
      clear hq hlast HRR HPN HPV hk1 hk2 hfi
      go_quiet (first | (go_at_call 100; refine Calls.quiet_of_same (HW.out _)))
      go_wp2_with fail
      go_ret
      exact ⟨rfl, AO HBW5.out _⟩
     ·have hpi' : ¬ (0 : Int) < (i : Int) := by omega
      clear hq hlast HRR HPN HPV hk1 hk2 hfi
      go_quiet (first | (go_at_call 100; refine Calls.quiet_of_same (HW.out _)))
      go_wp2_with fail
      go_ret
      exact ⟨rfl, AO HBW5.out _⟩
   ·rw [k2] at HW
    have hq7 : (r = false ∧ ((p.lo < 0) ∨ (¬ p.lo < 0 ∧ p.hi < p.lo) ∨ (¬ p.lo < 0 ∧ ¬ p.hi < p.lo ∧ 1048576 < p.hi))) ∨ ((¬ p.lo < 0 ∧ ¬ p.hi < p.lo ∧ ¬ 1048576 < p.hi) ∧ r = AW bars p.bar (ps.drop (i + 1))) := by
     rw [HRR.out, k1, A4.2 (show 1 ≤ p.kind ∧ p.kind ≤ 2 by omega)]
     by_cases q3 : p.lo < 0
     ·exact Or.inl ⟨by rw [Ah.2 (Or.inl q3)]; simp, Or.inl q3⟩
     by_cases q4 : p.hi < p.lo
     ·exact Or.inl ⟨by rw [Ah.2 (Or.inr q4)]; simp, Or.inr (Or.inl ⟨q3, q4⟩)⟩
     by_cases q5 : 1048576 < p.hi
     ·exact Or.inl ⟨by rw [decide_eq_false (show ¬ p.hi ≤ 1048576 by omega)]; simp, Or.inr (Or.inr ⟨q3, q4, q5⟩)⟩
     ·exact Or.inr ⟨⟨q3, q4, q5⟩, by rw [A4.2 (show 0 ≤ p.lo ∧ p.lo ≤ p.hi by omega), decide_eq_true (show p.hi ≤ 1048576 by omega)]; simp⟩
    have hkd : ((p.kind != 1) = false) ∨ ((p.kind != 1) = true ∧ (p.kind != 2) = false) := by
     rcases k4 with h | h
     ·exact Or.inl (by rw [h]; rfl)
     ·exact Or.inr ⟨by rw [h]; rfl, by rw [h]; rfl⟩
    have hpv : (0 < i ∧ ¬ p.bar ≤ last ∧ ∃ i0 : Nat, (i : Int) - 1 = (i0 : Int) ∧ (i0 : Int) < (nP : Int) ∧ IntKind.i64.wrap (i0 : Int) = (i0 : Int) ∧ w5.cell? ⟨b, o + i0 * 4, none⟩ = some (int i64 last)) ∨ ¬ 0 < i := by
     by_cases h : 0 < i
     ·obtain ⟨i0, a1, a2, a3⟩ := HPV.out h w5 HBW5.out
      exact Or.inl ⟨by omega, by omega, i0, a1, a2, IntWalk.i64_in _ (by omega), a3⟩
     ·exact Or.inr (by omega)
    have hb5 : 0 ≤ p.bar := by have := A4.1 k2; omega
    have HB6 := qh (fun q => SY HB5.out q)
    clear HRR HPV k1 k2 k3 k4 hlast HBE
    rcases hq7 with ⟨rfl, hq⟩ | ⟨⟨hq1, hq2, hq3⟩, hrr⟩
    ·rcases hpv with ⟨hpi, hgt, i0, hi0, hi0n, hwi, pc⟩ | hpi <;> rcases hkd with hm1 | ⟨hm1, hm2⟩ <;> rcases hq with hq | ⟨hqa, hq⟩ | ⟨hqa, hqb, hq⟩
     all_goals
      go_quiet (first | (go_at_call 100; refine Calls.quiet_of_same (HW.out _)))
      go_wp2_with fail
      go_ret
      exact ⟨rfl, AO HBW5.out _⟩
    ·have HRR2 := qh hrr
     clear hrr
     rcases hpv with ⟨hpi, hgt, i0, hi0, hi0n, hwi, pc⟩ | hpi <;> rcases hkd with hm1 | ⟨hm1, hm2⟩
     all_goals
      go_quiet (first | (go_at_call 100; refine Calls.quiet_of_same (HW.out _)))
      go_wp2_with fail
      go_roundw
      case rel => exact ⟨i + 1, p.bar, by omega, by go_num, Or.inr ⟨by omega, hb5⟩, HRR2, HPN, qh (HB6.out _)⟩
      case measure => simp [intOf] <;> omega
  ·obtain rfl : i = nP := by omega
   have hin' : ¬ (i : Int) < (i : Int) := by omega
   have HF : Hid (r = true) := qh (by
    have := hA.out
    rw [List.drop_of_length_le (by rw [HN.out]; exact qn _)] at this
    rw [this]; rfl)
   clear hA hB
   go_wp2_with fail
   go_ret
   exact ⟨by rw [HF.out]; rfl, HBW2.out⟩
end
section
open Go Go.RowKit Go.Deep
def Np (ts : List Tmp) : Bool := match ts with
 | [] => false
 | t :: _ => decide (t.bar = 0)
theorem Ll {ts : List Tmp} {t : Tmp} (h : ts[0]? = some t) : Np ts = decide (t.bar = 0) := by
 cases ts with
 | nil => simp at h
 | cons a r => simp at h; subst h; rfl
def FD (bars : Int) (ts : List Tmp) : Bool := Np ts && AK bars (-1) ts && BE ts bars.toNat
theorem MF (bars last : Int) (t : Tmp) (r : List Tmp) : AK bars last (t :: r) = ((inB t.bar (last + 1) (bars - 1) && inB t.ticks (-65536) 65536 && inB t.step (-65536) 65536) && AK bars t.bar r) := rfl
theorem LD (bars : Int) (hb1 : 1 ≤ bars) (hb2 : bars ≤ 4096) (vP vS : Value) (ts : List Tmp) (aT : Option Addr) (nT cT : Nat) (w : World) (hn : ts.length = nT) (hle : nT ≤ 4096) (hX : IsRow Bq 3 w (.slice aT nT cT) ts) :
  Calls Tryz.prog 101 #[.agg #[int i64 bars, .slice aT nT cT, vP, vS]] w fun e w' => e = .returned (.bool (FD bars ts)) ∧ Below w.heap.size w w' := by
 obtain ⟨r, hr⟩ : ∃ r, FD bars ts = r := ⟨_, rfl⟩
 rw [hr]
 have HR := qh hr
 clear hr
 have hbx := ClkBox.make w bars (.slice aT nT cT) vP vS
 have hbw : Below w.heap.size w (w.alloc (.cells #[int i64 bars, .slice aT nT cT, vP, vS] 29)) := (Below.refl _ w).alloc (qn _) _
 have hsz : w.heap.size < (w.alloc (.cells #[int i64 bars, .slice aT nT cT, vP, vS] 29)).heap.size := by simp
 have HN := qh hn; have HX := qh hX; have HBW := qh hbw
 clear hn hX hbw
 by_cases hne : 0 < nT
 case neg =>
  have he : ts = [] := List.length_eq_zero_iff.1 (by rw [HN.out]; omega)
  have hz : nT = 0 := by omega
  subst hz
  have HF : Hid (r = false) := qh (by rw [← HR.out, he]; rfl)
  clear he hne
  go_enter Tryz.func101, Tryz.ntmps101
  go_wp2_with fail
  generalize w.alloc (.cells #[int i64 bars, .slice aT 0 cT, vP, vS] 29) = w0 at *
  try go_wp2_with fail
  go_ret
  exact ⟨by rw [HF.out]; rfl, HBW.out⟩
 obtain ⟨t0, ht0⟩ : ∃ t, ts[0]? = some t := ⟨_, qg (by rw [HN.out]; exact hne)⟩
 obtain ⟨b, o, hao, hat, hlt⟩ := HX.out.block ht0
 subst hao
 have HAT := qh hat
 clear hat
 have hne' : (0 : Int) < (nT : Int) := by omega
 have hne2 : ((nT : Int) == 0) = false := by simp; omega
 have p0 : (w.alloc (.cells #[int i64 bars, .slice (some ⟨b, o, none⟩) nT cT, vP, vS] 29)).cell? ⟨b, o, none⟩ = some (int i64 t0.bar) := by
  have := (atT (HAT.out.below HBW.out hlt) ht0).1; simpa using this
 have HT0 := qh ht0
 clear ht0
 have c1 := hbx.c1
 by_cases h0 : t0.bar = 0
 case neg =>
  have f0 : (t0.bar != 0) = true := by simpa using h0
  have HF : Hid (r = false) := qh (by rw [← HR.out]; unfold FD; rw [Ll HT0.out, decide_eq_false h0]; rfl)
  clear h0
  go_enter Tryz.func101, Tryz.ntmps101
  go_wp2_with fail
  go_ret
  exact ⟨by rw [HF.out]; rfl, HBW.out⟩
 have f0 : (t0.bar != 0) = false := by simpa using h0
 have HH := qh (show Np ts = true by rw [Ll HT0.out, decide_eq_true h0])
 have HZ := qh h0
 clear h0
 go_enter Tryz.func101, Tryz.ntmps101
 go_wp2_with fail
 generalize w.alloc (.cells #[int i64 bars, .slice (some ⟨b, o, none⟩) nT cT, vP, vS] 29) = w0 at *
 have HBX := qh hbx
 clear hbx p0 f0 c1
 have HA0 : Hid (AK bars (-1) ts = AK bars (-1) (ts.drop 0)) := qh rfl
 have HP0 : Hid (∀ i0 p, 0 = i0 + 1 → ts[i0]? = some p → p.bar = (-1 : Int)) := qh fun i0 p h => by omega
 go_loopw [3] (fun iv wr => ∃ (i : Nat) (last : Int), i ≤ nT ∧ iv = int i64 i ∧ (i = 0 ∧ last = -1 ∨ 0 < i ∧ 0 ≤ last) ∧ Hid (AK bars (-1) ts = AK bars last (ts.drop i)) ∧ Hid (∀ i0 p, i = i0 + 1 → ts[i0]? = some p → p.bar = last) ∧ Hid (ClkBox w0 w.heap.size bars (.slice (some ⟨b, o, none⟩) nT cT) vP vS wr)) (fun iv _ => nT - (intOf iv).toNat)
 case atStart => exact ⟨0, -1, Nat.zero_le _, rfl, Or.inl ⟨rfl, rfl⟩, HA0, HP0, HBX⟩
 case round =>
  clear HBX HA0 HP0
  obtain ⟨i, last, hi, rfl, hlast, hA, hP, hB⟩ := hrel
  obtain ⟨hbe, c0, c1, c2, c3⟩ := hB.out
  have hbw2 := HBW.out.trans (hbe.mono HBW.out.size)
  have HBE := qh hbe; have HBW2 := qh hbw2
  have hsr := hbe.size
  clear hbe hbw2
  by_cases hin : i < nT
  ·have hin' : (i : Int) < (nT : Int) := by omega
   obtain ⟨p, hs⟩ : ∃ s, ts[i]? = some s := ⟨_, qg (by rw [HN.out]; exact hin)⟩
   obtain ⟨p0, p1, p2⟩ := atT (HAT.out.below HBW2.out hlt) hs
   have hrr : AK bars (-1) ts = ((inB p.bar (last + 1) (bars - 1) && inB p.ticks (-65536) 65536 && inB p.step (-65536) 65536) && AK bars p.bar (ts.drop (i + 1))) := by
    rw [hA.out, Ab hs, MF]
   have hz0 : i = 0 → p.bar = 0 := fun h => by
    subst h
    have := hs.symm.trans HT0.out
    cases this; exact HZ.out
   have HRR := qh hrr
   have HFL : Hid (AK bars (-1) ts = false → r = false) := qh fun h => by rw [← HR.out]; unfold FD; rw [h]; simp
   have HPN : Hid (∀ i0 q, i + 1 = i0 + 1 → ts[i0]? = some q → q.bar = p.bar) := qh fun i0 q h1 h2 => by
    obtain rfl : i0 = i := by omega
    rw [hs] at h2; cases h2; rfl
   have hB5 := hB.out.next (w2 := wr.alloc (.cells #[int i64 p.bar, int i64 p.ticks, int i64 p.step] 88)) hsz ((Below.refl _ _).alloc hsr _)
   have x2 := heap_alloc_new wr (.cells #[int i64 p.bar, int i64 p.ticks, int i64 p.step] 88)
   have HPV : Hid (0 < i → ∀ W, Below w.heap.size w W → ∃ i0 : Nat, (i : Int) - 1 = (i0 : Int) ∧ (i0 : Int) < (nT : Int) ∧ W.cell? ⟨b, o + i0 * 3, none⟩ = some (int i64 last)) := qh fun h W hW => by
    obtain ⟨i0, rfl⟩ : ∃ i0, i = i0 + 1 := ⟨i - 1, by omega⟩
    obtain ⟨q, hq⟩ : ∃ s, ts[i0]? = some s := ⟨_, qg (by rw [HN.out]; omega)⟩
    refine ⟨i0, by omega, by omega, ?_⟩
    rw [← hP.out i0 q rfl hq]
    exact (atT (HAT.out.below hW hlt) hq).1
   have e0 := hB5.c0
   have e1 := hB5.c1
   clear hs hA hB hrr hP
   go_wp2_with fail
   generalize wr.alloc (.cells #[int i64 p.bar, int i64 p.ticks, int i64 p.step] 88) = w5 at *
   have l0 : w5.cell? ⟨wr.heap.size, 0, none⟩ = some (int i64 p.bar) := A0 x2 0 rfl
   have l1 : w5.cell? ⟨wr.heap.size, 1, none⟩ = some (int i64 p.ticks) := A0 x2 1 rfl
   have l2 : w5.cell? ⟨wr.heap.size, 2, none⟩ = some (int i64 p.step) := A0 x2 2 rfl
   have HB5 := qh hB5
   have HBW5 := qh (HBW.out.trans (hB5.below.mono HBW.out.size))
   clear c0 c1 c2 c3 p0 p1 p2 x2 hB5
   generalize wr.heap.size = gw at *
   have hpv : (0 < i ∧ ∃ i0 : Nat, (i : Int) - 1 = (i0 : Int) ∧ (i0 : Int) < (nT : Int) ∧ IntKind.i64.wrap (i0 : Int) = (i0 : Int) ∧ w5.cell? ⟨b, o + i0 * 3, none⟩ = some (int i64 last)) ∨ ¬ 0 < i := by
    by_cases h : 0 < i
    ·obtain ⟨i0, a1, a2, a3⟩ := HPV.out h w5 HBW5.out
     exact Or.inl ⟨h, i0, a1, a2, IntWalk.i64_in _ (by omega), a3⟩
    ·exact Or.inr h
   by_cases hbar : inB p.bar (last + 1) (bars - 1) = true
   case neg =>
    rw [Bool.not_eq_true] at hbar
    have hcs : (0 < i ∧ p.bar ≤ last) ∨ (¬ p.bar ≤ last ∧ bars ≤ p.bar) := by
     rw [Ah] at hbar
     by_cases h : 0 < i
     ·omega
     ·have := hz0 (by omega); omega
    obtain rfl : r = false := HFL.out (by rw [HRR.out, hbar]; rfl)
    clear hbar HRR HFL HPN HPV hz0
    rcases hcs with ⟨hpi, hle2⟩ | ⟨hgt, hge⟩
    ·rcases hpv with ⟨hpi, i0, hi0, hi0n, hwi, pc⟩ | hpi2
     ·clear hlast
      go_quiet (fail)
      go_wp2_with fail
      go_ret
      exact ⟨rfl, AO HBW5.out _⟩
     ·exact absurd hpi hpi2
    ·clear hlast
     rcases hpv with ⟨hpi, i0, hi0, hi0n, hwi, pc⟩ | hpi
     all_goals
      go_quiet (fail)
      go_wp2_with fail
      go_ret
      exact ⟨rfl, AO HBW5.out _⟩
   have hbr := A4.1 hbar
   have hgt : ¬ p.bar ≤ last := by omega
   have hlt2 : ¬ bars ≤ p.bar := by omega
   have hb5 : 0 ≤ p.bar := by omega
   have HBAR := qh hbar
   have HB6 := qh (fun q => SY HB5.out q)
   clear hbar hbr HPV hz0 hlast HBE
   rcases hpv with ⟨hpi, i0, hi0, hi0n, hwi, pc⟩ | hpi
   all_goals
    go_quiet (fail)
    go_wp2_with fail
    refine (Cc p.ticks (-65536) 65536 _).mono ?_
    rintro e w6 ⟨rfl, rfl⟩
    cases q0 : inB p.ticks (-65536) 65536 with
    | false =>
     obtain rfl : r = false := HFL.out (by rw [HRR.out, q0]; simp)
     clear q0
     go_wp2_with fail
     go_ret
     exact ⟨rfl, AO HBW5.out _⟩
    | true =>
     have Q0 := qh q0
     clear q0
     go_wp2_with fail
     refine (Cc p.step (-65536) 65536 _).mono ?_
     rintro e w7 ⟨rfl, rfl⟩
     cases q1 : inB p.step (-65536) 65536 with
     | false =>
      obtain rfl : r = false := HFL.out (by rw [HRR.out, q1]; simp)
      clear q1
      go_wp2_with fail
      go_ret
      exact ⟨rfl, AO HBW5.out _⟩
     | true =>
      have HA2 := qh (show AK bars (-1) ts = AK bars p.bar (ts.drop (i + 1)) by rw [HRR.out, HBAR.out, Q0.out, q1]; rfl)
      clear q1
      go_wp2_with fail
      go_roundw
      case rel => exact ⟨i + 1, p.bar, by omega, by go_num, Or.inr ⟨by omega, hb5⟩, HA2, HPN, qh (HB6.out _)⟩
      case measure => simp [intOf] <;> omega
  ·obtain rfl : i = nT := by omega
   have hin' : ¬ (i : Int) < (i : Int) := by omega
   have hTM : AK bars (-1) ts = true := by
    have := hA.out
    rw [List.drop_of_length_le (by rw [HN.out]; exact qn _)] at this
    rw [this]; rfl
   obtain ⟨hso, hall⟩ := Cj hTM
   have hseg := OS hTM HT0.out HZ.out
   have hNW : ∀ x : Int, 0 ≤ x → x ≤ bars - 1 → GW ts x := fun x h1 h2 => ⟨hso, FE HT0.out (by rw [HZ.out]; exact h1), h1, by omega, fun t ht => by have := hall t ht; omega⟩
   have HTM := qh hTM; have HSEG := qh hseg; have HNW := qh hNW; have HALL := qh hall; have HSO := qh hso
   have HTK := qh (fun (W : World) (hb : Below w.heap.size w W) (x : Int) (h1 : 0 ≤ x) (h2 : x ≤ bars - 1) => Mt bars x b o i cT vP vS ts W HN.out (by omega) (HAT.out.below hb hlt) (Nat.lt_of_lt_of_le hlt hb.size) (hNW x h1 h2))
   have HFL : Hid (∀ k, k < i → IK bars ts k = false → r = false) := qh fun k hk h => by
    rw [← HR.out]
    unfold FD
    have : BE ts bars.toNat = false := by
     rw [Bool.eq_false_iff]
     intro q
     have := HSEG.out.1 q k (by rw [HN.out]; exact hk)
     rw [h] at this; cases this
    rw [this]; simp
   have HS0 : Hid (∀ k, k < 0 → IK bars ts k = true) := qh fun k hk => by omega
   clear hA hP hlast hTM hso hall hseg hNW c0 c1 c2 c3 hsr
   have c1 := hB.out.c1
   go_wp2_with fail
   clear c1 HBW2 HBE
   go_loopw [5] (fun jv wr => ∃ j : Nat, j ≤ i ∧ jv = int i64 j ∧ Hid (∀ k, k < j → IK bars ts k = true) ∧ Hid (ClkBox w0 w.heap.size bars (.slice (some ⟨b, o, none⟩) i cT) vP vS wr)) (fun jv _ => i - (intOf jv).toNat)
   case atStart => exact ⟨0, Nat.zero_le _, rfl, HS0, hB⟩
   case round =>
    clear hB HS0
    obtain ⟨j, hj, rfl, hS, hB⟩ := hrel
    obtain ⟨hbe, c0, c1, c2, c3⟩ := hB.out
    have hbw2 := HBW.out.trans (hbe.mono HBW.out.size)
    have HBE := qh hbe; have HBW2 := qh hbw2
    have hsr := hbe.size
    clear hbe hbw2
    by_cases hji : j < i
    ·have hji' : (j : Int) < (i : Int) := by omega
     obtain ⟨p, hs⟩ : ∃ s, ts[j]? = some s := ⟨_, qg (by rw [HN.out]; exact hji)⟩
     obtain ⟨p0, p1, p2⟩ := atT (HAT.out.below HBW2.out hlt) hs
     obtain ⟨j1, hj1⟩ : ∃ x, j + 1 = x := ⟨_, rfl⟩
     have hj1I : (j : Int) + 1 = (j1 : Int) := by omega
     obtain ⟨L, hL⟩ : ∃ x, C5 bars ts j = x := ⟨_, rfl⟩
     have hlo := FY HTM.out hs
     rw [hL] at hlo
     have hpb := HALL.out p (List.mem_of_getElem? hs)
     have hcase : (∃ q : Tmp, (j1 : Int) < (i : Int) ∧ wr.cell? ⟨b, o + j1 * 3, none⟩ = some (int i64 q.bar) ∧ q.bar - 1 = L ∧ -4096 ≤ q.bar ∧ q.bar ≤ 4096) ∨ (¬ (j1 : Int) < (i : Int) ∧ bars - 1 = L) := by
      by_cases h : j1 < i
      ·obtain ⟨q, hq⟩ : ∃ s, ts[j1]? = some s := ⟨_, qg (by rw [HN.out]; exact h)⟩
       have hqb := HALL.out q (List.mem_of_getElem? hq)
       refine Or.inl ⟨q, by omega, (atT (HAT.out.below HBW2.out hlt) hq).1, ?_, by omega, by omega⟩
       rw [← hL]; unfold C5; rw [hj1, hq]
      ·refine Or.inr ⟨by omega, ?_⟩
       rw [← hL]; unfold C5; rw [hj1, List.getElem?_eq_none (by rw [HN.out]; omega)]
     have hsg : IK bars ts j = (inB (AH ts p.bar) 1 65536 && inB (AH ts L) 1 65536) := by
      unfold IK
      rw [hL, show ts[j]! = p by simp [hs]]
     have HSG := qh hsg
     have HFJ := qh (HFL.out j hji)
     have HT1 := qh (fun (W : World) (hb : Below w.heap.size w W) => HTK.out W hb p.bar (by omega) (by omega))
     have HT2 := qh (fun (W : World) (hb : Below w.heap.size w W) => HTK.out W hb L (by omega) (by omega))
     have HSN : Hid (IK bars ts j = true → ∀ k, k < j1 → IK bars ts k = true) := qh fun h k hk => by
      by_cases e : k = j
      ·rw [e]; exact h
      ·exact hS.out k (by omega)
     clear hs hL hsg hS p1 p2
     have KS : Hid (∀ w2, Below wr.heap.size wr w2 → w2.cell? ⟨w.heap.size, 0, none⟩ = some (int i64 bars) ∧ w2.cell? ⟨w.heap.size, 1, none⟩ = some (.slice (some ⟨b, o, none⟩) i cT) ∧ w2.cell? ⟨w.heap.size, 2, none⟩ = some vP ∧ w2.cell? ⟨w.heap.size, 3, none⟩ = some vS ∧ w2.cell? ⟨b, o + j * 3, none⟩ = some (int i64 p.bar)) := qh fun w2 h => by
      have hb := hB.out.next hsz (h.mono hsr)
      refine ⟨hb.c0, hb.c1, hb.c2, hb.c3, ?_⟩
      exact (h.cell (p := ⟨b, o + j * 3, none⟩) (Nat.lt_of_lt_of_le hlt HBW2.out.size)).trans p0
     have HBN : Hid (∀ w2, Below wr.heap.size wr w2 → ClkBox w0 w.heap.size bars (.slice (some ⟨b, o, none⟩) i cT) vP vS w2) := qh fun w2 h => hB.out.next hsz (h.mono hsr)
     have HI1 := qh (fun W => Cc (AH ts p.bar) 1 65536 W)
     have HI2 := qh (fun W => Cc (AH ts L) 1 65536 W)
     clear hB hpb hlo
     obtain ⟨T1, hT1⟩ : ∃ x, AH ts p.bar = x := ⟨_, rfl⟩
     obtain ⟨T2, hT2⟩ : ∃ x, AH ts L = x := ⟨_, rfl⟩
     rw [hT1] at HI1 HT1 HSG
     rw [hT2] at HI2 HT2 HSG
     clear hT1 hT2
     cases q1 : inB T1 1 65536 with
     | false =>
      obtain rfl : r = false := HFJ.out (by rw [HSG.out, q1]; rfl)
      rw [q1] at HI1
      clear q1 HSG HFJ HSN
      rcases hcase with ⟨q, hj1i, q0, hqL, hqa, hqb⟩ | ⟨hj1i, hqL⟩
      all_goals
       go_wp2_with fail
       clear hqL hj1i
       refine wp_region_noPanic ?_
       refine wp_region_held (S := fun w2 => w2.cell? ⟨w.heap.size, 0, none⟩ = some (int i64 bars) ∧ w2.cell? ⟨w.heap.size, 1, none⟩ = some (.slice (some ⟨b, o, none⟩) i cT) ∧ w2.cell? ⟨w.heap.size, 2, none⟩ = some vP ∧ w2.cell? ⟨w.heap.size, 3, none⟩ = some vS ∧ w2.cell? ⟨b, o + j * 3, none⟩ = some (int i64 p.bar)) (by kernel_rfl) ?_
       change wpAnyH _ _ _ _ _ _ _ _ wr.drew
       have hS := KS.out _ (Below.refl wr.heap.size wr).drew
       refine tq 0 _ (.agg #[int i64 bars, .slice (some ⟨b, o, none⟩) i cT, vP, vS]) rfl (by kernel_rfl) (fun _ _ _ h => h) (Or.inl ⟨by kernel_rfl, fun w hw => by obtain ⟨h1, h2, h3, h4, h5⟩ := hw; go_simp⟩) hS ?_
       simp only [qA, qB, qC, Act.put, qD, qE, qF]
       refine tq 1 _ (.pointer (some ⟨w.heap.size, 1, none⟩)) rfl (by kernel_rfl) (fun _ _ _ h => h) (Or.inl ⟨by kernel_rfl, fun w hw => by obtain ⟨h1, h2, h3, h4, h5⟩ := hw; go_simp⟩) hS ?_
       simp only [qA, qB, qC, Act.put, qD, qE, qF]
       refine tq 2 _ (.slice (some ⟨b, o, none⟩) i cT) rfl (by kernel_rfl) (fun _ _ _ h => h) (Or.inl ⟨by kernel_rfl, fun w hw => by obtain ⟨h1, h2, h3, h4, h5⟩ := hw; go_simp⟩) hS ?_
       simp only [qA, qB, qC, Act.put, qD, qE, qF]
       refine tq 3 _ (int i64 j) rfl (by kernel_rfl) (fun _ _ _ h => h) (Or.inl ⟨by kernel_rfl, fun w hw => by obtain ⟨h1, h2, h3, h4, h5⟩ := hw; go_simp⟩) hS ?_
       simp only [qA, qB, qC, Act.put, qD, qE, qF]
       refine tq 4 _ (.pointer (some ⟨b, o + j * 3, none⟩)) rfl (by kernel_rfl) (fun _ _ _ h => h) (Or.inl ⟨by kernel_rfl, fun w hw => by obtain ⟨h1, h2, h3, h4, h5⟩ := hw; go_simp⟩) hS ?_
       simp only [qA, qB, qC, Act.put, qD, qE, qF]
       refine tq 5 _ (.pointer (some ⟨b, o + j * 3, none⟩)) rfl (by kernel_rfl) (fun _ _ _ h => h) (Or.inl ⟨by kernel_rfl, fun w hw => by obtain ⟨h1, h2, h3, h4, h5⟩ := hw; go_simp⟩) hS ?_
       simp only [qA, qB, qC, Act.put, qD, qE, qF]
       refine tq 6 _ (int i64 p.bar) rfl (by kernel_rfl) (fun _ _ _ h => h) (Or.inl ⟨by kernel_rfl, fun w hw => by obtain ⟨h1, h2, h3, h4, h5⟩ := hw; go_simp⟩) hS ?_
       simp only [qA, qB, qC, Act.put, qD, qE, qF]
       refine tr 7 _ (by kernel_rfl) rfl fun K1 hK => ?_
       go_simp
       refine (HT1.out _ HBW2.out.drew).mono ?_
       rintro e w5 ⟨rfl, hb5⟩
       have hbX : Below wr.heap.size wr w5 := (Below.refl wr.heap.size wr).drew.trans hb5
       have HBX := qh hbX
       have hS2 := KS.out _ hbX
       refine hK.out _ _ hS2 (fun _ => ?_)
       clear hK K1 hS hb5 hbX
       try simp only [qA, qB, qC, Act.put, qD, qE, qF]
       refine tr 8 _ (by kernel_rfl) rfl fun K1 hK => ?_
       go_simp
       refine (HI1.out _).mono ?_
       rintro e w6 ⟨rfl, rfl⟩
       refine hK.out _ _ hS2 (fun _ => ?_)
       clear hK K1
       try simp only [qA, qB, qC, Act.put, qD, qE, qF]
       refine tq 9 _ (.bool true) rfl (by kernel_rfl) (fun _ _ _ h => h) (Or.inl ⟨by kernel_rfl, fun w hw => by obtain ⟨h1, h2, h3, h4, h5⟩ := hw; go_simp⟩) hS2 ?_
       simp only [qA, qB, qC, Act.put, qD, qE, qF]
       refine tq 10 _ (.bool true) rfl (by kernel_rfl) (fun _ _ _ h => h) (Or.inl ⟨by kernel_rfl, fun w hw => by obtain ⟨h1, h2, h3, h4, h5⟩ := hw; go_simp⟩) hS2 ?_
       simp only [qA, qB, qC, Act.put, qD, qE, qF]
       refine tq 11 _ undef rfl (by kernel_rfl) (fun _ _ _ h => h) (Or.inr ⟨by kernel_rfl, rfl⟩) hS2 ?_
       simp only [qA, qB, qC, Act.put, qD, qE, qF]
       refine tq 12 _ undef rfl (by kernel_rfl) (fun _ _ _ h => h) (Or.inr ⟨by kernel_rfl, rfl⟩) hS2 ?_
       simp only [qA, qB, qC, Act.put, qD, qE, qF]
       refine tq 13 _ undef rfl (by kernel_rfl) (fun _ _ _ h => h) (Or.inr ⟨by kernel_rfl, rfl⟩) hS2 ?_
       simp only [qA, qB, qC, Act.put, qD, qE, qF]
       refine tq 14 _ undef rfl (by kernel_rfl) (fun _ _ _ h => h) (Or.inr ⟨by kernel_rfl, rfl⟩) hS2 ?_
       simp only [qA, qB, qC, Act.put, qD, qE, qF]
       refine tq 15 _ undef rfl (by kernel_rfl) (fun _ _ _ h => h) (Or.inr ⟨by kernel_rfl, rfl⟩) hS2 ?_
       simp only [qA, qB, qC, Act.put, qD, qE, qF]
       refine tq 16 _ (.bool true) rfl (by kernel_rfl) (fun _ _ _ h => h) (Or.inl ⟨by kernel_rfl, fun w hw => by obtain ⟨h1, h2, h3, h4, h5⟩ := hw; go_simp⟩) hS2 ?_
       simp only [qA, qB, qC, Act.put, qD, qE, qF]
       refine wpAnyH_done (by kernel_rfl) ?_ _
       refine NoPanic.normal ?_
       clear hS2
       go_wp2_with fail
       go_ret
       exact ⟨rfl, HBW2.out.trans (HBX.out.mono HBW2.out.size)⟩
     | true =>
      rw [q1] at HI1
      have Q1 := qh q1
      clear q1
      cases q2 : inB T2 1 65536 with
      | false =>
       obtain rfl : r = false := HFJ.out (by rw [HSG.out, q2]; simp)
       rw [q2] at HI2
       clear q2 HSG HFJ HSN
       rcases hcase with ⟨q, hj1i, q0, hqL, hqa, hqb⟩ | ⟨hj1i, hqL⟩
       all_goals
        go_wp2_with fail
        clear hqL hj1i
        refine wp_region_noPanic ?_
        refine wp_region_held (S := fun w2 => w2.cell? ⟨w.heap.size, 0, none⟩ = some (int i64 bars) ∧ w2.cell? ⟨w.heap.size, 1, none⟩ = some (.slice (some ⟨b, o, none⟩) i cT) ∧ w2.cell? ⟨w.heap.size, 2, none⟩ = some vP ∧ w2.cell? ⟨w.heap.size, 3, none⟩ = some vS ∧ w2.cell? ⟨b, o + j * 3, none⟩ = some (int i64 p.bar)) (by kernel_rfl) ?_
        change wpAnyH _ _ _ _ _ _ _ _ wr.drew
        have hS := KS.out _ (Below.refl wr.heap.size wr).drew
        refine tq 0 _ (.agg #[int i64 bars, .slice (some ⟨b, o, none⟩) i cT, vP, vS]) rfl (by kernel_rfl) (fun _ _ _ h => h) (Or.inl ⟨by kernel_rfl, fun w hw => by obtain ⟨h1, h2, h3, h4, h5⟩ := hw; go_simp⟩) hS ?_
        simp only [qA, qB, qC, Act.put, qD, qE, qF]
        refine tq 1 _ (.pointer (some ⟨w.heap.size, 1, none⟩)) rfl (by kernel_rfl) (fun _ _ _ h => h) (Or.inl ⟨by kernel_rfl, fun w hw => by obtain ⟨h1, h2, h3, h4, h5⟩ := hw; go_simp⟩) hS ?_
        simp only [qA, qB, qC, Act.put, qD, qE, qF]
        refine tq 2 _ (.slice (some ⟨b, o, none⟩) i cT) rfl (by kernel_rfl) (fun _ _ _ h => h) (Or.inl ⟨by kernel_rfl, fun w hw => by obtain ⟨h1, h2, h3, h4, h5⟩ := hw; go_simp⟩) hS ?_
        simp only [qA, qB, qC, Act.put, qD, qE, qF]
        refine tq 3 _ (int i64 j) rfl (by kernel_rfl) (fun _ _ _ h => h) (Or.inl ⟨by kernel_rfl, fun w hw => by obtain ⟨h1, h2, h3, h4, h5⟩ := hw; go_simp⟩) hS ?_
        simp only [qA, qB, qC, Act.put, qD, qE, qF]
        refine tq 4 _ (.pointer (some ⟨b, o + j * 3, none⟩)) rfl (by kernel_rfl) (fun _ _ _ h => h) (Or.inl ⟨by kernel_rfl, fun w hw => by obtain ⟨h1, h2, h3, h4, h5⟩ := hw; go_simp⟩) hS ?_
        simp only [qA, qB, qC, Act.put, qD, qE, qF]
        refine tq 5 _ (.pointer (some ⟨b, o + j * 3, none⟩)) rfl (by kernel_rfl) (fun _ _ _ h => h) (Or.inl ⟨by kernel_rfl, fun w hw => by obtain ⟨h1, h2, h3, h4, h5⟩ := hw; go_simp⟩) hS ?_
        simp only [qA, qB, qC, Act.put, qD, qE, qF]
        refine tq 6 _ (int i64 p.bar) rfl (by kernel_rfl) (fun _ _ _ h => h) (Or.inl ⟨by kernel_rfl, fun w hw => by obtain ⟨h1, h2, h3, h4, h5⟩ := hw; go_simp⟩) hS ?_
        simp only [qA, qB, qC, Act.put, qD, qE, qF]
        refine tr 7 _ (by kernel_rfl) rfl fun K1 hK => ?_
        go_simp
        refine (HT1.out _ HBW2.out.drew).mono ?_
        rintro e w5 ⟨rfl, hb5⟩
        have hbX : Below wr.heap.size wr w5 := (Below.refl wr.heap.size wr).drew.trans hb5
        have HBX := qh hbX
        have hS2 := KS.out _ hbX
        refine hK.out _ _ hS2 (fun _ => ?_)
        clear hK K1 hS hb5 hbX
        try simp only [qA, qB, qC, Act.put, qD, qE, qF]
        refine tr 8 _ (by kernel_rfl) rfl fun K1 hK => ?_
        go_simp
        refine (HI1.out _).mono ?_
        rintro e w6 ⟨rfl, rfl⟩
        refine hK.out _ _ hS2 (fun _ => ?_)
        clear hK K1
        try simp only [qA, qB, qC, Act.put, qD, qE, qF]
        refine tq 9 _ (.bool false) rfl (by kernel_rfl) (fun _ _ _ h => h) (Or.inl ⟨by kernel_rfl, fun w hw => by obtain ⟨h1, h2, h3, h4, h5⟩ := hw; go_simp⟩) hS2 ?_
        simp only [qA, qB, qC, Act.put, qD, qE, qF]
        refine tq 10 _ (.bool false) rfl (by kernel_rfl) (fun _ _ _ h => h) (Or.inl ⟨by kernel_rfl, fun w hw => by obtain ⟨h1, h2, h3, h4, h5⟩ := hw; go_simp⟩) hS2 ?_
        simp only [qA, qB, qC, Act.put, qD, qE, qF]
        refine tq 11 _ (.agg #[int i64 bars, .slice (some ⟨b, o, none⟩) i cT, vP, vS]) rfl (by kernel_rfl) (fun _ _ _ h => h) (Or.inl ⟨by kernel_rfl, fun w hw => by obtain ⟨h1, h2, h3, h4, h5⟩ := hw; go_simp⟩) hS2 ?_
        simp only [qA, qB, qC, Act.put, qD, qE, qF]
        refine tq 12 _ (int i64 L) rfl (by kernel_rfl) (fun _ _ _ h => h) (Or.inl ⟨by kernel_rfl, fun w hw => by obtain ⟨h1, h2, h3, h4, h5⟩ := hw; go_simp⟩) hS2 ?_
        simp only [qA, qB, qC, Act.put, qD, qE, qF]
        refine tr 13 _ (by kernel_rfl) rfl fun K1 hK => ?_
        go_simp
        refine (HT2.out _ (HBW2.out.trans (HBX.out.mono HBW2.out.size))).mono ?_
        rintro e w8 ⟨rfl, hb8⟩
        have hbY : Below wr.heap.size wr w8 := HBX.out.trans (hb8.mono HBX.out.size)
        have HBY := qh hbY
        have hS3 := KS.out _ hbY
        refine hK.out _ _ hS3 (fun _ => ?_)
        clear hK K1 hS2 hb8 hbY
        try simp only [qA, qB, qC, Act.put, qD, qE, qF]
        refine tr 14 _ (by kernel_rfl) rfl fun K1 hK => ?_
        go_simp
        refine (HI2.out _).mono ?_
        rintro e w9 ⟨rfl, rfl⟩
        refine hK.out _ _ hS3 (fun _ => ?_)
        clear hK K1
        try simp only [qA, qB, qC, Act.put, qD, qE, qF]
        refine tq 15 _ (.bool true) rfl (by kernel_rfl) (fun _ _ _ h => h) (Or.inl ⟨by kernel_rfl, fun w hw => by obtain ⟨h1, h2, h3, h4, h5⟩ := hw; go_simp⟩) hS3 ?_
        simp only [qA, qB, qC, Act.put, qD, qE, qF]
        refine tq 16 _ (.bool true) rfl (by kernel_rfl) (fun _ _ _ h => h) (Or.inl ⟨by kernel_rfl, fun w hw => by obtain ⟨h1, h2, h3, h4, h5⟩ := hw; go_simp⟩) hS3 ?_
        simp only [qA, qB, qC, Act.put, qD, qE, qF]
        refine wpAnyH_done (by kernel_rfl) ?_ _
        refine NoPanic.normal ?_
        clear hS3
        go_wp2_with fail
        go_ret
        exact ⟨rfl, HBW2.out.trans (HBY.out.mono HBW2.out.size)⟩
      | true =>
       have HSN2 := qh (HSN.out (by rw [HSG.out, Q1.out, q2]; rfl))
       rw [q2] at HI2
       clear q2 HSG HFJ HSN
       rcases hcase with ⟨q, hj1i, q0, hqL, hqa, hqb⟩ | ⟨hj1i, hqL⟩
       all_goals
        go_wp2_with fail
        clear hqL hj1i
        refine wp_region_noPanic ?_
        refine wp_region_held (S := fun w2 => w2.cell? ⟨w.heap.size, 0, none⟩ = some (int i64 bars) ∧ w2.cell? ⟨w.heap.size, 1, none⟩ = some (.slice (some ⟨b, o, none⟩) i cT) ∧ w2.cell? ⟨w.heap.size, 2, none⟩ = some vP ∧ w2.cell? ⟨w.heap.size, 3, none⟩ = some vS ∧ w2.cell? ⟨b, o + j * 3, none⟩ = some (int i64 p.bar)) (by kernel_rfl) ?_
        change wpAnyH _ _ _ _ _ _ _ _ wr.drew
        have hS := KS.out _ (Below.refl wr.heap.size wr).drew
        refine tq 0 _ (.agg #[int i64 bars, .slice (some ⟨b, o, none⟩) i cT, vP, vS]) rfl (by kernel_rfl) (fun _ _ _ h => h) (Or.inl ⟨by kernel_rfl, fun w hw => by obtain ⟨h1, h2, h3, h4, h5⟩ := hw; go_simp⟩) hS ?_
        simp only [qA, qB, qC, Act.put, qD, qE, qF]
        refine tq 1 _ (.pointer (some ⟨w.heap.size, 1, none⟩)) rfl (by kernel_rfl) (fun _ _ _ h => h) (Or.inl ⟨by kernel_rfl, fun w hw => by obtain ⟨h1, h2, h3, h4, h5⟩ := hw; go_simp⟩) hS ?_
        simp only [qA, qB, qC, Act.put, qD, qE, qF]
        refine tq 2 _ (.slice (some ⟨b, o, none⟩) i cT) rfl (by kernel_rfl) (fun _ _ _ h => h) (Or.inl ⟨by kernel_rfl, fun w hw => by obtain ⟨h1, h2, h3, h4, h5⟩ := hw; go_simp⟩) hS ?_
        simp only [qA, qB, qC, Act.put, qD, qE, qF]
        refine tq 3 _ (int i64 j) rfl (by kernel_rfl) (fun _ _ _ h => h) (Or.inl ⟨by kernel_rfl, fun w hw => by obtain ⟨h1, h2, h3, h4, h5⟩ := hw; go_simp⟩) hS ?_
        simp only [qA, qB, qC, Act.put, qD, qE, qF]
        refine tq 4 _ (.pointer (some ⟨b, o + j * 3, none⟩)) rfl (by kernel_rfl) (fun _ _ _ h => h) (Or.inl ⟨by kernel_rfl, fun w hw => by obtain ⟨h1, h2, h3, h4, h5⟩ := hw; go_simp⟩) hS ?_
        simp only [qA, qB, qC, Act.put, qD, qE, qF]
        refine tq 5 _ (.pointer (some ⟨b, o + j * 3, none⟩)) rfl (by kernel_rfl) (fun _ _ _ h => h) (Or.inl ⟨by kernel_rfl, fun w hw => by obtain ⟨h1, h2, h3, h4, h5⟩ := hw; go_simp⟩) hS ?_
        simp only [qA, qB, qC, Act.put, qD, qE, qF]
        refine tq 6 _ (int i64 p.bar) rfl (by kernel_rfl) (fun _ _ _ h => h) (Or.inl ⟨by kernel_rfl, fun w hw => by obtain ⟨h1, h2, h3, h4, h5⟩ := hw; go_simp⟩) hS ?_
        simp only [qA, qB, qC, Act.put, qD, qE, qF]
        refine tr 7 _ (by kernel_rfl) rfl fun K1 hK => ?_
        go_simp
        refine (HT1.out _ HBW2.out.drew).mono ?_
        rintro e w5 ⟨rfl, hb5⟩
        have hbX : Below wr.heap.size wr w5 := (Below.refl wr.heap.size wr).drew.trans hb5
        have HBX := qh hbX
        have hS2 := KS.out _ hbX
        refine hK.out _ _ hS2 (fun _ => ?_)
        clear hK K1 hS hb5 hbX
        try simp only [qA, qB, qC, Act.put, qD, qE, qF]
        refine tr 8 _ (by kernel_rfl) rfl fun K1 hK => ?_
        go_simp
        refine (HI1.out _).mono ?_
        rintro e w6 ⟨rfl, rfl⟩
        refine hK.out _ _ hS2 (fun _ => ?_)
        clear hK K1
        try simp only [qA, qB, qC, Act.put, qD, qE, qF]
        refine tq 9 _ (.bool false) rfl (by kernel_rfl) (fun _ _ _ h => h) (Or.inl ⟨by kernel_rfl, fun w hw => by obtain ⟨h1, h2, h3, h4, h5⟩ := hw; go_simp⟩) hS2 ?_
        simp only [qA, qB, qC, Act.put, qD, qE, qF]
        refine tq 10 _ (.bool false) rfl (by kernel_rfl) (fun _ _ _ h => h) (Or.inl ⟨by kernel_rfl, fun w hw => by obtain ⟨h1, h2, h3, h4, h5⟩ := hw; go_simp⟩) hS2 ?_
        simp only [qA, qB, qC, Act.put, qD, qE, qF]
        refine tq 11 _ (.agg #[int i64 bars, .slice (some ⟨b, o, none⟩) i cT, vP, vS]) rfl (by kernel_rfl) (fun _ _ _ h => h) (Or.inl ⟨by kernel_rfl, fun w hw => by obtain ⟨h1, h2, h3, h4, h5⟩ := hw; go_simp⟩) hS2 ?_
        simp only [qA, qB, qC, Act.put, qD, qE, qF]
        refine tq 12 _ (int i64 L) rfl (by kernel_rfl) (fun _ _ _ h => h) (Or.inl ⟨by kernel_rfl, fun w hw => by obtain ⟨h1, h2, h3, h4, h5⟩ := hw; go_simp⟩) hS2 ?_
        simp only [qA, qB, qC, Act.put, qD, qE, qF]
        refine tr 13 _ (by kernel_rfl) rfl fun K1 hK => ?_
        go_simp
        refine (HT2.out _ (HBW2.out.trans (HBX.out.mono HBW2.out.size))).mono ?_
        rintro e w8 ⟨rfl, hb8⟩
        have hbY : Below wr.heap.size wr w8 := HBX.out.trans (hb8.mono HBX.out.size)
        have HBY := qh hbY
        have hS3 := KS.out _ hbY
        refine hK.out _ _ hS3 (fun _ => ?_)
        clear hK K1 hS2 hb8 hbY
        try simp only [qA, qB, qC, Act.put, qD, qE, qF]
        refine tr 14 _ (by kernel_rfl) rfl fun K1 hK => ?_
        go_simp
        refine (HI2.out _).mono ?_
        rintro e w9 ⟨rfl, rfl⟩
        refine hK.out _ _ hS3 (fun _ => ?_)
        clear hK K1
        try simp only [qA, qB, qC, Act.put, qD, qE, qF]
        refine tq 15 _ (.bool false) rfl (by kernel_rfl) (fun _ _ _ h => h) (Or.inl ⟨by kernel_rfl, fun w hw => by obtain ⟨h1, h2, h3, h4, h5⟩ := hw; go_simp⟩) hS3 ?_
        simp only [qA, qB, qC, Act.put, qD, qE, qF]
        refine tq 16 _ (.bool false) rfl (by kernel_rfl) (fun _ _ _ h => h) (Or.inl ⟨by kernel_rfl, fun w hw => by obtain ⟨h1, h2, h3, h4, h5⟩ := hw; go_simp⟩) hS3 ?_
        simp only [qA, qB, qC, Act.put, qD, qE, qF]
        refine wpAnyH_done (by kernel_rfl) ?_ _
        refine NoPanic.normal ?_
        clear hS3
        go_wp2_with fail
        go_roundw
        case rel => exact ⟨j1, by omega, by go_num, HSN2, qh (HBN.out _ HBY.out)⟩
        case measure => simp [intOf] <;> omega
    ·obtain rfl : j = i := by omega
     have hji' : ¬ (j : Int) < (j : Int) := by omega
     have HF : Hid (r = true) := qh (by
      rw [← HR.out]
      unfold FD
      rw [HH.out, HTM.out, HSEG.out.2 (fun k hk => hS.out k (by rw [← HN.out]; exact hk))]; rfl)
     clear hB hS
     go_wp2_with fail
     go_ret
     exact ⟨by rw [HF.out]; rfl, HBW2.out⟩
end
section
open Go Go.RowKit Go.Deep
theorem Mj (bars : Int) (ts : List Tmp) (ps : List Pau) (ss : List Con) : DB ⟨bars, ts, ps, ss⟩ = (inB bars 1 4096 && FD bars ts && AW bars (-1) ps && ss.all (C9 bars)) := by
 unfold DB Bv FD Np
 cases ts <;> simp [Bool.and_assoc]
theorem JJ (bars : Int) (ts : List Tmp) (ps : List Pau) (ss : List Con) (aT aP aS : Option Addr) (nT nP nS cT cP cS : Nat) (w : World) (hnT : ts.length = nT) (hnP : ps.length = nP) (hnS : ss.length = nS)
  (hT : IsRow Bq 3 w (.slice aT nT cT) ts) (hP : IsRow Cl 4 w (.slice aP nP cP) ps) (hS : IsRow Ck 4 w (.slice aS nS cS) ss) :
  Calls Tryz.prog 72 #[.agg #[int i64 bars, .slice aT nT cT, .slice aP nP cP, .slice aS nS cS]] w fun e w' => e = .returned (int i64 (BP ⟨bars, ts, ps, ss⟩)) ∧ Below w.heap.size w w' := by
 obtain ⟨r, hr⟩ : ∃ r, BP ⟨bars, ts, ps, ss⟩ = r := ⟨_, rfl⟩
 rw [hr]
 have hlim : BT ⟨bars, ts, ps, ss⟩ = (decide (nT ≤ 4096) && decide (nP ≤ 4096) && decide (nS ≤ 256)) := by unfold BT; rw [← hnT, ← hnP, ← hnS]
 have HR := qh hr; have HLIM := qh hlim
 have HB0 := qh (Mj bars ts ps ss)
 have hno : BT ⟨bars, ts, ps, ss⟩ = false → r = 2 := fun h => by rw [← HR.out]; unfold BP; rw [h]; rfl
 have hbad : BT ⟨bars, ts, ps, ss⟩ = true → DB ⟨bars, ts, ps, ss⟩ = false → r = 130 := fun h h2 => by rw [← HR.out]; unfold BP; rw [h, h2]; rfl
 have hok : BT ⟨bars, ts, ps, ss⟩ = true → DB ⟨bars, ts, ps, ss⟩ = true → r = 0 := fun h h2 => by rw [← HR.out]; unfold BP; rw [h, h2]; rfl
 have HNO := qh hno; have HBAD := qh hbad; have HOK := qh hok
 have hbx := ClkBox.make w bars (.slice aT nT cT) (.slice aP nP cP) (.slice aS nS cS)
 have hbw : Below w.heap.size w (w.alloc (.cells #[int i64 bars, .slice aT nT cT, .slice aP nP cP, .slice aS nS cS] 29)) := (Below.refl _ w).alloc (qn _) _
 have hsz : w.heap.size < (w.alloc (.cells #[int i64 bars, .slice aT nT cT, .slice aP nP cP, .slice aS nS cS] 29)).heap.size := by simp
 have mT : nT ≤ maxLen := by obtain ⟨_, _, _, h, _⟩ := hT; omega
 have mP : nP ≤ maxLen := by obtain ⟨_, _, _, h, _⟩ := hP; omega
 have mS : nS ≤ maxLen := by obtain ⟨_, _, _, h, _⟩ := hS; omega
 simp only [maxLen] at mT mP mS
 have HBW := qh hbw; have HBX := qh hbx
 have HT := qh (fun (W : World) (hb : Below w.heap.size w W) (h1 : 1 ≤ bars) (h2 : bars ≤ 4096) (h3 : nT ≤ 4096) => LD bars h1 h2 (.slice aP nP cP) (.slice aS nS cS) ts aT nT cT W hnT h3 (hT.below hb (qn _)))
 have HP := qh (fun (W : World) (hb : Below w.heap.size w W) (h1 : 1 ≤ bars) (h2 : bars ≤ 4096) => LB bars h1 h2 (.slice aT nT cT) (.slice aS nS cS) ps aP nP cP W hnP (hP.below hb (qn _)))
 have HS := qh (fun (W : World) (hb : Below w.heap.size w W) (h1 : 1 ≤ bars) (h2 : bars ≤ 4096) => MV bars h1 h2 (.slice aT nT cT) (.slice aP nP cP) ss aS nS cS W hnS (hS.below hb (qn _)))
 clear hr hlim hno hbad hok hbw hT hP hS hnT hnP hnS
 obtain ⟨_, c0, c1, c2, c3⟩ := hbx
 by_cases q1 : (4096 : Int) < (nT : Int)
 ·have HF := qh (HNO.out (by rw [HLIM.out, decide_eq_false (show ¬ nT ≤ 4096 by omega)]; rfl))
  go_enter Tryz.func72, Tryz.ntmps72
  go_wp2_with fail
  go_ret
  exact ⟨by rw [HF.out]; rfl, HBW.out⟩
 by_cases q2 : (4096 : Int) < (nP : Int)
 ·have HF := qh (HNO.out (by rw [HLIM.out, decide_eq_false (show ¬ nP ≤ 4096 by omega)]; simp))
  go_enter Tryz.func72, Tryz.ntmps72
  go_wp2_with fail
  go_ret
  exact ⟨by rw [HF.out]; rfl, HBW.out⟩
 by_cases q3 : (256 : Int) < (nS : Int)
 ·have HF := qh (HNO.out (by rw [HLIM.out, decide_eq_false (show ¬ nS ≤ 256 by omega)]; simp))
  go_enter Tryz.func72, Tryz.ntmps72
  go_wp2_with fail
  go_ret
  exact ⟨by rw [HF.out]; rfl, HBW.out⟩
 have HL := qh (show BT ⟨bars, ts, ps, ss⟩ = true by rw [HLIM.out, decide_eq_true (show nT ≤ 4096 by omega), decide_eq_true (show nP ≤ 4096 by omega), decide_eq_true (show nS ≤ 256 by omega)]; rfl)
 have hT3 : nT ≤ 4096 := by omega
 go_enter Tryz.func72, Tryz.ntmps72
 go_wp2_with fail
 clear q1 q2 q3
 generalize w.alloc (.cells #[int i64 bars, .slice aT nT cT, .slice aP nP cP, .slice aS nS cS] 29) = w0 at *
 refine (Cc bars 1 4096 w0).mono ?_
 rintro e w1 ⟨rfl, rfl⟩
 cases b1 : inB bars 1 4096 with
 | false =>
  have HF := qh (HBAD.out HL.out (by rw [HB0.out, b1]; rfl))
  go_wp2_with fail
  go_ret
  exact ⟨by rw [HF.out]; rfl, HBW.out⟩
 | true =>
 have hbb := A4.1 b1
 have B1 := qh b1
 have HTT := qh (HT.out w1 HBW.out hbb.1 hbb.2 hT3)
 clear b1 HT
 go_wp2_with fail
 refine HTT.out.mono ?_
 rintro e w2 ⟨rfl, hb2⟩
 obtain ⟨_, d0, d1, d2, d3⟩ := HBX.out.next (w2 := w2) hsz hb2
 have HX2 := qh (HBX.out.next (w2 := w2) hsz hb2)
 have HB2 := qh (HBW.out.trans (hb2.mono HBW.out.size))
 have hs2 := hb2.size
 clear c0 c1 c2 c3 hb2 HTT
 cases b2 : FD bars ts with
 | false =>
  have HF := qh (HBAD.out HL.out (by rw [HB0.out, b2]; simp))
  go_wp2_with fail
  go_ret
  exact ⟨by rw [HF.out]; rfl, HB2.out⟩
 | true =>
 have B2 := qh b2
 have HPP := qh (HP.out w2 HB2.out hbb.1 hbb.2)
 clear b2 HP
 go_wp2_with fail
 refine HPP.out.mono ?_
 rintro e w3 ⟨rfl, hb3⟩
 obtain ⟨_, c0, c1, c2, c3⟩ := HX2.out.next (w2 := w3) hsz (hb3.mono hs2)
 have HB3 := qh (HB2.out.trans (hb3.mono HB2.out.size))
 clear d0 d1 d2 d3 hb3 HPP
 cases b3 : AW bars (-1) ps with
 | false =>
  have HF := qh (HBAD.out HL.out (by rw [HB0.out, b3]; simp))
  go_wp2_with fail
  go_ret
  exact ⟨by rw [HF.out]; rfl, HB3.out⟩
 | true =>
 have B3 := qh b3
 have HSS := qh (HS.out w3 HB3.out hbb.1 hbb.2)
 clear b3 HS
 go_wp2_with fail
 refine HSS.out.mono ?_
 rintro e w4 ⟨rfl, hb4⟩
 have HB4 := qh (HB3.out.trans (hb4.mono HB3.out.size))
 clear c0 c1 c2 c3 hb4 HSS
 cases b4 : ss.all (C9 bars) with
 | false =>
  have HF := qh (HBAD.out HL.out (by rw [HB0.out, b4]; simp))
  go_wp2_with fail
  go_ret
  exact ⟨by rw [HF.out]; rfl, HB4.out⟩
 | true =>
  have HF := qh (HOK.out HL.out (by rw [HB0.out, B1.out, B2.out, B3.out, b4]; rfl))
  go_wp2_with fail
  go_ret
  exact ⟨by rw [HF.out]; rfl, HB4.out⟩
end
section
open Go Go.RowKit Go.Deep
theorem AA {n lo hi : Int} {v : Bool} (h : inB n lo hi = v) (w : World) : Calls Tryz.prog 104 #[int i64 n, int i64 lo, int i64 hi] w fun e w' => e = .returned (.bool v) ∧ w' = w := by
 have := Pi n lo hi w; rwa [h] at this
section
variable (id role bar mark side dir level size wth fn fd tn td roles : Int) (w : World)
theorem BD (o1 o2 : Obj) : Below w.heap.size w ((w.alloc o1).alloc o2) := ((Below.refl _ w).alloc (qn _) _).alloc (by simp) _
theorem NN : Calls Tryz.prog 106 #[.agg #[int i64 id, int i64 role, int i64 bar, int i64 mark, int i64 1, int i64 side, int i64 dir, int i64 level, int i64 size, int i64 wth, int i64 fn, int i64 fd, int i64 tn, int i64 td], int i64 roles] w fun e w' => e = .returned (.bool (Ac ⟨id, role, bar, mark, 1, side, dir, level, size, wth, fn, fd, tn, td⟩ roles)) ∧ Below w.heap.size w w' := by
 have hr : Ac ⟨id, role, bar, mark, 1, side, dir, level, size, wth, fn, fd, tn, td⟩ roles = (inB side 1 2 && inB dir 1 8 && inB size 1 16 && Aq 0 0 level 0 wth) := by
  simp only [Ac, Aq]
  by_cases h0 : level = 0 <;> by_cases h1 : wth = 0 <;> cases inB side 1 2 <;> cases inB dir 1 8 <;> cases inB size 1 16 <;> simp [h0, h1]
 have hq := fun w => CW 0 0 level 0 wth w
 have HR := qh hr
 rw [hr]
 clear hr
 have hc : inB side 1 2 = false ∨ inB side 1 2 = true ∧ (inB dir 1 8 = false ∨ inB dir 1 8 = true ∧ (inB size 1 16 = false ∨ inB size 1 16 = true ∧ (Aq 0 0 level 0 wth = false ∨ Aq 0 0 level 0 wth = true))) := by
  cases inB side 1 2 <;> cases inB dir 1 8 <;> cases inB size 1 16 <;> cases Aq 0 0 level 0 wth <;> simp
 rcases hc with q0 | ⟨q0, q1 | ⟨q1, q2 | ⟨q2, q9 | q9⟩⟩⟩
 all_goals
  try simp only [q9] at hq
  go_enter Tryz.func106, Tryz.ntmps106
  go_wp2_with (go_at_call 104; refine (AA (by assumption) _).mono ?_; rintro e w' ⟨rfl, rfl⟩)
  go_ret
  exact ⟨by simp [*], BD w _ _⟩
theorem Pk : Calls Tryz.prog 106 #[.agg #[int i64 id, int i64 role, int i64 bar, int i64 mark, int i64 2, int i64 side, int i64 dir, int i64 level, int i64 size, int i64 wth, int i64 fn, int i64 fd, int i64 tn, int i64 td], int i64 roles] w fun e w' => e = .returned (.bool (Ac ⟨id, role, bar, mark, 2, side, dir, level, size, wth, fn, fd, tn, td⟩ roles)) ∧ Below w.heap.size w w' := by
 have hr : Ac ⟨id, role, bar, mark, 2, side, dir, level, size, wth, fn, fd, tn, td⟩ roles = (inB dir 1 8 && inB size 1 16 && Aq side 0 level 0 wth) := by
  simp only [Ac, Aq]
  by_cases h0 : side = 0 <;> by_cases h1 : level = 0 <;> by_cases h2 : wth = 0 <;> cases inB dir 1 8 <;> cases inB size 1 16 <;> simp [h0, h1, h2]
 have hq := fun w => CW side 0 level 0 wth w
 have HR := qh hr
 rw [hr]
 clear hr
 have hc : inB dir 1 8 = false ∨ inB dir 1 8 = true ∧ (inB size 1 16 = false ∨ inB size 1 16 = true ∧ (Aq side 0 level 0 wth = false ∨ Aq side 0 level 0 wth = true)) := by
  cases inB dir 1 8 <;> cases inB size 1 16 <;> cases Aq side 0 level 0 wth <;> simp
 rcases hc with q0 | ⟨q0, q1 | ⟨q1, q9 | q9⟩⟩
 all_goals
  try simp only [q9] at hq
  go_enter Tryz.func106, Tryz.ntmps106
  go_wp2_with (go_at_call 104; refine (AA (by assumption) _).mono ?_; rintro e w' ⟨rfl, rfl⟩)
  go_ret
  exact ⟨by simp [*], BD w _ _⟩
theorem NL : Calls Tryz.prog 106 #[.agg #[int i64 id, int i64 role, int i64 bar, int i64 mark, int i64 3, int i64 side, int i64 dir, int i64 level, int i64 size, int i64 wth, int i64 fn, int i64 fd, int i64 tn, int i64 td], int i64 roles] w fun e w' => e = .returned (.bool (Ac ⟨id, role, bar, mark, 3, side, dir, level, size, wth, fn, fd, tn, td⟩ roles)) ∧ Below w.heap.size w w' := by
 have hr : Ac ⟨id, role, bar, mark, 3, side, dir, level, size, wth, fn, fd, tn, td⟩ roles = (inB side 1 2 && inB dir 0 8 && inB level 1 3 && Aq 0 0 0 size wth) := by
  simp only [Ac, Aq]
  by_cases h0 : size = 0 <;> by_cases h1 : wth = 0 <;> cases inB side 1 2 <;> cases inB dir 0 8 <;> cases inB level 1 3 <;> simp [h0, h1]
 have hq := fun w => CW 0 0 0 size wth w
 have HR := qh hr
 rw [hr]
 clear hr
 have hc : inB side 1 2 = false ∨ inB side 1 2 = true ∧ (inB dir 0 8 = false ∨ inB dir 0 8 = true ∧ (inB level 1 3 = false ∨ inB level 1 3 = true ∧ (Aq 0 0 0 size wth = false ∨ Aq 0 0 0 size wth = true))) := by
  cases inB side 1 2 <;> cases inB dir 0 8 <;> cases inB level 1 3 <;> cases Aq 0 0 0 size wth <;> simp
 rcases hc with q0 | ⟨q0, q1 | ⟨q1, q2 | ⟨q2, q9 | q9⟩⟩⟩
 all_goals
  try simp only [q9] at hq
  go_enter Tryz.func106, Tryz.ntmps106
  go_wp2_with (go_at_call 104; refine (AA (by assumption) _).mono ?_; rintro e w' ⟨rfl, rfl⟩)
  go_ret
  exact ⟨by simp [*], BD w _ _⟩
theorem OH : Calls Tryz.prog 106 #[.agg #[int i64 id, int i64 role, int i64 bar, int i64 mark, int i64 4, int i64 side, int i64 dir, int i64 level, int i64 size, int i64 wth, int i64 fn, int i64 fd, int i64 tn, int i64 td], int i64 roles] w fun e w' => e = .returned (.bool (Ac ⟨id, role, bar, mark, 4, side, dir, level, size, wth, fn, fd, tn, td⟩ roles)) ∧ Below w.heap.size w w' := by
 have hr : Ac ⟨id, role, bar, mark, 4, side, dir, level, size, wth, fn, fd, tn, td⟩ roles = (inB side 1 2 && inB dir 0 8 && inB level 1 3 && Aq 0 0 0 size wth) := by
  simp only [Ac, Aq]
  by_cases h0 : size = 0 <;> by_cases h1 : wth = 0 <;> cases inB side 1 2 <;> cases inB dir 0 8 <;> cases inB level 1 3 <;> simp [h0, h1]
 have hq := fun w => CW 0 0 0 size wth w
 have HR := qh hr
 rw [hr]
 clear hr
 have hc : inB side 1 2 = false ∨ inB side 1 2 = true ∧ (inB dir 0 8 = false ∨ inB dir 0 8 = true ∧ (inB level 1 3 = false ∨ inB level 1 3 = true ∧ (Aq 0 0 0 size wth = false ∨ Aq 0 0 0 size wth = true))) := by
  cases inB side 1 2 <;> cases inB dir 0 8 <;> cases inB level 1 3 <;> cases Aq 0 0 0 size wth <;> simp
 rcases hc with q0 | ⟨q0, q1 | ⟨q1, q2 | ⟨q2, q9 | q9⟩⟩⟩
 all_goals
  try simp only [q9] at hq
  go_enter Tryz.func106, Tryz.ntmps106
  go_wp2_with (go_at_call 104; refine (AA (by assumption) _).mono ?_; rintro e w' ⟨rfl, rfl⟩)
  go_ret
  exact ⟨by simp [*], BD w _ _⟩
theorem Ox : Calls Tryz.prog 106 #[.agg #[int i64 id, int i64 role, int i64 bar, int i64 mark, int i64 5, int i64 side, int i64 dir, int i64 level, int i64 size, int i64 wth, int i64 fn, int i64 fd, int i64 tn, int i64 td], int i64 roles] w fun e w' => e = .returned (.bool (Ac ⟨id, role, bar, mark, 5, side, dir, level, size, wth, fn, fd, tn, td⟩ roles)) ∧ Below w.heap.size w w' := by
 have hr : Ac ⟨id, role, bar, mark, 5, side, dir, level, size, wth, fn, fd, tn, td⟩ roles = (inB dir 0 8 && inB level 1 3 && Aq side 0 0 size wth) := by
  simp only [Ac, Aq]
  by_cases h0 : side = 0 <;> by_cases h1 : size = 0 <;> by_cases h2 : wth = 0 <;> cases inB dir 0 8 <;> cases inB level 1 3 <;> simp [h0, h1, h2]
 have hq := fun w => CW side 0 0 size wth w
 have HR := qh hr
 rw [hr]
 clear hr
 have hc : inB dir 0 8 = false ∨ inB dir 0 8 = true ∧ (inB level 1 3 = false ∨ inB level 1 3 = true ∧ (Aq side 0 0 size wth = false ∨ Aq side 0 0 size wth = true)) := by
  cases inB dir 0 8 <;> cases inB level 1 3 <;> cases Aq side 0 0 size wth <;> simp
 rcases hc with q0 | ⟨q0, q1 | ⟨q1, q9 | q9⟩⟩
 all_goals
  try simp only [q9] at hq
  go_enter Tryz.func106, Tryz.ntmps106
  go_wp2_with (go_at_call 104; refine (AA (by assumption) _).mono ?_; rintro e w' ⟨rfl, rfl⟩)
  go_ret
  exact ⟨by simp [*], BD w _ _⟩
theorem Pd : Calls Tryz.prog 106 #[.agg #[int i64 id, int i64 role, int i64 bar, int i64 mark, int i64 6, int i64 side, int i64 dir, int i64 level, int i64 size, int i64 wth, int i64 fn, int i64 fd, int i64 tn, int i64 td], int i64 roles] w fun e w' => e = .returned (.bool (Ac ⟨id, role, bar, mark, 6, side, dir, level, size, wth, fn, fd, tn, td⟩ roles)) ∧ Below w.heap.size w w' := by
 have hr : Ac ⟨id, role, bar, mark, 6, side, dir, level, size, wth, fn, fd, tn, td⟩ roles = (inB size 1 7 && Aq side dir level 0 wth) := by
  simp only [Ac, Aq]
  by_cases h0 : side = 0 <;> by_cases h1 : dir = 0 <;> by_cases h2 : level = 0 <;> by_cases h3 : wth = 0 <;> cases inB size 1 7 <;> simp [h0, h1, h2, h3]
 have hq := fun w => CW side dir level 0 wth w
 have HR := qh hr
 rw [hr]
 clear hr
 have hc : inB size 1 7 = false ∨ inB size 1 7 = true ∧ (Aq side dir level 0 wth = false ∨ Aq side dir level 0 wth = true) := by
  cases inB size 1 7 <;> cases Aq side dir level 0 wth <;> simp
 rcases hc with q0 | ⟨q0, q9 | q9⟩
 all_goals
  try simp only [q9] at hq
  go_enter Tryz.func106, Tryz.ntmps106
  go_wp2_with (go_at_call 104; refine (AA (by assumption) _).mono ?_; rintro e w' ⟨rfl, rfl⟩)
  go_ret
  exact ⟨by simp [*], BD w _ _⟩
theorem Op : Calls Tryz.prog 106 #[.agg #[int i64 id, int i64 role, int i64 bar, int i64 mark, int i64 7, int i64 side, int i64 dir, int i64 level, int i64 size, int i64 wth, int i64 fn, int i64 fd, int i64 tn, int i64 td], int i64 roles] w fun e w' => e = .returned (.bool (Ac ⟨id, role, bar, mark, 7, side, dir, level, size, wth, fn, fd, tn, td⟩ roles)) ∧ Below w.heap.size w w' := by
 have hr : Ac ⟨id, role, bar, mark, 7, side, dir, level, size, wth, fn, fd, tn, td⟩ roles = (inB wth 1 roles && Aq side dir level size 0) := by
  simp only [Ac, Aq]
  by_cases h0 : side = 0 <;> by_cases h1 : dir = 0 <;> by_cases h2 : level = 0 <;> by_cases h3 : size = 0 <;> cases inB wth 1 roles <;> simp [h0, h1, h2, h3]
 have hq := fun w => CW side dir level size 0 w
 have HR := qh hr
 rw [hr]
 clear hr
 have hc : inB wth 1 roles = false ∨ inB wth 1 roles = true ∧ (Aq side dir level size 0 = false ∨ Aq side dir level size 0 = true) := by
  cases inB wth 1 roles <;> cases Aq side dir level size 0 <;> simp
 rcases hc with q0 | ⟨q0, q9 | q9⟩
 all_goals
  try simp only [q9] at hq
  go_enter Tryz.func106, Tryz.ntmps106
  go_wp2_with (go_at_call 104; refine (AA (by assumption) _).mono ?_; rintro e w' ⟨rfl, rfl⟩)
  go_ret
  exact ⟨by simp [*], BD w _ _⟩
theorem Pb : Calls Tryz.prog 106 #[.agg #[int i64 id, int i64 role, int i64 bar, int i64 mark, int i64 8, int i64 side, int i64 dir, int i64 level, int i64 size, int i64 wth, int i64 fn, int i64 fd, int i64 tn, int i64 td], int i64 roles] w fun e w' => e = .returned (.bool (Ac ⟨id, role, bar, mark, 8, side, dir, level, size, wth, fn, fd, tn, td⟩ roles)) ∧ Below w.heap.size w w' := by
 have hr : Ac ⟨id, role, bar, mark, 8, side, dir, level, size, wth, fn, fd, tn, td⟩ roles = (inB wth 1 roles && Aq side dir level size 0) := by
  simp only [Ac, Aq]
  by_cases h0 : side = 0 <;> by_cases h1 : dir = 0 <;> by_cases h2 : level = 0 <;> by_cases h3 : size = 0 <;> cases inB wth 1 roles <;> simp [h0, h1, h2, h3]
 have hq := fun w => CW side dir level size 0 w
 have HR := qh hr
 rw [hr]
 clear hr
 have hc : inB wth 1 roles = false ∨ inB wth 1 roles = true ∧ (Aq side dir level size 0 = false ∨ Aq side dir level size 0 = true) := by
  cases inB wth 1 roles <;> cases Aq side dir level size 0 <;> simp
 rcases hc with q0 | ⟨q0, q9 | q9⟩
 all_goals
  try simp only [q9] at hq
  go_enter Tryz.func106, Tryz.ntmps106
  go_wp2_with (go_at_call 104; refine (AA (by assumption) _).mono ?_; rintro e w' ⟨rfl, rfl⟩)
  go_ret
  exact ⟨by simp [*], BD w _ _⟩
theorem OP : Calls Tryz.prog 106 #[.agg #[int i64 id, int i64 role, int i64 bar, int i64 mark, int i64 9, int i64 side, int i64 dir, int i64 level, int i64 size, int i64 wth, int i64 fn, int i64 fd, int i64 tn, int i64 td], int i64 roles] w fun e w' => e = .returned (.bool (Ac ⟨id, role, bar, mark, 9, side, dir, level, size, wth, fn, fd, tn, td⟩ roles)) ∧ Below w.heap.size w w' := by
 have hr : Ac ⟨id, role, bar, mark, 9, side, dir, level, size, wth, fn, fd, tn, td⟩ roles = (inB side 1 2 && inB level 1 3 && Aq 0 dir 0 size wth) := by
  simp only [Ac, Aq]
  by_cases h0 : dir = 0 <;> by_cases h1 : size = 0 <;> by_cases h2 : wth = 0 <;> cases inB side 1 2 <;> cases inB level 1 3 <;> simp [h0, h1, h2]
 have hq := fun w => CW 0 dir 0 size wth w
 have HR := qh hr
 rw [hr]
 clear hr
 have hc : inB side 1 2 = false ∨ inB side 1 2 = true ∧ (inB level 1 3 = false ∨ inB level 1 3 = true ∧ (Aq 0 dir 0 size wth = false ∨ Aq 0 dir 0 size wth = true)) := by
  cases inB side 1 2 <;> cases inB level 1 3 <;> cases Aq 0 dir 0 size wth <;> simp
 rcases hc with q0 | ⟨q0, q1 | ⟨q1, q9 | q9⟩⟩
 all_goals
  try simp only [q9] at hq
  go_enter Tryz.func106, Tryz.ntmps106
  go_wp2_with (go_at_call 104; refine (AA (by assumption) _).mono ?_; rintro e w' ⟨rfl, rfl⟩)
  go_ret
  exact ⟨by simp [*], BD w _ _⟩
theorem MU (kind : Int) (hk : ¬ (1 ≤ kind ∧ kind ≤ 9)) : Calls Tryz.prog 106 #[.agg #[int i64 id, int i64 role, int i64 bar, int i64 mark, int i64 kind, int i64 side, int i64 dir, int i64 level, int i64 size, int i64 wth, int i64 fn, int i64 fd, int i64 tn, int i64 td], int i64 roles] w fun e w' => e = .returned (.bool (Ac ⟨id, role, bar, mark, kind, side, dir, level, size, wth, fn, fd, tn, td⟩ roles)) ∧ Below w.heap.size w w' := by
 have hr : Ac ⟨id, role, bar, mark, kind, side, dir, level, size, wth, fn, fd, tn, td⟩ roles = false := by
  simp only [Ac]
  rw [if_neg (by omega), if_neg (by omega), if_neg (by omega), if_neg (by omega), if_neg (by omega), if_neg (by omega), if_neg (by omega)]
 rw [hr]
 clear hr
 have f1 : (kind == 1) = false := by simp; omega
 have f2 : (kind == 2) = false := by simp; omega
 have f3 : (kind == 3) = false := by simp; omega
 have f4 : (kind == 4) = false := by simp; omega
 have f5 : (kind == 5) = false := by simp; omega
 have f6 : (kind == 6) = false := by simp; omega
 have f7 : (kind == 7) = false := by simp; omega
 have f8 : (kind == 8) = false := by simp; omega
 have f9 : (kind == 9) = false := by simp; omega
 clear hk
 go_enter Tryz.func106, Tryz.ntmps106
 go_wp2_with fail
 go_ret
 exact ⟨rfl, BD w _ _⟩
end
theorem LU (s : Sgn) (roles : Int) (w : World) : Calls Tryz.prog 106 #[.agg (AR s), int i64 roles] w fun e w' => e = .returned (.bool (Ac s roles)) ∧ Below w.heap.size w w' := by
 obtain ⟨id, role, bar, mark, kind, side, dir, level, size, wth, fn, fd, tn, td⟩ := s
 unfold AR
 by_cases hk : 1 ≤ kind ∧ kind ≤ 9
 ·have : kind = 1 ∨ kind = 2 ∨ kind = 3 ∨ kind = 4 ∨ kind = 5 ∨ kind = 6 ∨ kind = 7 ∨ kind = 8 ∨ kind = 9 := by omega
  rcases this with rfl | rfl | rfl | rfl | rfl | rfl | rfl | rfl | rfl
  ·exact NN id role bar mark side dir level size wth fn fd tn td roles w
  ·exact Pk id role bar mark side dir level size wth fn fd tn td roles w
  ·exact NL id role bar mark side dir level size wth fn fd tn td roles w
  ·exact OH id role bar mark side dir level size wth fn fd tn td roles w
  ·exact Ox id role bar mark side dir level size wth fn fd tn td roles w
  ·exact Pd id role bar mark side dir level size wth fn fd tn td roles w
  ·exact Op id role bar mark side dir level size wth fn fd tn td roles w
  ·exact Pb id role bar mark side dir level size wth fn fd tn td roles w
  ·exact OP id role bar mark side dir level size wth fn fd tn td roles w
 ·exact MU id role bar mark side dir level size wth fn fd tn td roles w kind hk
end
end Go.Proofs.YtggcbblikgankaaGreatDoor
