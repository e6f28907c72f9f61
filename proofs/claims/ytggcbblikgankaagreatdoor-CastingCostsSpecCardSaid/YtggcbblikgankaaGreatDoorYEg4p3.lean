/- The walk of the statement: part 3. -/
import Derived.Test.YtggcbblikgankaaGreatDoorZ23
import Derived.Test.YtggcbblikgankaaGreatDoorYEg4p1
import Derived.Test.YtggcbblikgankaaGreatDoorZ28
import Derived.Test.YtggcbblikgankaaGreatDoorZ3
set_option linter.unusedVariables false
set_option linter.unusedSimpArgs false
set_option maxRecDepth 100000
set_option maxHeartbeats 16000000
namespace Go.Proofs.YtggcbblikgankaaGreatDoor
open Go.Value (int)
open Go.IntKind (i64)
section
open Go Go.RowKit Go.Deep
theorem Q8 (n : Nat) : cls n = 2 ↔ (97 ≤ n ∧ n ≤ 122) ∨ (65 ≤ n ∧ n ≤ 90) := by
 constructor
 ·intro h; unfold cls at h
  split at h
  ·assumption
  split at h
  ·omega
  split at h
  ·omega
  split at h
  ·omega
  split at h <;> omega
 ·exact Iy
theorem Qp (n : Nat) : cls n = 3 ↔ 48 ≤ n ∧ n ≤ 57 := by
 constructor
 ·intro h; unfold cls at h
  split at h
  ·omega
  split at h
  ·assumption
  split at h
  ·omega
  split at h
  ·omega
  split at h <;> omega
 ·exact Jq
theorem QC (n : Nat) : cls n = 5 ↔ n = 95 := by
 constructor
 ·intro h; unfold cls at h
  split at h
  ·omega
  split at h
  ·omega
  split at h
  ·assumption
  split at h
  ·omega
  split at h <;> omega
 ·exact Kw
theorem BZ (n : Nat) (w : World) :
  Calls Tryz.prog 108 #[.int .u8 n] w fun e w' => e = .returned (.bool (cls n == 2)) ∧ w = w' := by
 have H2 := qh (Q8 n)
 go_enter Tryz.func108, Tryz.ntmps108
 go_wp2_with fail
 all_goals
  go_ret
  refine ⟨Aa ?_, rfl⟩
  rw [Bool.eq_iff_iff, beq_iff_eq, H2.out]; simp; omega
theorem IH (n : Nat) (w : World) :
  Calls Tryz.prog 128 #[.int .u8 n] w fun e w' => e = .returned (.bool (cls n == 3)) ∧ w = w' := by
 have H2 := qh (Qp n)
 go_enter Tryz.func128, Tryz.ntmps128
 go_wp2_with fail
 all_goals
  go_ret
  refine ⟨Aa ?_, rfl⟩
  rw [Bool.eq_iff_iff, beq_iff_eq, H2.out]; simp; omega
theorem Gw (n : Nat) (w : World) :
  Calls Tryz.prog 109 #[.int .u8 n] w fun e w' => e = .returned (.bool (cls n == 2 || cls n == 3 || cls n == 5)) ∧ w = w' := by
 have H2 := qh (QC n)
 go_enter Tryz.func109, Tryz.ntmps109
 go_wp2_with (first | (go_at_call 108; refine (BZ _ _).mono ?_; rintro e w' ⟨rfl, rfl⟩) | (go_at_call 128; refine (IH _ _).mono ?_; rintro e w' ⟨rfl, rfl⟩))
 all_goals
  go_ret
  refine ⟨Aa ?_, rfl⟩
  have h5 := H2.out
  rw [Bool.eq_iff_iff]; simp at *; omega
theorem P5 (s : ByteArray) (w : World) (hs : s.size ≤ maxLen) :
  Calls Tryz.prog 74 #[.string s] w fun e w' => e = .returned (.bool (BW s.data.toList)) ∧ w = w' := by
 unfold maxLen at hs
 have hsz : s.data.toList.length = s.size := by simp
 have HZ := qh hsz; clear hsz
 by_cases hpos : 0 < s.size
 ·by_cases h32 : s.size ≤ 32
  ·by_cases hc : (cls s[0].toNat == 2) = true
   ·have HC := qh hc
    go_enter Tryz.func74, Tryz.ntmps74
    go_wp2_with (go_at_call 108; refine (BZ _ _).mono ?_; rintro e w' ⟨rfl, rfl⟩)
    go_loop [3] (fun i => ∃ k : Nat, k ≤ s.size ∧ i = int i64 k ∧ Hid ((s.data.toList.take k).all E0 = true)) (fun i => s.size - (intOf i).toNat)
    case atStart => exact ⟨0, Nat.zero_le _, rfl, by simp [Hid]⟩
    case round =>
     obtain ⟨k, hk, rfl, hall⟩ := hrel
     by_cases hlt : k < s.size
     ·have hb := qh (BN s k hlt)
      by_cases hp : (cls s[k].toNat == 2 || cls s[k].toNat == 3 || cls s[k].toNat == 5) = true
      ·have HP := qh hp
       go_wp2_with (go_at_call 109; refine (Gw _ _).mono ?_; rintro e w' ⟨rfl, rfl⟩)
       go_round
       case rel => exact ⟨k + 1, by omega, by go_num, qh (Fw hb.out hall.out (by have := HP.out; simpa [or_assoc] using this))⟩
       case measure => simp [intOf]; omega
      ·have hp' : (cls s[k].toNat == 2 || cls s[k].toNat == 3 || cls s[k].toNat == 5) = false := by simpa using hp
       have HP := qh hp'; clear hp
       go_wp2_with (go_at_call 109; refine (Gw _ _).mono ?_; rintro e w' ⟨rfl, rfl⟩)
       go_ret
       have hq := HP.out
       simp at hq
       exact ⟨Aa (Gv hb.out hq.1.1 hq.1.2 hq.2).symm, rfl⟩
     ·go_wp2
      go_ret
      refine ⟨Aa (Gk (BN s 0 hpos) (by have := HC.out; simpa using this) (by rw [HZ.out]; omega) ?_).symm, rfl⟩
      have := hall.out
      rwa [List.take_of_length_le (by rw [HZ.out]; omega)] at this
   ·have hc' : (cls s[0].toNat == 2) = false := by simpa using hc
    have HC := qh hc'; clear hc
    go_enter Tryz.func74, Tryz.ntmps74
    go_wp2_with (go_at_call 108; refine (BZ _ _).mono ?_; rintro e w' ⟨rfl, rfl⟩)
    go_ret
    exact ⟨Aa (Gr (BN s 0 hpos) (by simpa using HC.out)).symm, rfl⟩
  ·go_enter Tryz.func74, Tryz.ntmps74
   go_wp2_with (go_at_call 108; refine (BZ _ _).mono ?_; rintro e w' ⟨rfl, rfl⟩)
   go_ret
   exact ⟨Aa (Gp (by rw [HZ.out]; omega)).symm, rfl⟩
 ·have he := Ig (s := s) (by omega)
  go_enter Tryz.func74, Tryz.ntmps74
  go_wp2_with (go_at_call 108; refine (BZ _ _).mono ?_; rintro e w' ⟨rfl, rfl⟩)
  go_ret
  exact ⟨Aa (FA (by rw [← ByteArray.toList_eq]; exact he)).symm, rfl⟩
theorem O6 (n lo hi : Int) (w : World) : Calls Tryz.prog 75 #[int i64 n, int i64 lo, int i64 hi] w fun e w' => e = .returned (.bool (inB n lo hi)) ∧ w' = w := by
 go_enter Tryz.func75, Tryz.ntmps75
 go_wp2
 all_goals
  go_ret
  refine ⟨Aa ?_, rfl⟩
  unfold inB
  rw [Bool.eq_iff_iff]; simp; omega
theorem AZ {n lo hi : Int} {v : Bool} (h : inB n lo hi = v) (w : World) : Calls Tryz.prog 75 #[int i64 n, int i64 lo, int i64 hi] w fun e w' => e = .returned (.bool v) ∧ w' = w := by
 have := O6 n lo hi w; rwa [h] at this
def DU (x y z hi : Int) : Bool := inB x 1 hi && inB y 1 hi && inB z 1 hi
theorem F8 (x y z hi : Int) (w : World) : Calls Tryz.prog 76 #[.agg #[int i64 x, int i64 y, int i64 z], int i64 hi] w fun e w' => e = .returned (.bool (DU x y z hi)) ∧ Below w.heap.size w w' := by
 have hb : ∀ o1, Below w.heap.size w (w.alloc o1) := fun o1 => (Below.refl _ w).alloc (qn _) _
 have HB := qh hb; clear hb
 unfold DU
 cases qx : inB x 1 hi with
 | false =>
  go_enter Tryz.func76, Tryz.ntmps76
  go_wp2_with (go_at_call 75; refine (AZ (by assumption) _).mono ?_; rintro e w' ⟨rfl, rfl⟩)
  go_ret
  exact ⟨rfl, HB.out _⟩
 | true =>
 cases qy : inB y 1 hi with
 | false =>
  go_enter Tryz.func76, Tryz.ntmps76
  go_wp2_with (go_at_call 75; refine (AZ (by assumption) _).mono ?_; rintro e w' ⟨rfl, rfl⟩)
  go_ret
  exact ⟨rfl, HB.out _⟩
 | true =>
 cases qz : inB z 1 hi with
 | false =>
  go_enter Tryz.func76, Tryz.ntmps76
  go_wp2_with (go_at_call 75; refine (AZ (by assumption) _).mono ?_; rintro e w' ⟨rfl, rfl⟩)
  go_ret
  exact ⟨rfl, HB.out _⟩
 | true =>
 go_enter Tryz.func76, Tryz.ntmps76
 go_wp2_with (go_at_call 75; refine (AZ (by assumption) _).mono ?_; rintro e w' ⟨rfl, rfl⟩)
 go_ret
 exact ⟨rfl, HB.out _⟩
theorem R5 (b : Bod) : AG b = (BW b.name && inB b.weight 1 500 && inB b.lift 0 500 && inB b.girth 1 4 && inB b.step 1 16 && inB b.jump 0 16 && DU b.r0 b.r1 b.r2 8 && DU b.s0 b.s1 b.s2 1048576 && DU b.t0 b.t1 b.t2 3 && inB b.effort 0 1048576 && inB b.recover 0 1048576) := by
 rw [Bool.eq_iff_iff]
 simp only [AG, Ev, DU, Bool.and_eq_true, List.all_eq_true, List.mem_range]
 constructor
 ·rintro ⟨⟨⟨⟨⟨h1, h2⟩, h3⟩, h4⟩, h5⟩, h6⟩
  have a0 := h6 0 (by omega); have a1 := h6 1 (by omega); have a2 := h6 2 (by omega); have a3 := h6 3 (by omega); have a4 := h6 4 (by omega); have a5 := h6 5 (by omega)
  simp [Bf, AN, IP, IR] at a0 a1 a2 a3 a4 a5 h4
  simp_all
 ·intro h
  refine ⟨⟨⟨⟨⟨?_, ?_⟩, ?_⟩, ?_⟩, ?_⟩, fun k hk => ?_⟩
  ·simp_all
  ·simp_all
  ·simp_all
  ·simp_all
  ·simp_all
  ·have : k = 0 ∨ k = 1 ∨ k = 2 ∨ k = 3 ∨ k = 4 ∨ k = 5 := by omega
   rcases this with rfl | rfl | rfl | rfl | rfl | rfl <;> simp_all [Bf, AN, IP, IR]
theorem L5 (b : Bod) (hn : b.name.length ≤ maxLen) (w : World) : Calls Tryz.prog 37 #[Bh b] w fun e w' => e = .returned (int i64 (AP (AG b) 250)) ∧ Below w.heap.size w w' := by
 have hnm := fun w => P5 ⟨b.name.toArray⟩ w (by show b.name.toArray.size ≤ _; simpa using hn)
 simp only [List.toList_toArray] at hnm
 have HNM := qh hnm; clear hnm hn
 obtain ⟨r, hr⟩ : ∃ r, AP (AG b) 250 = r := ⟨_, rfl⟩
 rw [hr]
 have hR := R5 b
 have hF : AG b = false → r = 250 := fun h => by rw [← hr, h]; rfl
 have hT : AG b = true → r = 0 := fun h => by rw [← hr, h]; rfl
 have HR := qh hR; have HF := qh hF; have HT := qh hT
 clear hr hR hF hT
 have hb0 : Below w.heap.size w (w.alloc (.cells #[.string ⟨b.name.toArray⟩, int i64 b.weight, int i64 b.lift, int i64 b.girth, int i64 b.step, int i64 b.jump, int i64 b.r0, int i64 b.r1, int i64 b.r2, int i64 b.s0, int i64 b.s1, int i64 b.s2, int i64 b.t0, int i64 b.t1, int i64 b.t2, int i64 b.effort, int i64 b.recover] 35)) := (Below.refl _ w).alloc (qn _) _
 have hg0 := heap_alloc_new w (.cells #[.string ⟨b.name.toArray⟩, int i64 b.weight, int i64 b.lift, int i64 b.girth, int i64 b.step, int i64 b.jump, int i64 b.r0, int i64 b.r1, int i64 b.r2, int i64 b.s0, int i64 b.s1, int i64 b.s2, int i64 b.t0, int i64 b.t1, int i64 b.t2, int i64 b.effort, int i64 b.recover] 35)
 have CC : Hid (∀ W, Below (w.heap.size + 1) (w.alloc (.cells #[.string ⟨b.name.toArray⟩, int i64 b.weight, int i64 b.lift, int i64 b.girth, int i64 b.step, int i64 b.jump, int i64 b.r0, int i64 b.r1, int i64 b.r2, int i64 b.s0, int i64 b.s1, int i64 b.s2, int i64 b.t0, int i64 b.t1, int i64 b.t2, int i64 b.effort, int i64 b.recover] 35)) W → W.heap[w.heap.size]? = some (.cells #[.string ⟨b.name.toArray⟩, int i64 b.weight, int i64 b.lift, int i64 b.girth, int i64 b.step, int i64 b.jump, int i64 b.r0, int i64 b.r1, int i64 b.r2, int i64 b.s0, int i64 b.s1, int i64 b.s2, int i64 b.t0, int i64 b.t1, int i64 b.t2, int i64 b.effort, int i64 b.recover] 35 (0, 0))) := qh fun W h => (h.block w.heap.size (by omega)).trans hg0
 have hs1 : (w.alloc (.cells #[.string ⟨b.name.toArray⟩, int i64 b.weight, int i64 b.lift, int i64 b.girth, int i64 b.step, int i64 b.jump, int i64 b.r0, int i64 b.r1, int i64 b.r2, int i64 b.s0, int i64 b.s1, int i64 b.s2, int i64 b.t0, int i64 b.t1, int i64 b.t2, int i64 b.effort, int i64 b.recover] 35)).heap.size = w.heap.size + 1 := by simp
 have HB0 := qh hb0; have HG0 := qh hg0; have HS1 := qh hs1
 clear hb0 hg0 hs1
 unfold Bh
 cases q0 : BW b.name with
 | false =>
  rw [q0] at HNM
  obtain rfl : r = 250 := HF.out (by rw [HR.out, q0]; simp)
  clear q0 CC HG0 HS1
  go_enter Tryz.func37, Tryz.ntmps37
  go_wp2_with (first | (go_at_call 74; refine (HNM.out _).mono ?_; rintro e w' ⟨rfl, rfl⟩) | (go_at_call 75; refine (AZ (by assumption) _).mono ?_; rintro e w' ⟨rfl, rfl⟩))
  go_ret
  exact ⟨rfl, HB0.out⟩
 | true =>
 rw [q0] at HNM
 cases q_weight : inB b.weight 1 500 with
 | false =>
  obtain rfl : r = 250 := HF.out (by rw [HR.out, q_weight]; simp)
  clear CC HG0 HS1
  go_enter Tryz.func37, Tryz.ntmps37
  go_wp2_with (first | (go_at_call 74; refine (HNM.out _).mono ?_; rintro e w' ⟨rfl, rfl⟩) | (go_at_call 75; refine (AZ (by assumption) _).mono ?_; rintro e w' ⟨rfl, rfl⟩))
  go_ret
  exact ⟨rfl, HB0.out⟩
 | true =>
 cases q_lift : inB b.lift 0 500 with
 | false =>
  obtain rfl : r = 250 := HF.out (by rw [HR.out, q_lift]; simp)
  clear CC HG0 HS1
  go_enter Tryz.func37, Tryz.ntmps37
  go_wp2_with (first | (go_at_call 74; refine (HNM.out _).mono ?_; rintro e w' ⟨rfl, rfl⟩) | (go_at_call 75; refine (AZ (by assumption) _).mono ?_; rintro e w' ⟨rfl, rfl⟩))
  go_ret
  exact ⟨rfl, HB0.out⟩
 | true =>
 cases q_girth : inB b.girth 1 4 with
 | false =>
  obtain rfl : r = 250 := HF.out (by rw [HR.out, q_girth]; simp)
  clear CC HG0 HS1
  go_enter Tryz.func37, Tryz.ntmps37
  go_wp2_with (first | (go_at_call 74; refine (HNM.out _).mono ?_; rintro e w' ⟨rfl, rfl⟩) | (go_at_call 75; refine (AZ (by assumption) _).mono ?_; rintro e w' ⟨rfl, rfl⟩))
  go_ret
  exact ⟨rfl, HB0.out⟩
 | true =>
 cases q_step : inB b.step 1 16 with
 | false =>
  obtain rfl : r = 250 := HF.out (by rw [HR.out, q_step]; simp)
  clear CC HG0 HS1
  go_enter Tryz.func37, Tryz.ntmps37
  go_wp2_with (first | (go_at_call 74; refine (HNM.out _).mono ?_; rintro e w' ⟨rfl, rfl⟩) | (go_at_call 75; refine (AZ (by assumption) _).mono ?_; rintro e w' ⟨rfl, rfl⟩))
  go_ret
  exact ⟨rfl, HB0.out⟩
 | true =>
 cases q_jump : inB b.jump 0 16 with
 | false =>
  obtain rfl : r = 250 := HF.out (by rw [HR.out, q_jump]; simp)
  clear CC HG0 HS1
  go_enter Tryz.func37, Tryz.ntmps37
  go_wp2_with (first | (go_at_call 74; refine (HNM.out _).mono ?_; rintro e w' ⟨rfl, rfl⟩) | (go_at_call 75; refine (AZ (by assumption) _).mono ?_; rintro e w' ⟨rfl, rfl⟩))
  go_ret
  exact ⟨rfl, HB0.out⟩
 | true =>
 go_enter Tryz.func37, Tryz.ntmps37
 go_wp2_with (first | (go_at_call 74; refine (HNM.out _).mono ?_; rintro e w' ⟨rfl, rfl⟩) | (go_at_call 75; refine (AZ (by assumption) _).mono ?_; rintro e w' ⟨rfl, rfl⟩))
 have Q0 := qh (show (BW b.name && inB b.weight 1 500 && inB b.lift 0 500 && inB b.girth 1 4 && inB b.step 1 16 && inB b.jump 0 16) = true by rw [q0, q_weight, q_lift, q_girth, q_step, q_jump]; rfl)
 rw [Q0.out] at HR
 clear q0 q_weight q_lift q_girth q_step q_jump HNM
 simp only [Bool.true_and] at HR
 have HB1 := HB0
 have HX1 : Hid (Below (w.heap.size + 1) (w.alloc (.cells #[.string ⟨b.name.toArray⟩, int i64 b.weight, int i64 b.lift, int i64 b.girth, int i64 b.step, int i64 b.jump, int i64 b.r0, int i64 b.r1, int i64 b.r2, int i64 b.s0, int i64 b.s1, int i64 b.s2, int i64 b.t0, int i64 b.t1, int i64 b.t2, int i64 b.effort, int i64 b.recover] 35)) (w.alloc (.cells #[.string ⟨b.name.toArray⟩, int i64 b.weight, int i64 b.lift, int i64 b.girth, int i64 b.step, int i64 b.jump, int i64 b.r0, int i64 b.r1, int i64 b.r2, int i64 b.s0, int i64 b.s1, int i64 b.s2, int i64 b.t0, int i64 b.t1, int i64 b.t2, int i64 b.effort, int i64 b.recover] 35))) := qh (Below.refl _ _)
 generalize w.alloc (.cells #[.string ⟨b.name.toArray⟩, int i64 b.weight, int i64 b.lift, int i64 b.girth, int i64 b.step, int i64 b.jump, int i64 b.r0, int i64 b.r1, int i64 b.r2, int i64 b.s0, int i64 b.s1, int i64 b.s2, int i64 b.t0, int i64 b.t1, int i64 b.t2, int i64 b.effort, int i64 b.recover] 35) = w1 at *
 have HS := HS1
 refine (F8 b.r0 b.r1 b.r2 8 w1).mono ?_
 rintro e w2 ⟨rfl, hb2⟩
 have HX2 : Hid (Below (w.heap.size + 1) w1 w2) := qh (HX1.out.trans (hb2.mono (by have := HX1.out.size; have := HS.out; omega)))
 have HB2 := qh (HB1.out.trans (hb2.mono HB1.out.size))
 clear hb2
 have c6 : w2.cell? ⟨w.heap.size, 6, none⟩ = some (int i64 b.r0) := A0 (CC.out _ HX2.out) 6 rfl
 have c7 : w2.cell? ⟨w.heap.size, 7, none⟩ = some (int i64 b.r1) := A0 (CC.out _ HX2.out) 7 rfl
 have c8 : w2.cell? ⟨w.heap.size, 8, none⟩ = some (int i64 b.r2) := A0 (CC.out _ HX2.out) 8 rfl
 have c9 : w2.cell? ⟨w.heap.size, 9, none⟩ = some (int i64 b.s0) := A0 (CC.out _ HX2.out) 9 rfl
 have c10 : w2.cell? ⟨w.heap.size, 10, none⟩ = some (int i64 b.s1) := A0 (CC.out _ HX2.out) 10 rfl
 have c11 : w2.cell? ⟨w.heap.size, 11, none⟩ = some (int i64 b.s2) := A0 (CC.out _ HX2.out) 11 rfl
 have c12 : w2.cell? ⟨w.heap.size, 12, none⟩ = some (int i64 b.t0) := A0 (CC.out _ HX2.out) 12 rfl
 have c13 : w2.cell? ⟨w.heap.size, 13, none⟩ = some (int i64 b.t1) := A0 (CC.out _ HX2.out) 13 rfl
 have c14 : w2.cell? ⟨w.heap.size, 14, none⟩ = some (int i64 b.t2) := A0 (CC.out _ HX2.out) 14 rfl
 have c15 : w2.cell? ⟨w.heap.size, 15, none⟩ = some (int i64 b.effort) := A0 (CC.out _ HX2.out) 15 rfl
 have c16 : w2.cell? ⟨w.heap.size, 16, none⟩ = some (int i64 b.recover) := A0 (CC.out _ HX2.out) 16 rfl
 cases q2 : DU b.r0 b.r1 b.r2 8 with
 | false =>
  obtain rfl : r = 250 := HF.out (by rw [HR.out, q2]; simp)
  go_wp2_with (go_at_call 75; refine (AZ (by assumption) _).mono ?_; rintro e w' ⟨rfl, rfl⟩)
  go_ret
  exact ⟨rfl, HB2.out⟩
 | true =>
 go_wp2_with fail
 refine (F8 b.s0 b.s1 b.s2 1048576 w2).mono ?_
 rintro e w3 ⟨rfl, hb3⟩
 have HX3 : Hid (Below (w.heap.size + 1) w1 w3) := qh (HX2.out.trans (hb3.mono (by have := HX2.out.size; have := HS.out; omega)))
 have HB3 := qh (HB2.out.trans (hb3.mono HB2.out.size))
 clear hb3
 clear c6 c7 c8 c9 c10 c11 c12 c13 c14 c15 c16
 have c6 : w3.cell? ⟨w.heap.size, 6, none⟩ = some (int i64 b.r0) := A0 (CC.out _ HX3.out) 6 rfl
 have c7 : w3.cell? ⟨w.heap.size, 7, none⟩ = some (int i64 b.r1) := A0 (CC.out _ HX3.out) 7 rfl
 have c8 : w3.cell? ⟨w.heap.size, 8, none⟩ = some (int i64 b.r2) := A0 (CC.out _ HX3.out) 8 rfl
 have c9 : w3.cell? ⟨w.heap.size, 9, none⟩ = some (int i64 b.s0) := A0 (CC.out _ HX3.out) 9 rfl
 have c10 : w3.cell? ⟨w.heap.size, 10, none⟩ = some (int i64 b.s1) := A0 (CC.out _ HX3.out) 10 rfl
 have c11 : w3.cell? ⟨w.heap.size, 11, none⟩ = some (int i64 b.s2) := A0 (CC.out _ HX3.out) 11 rfl
 have c12 : w3.cell? ⟨w.heap.size, 12, none⟩ = some (int i64 b.t0) := A0 (CC.out _ HX3.out) 12 rfl
 have c13 : w3.cell? ⟨w.heap.size, 13, none⟩ = some (int i64 b.t1) := A0 (CC.out _ HX3.out) 13 rfl
 have c14 : w3.cell? ⟨w.heap.size, 14, none⟩ = some (int i64 b.t2) := A0 (CC.out _ HX3.out) 14 rfl
 have c15 : w3.cell? ⟨w.heap.size, 15, none⟩ = some (int i64 b.effort) := A0 (CC.out _ HX3.out) 15 rfl
 have c16 : w3.cell? ⟨w.heap.size, 16, none⟩ = some (int i64 b.recover) := A0 (CC.out _ HX3.out) 16 rfl
 cases q3 : DU b.s0 b.s1 b.s2 1048576 with
 | false =>
  obtain rfl : r = 250 := HF.out (by rw [HR.out, q3]; simp)
  go_wp2_with (go_at_call 75; refine (AZ (by assumption) _).mono ?_; rintro e w' ⟨rfl, rfl⟩)
  go_ret
  exact ⟨rfl, HB3.out⟩
 | true =>
 go_wp2_with fail
 refine (F8 b.t0 b.t1 b.t2 3 w3).mono ?_
 rintro e w4 ⟨rfl, hb4⟩
 have HX4 : Hid (Below (w.heap.size + 1) w1 w4) := qh (HX3.out.trans (hb4.mono (by have := HX3.out.size; have := HS.out; omega)))
 have HB4 := qh (HB3.out.trans (hb4.mono HB3.out.size))
 clear hb4
 clear c6 c7 c8 c9 c10 c11 c12 c13 c14 c15 c16
 have c6 : w4.cell? ⟨w.heap.size, 6, none⟩ = some (int i64 b.r0) := A0 (CC.out _ HX4.out) 6 rfl
 have c7 : w4.cell? ⟨w.heap.size, 7, none⟩ = some (int i64 b.r1) := A0 (CC.out _ HX4.out) 7 rfl
 have c8 : w4.cell? ⟨w.heap.size, 8, none⟩ = some (int i64 b.r2) := A0 (CC.out _ HX4.out) 8 rfl
 have c9 : w4.cell? ⟨w.heap.size, 9, none⟩ = some (int i64 b.s0) := A0 (CC.out _ HX4.out) 9 rfl
 have c10 : w4.cell? ⟨w.heap.size, 10, none⟩ = some (int i64 b.s1) := A0 (CC.out _ HX4.out) 10 rfl
 have c11 : w4.cell? ⟨w.heap.size, 11, none⟩ = some (int i64 b.s2) := A0 (CC.out _ HX4.out) 11 rfl
 have c12 : w4.cell? ⟨w.heap.size, 12, none⟩ = some (int i64 b.t0) := A0 (CC.out _ HX4.out) 12 rfl
 have c13 : w4.cell? ⟨w.heap.size, 13, none⟩ = some (int i64 b.t1) := A0 (CC.out _ HX4.out) 13 rfl
 have c14 : w4.cell? ⟨w.heap.size, 14, none⟩ = some (int i64 b.t2) := A0 (CC.out _ HX4.out) 14 rfl
 have c15 : w4.cell? ⟨w.heap.size, 15, none⟩ = some (int i64 b.effort) := A0 (CC.out _ HX4.out) 15 rfl
 have c16 : w4.cell? ⟨w.heap.size, 16, none⟩ = some (int i64 b.recover) := A0 (CC.out _ HX4.out) 16 rfl
 cases q4 : DU b.t0 b.t1 b.t2 3 with
 | false =>
  obtain rfl : r = 250 := HF.out (by rw [HR.out, q4]; simp)
  go_wp2_with (go_at_call 75; refine (AZ (by assumption) _).mono ?_; rintro e w' ⟨rfl, rfl⟩)
  go_ret
  exact ⟨rfl, HB4.out⟩
 | true =>
 cases q_effort : inB b.effort 0 1048576 with
 | false =>
  obtain rfl : r = 250 := HF.out (by rw [HR.out, q_effort]; simp)
  go_wp2_with (go_at_call 75; refine (AZ (by assumption) _).mono ?_; rintro e w' ⟨rfl, rfl⟩)
  go_ret
  exact ⟨rfl, HB4.out⟩
 | true =>
 cases q_recover : inB b.recover 0 1048576 with
 | false =>
  obtain rfl : r = 250 := HF.out (by rw [HR.out, q_recover]; simp)
  go_wp2_with (go_at_call 75; refine (AZ (by assumption) _).mono ?_; rintro e w' ⟨rfl, rfl⟩)
  go_ret
  exact ⟨rfl, HB4.out⟩
 | true =>
 obtain rfl : r = 0 := HT.out (by rw [HR.out, q2, q3, q4, q_effort, q_recover]; rfl)
 go_wp2_with (go_at_call 75; refine (AZ (by assumption) _).mono ?_; rintro e w' ⟨rfl, rfl⟩)
 go_ret
 exact ⟨rfl, HB4.out⟩
end
end Go.Proofs.YtggcbblikgankaaGreatDoor
