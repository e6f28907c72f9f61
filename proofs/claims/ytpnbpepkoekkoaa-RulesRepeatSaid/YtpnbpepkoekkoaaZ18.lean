/- Contracts and plain laws on the way to the statement: part 18. -/
import Derived.Test.YtpnbpepkoekkoaaZ7
import Derived.Test.YtpnbpepkoekkoaaZ11
import Derived.Test.YtpnbpepkoekkoaaZ6
import Derived.WalkSpells
import Derived.WalkLawsBesides
import Derived.Lib.Bytealg
import Derived.Test.YtpnbpepkoekkoaaZ3
set_option linter.unusedVariables false
set_option linter.unusedSimpArgs false
set_option maxRecDepth 100000
set_option maxHeartbeats 16000000
namespace Go.Proofs.Ytpnbpepkoekkoaa
open Go.Value (int)
open Go.IntKind (i64)
section
open Go.RowKit
theorem Io {n : Nat} (h : (97 ≤ n ∧ n ≤ 122) ∨ (65 ≤ n ∧ n ≤ 90)) : cls n = 2 := by unfold cls; rw [if_pos h]
theorem Jz {n : Nat} (h : 48 ≤ n ∧ n ≤ 57) : cls n = 3 := by unfold cls; rw [if_neg (by omega), if_pos h]
theorem KR {n : Nat} (h : n = 95) : cls n = 5 := by unfold cls; rw [if_neg (by omega), if_neg (by omega), if_pos h]
theorem JB {n : Nat} (h : n = 32 ∨ n = 9 ∨ n = 10 ∨ n = 13) : cls n = 1 := by
  unfold cls; rw [if_neg (by omega), if_neg (by omega), if_neg (by omega), if_pos h]
theorem KS {n : Nat} (h1 : ¬ ((97 ≤ n ∧ n ≤ 122) ∨ (65 ≤ n ∧ n ≤ 90))) (h2 : ¬ (48 ≤ n ∧ n ≤ 57)) (h3 : ¬ n = 95) (h4 : ¬ (n = 32 ∨ n = 9 ∨ n = 10 ∨ n = 13))
    (h : 0 ≤ Lib.indexByte [123, 125, 40, 41, 59, 44, 61, 58, 46, 60, 62, 33, 43, 45, 42, 47] (UInt8.ofNat n)) : cls n = 4 := by
  unfold cls; rw [if_neg h1, if_neg h2, if_neg h3, if_neg h4, if_pos (by unfold Ez; exact h)]
theorem JA {n : Nat} (h1 : ¬ ((97 ≤ n ∧ n ≤ 122) ∨ (65 ≤ n ∧ n ≤ 90))) (h2 : ¬ (48 ≤ n ∧ n ≤ 57)) (h3 : ¬ n = 95) (h4 : ¬ (n = 32 ∨ n = 9 ∨ n = 10 ∨ n = 13))
    (h : Lib.indexByte [123, 125, 40, 41, 59, 44, 61, 58, 46, 60, 62, 33, 43, 45, 42, 47] (UInt8.ofNat n) < 0) : cls n = 0 := by
  unfold cls; rw [if_neg h1, if_neg h2, if_neg h3, if_neg h4, if_neg (by unfold Ez; omega)]
theorem CL (n : Nat) (w : World) :
    Calls Try.prog 91 #[.int .u8 n] w fun e w' => e = .returned (int i64 (cls n)) ∧ w = w' := by
  go_enter Try.func91, Try.ntmps91
  go_wp2_with (go_at_call 103; refine (Try.strings_IndexByte _ _ _).mono ?_; rintro e w' ⟨rfl, rfl⟩)
  all_goals
    go_ret; refine ⟨Cy ?_, rfl⟩
    try simp only [beq_iff_eq, beq_eq_false_iff_ne, ne_eq] at *
    first
      | exact (Io (by omega)).symm
      | exact (Jz (by omega)).symm
      | exact (KR (by omega)).symm
      | exact (JB (by omega)).symm
      | exact (KS (by omega) (by omega) (by omega) (by omega) (by assumption)).symm
      | exact (JA (by omega) (by omega) (by omega) (by omega) (by assumption)).symm
theorem CZ (s : ByteArray) (k : Nat) (h : k < s.size) : s.data.toList[k]? = some s[k] := by
  rw [qg (by simpa using h)]; rfl
theorem Gw {l : List UInt8} (h : l = []) : Bo l = false := by subst h; rfl
theorem Do {l : List UInt8} (h : 32 < l.length) : Bo l = false := by
  unfold Bo; have : decide (l.length ≤ 32) = false := by simp; omega
  rw [this]; simp
theorem Hn {l : List UInt8} {c : UInt8} (h : l[0]? = some c) (hc : cls c.toNat ≠ 2) : Bo l = false := by
  cases l with
  | nil => rfl
  | cons d r => simp at h; subst h; unfold Bo Fj cl; simp [hc]
theorem Ho {l : List UInt8} {k : Nat} {c : UInt8} (h : l[k]? = some c) (h2 : cls c.toNat ≠ 2) (h3 : cls c.toNat ≠ 3) (h5 : cls c.toNat ≠ 5) : Bo l = false := by
  have : l.all Dm = false := by
    rw [List.all_eq_false]; exact ⟨c, List.mem_of_getElem? h, by unfold Dm cl; simp [h2, h3, h5]⟩
  unfold Bo; rw [this]; simp
theorem Hp {l : List UInt8} {c : UInt8} (h : l[0]? = some c) (hc : cls c.toNat = 2) (hl : l.length ≤ 32) (ha : l.all Dm = true) : Bo l = true := by
  cases l with
  | nil => simp at h
  | cons d r => simp at h; subst h; unfold Bo; rw [ha]; unfold Fj cl; simp at hl; simp [hc]; omega
theorem Gr {l : List UInt8} {k : Nat} {c : UInt8} (h : l[k]? = some c) (ha : (l.take k).all Dm = true) (hc : cls c.toNat = 2 ∨ cls c.toNat = 3 ∨ cls c.toNat = 5) : (l.take (k + 1)).all Dm = true := by
  rw [List.take_add_one, List.all_append, ha, h]; unfold Dm cl; rcases hc with hc | hc | hc <;> simp [hc]
theorem Gk {s : ByteArray} (h : 0 < s.size) : s.toList.isEmpty = false := by
  rw [ByteArray.toList_eq, List.isEmpty_eq_false_iff]; intro e; have h2 : s.data.toList.length = 0 := by rw [e]; rfl
  rw [show s.data.toList.length = s.size by simp] at h2; omega
theorem LJ {x : Int} (h : ((x != 2) = false ∨ (x != 3) = false) ∨ (x != 5) = false) : x = 2 ∨ x = 3 ∨ x = 5 := by
  simp only [bne_eq_false_iff_eq] at h; omega
theorem IW {s : ByteArray} (h : s.size = 0) : s.toList = [] := by
  rw [ByteArray.toList_eq]; exact List.length_eq_zero_iff.1 (by simpa using h)
theorem JP (s : ByteArray) (w : World) (hs : s.size ≤ maxLen) :
    Calls Try.prog 70 #[.string s] w fun e w' => e = .returned (.bool (Bo s.data.toList)) ∧ w = w' := by
  unfold maxLen at hs; have hsz : s.data.toList.length = s.size := by simp
  have HZ := qh hsz; clear hsz; by_cases hpos : 0 < s.size
  · have hne := Gk hpos
    have hne2 : ¬ s.toList = [] := by intro e; rw [e] at hne; simp at hne
    by_cases h32 : s.size ≤ 32
    · by_cases hc : (cls s[0].toNat == 2) = true
      · have hc' : (cls s[0].toNat != 2) = false := by simpa using hc
        have HC := qh hc; clear hc; go_enter Try.func70, Try.ntmps70
        go_wp2_with (go_at_call 91; refine (CL _ _).mono ?_; rintro e w' ⟨rfl, rfl⟩); go_loop [20] (fun i => ∃ k : Nat, k ≤ s.size ∧ i = int i64 k ∧ Hid ((s.data.toList.take k).all Dm = true)) (fun i => s.size - (intOf i).toNat)
        case atStart => exact ⟨0, Nat.zero_le _, rfl, by simp [Hid]⟩
        case round =>
          obtain ⟨k, hk, rfl, hall⟩ := hrel; by_cases hlt : k < s.size
          · have hb := qh (CZ s k hlt)
            go_wp2_with (go_at_call 91; refine (CL _ _).mono ?_; rintro e w' ⟨rfl, rfl⟩)
            all_goals first
              | (go_ret; exact ⟨BM (Ho hb.out (by assumption) (by assumption) (by simp_all)).symm, rfl⟩)
              | (go_round
                 case rel => exact ⟨k + 1, by omega, by go_num, Gr hb.out hall.out (by first | exact Or.inl (by assumption) | exact Or.inr (Or.inl (by assumption)) | exact LJ (by assumption))⟩
                 case measure => simp [intOf]; omega)
          · go_wp2
            go_ret; refine ⟨BM (Hp (CZ s 0 hpos) (by have := HC.out; simpa using this) (by rw [HZ.out]; omega) ?_).symm, rfl⟩; have := hall.out
            rwa [List.take_of_length_le (by rw [HZ.out]; omega)] at this
      · have hc' : (cls s[0].toNat != 2) = true := by simpa using hc
        go_enter Try.func70, Try.ntmps70
        go_wp2_with (go_at_call 91; refine (CL _ _).mono ?_; rintro e w' ⟨rfl, rfl⟩); go_ret; exact ⟨BM (Hn (CZ s 0 hpos) (by simpa using hc')).symm, rfl⟩
    · go_enter Try.func70, Try.ntmps70
      go_wp2_with (go_at_call 91; refine (CL _ _).mono ?_; rintro e w' ⟨rfl, rfl⟩); go_ret; exact ⟨BM (Do (by rw [HZ.out]; omega)).symm, rfl⟩
  · have he := IW (s := s) (by omega)
    go_enter Try.func70, Try.ntmps70
    go_wp2_with (go_at_call 91; refine (CL _ _).mono ?_; rintro e w' ⟨rfl, rfl⟩); go_ret; exact ⟨BM (Gw (by rw [← ByteArray.toList_eq]; exact he)).symm, rfl⟩
end
section
open Go Go.RowKit
theorem IB (s : Nm) (w : World) : Calls Try.prog 40 #[sv s] w fun e w' => e = .returned (sv s) ∧ w = w' := by
 go_enter Try.func40, Try.ntmps40; go_wp2; go_ret; exact ⟨rfl, rfl⟩
theorem IC (s : Nm) (x y f : Int) (w : World) : Calls Try.prog 42 #[.agg #[sv s, int i64 x, int i64 y, int i64 f]] w fun e w' => e = .returned (sv s) ∧ Below w.heap.size w w' := by
 have HB := qh ((Below.refl w.heap.size w).alloc (qn _) (.cells #[sv s, int i64 x, int i64 y, int i64 f] 59)); go_enter Try.func42, Try.ntmps42; go_wp2; go_ret; exact ⟨rfl, HB.out⟩
theorem ID (s : Nm) (a : Option Addr) (n c : Nat) (w : World) : Calls Try.prog 44 #[.agg #[sv s, .slice a n c]] w fun e w' => e = .returned (sv s) ∧ Below w.heap.size w w' := by
 have HB := qh ((Below.refl w.heap.size w).alloc (qn _) (.cells #[sv s, .slice a n c] 57)); go_enter Try.func44, Try.ntmps44; go_wp2; go_ret; exact ⟨rfl, HB.out⟩
theorem DX {l : Nm} (h : Bo l = true) : l.length ≤ 32 := by
 by_cases hl : l.length ≤ 32
 ·exact hl
 ·rw [Do (by omega)] at h; cases h
theorem BY (s : Nm) (w : World) : Calls Try.prog 70 #[sv s] w fun e w' => e = .returned (.bool (Bo s)) ∧ w = w' := by
 by_cases h32 : s.length ≤ 32
 ·have h := JP ⟨s.toArray⟩ w (by show s.length ≤ maxLen; unfold maxLen; omega)
  refine h.mono ?_; rintro e w' ⟨rfl, rfl⟩; exact ⟨rfl, rfl⟩
 ·have hl : (32 : Int) < ((⟨s.toArray⟩ : ByteArray).size : Int) := by show (32 : Int) < (s.length : Int); omega
  have hpos : 0 < (⟨s.toArray⟩ : ByteArray).size := by show 0 < s.length; omega
  have hne := Gk hpos; have hne2 : ¬ (⟨s.toArray⟩ : ByteArray).toList = [] := by intro e; rw [e] at hne; simp at hne
  have hbad : Bo s = false := Do (by omega); have HB := qh hbad; clear hbad h32; unfold sv; generalize (⟨s.toArray⟩ : ByteArray) = t at *; go_enter Try.func70, Try.ntmps70; go_wp2_with fail; go_ret; exact ⟨BM HB.out.symm, rfl⟩
def Env (w : World) : Prop := ∃ m, w.cell? ⟨0, 0, none⟩ = some (int i64 m)
theorem Env.below {w w' : World} (h : Env w) (hb : Below w.heap.size w w') : Env w' := by
 obtain ⟨m, h⟩ := h; exact ⟨m, Ae hb h⟩
theorem BF (s : Nm) (w : World) (h : Env w) : Calls Try.prog 71 #[.string ⟨words.toArray⟩, .string (ByteArray.append (ByteArray.append ⟨#[32]⟩ ⟨s.toArray⟩) ⟨#[32]⟩)] w fun e w' => e = .returned (.bool (Lib.contains words (32 :: (s ++ [32])))) ∧ w = w' := by
 obtain ⟨m, hm⟩ := h; refine (Try.strings_Contains _ _ m w (by show words.length < _; decide) hm).mono ?_; rintro e w' ⟨rfl, rfl⟩; refine ⟨BM ?_, rfl⟩
 congr 1
end
end Go.Proofs.Ytpnbpepkoekkoaa
