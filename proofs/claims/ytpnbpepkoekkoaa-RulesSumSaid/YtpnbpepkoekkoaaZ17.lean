/- Contracts and plain laws on the way to the statement: part 17. -/
import Derived.Test.YtpnbpepkoekkoaaZ5
import Derived.Test.YtpnbpepkoekkoaaZ9
import Derived.Test.YtpnbpepkoekkoaaZ4
import Derived.WalkSpells
import Derived.WalkLawsBesides
import Derived.Lib.Bytealg
set_option linter.unusedVariables false
set_option linter.unusedSimpArgs false
section
namespace Go.Proofs.Ytpnbpepkoekkoaa
open Go.RowKit
theorem cls_letter {n : Nat} (h : (97 ≤ n ∧ n ≤ 122) ∨ (65 ≤ n ∧ n ≤ 90)) : cls n = 2 := by unfold cls; rw [if_pos h]
theorem cls_digit {n : Nat} (h : 48 ≤ n ∧ n ≤ 57) : cls n = 3 := by unfold cls; rw [if_neg (by omega), if_pos h]
theorem cls_line {n : Nat} (h : n = 95) : cls n = 5 := by unfold cls; rw [if_neg (by omega), if_neg (by omega), if_pos h]
theorem cls_space {n : Nat} (h : n = 32 ∨ n = 9 ∨ n = 10 ∨ n = 13) : cls n = 1 := by
  unfold cls; rw [if_neg (by omega), if_neg (by omega), if_neg (by omega), if_pos h]
theorem cls_sign {n : Nat} (h1 : ¬ ((97 ≤ n ∧ n ≤ 122) ∨ (65 ≤ n ∧ n ≤ 90))) (h2 : ¬ (48 ≤ n ∧ n ≤ 57)) (h3 : ¬ n = 95) (h4 : ¬ (n = 32 ∨ n = 9 ∨ n = 10 ∨ n = 13))
    (h : 0 ≤ Lib.indexByte [123, 125, 40, 41, 59, 44, 61, 58, 46, 60, 62, 33, 43, 45, 42, 47] (UInt8.ofNat n)) : cls n = 4 := by
  unfold cls; rw [if_neg h1, if_neg h2, if_neg h3, if_neg h4, if_pos (by unfold signBytes; exact h)]
theorem cls_other {n : Nat} (h1 : ¬ ((97 ≤ n ∧ n ≤ 122) ∨ (65 ≤ n ∧ n ≤ 90))) (h2 : ¬ (48 ≤ n ∧ n ≤ 57)) (h3 : ¬ n = 95) (h4 : ¬ (n = 32 ∨ n = 9 ∨ n = 10 ∨ n = 13))
    (h : Lib.indexByte [123, 125, 40, 41, 59, 44, 61, 58, 46, 60, 62, 33, 43, 45, 42, 47] (UInt8.ofNat n) < 0) : cls n = 0 := by
  unfold cls; rw [if_neg h1, if_neg h2, if_neg h3, if_neg h4, if_neg (by unfold signBytes; omega)]
set_option maxHeartbeats 800000 in
theorem class_any (n : Nat) (w : World) :
    Calls Try.prog 91 #[.int .u8 n] w fun e w' => e = .returned (.int .i64 (cls n)) ∧ w = w' := by
  go_enter Try.func91, Try.ntmps91
  go_wp2_with (go_at_call 103; refine (Try.strings_IndexByte _ _ _).mono ?_; rintro e w' ⟨rfl, rfl⟩)
  all_goals
    go_ret
    refine ⟨ret_i64 ?_, rfl⟩
    try simp only [beq_iff_eq, beq_eq_false_iff_ne, ne_eq] at *
    first
      | exact (cls_letter (by omega)).symm
      | exact (cls_digit (by omega)).symm
      | exact (cls_line (by omega)).symm
      | exact (cls_space (by omega)).symm
      | exact (cls_sign (by omega) (by omega) (by omega) (by omega) (by assumption)).symm
      | exact (cls_other (by omega) (by omega) (by omega) (by omega) (by assumption)).symm
theorem getElem_byte (s : ByteArray) (k : Nat) (h : k < s.size) : s.data.toList[k]? = some s[k] := by
  rw [List.getElem?_eq_getElem (by simpa using h)]; rfl
theorem nameOk_empty {l : List UInt8} (h : l = []) : nameOk l = false := by subst h; rfl
theorem nameOk_long {l : List UInt8} (h : 32 < l.length) : nameOk l = false := by
  unfold nameOk; have : decide (l.length ≤ 32) = false := by simp; omega
  rw [this]; simp
theorem nameOk_head {l : List UInt8} {c : UInt8} (h : l[0]? = some c) (hc : cls c.toNat ≠ 2) : nameOk l = false := by
  cases l with
  | nil => rfl
  | cons d r => simp at h; subst h; unfold nameOk isLetter cl; simp [hc]
theorem nameOk_part {l : List UInt8} {k : Nat} {c : UInt8} (h : l[k]? = some c) (h2 : cls c.toNat ≠ 2) (h3 : cls c.toNat ≠ 3) (h5 : cls c.toNat ≠ 5) : nameOk l = false := by
  have : l.all isPart = false := by
    rw [List.all_eq_false]; exact ⟨c, List.mem_of_getElem? h, by unfold isPart cl; simp [h2, h3, h5]⟩
  unfold nameOk; rw [this]; simp
theorem nameOk_true {l : List UInt8} {c : UInt8} (h : l[0]? = some c) (hc : cls c.toNat = 2) (hl : l.length ≤ 32) (ha : l.all isPart = true) : nameOk l = true := by
  cases l with
  | nil => simp at h
  | cons d r => simp at h; subst h; unfold nameOk; rw [ha]; unfold isLetter cl; simp at hl; simp [hc]; omega
theorem allPart_snoc {l : List UInt8} {k : Nat} {c : UInt8} (h : l[k]? = some c) (ha : (l.take k).all isPart = true) (hc : cls c.toNat = 2 ∨ cls c.toNat = 3 ∨ cls c.toNat = 5) : (l.take (k + 1)).all isPart = true := by
  rw [List.take_add_one, List.all_append, ha, h]; unfold isPart cl
  rcases hc with hc | hc | hc <;> simp [hc]
theorem toList_ne {s : ByteArray} (h : 0 < s.size) : s.toList.isEmpty = false := by
  rw [ByteArray.toList_eq, List.isEmpty_eq_false_iff]
  intro e; have h2 : s.data.toList.length = 0 := by rw [e]; rfl
  rw [show s.data.toList.length = s.size by simp] at h2; omega
theorem part_of3 {x : Int} (h : ((x != 2) = false ∨ (x != 3) = false) ∨ (x != 5) = false) : x = 2 ∨ x = 3 ∨ x = 5 := by
  simp only [bne_eq_false_iff_eq] at h; omega
theorem toList_nil {s : ByteArray} (h : s.size = 0) : s.toList = [] := by
  rw [ByteArray.toList_eq]; exact List.length_eq_zero_iff.1 (by simpa using h)
set_option maxHeartbeats 1000000 in
theorem lname_any (s : ByteArray) (w : World) (hs : s.size ≤ maxLen) :
    Calls Try.prog 70 #[.string s] w fun e w' => e = .returned (.bool (nameOk s.data.toList)) ∧ w = w' := by
  unfold maxLen at hs
  have hsz : s.data.toList.length = s.size := by simp
  have HZ := Lib.hid hsz; clear hsz
  by_cases hpos : 0 < s.size
  · have hne := toList_ne hpos
    have hne2 : ¬ s.toList = [] := by intro e; rw [e] at hne; simp at hne
    by_cases h32 : s.size ≤ 32
    · by_cases hc : (cls s[0].toNat == 2) = true
      · have hc' : (cls s[0].toNat != 2) = false := by simpa using hc
        have HC := Lib.hid hc; clear hc
        go_enter Try.func70, Try.ntmps70
        go_wp2_with (go_at_call 91; refine (class_any _ _).mono ?_; rintro e w' ⟨rfl, rfl⟩)
        go_loop [20] (fun i => ∃ k : Nat, k ≤ s.size ∧ i = .int .i64 k ∧ Hid ((s.data.toList.take k).all isPart = true)) (fun i => s.size - (intOf i).toNat)
        case atStart => exact ⟨0, Nat.zero_le _, rfl, by simp [Hid]⟩
        case round =>
          obtain ⟨k, hk, rfl, hall⟩ := hrel
          by_cases hlt : k < s.size
          · have hb := Lib.hid (getElem_byte s k hlt)
            go_wp2_with (go_at_call 91; refine (class_any _ _).mono ?_; rintro e w' ⟨rfl, rfl⟩)
            all_goals first
              | (go_ret; exact ⟨ret_bool (nameOk_part hb.out (by assumption) (by assumption) (by simp_all)).symm, rfl⟩)
              | (go_round
                 case rel => exact ⟨k + 1, by omega, by go_num, allPart_snoc hb.out hall.out (by first | exact Or.inl (by assumption) | exact Or.inr (Or.inl (by assumption)) | exact part_of3 (by assumption))⟩
                 case measure => simp [intOf]; omega)
          · go_wp2
            go_ret
            refine ⟨ret_bool (nameOk_true (getElem_byte s 0 hpos) (by have := HC.out; simpa using this) (by rw [HZ.out]; omega) ?_).symm, rfl⟩
            have := hall.out
            rwa [List.take_of_length_le (by rw [HZ.out]; omega)] at this
      · have hc' : (cls s[0].toNat != 2) = true := by simpa using hc
        go_enter Try.func70, Try.ntmps70
        go_wp2_with (go_at_call 91; refine (class_any _ _).mono ?_; rintro e w' ⟨rfl, rfl⟩)
        go_ret
        exact ⟨ret_bool (nameOk_head (getElem_byte s 0 hpos) (by simpa using hc')).symm, rfl⟩
    · go_enter Try.func70, Try.ntmps70
      go_wp2_with (go_at_call 91; refine (class_any _ _).mono ?_; rintro e w' ⟨rfl, rfl⟩)
      go_ret
      exact ⟨ret_bool (nameOk_long (by rw [HZ.out]; omega)).symm, rfl⟩
  · have he := toList_nil (s := s) (by omega)
    go_enter Try.func70, Try.ntmps70
    go_wp2_with (go_at_call 91; refine (class_any _ _).mono ?_; rintro e w' ⟨rfl, rfl⟩)
    go_ret
    exact ⟨ret_bool (nameOk_empty (by rw [← ByteArray.toList_eq]; exact he)).symm, rfl⟩
end Go.Proofs.Ytpnbpepkoekkoaa
end
section
namespace Go.Proofs.Ytpnbpepkoekkoaa
open Go Go.RowKit
set_option maxHeartbeats 1000000 in
theorem name40 (s : Nm) (w : World) : Calls Try.prog 40 #[sv s] w fun e w' => e = .returned (sv s) ∧ w = w' := by
 go_enter Try.func40, Try.ntmps40
 go_wp2
 go_ret
 exact ⟨rfl, rfl⟩
set_option maxHeartbeats 1000000 in
theorem name42 (s : Nm) (x y f : Int) (w : World) : Calls Try.prog 42 #[.agg #[sv s, .int .i64 x, .int .i64 y, .int .i64 f]] w fun e w' => e = .returned (sv s) ∧ Below w.heap.size w w' := by
 have HB := Lib.hid ((Below.refl w.heap.size w).alloc (Nat.le_refl _) (.cells #[sv s, .int .i64 x, .int .i64 y, .int .i64 f] 59))
 go_enter Try.func42, Try.ntmps42
 go_wp2
 go_ret
 exact ⟨rfl, HB.out⟩
set_option maxHeartbeats 1000000 in
theorem name44 (s : Nm) (a : Option Addr) (n c : Nat) (w : World) : Calls Try.prog 44 #[.agg #[sv s, .slice a n c]] w fun e w' => e = .returned (sv s) ∧ Below w.heap.size w w' := by
 have HB := Lib.hid ((Below.refl w.heap.size w).alloc (Nat.le_refl _) (.cells #[sv s, .slice a n c] 57))
 go_enter Try.func44, Try.ntmps44
 go_wp2
 go_ret
 exact ⟨rfl, HB.out⟩
theorem nameOk_len {l : Nm} (h : nameOk l = true) : l.length ≤ 32 := by
 by_cases hl : l.length ≤ 32
 ·exact hl
 ·rw [nameOk_long (by omega)] at h; cases h
theorem lname_nm (s : Nm) (w : World) : Calls Try.prog 70 #[sv s] w fun e w' => e = .returned (.bool (nameOk s)) ∧ w = w' := by
 by_cases h32 : s.length ≤ 32
 ·have h := lname_any ⟨s.toArray⟩ w (by show s.length ≤ maxLen; unfold maxLen; omega)
  refine h.mono ?_
  rintro e w' ⟨rfl, rfl⟩
  exact ⟨rfl, rfl⟩
 ·have hl : (32 : Int) < ((⟨s.toArray⟩ : ByteArray).size : Int) := by show (32 : Int) < (s.length : Int); omega
  have hpos : 0 < (⟨s.toArray⟩ : ByteArray).size := by show 0 < s.length; omega
  have hne := toList_ne hpos
  have hne2 : ¬ (⟨s.toArray⟩ : ByteArray).toList = [] := by intro e; rw [e] at hne; simp at hne
  have hbad : nameOk s = false := nameOk_long (by omega)
  have HB := Lib.hid hbad
  clear hbad h32
  unfold sv
  generalize (⟨s.toArray⟩ : ByteArray) = t at *
  go_enter Try.func70, Try.ntmps70
  go_wp2_with fail
  go_ret
  exact ⟨ret_bool HB.out.symm, rfl⟩
def Env (w : World) : Prop := ∃ m, w.cell? ⟨0, 0, none⟩ = some (.int .i64 m)
theorem Env.below {w w' : World} (h : Env w) (hb : Below w.heap.size w w') : Env w' := by
 obtain ⟨m, h⟩ := h; exact ⟨m, keep_cell hb h⟩
set_option maxRecDepth 10000 in
theorem contains_any (s : Nm) (w : World) (h : Env w) : Calls Try.prog 71 #[.string ⟨words.toArray⟩, .string (ByteArray.append (ByteArray.append ⟨#[32]⟩ ⟨s.toArray⟩) ⟨#[32]⟩)] w fun e w' => e = .returned (.bool (Lib.contains words (32 :: (s ++ [32])))) ∧ w = w' := by
 obtain ⟨m, hm⟩ := h
 refine (Try.strings_Contains _ _ m w (by show words.length < _; decide) hm).mono ?_
 rintro e w' ⟨rfl, rfl⟩
 refine ⟨ret_bool ?_, rfl⟩
 congr 1
end Go.Proofs.Ytpnbpepkoekkoaa
end
