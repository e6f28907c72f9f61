/- Contracts of the reference's classes of bytes, and of its Name. -/
import Derived.Test.YtabdpmcdlojliaaDoorA2
import Derived.KernelRfl
namespace Go.Proofs.YtabdpmcdlojliaaDoor
open Go.RowKit

theorem cls2_iff (n : Nat) : cls n = 2 ↔ (97 ≤ n ∧ n ≤ 122) ∨ (65 ≤ n ∧ n ≤ 90) := by
  constructor
  · intro h; unfold cls at h
    split at h
    · assumption
    split at h
    · omega
    split at h
    · omega
    split at h
    · omega
    split at h <;> omega
  · exact cls_letter
theorem cls3_iff (n : Nat) : cls n = 3 ↔ 48 ≤ n ∧ n ≤ 57 := by
  constructor
  · intro h; unfold cls at h
    split at h
    · omega
    split at h
    · assumption
    split at h
    · omega
    split at h
    · omega
    split at h <;> omega
  · exact cls_digit
theorem cls1_iff (n : Nat) : cls n = 1 ↔ n = 32 ∨ n = 9 ∨ n = 10 ∨ n = 13 := by
  constructor
  · intro h; unfold cls at h
    split at h
    · omega
    split at h
    · omega
    split at h
    · omega
    split at h
    · assumption
    split at h <;> omega
  · exact cls_space
theorem cls5_iff (n : Nat) : cls n = 5 ↔ n = 95 := by
  constructor
  · intro h; unfold cls at h
    split at h
    · omega
    split at h
    · omega
    split at h
    · assumption
    split at h
    · omega
    split at h <;> omega
  · exact cls_line
theorem list_size' (a : ByteArray) : a.data.toList.length = a.size := by simp
theorem cls4_all : (List.range 256).all (fun n => (cls n == 4) == signBytes.contains (UInt8.ofNat n)) = true := by kernel_rfl
theorem cls4_iff {n : Nat} (h : n < 256) : (cls n == 4) = signBytes.contains (UInt8.ofNat n) := by
  have := List.all_eq_true.1 cls4_all n (List.mem_range.2 h)
  simpa using this

set_option maxHeartbeats 1000000 in
theorem refLetter_any (n : Nat) (w : World) :
    Calls Tryd.prog 31 #[.int .u8 n] w fun e w' => e = .returned (.bool (cls n == 2)) ∧ w = w' := by
  have H2 := Lib.hid (cls2_iff n)
  go_enter Tryd.func31, Tryd.ntmps31
  go_wp2_with fail
  all_goals
    go_ret
    refine ⟨ret_bool ?_, rfl⟩
    rw [Bool.eq_iff_iff, beq_iff_eq, H2.out]; simp; omega
set_option maxHeartbeats 1000000 in
theorem refFigure_any (n : Nat) (w : World) :
    Calls Tryd.prog 33 #[.int .u8 n] w fun e w' => e = .returned (.bool (cls n == 3)) ∧ w = w' := by
  have H2 := Lib.hid (cls3_iff n)
  go_enter Tryd.func33, Tryd.ntmps33
  go_wp2_with fail
  all_goals
    go_ret
    refine ⟨ret_bool ?_, rfl⟩
    rw [Bool.eq_iff_iff, beq_iff_eq, H2.out]; simp; omega
set_option maxHeartbeats 1000000 in
theorem refSpace_any (n : Nat) (w : World) :
    Calls Tryd.prog 22 #[.int .u8 n] w fun e w' => e = .returned (.bool (cls n == 1)) ∧ w = w' := by
  have H2 := Lib.hid (cls1_iff n)
  go_enter Tryd.func22, Tryd.ntmps22
  go_wp2_with fail
  all_goals
    go_ret
    refine ⟨ret_bool ?_, rfl⟩
    rw [Bool.eq_iff_iff, beq_iff_eq, H2.out]; simp at *; omega
set_option maxHeartbeats 1000000 in
theorem refPart_any (n : Nat) (w : World) :
    Calls Tryd.prog 32 #[.int .u8 n] w fun e w' => e = .returned (.bool (cls n == 2 || cls n == 3 || cls n == 5)) ∧ w = w' := by
  have H2 := Lib.hid (cls5_iff n)
  go_enter Tryd.func32, Tryd.ntmps32
  go_wp2_with (first | (go_at_call 31; refine (refLetter_any _ _).mono ?_; rintro e w' ⟨rfl, rfl⟩) | (go_at_call 33; refine (refFigure_any _ _).mono ?_; rintro e w' ⟨rfl, rfl⟩))
  all_goals
    go_ret
    refine ⟨ret_bool ?_, rfl⟩
    have h5 := H2.out
    rw [Bool.eq_iff_iff]; simp at *; omega
set_option maxHeartbeats 1000000 in
theorem refSign_any (n : Nat) (hn : n < 256) (w : World) :
    Calls Tryd.prog 35 #[.int .u8 n] w fun e w' => e = .returned (.bool (cls n == 4)) ∧ w = w' := by
  have H2 := Lib.hid (cls4_iff hn)
  go_enter Tryd.func35, Tryd.ntmps35
  go_wp2_with fail
  generalize hsg : (⟨#[123, 125, 40, 41, 59, 44, 61, 58, 46, 60, 62, 33, 43, 45, 42, 47]⟩ : ByteArray) = s
  have hsz : s.size = 16 := by rw [← hsg]; rfl
  have hlist : s.data.toList = signBytes := by rw [← hsg]; rfl
  clear hsg
  have HL := Lib.hid hlist; clear hlist
  have HSZ := Lib.hid hsz
  go_loop [4] (fun i => ∃ k : Nat, k ≤ s.size ∧ i = .int .i64 k ∧ Hid ((signBytes.take k).contains (UInt8.ofNat n) = false)) (fun i => s.size - (intOf i).toNat)
  case atStart => exact ⟨0, Nat.zero_le _, rfl, Lib.hid rfl⟩
  case round =>
    obtain ⟨k, hk, rfl, hall⟩ := hrel
    by_cases hlt : k < s.size
    · have hb := Lib.hid (getElem_byte s k hlt)
      by_cases heq : (s[k].toNat : Int) = (n : Int)
      · have e1 : ((s[k].toNat : Int) == (n : Int)) = true := by simpa using heq
        have HQ := Lib.hid heq; clear heq
        go_wp2
        go_ret
        refine ⟨ret_bool ?_, rfl⟩
        rw [H2.out]
        have hm := List.mem_of_getElem? hb.out
        rw [HL.out] at hm
        have : UInt8.ofNat n = s[k] := by
          have := HQ.out
          rw [show n = s[k].toNat by omega]; exact UInt8.ofNat_toNat
        rw [this]; simpa using hm
      · have e1 : ((s[k].toNat : Int) == (n : Int)) = false := by simpa using heq
        have HQ := Lib.hid heq; clear heq
        go_wp2
        go_round
        case rel =>
          refine ⟨k + 1, by omega, by go_num, ?_⟩
          have hb2 := hb.out
          rw [HL.out] at hb2
          have hall2 := hall.out
          have : ¬ UInt8.ofNat n = s[k] := by
            intro e
            have := congrArg UInt8.toNat e
            rw [show (UInt8.ofNat n).toNat = n % 256 from rfl, Nat.mod_eq_of_lt hn] at this
            exact HQ.out (by omega)
          refine Lib.hid ?_
          rw [List.take_add_one, hb2]
          simp at hall2 ⊢
          exact ⟨hall2, this⟩
        case measure => simp [intOf]; omega
    · go_wp2
      go_ret
      refine ⟨ret_bool ?_, rfl⟩
      have := hall.out
      rw [List.take_of_length_le (by rw [← HL.out, list_size']; omega)] at this
      rw [H2.out, this]
end Go.Proofs.YtabdpmcdlojliaaDoor
