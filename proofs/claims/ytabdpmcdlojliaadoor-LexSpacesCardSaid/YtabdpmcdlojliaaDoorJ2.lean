/- Contracts of the reference's Name and Valid. -/
import Derived.Test.YtabdpmcdlojliaaDoorJ1
import Derived.Test.YtabdpmcdlojliaaDoorA3
namespace Go.Proofs.YtabdpmcdlojliaaDoor
open Go.RowKit

set_option maxHeartbeats 1000000 in
theorem rname_any (s : ByteArray) (w : World) (hs : s.size ≤ maxLen) :
    Calls Tryd.prog 21 #[.string s] w fun e w' => e = .returned (.bool (nameOk s.data.toList)) ∧ w = w' := by
  unfold maxLen at hs
  have hsz : s.data.toList.length = s.size := by simp
  have HZ := Lib.hid hsz; clear hsz
  by_cases hpos : 0 < s.size
  · by_cases h32 : s.size ≤ 32
    · by_cases hc : (cls s[0].toNat == 2) = true
      · have HC := Lib.hid hc
        go_enter Tryd.func21, Tryd.ntmps21
        go_wp2_with (go_at_call 31; refine (refLetter_any _ _).mono ?_; rintro e w' ⟨rfl, rfl⟩)
        go_loop [3] (fun i => ∃ k : Nat, k ≤ s.size ∧ i = .int .i64 k ∧ Hid ((s.data.toList.take k).all isPart = true)) (fun i => s.size - (intOf i).toNat)
        case atStart => exact ⟨0, Nat.zero_le _, rfl, by simp [Hid]⟩
        case round =>
          obtain ⟨k, hk, rfl, hall⟩ := hrel
          by_cases hlt : k < s.size
          · have hb := Lib.hid (getElem_byte s k hlt)
            by_cases hp : (cls s[k].toNat == 2 || cls s[k].toNat == 3 || cls s[k].toNat == 5) = true
            · have HP := Lib.hid hp
              go_wp2_with (go_at_call 32; refine (refPart_any _ _).mono ?_; rintro e w' ⟨rfl, rfl⟩)
              go_round
              case rel => exact ⟨k + 1, by omega, by go_num, Lib.hid (allPart_snoc hb.out hall.out (by have := HP.out; simpa [or_assoc] using this))⟩
              case measure => simp [intOf]; omega
            · have hp' : (cls s[k].toNat == 2 || cls s[k].toNat == 3 || cls s[k].toNat == 5) = false := by simpa using hp
              have HP := Lib.hid hp'; clear hp
              go_wp2_with (go_at_call 32; refine (refPart_any _ _).mono ?_; rintro e w' ⟨rfl, rfl⟩)
              go_ret
              have hq := HP.out
              simp at hq
              exact ⟨ret_bool (nameOk_part hb.out hq.1.1 hq.1.2 hq.2).symm, rfl⟩
          · go_wp2
            go_ret
            refine ⟨ret_bool (nameOk_true (getElem_byte s 0 hpos) (by have := HC.out; simpa using this) (by rw [HZ.out]; omega) ?_).symm, rfl⟩
            have := hall.out
            rwa [List.take_of_length_le (by rw [HZ.out]; omega)] at this
      · have hc' : (cls s[0].toNat == 2) = false := by simpa using hc
        have HC := Lib.hid hc'; clear hc
        go_enter Tryd.func21, Tryd.ntmps21
        go_wp2_with (go_at_call 31; refine (refLetter_any _ _).mono ?_; rintro e w' ⟨rfl, rfl⟩)
        go_ret
        exact ⟨ret_bool (nameOk_head (getElem_byte s 0 hpos) (by simpa using HC.out)).symm, rfl⟩
    · go_enter Tryd.func21, Tryd.ntmps21
      go_wp2_with (go_at_call 31; refine (refLetter_any _ _).mono ?_; rintro e w' ⟨rfl, rfl⟩)
      go_ret
      exact ⟨ret_bool (nameOk_long (by rw [HZ.out]; omega)).symm, rfl⟩
  · have he := toList_nil (s := s) (by omega)
    go_enter Tryd.func21, Tryd.ntmps21
    go_wp2_with (go_at_call 31; refine (refLetter_any _ _).mono ?_; rintro e w' ⟨rfl, rfl⟩)
    go_ret
    exact ⟨ret_bool (nameOk_empty (by rw [← ByteArray.toList_eq]; exact he)).symm, rfl⟩

set_option maxHeartbeats 1000000 in
theorem rvalid_any (kd : Int) (tx : ByteArray) (nm ps : Int) (w : World) (hs : tx.size ≤ maxLen) :
    Calls Tryd.prog 39 #[.agg #[.int .i64 kd, .string tx, .int .i64 nm, .int .i64 ps]] w fun e w' => e = .returned (.bool (validT ⟨kd, tx.data.toList, nm, ps⟩)) ∧ Below w.heap.size w w' := by
  go_enter Tryd.func39, Tryd.ntmps39
  go_wp2_with (first | (go_at_call 35; refine (refSign_any _ (UInt8.toNat_lt _) _).mono ?_; rintro e w' ⟨rfl, rfl⟩) | (go_at_call 21; refine (rname_any _ _ hs).mono ?_; rintro e w' ⟨rfl, rfl⟩))
  all_goals
    go_ret
    refine ⟨ret_bool ?_, (Below.refl _ _).alloc (Nat.le_refl _) _⟩
    first
      | exact validT_1 (by assumption) (by assumption)
      | exact validT_1f (by assumption) (by assumption)
      | exact validT_2 (by assumption) (by assumption) (by assumption)
      | exact validT_2n (by assumption) (by assumption)
      | exact validT_2t (by assumption) (by assumption)
      | exact validT_3 (by assumption) (by omega) (by assumption)
      | exact validT_3c (by assumption) (by omega) (by assumption)
      | exact validT_3l (by assumption) (by assumption)
      | exact validT_0 (by assumption) (by assumption) (by assumption)
      | trace_state
end Go.Proofs.YtabdpmcdlojliaaDoor
