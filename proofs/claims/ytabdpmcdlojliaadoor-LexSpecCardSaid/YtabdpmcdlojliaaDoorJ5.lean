/- The contract of the reference's number. -/
import Derived.Test.YtabdpmcdlojliaaDoorJ2
import Derived.Test.YtabdpmcdlojliaaDoorP2
namespace Go.Proofs.YtabdpmcdlojliaaDoor
open Go.RowKit

theorem value_take {l : List UInt8} {k : Nat} {c : UInt8} (h : l[k]? = some c) : value (l.take (k + 1)) = 10 * value (l.take k) + (c.toNat - 48) := by
  rw [List.take_add_one, h]; exact value_snoc _ _
theorem value_mono (l : List UInt8) (k : Nat) : value (l.take k) ≤ value l := by
  conv => rhs; rw [← List.take_append_drop k l]
  unfold value
  rw [List.foldl_append]
  exact foldVal_ge (l.drop k) _

/-- What number hands back. -/
def NumPost (l : List UInt8) (w : World) (e : Ending) (w' : World) : Prop :=
  ∃ z : Int, e = .returned (.tuple #[.int .i64 z, .bool (numOk l)]) ∧ (numOk l = true → z = value l) ∧ ∃ m, w' = w.drewN m

set_option maxHeartbeats 1000000 in
theorem number_ref (s : ByteArray) (hne : 0 < s.size) (hs : s.size ≤ maxLen) (hd : s.data.toList.all isDigit = true) (w : World) :
    Calls Tryd.prog 34 #[.string s] w (NumPost s.data.toList w) := by
  unfold maxLen at hs
  have HD := Lib.hid hd; clear hd
  go_enter Tryd.func34, Tryd.ntmps34
  go_wp2_with fail
  go_loop [4, 5] (fun v i => ∃ k n : Nat, k ≤ s.size ∧ i = .int .i64 k ∧ v = .int .i64 n ∧ n ≤ 1099511627776 ∧ Hid (n = value (s.data.toList.take k))) (fun _ i => s.size - (intOf i).toNat)
  case atStart => exact ⟨0, 0, Nat.zero_le _, rfl, rfl, by omega, Lib.hid rfl⟩
  case round =>
    obtain ⟨k, n, hk, rfl, rfl, hn, hval⟩ := hrel
    by_cases hlt : k < s.size
    · have hb := Lib.hid (getElem_byte s k hlt)
      have hdk := (isDigit_iff s[k]).1 (List.all_eq_true.1 HD.out _ (List.mem_of_getElem? hb.out))
      have hdk1 := hdk.1
      have hdk2 := hdk.2
      clear hdk
      have hstep := value_take hb.out
      rw [← hval.out] at hstep
      have HST := Lib.hid hstep; clear hstep
      by_cases hbig : 1099511627776 < 10 * n + (s[k].toNat - 48)
      · have hbig' : (1099511627776 : Int) < 10 * (n : Int) + ((s[k].toNat : Int) - 48) := by omega
        go_wp2
        go_ret2
        have hf : numOk s.data.toList = false := by
          cases h : numOk s.data.toList with
          | false => rfl
          | true =>
            have h1 := ((numOk_iff _).1 h).2
            have h2 := value_mono s.data.toList (k + 1)
            rw [HST.out] at h2; omega
        exact ⟨0, by rw [hf]; rfl, (fun h => by rw [hf] at h; cases h), 0, rfl⟩
      · have hbig' : ¬ (1099511627776 : Int) < 10 * (n : Int) + ((s[k].toNat : Int) - 48) := by omega
        go_wp2
        go_round
        case rel => exact ⟨k + 1, 10 * n + (s[k].toNat - 48), by omega, by go_num, by go_num, by omega, Lib.hid HST.out.symm⟩
        case measure => simp [intOf]; omega
    · obtain rfl : k = s.size := by omega
      have hin : ¬ (s.size : Int) < (s.size : Int) := by omega
      have hv := hval.out
      rw [List.take_of_length_le (by rw [list_size']; exact Nat.le_refl _)] at hv
      have HV := Lib.hid hv; clear hv
      have hb := Lib.hid (getElem_byte s 0 hne)
      have hle : decide (value s.data.toList ≤ 1099511627776) = true := by rw [← HV.out]; simpa using hn
      have hval2 : (n : Int) = value s.data.toList := by rw [HV.out]
      by_cases h1 : s.size = 1
      · have f1 : ((s.size : Int) == 1) = true := by simpa using by omega
        have hok : numOk s.data.toList = true := by unfold numOk; rw [hle, list_size', h1]; rfl
        have HOK := Lib.hid hok; have HV2 := Lib.hid hval2; clear hok hval2 hle h1
        go_wp2
        go_quiet (fail)
        go_wp2
        go_ret2
        exact ⟨n, by rw [HOK.out]; rfl, fun _ => HV2.out, _, rfl⟩
      · have f1 : ((s.size : Int) == 1) = false := by simpa using by omega
        have h1' : (s.size == 1) = false := by simpa using h1
        have hhd : s.data.toList.head? = some s[0] := by rw [List.head?_eq_getElem?]; exact hb.out
        by_cases h0 : s[0].toNat = 48
        · have f2 : ((s[0].toNat : Int) != 48) = false := by simpa using by omega
          have hok : numOk s.data.toList = false := by
            have : s[0] = 48 := by rw [← UInt8.toNat_inj, h0]; rfl
            unfold numOk; rw [hle, list_size', h1', hhd, this]; rfl
          have HOK := Lib.hid hok; have HV2 := Lib.hid hval2; clear hok hval2 hle h1 h1' h0 hhd
          go_wp2
          go_quiet (fail)
          go_wp2
          go_ret2
          exact ⟨n, by rw [HOK.out]; rfl, fun _ => HV2.out, _, rfl⟩
        · have f2 : ((s[0].toNat : Int) != 48) = true := by simpa using by omega
          have hok : numOk s.data.toList = true := by
            have : s[0] ≠ 48 := by intro e; rw [e] at h0; exact h0 rfl
            unfold numOk; rw [hle, list_size', h1', hhd]; simpa using this
          have HOK := Lib.hid hok; have HV2 := Lib.hid hval2; clear hok hval2 hle h1 h1' h0 hhd
          go_wp2
          go_quiet (fail)
          go_wp2
          go_ret2
          exact ⟨n, by rw [HOK.out]; rfl, fun _ => HV2.out, _, rfl⟩
end Go.Proofs.YtabdpmcdlojliaaDoor
