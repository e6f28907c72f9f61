/- The contract of spelled. -/
import Derived.Test.YtabdpmcdlojliaaDoorJ3
namespace Go.Proofs.YtabdpmcdlojliaaDoor
open Go.RowKit

theorem bytes_of' {s : ByteArray} {l : List UInt8} (h : l = s.data.toList) : s = ⟨l.toArray⟩ := by subst h; cases s; simp

set_option maxRecDepth 100000 in
set_option maxHeartbeats 1000000 in
theorem spelled_num (u : Nat) (hu : u ≤ 1099511627776) (tx : ByteArray) (ps : Int) (w : World) :
    Calls Tryd.prog 23 #[.agg #[.int .i64 2, .string tx, .int .i64 u, .int .i64 ps]] w fun e w' => e = .returned (.string ⟨(Lib.decDigits u).toArray⟩) ∧ Below w.heap.size w w' := by
  have hconv := conv_one
  go_enter Tryd.func23, Tryd.ntmps23
  go_wp2_with fail
  go_loopw [3, 4] (fun sv nv wr => ∃ (k : Nat) (s : ByteArray), k ≤ u ∧ nv = .int .i64 k ∧ sv = .string s ∧ Hid (Below w.heap.size w wr) ∧ Hid (Lib.decDigits u = Lib.decDigits k ++ s.data.toList)) (fun _ nv _ => (intOf nv).toNat)
  case atStart => exact ⟨u, _, Nat.le_refl _, rfl, rfl, Lib.hid ((Below.refl _ _).alloc (Nat.le_refl _) _), Lib.hid (by simp)⟩
  case round =>
    obtain ⟨k, s, hk, rfl, rfl, hb, hd⟩ := hrel
    have hs : s.size ≤ 13 := by
      have h1 := len13 hu
      rw [hd.out, List.length_append, list_size'] at h1; omega
    have hss : (strOfNums [48 + (k : Int) % 10]).size = 1 := by rw [strOfNums_size]; rfl
    have HSS := Lib.hid hss
    have hbs := hb.out.size
    by_cases h10 : 10 ≤ k
    · have h10' : (10 : Int) ≤ k := by omega
      go_wp2
      go_roundw
      case rel =>
        refine ⟨k / 10, _, by omega, by go_num, rfl, Lib.hid (hb.out.alloc (by omega) _), Lib.hid ?_⟩
        rw [hd.out, ByteArray.data_append, Array.toList_append, str_digit, ← List.append_assoc, decDigits_pre k]
        unfold preD; rw [if_neg (by omega)]
      case measure => simp [intOf]; omega
    · have h10' : ¬ (10 : Int) ≤ k := by omega
      go_wp2
      go_ret
      refine ⟨ret_string (bytes_of' ?_), hb.out.alloc (by omega) _⟩
      rw [hd.out, ByteArray.data_append, Array.toList_append, str_digit, decDigits_pre k]
      unfold preD; rw [if_pos (by omega)]; rfl

set_option maxHeartbeats 1000000 in
theorem spelled_text (kd : Int) (h2 : (kd == 2) = false) (tx : ByteArray) (nm ps : Int) (w : World) :
    Calls Tryd.prog 23 #[.agg #[.int .i64 kd, .string tx, .int .i64 nm, .int .i64 ps]] w fun e w' => e = .returned (.string tx) ∧ Below w.heap.size w w' := by
  have h3 : (kd != 2) = true := by simpa using h2
  go_enter Tryd.func23, Tryd.ntmps23
  go_wp2_with fail
  go_ret
  exact ⟨rfl, (Below.refl _ _).alloc (Nat.le_refl _) _⟩

/-- The word of a valid token. -/
theorem spelled_any (t : Tok) (hv : validT t = true) (w : World) :
    Calls Tryd.prog 23 #[.agg #[.int .i64 t.kind, .string ⟨t.text.toArray⟩, .int .i64 t.num, .int .i64 t.pos]] w fun e w' => e = .returned (.string ⟨(wordT t).toArray⟩) ∧ Below w.heap.size w w' := by
  by_cases h2 : t.kind = 2
  · have hr := validT_num_range hv h2
    obtain ⟨u, hu⟩ := Int.eq_ofNat_of_zero_le hr.1
    have hw : wordT t = Lib.decDigits u := by unfold wordT; rw [if_pos h2, hu]; exact Lib.itoa_nonneg u
    rw [hw, h2, hu]
    exact spelled_num u (by omega) _ _ w
  · have hw : wordT t = t.text := by unfold wordT; rw [if_neg h2]
    rw [hw]
    exact spelled_text t.kind (by simpa using h2) _ _ _ w
end Go.Proofs.YtabdpmcdlojliaaDoor
