/- The walk of the statement: part 4. -/
import Derived.Test.YtpnbpepkoekkoaaZ17
import Derived.Test.YtpnbpepkoekkoaaZ3
import Derived.KernelRfl
set_option linter.unusedVariables false
set_option linter.unusedSimpArgs false
section
namespace Go.Proofs.Ytpnbpepkoekkoaa
open Go Go.RowKit
theorem cls2_iff (n : Nat) : cls n = 2 ↔ (97 ≤ n ∧ n ≤ 122) ∨ (65 ≤ n ∧ n ≤ 90) := by
 constructor
 ·intro h; unfold cls at h
  split at h
  ·assumption
  split at h
  ·omega
  split at h
  ·omega
  split at h
  ·omega
  split at h <;> omega
 ·exact cls_letter
theorem cls3_iff (n : Nat) : cls n = 3 ↔ 48 ≤ n ∧ n ≤ 57 := by
 constructor
 ·intro h; unfold cls at h
  split at h
  ·omega
  split at h
  ·assumption
  split at h
  ·omega
  split at h
  ·omega
  split at h <;> omega
 ·exact cls_digit
theorem cls5_iff (n : Nat) : cls n = 5 ↔ n = 95 := by
 constructor
 ·intro h; unfold cls at h
  split at h
  ·omega
  split at h
  ·omega
  split at h
  ·assumption
  split at h
  ·omega
  split at h <;> omega
 ·exact cls_line
set_option maxHeartbeats 1000000 in
theorem refLetter_any (n : Nat) (w : World) :
  Calls Try.prog 78 #[.int .u8 n] w fun e w' => e = .returned (.bool (cls n == 2)) ∧ w = w' := by
 have H2 := Lib.hid (cls2_iff n)
 go_enter Try.func78, Try.ntmps78
 go_wp2_with fail
 all_goals
  go_ret
  refine ⟨ret_bool ?_, rfl⟩
  rw [Bool.eq_iff_iff, beq_iff_eq, H2.out]; simp; omega
set_option maxHeartbeats 1000000 in
theorem refFigure_any (n : Nat) (w : World) :
  Calls Try.prog 93 #[.int .u8 n] w fun e w' => e = .returned (.bool (cls n == 3)) ∧ w = w' := by
 have H2 := Lib.hid (cls3_iff n)
 go_enter Try.func93, Try.ntmps93
 go_wp2_with fail
 all_goals
  go_ret
  refine ⟨ret_bool ?_, rfl⟩
  rw [Bool.eq_iff_iff, beq_iff_eq, H2.out]; simp; omega
set_option maxHeartbeats 1000000 in
theorem refPart_any (n : Nat) (w : World) :
  Calls Try.prog 79 #[.int .u8 n] w fun e w' => e = .returned (.bool (cls n == 2 || cls n == 3 || cls n == 5)) ∧ w = w' := by
 have H2 := Lib.hid (cls5_iff n)
 go_enter Try.func79, Try.ntmps79
 go_wp2_with (first | (go_at_call 78; refine (refLetter_any _ _).mono ?_; rintro e w' ⟨rfl, rfl⟩) | (go_at_call 93; refine (refFigure_any _ _).mono ?_; rintro e w' ⟨rfl, rfl⟩))
 all_goals
  go_ret
  refine ⟨ret_bool ?_, rfl⟩
  have h5 := H2.out
  rw [Bool.eq_iff_iff]; simp at *; omega
set_option maxHeartbeats 1000000 in
theorem rname_any (s : ByteArray) (w : World) (hs : s.size ≤ maxLen) :
  Calls Try.prog 55 #[.string s] w fun e w' => e = .returned (.bool (nameOk s.data.toList)) ∧ w = w' := by
 unfold maxLen at hs
 have hsz : s.data.toList.length = s.size := by simp
 have HZ := Lib.hid hsz; clear hsz
 by_cases hpos : 0 < s.size
 ·by_cases h32 : s.size ≤ 32
  ·by_cases hc : (cls s[0].toNat == 2) = true
   ·have HC := Lib.hid hc
    go_enter Try.func55, Try.ntmps55
    go_wp2_with (go_at_call 78; refine (refLetter_any _ _).mono ?_; rintro e w' ⟨rfl, rfl⟩)
    go_loop [3] (fun i => ∃ k : Nat, k ≤ s.size ∧ i = .int .i64 k ∧ Hid ((s.data.toList.take k).all isPart = true)) (fun i => s.size - (intOf i).toNat)
    case atStart => exact ⟨0, Nat.zero_le _, rfl, by simp [Hid]⟩
    case round =>
     obtain ⟨k, hk, rfl, hall⟩ := hrel
     by_cases hlt : k < s.size
     ·have hb := Lib.hid (getElem_byte s k hlt)
      by_cases hp : (cls s[k].toNat == 2 || cls s[k].toNat == 3 || cls s[k].toNat == 5) = true
      ·have HP := Lib.hid hp
       go_wp2_with (go_at_call 79; refine (refPart_any _ _).mono ?_; rintro e w' ⟨rfl, rfl⟩)
       go_round
       case rel => exact ⟨k + 1, by omega, by go_num, Lib.hid (allPart_snoc hb.out hall.out (by have := HP.out; simpa [or_assoc] using this))⟩
       case measure => simp [intOf]; omega
      ·have hp' : (cls s[k].toNat == 2 || cls s[k].toNat == 3 || cls s[k].toNat == 5) = false := by simpa using hp
       have HP := Lib.hid hp'; clear hp
       go_wp2_with (go_at_call 79; refine (refPart_any _ _).mono ?_; rintro e w' ⟨rfl, rfl⟩)
       go_ret
       have hq := HP.out
       simp at hq
       exact ⟨ret_bool (nameOk_part hb.out hq.1.1 hq.1.2 hq.2).symm, rfl⟩
     ·go_wp2
      go_ret
      refine ⟨ret_bool (nameOk_true (getElem_byte s 0 hpos) (by have := HC.out; simpa using this) (by rw [HZ.out]; omega) ?_).symm, rfl⟩
      have := hall.out
      rwa [List.take_of_length_le (by rw [HZ.out]; omega)] at this
   ·have hc' : (cls s[0].toNat == 2) = false := by simpa using hc
    have HC := Lib.hid hc'; clear hc
    go_enter Try.func55, Try.ntmps55
    go_wp2_with (go_at_call 78; refine (refLetter_any _ _).mono ?_; rintro e w' ⟨rfl, rfl⟩)
    go_ret
    exact ⟨ret_bool (nameOk_head (getElem_byte s 0 hpos) (by simpa using HC.out)).symm, rfl⟩
  ·go_enter Try.func55, Try.ntmps55
   go_wp2_with (go_at_call 78; refine (refLetter_any _ _).mono ?_; rintro e w' ⟨rfl, rfl⟩)
   go_ret
   exact ⟨ret_bool (nameOk_long (by rw [HZ.out]; omega)).symm, rfl⟩
 ·have he := toList_nil (s := s) (by omega)
  go_enter Try.func55, Try.ntmps55
  go_wp2_with (go_at_call 78; refine (refLetter_any _ _).mono ?_; rintro e w' ⟨rfl, rfl⟩)
  go_ret
  exact ⟨ret_bool (nameOk_empty (by rw [← ByteArray.toList_eq]; exact he)).symm, rfl⟩
end Go.Proofs.Ytpnbpepkoekkoaa
end
section
namespace Go.Proofs.Ytpnbpepkoekkoaa
open Go Go.RowKit
def FindP (xs : List Nm) (s : Nm) (w : World) (e : Ending) (w' : World) : Prop := (∃ k : Int, e = .returned (.int .i64 k) ∧ (0 ≤ k ↔ s ∈ xs)) ∧ w' = w
theorem notin_step {xs : List Nm} {i : Nat} {x s : Nm} (hx : xs[i]? = some x) (h : s ∉ xs.take i) (hne : (x == s) = false) : s ∉ xs.take (i + 1) := by
 rw [List.take_add_one, hx]
 intro hm
 rcases List.mem_append.1 hm with hm | hm
 ·exact h hm
 ·have e : s = x := by simpa using hm
  rw [e] at hne; simp at hne
set_option maxHeartbeats 4000000 in
theorem find24 (xs : List Nm) (g n c : Nat) (s : Nm) (w : World) (hrow : ∀ j nm, xs[j]? = some nm → w.cell? ⟨g, j, none⟩ = some (sv nm)) (hn : xs.length = n) (hm : n ≤ maxLen) : Calls Try.prog 24 #[.slice (some ⟨g, 0, none⟩) n c, sv s] w (FindP xs s w) := by
 unfold maxLen at hm
 have HR := Lib.hid hrow; have HN := Lib.hid hn
 clear hrow hn
 go_enter Try.func24, Try.ntmps24
 go_wp2_with fail
 go_loopw [4, 5] (fun rv iv wr => ∃ i : Nat, iv = .int .i64 i ∧ rv = .int .i64 0 ∧ i ≤ n ∧ Hid (s ∉ xs.take i) ∧ wr = w) (fun _ iv _ => n + 1 - (intOf iv).toNat)
 case atStart => exact ⟨0, rfl, rfl, Nat.zero_le _, Lib.hid (by simp), rfl⟩
 case round =>
  obtain ⟨i, rfl, rfl, hin, hs, rfl⟩ := hrel
  by_cases hlt : i < n
  ·have hji : (i : Int) < (n : Int) := by omega
   obtain ⟨x, hx⟩ : ∃ x, xs[i]? = some x := ⟨_, List.getElem?_eq_getElem (by rw [HN.out]; exact hlt)⟩
   have q0 := HR.out i x hx
   have HX := Lib.hid hx
   clear hx
   obtain ⟨b, hb⟩ : ∃ b, (x == s) = b := ⟨_, rfl⟩
   cases b with
   | true =>
    have HB := Lib.hid hb
    go_wp2_with fail
    go_ret
    refine ⟨⟨_, rfl, ⟨fun _ => ?_, fun _ => by omega⟩⟩, rfl⟩
    have e : x = s := by simpa using HB.out
    rw [← e]; exact List.mem_of_getElem? HX.out
   | false =>
    have HB := Lib.hid hb
    go_wp2_with fail
    go_roundw
    case rel => exact ⟨i + 1, by go_num, rfl, by omega, Lib.hid (notin_step HX.out hs.out HB.out), trivial⟩
    case measure => simp [intOf]; omega
  ·obtain rfl : i = n := by omega
   have hz : ¬ (i : Int) < (i : Int) := by omega
   have h2 := hs.out
   rw [← HN.out, List.take_length] at h2
   have HS := Lib.hid h2
   clear h2 hs
   go_wp2_with fail
   go_ret
   exact ⟨⟨_, rfl, ⟨fun h => by omega, fun h => absurd h HS.out⟩⟩, rfl⟩
set_option maxHeartbeats 4000000 in
theorem index80 (xs : List Nm) (g n c : Nat) (s : Nm) (w : World) (hrow : ∀ j nm, xs[j]? = some nm → w.cell? ⟨g, j, none⟩ = some (sv nm)) (hn : xs.length = n) (hm : n ≤ maxLen) : Calls Try.prog 80 #[.slice (some ⟨g, 0, none⟩) n c, sv s] w (FindP xs s w) := by
 unfold maxLen at hm
 have HR := Lib.hid hrow; have HN := Lib.hid hn
 clear hrow hn
 go_enter Try.func80, Try.ntmps80
 go_wp2_with fail
 go_loopw [4, 5] (fun rv iv wr => ∃ i : Nat, iv = .int .i64 i ∧ rv = .int .i64 0 ∧ i ≤ n ∧ Hid (s ∉ xs.take i) ∧ wr = w) (fun _ iv _ => n + 1 - (intOf iv).toNat)
 case atStart => exact ⟨0, rfl, rfl, Nat.zero_le _, Lib.hid (by simp), rfl⟩
 case round =>
  obtain ⟨i, rfl, rfl, hin, hs, rfl⟩ := hrel
  by_cases hlt : i < n
  ·have hji : (i : Int) < (n : Int) := by omega
   obtain ⟨x, hx⟩ : ∃ x, xs[i]? = some x := ⟨_, List.getElem?_eq_getElem (by rw [HN.out]; exact hlt)⟩
   have q0 := HR.out i x hx
   have HX := Lib.hid hx
   clear hx
   obtain ⟨b, hb⟩ : ∃ b, (x == s) = b := ⟨_, rfl⟩
   cases b with
   | true =>
    have HB := Lib.hid hb
    go_wp2_with fail
    go_ret
    refine ⟨⟨_, rfl, ⟨fun _ => ?_, fun _ => by omega⟩⟩, rfl⟩
    have e : x = s := by simpa using HB.out
    rw [← e]; exact List.mem_of_getElem? HX.out
   | false =>
    have HB := Lib.hid hb
    go_wp2_with fail
    go_roundw
    case rel => exact ⟨i + 1, by go_num, rfl, by omega, Lib.hid (notin_step HX.out hs.out HB.out), trivial⟩
    case measure => simp [intOf]; omega
  ·obtain rfl : i = n := by omega
   have hz : ¬ (i : Int) < (i : Int) := by omega
   have h2 := hs.out
   rw [← HN.out, List.take_length] at h2
   have HS := Lib.hid h2
   clear h2 hs
   go_wp2_with fail
   go_ret
   exact ⟨⟨_, rfl, ⟨fun h => by omega, fun h => absurd h HS.out⟩⟩, rfl⟩
end Go.Proofs.Ytpnbpepkoekkoaa
end
