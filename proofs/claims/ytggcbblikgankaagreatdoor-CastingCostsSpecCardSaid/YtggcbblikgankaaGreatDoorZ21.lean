/- Contracts and plain laws on the way to the statement: part 21. -/
import Derived.Test.YtggcbblikgankaaGreatDoorZ14
import Derived.Test.YtggcbblikgankaaGreatDoorZ10
import Derived.WalkSpells
import Derived.WalkLawsBesides
import Derived.Lib.Bytealg
import Derived.Test.YtggcbblikgankaaGreatDoorZ3
set_option linter.unusedVariables false
set_option linter.unusedSimpArgs false
set_option maxRecDepth 100000
set_option maxHeartbeats 16000000
namespace Go.Proofs.YtggcbblikgankaaGreatDoor
open Go.Value (int)
open Go.IntKind (i64)
section
open Go.RowKit
def Gg : List UInt8 := [123, 125, 40, 41, 59, 44, 61, 58, 46, 60, 62, 33, 43, 45, 42, 47]
def cls (n : Nat) : Int :=
  if (97 ≤ n ∧ n ≤ 122) ∨ (65 ≤ n ∧ n ≤ 90) then 2 else if 48 ≤ n ∧ n ≤ 57 then 3 else if n = 95 then 5
  else if n = 32 ∨ n = 9 ∨ n = 10 ∨ n = 13 then 1 else if 0 ≤ Lib.indexByte Gg (UInt8.ofNat n) then 4 else 0
theorem Iy {n : Nat} (h : (97 ≤ n ∧ n ≤ 122) ∨ (65 ≤ n ∧ n ≤ 90)) : cls n = 2 := by unfold cls; rw [if_pos h]
theorem Jq {n : Nat} (h : 48 ≤ n ∧ n ≤ 57) : cls n = 3 := by unfold cls; rw [if_neg (by omega), if_pos h]
theorem Kw {n : Nat} (h : n = 95) : cls n = 5 := by unfold cls; rw [if_neg (by omega), if_neg (by omega), if_pos h]
theorem P9 {n : Nat} (h : n = 32 ∨ n = 9 ∨ n = 10 ∨ n = 13) : cls n = 1 := by
  unfold cls; rw [if_neg (by omega), if_neg (by omega), if_neg (by omega), if_pos h]
theorem PV {n : Nat} (h1 : ¬ ((97 ≤ n ∧ n ≤ 122) ∨ (65 ≤ n ∧ n ≤ 90))) (h2 : ¬ (48 ≤ n ∧ n ≤ 57)) (h3 : ¬ n = 95) (h4 : ¬ (n = 32 ∨ n = 9 ∨ n = 10 ∨ n = 13))
    (h : 0 ≤ Lib.indexByte [123, 125, 40, 41, 59, 44, 61, 58, 46, 60, 62, 33, 43, 45, 42, 47] (UInt8.ofNat n)) : cls n = 4 := by
  unfold cls; rw [if_neg h1, if_neg h2, if_neg h3, if_neg h4, if_pos (by unfold Gg; exact h)]
theorem O0 {n : Nat} (h1 : ¬ ((97 ≤ n ∧ n ≤ 122) ∨ (65 ≤ n ∧ n ≤ 90))) (h2 : ¬ (48 ≤ n ∧ n ≤ 57)) (h3 : ¬ n = 95) (h4 : ¬ (n = 32 ∨ n = 9 ∨ n = 10 ∨ n = 13))
    (h : Lib.indexByte [123, 125, 40, 41, 59, 44, 61, 58, 46, 60, 62, 33, 43, 45, 42, 47] (UInt8.ofNat n) < 0) : cls n = 0 := by
  unfold cls; rw [if_neg h1, if_neg h2, if_neg h3, if_neg h4, if_neg (by unfold Gg; omega)]
def cl (c : UInt8) : Int := cls c.toNat
def Ip (c : UInt8) : Bool := cl c == 2
def E0 (c : UInt8) : Bool := cl c == 2 || cl c == 3 || cl c == 5
def BW (l : List UInt8) : Bool := (match l with | [] => false | c :: _ => Ip c) && decide (l.length ≤ 32) && l.all E0
theorem DG (n : Nat) (w : World) :
    Calls Tryz.prog 89 #[.int .u8 n] w fun e w' => e = .returned (int i64 (cls n)) ∧ w = w' := by
  go_enter Tryz.func89, Tryz.ntmps89
  go_wp2_with (go_at_call 118; refine (Tryz.strings_IndexByte _ _ _).mono ?_; rintro e w' ⟨rfl, rfl⟩)
  all_goals
    go_ret
    refine ⟨Af ?_, rfl⟩
    try simp only [beq_iff_eq, beq_eq_false_iff_ne, ne_eq] at *
    first
      | exact (Iy (by omega)).symm
      | exact (Jq (by omega)).symm
      | exact (Kw (by omega)).symm
      | exact (P9 (by omega)).symm
      | exact (PV (by omega) (by omega) (by omega) (by omega) (by assumption)).symm
      | exact (O0 (by omega) (by omega) (by omega) (by omega) (by assumption)).symm
theorem BN (s : ByteArray) (k : Nat) (h : k < s.size) : s.data.toList[k]? = some s[k] := by
  rw [qg (by simpa using h)]; rfl
theorem FA {l : List UInt8} (h : l = []) : BW l = false := by subst h; rfl
theorem Gp {l : List UInt8} (h : 32 < l.length) : BW l = false := by
  unfold BW; have : decide (l.length ≤ 32) = false := by simp; omega
  rw [this]; simp
theorem Gr {l : List UInt8} {c : UInt8} (h : l[0]? = some c) (hc : cls c.toNat ≠ 2) : BW l = false := by
  cases l with
  | nil => rfl
  | cons d r => simp at h; subst h; unfold BW Ip cl; simp [hc]
theorem Gv {l : List UInt8} {k : Nat} {c : UInt8} (h : l[k]? = some c) (h2 : cls c.toNat ≠ 2) (h3 : cls c.toNat ≠ 3) (h5 : cls c.toNat ≠ 5) : BW l = false := by
  have : l.all E0 = false := by
    rw [List.all_eq_false]; exact ⟨c, List.mem_of_getElem? h, by unfold E0 cl; simp [h2, h3, h5]⟩
  unfold BW; rw [this]; simp
theorem Gk {l : List UInt8} {c : UInt8} (h : l[0]? = some c) (hc : cls c.toNat = 2) (hl : l.length ≤ 32) (ha : l.all E0 = true) : BW l = true := by
  cases l with
  | nil => simp at h
  | cons d r => simp at h; subst h; unfold BW; rw [ha]; unfold Ip cl; simp at hl; simp [hc]; omega
theorem Fw {l : List UInt8} {k : Nat} {c : UInt8} (h : l[k]? = some c) (ha : (l.take k).all E0 = true) (hc : cls c.toNat = 2 ∨ cls c.toNat = 3 ∨ cls c.toNat = 5) : (l.take (k + 1)).all E0 = true := by
  rw [List.take_add_one, List.all_append, ha, h]; unfold E0 cl
  rcases hc with hc | hc | hc <;> simp [hc]
theorem Ol {s : ByteArray} (h : 0 < s.size) : s.toList.isEmpty = false := by
  rw [ByteArray.toList_eq, List.isEmpty_eq_false_iff]
  intro e; have h2 : s.data.toList.length = 0 := by rw [e]; rfl
  rw [show s.data.toList.length = s.size by simp] at h2; omega
theorem R8 {x : Int} (h : ((x != 2) = false ∨ (x != 3) = false) ∨ (x != 5) = false) : x = 2 ∨ x = 3 ∨ x = 5 := by
  simp only [bne_eq_false_iff_eq] at h; omega
theorem Ig {s : ByteArray} (h : s.size = 0) : s.toList = [] := by
  rw [ByteArray.toList_eq]; exact List.length_eq_zero_iff.1 (by simpa using h)
theorem O4 (s : ByteArray) (w : World) (hs : s.size ≤ maxLen) :
    Calls Tryz.prog 64 #[.string s] w fun e w' => e = .returned (.bool (BW s.data.toList)) ∧ w = w' := by
  unfold maxLen at hs
  have hsz : s.data.toList.length = s.size := by simp
  have HZ := qh hsz; clear hsz
  by_cases hpos : 0 < s.size
  · have hne := Ol hpos
    have hne2 : ¬ s.toList = [] := by intro e; rw [e] at hne; simp at hne
    by_cases h32 : s.size ≤ 32
    · by_cases hc : (cls s[0].toNat == 2) = true
      · have hc' : (cls s[0].toNat != 2) = false := by simpa using hc
        have HC := qh hc; clear hc
        go_enter Tryz.func64, Tryz.ntmps64
        go_wp2_with (go_at_call 89; refine (DG _ _).mono ?_; rintro e w' ⟨rfl, rfl⟩)
        go_loop [20] (fun i => ∃ k : Nat, k ≤ s.size ∧ i = int i64 k ∧ Hid ((s.data.toList.take k).all E0 = true)) (fun i => s.size - (intOf i).toNat)
        case atStart => exact ⟨0, Nat.zero_le _, rfl, by simp [Hid]⟩
        case round =>
          obtain ⟨k, hk, rfl, hall⟩ := hrel
          by_cases hlt : k < s.size
          · have hb := qh (BN s k hlt)
            go_wp2_with (go_at_call 89; refine (DG _ _).mono ?_; rintro e w' ⟨rfl, rfl⟩)
            all_goals first
              | (go_ret; exact ⟨Aa (Gv hb.out (by assumption) (by assumption) (by simp_all)).symm, rfl⟩)
              | (go_round
                 case rel => exact ⟨k + 1, by omega, by go_num, Fw hb.out hall.out (by first | exact Or.inl (by assumption) | exact Or.inr (Or.inl (by assumption)) | exact R8 (by assumption))⟩
                 case measure => simp [intOf]; omega)
          · go_wp2
            go_ret
            refine ⟨Aa (Gk (BN s 0 hpos) (by have := HC.out; simpa using this) (by rw [HZ.out]; omega) ?_).symm, rfl⟩
            have := hall.out
            rwa [List.take_of_length_le (by rw [HZ.out]; omega)] at this
      · have hc' : (cls s[0].toNat != 2) = true := by simpa using hc
        go_enter Tryz.func64, Tryz.ntmps64
        go_wp2_with (go_at_call 89; refine (DG _ _).mono ?_; rintro e w' ⟨rfl, rfl⟩)
        go_ret
        exact ⟨Aa (Gr (BN s 0 hpos) (by simpa using hc')).symm, rfl⟩
    · go_enter Tryz.func64, Tryz.ntmps64
      go_wp2_with (go_at_call 89; refine (DG _ _).mono ?_; rintro e w' ⟨rfl, rfl⟩)
      go_ret
      exact ⟨Aa (Gp (by rw [HZ.out]; omega)).symm, rfl⟩
  · have he := Ig (s := s) (by omega)
    go_enter Tryz.func64, Tryz.ntmps64
    go_wp2_with (go_at_call 89; refine (DG _ _).mono ?_; rintro e w' ⟨rfl, rfl⟩)
    go_ret
    exact ⟨Aa (FA (by rw [← ByteArray.toList_eq]; exact he)).symm, rfl⟩
end
end Go.Proofs.YtggcbblikgankaaGreatDoor
