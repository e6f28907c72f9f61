/- The contract of lex.valid. -/
import Derived.Test.YtabdpmcdlojliaaDoorA2
namespace Go.Proofs.YtabdpmcdlojliaaDoor
open Go.RowKit

/-- A token as a value, and as cells. -/
def tokCells (kd : Int) (tx : ByteArray) (nm ps : Int) : Array Value := #[.int .i64 kd, .string tx, .int .i64 nm, .int .i64 ps]

theorem list_one {s : ByteArray} (h : s.size = 1) : s.data.toList = [s[0]] := by
  apply List.ext_getElem?
  intro i
  match i with
  | 0 => rw [getElem_byte s 0 (by omega)]; rfl
  | i + 1 => rw [List.getElem?_eq_none (by simp; omega), List.getElem?_eq_none (by simp)]
theorem list_not_one {s : ByteArray} (h : ¬ (s.size : Int) = 1) : (match s.data.toList with | [c] => isSign c | _ => false) = false := by
  split
  · rename_i c hc
    have : s.data.toList.length = 1 := by rw [hc]; rfl
    rw [show s.data.toList.length = s.size by simp] at this; omega
  · rfl

section
variable {kd nm ps : Int} {l : List UInt8} {tx : ByteArray}
theorem validT_1 (h : (kd == 1) = true) (hn : nameOk l = true) : (nm == 0) = validT ⟨kd, l, nm, ps⟩ := by
  have : kd = 1 := by simpa using h
  subst this; unfold validT; simp [hn]; rfl
theorem validT_1f (h : (kd == 1) = true) (hn : ¬ nameOk l = true) : false = validT ⟨kd, l, nm, ps⟩ := by
  have : kd = 1 := by simpa using h
  subst this; unfold validT; simp [hn]
theorem validT_2 (h : (kd == 2) = true) (hl : tx.toList = []) (h0 : 0 ≤ nm) : decide (nm ≤ 1099511627776) = validT ⟨kd, tx.data.toList, nm, ps⟩ := by
  have : kd = 2 := by simpa using h
  rw [ByteArray.toList_eq] at hl
  subst this; unfold validT; simp [hl, h0]
theorem validT_2n (h : (kd == 2) = true) (h0 : nm < 0) : false = validT ⟨kd, l, nm, ps⟩ := by
  have : kd = 2 := by simpa using h
  subst this; unfold validT; simp; omega
theorem validT_2t (h : (kd == 2) = true) (hl : ¬ tx.toList = []) : false = validT ⟨kd, tx.data.toList, nm, ps⟩ := by
  have : kd = 2 := by simpa using h
  rw [ByteArray.toList_eq] at hl
  subst this; unfold validT; simp [hl]
theorem validT_3 (h : (kd == 3) = true) (hl : tx.size = 1) (h0 : cls tx[0].toNat = 4) : (nm == 0) = validT ⟨kd, tx.data.toList, nm, ps⟩ := by
  have : kd = 3 := by simpa using h
  subst this; unfold validT isSign cl; simp [list_one hl, h0]; rfl
theorem validT_3c (h : (kd == 3) = true) (hl : tx.size = 1) (h0 : ¬ cls tx[0].toNat = 4) : false = validT ⟨kd, tx.data.toList, nm, ps⟩ := by
  have : kd = 3 := by simpa using h
  subst this; unfold validT isSign cl; simp [list_one hl, h0]
theorem validT_3l (h : (kd == 3) = true) (hl : ¬ (tx.size : Int) = 1) : false = validT ⟨kd, tx.data.toList, nm, ps⟩ := by
  have : kd = 3 := by simpa using h
  subst this; unfold validT
  rw [if_neg (by show ¬ (3 : Int) = 1; decide), if_neg (by show ¬ (3 : Int) = 2; decide), if_pos rfl]
  show false = ((match tx.data.toList with | [c] => isSign c | _ => false) && decide (nm = 0))
  rw [list_not_one hl]; rfl
theorem validT_0 (h1 : (kd == 1) = false) (h2 : (kd == 2) = false) (h3 : (kd == 3) = false) : false = validT ⟨kd, l, nm, ps⟩ := by
  simp at h1 h2 h3
  unfold validT; simp [h1, h2, h3]
end

set_option maxHeartbeats 1000000 in
theorem valid_any (kd : Int) (tx : ByteArray) (nm ps : Int) (w : World) (hs : tx.size ≤ maxLen) :
    Calls Tryd.prog 36 #[.agg #[.int .i64 kd, .string tx, .int .i64 nm, .int .i64 ps]] w fun e w' => e = .returned (.bool (validT ⟨kd, tx.data.toList, nm, ps⟩)) ∧ Below w.heap.size w w' := by
  go_enter Tryd.func36, Tryd.ntmps36
  go_wp2_with (first | (go_at_call 30; refine (class_any _ _).mono ?_; rintro e w' ⟨rfl, rfl⟩) | (go_at_call 20; refine (lname_any _ _ hs).mono ?_; rintro e w' ⟨rfl, rfl⟩))
  all_goals
    go_ret
    refine ⟨ret_bool ?_, (Below.refl _ _).alloc (Nat.le_refl _) _⟩
    first
      | exact validT_1 (by assumption) (by assumption)
      | exact validT_1f (by assumption) (by assumption)
      | exact validT_2 (by assumption) (by assumption) (by assumption)
      | exact validT_2n (by assumption) (by assumption)
      | exact validT_2t (by assumption) (by assumption)
      | exact validT_3 (by assumption) (by omega) (by assumption)
      | exact validT_3c (by assumption) (by omega) (by assumption)
      | exact validT_3l (by assumption) (by assumption)
      | exact validT_0 (by assumption) (by assumption) (by assumption)
end Go.Proofs.YtabdpmcdlojliaaDoor
