/- The contract of (*lex.scanner).run: the longest text from the place on whose bytes are of some classes. -/
import Derived.Test.YtabdpmcdlojliaaDoorA1
import Derived.Deep.QuietTactic
import Derived.BigQuiet
namespace Go.Proofs.YtabdpmcdlojliaaDoor
open Go.RowKit

theorem takeWhile_all {p : UInt8 → Bool} : ∀ (l : List UInt8) (j : Nat), j ≤ l.length → (l.take j).all p = true → (∀ c, l[j]? = some c → p c = false) → runLen p l = j := by
  intro l
  induction l with
  | nil => intro j hj _ _; simp at hj; subst hj; rfl
  | cons d r ih =>
    intro j hj ha hc
    cases j with
    | zero => have := hc d (by simp); unfold runLen; rw [List.takeWhile_cons_of_neg (by simp [this])]; rfl
    | succ j =>
      simp at hj ha
      have := ih j (by omega) (by simpa using ha.2) (fun c h => hc c (by simpa using h))
      unfold runLen at this ⊢; rw [List.takeWhile_cons_of_pos ha.1]; simp [this]

/-- The part of a text from a place on whose bytes have a property. -/
def runText (p : UInt8 → Bool) (src : ByteArray) (a : Nat) : List UInt8 := (src.data.toList.drop a).take (runLen p (src.data.toList.drop a))
def inCls (zs : List Int) (c : UInt8) : Bool := zs.contains (cl c)

theorem extract_list (src : ByteArray) (a k : Nat) : src.extract a k = ⟨((src.data.toList.drop a).take (k - a)).toArray⟩ := by
  apply ByteArray.ext
  rw [ByteArray.data_extract]
  apply Array.toList_inj.1
  rw [Array.toList_extract]

theorem run_stop {p : UInt8 → Bool} {src : ByteArray} {a k : Nat} (h0 : a ≤ k) (hk : k ≤ src.size) (ha : ((src.data.toList.drop a).take (k - a)).all p = true) (hc : ∀ c, src.data.toList[k]? = some c → p c = false) :
    src.extract a k = ⟨(runText p src a).toArray⟩ := by
  rw [extract_list]; unfold runText
  rw [takeWhile_all (p := p) (src.data.toList.drop a) (k - a) (by simp; omega) ha (fun c h => hc c (by rw [List.getElem?_drop] at h; rwa [show a + (k - a) = k by omega] at h))]
theorem run_go {p : UInt8 → Bool} {src : ByteArray} {a k : Nat} {c : UInt8} (h0 : a ≤ k) (ha : ((src.data.toList.drop a).take (k - a)).all p = true) (hc : src.data.toList[k]? = some c) (hp : p c = true) :
    ((src.data.toList.drop a).take (k + 1 - a)).all p = true := by
  rw [show k + 1 - a = (k - a) + 1 by omega, List.take_add_one, List.getElem?_drop, show a + (k - a) = k by omega, hc, List.all_append, ha]; simp [hp]
theorem ret_string {a : ByteArray} {l : ByteArray} (h : a = l) : Ending.returned (.string a) = .returned (.string l) := by rw [h]

set_option maxHeartbeats 1000000 in
theorem run_any (S b a c : Nat) (src : ByteArray) (zs : List Int) (w : World) (hS0 : w.cell? ⟨S, 0, none⟩ = some (.string src)) (hS1 : w.cell? ⟨S, 1, none⟩ = some (.int .i64 a))
    (hz : zs.length ≤ 5) (hcls : ∀ j, j < zs.length → w.cell? ⟨b, 0 + j, none⟩ = some (.int .i64 (zs.getD j 0))) (hs : src.size ≤ maxLen) (ha : a ≤ src.size) :
    Calls Tryd.prog 43 #[.pointer (some ⟨S, 0, none⟩), .slice (some ⟨b, 0, none⟩) zs.length c] w fun e w' => e = .returned (.string ⟨(runText (inCls zs) src a).toArray⟩) ∧ ∃ k, w' = w.drewN k := by
  unfold maxLen at hs
  have HC := Lib.hid hcls; clear hcls
  go_enter Tryd.func43, Tryd.ntmps43
  go_wp2_with fail
  go_loop [5] (fun i => ∃ k : Nat, a ≤ k ∧ k ≤ src.size ∧ i = .int .i64 k ∧ Hid (((src.data.toList.drop a).take (k - a)).all (inCls zs) = true)) (fun i => src.size - (intOf i).toNat)
  case atStart => exact ⟨a, Nat.le_refl _, ha, rfl, by simp [Hid]⟩
  case round =>
    obtain ⟨k, hk0, hk, rfl, hall⟩ := hrel
    by_cases hlt : k < src.size
    · have hb := Lib.hid (getElem_byte src k hlt)
      by_cases hin : decide (cls src[k].toNat ∈ zs) = true
      · go_wp2_with (first | (go_at_call 30; refine (class_any _ _).mono ?_; rintro e w' ⟨rfl, rfl⟩) | (go_at_call 52; refine (Tryd.slices_Contains_int b 0 zs.length c zs _ _ (Nat.le_refl _) (by omega) HC.out).mono ?_; rintro e w' ⟨rfl, hw⟩; obtain rfl := hw.symm; clear hw))
        go_round
        case rel => exact ⟨k + 1, by omega, by omega, by go_num, run_go hk0 hall.out hb.out (by unfold inCls cl; simpa using hin)⟩
        case measure => simp [intOf]; omega
      · have hin' : decide (cls src[k].toNat ∈ zs) = false := by simpa using hin
        clear hin
        go_wp2_with (first | (go_at_call 30; refine (class_any _ _).mono ?_; rintro e w' ⟨rfl, rfl⟩) | (go_at_call 52; refine (Tryd.slices_Contains_int b 0 zs.length c zs _ _ (Nat.le_refl _) (by omega) HC.out).mono ?_; rintro e w' ⟨rfl, hw⟩; obtain rfl := hw.symm; clear hw))
        have hq := Lib.hid hin'; clear hin'
        go_quiet (fail)
        go_wp2
        go_ret
        exact ⟨ret_string (run_stop hk0 hk hall.out (fun c h => by have := hb.out.symm.trans h; injection this with this; subst this; have := hq.out; unfold inCls cl; simpa using this)), _, rfl⟩
    · go_wp2_with (first | (go_at_call 30; refine (class_any _ _).mono ?_; rintro e w' ⟨rfl, rfl⟩))
      go_quiet (fail)
      go_wp2
      go_ret
      exact ⟨ret_string (run_stop hk0 hk hall.out (fun c h => by rw [List.getElem?_eq_none (by simp; omega)] at h; cases h)), _, rfl⟩
end Go.Proofs.YtabdpmcdlojliaaDoor
