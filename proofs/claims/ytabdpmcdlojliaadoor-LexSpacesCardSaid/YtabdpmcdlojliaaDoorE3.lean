/- The contract of the reference's Few. -/
import Derived.Test.YtabdpmcdlojliaaDoorB3
namespace Go.Proofs.YtabdpmcdlojliaaDoor
open Go.RowKit

def textSum (ts : List Tok) : Nat := (ts.map fun t => t.text.length).sum
def fewT (ts : List Tok) : Bool := decide (ts.length ≤ 200) && decide (textSum ts ≤ 2000)

theorem textSum_take {ts : List Tok} {k : Nat} {x : Tok} (h : ts[k]? = some x) : textSum (ts.take (k + 1)) = textSum (ts.take k) + x.text.length := by
  unfold textSum; rw [List.take_add_one, h, List.map_append, List.sum_append]; simp
theorem textSum_le {ts : List Tok} {m : Nat} (h : ∀ t ∈ ts, t.text.length ≤ m) : textSum ts ≤ ts.length * m := by
  induction ts with
  | nil => simp [textSum]
  | cons t r ih =>
    have h1 := h t (by simp)
    have h2 := ih (fun u hu => h u (by simp [hu]))
    unfold textSum at h2 ⊢
    simp only [List.map_cons, List.sum_cons, List.length_cons, Nat.add_mul, Nat.one_mul]
    omega

set_option maxHeartbeats 1000000 in
theorem few_some (b o c : Nat) (ts : List Tok) (w : World) (h1 : TokAt w b o ts) (hn : ts.length ≤ 200) (ht : ∀ t ∈ ts, t.text.length ≤ 140737488351232) :
    Calls Tryd.prog 15 #[.slice (some ⟨b, o, none⟩) ts.length c] w fun e w' => e = .returned (.bool (fewT ts)) ∧ w = w' := by
  have H1 := Lib.hid h1; clear h1
  have HT := Lib.hid ht; clear ht
  generalize hnn : ts.length = n at *
  have HN := Lib.hid hnn; clear hnn
  go_enter Tryd.func15, Tryd.ntmps15
  go_wp2_with fail
  go_loop [3, 4] (fun v i => ∃ k s : Nat, k ≤ n ∧ i = .int .i64 k ∧ v = .int .i64 s ∧ s ≤ k * 140737488351232 ∧ Hid (s = textSum (ts.take k))) (fun _ i => n - (intOf i).toNat)
  case atStart => exact ⟨0, 0, Nat.zero_le _, rfl, rfl, by omega, Lib.hid rfl⟩
  case round =>
    obtain ⟨k, s, hk, rfl, rfl, hs, hsum⟩ := hrel
    by_cases hlt : k < n
    · obtain ⟨x, hx⟩ : ∃ x, ts[k]? = some x := ⟨_, List.getElem?_eq_getElem (by rw [HN.out]; exact hlt)⟩
      have hxl := HT.out x (List.mem_of_getElem? hx)
      obtain ⟨p0, p1, p2, p3⟩ := H1.out k x hx
      clear p0 p2 p3
      have hlen : (⟨x.text.toArray⟩ : ByteArray).size = x.text.length := by show x.text.toArray.size = _; simp
      have HX := Lib.hid hx; clear hx
      have hlt' : (k : Int) < (n : Int) := by omega
      go_wp2
      go_round
      case rel =>
        refine ⟨k + 1, s + x.text.length, by omega, by go_num, by go_num, by omega, Lib.hid ?_⟩
        rw [textSum_take HX.out, ← hsum.out]
      case measure => simp [intOf]; omega
    · obtain rfl : k = n := by omega
      have hs2 := hsum.out
      rw [← HN.out, List.take_length] at hs2
      have hin : ¬ (k : Int) < (k : Int) := by omega
      go_wp2
      go_ret
      refine ⟨ret_bool ?_, rfl⟩
      unfold fewT
      rw [HN.out, ← hs2]
      rw [Bool.eq_iff_iff]; simp; omega

set_option maxHeartbeats 1000000 in
theorem few_many (b o c n : Nat) (ts : List Tok) (w : World) (h1 : TokAt w b o ts) (hnn : ts.length = n) (hn : 200 < n) (hm : n ≤ 3518437208784) (ht : ∀ t ∈ ts, t.text.length ≤ 140737488351232) :
    Calls Tryd.prog 15 #[.slice (some ⟨b, o, none⟩) n c] w fun e w' => e = .returned (.bool false) ∧ w = w' := by
  have H1 := Lib.hid h1; clear h1
  have HT := Lib.hid ht; clear ht
  have HN := Lib.hid hnn; clear hnn
  go_enter Tryd.func15, Tryd.ntmps15
  go_wp2_with fail
  go_loop [3, 4] (fun v i => ∃ (k : Nat) (s : Int), k ≤ n ∧ i = .int .i64 k ∧ v = .int .i64 s) (fun _ i => n - (intOf i).toNat)
  case atStart => exact ⟨0, 0, Nat.zero_le _, rfl, rfl⟩
  case round =>
    obtain ⟨k, s, hk, rfl, rfl⟩ := hrel
    by_cases hlt : k < n
    · obtain ⟨x, hx⟩ : ∃ x, ts[k]? = some x := ⟨_, List.getElem?_eq_getElem (by rw [HN.out]; exact hlt)⟩
      obtain ⟨p0, p1, p2, p3⟩ := H1.out k x hx
      clear p0 p2 p3
      have HX := Lib.hid hx; clear hx
      have hlt' : (k : Int) < (n : Int) := by omega
      go_wp2
      go_round
      case rel => exact ⟨k + 1, _, by omega, by go_num, rfl⟩
      case measure => simp [intOf]; omega
    · obtain rfl : k = n := by omega
      have hin : ¬ (k : Int) < (k : Int) := by omega
      go_wp2
      go_ret
      exact ⟨rfl, rfl⟩

set_option maxHeartbeats 1000000 in
theorem few_zero (ao : Option Addr) (c : Nat) (w : World) :
    Calls Tryd.prog 15 #[.slice ao 0 c] w fun e w' => e = .returned (.bool true) ∧ w = w' := by
  go_enter Tryd.func15, Tryd.ntmps15
  go_wp2_with fail
  go_loop [3, 4] (fun v i => i = .int .i64 0 ∧ v = .int .i64 0) (fun _ _ => 0)
  case atStart => exact ⟨rfl, rfl⟩
  case round =>
    obtain ⟨rfl, rfl⟩ := hrel
    go_wp2
    go_ret
    exact ⟨rfl, rfl⟩

theorem few_any (v : Value) (ts : List Tok) (w : World) (h1 : IsToks w v ts) (hn : ts.length ≤ 3518437208784) (ht : ∀ t ∈ ts, t.text.length ≤ 140737488351232) :
    Calls Tryd.prog 15 #[v] w fun e w' => e = .returned (.bool (fewT ts)) ∧ w = w' := by
  rcases h1 with ⟨ao, c, rfl, rfl⟩ | ⟨b, o, c, rfl, t1, l1⟩
  · exact few_zero ao c w
  · by_cases h : ts.length ≤ 200
    · exact few_some b o c ts w t1 h ht
    · have := few_many b o c ts.length ts w t1 rfl (by omega) hn ht
      have hf : fewT ts = false := by unfold fewT; simp; omega
      rw [hf]; exact this
end Go.Proofs.YtabdpmcdlojliaaDoor
