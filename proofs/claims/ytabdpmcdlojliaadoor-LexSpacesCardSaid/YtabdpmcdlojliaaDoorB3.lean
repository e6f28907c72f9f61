/- Contracts of the reference's Same, Equal, Few. -/
import Derived.Test.YtabdpmcdlojliaaDoorB2
namespace Go.Proofs.YtabdpmcdlojliaaDoor
open Go.RowKit

theorem TokAt.drewN {w : World} {b o : Nat} {ts : List Tok} (h : TokAt w b o ts) (n : Nat) : TokAt (w.drewN n) b o ts := h

theorem eqT_kind {x y : Tok} (h : ¬ x.kind = y.kind) : eqT x y = false := by unfold eqT; simp [h]
theorem eqT_text {x y : Tok} (h : ¬ x.text = y.text) : eqT x y = false := by unfold eqT; simp [h]
theorem eqT_num {x y : Tok} (h : ¬ x.num = y.num) : eqT x y = false := by unfold eqT; simp [h]
theorem eqT_yes {x y : Tok} (h1 : x.kind = y.kind) (h2 : x.text = y.text) (h3 : x.num = y.num) : eqT x y = true := by unfold eqT; simp [h1, h2, h3]

set_option maxHeartbeats 1000000 in
theorem rsame_some (b1 o1 c1 b2 o2 c2 : Nat) (xs ys : List Tok) (w : World) (h1 : TokAt w b1 o1 xs) (h2 : TokAt w b2 o2 ys) (hn : xs.length ≤ 281474976710656) (hl : xs.length = ys.length) :
    Calls Tryd.prog 19 #[.slice (some ⟨b1, o1, none⟩) xs.length c1, .slice (some ⟨b2, o2, none⟩) ys.length c2] w fun e w' => e = .returned (.bool (sameT xs ys)) ∧ ∃ n, w' = w.drewN n := by
  have H1 := Lib.hid h1; have H2 := Lib.hid h2; clear h1 h2
  generalize hnn : ys.length = n at *
  have HN := Lib.hid hnn; have HL := Lib.hid hl; clear hnn
  rw [hl] at hn ⊢
  clear hl
  go_enter Tryd.func19, Tryd.ntmps19
  go_wp2_with fail
  go_loopw [5] (fun i wr => ∃ k : Nat, k ≤ n ∧ i = .int .i64 k ∧ (∃ m, wr = w.drewN m) ∧ Hid (∀ (j : Nat) (x y : Tok), j < k → xs[j]? = some x → ys[j]? = some y → eqT x y = true)) (fun i _ => n - (intOf i).toNat)
  case atStart => exact ⟨0, Nat.zero_le _, rfl, ⟨0, rfl⟩, fun j x y h => by omega⟩
  case round =>
    obtain ⟨k, hk, rfl, ⟨m, rfl⟩, hall⟩ := hrel
    by_cases hlt : k < n
    · obtain ⟨x, hx⟩ : ∃ x, xs[k]? = some x := ⟨_, List.getElem?_eq_getElem (by rw [HL.out]; exact hlt)⟩
      obtain ⟨y, hy⟩ : ∃ y, ys[k]? = some y := ⟨_, List.getElem?_eq_getElem (by rw [HN.out]; exact hlt)⟩
      obtain ⟨p0, p1, p2, p3⟩ := H1.out k x hx
      obtain ⟨q0, q1, q2, q3⟩ := H2.out k y hy
      have HX := Lib.hid hx; have HY := Lib.hid hy; clear hx hy
      have hlt' : (k : Int) < (n : Int) := by omega
      by_cases e1 : x.kind = y.kind
      · have n1 : (x.kind == y.kind) = true := by simpa using e1
        have n2 : (x.kind != y.kind) = false := by simpa using e1
        have E1 := Lib.hid e1; clear e1
        by_cases e2 : x.text = y.text
        · have n3 : (x.text == y.text) = true := by simpa using e2
          have n4 : (x.text != y.text) = false := by simpa using e2
          have E2 := Lib.hid e2; clear e2
          by_cases e3 : x.num = y.num
          · have n5 : (x.num == y.num) = true := by simpa using e3
            have n6 : (x.num != y.num) = false := by simpa using e3
            have E3 := Lib.hid e3; clear e3
            go_wp2_with fail
            go_quiet (fail)
            go_wp2
            go_roundw
            case rel =>
              refine ⟨k + 1, by omega, by go_num, ⟨m + nq, by simp⟩, ?_⟩
              intro j x' y' hj hx' hy'
              by_cases hjk : j = k
              · subst hjk
                have e1 := HX.out.symm.trans hx'; have e2 := HY.out.symm.trans hy'
                injection e1 with e1; injection e2 with e2; subst e1; subst e2; exact eqT_yes E1.out E2.out E3.out
              · exact hall.out j x' y' (by omega) hx' hy'
            case measure => simp [intOf]; omega
          · have n5 : (x.num == y.num) = false := by simpa using e3
            have n6 : (x.num != y.num) = true := by simpa using e3
            have E3 := Lib.hid e3; clear e3
            go_wp2_with fail
            go_quiet (fail)
            go_wp2
            go_ret
            exact ⟨ret_bool (sameT_bad _ _ _ _ _ HX.out HY.out (eqT_num E3.out)).symm, m + nq, by simp⟩
        · have n3 : (x.text == y.text) = false := by simpa using e2
          have n4 : (x.text != y.text) = true := by simpa using e2
          have E2 := Lib.hid e2; clear e2
          go_wp2_with fail
          go_quiet (fail)
          go_wp2
          go_ret
          exact ⟨ret_bool (sameT_bad _ _ _ _ _ HX.out HY.out (eqT_text E2.out)).symm, m + nq, by simp⟩
      · have n1 : (x.kind == y.kind) = false := by simpa using e1
        have n2 : (x.kind != y.kind) = true := by simpa using e1
        have E1 := Lib.hid e1; clear e1
        go_wp2_with fail
        go_quiet (fail)
        go_wp2
        go_ret
        exact ⟨ret_bool (sameT_bad _ _ _ _ _ HX.out HY.out (eqT_kind E1.out)).symm, m + nq, by simp⟩
    · go_wp2_with fail
      go_ret
      refine ⟨ret_bool (sameT_all _ _ (by rw [HL.out, HN.out]) (fun j x y hx hy => hall.out j x y ?_ hx hy)).symm, m, rfl⟩
      have := HL.out
      rcases Nat.lt_or_ge j xs.length with h | h
      · omega
      · rw [List.getElem?_eq_none h] at hx; cases hx

set_option maxHeartbeats 1000000 in
theorem rsame_ne (a1 a2 : Option Addr) (n m c1 c2 : Nat) (w : World) (hl : n ≠ m) :
    Calls Tryd.prog 19 #[.slice a1 n c1, .slice a2 m c2] w fun e w' => e = .returned (.bool false) ∧ ∃ n, w' = w.drewN n := by
  have hne : ((n : Int) == (m : Int)) = false := by simp; omega
  have hne2 : ((n : Int) != (m : Int)) = true := by simp; omega
  clear hl
  go_enter Tryd.func19, Tryd.ntmps19
  go_wp2_with fail
  go_ret
  exact ⟨rfl, 0, rfl⟩

set_option maxHeartbeats 1000000 in
theorem rsame_zero (a1 a2 : Option Addr) (c1 c2 : Nat) (w : World) :
    Calls Tryd.prog 19 #[.slice a1 0 c1, .slice a2 0 c2] w fun e w' => e = .returned (.bool true) ∧ ∃ n, w' = w.drewN n := by
  go_enter Tryd.func19, Tryd.ntmps19
  go_wp2_with fail
  go_loop [5] (fun i => i = .int .i64 0) (fun _ => 0)
  case atStart => rfl
  case round =>
    obtain rfl := hrel
    go_wp2_with fail
    go_ret
    exact ⟨rfl, 0, rfl⟩

theorem rsame_any (v1 v2 : Value) (xs ys : List Tok) (w : World) (h1 : IsToks w v1 xs) (h2 : IsToks w v2 ys) (hn : xs.length ≤ 281474976710656) :
    Calls Tryd.prog 19 #[v1, v2] w fun e w' => e = .returned (.bool (sameT xs ys)) ∧ ∃ n, w' = w.drewN n := by
  by_cases hl : xs.length = ys.length
  · cases xs with
    | nil =>
      obtain rfl : ys = [] := List.length_eq_zero_iff.1 (by simpa using hl.symm)
      obtain ⟨a1, c1, rfl⟩ := h1.form
      obtain ⟨a2, c2, rfl⟩ := h2.form
      exact rsame_zero a1 a2 c1 c2 w
    | cons x xs =>
      rcases h1 with ⟨_, _, _, h⟩ | ⟨b1, o1, c1, rfl, t1, l1⟩
      · cases h
      rcases h2 with ⟨_, _, _, h⟩ | ⟨b2, o2, c2, rfl, t2, l2⟩
      · subst h; simp at hl
      exact rsame_some b1 o1 c1 b2 o2 c2 (x :: xs) ys w t1 t2 hn hl
  · obtain ⟨a1, c1, rfl⟩ := h1.form
    obtain ⟨a2, c2, rfl⟩ := h2.form
    rw [sameT_len_ne hl]
    exact rsame_ne a1 a2 _ _ c1 c2 w hl
end Go.Proofs.YtabdpmcdlojliaaDoor
