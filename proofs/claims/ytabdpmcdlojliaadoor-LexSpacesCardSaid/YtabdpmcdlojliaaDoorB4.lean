/- Contracts of the reference's Equal and Few. -/
import Derived.Test.YtabdpmcdlojliaaDoorB3
namespace Go.Proofs.YtabdpmcdlojliaaDoor
open Go.RowKit

theorem eqT_pos {x y : Tok} (h : eqT x y = true) (hp : x.pos = y.pos) : x = y := by
  unfold eqT at h; simp at h; cases x; cases y; simp_all
theorem eqT_self (x : Tok) : eqT x x = true := by unfold eqT; simp
theorem sameT_self : ∀ (xs : List Tok), sameT xs xs = true
  | [] => rfl
  | x :: xs => by unfold sameT; rw [eqT_self, sameT_self xs]; rfl
theorem sameT_get : ∀ (xs ys : List Tok) (k : Nat) (x y : Tok), sameT xs ys = true → xs[k]? = some x → ys[k]? = some y → eqT x y = true
  | [], _, _, _, _, _, h, _ => by simp at h
  | _ :: _, [], _, _, _, _, _, h => by simp at h
  | a :: xs, b :: ys, 0, x, y, hs, hx, hy => by
    unfold sameT at hs; rw [Bool.and_eq_true] at hs; simp at hx hy; subst hx; subst hy; exact hs.1
  | a :: xs, b :: ys, k + 1, x, y, hs, hx, hy => by
    unfold sameT at hs; rw [Bool.and_eq_true] at hs; simp at hx hy; exact sameT_get xs ys k x y hs.2 hx hy
theorem eq_of_same {xs ys : List Tok} (h : sameT xs ys = true) (hp : ∀ (k : Nat) (x y : Tok), xs[k]? = some x → ys[k]? = some y → x.pos = y.pos) : xs = ys := by
  apply List.ext_getElem? 
  intro k
  have hl := sameT_length _ _ h
  rcases Nat.lt_or_ge k xs.length with hk | hk
  · have e1 := List.getElem?_eq_getElem hk
    have e2 := List.getElem?_eq_getElem (show k < ys.length by omega)
    rw [e1, e2, eqT_pos (sameT_get _ _ k _ _ h e1 e2) (hp k _ _ e1 e2)]
  · rw [List.getElem?_eq_none hk, List.getElem?_eq_none (by omega)]

/-- The same tokens at the same places. -/
def equalT (xs ys : List Tok) : Bool := decide (xs = ys)
theorem equalT_not_same {xs ys : List Tok} (h : sameT xs ys = false) : equalT xs ys = false := by
  unfold equalT; rw [decide_eq_false_iff_not]; intro e; subst e; rw [sameT_self] at h; cases h

set_option maxHeartbeats 1000000 in
theorem equal_some (b1 o1 c1 b2 o2 c2 : Nat) (xs ys : List Tok) (w : World) (h1 : TokAt w b1 o1 xs) (h2 : TokAt w b2 o2 ys) (l1 : b1 < w.heap.size) (l2 : b2 < w.heap.size) (hn : xs.length ≤ 281474976710656) (hsame : sameT xs ys = true) :
    Calls Tryd.prog 14 #[.slice (some ⟨b1, o1, none⟩) xs.length c1, .slice (some ⟨b2, o2, none⟩) ys.length c2] w fun e w' => e = .returned (.bool (equalT xs ys)) ∧ ∃ n, w' = w.drewN n := by
  have hc := rsame_any (.slice (some ⟨b1, o1, none⟩) xs.length c1) (.slice (some ⟨b2, o2, none⟩) ys.length c2) xs ys w (Or.inr ⟨b1, o1, c1, rfl, h1, l1⟩) (Or.inr ⟨b2, o2, c2, rfl, h2, l2⟩) hn
  rw [hsame] at hc
  have hl := sameT_length _ _ hsame
  have H1 := Lib.hid h1; have H2 := Lib.hid h2; have HS := Lib.hid hsame; clear h1 h2 hsame
  generalize hnn : ys.length = n at *
  have HN := Lib.hid hnn; have HL := Lib.hid hl; clear hnn
  rw [hl] at hn hc ⊢
  have HC := Lib.hid hc
  clear hl hc
  go_enter Tryd.func14, Tryd.ntmps14
  go_wp2_with (go_at_call 19; refine HC.out.mono ?_; rintro e w2 ⟨rfl, m0, rfl⟩)
  go_loopw [5] (fun i wr => ∃ k : Nat, k ≤ n ∧ i = .int .i64 k ∧ (∃ m, wr = w.drewN m) ∧ Hid (∀ (j : Nat) (x y : Tok), j < k → xs[j]? = some x → ys[j]? = some y → x.pos = y.pos)) (fun i _ => n - (intOf i).toNat)
  case atStart => exact ⟨0, Nat.zero_le _, rfl, ⟨m0, rfl⟩, fun j x y h => by omega⟩
  case round =>
    clear HC
    obtain ⟨k, hk, rfl, ⟨m, rfl⟩, hall⟩ := hrel
    by_cases hlt : k < n
    · obtain ⟨x, hx⟩ : ∃ x, xs[k]? = some x := ⟨_, List.getElem?_eq_getElem (by rw [HL.out]; exact hlt)⟩
      obtain ⟨y, hy⟩ : ∃ y, ys[k]? = some y := ⟨_, List.getElem?_eq_getElem (by rw [HN.out]; exact hlt)⟩
      obtain ⟨p0, p1, p2, p3⟩ := H1.out k x hx
      obtain ⟨q0, q1, q2, q3⟩ := H2.out k y hy
      have HX := Lib.hid hx; have HY := Lib.hid hy; clear hx hy p0 p1 p2 q0 q1 q2
      have hlt' : (k : Int) < (n : Int) := by omega
      by_cases e1 : x.pos = y.pos
      · have n1 : (x.pos == y.pos) = true := by simpa using e1
        have n2 : (x.pos != y.pos) = false := by simpa using e1
        have E1 := Lib.hid e1; clear e1
        go_wp2_with fail
        go_quiet (fail)
        go_wp2
        go_roundw
        case rel =>
          refine ⟨k + 1, by omega, by go_num, ⟨m + nq, by simp⟩, ?_⟩
          intro j x' y' hj hx' hy'
          by_cases hjk : j = k
          · subst hjk
            have e1 := HX.out.symm.trans hx'; have e2 := HY.out.symm.trans hy'
            injection e1 with e1; injection e2 with e2; subst e1; subst e2; exact E1.out
          · exact hall.out j x' y' (by omega) hx' hy'
        case measure => simp [intOf]; omega
      · have n1 : (x.pos == y.pos) = false := by simpa using e1
        have n2 : (x.pos != y.pos) = true := by simpa using e1
        have E1 := Lib.hid e1; clear e1
        go_wp2_with fail
        go_quiet (fail)
        go_wp2
        go_ret
        refine ⟨ret_bool ?_, m + nq, by simp⟩
        unfold equalT
        symm
        rw [decide_eq_false_iff_not]
        intro e
        have e1 := HX.out; rw [e] at e1
        have := e1.symm.trans HY.out
        injection this with this
        exact E1.out (by rw [this])
    · go_wp2_with fail
      go_ret
      refine ⟨ret_bool ?_, m, rfl⟩
      unfold equalT
      symm
      rw [decide_eq_true_iff]
      refine eq_of_same HS.out (fun j x y hx hy => hall.out j x y ?_ hx hy)
      have := HL.out
      rcases Nat.lt_or_ge j xs.length with h | h
      · omega
      · rw [List.getElem?_eq_none h] at hx; cases hx

set_option maxHeartbeats 1000000 in
theorem equal_ne (v1 v2 : Value) (w : World) (hc : Calls Tryd.prog 19 #[v1, v2] w fun e w' => e = .returned (.bool false) ∧ ∃ n, w' = w.drewN n) :
    Calls Tryd.prog 14 #[v1, v2] w fun e w' => e = .returned (.bool false) ∧ ∃ n, w' = w.drewN n := by
  have HC := Lib.hid hc; clear hc
  go_enter Tryd.func14, Tryd.ntmps14
  go_wp2_with (go_at_call 19; refine HC.out.mono ?_; rintro e w2 ⟨rfl, m0, rfl⟩)
  go_ret
  exact ⟨rfl, m0, rfl⟩
set_option maxHeartbeats 1000000 in
theorem equal_zero (a1 a2 : Option Addr) (c1 c2 : Nat) (w : World) :
    Calls Tryd.prog 14 #[.slice a1 0 c1, .slice a2 0 c2] w fun e w' => e = .returned (.bool true) ∧ ∃ n, w' = w.drewN n := by
  go_enter Tryd.func14, Tryd.ntmps14
  go_wp2_with (go_at_call 19; refine (rsame_zero a1 a2 c1 c2 w).mono ?_; rintro e w2 ⟨rfl, m0, rfl⟩)
  go_loop [5] (fun i => i = .int .i64 0) (fun _ => 0)
  case atStart => rfl
  case round =>
    obtain rfl := hrel
    go_wp2_with fail
    go_ret
    exact ⟨rfl, m0, rfl⟩

theorem equal_any (v1 v2 : Value) (xs ys : List Tok) (w : World) (h1 : IsToks w v1 xs) (h2 : IsToks w v2 ys) (hn : xs.length ≤ 281474976710656) :
    Calls Tryd.prog 14 #[v1, v2] w fun e w' => e = .returned (.bool (equalT xs ys)) ∧ ∃ n, w' = w.drewN n := by
  cases hs : sameT xs ys with
  | false =>
    rw [equalT_not_same hs]
    have := rsame_any v1 v2 xs ys w h1 h2 hn
    rw [hs] at this
    exact equal_ne v1 v2 w this
  | true =>
    have hl := sameT_length _ _ hs
    cases xs with
    | nil =>
      obtain rfl : ys = [] := List.length_eq_zero_iff.1 (by simpa using hl.symm)
      obtain ⟨a1, c1, rfl⟩ := h1.form
      obtain ⟨a2, c2, rfl⟩ := h2.form
      exact equal_zero a1 a2 c1 c2 w
    | cons x xs =>
      rcases h1 with ⟨_, _, _, h⟩ | ⟨b1, o1, c1, rfl, t1, l1⟩
      · cases h
      rcases h2 with ⟨_, _, _, h⟩ | ⟨b2, o2, c2, rfl, t2, l2⟩
      · subst h; simp at hl
      exact equal_some b1 o1 c1 b2 o2 c2 (x :: xs) ys w t1 t2 l1 l2 hn hs
end Go.Proofs.YtabdpmcdlojliaaDoor
