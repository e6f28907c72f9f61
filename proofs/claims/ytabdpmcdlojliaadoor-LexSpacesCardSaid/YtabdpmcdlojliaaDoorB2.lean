/- Contracts: lex.Lex at a source that is too long; lex.Same. -/
import Derived.Test.YtabdpmcdlojliaaDoorA10
import Derived.Test.YtabdpmcdlojliaaDoorP3
namespace Go.Proofs.YtabdpmcdlojliaaDoor
open Go.RowKit

set_option maxHeartbeats 1000000 in
theorem lex_limit (src : ByteArray) (w : World) (hm : src.size ≤ maxLen) (hs : 65536 < src.size) :
    Calls Tryd.prog 12 #[.string src] w fun e w' => e = .returned (.tuple #[.slice none 0 0, .int .i64 0, .int .i64 2]) ∧ Below w.heap.size w w' := by
  unfold maxLen at hm
  have hmf : ∀ (fn : Fn) (first cap : Array Value) (w : World), (Instr.makeFunc fn first cap).run Tryd.prog w = .ok (.func fn first cap) w := fun _ _ _ _ => rfl
  go_enter_defers Tryd.func12, Tryd.ntmps12
  go_wp2_with fail
  simp [bodyPostD, Leaves, results, Tryd.results12, go_sem]
  exact ((((Below.refl _ w).alloc (Nat.le_refl _) _).alloc (by simp) _).alloc (by simp; omega) _)

/-- Two tokens are equal apart from their places. -/
def eqT (x y : Tok) : Bool := decide (x.kind = y.kind) && decide (x.text = y.text) && decide (x.num = y.num)
/-- A token as a value. -/
def valT (t : Tok) : Value := .agg #[.int .i64 t.kind, .string ⟨t.text.toArray⟩, .int .i64 t.num, .int .i64 t.pos]

set_option maxHeartbeats 1000000 in
theorem closure_same (x y : Tok) (w : World) :
    Calls Tryd.prog 42 #[.agg #[.int .i64 x.kind, .string ⟨x.text.toArray⟩, .int .i64 x.num, .int .i64 x.pos], .agg #[.int .i64 y.kind, .string ⟨y.text.toArray⟩, .int .i64 y.num, .int .i64 y.pos]] w fun e w' =>
      e = .returned (.bool (eqT x y)) ∧ Below w.heap.size w w' := by
  go_enter Tryd.func42, Tryd.ntmps42
  go_wp2_with fail
  all_goals
    go_ret
    refine ⟨ret_bool ?_, ((Below.refl _ w).alloc (Nat.le_refl _) _).alloc (by simp) _⟩
    rw [Bool.eq_iff_iff]
    unfold eqT
    simp [*]

def sameT : List Tok → List Tok → Bool
  | [], [] => true
  | x :: xs, y :: ys => eqT x y && sameT xs ys
  | _, _ => false
theorem sameT_length : ∀ (xs ys : List Tok), sameT xs ys = true → xs.length = ys.length
  | [], [], _ => rfl
  | x :: xs, y :: ys, h => by unfold sameT at h; rw [Bool.and_eq_true] at h; have := sameT_length xs ys h.2; simp [this]
  | [], _ :: _, h => by unfold sameT at h; cases h
  | _ :: _, [], h => by unfold sameT at h; cases h
theorem sameT_len_ne {xs ys : List Tok} (h : xs.length ≠ ys.length) : sameT xs ys = false := by
  cases hs : sameT xs ys with
  | false => rfl
  | true => exact absurd (sameT_length _ _ hs) h
theorem sameT_bad : ∀ (xs ys : List Tok) (k : Nat) (x y : Tok), xs[k]? = some x → ys[k]? = some y → eqT x y = false → sameT xs ys = false
  | [], _, _, _, _, h, _, _ => by simp at h
  | _ :: _, [], _, _, _, _, h, _ => by simp at h
  | a :: xs, b :: ys, 0, x, y, hx, hy, h => by simp at hx hy; subst hx; subst hy; unfold sameT; rw [h]; rfl
  | a :: xs, b :: ys, k + 1, x, y, hx, hy, h => by
    simp at hx hy; unfold sameT; rw [sameT_bad xs ys k x y hx hy h]; simp
theorem sameT_all : ∀ (xs ys : List Tok), xs.length = ys.length → (∀ (k : Nat) (x y : Tok), xs[k]? = some x → ys[k]? = some y → eqT x y = true) → sameT xs ys = true
  | [], [], _, _ => rfl
  | [], _ :: _, h, _ => by simp at h
  | _ :: _, [], h, _ => by simp at h
  | a :: xs, b :: ys, hl, h => by
    unfold sameT; rw [h 0 a b rfl rfl, sameT_all xs ys (by simpa using hl) (fun k x y hx hy => h (k + 1) x y (by simpa using hx) (by simpa using hy))]; rfl

/-- The slice v reads as the tokens ts, at block b, offset o. -/
def TokAt (w : World) (b o : Nat) (ts : List Tok) : Prop := ∀ (k : Nat) (t : Tok), ts[k]? = some t →
  w.cell? ⟨b, o + k * 4, none⟩ = some (.int .i64 t.kind) ∧ w.cell? ⟨b, o + k * 4 + 1, none⟩ = some (.string ⟨t.text.toArray⟩) ∧ w.cell? ⟨b, o + k * 4 + 2, none⟩ = some (.int .i64 t.num) ∧ w.cell? ⟨b, o + k * 4 + 3, none⟩ = some (.int .i64 t.pos)
theorem TokAt.below {w w' : World} {b o : Nat} {ts : List Tok} {B : Nat} (h : TokAt w b o ts) (hb : Below B w w') (hB : b < B) : TokAt w' b o ts := by
  intro k t ht
  obtain ⟨h0, h1, h2, h3⟩ := h k t ht
  exact ⟨(hb.cell (p := ⟨b, _, none⟩) hB).trans h0, (hb.cell (p := ⟨b, _, none⟩) hB).trans h1, (hb.cell (p := ⟨b, _, none⟩) hB).trans h2, (hb.cell (p := ⟨b, _, none⟩) hB).trans h3⟩

set_option maxHeartbeats 1000000 in
theorem equalFunc_any (b1 o1 c1 b2 o2 c2 : Nat) (xs ys : List Tok) (w : World) (h1 : TokAt w b1 o1 xs) (h2 : TokAt w b2 o2 ys) (hb1 : b1 < w.heap.size) (hb2 : b2 < w.heap.size)
    (hn : xs.length ≤ 281474976710656) :
    Calls Tryd.prog 41 #[.slice (some ⟨b1, o1, none⟩) xs.length c1, .slice (some ⟨b2, o2, none⟩) ys.length c2, .func (.func 42) #[] #[]] w fun e w' => e = .returned (.bool (sameT xs ys)) ∧ Below w.heap.size w w' := by
  have H1 := Lib.hid h1; have H2 := Lib.hid h2; clear h1 h2
  by_cases hl : xs.length = ys.length
  · generalize hnn : ys.length = n at *
    have HN := Lib.hid hnn; have HL := Lib.hid hl; clear hnn
    rw [hl] at hn ⊢
    clear hl
    go_enter Tryd.func41, Tryd.ntmps41
    go_wp2_with fail
    go_loopw [17] (fun i wr => ∃ k : Nat, k ≤ n ∧ i = .int .i64 k ∧ Below w.heap.size w wr ∧ Hid (∀ (j : Nat) (x y : Tok), j < k → xs[j]? = some x → ys[j]? = some y → eqT x y = true)) (fun i _ => n - (intOf i).toNat)
    case atStart => exact ⟨0, Nat.zero_le _, rfl, Below.refl _ _, fun j x y h => by omega⟩
    case round =>
      obtain ⟨k, hk, rfl, hB, hall⟩ := hrel
      have HB := Lib.hid hB
      have hzr := hB.size
      clear hB
      by_cases hlt : k < n
      · obtain ⟨x, hx⟩ : ∃ x, xs[k]? = some x := ⟨_, List.getElem?_eq_getElem (by rw [HL.out]; exact hlt)⟩
        obtain ⟨y, hy⟩ : ∃ y, ys[k]? = some y := ⟨_, List.getElem?_eq_getElem (by rw [HN.out]; exact hlt)⟩
        obtain ⟨p0, p1, p2, p3⟩ := H1.out.below HB.out hb1 k x hx
        have hq : ∀ o : Obj, (wr.alloc o).cell? ⟨b2, o2 + k * 4, none⟩ = some (.int .i64 y.kind) ∧ (wr.alloc o).cell? ⟨b2, o2 + k * 4 + 1, none⟩ = some (.string ⟨y.text.toArray⟩) ∧
            (wr.alloc o).cell? ⟨b2, o2 + k * 4 + 2, none⟩ = some (.int .i64 y.num) ∧ (wr.alloc o).cell? ⟨b2, o2 + k * 4 + 3, none⟩ = some (.int .i64 y.pos) :=
          fun o => H2.out.below (HB.out.alloc (by omega) o) hb2 k y hy
        have q0 := fun o => (hq o).1
        have q1 := fun o => (hq o).2.1
        have q2 := fun o => (hq o).2.2.1
        have q3 := fun o => (hq o).2.2.2
        clear hq
        have HX := Lib.hid hx; have HY := Lib.hid hy; clear hx hy
        by_cases heq : eqT x y = true
        · go_wp2_with (go_at_call 42; refine (closure_same x y _).mono ?_; rintro e w2 ⟨rfl, hb⟩; have J := Lib.hid hb; clear hb)
          go_roundw
          case rel =>
            have h2 := J.out.size
            simp at h2
            refine ⟨k + 1, by omega, by go_num, (((HB.out.alloc (by omega) _).alloc (by simp; omega) _).trans (J.out.mono (by simp; omega))), ?_⟩
            intro j x' y' hj hx' hy'
            by_cases hjk : j = k
            · subst hjk
              have e1 := HX.out.symm.trans hx'; have e2 := HY.out.symm.trans hy'
              injection e1 with e1; injection e2 with e2; subst e1; subst e2; exact heq
            · exact hall.out j x' y' (by omega) hx' hy'
          case measure => simp [intOf]; omega
        · have heq' : eqT x y = false := by simpa using heq
          clear heq
          go_wp2_with (go_at_call 42; refine (closure_same x y _).mono ?_; rintro e w2 ⟨rfl, hb⟩; have J := Lib.hid hb; clear hb)
          go_ret
          have h2 := J.out.size
          simp at h2
          exact ⟨ret_bool (sameT_bad _ _ _ _ _ HX.out HY.out heq').symm, (((HB.out.alloc (by omega) _).alloc (by simp; omega) _).trans (J.out.mono (by simp; omega)))⟩
      · go_wp2_with fail
        go_ret
        refine ⟨ret_bool (sameT_all _ _ (by rw [HL.out, HN.out]) (fun j x y hx hy => hall.out j x y ?_ hx hy)).symm, HB.out⟩
        have := HL.out
        rcases Nat.lt_or_ge j xs.length with h | h
        · omega
        · rw [List.getElem?_eq_none h] at hx; cases hx
  · have hne : ((xs.length : Int) == (ys.length : Int)) = false := by simp; omega
    have hne2 : ((xs.length : Int) != (ys.length : Int)) = true := by simp; omega
    have HN := Lib.hid hl
    clear hl
    go_enter Tryd.func41, Tryd.ntmps41
    go_wp2_with fail
    go_ret
    exact ⟨ret_bool (sameT_len_ne HN.out).symm, Below.refl _ _⟩

set_option maxHeartbeats 1000000 in
theorem equalFunc_ne (a1 a2 : Option Addr) (n m c1 c2 : Nat) (w : World) (hl : n ≠ m) :
    Calls Tryd.prog 41 #[.slice a1 n c1, .slice a2 m c2, .func (.func 42) #[] #[]] w fun e w' => e = .returned (.bool false) ∧ Below w.heap.size w w' := by
  have hne : ((n : Int) == (m : Int)) = false := by simp; omega
  have hne2 : ((n : Int) != (m : Int)) = true := by simp; omega
  clear hl
  go_enter Tryd.func41, Tryd.ntmps41
  go_wp2_with fail
  go_ret
  exact ⟨rfl, Below.refl _ _⟩

set_option maxHeartbeats 1000000 in
theorem equalFunc_zero (a1 a2 : Option Addr) (c1 c2 : Nat) (w : World) :
    Calls Tryd.prog 41 #[.slice a1 0 c1, .slice a2 0 c2, .func (.func 42) #[] #[]] w fun e w' => e = .returned (.bool true) ∧ Below w.heap.size w w' := by
  go_enter Tryd.func41, Tryd.ntmps41
  go_wp2_with fail
  go_loop [17] (fun i => i = .int .i64 0) (fun _ => 0)
  case atStart => rfl
  case round =>
    obtain rfl := hrel
    go_wp2_with fail
    go_ret
    exact ⟨rfl, Below.refl _ _⟩

/-- A value reads as the tokens ts: nil, or at an address. -/
def IsToks (w : World) (v : Value) (ts : List Tok) : Prop := (∃ ao c, v = .slice ao 0 c ∧ ts = []) ∨ ∃ b o c, v = .slice (some ⟨b, o, none⟩) ts.length c ∧ TokAt w b o ts ∧ b < w.heap.size
theorem IsToks.below {w w' : World} {v : Value} {ts : List Tok} {B : Nat} (h : IsToks w v ts) (hb : Below B w w') (hB : w.heap.size ≤ B) : IsToks w' v ts := by
  rcases h with h | ⟨b, o, c, hv, ht, hlt⟩
  · exact Or.inl h
  · exact Or.inr ⟨b, o, c, hv, ht.below hb (by omega), Nat.lt_of_lt_of_le hlt hb.size⟩
theorem IsToks.form {w : World} {v : Value} {ts : List Tok} (h : IsToks w v ts) : ∃ ao c, v = .slice ao ts.length c := by
  rcases h with ⟨ao, c, rfl, rfl⟩ | ⟨b, o, c, rfl, _⟩
  · exact ⟨ao, c, rfl⟩
  · exact ⟨_, c, rfl⟩

theorem equalFunc_toks (v1 v2 : Value) (xs ys : List Tok) (w : World) (h1 : IsToks w v1 xs) (h2 : IsToks w v2 ys) (hn : xs.length ≤ 281474976710656) :
    Calls Tryd.prog 41 #[v1, v2, .func (.func 42) #[] #[]] w fun e w' => e = .returned (.bool (sameT xs ys)) ∧ Below w.heap.size w w' := by
  by_cases hl : xs.length = ys.length
  · cases xs with
    | nil =>
      obtain rfl : ys = [] := List.length_eq_zero_iff.1 (by simpa using hl.symm)
      obtain ⟨a1, c1, rfl⟩ := h1.form
      obtain ⟨a2, c2, rfl⟩ := h2.form
      exact equalFunc_zero a1 a2 c1 c2 w
    | cons x xs =>
      rcases h1 with ⟨_, _, _, h⟩ | ⟨b1, o1, c1, rfl, t1, l1⟩
      · cases h
      rcases h2 with ⟨_, _, _, h⟩ | ⟨b2, o2, c2, rfl, t2, l2⟩
      · subst h; simp at hl
      exact equalFunc_any b1 o1 c1 b2 o2 c2 (x :: xs) ys w t1 t2 l1 l2 hn
  · obtain ⟨a1, c1, rfl⟩ := h1.form
    obtain ⟨a2, c2, rfl⟩ := h2.form
    rw [sameT_len_ne hl]
    exact equalFunc_ne a1 a2 _ _ c1 c2 w hl

set_option maxHeartbeats 1000000 in
theorem lsame_any (v1 v2 : Value) (xs ys : List Tok) (w : World) (h1 : IsToks w v1 xs) (h2 : IsToks w v2 ys) (hn : xs.length ≤ 281474976710656) :
    Calls Tryd.prog 18 #[v1, v2] w fun e w' => e = .returned (.bool (sameT xs ys)) ∧ Below w.heap.size w w' := by
  have hc := Lib.hid (equalFunc_toks v1 v2 xs ys w h1 h2 hn)
  clear h1 h2
  go_enter Tryd.func18, Tryd.ntmps18
  go_wp2_with (go_at_call 41; refine hc.out.mono ?_; rintro e w2 ⟨rfl, hb⟩)
  go_ret
  exact ⟨rfl, hb⟩
end Go.Proofs.YtabdpmcdlojliaaDoor
