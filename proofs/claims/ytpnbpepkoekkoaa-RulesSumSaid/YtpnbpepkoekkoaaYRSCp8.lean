/- The walk of the statement: part 8. -/
import Derived.Test.YtpnbpepkoekkoaaYRSCp6
import Derived.Test.YtpnbpepkoekkoaaZ5
import Derived.Test.YtpnbpepkoekkoaaZ28
import Derived.Test.YtpnbpepkoekkoaaYRSCp4
import Derived.BigQuiet
import Derived.Deep.QuietTactic
import Derived.Deep.RegionHeld3
import Derived.Deep.RegionWith
import Derived.KernelRfl
import Derived.StillTailTactics
import Derived.IntWalk
set_option linter.unusedVariables false
set_option linter.unusedSimpArgs false
section
namespace Go.Proofs.Ytpnbpepkoekkoaa
open Go Go.RowKit
open Go.RowKit
theorem ratB_d {n d : Int} (h : d < 1 ∨ 1073741824 < d) : ratB n d = false := by
 unfold ratB; rw [inB_false.2 (by omega)]; rfl
theorem ratB_n {n d : Int} (h : n < -1073741824 ∨ 1073741824 < n) : ratB n d = false := by
 unfold ratB; rw [inB_false.2 (show n < -1073741824 ∨ _ by omega), Bool.and_false]; rfl
theorem ratB_in {n d : Int} (h1 : 1 ≤ d) (h2 : d ≤ 1073741824) (h3 : -1073741824 ≤ n) (h4 : n ≤ 1073741824) : ratB n d = decide (Nat.gcd n.natAbs d.natAbs = 1) := by
 unfold ratB; rw [inB_iff.2 ⟨h1, h2⟩, inB_iff.2 ⟨h3, h4⟩]; rfl
theorem region_tailQ {P : Program} (S : World → Prop) {id : Nat} {Q : Exit → Act → World → Prop} {a : Act} {w : World} {l : List Oper} (n : Nat) (hm : P.follows .mixedOrders = true) (hB : Region.lexTailB .any l.toArray n = true) (hS : S w.drew)
  (h : ∀ w2, S w2 → wpStill P l.toArray w2 (fun a' => wpList P l.toArray Q (l.drop n) a' w2) (l.take n) a) : (Code.region id l.toArray true).wp P Q a w :=
 wp_region_still_tail n hm hB (h _ hS)
def codeI (b : Bool) (c : Int) : Int := if b then 0 else c
set_option maxHeartbeats 1000000 in
theorem ratio_no (n d : Int) (hno : d < 1 ∨ 1073741824 < d ∨ n < -1073741824 ∨ 1073741824 < n) (w : World) :
  Calls Try.prog 107 #[.agg #[.int .i64 n, .int .i64 d]] w fun e w' => e = .returned (.int .i64 120) ∧ Below w.heap.size w w' := by
 by_cases h1 : d < 1
 ·clear hno
  go_enter Try.func107, Try.ntmps107
  go_wp2_with fail
  go_quiet (fail)
  go_wp2
  go_ret
  exact ⟨rfl, below_drewN ((Below.refl _ _).alloc (Nat.le_refl _) _) _⟩
 have f1 : decide (d < 1) = false := by simpa using h1
 by_cases h2 : 1073741824 < d
 ·clear hno h1
  go_enter Try.func107, Try.ntmps107
  go_wp2_with fail
  go_quiet (fail)
  go_wp2
  go_ret
  exact ⟨rfl, below_drewN ((Below.refl _ _).alloc (Nat.le_refl _) _) _⟩
 have f2 : decide (1073741824 < d) = false := by simpa using h2
 by_cases h3 : n < -1073741824
 ·clear hno h1 h2
  go_enter Try.func107, Try.ntmps107
  go_wp2_with fail
  go_quiet (fail)
  go_wp2
  go_ret
  exact ⟨rfl, below_drewN ((Below.refl _ _).alloc (Nat.le_refl _) _) _⟩
 have f3 : decide (n < -1073741824) = false := by simpa using h3
 have h4 : 1073741824 < n := by omega
 clear hno h1 h2 h3
 go_enter Try.func107, Try.ntmps107
 go_wp2_with fail
 go_quiet (fail)
 go_wp2
 go_ret
 exact ⟨rfl, below_drewN ((Below.refl _ _).alloc (Nat.le_refl _) _) _⟩
set_option maxRecDepth 100000 in
set_option maxHeartbeats 1000000 in
theorem ratio_yes (n d : Int) (h1 : 1 ≤ d) (h2 : d ≤ 1073741824) (h3 : -1073741824 ≤ n) (h4 : n ≤ 1073741824) (w : World) :
  Calls Try.prog 107 #[.agg #[.int .i64 n, .int .i64 d]] w fun e w' => e = .returned (.int .i64 (codeI (ratB n d) 120)) ∧ Below w.heap.size w w' := by
 have f1 : decide (d < 1) = false := by simpa using by omega
 have f2 : decide (1073741824 < d) = false := by simpa using by omega
 have f3 : decide (n < -1073741824) = false := by simpa using by omega
 have f4 : decide (1073741824 < n) = false := by simpa using by omega
 have hd : ((d.natAbs : Nat) : Int) = d := by omega
 have HR := Lib.hid (ratB_in h1 h2 h3 h4)
 have HD := Lib.hid hd; clear hd
 go_enter Try.func107, Try.ntmps107
 go_wp2_with fail
 refine region_tailQ (fun w2 => w2.cell? ⟨w.heap.size, 0, none⟩ = some (.int .i64 n) ∧ w2.cell? ⟨w.heap.size, 1, none⟩ = some (.int .i64 d) ∧ w.heap.size < w2.heap.size ∧ Below w.heap.size w w2) 25 (by kernel_rfl) (by kernel_rfl) ⟨by go_simp, by go_simp, by simp, ((Below.refl _ _).alloc (Nat.le_refl _) _).drew⟩ ?_
 intro w2 ⟨c0, c1, hlt, hB⟩
 simp only [List.take_succ_cons, List.take_zero, List.drop_succ_cons, List.drop_zero]
 repeat still_step
 still_call ((magnitude_any n h3 h4 _).mono fun _ _ ⟨e1, e2⟩ => ⟨e1, e2.symm⟩)
 repeat still_step
 refine wpStill_nil ?_
 have hu : IntKind.u64.wrap d = ((d.natAbs : Nat) : Int) := by rw [wrap_u64]; omega
 rw [hu]
 clear hu
 go_wp2_with fail
 refine (divisor_any n.natAbs d.natAbs (by omega) (by omega) (by omega) w2).mono ?_
 rintro e w3 ⟨rfl, hb⟩
 have hB3 := Lib.hid (hB.trans (hb.mono hB.size))
 clear hb
 by_cases hg : Nat.gcd n.natAbs d.natAbs = 1
 ·have f5 : (((Nat.gcd n.natAbs d.natAbs : Nat) : Int) != 1) = false := by simpa using by omega
  have HG := Lib.hid hg; clear hg
  go_wp2_with fail
  go_ret
  exact ⟨ret_i64 (by rw [HR.out, decide_eq_true HG.out]; rfl), hB3.out⟩
 ·have f5 : (((Nat.gcd n.natAbs d.natAbs : Nat) : Int) != 1) = true := by simpa using by omega
  have HG := Lib.hid hg; clear hg
  go_wp2_with fail
  go_ret
  exact ⟨ret_i64 (by rw [HR.out, decide_eq_false HG.out]; rfl), hB3.out⟩
theorem ratio_any (n d : Int) (w : World) :
  Calls Try.prog 107 #[.agg #[.int .i64 n, .int .i64 d]] w fun e w' => e = .returned (.int .i64 (codeI (ratB n d) 120)) ∧ Below w.heap.size w w' := by
 by_cases h : d < 1 ∨ 1073741824 < d ∨ n < -1073741824 ∨ 1073741824 < n
 ·refine (ratio_no n d h w).mono fun e w' ⟨he, hb⟩ => ⟨?_, hb⟩
  have : ratB n d = false := by
   rcases h with h | h | h
   ·exact ratB_d (Or.inl h)
   ·exact ratB_d (Or.inr h)
   ·exact ratB_n h
  rw [he, this]; rfl
 ·exact ratio_yes n d (by omega) (by omega) (by omega) (by omega) w
theorem ratB_bd {n d : Int} (h : ratB n d = true) : 1 ≤ d ∧ d ≤ 1073741824 ∧ -1073741824 ≤ n ∧ n ≤ 1073741824 := by
 unfold ratB at h
 simp only [Bool.and_eq_true, inB_iff] at h
 omega
theorem mul_bd {a b : Int} (h1 : -1073741824 ≤ a) (h2 : a ≤ 1073741824) (h3 : 1 ≤ b) (h4 : b ≤ 1073741824) : -1152921504606846976 ≤ a * b ∧ a * b ≤ 1152921504606846976 := by
 constructor
 ·calc (-1152921504606846976 : Int) = -1073741824 * 1073741824 := by decide
   _ ≤ -1073741824 * b := by omega
   _ ≤ a * b := Int.mul_le_mul_of_nonneg_right h1 (by omega)
 ·calc a * b ≤ 1073741824 * b := Int.mul_le_mul_of_nonneg_right h2 (by omega)
   _ ≤ 1152921504606846976 := by omega
def rcmpV (a b c d : Int) : Value := if ratB a b && ratB c d then .tuple #[.int .i64 (cmpI (a * d) (c * b)), .int .i64 0] else .tuple #[.int .i64 0, .int .i64 120]
set_option maxHeartbeats 1000000 in
theorem rcmp_any (a b c d : Int) (w : World) :
  Calls Try.prog 102 #[.agg #[.int .i64 a, .int .i64 b], .agg #[.int .i64 c, .int .i64 d]] w fun e w' => e = .returned (rcmpV a b c d) ∧ Below w.heap.size w w' := by
 have hB0 : Below w.heap.size w ((w.alloc (.cells #[.int .i64 a, .int .i64 b] 83)).alloc (.cells #[.int .i64 c, .int .i64 d] 83)) := ((Below.refl _ w).alloc (Nat.le_refl _) _).alloc (by simp) _
 have hz : ((w.alloc (.cells #[.int .i64 a, .int .i64 b] 83)).alloc (.cells #[.int .i64 c, .int .i64 d] 83)).heap.size = w.heap.size + 2 := by simp
 have g0 : ((w.alloc (.cells #[.int .i64 a, .int .i64 b] 83)).alloc (.cells #[.int .i64 c, .int .i64 d] 83)).heap[w.heap.size]? = some (.cells #[.int .i64 a, .int .i64 b] 83 (0, 0)) := by
  rw [Below.heap_alloc _ _ _ (by simp)]; exact heap_alloc_new w _
 have g1 : ((w.alloc (.cells #[.int .i64 a, .int .i64 b] 83)).alloc (.cells #[.int .i64 c, .int .i64 d] 83)).heap[w.heap.size + 1]? = some (.cells #[.int .i64 c, .int .i64 d] 83 (0, 0)) := by
  have := heap_alloc_new (w.alloc (.cells #[.int .i64 a, .int .i64 b] 83)) (.cells #[.int .i64 c, .int .i64 d] 83); simpa using this
 go_enter Try.func102, Try.ntmps102
 go_wp2_with fail
 generalize (w.alloc (.cells #[.int .i64 a, .int .i64 b] 83)).alloc (.cells #[.int .i64 c, .int .i64 d] 83) = w0 at *
 refine (ratio_any a b w0).mono ?_
 rintro e w1 ⟨rfl, b1⟩
 have k0 := (b1.block _ (by omega)).trans g0
 have k1 := (b1.block _ (by omega)).trans g1
 have hs1 := b1.size
 have hB1 := Lib.hid (hB0.trans (b1.mono (by omega)))
 clear b1 g0 g1 hB0
 have K0 := Lib.hid k0; have K1 := Lib.hid k1
 have d0 := cell_at k0 0 rfl; have d1 := cell_at k0 1 rfl
 have e0 := cell_at k1 0 rfl; have e1 := cell_at k1 1 rfl
 clear k0 k1
 cases hA : ratB a b with
 | false =>
  unfold codeI
  go_wp2_with fail
  go_ret2
  exact ⟨by unfold rcmpV; rw [hA]; rfl, hB1.out⟩
 | true =>
  have HA := Lib.hid hA; clear hA
  unfold codeI
  go_wp2_with fail
  refine (ratio_any c d w1).mono ?_
  rintro e w2 ⟨rfl, b2⟩
  have k0 := (b2.block _ (by omega)).trans K0.out
  have k1 := (b2.block _ (by omega)).trans K1.out
  have hB2 := Lib.hid (hB1.out.trans (b2.mono (by omega)))
  clear d0 d1 e0 e1 b2
  have d0 := cell_at k0 0 rfl; have d1 := cell_at k0 1 rfl
  have e0 := cell_at k1 0 rfl; have e1 := cell_at k1 1 rfl
  clear k0 k1
  cases hC : ratB c d with
  | false =>
   unfold codeI
   go_wp2_with fail
   go_ret2
   exact ⟨by unfold rcmpV; rw [HA.out, hC]; rfl, hB2.out⟩
  | true =>
   have HC := Lib.hid hC; clear hC
   obtain ⟨q1, q2, q3, q4⟩ := ratB_bd HA.out
   obtain ⟨r1, r2, r3, r4⟩ := ratB_bd HC.out
   obtain ⟨m1, m2⟩ := mul_bd q3 q4 r1 r2
   obtain ⟨m3, m4⟩ := mul_bd r3 r4 q1 q2
   clear q1 q2 q3 q4 r1 r2 r3 r4
   unfold codeI
   go_wp2_with (go_at_call 108; refine (compare_any _ _ _).mono ?_; rintro e w' ⟨rfl, rfl⟩)
   go_ret2
   exact ⟨by unfold rcmpV; rw [HA.out, HC.out]; rfl, hB2.out⟩
end Go.Proofs.Ytpnbpepkoekkoaa
end
section
namespace Go.Proofs.Ytpnbpepkoekkoaa
open Go Go.RowKit
open Go.RowKit
theorem cell_block_lt {w : World} {a : Addr} {v : Value} (h : w.cell? a = some v) : a.block < w.heap.size := by
 rcases Nat.lt_or_ge a.block w.heap.size with h1 | h1
 ·exact h1
 ·unfold World.cell? at h; simp [Array.getElem?_eq_none h1] at h
set_option maxHeartbeats 400000 in
theorem tin_any (n lo hi : Int) (w : World) : Calls Try.prog 99 #[.int .i64 n, .int .i64 lo, .int .i64 hi] w fun e w' => e = .returned (.bool (inB n lo hi)) ∧ w = w' := by
 go_enter Try.func99, Try.ntmps99
 go_wp2
 all_goals
  go_ret
  refine ⟨ret_bool ?_, rfl⟩
  unfold inB
  rw [Bool.eq_iff_iff]; simp; omega
def SortedT (l : List Tmp) : Prop := l.Pairwise fun a b => a.bar < b.bar
theorem upTo_le (l : List Tmp) (bar : Int) : upTo l bar ≤ l.length := List.countP_le_length
theorem upTo_zero {l : List Tmp} {bar : Int} (h : ∀ t ∈ l, bar < t.bar) : upTo l bar = 0 := by
 unfold upTo; rw [List.countP_eq_zero]; intro t ht; have := h t ht; simp; omega
theorem upTo_iff {bar : Int} : ∀ {l : List Tmp} {i : Nat} {t : Tmp}, SortedT l → l[i]? = some t → (t.bar ≤ bar ↔ i < upTo l bar)
 | [], _, _, _, h => by simp at h
 | a :: r, i, t, hs, h => by
  have hs' := List.pairwise_cons.1 hs
  by_cases ha : a.bar ≤ bar
  ·have e : upTo (a :: r) bar = upTo r bar + 1 := by unfold upTo; rw [List.countP_cons_of_pos (by simpa using ha)]
   cases i with
   | zero => simp at h; subst h; rw [e]; constructor <;> intro _ <;> omega
   | succ i =>
    rw [e, upTo_iff hs'.2 (by simpa using h)]
    omega
  ·have e : upTo (a :: r) bar = 0 := by
    refine upTo_zero fun x hx => ?_
    rcases List.mem_cons.1 hx with rfl | hx
    ·omega
    ·have := hs'.1 x hx; omega
   have ht : ¬ t.bar ≤ bar := by
    have hm := List.mem_of_getElem? h
    rcases List.mem_cons.1 hm with rfl | hm
    ·omega
    ·have := hs'.1 t hm; omega
   rw [e]; constructor
   ·intro h; exact absurd h ht
   ·intro h; omega
open Go.RowKit
set_option maxHeartbeats 400000 in
theorem need_okQ (c : Int) (w : World) : Calls Try.prog 98 #[.bool true, .int .i64 c] w fun e w' => e = .returned (.tuple #[]) ∧ w = w' := by
 go_enter Try.func98, Try.ntmps98
 go_wp2
 go_end0
 exact ⟨rfl, rfl⟩
set_option maxHeartbeats 400000 in
theorem need_badQ (c : Int) (w : World) : Calls Try.prog 98 #[.bool false, .int .i64 c] w fun e w' => e = errPanic c ∧ w = w' := by
 go_enter Try.func98, Try.ntmps98
 go_wp2
 exact ⟨rfl, rfl, rfl⟩
theorem atT {w : World} {b o i : Nat} {ts : List Tmp} {t : Tmp} (h : AtRow encT 3 w b o ts) (ht : ts[i]? = some t) :
  w.cell? ⟨b, o + i * 3, none⟩ = some (.int .i64 t.bar) ∧ w.cell? ⟨b, o + i * 3 + 1, none⟩ = some (.int .i64 t.ticks) ∧ w.cell? ⟨b, o + i * 3 + 2, none⟩ = some (.int .i64 t.step) :=
 ⟨h i t ht 0 _ rfl, h i t ht 1 _ rfl, h i t ht 2 _ rfl⟩
set_option maxHeartbeats 1000000 in
theorem later_any (i : Nat) (bar : Int) (C D b o n c : Nat) (ts : List Tmp) (t : Tmp) (w : World) (hn : ts.length = n) (ht : ts[i]? = some t) (hc : w.cell? ⟨C, 1, none⟩ = some (.slice (some ⟨b, o, none⟩) n c)) (hd : w.cell? ⟨D, 0, none⟩ = some (.int .i64 bar)) (hr : AtRow encT 3 w b o ts) :
  Calls Try.prog 106 #[.int .i64 i, .pointer (some ⟨C, 0, none⟩), .pointer (some ⟨D, 0, none⟩)] w fun e w' => e = .returned (.bool (decide (bar < t.bar))) ∧ ∃ k, w' = w.drewN k := by
 have hlt : i < n := by rw [← hn]; exact (List.getElem?_eq_some_iff.1 ht).1
 have hlt' : (0 : Int) ≤ i ∧ (i : Int) < n := by omega
 obtain ⟨p0, _, _⟩ := atT hr ht
 have HT := Lib.hid ht; have HN := Lib.hid hn; clear ht hn hr
 go_enter Try.func106, Try.ntmps106
 go_wp2_with fail
 go_quiet (fail)
 go_wp2
 go_ret
 exact ⟨rfl, _, rfl⟩
set_option maxHeartbeats 1000000 in
theorem search_any (bar : Int) (C D b o n c : Nat) (ts : List Tmp) (w : World) (hs : SortedT ts) (hn : ts.length = n) (hm : n ≤ 65536) (hc : w.cell? ⟨C, 1, none⟩ = some (.slice (some ⟨b, o, none⟩) n c)) (hd : w.cell? ⟨D, 0, none⟩ = some (.int .i64 bar)) (hr : AtRow encT 3 w b o ts) :
  Calls Try.prog 105 #[.int .i64 n, .func (.func 106) #[] #[.pointer (some ⟨C, 0, none⟩), .pointer (some ⟨D, 0, none⟩)]] w fun e w' => e = .returned (.int .i64 (upTo ts bar)) ∧ ∃ k, w' = w.drewN k := by
 have hu := upTo_le ts bar
 have HS := Lib.hid hs; have HN := Lib.hid hn; have HC := Lib.hid hc; have HD := Lib.hid hd; have HR := Lib.hid hr
 rw [hn] at hu
 clear hs hn hc hd hr
 go_enter Try.func105, Try.ntmps105
 go_wp2_with fail
 go_loopw [5, 6] (fun x y wr => ∃ i j k : Nat, x = .int .i64 i ∧ y = .int .i64 j ∧ i ≤ upTo ts bar ∧ upTo ts bar ≤ j ∧ j ≤ n ∧ wr = w.drewN k) (fun x y _ => (intOf y - intOf x).toNat)
 case atStart => exact ⟨0, n, 0, rfl, rfl, Nat.zero_le _, hu, Nat.le_refl _, rfl⟩
 case round =>
  obtain ⟨i, j, k, rfl, rfl, h1, h2, h3, rfl⟩ := hrel
  by_cases hij : i < j
  ·obtain ⟨t, ht⟩ : ∃ t, ts[(i + j) / 2]? = some t := ⟨_, List.getElem?_eq_getElem (by rw [HN.out]; omega)⟩
   have hij' : (i : Int) < (j : Int) := by omega
   obtain ⟨m, hm2⟩ : ∃ m : Nat, m = (i + j) / 2 := ⟨_, rfl⟩
   have hmid : ((i : Int) + (j : Int)) / 2 = (m : Int) := by omega
   have HM := Lib.hid hmid
   rw [← hm2] at ht
   have hiff := upTo_iff (bar := bar) HS.out ht
   have hm3 : i ≤ m := by omega
   have hm4 : m < j := by omega
   have HT := Lib.hid ht
   clear ht hmid hm2
   go_wp2_with fail
   rw [HM.out]
   refine (later_any m bar C D b o n c ts t (w.drewN k) HN.out HT.out HC.out HD.out HR.out).mono ?_
   rintro e w' ⟨rfl, k2, rfl⟩
   by_cases hb : bar < t.bar
   ·have h4 : upTo ts bar ≤ m := by
     rcases Nat.lt_or_ge m (upTo ts bar) with h | h
     ·have := hiff.2 h; omega
     ·exact h
    clear hiff
    go_wp2_with fail
    go_roundw
    case rel => exact ⟨i, m, k + k2, rfl, rfl, h1, h4, by omega, by simp [World.drewN]⟩
    case measure => simp [intOf]; omega
   ·have h4 : m < upTo ts bar := hiff.1 (by omega)
    have hb' : decide (bar < t.bar) = false := by simpa using hb
    clear hiff hb
    go_wp2_with fail
    go_roundw
    case rel => exact ⟨m + 1, j, k + k2, by go_num, rfl, by omega, h2, h3, by simp [World.drewN]⟩
    case measure => simp [intOf]; omega
  ·have hij' : ¬ (i : Int) < (j : Int) := by omega
   obtain rfl : i = upTo ts bar := by omega
   go_wp2_with fail
   go_ret
   exact ⟨rfl, _, rfl⟩
theorem cell_alloc_drew {w : World} {o : Obj} {a : Addr} {v : Value} (h : w.cell? a = some v) : (w.alloc o).drew.cell? a = some v :=
 (((Below.refl w.heap.size w).alloc (Nat.le_refl _) o).cell (p := a) (cell_block_lt h)).trans h
theorem row_alloc_drew {w : World} {o : Obj} {b c : Nat} {ts : List Tmp} (h : AtRow encT 3 w b c ts) (hb : b < w.heap.size) : AtRow encT 3 (w.alloc o).drew b c ts :=
 h.below (((Below.refl w.heap.size w).alloc (Nat.le_refl _) o).drew) hb
theorem mul_bd2 {a b : Int} (h1 : -4096 ≤ a) (h2 : a ≤ 4096) (h3 : -65536 ≤ b) (h4 : b ≤ 65536) : -268435456 ≤ a * b ∧ a * b ≤ 268435456 := by
 have hx : (a * b).natAbs ≤ 268435456 := by
  rw [Int.natAbs_mul]
  calc a.natAbs * b.natAbs ≤ 4096 * 65536 := Nat.mul_le_mul (by omega) (by omega)
   _ = 268435456 := by decide
 omega
def NoWrap (ts : List Tmp) (bar : Int) : Prop := SortedT ts ∧ 0 < upTo ts bar ∧ 0 ≤ bar ∧ bar ≤ 4096 ∧ ∀ t ∈ ts, 0 ≤ t.bar ∧ t.bar ≤ 4096 ∧ -65536 ≤ t.ticks ∧ t.ticks ≤ 65536 ∧ -65536 ≤ t.step ∧ t.step ≤ 65536
set_option maxRecDepth 100000 in
set_option maxHeartbeats 1000000 in
theorem ticks_any (bars bar : Int) (b o n c : Nat) (vp vs : Value) (ts : List Tmp) (w : World) (hn : ts.length = n) (hm : n ≤ 65536) (hr : AtRow encT 3 w b o ts) (hb : b < w.heap.size) (hw : NoWrap ts bar) :
  Calls Try.prog 100 #[.agg #[.int .i64 bars, .slice (some ⟨b, o, none⟩) n c, vp, vs], .int .i64 bar] w fun e w' => e = .returned (.int .i64 (ticksAt ts bar)) ∧ Below w.heap.size w w' := by
 obtain ⟨hs, hu, hb1, hb2, hall⟩ := hw
 have hul := upTo_le ts bar
 rw [hn] at hul
 obtain ⟨t, ht⟩ : ∃ t, ts[upTo ts bar - 1]? = some t := ⟨_, List.getElem?_eq_getElem (by omega)⟩
 have htk : ticksAt ts bar = t.ticks + (bar - t.bar) * t.step := by
  unfold ticksAt; rw [List.getElem!_eq_getElem?_getD, ht]; rfl
 obtain ⟨q1, q2, q3, q4, q5, q6⟩ := hall t (List.mem_of_getElem? ht)
 have HTK := Lib.hid htk; have HT := Lib.hid ht; have HS := Lib.hid hs; have HN := Lib.hid hn; have HR := Lib.hid hr
 clear htk ht hs hn hr hall
 have hB0 : Below w.heap.size w ((w.alloc (.cells #[.int .i64 bars, .slice (some ⟨b, o, none⟩) n c, vp, vs] 118)).alloc (.cells #[.int .i64 bar] 3)) := ((Below.refl _ w).alloc (Nat.le_refl _) _).alloc (by simp) _
 have hz : ((w.alloc (.cells #[.int .i64 bars, .slice (some ⟨b, o, none⟩) n c, vp, vs] 118)).alloc (.cells #[.int .i64 bar] 3)).heap.size = w.heap.size + 2 := by simp
 have g0 : ((w.alloc (.cells #[.int .i64 bars, .slice (some ⟨b, o, none⟩) n c, vp, vs] 118)).alloc (.cells #[.int .i64 bar] 3)).heap[w.heap.size]? = some (.cells #[.int .i64 bars, .slice (some ⟨b, o, none⟩) n c, vp, vs] 118 (0, 0)) := by
  rw [Below.heap_alloc _ _ _ (by simp)]; exact heap_alloc_new w _
 have g1 : ((w.alloc (.cells #[.int .i64 bars, .slice (some ⟨b, o, none⟩) n c, vp, vs] 118)).alloc (.cells #[.int .i64 bar] 3)).heap[w.heap.size + 1]? = some (.cells #[.int .i64 bar] 3 (0, 0)) := by
  have := heap_alloc_new (w.alloc (.cells #[.int .i64 bars, .slice (some ⟨b, o, none⟩) n c, vp, vs] 118)) (.cells #[.int .i64 bar] 3); simpa using this
 have hmf : ∀ (fn : Fn) (first cap : Array Value) (w : World), (Instr.makeFunc fn first cap).run Try.prog w = .ok (.func fn first cap) w := fun _ _ _ _ => rfl
 go_enter Try.func100, Try.ntmps100
 go_wp2_with fail
 generalize (w.alloc (.cells #[.int .i64 bars, .slice (some ⟨b, o, none⟩) n c, vp, vs] 118)).alloc (.cells #[.int .i64 bar] 3) = w0 at *
 have c1 : w0.cell? ⟨w.heap.size, 1, none⟩ = some (.slice (some ⟨b, o, none⟩) n c) := cell_at g0 1 rfl
 have d0 : w0.cell? ⟨w.heap.size + 1, 0, none⟩ = some (.int .i64 bar) := cell_at g1 0 rfl
 have HR0 := Lib.hid (HR.out.below hB0 hb)
 obtain ⟨p0, p1, p2⟩ := atT HR0.out HT.out
 have hb3 : b < w0.heap.size := by omega
 have hb4 : w.heap.size < w0.heap.size := by omega
 have hb5 : w.heap.size + 1 < w0.heap.size := by omega
 have HB0 := Lib.hid hB0
 clear hz g0 g1 hB0
 generalize hgm : upTo ts bar - 1 = m at *
 have hsum : IntKind.i64.wrap (((upTo ts bar : Nat) : Int) - 1) = (m : Int) := by rw [IntWalk.i64_in _ (by omega)]; omega
 have hin : (0 : Int) ≤ (m : Int) ∧ (m : Int) < n := by omega
 have hin1 := hin.1
 have hin2 := hin.2
 have htn : ((m : Int)).toNat = m := by omega
 have HGM := Lib.hid hgm
 clear hgm hin
 have hal : ∀ k o, (w0.drewN k).alloc o = (w0.alloc o).drewN k := fun _ _ => rfl
 have hst : ∀ k o a v, ((w0.alloc o).drewN k).setCell a v = ((w0.alloc o).setCell a v).drewN k := fun _ _ _ _ => by unfold World.drewN World.setCell; simp
 go_region_held3 (fun w' => w'.cell? ⟨w.heap.size, 1, none⟩ = some (.slice (some ⟨b, o, none⟩) n c) ∧ w'.cell? ⟨w.heap.size + 1, 0, none⟩ = some (.int .i64 bar) ∧ w'.cell? ⟨b, o + m * 3, none⟩ = some (.int .i64 t.bar) ∧ w'.cell? ⟨b, o + m * 3 + 1, none⟩ = some (.int .i64 t.ticks) ∧ w'.cell? ⟨b, o + m * 3 + 2, none⟩ = some (.int .i64 t.step) ∧ Below w0.heap.size w0 w') (refine ⟨?_, ?_, ?_, ?_, ?_, ?_⟩ <;> first | assumption | exact (Below.refl _ _).drew | exact below_drewN (Below.refl _ _) _ | exact (below_drewN (Below.refl _ _) _).alloc (by simp) _ | exact ((Below.refl _ _).drew).alloc (by simp) _ | exact Below.drew (by assumption) | exact below_drewN (by assumption) _ | go_keep)
  (first | (go_at_call 105; refine (search_any bar (w.heap.size) (w.heap.size + 1) b o n c ts _ HS.out HN.out hm ?_ ?_ ?_).mono ?_; (first | exact c1 | exact cell_alloc_drew c1); (first | exact d0 | exact cell_alloc_drew d0); (first | exact HR0.out | exact row_alloc_drew HR0.out hb3); rintro e w' ⟨rfl, k, rfl⟩))
 all_goals
  rename_i hHeld
  have hB9 := hHeld.2.2.2.2.2
  have hBf := Lib.hid (HB0.out.trans (hB9.mono (by omega)))
  have y1 : w0.cell? ⟨w.heap.size + 1, 0, none⟩ = some (.int .i64 bar) := d0
  clear hHeld hB9 hal hst c1 p0 p1 p2 hsum htn hin1 hin2
  obtain ⟨m1, m2⟩ := mul_bd2 (a := bar - t.bar) (b := t.step) (by omega) (by omega) q5 q6
  go_wp2
  go_ret
  exact ⟨ret_i64 HTK.out.symm, hBf.out⟩
end Go.Proofs.Ytpnbpepkoekkoaa
end
section
namespace Go.Proofs.Ytpnbpepkoekkoaa
open Go Go.RowKit
theorem rwithin_any (n lo hi : Int) (w : World) : Calls Try.prog 64 #[.int .i64 n, .int .i64 lo, .int .i64 hi] w fun e w' => e = .returned (.bool (inB n lo hi)) ∧ w = w' := by
 go_enter Try.func64, Try.ntmps64
 go_wp2
 all_goals
  go_ret
  refine ⟨ret_bool ?_, rfl⟩
  unfold inB
  rw [Bool.eq_iff_iff]; simp; omega
def wrongPanic : Ending := .panicked [{ v := .iface 113 (.agg #[]), recovered := false }]
set_option maxHeartbeats 400000 in
theorem demand_ok (w : World) : Calls Try.prog 63 #[.bool true] w fun e w' => e = .returned (.tuple #[]) ∧ w = w' := by
 go_enter Try.func63, Try.ntmps63
 go_wp2
 go_end0
 exact ⟨rfl, rfl⟩
set_option maxHeartbeats 400000 in
theorem demand_bad (w : World) : Calls Try.prog 63 #[.bool false] w fun e w' => e = wrongPanic ∧ w = w' := by
 go_enter Try.func63, Try.ntmps63
 go_wp2
 exact ⟨rfl, rfl, rfl⟩
def suitTab : List (Int × List Int) := [(1, [1, 2, 1, 8, 0, 0, 1, 16]), (2, [0, 0, 1, 8, 0, 0, 1, 16]), (3, [1, 2, 0, 8, 1, 3, 0, 0]), (4, [1, 2, 0, 8, 1, 3, 0, 0]), (5, [0, 0, 0, 8, 1, 3, 0, 0]), (6, [0, 0, 0, 0, 0, 0, 1, 7]), (7, [0, 0, 0, 0, 0, 0, 0, 0]), (8, [0, 0, 0, 0, 0, 0, 0, 0]), (9, [1, 2, 0, 0, 1, 3, 0, 0])]
def suitRow (k : Int) : List Int := ((suitTab.find? fun p => decide (p.1 = k)).map (·.2)).getD [0, 0, 0, 0, 0, 0, 0, 0]
def suitOk (k : Int) : Bool := (suitTab.find? fun p => decide (p.1 = k)).isSome
def suitV (l : List Int) : Value := .agg (l.map fun n => .int .i64 n).toArray
def suitKv : List (Int × Value) := suitTab.map fun p => (p.1, suitV p.2)
theorem suit_get (k : Int) : kvGet suitKv k = ((suitTab.find? fun p => decide (p.1 = k)).map (·.2)).map suitV := by
 unfold kvGet suitKv
 rw [List.find?_map]
 simp only [Option.map_map]
 rfl
section
variable {κ : Type} [DecidableEq κ] {f : κ → Value} {d : TypeDesc} {P : Program} {K E : TypeId}
theorem wpList_insert_l (hf : KeyOf d f) (w : World) {ops : Array Oper} {rest : List Oper} {o : Oper} {a : Act} {Q : Exit → Act → World → Prop}
  (hg : o.guard = none) (m x v : Operand) (t : TypeId) (hop : o.op = Op.insert t m x v ∨ o.op = Op.mapUpdate t m x v) (hT : P.underlying t = some (.map K E)) (hK : P.underlying K = some d) (b : Nat) (kvs kvs' : List (κ × Value))
  (hm : a.eval m = .map (some b)) (h : MapAt f w b kvs) (hn : KeysApart kvs) (k : κ) (hx : a.eval x = f k) (hp : kvPut kvs k (a.eval v) = kvs')
  (hQ : ∀ W, MapAt f W b kvs' → (∀ c, c ≠ b → W.heap[c]? = w.heap[c]?) → W.heap.size = w.heap.size → (∀ n, n ≤ b → Below n w W) → wpList P ops Q rest (a.put o.dst undef) W) :
  wpList P ops Q (o :: rest) a w := by
 refine wpList_insert_kv hf w hg m x v t hop hT hK b kvs hm h hn k hx fun ob hM => ?_
 rw [hp] at hM
 exact hQ _ hM (fun c hc => by simp only [Array.getElem?_setIfInBounds]; rw [if_neg (fun e => hc e.symm)]) (by simp) fun n hb => setBlock_below w b ob hb
end
theorem setRow_facts {W : World} {B : Nat} {cs z : Array Value} {t : TypeId} {w : World} {n : Nat} (h : W.heap[B]? = some (.cells z t (0, 0))) (hb : Below n w W) (hn : n ≤ B) : ∃ W', W.setRow B cs = W' ∧ W'.heap[B]? = some (.cells cs t (0, 0)) ∧ Below n w W' := by
 refine ⟨_, rfl, ?_, hb.os, hb.tape, hb.output, by simpa [World.setRow] using hb.size, fun b hlt => ?_⟩
 ·simp only [World.setRow]
  rw [Array.getElem?_modify, if_pos rfl, h]; rfl
 ·simp only [World.setRow]
  rw [Array.getElem?_modify, if_neg (by omega)]
  exact hb.block b hlt
theorem suit_apart (j : Nat) : KeysApart (suitKv.take j) := by
 unfold KeysApart
 have h : (suitKv.map (·.1)).Nodup := by decide
 rw [List.map_take]
 exact h.sublist (List.take_sublist ..)
theorem suit_row_len (k : Int) : ∃ a b c d e f g h : Int, suitRow k = [a, b, c, d, e, f, g, h] := by
 unfold suitRow suitTab
 simp only [List.find?]
 repeat' split
 all_goals exact ⟨_, _, _, _, _, _, _, _, rfl⟩
set_option maxRecDepth 100000 in
set_option maxHeartbeats 8000000 in
theorem suits_any (k : Int) (w : World) : Calls Try.prog 101 #[.int .i64 k] w fun e w' => e = .returned (.tuple #[suitV (suitRow k), .bool (suitOk k)]) ∧ Below w.heap.size w w' := by
 obtain ⟨W1, hW1, gW1, bW1, sW1⟩ := mk_cells w #[.int .i64 0, .int .i64 0, .int .i64 0, .int .i64 0, .int .i64 0, .int .i64 0, .int .i64 0, .int .i64 0] 151
 obtain ⟨W2, hW2, mW2, bW2, kW2⟩ : ∃ W2, W1.alloc (.map #[] 0) = W2 ∧ MapAt kI W2 W1.heap.size [] ∧ Below W1.heap.size W1 W2 ∧ W2.heap[w.heap.size]? = W1.heap[w.heap.size]? := ⟨_, rfl, MapAt.new W1, (Below.refl _ _).alloc (Nat.le_refl _) _, Below.heap_alloc _ _ _ (by omega)⟩
 obtain ⟨r0, r1, r2, r3, r4, r5, r6, r7, hr⟩ := suit_row_len k
 have hv : suitV (suitRow k) = .agg #[.int .i64 r0, .int .i64 r1, .int .i64 r2, .int .i64 r3, .int .i64 r4, .int .i64 r5, .int .i64 r6, .int .i64 r7] := by rw [hr]; rfl
 have hg1 : (kvGet (suitKv.take 9) k).getD (.agg #[.int .i64 0, .int .i64 0, .int .i64 0, .int .i64 0, .int .i64 0, .int .i64 0, .int .i64 0, .int .i64 0]) = .agg #[.int .i64 r0, .int .i64 r1, .int .i64 r2, .int .i64 r3, .int .i64 r4, .int .i64 r5, .int .i64 r6, .int .i64 r7] := by
  rw [← hv, show suitKv.take 9 = suitKv from rfl, suit_get]
  unfold suitRow
  cases suitTab.find? fun p => decide (p.1 = k) <;> rfl
 have hg2 : (kvGet (suitKv.take 9) k).isSome = suitOk k := by
  rw [show suitKv.take 9 = suitKv from rfl, suit_get]
  unfold suitOk
  simp
 have HG := Lib.hid (And.intro hg1 hg2)
 have HONE := Lib.hid (show (#[.int .i64 r0, .int .i64 r1, .int .i64 r2, .int .i64 r3, .int .i64 r4, .int .i64 r5, .int .i64 r6, .int .i64 r7] : Array Value).all (·.oneCell') = true by simp [Value.oneCell'])
 have HM : Hid (MapAt kI W2 W1.heap.size (suitKv.take 0)) := Lib.hid mW2
 have HN : Hid (w.heap.size < W1.heap.size) := Lib.hid (by omega)
 have HC := Lib.hid (kW2.trans gW1)
 have HB := Lib.hid (thenB bW1 bW2)
 rw [hv]
 clear mW2 bW2 kW2 gW1 bW1 sW1 hr hv hg1 hg2
 generalize suitOk k = ok at *
 have hmm := @run_makeMap Try.prog
 go_enter Try.func101, Try.ntmps101
 go_wp2_with (first | (refine wpList_insert_l kI_key _ rfl _ _ _ 159 (Or.inl rfl) Try.underlying159 Try.underlying3 _ (suitKv.take 0) (suitKv.take 1) rfl HM.out (suit_apart 0) 1 rfl (by rfl) ?_; intro W2 hm2 hk2 hs2 hb2; have HM2 := Lib.hid hm2; have HC2 := Lib.hid ((hk2 w.heap.size (by have := HN.out; omega)).trans HC.out); have HB2 := Lib.hid (HB.out.trans (hb2 w.heap.size (by have := HN.out; omega))); clear hm2 hk2 hs2 hb2 HM HC HB; have HM := HM2; have HC := HC2; have HB := HB2; clear HM2 HC2 HB2) | (refine wpList_insert_l kI_key _ rfl _ _ _ 159 (Or.inl rfl) Try.underlying159 Try.underlying3 _ (suitKv.take 1) (suitKv.take 2) rfl HM.out (suit_apart 1) 2 rfl (by rfl) ?_; intro W2 hm2 hk2 hs2 hb2; have HM2 := Lib.hid hm2; have HC2 := Lib.hid ((hk2 w.heap.size (by have := HN.out; omega)).trans HC.out); have HB2 := Lib.hid (HB.out.trans (hb2 w.heap.size (by have := HN.out; omega))); clear hm2 hk2 hs2 hb2 HM HC HB; have HM := HM2; have HC := HC2; have HB := HB2; clear HM2 HC2 HB2) | (refine wpList_insert_l kI_key _ rfl _ _ _ 159 (Or.inl rfl) Try.underlying159 Try.underlying3 _ (suitKv.take 2) (suitKv.take 3) rfl HM.out (suit_apart 2) 3 rfl (by rfl) ?_; intro W2 hm2 hk2 hs2 hb2; have HM2 := Lib.hid hm2; have HC2 := Lib.hid ((hk2 w.heap.size (by have := HN.out; omega)).trans HC.out); have HB2 := Lib.hid (HB.out.trans (hb2 w.heap.size (by have := HN.out; omega))); clear hm2 hk2 hs2 hb2 HM HC HB; have HM := HM2; have HC := HC2; have HB := HB2; clear HM2 HC2 HB2) | (refine wpList_insert_l kI_key _ rfl _ _ _ 159 (Or.inl rfl) Try.underlying159 Try.underlying3 _ (suitKv.take 3) (suitKv.take 4) rfl HM.out (suit_apart 3) 4 rfl (by rfl) ?_; intro W2 hm2 hk2 hs2 hb2; have HM2 := Lib.hid hm2; have HC2 := Lib.hid ((hk2 w.heap.size (by have := HN.out; omega)).trans HC.out); have HB2 := Lib.hid (HB.out.trans (hb2 w.heap.size (by have := HN.out; omega))); clear hm2 hk2 hs2 hb2 HM HC HB; have HM := HM2; have HC := HC2; have HB := HB2; clear HM2 HC2 HB2) | (refine wpList_insert_l kI_key _ rfl _ _ _ 159 (Or.inl rfl) Try.underlying159 Try.underlying3 _ (suitKv.take 4) (suitKv.take 5) rfl HM.out (suit_apart 4) 5 rfl (by rfl) ?_; intro W2 hm2 hk2 hs2 hb2; have HM2 := Lib.hid hm2; have HC2 := Lib.hid ((hk2 w.heap.size (by have := HN.out; omega)).trans HC.out); have HB2 := Lib.hid (HB.out.trans (hb2 w.heap.size (by have := HN.out; omega))); clear hm2 hk2 hs2 hb2 HM HC HB; have HM := HM2; have HC := HC2; have HB := HB2; clear HM2 HC2 HB2) | (refine wpList_insert_l kI_key _ rfl _ _ _ 159 (Or.inl rfl) Try.underlying159 Try.underlying3 _ (suitKv.take 5) (suitKv.take 6) rfl HM.out (suit_apart 5) 6 rfl (by rfl) ?_; intro W2 hm2 hk2 hs2 hb2; have HM2 := Lib.hid hm2; have HC2 := Lib.hid ((hk2 w.heap.size (by have := HN.out; omega)).trans HC.out); have HB2 := Lib.hid (HB.out.trans (hb2 w.heap.size (by have := HN.out; omega))); clear hm2 hk2 hs2 hb2 HM HC HB; have HM := HM2; have HC := HC2; have HB := HB2; clear HM2 HC2 HB2) | (refine wpList_insert_l kI_key _ rfl _ _ _ 159 (Or.inl rfl) Try.underlying159 Try.underlying3 _ (suitKv.take 6) (suitKv.take 7) rfl HM.out (suit_apart 6) 7 rfl (by rfl) ?_; intro W2 hm2 hk2 hs2 hb2; have HM2 := Lib.hid hm2; have HC2 := Lib.hid ((hk2 w.heap.size (by have := HN.out; omega)).trans HC.out); have HB2 := Lib.hid (HB.out.trans (hb2 w.heap.size (by have := HN.out; omega))); clear hm2 hk2 hs2 hb2 HM HC HB; have HM := HM2; have HC := HC2; have HB := HB2; clear HM2 HC2 HB2) | (refine wpList_insert_l kI_key _ rfl _ _ _ 159 (Or.inl rfl) Try.underlying159 Try.underlying3 _ (suitKv.take 7) (suitKv.take 8) rfl HM.out (suit_apart 7) 8 rfl (by rfl) ?_; intro W2 hm2 hk2 hs2 hb2; have HM2 := Lib.hid hm2; have HC2 := Lib.hid ((hk2 w.heap.size (by have := HN.out; omega)).trans HC.out); have HB2 := Lib.hid (HB.out.trans (hb2 w.heap.size (by have := HN.out; omega))); clear hm2 hk2 hs2 hb2 HM HC HB; have HM := HM2; have HC := HC2; have HB := HB2; clear HM2 HC2 HB2) | (refine wpList_insert_l kI_key _ rfl _ _ _ 159 (Or.inl rfl) Try.underlying159 Try.underlying3 _ (suitKv.take 8) (suitKv.take 9) rfl HM.out (suit_apart 8) 9 rfl (by rfl) ?_; intro W2 hm2 hk2 hs2 hb2; have HM2 := Lib.hid hm2; have HC2 := Lib.hid ((hk2 w.heap.size (by have := HN.out; omega)).trans HC.out); have HB2 := Lib.hid (HB.out.trans (hb2 w.heap.size (by have := HN.out; omega))); clear hm2 hk2 hs2 hb2 HM HC HB; have HM := HM2; have HC := HC2; have HB := HB2; clear HM2 HC2 HB2) | (refine wpList_lookup_kv kI_key _ rfl _ _ 159 true rfl Try.underlying159 Try.underlying3 (z := .agg #[.int .i64 0, .int .i64 0, .int .i64 0, .int .i64 0, .int .i64 0, .int .i64 0, .int .i64 0, .int .i64 0]) (by kernel_rfl) _ _ rfl HM.out k rfl ?_; rw [HG.out.1, HG.out.2]) | (refine wpList_store_row rfl 151 _ _ rfl w.heap.size #[.int .i64 r0, .int .i64 r1, .int .i64 r2, .int .i64 r3, .int .i64 r4, .int .i64 r5, .int .i64 r6, .int .i64 r7] rfl rfl 151 _ HC.out (by kernel_rfl) rfl HONE.out ?_; obtain ⟨W9, hW9, hc9, hb9⟩ := setRow_facts (cs := #[.int .i64 r0, .int .i64 r1, .int .i64 r2, .int .i64 r3, .int .i64 r4, .int .i64 r5, .int .i64 r6, .int .i64 r7]) HC.out HB.out (Nat.le_refl _); rw [hW9]; have HC9 := Lib.hid hc9; have HB9 := Lib.hid hb9; clear hW9 hc9 hb9 HC HB; have HC := HC9; have HB := HB9; clear HC9 HB9) | (refine wpList_load_row rfl 151 _ rfl w.heap.size rfl 151 #[.int .i64 r0, .int .i64 r1, .int .i64 r2, .int .i64 r3, .int .i64 r4, .int .i64 r5, .int .i64 r6, .int .i64 r7] (0, 0) _ HC.out Try.underlying151 rfl (by kernel_rfl) ?_; simp only [Act.put, List.setIfInBounds_toArray, List.set_cons_zero, List.set_cons_succ]))
 have hX := HC.out
 refine bodyPost_ret (v := .tuple #[.agg #[.int .i64 r0, .int .i64 r1, .int .i64 r2, .int .i64 r3, .int .i64 r4, .int .i64 r5, .int .i64 r6, .int .i64 r7], .bool ok]) ?_ rfl ⟨rfl, HB.out⟩
 have y0 := cell_at hX 0 rfl; have y1 := cell_at hX 1 rfl; have y2 := cell_at hX 2 rfl; have y3 := cell_at hX 3 rfl; have y4 := cell_at hX 4 rfl; have y5 := cell_at hX 5 rfl; have y6 := cell_at hX 6 rfl; have y7 := cell_at hX 7 rfl
 clear hX
 simp [results, Try.results101, go_sem, y0, y1, y2, y3, y4, y5, y6, y7]
end Go.Proofs.Ytpnbpepkoekkoaa
end
section
namespace Go.Proofs.Ytpnbpepkoekkoaa
open Go Go.RowKit
def restB (fa fb ta tb : Int) : Bool := ratB fa fb && ratB ta tb && decide (fa * tb < ta * fb) && decide (0 ≤ fa) && decide (ta ≤ tb)
def ExP (b : Bool) (w : World) (e : Ending) (w' : World) : Prop := ((b = true ∧ e = .returned (.tuple #[])) ∨ (b = false ∧ e = wrongPanic)) ∧ Below w.heap.size w w'
theorem cmp_neg (a b : Int) : decide (cmpI a b < 0) = decide (a < b) := by
 unfold cmpI
 by_cases h : a < b
 ·rw [if_pos h, decide_eq_true h]; rfl
 ·rw [if_neg h, decide_eq_false h]
  split <;> rfl
noncomputable def code88 : Code := (Try.f88.body).getD .skip
noncomputable def elem88n0 : Code := match lastPart 0 code88 with
 | .seq a _ => a
 | c => c
noncomputable def elem88n1 : Code := match lastPart 1 code88 with
 | .seq a _ => a
 | c => c
noncomputable def elem88n2 : Code := match lastPart 2 code88 with
 | .seq a _ => a
 | c => c
noncomputable def elem88n3 : Code := match lastPart 3 code88 with
 | .seq a _ => a
 | c => c
theorem mvstep1 : lastPart 1 code88 = .seq elem88n1 (lastPart 2 code88) := rfl
theorem mvstep2 : lastPart 2 code88 = .seq elem88n2 (lastPart 3 code88) := rfl
theorem mvstep3 : lastPart 3 code88 = .seq elem88n3 (lastPart 4 code88) := rfl
set_option maxRecDepth 100000 in
set_option maxHeartbeats 16000000 in
theorem mv_e4 (mark kind side dir lev size n fa fb ta tb : Int) (wn : Nm) (A : Nat) (w W : World) (hb : Below w.heap.size w W) (hA : W.heap[A]? = some (.cells #[.int .i64 mark, .int .i64 kind, .int .i64 side, .int .i64 dir, .int .i64 lev, .int .i64 size, sv wn, .int .i64 n, .int .i64 fa, .int .i64 fb, .int .i64 ta, .int .i64 tb] 85 (0, 0))) (e0 e2 e3 e4 e5 e6 e7 e8 e9 e10 e11 e12 e13 e14 e15 e16 e17 e18 e19 e20 e21 e22 e23 e24 e25 e26 e27 e28 e29 e30 e31 e32 e33 e34 e35 e36 e37 e38 e39 e40 e41 e42 e43 e44 e45 e46 e47 e48 e49 e50 e51 e52 e53 e54 e55 e56 e57 e58 e59 e60 e61 e62 e63 e64 e65 e66 e67 e68 e69 e70 e71 e72 e73 e74 e75 : Value) :
  (lastPart 4 code88).wp Try.prog (bodyPost Try.prog Try.f88 (ExP (restB fa fb ta tb) w)) { tmps := #[e0, .pointer (some ⟨A, 0, none⟩), e2, e3, e4, e5, e6, e7, e8, e9, e10, e11, e12, e13, e14, e15, e16, e17, e18, e19, e20, e21, e22, e23, e24, e25, e26, e27, e28, e29, e30, e31, e32, e33, e34, e35, e36, e37, e38, e39, e40, e41, e42, e43, e44, e45, e46, e47, e48, e49, e50, e51, e52, e53, e54, e55, e56, e57, e58, e59, e60, e61, e62, e63, e64, e65, e66, e67, e68, e69, e70, e71, e72, e73, e74, e75], defers := [] } W := by
 have C := rcmp_any fa fb ta tb W
 have y8 := cell_at hA 8 rfl; have y9 := cell_at hA 9 rfl; have y10 := cell_at hA 10 rfl; have y11 := cell_at hA 11 rfl
 have HC := Lib.hid C; have HA := Lib.hid hA; have HB := Lib.hid hb
 clear C hA hb
 conv => arg 2; whnf
 go_wp2_with fail
 refine HC.out.mono ?_
 rintro e V ⟨rfl, hv⟩
 have HBV := Lib.hid (thenB HB.out hv)
 have hAV := keepO hv HA.out
 clear y8 y9 y10 y11 HC hv
 have y8 := cell_at hAV 8 rfl; have y9 := cell_at hAV 9 rfl; have y10 := cell_at hAV 10 rfl; have y11 := cell_at hAV 11 rfl
 clear hAV HA
 unfold rcmpV
 cases hr : ratB fa fb && ratB ta tb with
 | false =>
  have hz : restB fa fb ta tb = false := by unfold restB; rw [hr]; rfl
  have HZ := Lib.hid hz
  clear hr hz
  go_wp2_with (go_at_call 63; first | (refine (demand_ok _).mono ?_; rintro e w2 ⟨rfl, rfl⟩) | (refine (demand_bad _).mono ?_; unfold wrongPanic; rintro e w2 ⟨rfl, rfl⟩))
  exact ⟨rfl, Or.inr ⟨HZ.out, rfl⟩, HBV.out⟩
 | true =>
  obtain ⟨x, hx⟩ : ∃ x, decide (fa * tb < ta * fb) = x := ⟨_, rfl⟩
  obtain ⟨y, hy⟩ : ∃ y, decide (0 ≤ fa) = y := ⟨_, rfl⟩
  obtain ⟨z, hz⟩ : ∃ z, decide (ta ≤ tb) = z := ⟨_, rfl⟩
  have hzz : restB fa fb ta tb = (x && y && z) := by unfold restB; rw [hr, hx, hy, hz]; rfl
  have hc := cmp_neg (fa * tb) (ta * fb)
  rw [hx] at hc
  have HZ := Lib.hid hzz
  generalize cmpI (fa * tb) (ta * fb) = c at *
  clear hr hzz hx
  cases x <;> cases y <;> cases z
  all_goals
   go_wp2_with (go_at_call 63; first | (refine (demand_ok _).mono ?_; rintro e w2 ⟨rfl, rfl⟩) | (refine (demand_bad _).mono ?_; unfold wrongPanic; rintro e w2 ⟨rfl, rfl⟩))
   first
    | (go_end0; exact ⟨Or.inl ⟨HZ.out, rfl⟩, HBV.out⟩)
    | exact ⟨rfl, Or.inr ⟨HZ.out, rfl⟩, HBV.out⟩
    | trace_state
def fldL (side dir lev size r0 r1 r2 r3 r4 r5 r6 r7 : Int) : List Bool := [inB side r0 r1, inB dir r2 r3, inB lev r4 r5, inB size r6 r7]
def OkTo (l : List Bool) (i : Nat) : Prop := ∀ j b, j < i → l[j]? = some b → b = true
theorem ok_next {l : List Bool} {i : Nat} {b : Bool} (h : OkTo l i) (hb : l[i]? = some b) (ht : b = true) : OkTo l (i + 1) := fun j c hj hc => by
 by_cases e : j = i
 ·subst e
  rw [hb] at hc
  injection hc with hc
  rw [← hc]; exact ht
 ·exact h j c (by omega) hc
theorem ok_all {l : List Bool} (h : OkTo l l.length) : l.all id = true := List.all_eq_true.2 fun b hb => by
 obtain ⟨j, hj⟩ := List.getElem?_of_mem hb
 exact h j b (List.getElem?_eq_some_iff.1 hj).1 hj
theorem bad_all {l : List Bool} {j : Nat} {b : Bool} (h : l[j]? = some b) (hb : b = false) : l.all id = false := by
 rw [← Bool.not_eq_true, List.all_eq_true]
 intro h2
 have := h2 b (List.mem_of_getElem? h)
 rw [hb] at this; cases this
set_option maxRecDepth 100000 in
set_option maxHeartbeats 16000000 in
theorem mv_e3 (mark kind side dir lev size n fa fb ta tb r0 r1 r2 r3 r4 r5 r6 r7 : Int) (wn : Nm) (A R : Nat) (w W : World) (hb : Below w.heap.size w W) (hA : W.heap[A]? = some (.cells #[.int .i64 mark, .int .i64 kind, .int .i64 side, .int .i64 dir, .int .i64 lev, .int .i64 size, sv wn, .int .i64 n, .int .i64 fa, .int .i64 fb, .int .i64 ta, .int .i64 tb] 85 (0, 0))) (hR : W.heap[R]? = some (.cells #[.int .i64 r0, .int .i64 r1, .int .i64 r2, .int .i64 r3, .int .i64 r4, .int .i64 r5, .int .i64 r6, .int .i64 r7] 151 (0, 0))) (e0 e3 e4 e5 e6 e7 e8 e9 e10 e11 e12 e13 e14 e15 e16 e17 e18 e19 e20 e21 e22 e23 e24 e25 e26 e27 e28 e29 e30 e31 e32 e33 e34 e35 e36 e37 e38 e39 e40 e41 e42 e43 e44 e45 e46 e47 e48 e49 e50 e51 e52 e53 e54 e55 e56 e57 e58 e59 e60 e61 e62 e63 e64 e65 e66 e67 e68 e69 e70 e71 e72 e73 e74 e75 : Value) :
  (lastPart 3 code88).wp Try.prog (bodyPost Try.prog Try.f88 (ExP ((fldL side dir lev size r0 r1 r2 r3 r4 r5 r6 r7).all id && restB fa fb ta tb) w)) { tmps := #[e0, .pointer (some ⟨A, 0, none⟩), .pointer (some ⟨R, 0, none⟩), e3, e4, e5, e6, e7, e8, e9, e10, e11, e12, e13, e14, e15, e16, e17, e18, e19, e20, e21, e22, e23, e24, e25, e26, e27, e28, e29, e30, e31, e32, e33, e34, e35, e36, e37, e38, e39, e40, e41, e42, e43, e44, e45, e46, e47, e48, e49, e50, e51, e52, e53, e54, e55, e56, e57, e58, e59, e60, e61, e62, e63, e64, e65, e66, e67, e68, e69, e70, e71, e72, e73, e74, e75], defers := [] } W := by
 have y2 := cell_at hA 2 rfl; have y3 := cell_at hA 3 rfl; have y4 := cell_at hA 4 rfl; have y5 := cell_at hA 5 rfl
 have z0 := cell_at hR 0 rfl; have z1 := cell_at hR 1 rfl; have z2 := cell_at hR 2 rfl; have z3 := cell_at hR 3 rfl; have z4 := cell_at hR 4 rfl; have z5 := cell_at hR 5 rfl; have z6 := cell_at hR 6 rfl; have z7 := cell_at hR 7 rfl
 have HE : Hid (∀ V, Below W.heap.size W V → OkTo (fldL side dir lev size r0 r1 r2 r3 r4 r5 r6 r7) 4 → ∀ (e0 e2 e3 e4 e5 e6 e7 e8 e9 e10 e11 e12 e13 e14 e15 e16 e17 e18 e19 e20 e21 e22 e23 e24 e25 e26 e27 e28 e29 e30 e31 e32 e33 e34 e35 e36 e37 e38 e39 e40 e41 e42 e43 e44 e45 e46 e47 e48 e49 e50 e51 e52 e53 e54 e55 e56 e57 e58 e59 e60 e61 e62 e63 e64 e65 e66 e67 e68 e69 e70 e71 e72 e73 e74 e75 : Value), (lastPart 4 code88).wp Try.prog (bodyPost Try.prog Try.f88 (ExP ((fldL side dir lev size r0 r1 r2 r3 r4 r5 r6 r7).all id && restB fa fb ta tb) w)) { tmps := #[e0, .pointer (some ⟨A, 0, none⟩), e2, e3, e4, e5, e6, e7, e8, e9, e10, e11, e12, e13, e14, e15, e16, e17, e18, e19, e20, e21, e22, e23, e24, e25, e26, e27, e28, e29, e30, e31, e32, e33, e34, e35, e36, e37, e38, e39, e40, e41, e42, e43, e44, e45, e46, e47, e48, e49, e50, e51, e52, e53, e54, e55, e56, e57, e58, e59, e60, e61, e62, e63, e64, e65, e66, e67, e68, e69, e70, e71, e72, e73, e74, e75], defers := [] } V) := Lib.hid fun V hv ho => by
  rw [ok_all ho, Bool.true_and]
  exact mv_e4 mark kind side dir lev size n fa fb ta tb wn A w V (thenB hb hv) (keepO hv hA)
 have HF : Hid (∀ j b, (fldL side dir lev size r0 r1 r2 r3 r4 r5 r6 r7)[j]? = some b → b = false → ((fldL side dir lev size r0 r1 r2 r3 r4 r5 r6 r7).all id && restB fa fb ta tb) = false) := Lib.hid fun j b h1 h2 => by rw [bad_all h1 h2]; rfl
 have HB := Lib.hid hb
 clear hA hR hb
 generalize restB fa fb ta tb = rest at *
 rw [mvstep3]
 refine wp_seq_thenQ (fun K hK => ?_)
 have HK := Lib.hid hK
 clear hK
 conv => arg 2; whnf
 go_wp2_with fail
 go_loopw [30] (fun iv wr => ∃ i : Nat, iv = .int .i64 i ∧ i ≤ 4 ∧ Hid (OkTo (fldL side dir lev size r0 r1 r2 r3 r4 r5 r6 r7) i) ∧ Hid (∃ q, wr = W.drewN q)) (fun iv _ => 5 - (intOf iv).toNat)
 case atStart => exact ⟨0, rfl, Nat.zero_le _, Lib.hid (fun j b h => by omega), Lib.hid ⟨0, rfl⟩⟩
 case round =>
  obtain ⟨i, rfl, hin, hf, hq⟩ := hrel
  obtain ⟨q, rfl⟩ := hq.out
  have HW : Hid (Below w.heap.size w (W.drewN q).drew) := Lib.hid (below_drewN (below_drewN HB.out q) 1)
  have hWd : Hid (∃ q', (W.drewN q).drew = W.drewN q') := Lib.hid ⟨q + 1, rfl⟩
  rcases (by omega : i = 0 ∨ i = 1 ∨ i = 2 ∨ i = 3 ∨ i = 4) with rfl | rfl | rfl | rfl | rfl
  ·obtain ⟨b, hb⟩ : ∃ b, inB side r0 r1 = b := ⟨_, rfl⟩
   have HBB := Lib.hid hb
   clear hb
   have hidx : ∀ V : World, (Instr.index 154 (.agg #[.int .i64 side, .int .i64 dir, .int .i64 lev, .int .i64 size]) (.int .i64 0)).run Try.prog V = .ok (.int .i64 side) V := fun V => by kernel_rfl
   go_wp2_with fail
   refine region_tailQ (fun w2 => w2 = (W.drewN q).drew) 10 (by kernel_rfl) (by kernel_rfl) rfl ?_
   intro w2 hS
   subst hS
   simp only [List.take_succ_cons, List.take_zero, List.drop_succ_cons, List.drop_zero]
   repeat still_step
   still_call ((rwithin_any _ _ _ _).mono fun _ _ ⟨e1, e2⟩ => ⟨e1, e2.symm⟩)
   repeat still_step
   refine wpStill_nil ?_
   rw [HBB.out]
   cases b with
   | false =>
    have HZ := Lib.hid (HF.out 0 _ rfl HBB.out)
    go_wp2_with (go_at_call 63; first | (refine (demand_ok _).mono ?_; rintro e w2 ⟨rfl, rfl⟩) | (refine (demand_bad _).mono ?_; unfold wrongPanic; rintro e w2 ⟨rfl, rfl⟩))
    exact ⟨rfl, Or.inr ⟨HZ.out, rfl⟩, HW.out⟩
   | true =>
    go_wp2_with (go_at_call 63; first | (refine (demand_ok _).mono ?_; rintro e w2 ⟨rfl, rfl⟩) | (refine (demand_bad _).mono ?_; unfold wrongPanic; rintro e w2 ⟨rfl, rfl⟩))
    go_roundw
    case rel => exact ⟨0 + 1, by go_num, by omega, Lib.hid (ok_next hf.out rfl HBB.out), hWd⟩
    case measure => simp [intOf]
  ·obtain ⟨b, hb⟩ : ∃ b, inB dir r2 r3 = b := ⟨_, rfl⟩
   have HBB := Lib.hid hb
   clear hb
   have hidx : ∀ V : World, (Instr.index 154 (.agg #[.int .i64 side, .int .i64 dir, .int .i64 lev, .int .i64 size]) (.int .i64 1)).run Try.prog V = .ok (.int .i64 dir) V := fun V => by kernel_rfl
   go_wp2_with fail
   refine region_tailQ (fun w2 => w2 = (W.drewN q).drew) 10 (by kernel_rfl) (by kernel_rfl) rfl ?_
   intro w2 hS
   subst hS
   simp only [List.take_succ_cons, List.take_zero, List.drop_succ_cons, List.drop_zero]
   repeat still_step
   still_call ((rwithin_any _ _ _ _).mono fun _ _ ⟨e1, e2⟩ => ⟨e1, e2.symm⟩)
   repeat still_step
   refine wpStill_nil ?_
   rw [HBB.out]
   cases b with
   | false =>
    have HZ := Lib.hid (HF.out 1 _ rfl HBB.out)
    go_wp2_with (go_at_call 63; first | (refine (demand_ok _).mono ?_; rintro e w2 ⟨rfl, rfl⟩) | (refine (demand_bad _).mono ?_; unfold wrongPanic; rintro e w2 ⟨rfl, rfl⟩))
    exact ⟨rfl, Or.inr ⟨HZ.out, rfl⟩, HW.out⟩
   | true =>
    go_wp2_with (go_at_call 63; first | (refine (demand_ok _).mono ?_; rintro e w2 ⟨rfl, rfl⟩) | (refine (demand_bad _).mono ?_; unfold wrongPanic; rintro e w2 ⟨rfl, rfl⟩))
    go_roundw
    case rel => exact ⟨1 + 1, by go_num, by omega, Lib.hid (ok_next hf.out rfl HBB.out), hWd⟩
    case measure => simp [intOf]
  ·obtain ⟨b, hb⟩ : ∃ b, inB lev r4 r5 = b := ⟨_, rfl⟩
   have HBB := Lib.hid hb
   clear hb
   have hidx : ∀ V : World, (Instr.index 154 (.agg #[.int .i64 side, .int .i64 dir, .int .i64 lev, .int .i64 size]) (.int .i64 2)).run Try.prog V = .ok (.int .i64 lev) V := fun V => by kernel_rfl
   go_wp2_with fail
   refine region_tailQ (fun w2 => w2 = (W.drewN q).drew) 10 (by kernel_rfl) (by kernel_rfl) rfl ?_
   intro w2 hS
   subst hS
   simp only [List.take_succ_cons, List.take_zero, List.drop_succ_cons, List.drop_zero]
   repeat still_step
   still_call ((rwithin_any _ _ _ _).mono fun _ _ ⟨e1, e2⟩ => ⟨e1, e2.symm⟩)
   repeat still_step
   refine wpStill_nil ?_
   rw [HBB.out]
   cases b with
   | false =>
    have HZ := Lib.hid (HF.out 2 _ rfl HBB.out)
    go_wp2_with (go_at_call 63; first | (refine (demand_ok _).mono ?_; rintro e w2 ⟨rfl, rfl⟩) | (refine (demand_bad _).mono ?_; unfold wrongPanic; rintro e w2 ⟨rfl, rfl⟩))
    exact ⟨rfl, Or.inr ⟨HZ.out, rfl⟩, HW.out⟩
   | true =>
    go_wp2_with (go_at_call 63; first | (refine (demand_ok _).mono ?_; rintro e w2 ⟨rfl, rfl⟩) | (refine (demand_bad _).mono ?_; unfold wrongPanic; rintro e w2 ⟨rfl, rfl⟩))
    go_roundw
    case rel => exact ⟨2 + 1, by go_num, by omega, Lib.hid (ok_next hf.out rfl HBB.out), hWd⟩
    case measure => simp [intOf]
  ·obtain ⟨b, hb⟩ : ∃ b, inB size r6 r7 = b := ⟨_, rfl⟩
   have HBB := Lib.hid hb
   clear hb
   have hidx : ∀ V : World, (Instr.index 154 (.agg #[.int .i64 side, .int .i64 dir, .int .i64 lev, .int .i64 size]) (.int .i64 3)).run Try.prog V = .ok (.int .i64 size) V := fun V => by kernel_rfl
   go_wp2_with fail
   refine region_tailQ (fun w2 => w2 = (W.drewN q).drew) 10 (by kernel_rfl) (by kernel_rfl) rfl ?_
   intro w2 hS
   subst hS
   simp only [List.take_succ_cons, List.take_zero, List.drop_succ_cons, List.drop_zero]
   repeat still_step
   still_call ((rwithin_any _ _ _ _).mono fun _ _ ⟨e1, e2⟩ => ⟨e1, e2.symm⟩)
   repeat still_step
   refine wpStill_nil ?_
   rw [HBB.out]
   cases b with
   | false =>
    have HZ := Lib.hid (HF.out 3 _ rfl HBB.out)
    go_wp2_with (go_at_call 63; first | (refine (demand_ok _).mono ?_; rintro e w2 ⟨rfl, rfl⟩) | (refine (demand_bad _).mono ?_; unfold wrongPanic; rintro e w2 ⟨rfl, rfl⟩))
    exact ⟨rfl, Or.inr ⟨HZ.out, rfl⟩, HW.out⟩
   | true =>
    go_wp2_with (go_at_call 63; first | (refine (demand_ok _).mono ?_; rintro e w2 ⟨rfl, rfl⟩) | (refine (demand_bad _).mono ?_; unfold wrongPanic; rintro e w2 ⟨rfl, rfl⟩))
    go_roundw
    case rel => exact ⟨3 + 1, by go_num, by omega, Lib.hid (ok_next hf.out rfl HBB.out), hWd⟩
    case measure => simp [intOf]
  ·go_wp2_with fail
   refine HK.out _ _ ?_
   exact HE.out _ (below_drewN (Below.refl _ _) q) hf.out _ _ _ _ _ _ _ _ _ _ _ _ _ _ _ _ _ _ _ _ _ _ _ _ _ _ _ _ _ _ _ _ _ _ _ _ _ _ _ _ _ _ _ _ _ _ _ _ _ _ _ _ _ _ _ _ _ _ _ _ _ _ _ _ _ _ _ _ _ _ _ _ _ _ _
end Go.Proofs.Ytpnbpepkoekkoaa
end
section
namespace Go.Proofs.Ytpnbpepkoekkoaa
open Go Go.RowKit
def fldB (kind side dir lev size : Int) : Bool := match suitRow kind with
 | [r0, r1, r2, r3, r4, r5, r6, r7] => (fldL side dir lev size r0 r1 r2 r3 r4 r5 r6 r7).all id
 | _ => false
def movB (mark kind side dir lev size fa fb ta tb : Int) : Bool := (suitOk kind && inB mark 1 3) && (fldB kind side dir lev size && restB fa fb ta tb)
set_option maxRecDepth 100000 in
set_option maxHeartbeats 16000000 in
theorem exMove_any (mark kind side dir lev size n fa fb ta tb : Int) (wn : Nm) (w : World) : Calls Try.prog 88 #[.agg #[.int .i64 mark, .int .i64 kind, .int .i64 side, .int .i64 dir, .int .i64 lev, .int .i64 size, sv wn, .int .i64 n, .int .i64 fa, .int .i64 fb, .int .i64 ta, .int .i64 tb]] w (ExP (movB mark kind side dir lev size fa fb ta tb) w) := by
 obtain ⟨W1, hW1, gW1, bW1, sW1⟩ := mk_cells w #[.int .i64 mark, .int .i64 kind, .int .i64 side, .int .i64 dir, .int .i64 lev, .int .i64 size, sv wn, .int .i64 n, .int .i64 fa, .int .i64 fb, .int .i64 ta, .int .i64 tb] 85
 obtain ⟨r0, r1, r2, r3, r4, r5, r6, r7, hr⟩ := suit_row_len kind
 have hv : suitV (suitRow kind) = .agg #[.int .i64 r0, .int .i64 r1, .int .i64 r2, .int .i64 r3, .int .i64 r4, .int .i64 r5, .int .i64 r6, .int .i64 r7] := by rw [hr]; rfl
 have hone : (#[.int .i64 r0, .int .i64 r1, .int .i64 r2, .int .i64 r3, .int .i64 r4, .int .i64 r5, .int .i64 r6, .int .i64 r7] : Array Value).all (·.oneCell') = true := by simp [Value.oneCell']
 have hfld : fldB kind side dir lev size = (fldL side dir lev size r0 r1 r2 r3 r4 r5 r6 r7).all id := by unfold fldB; rw [hr]
 have C := suits_any kind W1
 rw [hv] at C
 have HM : Hid (movB mark kind side dir lev size fa fb ta tb = ((suitOk kind && inB mark 1 3) && ((fldL side dir lev size r0 r1 r2 r3 r4 r5 r6 r7).all id && restB fa fb ta tb))) := Lib.hid (by unfold movB; rw [hfld])
 generalize movB mark kind side dir lev size fa fb ta tb = mb at *
 obtain ⟨ok, hok⟩ : ∃ ok, suitOk kind = ok := ⟨_, rfl⟩
 rw [hok] at C HM
 have HC := Lib.hid C; have HO := Lib.hid hone; have HW1 := Lib.hid hW1; have HG := Lib.hid gW1; have HB := Lib.hid bW1
 clear C hone hv hr hfld hok hW1 gW1 bW1
 obtain ⟨cs, hcs⟩ : ∃ cs : Array Value, #[.int .i64 mark, .int .i64 kind, .int .i64 side, .int .i64 dir, .int .i64 lev, .int .i64 size, sv wn, .int .i64 n, .int .i64 fa, .int .i64 fb, .int .i64 ta, .int .i64 tb] = cs := ⟨_, rfl⟩
 have HCS := Lib.hid hcs
 have hW1' := HW1.out
 rw [hcs] at hW1' ⊢
 have HW1' := Lib.hid hW1'
 clear hcs hW1' HW1
 go_enter Try.func88, Try.ntmps88
 change Code.wp Try.prog (.seq elem88n0 (lastPart 1 code88)) _ _ _
 refine wp_seq_thenQ (fun K hK => ?_)
 have HK := Lib.hid hK
 clear hK
 conv => arg 2; whnf
 go_wp2_with fail
 refine HK.out _ _ ?_
 rw [HW1'.out]
 clear HK K HW1' HCS
 have y1 := cell_at HG.out 1 rfl
 rw [mvstep1]
 refine wp_seq_thenQ (fun K hK => ?_)
 have HK := Lib.hid hK
 clear hK
 conv => arg 2; whnf
 go_wp2_with fail
 refine HC.out.mono ?_
 rintro e V ⟨rfl, hv⟩
 have hG2 := keepO hv HG.out
 have hbV := thenB HB.out hv
 obtain ⟨W3, hW3, gW3, bW3, sW3⟩ := mk_cells V #[.int .i64 0, .int .i64 0, .int .i64 0, .int .i64 0, .int .i64 0, .int .i64 0, .int .i64 0, .int .i64 0] 151
 obtain ⟨W4, hW4, gW4, bW4⟩ := setRow_facts (cs := #[.int .i64 r0, .int .i64 r1, .int .i64 r2, .int .i64 r3, .int .i64 r4, .int .i64 r5, .int .i64 r6, .int .i64 r7]) gW3 bW3 (Nat.le_refl _)
 have hVl : w.heap.size < V.heap.size := (Array.getElem?_eq_some_iff.1 hG2).1
 have hG4 := keepO bW4 hG2
 have H3 := Lib.hid (And.intro gW3 hW4); have HX := Lib.hid (And.intro hG4 (And.intro gW4 (thenB hbV bW4)))
 clear HC HG y1 hv hG2 hbV gW3 bW3 sW3 hW4 gW4 bW4 hG4 HB
 have y1' : True := trivial
 go_wp2_with (refine wpList_store_row rfl 151 _ _ rfl V.heap.size #[.int .i64 r0, .int .i64 r1, .int .i64 r2, .int .i64 r3, .int .i64 r4, .int .i64 r5, .int .i64 r6, .int .i64 r7] rfl rfl 151 _ H3.out.1 (by kernel_rfl) rfl HO.out ?_; rw [H3.out.2])
 refine HK.out _ _ ?_
 clear HK K H3 hW3
 obtain ⟨hG4, gW4, hb4⟩ := HX.out
 have y0 := cell_at hG4 0 rfl
 have HE := Lib.hid (fun (b : Bool) (hbm : mb = ((fldL side dir lev size r0 r1 r2 r3 r4 r5 r6 r7).all id && restB fa fb ta tb)) => by
  have := mv_e3 mark kind side dir lev size n fa fb ta tb r0 r1 r2 r3 r4 r5 r6 r7 wn w.heap.size V.heap.size w W4 hb4 hG4 gW4
  rw [← hbm] at this
  exact this)
 have HB4 := Lib.hid hb4
 clear hG4 gW4 hb4 HX
 generalize V.heap.size = R at *
 rw [mvstep2]
 refine wp_seq_thenQ (fun K hK => ?_)
 have HK := Lib.hid hK
 clear hK
 conv => arg 2; whnf
 obtain ⟨b, hb⟩ : ∃ b, inB mark 1 3 = b := ⟨_, rfl⟩
 have HBB := Lib.hid hb
 rw [hb] at HM
 clear hb
 cases ok with
 | false =>
  go_wp2_with (go_at_call 63; first | (refine (demand_ok _).mono ?_; rintro e w2 ⟨rfl, rfl⟩) | (refine (demand_bad _).mono ?_; unfold wrongPanic; rintro e w2 ⟨rfl, rfl⟩))
  exact ⟨rfl, Or.inr ⟨by rw [HM.out]; rfl, rfl⟩, HB4.out⟩
 | true =>
  cases b with
  | false =>
   go_wp2_with (first | (go_at_call 64; refine (rwithin_any _ _ _ _).mono ?_; rw [HBB.out]; rintro e w2 ⟨rfl, rfl⟩) | (go_at_call 63; first | (refine (demand_ok _).mono ?_; rintro e w2 ⟨rfl, rfl⟩) | (refine (demand_bad _).mono ?_; unfold wrongPanic; rintro e w2 ⟨rfl, rfl⟩)))
   exact ⟨rfl, Or.inr ⟨by rw [HM.out]; rfl, rfl⟩, HB4.out⟩
  | true =>
   go_wp2_with (first | (go_at_call 64; refine (rwithin_any _ _ _ _).mono ?_; rw [HBB.out]; rintro e w2 ⟨rfl, rfl⟩) | (go_at_call 63; first | (refine (demand_ok _).mono ?_; rintro e w2 ⟨rfl, rfl⟩) | (refine (demand_bad _).mono ?_; unfold wrongPanic; rintro e w2 ⟨rfl, rfl⟩)))
   refine HK.out _ _ ?_
   exact HE.out true (by rw [HM.out]; simp) _ _ _ _ _ _ _ _ _ _ _ _ _ _ _ _ _ _ _ _ _ _ _ _ _ _ _ _ _ _ _ _ _ _ _ _ _ _ _ _ _ _ _ _ _ _ _ _ _ _ _ _ _ _ _ _ _ _ _ _ _ _ _ _ _ _ _ _ _ _ _ _ _ _
end Go.Proofs.Ytpnbpepkoekkoaa
end
