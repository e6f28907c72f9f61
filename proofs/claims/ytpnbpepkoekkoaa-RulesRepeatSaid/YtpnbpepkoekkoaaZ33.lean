/- Contracts and plain laws on the way to the statement: part 33. -/
import Derived.Test.YtpnbpepkoekkoaaZ30
import Derived.Test.YtpnbpepkoekkoaaZ7
import Derived.Test.YtpnbpepkoekkoaaZ27
import Derived.Test.YtpnbpepkoekkoaaZ28
import Derived.Test.YtpnbpepkoekkoaaZ1
import Derived.Test.YtpnbpepkoekkoaaZ25
import Derived.BigQuiet
import Derived.Deep.QuietTactic
import Derived.Deep.RegionHeld3
import Derived.Deep.RegionWith
import Derived.KernelRfl
import Derived.StillTailTactics
import Derived.IntWalk
import Derived.Test.YtpnbpepkoekkoaaZ3
set_option linter.unusedVariables false
set_option linter.unusedSimpArgs false
set_option maxRecDepth 100000
set_option maxHeartbeats 16000000
namespace Go.Proofs.Ytpnbpepkoekkoaa
open Go.Value (int)
open Go.IntKind (i64)
section
open Go Go.RowKit
open Go.RowKit
theorem LP {n d : Int} (h : d < 1 ∨ 1073741824 < d) : D3 n d = false := by
 unfold D3; rw [Eo.2 (by omega)]; rfl
theorem Ow {n d : Int} (h : n < -1073741824 ∨ 1073741824 < n) : D3 n d = false := by
 unfold D3; rw [Eo.2 (show n < -1073741824 ∨ _ by omega), Bool.and_false]; rfl
theorem MS {n d : Int} (h1 : 1 ≤ d) (h2 : d ≤ 1073741824) (h3 : -1073741824 ≤ n) (h4 : n ≤ 1073741824) : D3 n d = decide (Nat.gcd n.natAbs d.natAbs = 1) := by
 unfold D3; rw [AY.2 ⟨h1, h2⟩, AY.2 ⟨h3, h4⟩]; rfl
theorem BH {P : Program} (S : World → Prop) {id : Nat} {Q : Exit → Act → World → Prop} {a : Act} {w : World} {l : List Oper} (n : Nat) (hm : P.follows .mixedOrders = true) (hB : Region.lexTailB .any l.toArray n = true) (hS : S w.drew)
  (h : ∀ w2, S w2 → wpStill P l.toArray w2 (fun a' => wpList P l.toArray Q (l.drop n) a' w2) (l.take n) a) : (Code.region id l.toArray true).wp P Q a w :=
 wp_region_still_tail n hm hB (h _ hS)
def FY (b : Bool) (c : Int) : Int := if b then 0 else c
theorem LQ (n d : Int) (hno : d < 1 ∨ 1073741824 < d ∨ n < -1073741824 ∨ 1073741824 < n) (w : World) :
  Calls Try.prog 107 #[.agg #[int i64 n, int i64 d]] w fun e w' => e = .returned (int i64 120) ∧ Below w.heap.size w w' := by
 by_cases h1 : d < 1
 ·clear hno
  go_enter Try.func107, Try.ntmps107; go_wp2_with fail; go_quiet (fail); go_wp2; go_ret; exact ⟨rfl, Ar ((Below.refl _ _).alloc (qn _) _) _⟩
 have f1 : decide (d < 1) = false := by simpa using h1
 by_cases h2 : 1073741824 < d
 ·clear hno h1
  go_enter Try.func107, Try.ntmps107; go_wp2_with fail; go_quiet (fail); go_wp2; go_ret; exact ⟨rfl, Ar ((Below.refl _ _).alloc (qn _) _) _⟩
 have f2 : decide (1073741824 < d) = false := by simpa using h2
 by_cases h3 : n < -1073741824
 ·clear hno h1 h2
  go_enter Try.func107, Try.ntmps107; go_wp2_with fail; go_quiet (fail); go_wp2; go_ret; exact ⟨rfl, Ar ((Below.refl _ _).alloc (qn _) _) _⟩
 have f3 : decide (n < -1073741824) = false := by simpa using h3
 have h4 : 1073741824 < n := by omega
 clear hno h1 h2 h3; go_enter Try.func107, Try.ntmps107; go_wp2_with fail; go_quiet (fail); go_wp2; go_ret; exact ⟨rfl, Ar ((Below.refl _ _).alloc (qn _) _) _⟩
theorem K7 (n d : Int) (h1 : 1 ≤ d) (h2 : d ≤ 1073741824) (h3 : -1073741824 ≤ n) (h4 : n ≤ 1073741824) (w : World) :
  Calls Try.prog 107 #[.agg #[int i64 n, int i64 d]] w fun e w' => e = .returned (int i64 (FY (D3 n d) 120)) ∧ Below w.heap.size w w' := by
 have f1 : decide (d < 1) = false := by simpa using by omega
 have f2 : decide (1073741824 < d) = false := by simpa using by omega
 have f3 : decide (n < -1073741824) = false := by simpa using by omega
 have f4 : decide (1073741824 < n) = false := by simpa using by omega
 have hd : ((d.natAbs : Nat) : Int) = d := by omega
 have HR := qh (MS h1 h2 h3 h4); have HD := qh hd; clear hd; go_enter Try.func107, Try.ntmps107; go_wp2_with fail; refine BH (fun w2 => w2.cell? ⟨w.heap.size, 0, none⟩ = some (int i64 n) ∧ w2.cell? ⟨w.heap.size, 1, none⟩ = some (int i64 d) ∧ w.heap.size < w2.heap.size ∧ Below w.heap.size w w2) 25 (by kernel_rfl) (by kernel_rfl) ⟨by go_simp, by go_simp, by simp, ((Below.refl _ _).alloc (qn _) _).drew⟩ ?_; intro w2 ⟨c0, c1, hlt, hB⟩; simp only [List.take_succ_cons, List.take_zero, List.drop_succ_cons, List.drop_zero]
 repeat still_step
 still_call ((FQ n h3 h4 _).mono fun _ _ ⟨e1, e2⟩ => ⟨e1, e2.symm⟩)
 repeat still_step
 refine wpStill_nil ?_; have hu : IntKind.u64.wrap d = ((d.natAbs : Nat) : Int) := by rw [FK]; omega
 rw [hu]; clear hu; go_wp2_with fail; refine (H4 n.natAbs d.natAbs (by omega) (by omega) (by omega) w2).mono ?_; rintro e w3 ⟨rfl, hb⟩; have hB3 := qh (hB.trans (hb.mono hB.size)); clear hb; by_cases hg : Nat.gcd n.natAbs d.natAbs = 1
 ·have f5 : (((Nat.gcd n.natAbs d.natAbs : Nat) : Int) != 1) = false := by simpa using by omega
  have HG := qh hg; clear hg; go_wp2_with fail; go_ret; exact ⟨Cy (by rw [HR.out, decide_eq_true HG.out]; rfl), hB3.out⟩
 ·have f5 : (((Nat.gcd n.natAbs d.natAbs : Nat) : Int) != 1) = true := by simpa using by omega
  have HG := qh hg; clear hg; go_wp2_with fail; go_ret; exact ⟨Cy (by rw [HR.out, decide_eq_false HG.out]; rfl), hB3.out⟩
theorem Gb (n d : Int) (w : World) :
  Calls Try.prog 107 #[.agg #[int i64 n, int i64 d]] w fun e w' => e = .returned (int i64 (FY (D3 n d) 120)) ∧ Below w.heap.size w w' := by
 by_cases h : d < 1 ∨ 1073741824 < d ∨ n < -1073741824 ∨ 1073741824 < n
 ·refine (LQ n d h w).mono fun e w' ⟨he, hb⟩ => ⟨?_, hb⟩
  have : D3 n d = false := by
   rcases h with h | h | h
   ·exact LP (Or.inl h)
   ·exact LP (Or.inr h)
   ·exact Ow h
  rw [he, this]; rfl
 ·exact K7 n d (by omega) (by omega) (by omega) (by omega) w
theorem Jl {n d : Int} (h : D3 n d = true) : 1 ≤ d ∧ d ≤ 1073741824 ∧ -1073741824 ≤ n ∧ n ≤ 1073741824 := by
 unfold D3 at h; simp only [Bool.and_eq_true, AY] at h; omega
theorem LF {a b : Int} (h1 : -1073741824 ≤ a) (h2 : a ≤ 1073741824) (h3 : 1 ≤ b) (h4 : b ≤ 1073741824) : -1152921504606846976 ≤ a * b ∧ a * b ≤ 1152921504606846976 := by
 constructor
 ·calc (-1152921504606846976 : Int) = -1073741824 * 1073741824 := by decide
   _ ≤ -1073741824 * b := by omega
   _ ≤ a * b := Int.mul_le_mul_of_nonneg_right h1 (by omega)
 ·calc a * b ≤ 1073741824 * b := Int.mul_le_mul_of_nonneg_right h2 (by omega)
   _ ≤ 1152921504606846976 := by omega
def Hx (a b c d : Int) : Value := if D3 a b && D3 c d then .tuple #[int i64 (GV (a * d) (c * b)), int i64 0] else .tuple #[int i64 0, int i64 120]
theorem LR (a b c d : Int) (w : World) :
  Calls Try.prog 102 #[.agg #[int i64 a, int i64 b], .agg #[int i64 c, int i64 d]] w fun e w' => e = .returned (Hx a b c d) ∧ Below w.heap.size w w' := by
 have hB0 : Below w.heap.size w ((w.alloc (.cells #[int i64 a, int i64 b] 83)).alloc (.cells #[int i64 c, int i64 d] 83)) := ((Below.refl _ w).alloc (qn _) _).alloc (by simp) _; have hz : ((w.alloc (.cells #[int i64 a, int i64 b] 83)).alloc (.cells #[int i64 c, int i64 d] 83)).heap.size = w.heap.size + 2 := by simp
 have g0 : ((w.alloc (.cells #[int i64 a, int i64 b] 83)).alloc (.cells #[int i64 c, int i64 d] 83)).heap[w.heap.size]? = some (.cells #[int i64 a, int i64 b] 83 (0, 0)) := by
  rw [Below.heap_alloc _ _ _ (by simp)]; exact heap_alloc_new w _
 have g1 : ((w.alloc (.cells #[int i64 a, int i64 b] 83)).alloc (.cells #[int i64 c, int i64 d] 83)).heap[w.heap.size + 1]? = some (.cells #[int i64 c, int i64 d] 83 (0, 0)) := by
  have := heap_alloc_new (w.alloc (.cells #[int i64 a, int i64 b] 83)) (.cells #[int i64 c, int i64 d] 83); simpa using this
 go_enter Try.func102, Try.ntmps102; go_wp2_with fail; generalize (w.alloc (.cells #[int i64 a, int i64 b] 83)).alloc (.cells #[int i64 c, int i64 d] 83) = w0 at *; refine (Gb a b w0).mono ?_; rintro e w1 ⟨rfl, b1⟩; have k0 := (b1.block _ (by omega)).trans g0; have k1 := (b1.block _ (by omega)).trans g1; have hs1 := b1.size; have hB1 := qh (hB0.trans (b1.mono (by omega))); clear b1 g0 g1 hB0; have K0 := qh k0; have K1 := qh k1; have d0 := Aa k0 0 rfl; have d1 := Aa k0 1 rfl; have e0 := Aa k1 0 rfl; have e1 := Aa k1 1 rfl; clear k0 k1
 cases hA : D3 a b with
 | false =>
  unfold FY; go_wp2_with fail; go_ret2; exact ⟨by unfold Hx; rw [hA]; rfl, hB1.out⟩
 | true =>
  have HA := qh hA; clear hA; unfold FY; go_wp2_with fail; refine (Gb c d w1).mono ?_; rintro e w2 ⟨rfl, b2⟩; have k0 := (b2.block _ (by omega)).trans K0.out; have k1 := (b2.block _ (by omega)).trans K1.out; have hB2 := qh (hB1.out.trans (b2.mono (by omega))); clear d0 d1 e0 e1 b2; have d0 := Aa k0 0 rfl; have d1 := Aa k0 1 rfl; have e0 := Aa k1 0 rfl; have e1 := Aa k1 1 rfl; clear k0 k1
  cases hC : D3 c d with
  | false =>
   unfold FY; go_wp2_with fail; go_ret2; exact ⟨by unfold Hx; rw [HA.out, hC]; rfl, hB2.out⟩
  | true =>
   have HC := qh hC; clear hC; obtain ⟨q1, q2, q3, q4⟩ := Jl HA.out; obtain ⟨r1, r2, r3, r4⟩ := Jl HC.out; obtain ⟨m1, m2⟩ := LF q3 q4 r1 r2; obtain ⟨m3, m4⟩ := LF r3 r4 q1 q2; clear q1 q2 q3 q4 r1 r2 r3 r4; unfold FY
   go_wp2_with (go_at_call 108; refine (GW _ _ _).mono ?_; rintro e w' ⟨rfl, rfl⟩); go_ret2; exact ⟨by unfold Hx; rw [HA.out, HC.out]; rfl, hB2.out⟩
end
section
open Go Go.RowKit
open Go.RowKit
theorem FM {w : World} {a : Addr} {v : Value} (h : w.cell? a = some v) : a.block < w.heap.size := by
 rcases Nat.lt_or_ge a.block w.heap.size with h1 | h1
 ·exact h1
 ·unfold World.cell? at h; simp [Array.getElem?_eq_none h1] at h
theorem AV (n lo hi : Int) (w : World) : Calls Try.prog 99 #[int i64 n, int i64 lo, int i64 hi] w fun e w' => e = .returned (.bool (inB n lo hi)) ∧ w = w' := by
 go_enter Try.func99, Try.ntmps99; go_wp2
 all_goals
  go_ret; refine ⟨BM ?_, rfl⟩; unfold inB; rw [Bool.eq_iff_iff]; simp; omega
def EZ (l : List Tmp) : Prop := l.Pairwise fun a b => a.bar < b.bar
theorem Jn (l : List Tmp) (bar : Int) : Cs l bar ≤ l.length := List.countP_le_length
theorem Kw {l : List Tmp} {bar : Int} (h : ∀ t ∈ l, bar < t.bar) : Cs l bar = 0 := by
 unfold Cs; rw [List.countP_eq_zero]; intro t ht; have := h t ht; simp; omega
theorem I8 {bar : Int} : ∀ {l : List Tmp} {i : Nat} {t : Tmp}, EZ l → l[i]? = some t → (t.bar ≤ bar ↔ i < Cs l bar)
 | [], _, _, _, h => by simp at h
 | a :: r, i, t, hs, h => by
  have hs' := List.pairwise_cons.1 hs; by_cases ha : a.bar ≤ bar
  ·have e : Cs (a :: r) bar = Cs r bar + 1 := by unfold Cs; rw [List.countP_cons_of_pos (by simpa using ha)]
   cases i with
   | zero => simp at h; subst h; rw [e]; constructor <;> intro _ <;> omega
   | succ i =>
    rw [e, I8 hs'.2 (by simpa using h)]; omega
  ·have e : Cs (a :: r) bar = 0 := by
    refine Kw fun x hx => ?_
    rcases List.mem_cons.1 hx with rfl | hx
    ·omega
    ·have := hs'.1 x hx; omega
   have ht : ¬ t.bar ≤ bar := by
    have hm := List.mem_of_getElem? h; rcases List.mem_cons.1 hm with rfl | hm
    ·omega
    ·have := hs'.1 t hm; omega
   rw [e]; constructor
   ·intro h; exact absurd h ht
   ·intro h; omega
open Go.RowKit
theorem Bw (c : Int) (w : World) : Calls Try.prog 98 #[.bool true, int i64 c] w fun e w' => e = .returned (.tuple #[]) ∧ w = w' := by
 go_enter Try.func98, Try.ntmps98; go_wp2; go_end0; exact ⟨rfl, rfl⟩
theorem As (c : Int) (w : World) : Calls Try.prog 98 #[.bool false, int i64 c] w fun e w' => e = Af c ∧ w = w' := by
 go_enter Try.func98, Try.ntmps98; go_wp2; exact ⟨rfl, rfl, rfl⟩
theorem atT {w : World} {b o i : Nat} {ts : List Tmp} {t : Tmp} (h : AtRow CD 3 w b o ts) (ht : ts[i]? = some t) :
  w.cell? ⟨b, o + i * 3, none⟩ = some (int i64 t.bar) ∧ w.cell? ⟨b, o + i * 3 + 1, none⟩ = some (int i64 t.ticks) ∧ w.cell? ⟨b, o + i * 3 + 2, none⟩ = some (int i64 t.step) :=
 ⟨h i t ht 0 _ rfl, h i t ht 1 _ rfl, h i t ht 2 _ rfl⟩
theorem JM (i : Nat) (bar : Int) (C D b o n c : Nat) (ts : List Tmp) (t : Tmp) (w : World) (hn : ts.length = n) (ht : ts[i]? = some t) (hc : w.cell? ⟨C, 1, none⟩ = some (.slice (some ⟨b, o, none⟩) n c)) (hd : w.cell? ⟨D, 0, none⟩ = some (int i64 bar)) (hr : AtRow CD 3 w b o ts) :
  Calls Try.prog 106 #[int i64 i, .pointer (some ⟨C, 0, none⟩), .pointer (some ⟨D, 0, none⟩)] w fun e w' => e = .returned (.bool (decide (bar < t.bar))) ∧ ∃ k, w' = w.drewN k := by
 have hlt : i < n := by rw [← hn]; exact (ql.1 ht).1
 have hlt' : (0 : Int) ≤ i ∧ (i : Int) < n := by omega
 obtain ⟨p0, _, _⟩ := atT hr ht; have HT := qh ht; have HN := qh hn; clear ht hn hr; go_enter Try.func106, Try.ntmps106; go_wp2_with fail; go_quiet (fail); go_wp2; go_ret; exact ⟨rfl, _, rfl⟩
theorem IN (bar : Int) (C D b o n c : Nat) (ts : List Tmp) (w : World) (hs : EZ ts) (hn : ts.length = n) (hm : n ≤ 65536) (hc : w.cell? ⟨C, 1, none⟩ = some (.slice (some ⟨b, o, none⟩) n c)) (hd : w.cell? ⟨D, 0, none⟩ = some (int i64 bar)) (hr : AtRow CD 3 w b o ts) :
  Calls Try.prog 105 #[int i64 n, .func (.func 106) #[] #[.pointer (some ⟨C, 0, none⟩), .pointer (some ⟨D, 0, none⟩)]] w fun e w' => e = .returned (int i64 (Cs ts bar)) ∧ ∃ k, w' = w.drewN k := by
 have hu := Jn ts bar; have HS := qh hs; have HN := qh hn; have HC := qh hc; have HD := qh hd; have HR := qh hr; rw [hn] at hu; clear hs hn hc hd hr; go_enter Try.func105, Try.ntmps105; go_wp2_with fail; go_loopw [5, 6] (fun x y wr => ∃ i j k : Nat, x = int i64 i ∧ y = int i64 j ∧ i ≤ Cs ts bar ∧ Cs ts bar ≤ j ∧ j ≤ n ∧ wr = w.drewN k) (fun x y _ => (intOf y - intOf x).toNat)
 case atStart => exact ⟨0, n, 0, rfl, rfl, Nat.zero_le _, hu, qn _, rfl⟩
 case round =>
  obtain ⟨i, j, k, rfl, rfl, h1, h2, h3, rfl⟩ := hrel; by_cases hij : i < j
  ·obtain ⟨t, ht⟩ : ∃ t, ts[(i + j) / 2]? = some t := ⟨_, qg (by rw [HN.out]; omega)⟩
   have hij' : (i : Int) < (j : Int) := by omega
   obtain ⟨m, hm2⟩ : ∃ m : Nat, m = (i + j) / 2 := ⟨_, rfl⟩; have hmid : ((i : Int) + (j : Int)) / 2 = (m : Int) := by omega
   have HM := qh hmid; rw [← hm2] at ht; have hiff := I8 (bar := bar) HS.out ht; have hm3 : i ≤ m := by omega
   have hm4 : m < j := by omega
   have HT := qh ht; clear ht hmid hm2; go_wp2_with fail; rw [HM.out]; refine (JM m bar C D b o n c ts t (w.drewN k) HN.out HT.out HC.out HD.out HR.out).mono ?_; rintro e w' ⟨rfl, k2, rfl⟩; by_cases hb : bar < t.bar
   ·have h4 : Cs ts bar ≤ m := by
     rcases Nat.lt_or_ge m (Cs ts bar) with h | h
     ·have := hiff.2 h; omega
     ·exact h
    clear hiff; go_wp2_with fail; go_roundw
    case rel => exact ⟨i, m, k + k2, rfl, rfl, h1, h4, by omega, by simp [World.drewN]⟩
    case measure => simp [intOf]; omega
   ·have h4 : m < Cs ts bar := hiff.1 (by omega)
    have hb' : decide (bar < t.bar) = false := by simpa using hb
    clear hiff hb; go_wp2_with fail; go_roundw
    case rel => exact ⟨m + 1, j, k + k2, by go_num, rfl, by omega, h2, h3, by simp [World.drewN]⟩
    case measure => simp [intOf]; omega
  ·have hij' : ¬ (i : Int) < (j : Int) := by omega
   obtain rfl : i = Cs ts bar := by omega
   go_wp2_with fail; go_ret; exact ⟨rfl, _, rfl⟩
theorem D6 {w : World} {o : Obj} {a : Addr} {v : Value} (h : w.cell? a = some v) : (w.alloc o).drew.cell? a = some v :=
 (((Below.refl w.heap.size w).alloc (qn _) o).cell (p := a) (FM h)).trans h
theorem Fx {w : World} {o : Obj} {b c : Nat} {ts : List Tmp} (h : AtRow CD 3 w b c ts) (hb : b < w.heap.size) : AtRow CD 3 (w.alloc o).drew b c ts :=
 h.below (((Below.refl w.heap.size w).alloc (qn _) o).drew) hb
theorem MB {a b : Int} (h1 : -4096 ≤ a) (h2 : a ≤ 4096) (h3 : -65536 ≤ b) (h4 : b ≤ 65536) : -268435456 ≤ a * b ∧ a * b ≤ 268435456 := by
 have hx : (a * b).natAbs ≤ 268435456 := by
  rw [Int.natAbs_mul]
  calc a.natAbs * b.natAbs ≤ 4096 * 65536 := Nat.mul_le_mul (by omega) (by omega)
   _ = 268435456 := by decide
 omega
def Ig (ts : List Tmp) (bar : Int) : Prop := EZ ts ∧ 0 < Cs ts bar ∧ 0 ≤ bar ∧ bar ≤ 4096 ∧ ∀ t ∈ ts, 0 ≤ t.bar ∧ t.bar ≤ 4096 ∧ -65536 ≤ t.ticks ∧ t.ticks ≤ 65536 ∧ -65536 ≤ t.step ∧ t.step ≤ 65536
theorem Gj (bars bar : Int) (b o n c : Nat) (vp vs : Value) (ts : List Tmp) (w : World) (hn : ts.length = n) (hm : n ≤ 65536) (hr : AtRow CD 3 w b o ts) (hb : b < w.heap.size) (hw : Ig ts bar) :
  Calls Try.prog 100 #[.agg #[int i64 bars, .slice (some ⟨b, o, none⟩) n c, vp, vs], int i64 bar] w fun e w' => e = .returned (int i64 (D5 ts bar)) ∧ Below w.heap.size w w' := by
 obtain ⟨hs, hu, hb1, hb2, hall⟩ := hw; have hul := Jn ts bar; rw [hn] at hul; obtain ⟨t, ht⟩ : ∃ t, ts[Cs ts bar - 1]? = some t := ⟨_, qg (by omega)⟩
 have htk : D5 ts bar = t.ticks + (bar - t.bar) * t.step := by
  unfold D5; rw [List.getElem!_eq_getElem?_getD, ht]; rfl
 obtain ⟨q1, q2, q3, q4, q5, q6⟩ := hall t (List.mem_of_getElem? ht); have HTK := qh htk; have HT := qh ht; have HS := qh hs; have HN := qh hn; have HR := qh hr; clear htk ht hs hn hr hall; have hB0 : Below w.heap.size w ((w.alloc (.cells #[int i64 bars, .slice (some ⟨b, o, none⟩) n c, vp, vs] 118)).alloc (.cells #[int i64 bar] 3)) := ((Below.refl _ w).alloc (qn _) _).alloc (by simp) _; have hz : ((w.alloc (.cells #[int i64 bars, .slice (some ⟨b, o, none⟩) n c, vp, vs] 118)).alloc (.cells #[int i64 bar] 3)).heap.size = w.heap.size + 2 := by simp
 have g0 : ((w.alloc (.cells #[int i64 bars, .slice (some ⟨b, o, none⟩) n c, vp, vs] 118)).alloc (.cells #[int i64 bar] 3)).heap[w.heap.size]? = some (.cells #[int i64 bars, .slice (some ⟨b, o, none⟩) n c, vp, vs] 118 (0, 0)) := by
  rw [Below.heap_alloc _ _ _ (by simp)]; exact heap_alloc_new w _
 have g1 : ((w.alloc (.cells #[int i64 bars, .slice (some ⟨b, o, none⟩) n c, vp, vs] 118)).alloc (.cells #[int i64 bar] 3)).heap[w.heap.size + 1]? = some (.cells #[int i64 bar] 3 (0, 0)) := by
  have := heap_alloc_new (w.alloc (.cells #[int i64 bars, .slice (some ⟨b, o, none⟩) n c, vp, vs] 118)) (.cells #[int i64 bar] 3); simpa using this
 have hmf : ∀ (fn : Fn) (first cap : Array Value) (w : World), (Instr.makeFunc fn first cap).run Try.prog w = .ok (.func fn first cap) w := fun _ _ _ _ => rfl
 go_enter Try.func100, Try.ntmps100; go_wp2_with fail; generalize (w.alloc (.cells #[int i64 bars, .slice (some ⟨b, o, none⟩) n c, vp, vs] 118)).alloc (.cells #[int i64 bar] 3) = w0 at *; have c1 : w0.cell? ⟨w.heap.size, 1, none⟩ = some (.slice (some ⟨b, o, none⟩) n c) := Aa g0 1 rfl; have d0 : w0.cell? ⟨w.heap.size + 1, 0, none⟩ = some (int i64 bar) := Aa g1 0 rfl; have HR0 := qh (HR.out.below hB0 hb); obtain ⟨p0, p1, p2⟩ := atT HR0.out HT.out; have hb3 : b < w0.heap.size := by omega
 have hb4 : w.heap.size < w0.heap.size := by omega
 have hb5 : w.heap.size + 1 < w0.heap.size := by omega
 have HB0 := qh hB0; clear hz g0 g1 hB0; generalize hgm : Cs ts bar - 1 = m at *; have hsum : IntKind.i64.wrap (((Cs ts bar : Nat) : Int) - 1) = (m : Int) := by rw [IntWalk.i64_in _ (by omega)]; omega
 have hin : (0 : Int) ≤ (m : Int) ∧ (m : Int) < n := by omega
 have hin1 := hin.1; have hin2 := hin.2; have htn : ((m : Int)).toNat = m := by omega
 have HGM := qh hgm; clear hgm hin; have hal : ∀ k o, (w0.drewN k).alloc o = (w0.alloc o).drewN k := fun _ _ => rfl
 have hst : ∀ k o a v, ((w0.alloc o).drewN k).setCell a v = ((w0.alloc o).setCell a v).drewN k := fun _ _ _ _ => by unfold World.drewN World.setCell; simp
 go_region_held3 (fun w' => w'.cell? ⟨w.heap.size, 1, none⟩ = some (.slice (some ⟨b, o, none⟩) n c) ∧ w'.cell? ⟨w.heap.size + 1, 0, none⟩ = some (int i64 bar) ∧ w'.cell? ⟨b, o + m * 3, none⟩ = some (int i64 t.bar) ∧ w'.cell? ⟨b, o + m * 3 + 1, none⟩ = some (int i64 t.ticks) ∧ w'.cell? ⟨b, o + m * 3 + 2, none⟩ = some (int i64 t.step) ∧ Below w0.heap.size w0 w') (refine ⟨?_, ?_, ?_, ?_, ?_, ?_⟩ <;> first | assumption | exact (Below.refl _ _).drew | exact Ar (Below.refl _ _) _ | exact (Ar (Below.refl _ _) _).alloc (by simp) _ | exact ((Below.refl _ _).drew).alloc (by simp) _ | exact Below.drew (by assumption) | exact Ar (by assumption) _ | go_keep)
  (first | (go_at_call 105; refine (IN bar (w.heap.size) (w.heap.size + 1) b o n c ts _ HS.out HN.out hm ?_ ?_ ?_).mono ?_; (first | exact c1 | exact D6 c1); (first | exact d0 | exact D6 d0); (first | exact HR0.out | exact Fx HR0.out hb3); rintro e w' ⟨rfl, k, rfl⟩))
 all_goals
  rename_i hHeld; have hB9 := hHeld.2.2.2.2.2; have hBf := qh (HB0.out.trans (hB9.mono (by omega))); have y1 : w0.cell? ⟨w.heap.size + 1, 0, none⟩ = some (int i64 bar) := d0; clear hHeld hB9 hal hst c1 p0 p1 p2 hsum htn hin1 hin2; obtain ⟨m1, m2⟩ := MB (a := bar - t.bar) (b := t.step) (by omega) (by omega) q5 q6; go_wp2; go_ret; exact ⟨Cy HTK.out.symm, hBf.out⟩
end
section
open Go Go.RowKit
theorem Bg (n lo hi : Int) (w : World) : Calls Try.prog 64 #[int i64 n, int i64 lo, int i64 hi] w fun e w' => e = .returned (.bool (inB n lo hi)) ∧ w = w' := by
 go_enter Try.func64, Try.ntmps64; go_wp2
 all_goals
  go_ret; refine ⟨BM ?_, rfl⟩; unfold inB; rw [Bool.eq_iff_iff]; simp; omega
def Ah : Ending := .panicked [{ v := .iface 113 (.agg #[]), recovered := false }]
theorem Aq (w : World) : Calls Try.prog 63 #[.bool true] w fun e w' => e = .returned (.tuple #[]) ∧ w = w' := by
 go_enter Try.func63, Try.ntmps63; go_wp2; go_end0; exact ⟨rfl, rfl⟩
theorem Al (w : World) : Calls Try.prog 63 #[.bool false] w fun e w' => e = Ah ∧ w = w' := by
 go_enter Try.func63, Try.ntmps63; go_wp2; exact ⟨rfl, rfl, rfl⟩
def suitTab : List (Int × List Int) := [(1, [1, 2, 1, 8, 0, 0, 1, 16]), (2, [0, 0, 1, 8, 0, 0, 1, 16]), (3, [1, 2, 0, 8, 1, 3, 0, 0]), (4, [1, 2, 0, 8, 1, 3, 0, 0]), (5, [0, 0, 0, 8, 1, 3, 0, 0]), (6, [0, 0, 0, 0, 0, 0, 1, 7]), (7, [0, 0, 0, 0, 0, 0, 0, 0]), (8, [0, 0, 0, 0, 0, 0, 0, 0]), (9, [1, 2, 0, 0, 1, 3, 0, 0])]
def D4 (k : Int) : List Int := ((suitTab.find? fun p => decide (p.1 = k)).map (·.2)).getD [0, 0, 0, 0, 0, 0, 0, 0]
def E0 (k : Int) : Bool := (suitTab.find? fun p => decide (p.1 = k)).isSome
def I4 (l : List Int) : Value := .agg (l.map fun n => int i64 n).toArray
def suitKv : List (Int × Value) := suitTab.map fun p => (p.1, I4 p.2)
theorem I5 (k : Int) : Ap suitKv k = ((suitTab.find? fun p => decide (p.1 = k)).map (·.2)).map I4 := by
 unfold Ap suitKv; rw [List.find?_map]; simp only [Option.map_map]
 rfl
section
variable {κ : Type} [DecidableEq κ] {f : κ → Value} {d : TypeDesc} {P : Program} {K E : TypeId}
theorem AQ (hf : KeyOf d f) (w : World) {ops : Array Oper} {rest : List Oper} {o : Oper} {a : Act} {Q : Exit → Act → World → Prop}
  (hg : o.guard = none) (m x v : Operand) (t : TypeId) (hop : o.op = Op.insert t m x v ∨ o.op = Op.mapUpdate t m x v) (hT : P.underlying t = some (.map K E)) (hK : P.underlying K = some d) (b : Nat) (kvs kvs' : List (κ × Value))
  (hm : a.eval m = .map (some b)) (h : MapAt f w b kvs) (hn : Az kvs) (k : κ) (hx : a.eval x = f k) (hp : AW kvs k (a.eval v) = kvs')
  (hQ : ∀ W, MapAt f W b kvs' → (∀ c, c ≠ b → W.heap[c]? = w.heap[c]?) → W.heap.size = w.heap.size → (∀ n, n ≤ b → Below n w W) → wpList P ops Q rest (a.put o.dst undef) W) :
  wpList P ops Q (o :: rest) a w := by
 refine EB hf w hg m x v t hop hT hK b kvs hm h hn k hx fun ob hM => ?_
 rw [hp] at hM; exact hQ _ hM (fun c hc => by simp only [Array.getElem?_setIfInBounds]; rw [if_neg (fun e => hc e.symm)]) (by simp) fun n hb => An w b ob hb
end
theorem C0 {W : World} {B : Nat} {cs z : Array Value} {t : TypeId} {w : World} {n : Nat} (h : W.heap[B]? = some (.cells z t (0, 0))) (hb : Below n w W) (hn : n ≤ B) : ∃ W', W.setRow B cs = W' ∧ W'.heap[B]? = some (.cells cs t (0, 0)) ∧ Below n w W' := by
 refine ⟨_, rfl, ?_, hb.os, hb.tape, hb.output, by simpa [World.setRow] using hb.size, fun b hlt => ?_⟩
 ·simp only [World.setRow]
  rw [Array.getElem?_modify, if_pos rfl, h]; rfl
 ·simp only [World.setRow]
  rw [Array.getElem?_modify, if_neg (by omega)]; exact hb.block b hlt
theorem Bt (j : Nat) : Az (suitKv.take j) := by
 unfold Az; have h : (suitKv.map (·.1)).Nodup := by decide
 rw [List.map_take]; exact h.sublist (List.take_sublist ..)
theorem Ej (k : Int) : ∃ a b c d e f g h : Int, D4 k = [a, b, c, d, e, f, g, h] := by
 unfold D4 suitTab; simp only [List.find?]
 repeat' split
 all_goals exact ⟨_, _, _, _, _, _, _, _, rfl⟩
theorem Kt (k : Int) (w : World) : Calls Try.prog 101 #[int i64 k] w fun e w' => e = .returned (.tuple #[I4 (D4 k), .bool (E0 k)]) ∧ Below w.heap.size w w' := by
 obtain ⟨W1, hW1, gW1, bW1, sW1⟩ := Ai w #[int i64 0, int i64 0, int i64 0, int i64 0, int i64 0, int i64 0, int i64 0, int i64 0] 151; obtain ⟨W2, hW2, mW2, bW2, kW2⟩ : ∃ W2, W1.alloc (.map #[] 0) = W2 ∧ MapAt kI W2 W1.heap.size [] ∧ Below W1.heap.size W1 W2 ∧ W2.heap[w.heap.size]? = W1.heap[w.heap.size]? := ⟨_, rfl, MapAt.new W1, (Below.refl _ _).alloc (qn _) _, Below.heap_alloc _ _ _ (by omega)⟩; obtain ⟨r0, r1, r2, r3, r4, r5, r6, r7, hr⟩ := Ej k; have hv : I4 (D4 k) = .agg #[int i64 r0, int i64 r1, int i64 r2, int i64 r3, int i64 r4, int i64 r5, int i64 r6, int i64 r7] := by rw [hr]; rfl
 have hg1 : (Ap (suitKv.take 9) k).getD (.agg #[int i64 0, int i64 0, int i64 0, int i64 0, int i64 0, int i64 0, int i64 0, int i64 0]) = .agg #[int i64 r0, int i64 r1, int i64 r2, int i64 r3, int i64 r4, int i64 r5, int i64 r6, int i64 r7] := by
  rw [← hv, show suitKv.take 9 = suitKv from rfl, I5]; unfold D4; cases suitTab.find? fun p => decide (p.1 = k) <;> rfl
 have hg2 : (Ap (suitKv.take 9) k).isSome = E0 k := by
  rw [show suitKv.take 9 = suitKv from rfl, I5]; unfold E0; simp
 have HG := qh (And.intro hg1 hg2); have HONE := qh (show (#[int i64 r0, int i64 r1, int i64 r2, int i64 r3, int i64 r4, int i64 r5, int i64 r6, int i64 r7] : Array Value).all (·.oneCell') = true by simp [Value.oneCell']); have HM : Hid (MapAt kI W2 W1.heap.size (suitKv.take 0)) := qh mW2; have HN : Hid (w.heap.size < W1.heap.size) := qh (by omega); have HC := qh (kW2.trans gW1); have HB := qh (Ag bW1 bW2); rw [hv]; clear mW2 bW2 kW2 gW1 bW1 sW1 hr hv hg1 hg2; generalize E0 k = ok at *; have hmm := @run_makeMap Try.prog; go_enter Try.func101, Try.ntmps101
 go_wp2_with (first | (refine AQ AT _ rfl _ _ _ 159 (Or.inl rfl) Try.underlying159 Try.underlying3 _ (suitKv.take 0) (suitKv.take 1) rfl HM.out (Bt 0) 1 rfl (by rfl) ?_; intro W2 hm2 hk2 hs2 hb2; have HM2 := qh hm2; have HC2 := qh ((hk2 w.heap.size (by have := HN.out; omega)).trans HC.out); have HB2 := qh (HB.out.trans (hb2 w.heap.size (by have := HN.out; omega))); clear hm2 hk2 hs2 hb2 HM HC HB; have HM := HM2; have HC := HC2; have HB := HB2; clear HM2 HC2 HB2) | (refine AQ AT _ rfl _ _ _ 159 (Or.inl rfl) Try.underlying159 Try.underlying3 _ (suitKv.take 1) (suitKv.take 2) rfl HM.out (Bt 1) 2 rfl (by rfl) ?_; intro W2 hm2 hk2 hs2 hb2; have HM2 := qh hm2; have HC2 := qh ((hk2 w.heap.size (by have := HN.out; omega)).trans HC.out); have HB2 := qh (HB.out.trans (hb2 w.heap.size (by have := HN.out; omega))); clear hm2 hk2 hs2 hb2 HM HC HB; have HM := HM2; have HC := HC2; have HB := HB2; clear HM2 HC2 HB2) | (refine AQ AT _ rfl _ _ _ 159 (Or.inl rfl) Try.underlying159 Try.underlying3 _ (suitKv.take 2) (suitKv.take 3) rfl HM.out (Bt 2) 3 rfl (by rfl) ?_; intro W2 hm2 hk2 hs2 hb2; have HM2 := qh hm2; have HC2 := qh ((hk2 w.heap.size (by have := HN.out; omega)).trans HC.out); have HB2 := qh (HB.out.trans (hb2 w.heap.size (by have := HN.out; omega))); clear hm2 hk2 hs2 hb2 HM HC HB; have HM := HM2; have HC := HC2; have HB := HB2; clear HM2 HC2 HB2) | (refine AQ AT _ rfl _ _ _ 159 (Or.inl rfl) Try.underlying159 Try.underlying3 _ (suitKv.take 3) (suitKv.take 4) rfl HM.out (Bt 3) 4 rfl (by rfl) ?_; intro W2 hm2 hk2 hs2 hb2; have HM2 := qh hm2; have HC2 := qh ((hk2 w.heap.size (by have := HN.out; omega)).trans HC.out); have HB2 := qh (HB.out.trans (hb2 w.heap.size (by have := HN.out; omega))); clear hm2 hk2 hs2 hb2 HM HC HB; have HM := HM2; have HC := HC2; have HB := HB2; clear HM2 HC2 HB2) | (refine AQ AT _ rfl _ _ _ 159 (Or.inl rfl) Try.underlying159 Try.underlying3 _ (suitKv.take 4) (suitKv.take 5) rfl HM.out (Bt 4) 5 rfl (by rfl) ?_; intro W2 hm2 hk2 hs2 hb2; have HM2 := qh hm2; have HC2 := qh ((hk2 w.heap.size (by have := HN.out; omega)).trans HC.out); have HB2 := qh (HB.out.trans (hb2 w.heap.size (by have := HN.out; omega))); clear hm2 hk2 hs2 hb2 HM HC HB; have HM := HM2; have HC := HC2; have HB := HB2; clear HM2 HC2 HB2) | (refine AQ AT _ rfl _ _ _ 159 (Or.inl rfl) Try.underlying159 Try.underlying3 _ (suitKv.take 5) (suitKv.take 6) rfl HM.out (Bt 5) 6 rfl (by rfl) ?_; intro W2 hm2 hk2 hs2 hb2; have HM2 := qh hm2; have HC2 := qh ((hk2 w.heap.size (by have := HN.out; omega)).trans HC.out); have HB2 := qh (HB.out.trans (hb2 w.heap.size (by have := HN.out; omega))); clear hm2 hk2 hs2 hb2 HM HC HB; have HM := HM2; have HC := HC2; have HB := HB2; clear HM2 HC2 HB2) | (refine AQ AT _ rfl _ _ _ 159 (Or.inl rfl) Try.underlying159 Try.underlying3 _ (suitKv.take 6) (suitKv.take 7) rfl HM.out (Bt 6) 7 rfl (by rfl) ?_; intro W2 hm2 hk2 hs2 hb2; have HM2 := qh hm2; have HC2 := qh ((hk2 w.heap.size (by have := HN.out; omega)).trans HC.out); have HB2 := qh (HB.out.trans (hb2 w.heap.size (by have := HN.out; omega))); clear hm2 hk2 hs2 hb2 HM HC HB; have HM := HM2; have HC := HC2; have HB := HB2; clear HM2 HC2 HB2) | (refine AQ AT _ rfl _ _ _ 159 (Or.inl rfl) Try.underlying159 Try.underlying3 _ (suitKv.take 7) (suitKv.take 8) rfl HM.out (Bt 7) 8 rfl (by rfl) ?_; intro W2 hm2 hk2 hs2 hb2; have HM2 := qh hm2; have HC2 := qh ((hk2 w.heap.size (by have := HN.out; omega)).trans HC.out); have HB2 := qh (HB.out.trans (hb2 w.heap.size (by have := HN.out; omega))); clear hm2 hk2 hs2 hb2 HM HC HB; have HM := HM2; have HC := HC2; have HB := HB2; clear HM2 HC2 HB2) | (refine AQ AT _ rfl _ _ _ 159 (Or.inl rfl) Try.underlying159 Try.underlying3 _ (suitKv.take 8) (suitKv.take 9) rfl HM.out (Bt 8) 9 rfl (by rfl) ?_; intro W2 hm2 hk2 hs2 hb2; have HM2 := qh hm2; have HC2 := qh ((hk2 w.heap.size (by have := HN.out; omega)).trans HC.out); have HB2 := qh (HB.out.trans (hb2 w.heap.size (by have := HN.out; omega))); clear hm2 hk2 hs2 hb2 HM HC HB; have HM := HM2; have HC := HC2; have HB := HB2; clear HM2 HC2 HB2) | (refine EC AT _ rfl _ _ 159 true rfl Try.underlying159 Try.underlying3 (z := .agg #[int i64 0, int i64 0, int i64 0, int i64 0, int i64 0, int i64 0, int i64 0, int i64 0]) (by kernel_rfl) _ _ rfl HM.out k rfl ?_; rw [HG.out.1, HG.out.2]) | (refine wpList_store_row rfl 151 _ _ rfl w.heap.size #[int i64 r0, int i64 r1, int i64 r2, int i64 r3, int i64 r4, int i64 r5, int i64 r6, int i64 r7] rfl rfl 151 _ HC.out (by kernel_rfl) rfl HONE.out ?_; obtain ⟨W9, hW9, hc9, hb9⟩ := C0 (cs := #[int i64 r0, int i64 r1, int i64 r2, int i64 r3, int i64 r4, int i64 r5, int i64 r6, int i64 r7]) HC.out HB.out (qn _); rw [hW9]; have HC9 := qh hc9; have HB9 := qh hb9; clear hW9 hc9 hb9 HC HB; have HC := HC9; have HB := HB9; clear HC9 HB9) | (refine wpList_load_row rfl 151 _ rfl w.heap.size rfl 151 #[int i64 r0, int i64 r1, int i64 r2, int i64 r3, int i64 r4, int i64 r5, int i64 r6, int i64 r7] (0, 0) _ HC.out Try.underlying151 rfl (by kernel_rfl) ?_; simp only [Act.put, qD, qE, qF]))
 have hX := HC.out; refine bodyPost_ret (v := .tuple #[.agg #[int i64 r0, int i64 r1, int i64 r2, int i64 r3, int i64 r4, int i64 r5, int i64 r6, int i64 r7], .bool ok]) ?_ rfl ⟨rfl, HB.out⟩; have y0 := Aa hX 0 rfl; have y1 := Aa hX 1 rfl; have y2 := Aa hX 2 rfl; have y3 := Aa hX 3 rfl; have y4 := Aa hX 4 rfl; have y5 := Aa hX 5 rfl; have y6 := Aa hX 6 rfl; have y7 := Aa hX 7 rfl; clear hX; simp [results, Try.results101, go_sem, y0, y1, y2, y3, y4, y5, y6, y7]
end
section
open Go Go.RowKit
def D8 (fa fb ta tb : Int) : Bool := D3 fa fb && D3 ta tb && decide (fa * tb < ta * fb) && decide (0 ≤ fa) && decide (ta ≤ tb)
def ExP (b : Bool) (w : World) (e : Ending) (w' : World) : Prop := ((b = true ∧ e = .returned (.tuple #[])) ∨ (b = false ∧ e = Ah)) ∧ Below w.heap.size w w'
theorem Mr (a b : Int) : decide (GV a b < 0) = decide (a < b) := by
 unfold GV; by_cases h : a < b
 ·rw [if_pos h, decide_eq_true h]; rfl
 ·rw [if_neg h, decide_eq_false h]
  split <;> rfl
noncomputable def BW : Code := (Try.f88.body).getD .skip
noncomputable def L7 : Code := match Ab 0 BW with
 | .seq a _ => a
 | c => c
noncomputable def L8 : Code := match Ab 1 BW with
 | .seq a _ => a
 | c => c
noncomputable def L9 : Code := match Ab 2 BW with
 | .seq a _ => a
 | c => c
noncomputable def La : Code := match Ab 3 BW with
 | .seq a _ => a
 | c => c
theorem MC : Ab 1 BW = .seq L8 (Ab 2 BW) := rfl
theorem MD : Ab 2 BW = .seq L9 (Ab 3 BW) := rfl
theorem ME : Ab 3 BW = .seq La (Ab 4 BW) := rfl
theorem Pr (mark kind side dir lev size n fa fb ta tb : Int) (wn : Nm) (A : Nat) (w W : World) (hb : Below w.heap.size w W) (hA : W.heap[A]? = some (.cells #[int i64 mark, int i64 kind, int i64 side, int i64 dir, int i64 lev, int i64 size, sv wn, int i64 n, int i64 fa, int i64 fb, int i64 ta, int i64 tb] 85 (0, 0))) (e0 e2 e3 e4 e5 e6 e7 e8 e9 ea eb ec ed ee ef eg eh ei ej ek el em en eo ep eq er es et eu ev ew ex ey ez eA eB eC eD eE eF eG eH eI eJ eK eL eM eN eO eP eQ eR eS eT eU eV eW eX eY eZ aa ab ac ad ae af ag ah ai aj ak al am an : Value) :
  (Ab 4 BW).wp Try.prog (bodyPost Try.prog Try.f88 (ExP (D8 fa fb ta tb) w)) { tmps := #[e0, .pointer (some ⟨A, 0, none⟩), e2, e3, e4, e5, e6, e7, e8, e9, ea, eb, ec, ed, ee, ef, eg, eh, ei, ej, ek, el, em, en, eo, ep, eq, er, es, et, eu, ev, ew, ex, ey, ez, eA, eB, eC, eD, eE, eF, eG, eH, eI, eJ, eK, eL, eM, eN, eO, eP, eQ, eR, eS, eT, eU, eV, eW, eX, eY, eZ, aa, ab, ac, ad, ae, af, ag, ah, ai, aj, ak, al, am, an], defers := [] } W := by
 have C := LR fa fb ta tb W; have y8 := Aa hA 8 rfl; have y9 := Aa hA 9 rfl; have y10 := Aa hA 10 rfl; have y11 := Aa hA 11 rfl; have HC := qh C; have HA := qh hA; have HB := qh hb; clear C hA hb
 conv => arg 2; whnf
 go_wp2_with fail; refine HC.out.mono ?_; rintro e V ⟨rfl, hv⟩; have HBV := qh (Ag HB.out hv); have hAV := Am hv HA.out; clear y8 y9 y10 y11 HC hv; have y8 := Aa hAV 8 rfl; have y9 := Aa hAV 9 rfl; have y10 := Aa hAV 10 rfl; have y11 := Aa hAV 11 rfl; clear hAV HA; unfold Hx
 cases hr : D3 fa fb && D3 ta tb with
 | false =>
  have hz : D8 fa fb ta tb = false := by unfold D8; rw [hr]; rfl
  have HZ := qh hz; clear hr hz
  go_wp2_with (go_at_call 63; first | (refine (Aq _).mono ?_; rintro e w2 ⟨rfl, rfl⟩) | (refine (Al _).mono ?_; unfold Ah; rintro e w2 ⟨rfl, rfl⟩)); exact ⟨rfl, Or.inr ⟨HZ.out, rfl⟩, HBV.out⟩
 | true =>
  obtain ⟨x, hx⟩ : ∃ x, decide (fa * tb < ta * fb) = x := ⟨_, rfl⟩; obtain ⟨y, hy⟩ : ∃ y, decide (0 ≤ fa) = y := ⟨_, rfl⟩; obtain ⟨z, hz⟩ : ∃ z, decide (ta ≤ tb) = z := ⟨_, rfl⟩; have hzz : D8 fa fb ta tb = (x && y && z) := by unfold D8; rw [hr, hx, hy, hz]; rfl
  have hc := Mr (fa * tb) (ta * fb); rw [hx] at hc; have HZ := qh hzz; generalize GV (fa * tb) (ta * fb) = c at *; clear hr hzz hx; cases x <;> cases y <;> cases z
  all_goals
   go_wp2_with (go_at_call 63; first | (refine (Aq _).mono ?_; rintro e w2 ⟨rfl, rfl⟩) | (refine (Al _).mono ?_; unfold Ah; rintro e w2 ⟨rfl, rfl⟩))
   first
    | (go_end0; exact ⟨Or.inl ⟨HZ.out, rfl⟩, HBV.out⟩)
    | exact ⟨rfl, Or.inr ⟨HZ.out, rfl⟩, HBV.out⟩
    | trace_state
def FP (side dir lev size r0 r1 r2 r3 r4 r5 r6 r7 : Int) : List Bool := [inB side r0 r1, inB dir r2 r3, inB lev r4 r5, inB size r6 r7]
def KA (l : List Bool) (i : Nat) : Prop := ∀ j b, j < i → l[j]? = some b → b = true
theorem F6 {l : List Bool} {i : Nat} {b : Bool} (h : KA l i) (hb : l[i]? = some b) (ht : b = true) : KA l (i + 1) := fun j c hj hc => by
 by_cases e : j = i
 ·subst e
  rw [hb] at hc; injection hc with hc; rw [← hc]; exact ht
 ·exact h j c (by omega) hc
theorem Oj {l : List Bool} (h : KA l l.length) : l.all id = true := List.all_eq_true.2 fun b hb => by
 obtain ⟨j, hj⟩ := List.getElem?_of_mem hb; exact h j b (ql.1 hj).1 hj
theorem Mm {l : List Bool} {j : Nat} {b : Bool} (h : l[j]? = some b) (hb : b = false) : l.all id = false := by
 rw [← Bool.not_eq_true, List.all_eq_true]; intro h2; have := h2 b (List.mem_of_getElem? h); rw [hb] at this; cases this
theorem Pq (mark kind side dir lev size n fa fb ta tb r0 r1 r2 r3 r4 r5 r6 r7 : Int) (wn : Nm) (A R : Nat) (w W : World) (hb : Below w.heap.size w W) (hA : W.heap[A]? = some (.cells #[int i64 mark, int i64 kind, int i64 side, int i64 dir, int i64 lev, int i64 size, sv wn, int i64 n, int i64 fa, int i64 fb, int i64 ta, int i64 tb] 85 (0, 0))) (hR : W.heap[R]? = some (.cells #[int i64 r0, int i64 r1, int i64 r2, int i64 r3, int i64 r4, int i64 r5, int i64 r6, int i64 r7] 151 (0, 0))) (e0 e3 e4 e5 e6 e7 e8 e9 ea eb ec ed ee ef eg eh ei ej ek el em en eo ep eq er es et eu ev ew ex ey ez eA eB eC eD eE eF eG eH eI eJ eK eL eM eN eO eP eQ eR eS eT eU eV eW eX eY eZ aa ab ac ad ae af ag ah ai aj ak al am an : Value) :
  (Ab 3 BW).wp Try.prog (bodyPost Try.prog Try.f88 (ExP ((FP side dir lev size r0 r1 r2 r3 r4 r5 r6 r7).all id && D8 fa fb ta tb) w)) { tmps := #[e0, .pointer (some ⟨A, 0, none⟩), .pointer (some ⟨R, 0, none⟩), e3, e4, e5, e6, e7, e8, e9, ea, eb, ec, ed, ee, ef, eg, eh, ei, ej, ek, el, em, en, eo, ep, eq, er, es, et, eu, ev, ew, ex, ey, ez, eA, eB, eC, eD, eE, eF, eG, eH, eI, eJ, eK, eL, eM, eN, eO, eP, eQ, eR, eS, eT, eU, eV, eW, eX, eY, eZ, aa, ab, ac, ad, ae, af, ag, ah, ai, aj, ak, al, am, an], defers := [] } W := by
 have y2 := Aa hA 2 rfl; have y3 := Aa hA 3 rfl; have y4 := Aa hA 4 rfl; have y5 := Aa hA 5 rfl; have z0 := Aa hR 0 rfl; have z1 := Aa hR 1 rfl; have z2 := Aa hR 2 rfl; have z3 := Aa hR 3 rfl; have z4 := Aa hR 4 rfl; have z5 := Aa hR 5 rfl; have z6 := Aa hR 6 rfl; have z7 := Aa hR 7 rfl
 have HE : Hid (∀ V, Below W.heap.size W V → KA (FP side dir lev size r0 r1 r2 r3 r4 r5 r6 r7) 4 → ∀ (e0 e2 e3 e4 e5 e6 e7 e8 e9 ea eb ec ed ee ef eg eh ei ej ek el em en eo ep eq er es et eu ev ew ex ey ez eA eB eC eD eE eF eG eH eI eJ eK eL eM eN eO eP eQ eR eS eT eU eV eW eX eY eZ aa ab ac ad ae af ag ah ai aj ak al am an : Value), (Ab 4 BW).wp Try.prog (bodyPost Try.prog Try.f88 (ExP ((FP side dir lev size r0 r1 r2 r3 r4 r5 r6 r7).all id && D8 fa fb ta tb) w)) { tmps := #[e0, .pointer (some ⟨A, 0, none⟩), e2, e3, e4, e5, e6, e7, e8, e9, ea, eb, ec, ed, ee, ef, eg, eh, ei, ej, ek, el, em, en, eo, ep, eq, er, es, et, eu, ev, ew, ex, ey, ez, eA, eB, eC, eD, eE, eF, eG, eH, eI, eJ, eK, eL, eM, eN, eO, eP, eQ, eR, eS, eT, eU, eV, eW, eX, eY, eZ, aa, ab, ac, ad, ae, af, ag, ah, ai, aj, ak, al, am, an], defers := [] } V) := qh fun V hv ho => by
  rw [Oj ho, Bool.true_and]; exact Pr mark kind side dir lev size n fa fb ta tb wn A w V (Ag hb hv) (Am hv hA)
 have HF : Hid (∀ j b, (FP side dir lev size r0 r1 r2 r3 r4 r5 r6 r7)[j]? = some b → b = false → ((FP side dir lev size r0 r1 r2 r3 r4 r5 r6 r7).all id && D8 fa fb ta tb) = false) := qh fun j b h1 h2 => by rw [Mm h1 h2]; rfl
 have HB := qh hb; clear hA hR hb; generalize D8 fa fb ta tb = rest at *; rw [ME]; refine Ac (fun K hK => ?_); have HK := qh hK; clear hK
 conv => arg 2; whnf
 go_wp2_with fail; go_loopw [30] (fun iv wr => ∃ i : Nat, iv = int i64 i ∧ i ≤ 4 ∧ Hid (KA (FP side dir lev size r0 r1 r2 r3 r4 r5 r6 r7) i) ∧ Hid (∃ q, wr = W.drewN q)) (fun iv _ => 5 - (intOf iv).toNat)
 case atStart => exact ⟨0, rfl, Nat.zero_le _, qh (fun j b h => by omega), qh ⟨0, rfl⟩⟩
 case round =>
  obtain ⟨i, rfl, hin, hf, hq⟩ := hrel; obtain ⟨q, rfl⟩ := hq.out; have HW : Hid (Below w.heap.size w (W.drewN q).drew) := qh (Ar (Ar HB.out q) 1); have hWd : Hid (∃ q', (W.drewN q).drew = W.drewN q') := qh ⟨q + 1, rfl⟩; rcases (by omega : i = 0 ∨ i = 1 ∨ i = 2 ∨ i = 3 ∨ i = 4) with rfl | rfl | rfl | rfl | rfl
  ·obtain ⟨b, hb⟩ : ∃ b, inB side r0 r1 = b := ⟨_, rfl⟩
   have HBB := qh hb; clear hb; have hidx : ∀ V : World, (Instr.index 154 (.agg #[int i64 side, int i64 dir, int i64 lev, int i64 size]) (int i64 0)).run Try.prog V = .ok (int i64 side) V := fun V => by kernel_rfl
   go_wp2_with fail; refine BH (fun w2 => w2 = (W.drewN q).drew) 10 (by kernel_rfl) (by kernel_rfl) rfl ?_; intro w2 hS; subst hS; simp only [List.take_succ_cons, List.take_zero, List.drop_succ_cons, List.drop_zero]
   repeat still_step
   still_call ((Bg _ _ _ _).mono fun _ _ ⟨e1, e2⟩ => ⟨e1, e2.symm⟩)
   repeat still_step
   refine wpStill_nil ?_; rw [HBB.out]
   cases b with
   | false =>
    have HZ := qh (HF.out 0 _ rfl HBB.out)
    go_wp2_with (go_at_call 63; first | (refine (Aq _).mono ?_; rintro e w2 ⟨rfl, rfl⟩) | (refine (Al _).mono ?_; unfold Ah; rintro e w2 ⟨rfl, rfl⟩)); exact ⟨rfl, Or.inr ⟨HZ.out, rfl⟩, HW.out⟩
   | true =>
    go_wp2_with (go_at_call 63; first | (refine (Aq _).mono ?_; rintro e w2 ⟨rfl, rfl⟩) | (refine (Al _).mono ?_; unfold Ah; rintro e w2 ⟨rfl, rfl⟩)); go_roundw
    case rel => exact ⟨0 + 1, by go_num, by omega, qh (F6 hf.out rfl HBB.out), hWd⟩
    case measure => simp [intOf]
  ·obtain ⟨b, hb⟩ : ∃ b, inB dir r2 r3 = b := ⟨_, rfl⟩
   have HBB := qh hb; clear hb; have hidx : ∀ V : World, (Instr.index 154 (.agg #[int i64 side, int i64 dir, int i64 lev, int i64 size]) (int i64 1)).run Try.prog V = .ok (int i64 dir) V := fun V => by kernel_rfl
   go_wp2_with fail; refine BH (fun w2 => w2 = (W.drewN q).drew) 10 (by kernel_rfl) (by kernel_rfl) rfl ?_; intro w2 hS; subst hS; simp only [List.take_succ_cons, List.take_zero, List.drop_succ_cons, List.drop_zero]
   repeat still_step
   still_call ((Bg _ _ _ _).mono fun _ _ ⟨e1, e2⟩ => ⟨e1, e2.symm⟩)
   repeat still_step
   refine wpStill_nil ?_; rw [HBB.out]
   cases b with
   | false =>
    have HZ := qh (HF.out 1 _ rfl HBB.out)
    go_wp2_with (go_at_call 63; first | (refine (Aq _).mono ?_; rintro e w2 ⟨rfl, rfl⟩) | (refine (Al _).mono ?_; unfold Ah; rintro e w2 ⟨rfl, rfl⟩)); exact ⟨rfl, Or.inr ⟨HZ.out, rfl⟩, HW.out⟩
   | true =>
    go_wp2_with (go_at_call 63; first | (refine (Aq _).mono ?_; rintro e w2 ⟨rfl, rfl⟩) | (refine (Al _).mono ?_; unfold Ah; rintro e w2 ⟨rfl, rfl⟩)); go_roundw
    case rel => exact ⟨1 + 1, by go_num, by omega, qh (F6 hf.out rfl HBB.out), hWd⟩
    case measure => simp [intOf]
  ·obtain ⟨b, hb⟩ : ∃ b, inB lev r4 r5 = b := ⟨_, rfl⟩
   have HBB := qh hb; clear hb; have hidx : ∀ V : World, (Instr.index 154 (.agg #[int i64 side, int i64 dir, int i64 lev, int i64 size]) (int i64 2)).run Try.prog V = .ok (int i64 lev) V := fun V => by kernel_rfl
   go_wp2_with fail; refine BH (fun w2 => w2 = (W.drewN q).drew) 10 (by kernel_rfl) (by kernel_rfl) rfl ?_; intro w2 hS; subst hS; simp only [List.take_succ_cons, List.take_zero, List.drop_succ_cons, List.drop_zero]
   repeat still_step
   still_call ((Bg _ _ _ _).mono fun _ _ ⟨e1, e2⟩ => ⟨e1, e2.symm⟩)
   repeat still_step
   refine wpStill_nil ?_; rw [HBB.out]
   cases b with
   | false =>
    have HZ := qh (HF.out 2 _ rfl HBB.out)
    go_wp2_with (go_at_call 63; first | (refine (Aq _).mono ?_; rintro e w2 ⟨rfl, rfl⟩) | (refine (Al _).mono ?_; unfold Ah; rintro e w2 ⟨rfl, rfl⟩)); exact ⟨rfl, Or.inr ⟨HZ.out, rfl⟩, HW.out⟩
   | true =>
    go_wp2_with (go_at_call 63; first | (refine (Aq _).mono ?_; rintro e w2 ⟨rfl, rfl⟩) | (refine (Al _).mono ?_; unfold Ah; rintro e w2 ⟨rfl, rfl⟩)); go_roundw
    case rel => exact ⟨2 + 1, by go_num, by omega, qh (F6 hf.out rfl HBB.out), hWd⟩
    case measure => simp [intOf]
  ·obtain ⟨b, hb⟩ : ∃ b, inB size r6 r7 = b := ⟨_, rfl⟩
   have HBB := qh hb; clear hb; have hidx : ∀ V : World, (Instr.index 154 (.agg #[int i64 side, int i64 dir, int i64 lev, int i64 size]) (int i64 3)).run Try.prog V = .ok (int i64 size) V := fun V => by kernel_rfl
   go_wp2_with fail; refine BH (fun w2 => w2 = (W.drewN q).drew) 10 (by kernel_rfl) (by kernel_rfl) rfl ?_; intro w2 hS; subst hS; simp only [List.take_succ_cons, List.take_zero, List.drop_succ_cons, List.drop_zero]
   repeat still_step
   still_call ((Bg _ _ _ _).mono fun _ _ ⟨e1, e2⟩ => ⟨e1, e2.symm⟩)
   repeat still_step
   refine wpStill_nil ?_; rw [HBB.out]
   cases b with
   | false =>
    have HZ := qh (HF.out 3 _ rfl HBB.out)
    go_wp2_with (go_at_call 63; first | (refine (Aq _).mono ?_; rintro e w2 ⟨rfl, rfl⟩) | (refine (Al _).mono ?_; unfold Ah; rintro e w2 ⟨rfl, rfl⟩)); exact ⟨rfl, Or.inr ⟨HZ.out, rfl⟩, HW.out⟩
   | true =>
    go_wp2_with (go_at_call 63; first | (refine (Aq _).mono ?_; rintro e w2 ⟨rfl, rfl⟩) | (refine (Al _).mono ?_; unfold Ah; rintro e w2 ⟨rfl, rfl⟩)); go_roundw
    case rel => exact ⟨3 + 1, by go_num, by omega, qh (F6 hf.out rfl HBB.out), hWd⟩
    case measure => simp [intOf]
  ·go_wp2_with fail
   refine HK.out _ _ ?_; exact HE.out _ (Ar (Below.refl _ _) q) hf.out _ _ _ _ _ _ _ _ _ _ _ _ _ _ _ _ _ _ _ _ _ _ _ _ _ _ _ _ _ _ _ _ _ _ _ _ _ _ _ _ _ _ _ _ _ _ _ _ _ _ _ _ _ _ _ _ _ _ _ _ _ _ _ _ _ _ _ _ _ _ _ _ _ _ _
end
section
open Go Go.RowKit
def O8 (kind side dir lev size : Int) : Bool := match D4 kind with
 | [r0, r1, r2, r3, r4, r5, r6, r7] => (FP side dir lev size r0 r1 r2 r3 r4 r5 r6 r7).all id
 | _ => false
def JR (mark kind side dir lev size fa fb ta tb : Int) : Bool := (E0 kind && inB mark 1 3) && (O8 kind side dir lev size && D8 fa fb ta tb)
theorem Iv (mark kind side dir lev size n fa fb ta tb : Int) (wn : Nm) (w : World) : Calls Try.prog 88 #[.agg #[int i64 mark, int i64 kind, int i64 side, int i64 dir, int i64 lev, int i64 size, sv wn, int i64 n, int i64 fa, int i64 fb, int i64 ta, int i64 tb]] w (ExP (JR mark kind side dir lev size fa fb ta tb) w) := by
 obtain ⟨W1, hW1, gW1, bW1, sW1⟩ := Ai w #[int i64 mark, int i64 kind, int i64 side, int i64 dir, int i64 lev, int i64 size, sv wn, int i64 n, int i64 fa, int i64 fb, int i64 ta, int i64 tb] 85; obtain ⟨r0, r1, r2, r3, r4, r5, r6, r7, hr⟩ := Ej kind; have hv : I4 (D4 kind) = .agg #[int i64 r0, int i64 r1, int i64 r2, int i64 r3, int i64 r4, int i64 r5, int i64 r6, int i64 r7] := by rw [hr]; rfl
 have hone : (#[int i64 r0, int i64 r1, int i64 r2, int i64 r3, int i64 r4, int i64 r5, int i64 r6, int i64 r7] : Array Value).all (·.oneCell') = true := by simp [Value.oneCell']
 have hfld : O8 kind side dir lev size = (FP side dir lev size r0 r1 r2 r3 r4 r5 r6 r7).all id := by unfold O8; rw [hr]
 have C := Kt kind W1; rw [hv] at C; have HM : Hid (JR mark kind side dir lev size fa fb ta tb = ((E0 kind && inB mark 1 3) && ((FP side dir lev size r0 r1 r2 r3 r4 r5 r6 r7).all id && D8 fa fb ta tb))) := qh (by unfold JR; rw [hfld]); generalize JR mark kind side dir lev size fa fb ta tb = mb at *; obtain ⟨ok, hok⟩ : ∃ ok, E0 kind = ok := ⟨_, rfl⟩; rw [hok] at C HM; have HC := qh C; have HO := qh hone; have HW1 := qh hW1; have HG := qh gW1; have HB := qh bW1; clear C hone hv hr hfld hok hW1 gW1 bW1; obtain ⟨cs, hcs⟩ : ∃ cs : Array Value, #[int i64 mark, int i64 kind, int i64 side, int i64 dir, int i64 lev, int i64 size, sv wn, int i64 n, int i64 fa, int i64 fb, int i64 ta, int i64 tb] = cs := ⟨_, rfl⟩; have HCS := qh hcs; have hW1' := HW1.out; rw [hcs] at hW1' ⊢; have HW1' := qh hW1'; clear hcs hW1' HW1; go_enter Try.func88, Try.ntmps88; change Code.wp Try.prog (.seq L7 (Ab 1 BW)) _ _ _; refine Ac (fun K hK => ?_); have HK := qh hK; clear hK
 conv => arg 2; whnf
 go_wp2_with fail; refine HK.out _ _ ?_; rw [HW1'.out]; clear HK K HW1' HCS; have y1 := Aa HG.out 1 rfl; rw [MC]; refine Ac (fun K hK => ?_); have HK := qh hK; clear hK
 conv => arg 2; whnf
 go_wp2_with fail; refine HC.out.mono ?_; rintro e V ⟨rfl, hv⟩; have hG2 := Am hv HG.out; have hbV := Ag HB.out hv; obtain ⟨W3, hW3, gW3, bW3, sW3⟩ := Ai V #[int i64 0, int i64 0, int i64 0, int i64 0, int i64 0, int i64 0, int i64 0, int i64 0] 151; obtain ⟨W4, hW4, gW4, bW4⟩ := C0 (cs := #[int i64 r0, int i64 r1, int i64 r2, int i64 r3, int i64 r4, int i64 r5, int i64 r6, int i64 r7]) gW3 bW3 (qn _); have hVl : w.heap.size < V.heap.size := (qs.1 hG2).1; have hG4 := Am bW4 hG2; have H3 := qh (And.intro gW3 hW4); have HX := qh (And.intro hG4 (And.intro gW4 (Ag hbV bW4))); clear HC HG y1 hv hG2 hbV gW3 bW3 sW3 hW4 gW4 bW4 hG4 HB; have y1' : True := trivial
 go_wp2_with (refine wpList_store_row rfl 151 _ _ rfl V.heap.size #[int i64 r0, int i64 r1, int i64 r2, int i64 r3, int i64 r4, int i64 r5, int i64 r6, int i64 r7] rfl rfl 151 _ H3.out.1 (by kernel_rfl) rfl HO.out ?_; rw [H3.out.2]); refine HK.out _ _ ?_; clear HK K H3 hW3; obtain ⟨hG4, gW4, hb4⟩ := HX.out; have y0 := Aa hG4 0 rfl
 have HE := qh (fun (b : Bool) (hbm : mb = ((FP side dir lev size r0 r1 r2 r3 r4 r5 r6 r7).all id && D8 fa fb ta tb)) => by
  have := Pq mark kind side dir lev size n fa fb ta tb r0 r1 r2 r3 r4 r5 r6 r7 wn w.heap.size V.heap.size w W4 hb4 hG4 gW4; rw [← hbm] at this
  exact this)
 have HB4 := qh hb4; clear hG4 gW4 hb4 HX; generalize V.heap.size = R at *; rw [MD]; refine Ac (fun K hK => ?_); have HK := qh hK; clear hK
 conv => arg 2; whnf
 obtain ⟨b, hb⟩ : ∃ b, inB mark 1 3 = b := ⟨_, rfl⟩; have HBB := qh hb; rw [hb] at HM; clear hb
 cases ok with
 | false =>
  go_wp2_with (go_at_call 63; first | (refine (Aq _).mono ?_; rintro e w2 ⟨rfl, rfl⟩) | (refine (Al _).mono ?_; unfold Ah; rintro e w2 ⟨rfl, rfl⟩)); exact ⟨rfl, Or.inr ⟨by rw [HM.out]; rfl, rfl⟩, HB4.out⟩
 | true =>
  cases b with
  | false =>
   go_wp2_with (first | (go_at_call 64; refine (Bg _ _ _ _).mono ?_; rw [HBB.out]; rintro e w2 ⟨rfl, rfl⟩) | (go_at_call 63; first | (refine (Aq _).mono ?_; rintro e w2 ⟨rfl, rfl⟩) | (refine (Al _).mono ?_; unfold Ah; rintro e w2 ⟨rfl, rfl⟩))); exact ⟨rfl, Or.inr ⟨by rw [HM.out]; rfl, rfl⟩, HB4.out⟩
  | true =>
   go_wp2_with (first | (go_at_call 64; refine (Bg _ _ _ _).mono ?_; rw [HBB.out]; rintro e w2 ⟨rfl, rfl⟩) | (go_at_call 63; first | (refine (Aq _).mono ?_; rintro e w2 ⟨rfl, rfl⟩) | (refine (Al _).mono ?_; unfold Ah; rintro e w2 ⟨rfl, rfl⟩))); refine HK.out _ _ ?_; exact HE.out true (by rw [HM.out]; simp) _ _ _ _ _ _ _ _ _ _ _ _ _ _ _ _ _ _ _ _ _ _ _ _ _ _ _ _ _ _ _ _ _ _ _ _ _ _ _ _ _ _ _ _ _ _ _ _ _ _ _ _ _ _ _ _ _ _ _ _ _ _ _ _ _ _ _ _ _ _ _ _ _ _
end
section
open Go Go.RowKit
def Cn (m : Mov) : Bool := JR m.mark m.kind m.side m.dir m.level m.size m.fa m.fb m.ta m.tb
def DF (k n : Int) : Bool := if k = 2 then inB n 1 64 else decide (n = 0)
def Its.exB : Its → Bool
 | .nil => true
 | .cons k n _ its ms r => DF k n && ((decide (its.len = 0) || (decide (k = 2) || decide (k = 3))) && ((decide (ms.length = 0) || decide (k = 1)) && ((ms.all Cn && its.exB) && r.exB)))
noncomputable def NX : Code := (Try.f66.body).getD .skip
noncomputable def Bd : Code := match NX with
 | .seq _ (.block _ (.loop (.seq _ (.seq _ (.seq (.block _ c) _))))) => c
 | c => c
noncomputable def L6 : Code := match Ab 4 Bd with
 | .seq a _ => a
 | c => c
noncomputable def L3 : Code := match Ab 1 Bd with
 | .seq a _ => a
 | c => c
noncomputable def L4 : Code := match Ab 2 Bd with
 | .seq a _ => a
 | c => c
noncomputable def L5 : Code := match Ab 3 Bd with
 | .seq a _ => a
 | c => c
def Bu : List PanicEntry := [{ v := .iface 113 (.agg #[]), recovered := false }]
theorem Bv {b : Bool} (h : b = false) (w : World) : Calls Try.prog 63 #[.bool b] w fun e w' => e = Ah ∧ w = w' := by subst h; exact Al w
theorem Iw {b : Bool} {w w' : World} {e : Ending} (h : ExP b w e w') : (b = true ∧ e = .returned (.tuple #[]) ∧ Below w.heap.size w w') ∨ (b = false ∧ e = .panicked Bu ∧ Below w.heap.size w w') := by
 rcases h with ⟨⟨h1, h2⟩ | ⟨h1, h2⟩, h3⟩
 ·exact Or.inl ⟨h1, h2, h3⟩
 ·exact Or.inr ⟨h1, h2, h3⟩
theorem Pn (k n u : Int) (un : Nm) (ia : Option Addr) (ic l : Nat) (ma : Option Addr) (mc m : Nat) (X : Nat) (Q : Exit → Act → World → Prop) (W : World) (hX : W.heap[X]? = some (.cells #[int i64 k, int i64 n, sv un, int i64 u, .slice ia l ic, .slice ma m mc] 78 (0, 0))) (b : Bool) (C : ∀ V, Below W.heap.size W V → Calls Try.prog 66 #[.slice ia l ic] V (ExP b V)) (e0 e1 e2 e4 e5 e6 e7 e8 e9 ea eb ec ed ee ef eg eh ei ej ek el em en eo ep eq er es et eu ev ew ex ey ez eA eB eC eD eE eF eG eH eI eJ eK eL eM eN eO eP eQ eR eS eT eU eV eW eX eY eZ : Value)
  (hN : b = true → ∀ (x5 x9 aa ab ac ad ae af ag ah ai aj ak al am an ao ap aq ar au av aw ax ay az aA aB aC aD aE aF aG aH aI aJ aK aL aM aN aO aP aQ aR aS aT aU aV aW aX aY aZ ba bb : Value) (V : World), Below W.heap.size W V → Q .normal { tmps := #[e0, e1, e2, .pointer (some ⟨X, 0, none⟩), e4, x5, e6, e7, e8, x9, aa, ab, ac, ad, ae, af, ag, ah, ai, aj, ak, al, am, an, ao, ap, aq, ar, au, av, aw, ax, ay, az, aA, aB, aC, aD, aE, aF, aG, aH, aI, aJ, aK, aL, aM, aN, aO, aP, aQ, aR, aS, aT, aU, aV, aW, aX, aY, aZ, ba, bb], defers := [] } V)
  (hP : b = false → ∀ (a : Act) (V : World), a.defers = [] → Below W.heap.size W V → Q (.panic Bu) a V) :
  (Ab 5 Bd).wp Try.prog Q { tmps := #[e0, e1, e2, .pointer (some ⟨X, 0, none⟩), e4, e5, e6, e7, e8, e9, ea, eb, ec, ed, ee, ef, eg, eh, ei, ej, ek, el, em, en, eo, ep, eq, er, es, et, eu, ev, ew, ex, ey, ez, eA, eB, eC, eD, eE, eF, eG, eH, eI, eJ, eK, eL, eM, eN, eO, eP, eQ, eR, eS, eT, eU, eV, eW, eX, eY, eZ], defers := [] } W := by
 have y4 := Aa hX 4 rfl; have C := C W (Below.refl _ _); have HC := qh C; have HN := qh hN; have HP := qh hP; clear C hX hN hP
 conv => arg 2; whnf
 go_wp2_with (go_at_call 66; refine HC.out.mono ?_; intro e V he; rcases Iw he with ⟨h1, rfl, hb⟩ | ⟨h1, rfl, hb⟩ <;> clear he)
 ·exact HN.out h1 _ _ _ _ _ _ _ _ _ _ _ _ _ _ _ _ _ _ _ _ _ _ _ _ _ _ _ _ _ _ _ _ _ _ _ _ _ _ _ _ _ _ _ _ _ _ _ _ _ _ _ _ _ _ _ hb
 ·exact HP.out h1 _ _ rfl hb
theorem Pm (k n u : Int) (un : Nm) (ia : Option Addr) (ic l : Nat) (ma : Option Addr) (mc m : Nat) (X : Nat) (Q : Exit → Act → World → Prop) (W : World) (hX : W.heap[X]? = some (.cells #[int i64 k, int i64 n, sv un, int i64 u, .slice ia l ic, .slice ma m mc] 78 (0, 0))) (b : Bool) (C : ∀ V, Below W.heap.size W V → Calls Try.prog 66 #[.slice ia l ic] V (ExP b V)) (ms : List Mov) (ks : List Int) (hml : ms.length = m) (hm1 : ms = [] ∨ ma = some ⟨blk ma, off ma, none⟩) (hm2 : m ≤ maxLen) (hm3 : Bc W (blk ma) (off ma) ms) (hm4 : NsAt W (Aw (blk ma) (off ma) ms) ks) (e0 e1 e2 e4 e5 e6 e7 e8 e9 ea eb ec ed ee ef eg eh ei ej ek el em en eo ep eq er es et eu ev ew ex ey ez eA eB eC eD eE eF eG eH eI eJ eK eL eM eN eO eP eQ eR eS eT eU eV eW eX eY eZ : Value)
  (hN : (ms.all Cn && b) = true → ∀ (x5 x9 aa ab ac ad ae af ag ah ai aj ak al am an ao ap aq ar au av aw ax ay az aA aB aC aD aE aF aG aH aI aJ aK aL aM aN aO aP aQ aR aS aT aU aV aW aX aY aZ ba bb : Value) (V : World), Below W.heap.size W V → Q .normal { tmps := #[e0, e1, e2, .pointer (some ⟨X, 0, none⟩), e4, x5, e6, e7, e8, x9, aa, ab, ac, ad, ae, af, ag, ah, ai, aj, ak, al, am, an, ao, ap, aq, ar, au, av, aw, ax, ay, az, aA, aB, aC, aD, aE, aF, aG, aH, aI, aJ, aK, aL, aM, aN, aO, aP, aQ, aR, aS, aT, aU, aV, aW, aX, aY, aZ, ba, bb], defers := [] } V)
  (hP : (ms.all Cn && b) = false → ∀ (a : Act) (V : World), a.defers = [] → Below W.heap.size W V → Q (.panic Bu) a V) :
  (Ab 4 Bd).wp Try.prog Q { tmps := #[e0, e1, e2, .pointer (some ⟨X, 0, none⟩), e4, e5, e6, e7, e8, e9, ea, eb, ec, ed, ee, ef, eg, eh, ei, ej, ek, el, em, en, eo, ep, eq, er, es, et, eu, ev, ew, ex, ey, ez, eA, eB, eC, eD, eE, eF, eG, eH, eI, eJ, eK, eL, eM, eN, eO, eP, eQ, eR, eS, eT, eU, eV, eW, eX, eY, eZ], defers := [] } W := by
 have y5 := Aa hX 5 rfl; have HC := qh C; have HN := qh hN; have HP := qh hP; have HM1 := qh hm1; have HM3 := qh hm3; have HM4 := qh hm4; have HX := qh hX; have HML := qh hml; clear C hX hN hP hm1 hm3 hm4 hml; unfold maxLen at hm2; change Code.wp Try.prog (.seq (L6) (Ab 5 Bd)) _ _ _; refine Ac (fun K hK => ?_); have HK := qh hK; clear hK
 conv => arg 2; whnf
 go_wp2_with fail; go_loopw [51] (fun jv wr => ∃ (j : Nat) (s : List Mov) (ls : List Int), jv = int i64 j ∧ j + s.length = m ∧ Hid (ms.all Cn = s.all Cn) ∧ Hid (Bc wr (blk ma) (off ma + j * 12) s) ∧ Hid (NsAt wr (Aw (blk ma) (off ma + j * 12) s) ls) ∧ Hid (Below W.heap.size W wr)) (fun jv _ => m + 1 - (intOf jv).toNat)
 case atStart => exact ⟨0, ms, ks, rfl, by rw [HML.out]; omega, qh rfl, by simpa [Hid] using HM3.out, by simpa [Hid] using HM4.out, qh (Below.refl _ _)⟩
 case round =>
  obtain ⟨j, s, ls, rfl, hjn, hall, hM, hL, hB⟩ := hrel
  cases s with
  | nil =>
   simp only [List.length_nil, Nat.add_zero] at hjn; subst hjn; go_wp2_with fail; refine HK.out _ _ ?_; have ha := hall.out; have e : (ms.all Cn && b) = b := by rw [ha]; rfl
   refine Pn k n u un ia ic l ma mc j X Q wr (Am hB.out HX.out) b (fun V hv => HC.out V (Ag hB.out hv)) _ _ _ _ _ _ _ _ _ _ _ _ _ _ _ _ _ _ _ _ _ _ _ _ _ _ _ _ _ _ _ _ _ _ _ _ _ _ _ _ _ _ _ _ _ _ _ _ _ _ _ _ _ _ _ _ _ _ _ _ _ (fun h x5 x9 aa ab ac ad ae af ag ah ai aj ak al am an ao ap aq ar au av aw ax ay az aA aB aC aD aE aF aG aH aI aJ aK aL aM aN aO aP aQ aR aS aT aU aV aW aX aY aZ ba bb V hv => HN.out (e.trans h) x5 x9 aa ab ac ad ae af ag ah ai aj ak al am an ao ap aq ar au av aw ax ay az aA aB aC aD aE aF aG aH aI aJ aK aL aM aN aO aP aQ aR aS aT aU aV aW aX aY aZ ba bb V (Ag hB.out hv)) (fun h a V hd hv => HP.out (e.trans h) a V hd (Ag hB.out hv))
  | cons x s =>
   simp only [List.length_cons] at hjn; have hj : (j : Int) < (m : Int) := by omega
   have ema := HM1.out.resolve_left (fun e => by rw [e] at HML; have := HML.out; simp at this; omega)
   cases ls with
   | nil => exact absurd hL.out (by simp [Aw, NsAt])
   | cons n1 ls =>
   obtain ⟨⟨f0, f1, f2, f3, f4, f5, f6, f8, f9, f10, f11⟩, hMr⟩ := hM.out; obtain ⟨f7, hLr⟩ := hL.out
   have HNY : Hid (Bc wr (blk ma) (off ma + (j + 1) * 12) s ∧ NsAt wr (Aw (blk ma) (off ma + (j + 1) * 12) s) ls) := qh (by
    rw [show off ma + (j + 1) * 12 = off ma + j * 12 + 12 by omega]
    exact ⟨hMr, hLr⟩)
   obtain ⟨W2, hW2, gW2, bW2, sW2⟩ := Ai wr #[int i64 x.mark, int i64 x.kind, int i64 x.side, int i64 x.dir, int i64 x.level, int i64 x.size, sv x.wn, int i64 n1, int i64 x.fa, int i64 x.fb, int i64 x.ta, int i64 x.tb] 85; have CX := Iv x.mark x.kind x.side x.dir x.level x.size n1 x.fa x.fb x.ta x.tb x.wn W2; obtain ⟨bx, hbx⟩ : ∃ bx, JR x.mark x.kind x.side x.dir x.level x.size x.fa x.fb x.ta x.tb = bx := ⟨_, rfl⟩; rw [hbx] at CX; have hx2 : Cn x = bx := hbx; have ha := hall.out; rw [List.all_cons, hx2] at ha; have HA := qh ha; have HCX := qh CX; have HB2 := qh bW2; have HG2 := qh gW2; clear hM hL hMr hLr CX hbx hx2 ha hall bW2 sW2; have hone : (#[int i64 x.mark, int i64 x.kind, int i64 x.side, int i64 x.dir, int i64 x.level, int i64 x.size, sv x.wn, int i64 n1, int i64 x.fa, int i64 x.fb, int i64 x.ta, int i64 x.tb] : Array Value).all (·.oneCell') = true := by simp [Value.oneCell']
   generalize x.mark = x0 at *; generalize x.kind = x1 at *; generalize x.side = x2 at *; generalize x.dir = x3 at *; generalize x.level = x4 at *; generalize x.size = x5 at *; generalize x.wn = x6 at *; generalize x.fa = x8 at *; generalize x.fb = x9 at *; generalize x.ta = aa at *; generalize x.tb = ab at *; have HONE := qh hone; clear hone gW2; generalize hb3 : blk ma = b3 at *; generalize ho3 : off ma = o3 at *; subst ema; clear hb3 ho3; have st0 : True := trivial
   go_wp2_with (first
    | (have q := st0; clear q st0; refine wpList_load_row rfl 85 _ rfl wr.heap.size rfl 85 #[int i64 x0, int i64 x1, int i64 x2, int i64 x3, int i64 x4, int i64 x5, sv x6, int i64 n1, int i64 x8, int i64 x9, int i64 aa, int i64 ab] (0, 0) _ HG2.out Try.underlying85 rfl (by kernel_rfl) ?_; simp only [Act.put, qD, qE, qF])
    | (go_at_call 88; refine HCX.out.mono ?_; intro e V he; rcases Iw he with ⟨h1, rfl, hb⟩ | ⟨h1, rfl, hb⟩ <;> clear he))
   ·go_roundw
    case rel => exact ⟨j + 1, s, ls, by go_num, by omega, qh (by rw [HA.out, h1]; rfl), qh (Cv HNY.out.1 (Ag HB2.out hb)), qh (HNY.out.2.below (Ag HB2.out hb)), qh (Ag hB.out (Ag HB2.out hb))⟩
    case measure => simp [intOf]; omega
   ·exact HP.out (by rw [HA.out, h1]; rfl) _ _ rfl (Ag hB.out (Ag HB2.out hb))
theorem Pk (k n u : Int) (un : Nm) (ia : Option Addr) (ic l : Nat) (ma : Option Addr) (mc m : Nat) (X : Nat) (Q : Exit → Act → World → Prop) (W : World) (hX : W.heap[X]? = some (.cells #[int i64 k, int i64 n, sv un, int i64 u, .slice ia l ic, .slice ma m mc] 78 (0, 0))) (b : Bool) (C : ∀ V, Below W.heap.size W V → Calls Try.prog 66 #[.slice ia l ic] V (ExP b V)) (ms : List Mov) (ks : List Int) (hml : ms.length = m) (hm1 : ms = [] ∨ ma = some ⟨blk ma, off ma, none⟩) (hm2 : m ≤ maxLen) (hm3 : Bc W (blk ma) (off ma) ms) (hm4 : NsAt W (Aw (blk ma) (off ma) ms) ks) (e0 e1 e2 e4 e5 e6 e7 e8 e9 ea eb ec ed ee ef eg eh ei ej ek el em en eo ep eq er es et eu ev ew ex ey ez eA eB eC eD eE eF eG eH eI eJ eK eL eM eN eO eP eQ eR eS eT eU eV eW eX eY eZ : Value)
  (hN : ((decide (m = 0) || decide (k = 1)) && (ms.all Cn && b)) = true → ∀ (x5 x9 aa ab ac ad ae af ag ah ai aj ak al am an ao ap aq ar au av aw ax ay az aA aB aC aD aE aF aG aH aI aJ aK aL aM aN aO aP aQ aR aS aT aU aV aW aX aY aZ ba bb : Value) (V : World), Below W.heap.size W V → Q .normal { tmps := #[e0, e1, e2, .pointer (some ⟨X, 0, none⟩), e4, x5, e6, e7, e8, x9, aa, ab, ac, ad, ae, af, ag, ah, ai, aj, ak, al, am, an, ao, ap, aq, ar, au, av, aw, ax, ay, az, aA, aB, aC, aD, aE, aF, aG, aH, aI, aJ, aK, aL, aM, aN, aO, aP, aQ, aR, aS, aT, aU, aV, aW, aX, aY, aZ, ba, bb], defers := [] } V)
  (hP : ((decide (m = 0) || decide (k = 1)) && (ms.all Cn && b)) = false → ∀ (a : Act) (V : World), a.defers = [] → Below W.heap.size W V → Q (.panic Bu) a V) :
  (Ab 3 Bd).wp Try.prog Q { tmps := #[e0, e1, e2, .pointer (some ⟨X, 0, none⟩), e4, e5, e6, e7, e8, e9, ea, eb, ec, ed, ee, ef, eg, eh, ei, ej, ek, el, em, en, eo, ep, eq, er, es, et, eu, ev, ew, ex, ey, ez, eA, eB, eC, eD, eE, eF, eG, eH, eI, eJ, eK, eL, eM, eN, eO, eP, eQ, eR, eS, eT, eU, eV, eW, eX, eY, eZ], defers := [] } W := by
 have y0 := Aa hX 0 rfl; have y5 := Aa hX 5 rfl; have HE : Hid ((decide (m = 0) || decide (k = 1)) = true → ∀ (y5 y9 y10 y11 y12 y13 y14 y15 y16 y17 y18 y19 y20 y21 y22 y23 y24 y25 y26 y27 y28 y29 y30 y31 y32 y33 y34 y35 y36 y37 y38 y39 y40 y41 y42 y43 y44 y45 y46 y47 y48 y49 y50 y51 y52 y53 y54 y55 y56 y57 y58 y59 y60 y61 : Value), (Ab 4 Bd).wp Try.prog Q { tmps := #[e0, e1, e2, .pointer (some ⟨X, 0, none⟩), e4, y5, e6, e7, e8, y9, y10, y11, y12, y13, y14, y15, y16, y17, y18, y19, y20, y21, y22, y23, y24, y25, y26, y27, y28, y29, y30, y31, y32, y33, y34, y35, y36, y37, y38, y39, y40, y41, y42, y43, y44, y45, y46, y47, y48, y49, y50, y51, y52, y53, y54, y55, y56, y57, y58, y59, y60, y61], defers := [] } W) := qh fun h y5 y9 y10 y11 y12 y13 y14 y15 y16 y17 y18 y19 y20 y21 y22 y23 y24 y25 y26 y27 y28 y29 y30 y31 y32 y33 y34 y35 y36 y37 y38 y39 y40 y41 y42 y43 y44 y45 y46 y47 y48 y49 y50 y51 y52 y53 y54 y55 y56 y57 y58 y59 y60 y61 => Pm k n u un ia ic l ma mc m X Q W hX b C ms ks hml hm1 hm2 hm3 hm4 e0 e1 e2 e4 y5 e6 e7 e8 y9 y10 y11 y12 y13 y14 y15 y16 y17 y18 y19 y20 y21 y22 y23 y24 y25 y26 y27 y28 y29 y30 y31 y32 y33 y34 y35 y36 y37 y38 y39 y40 y41 y42 y43 y44 y45 y46 y47 y48 y49 y50 y51 y52 y53 y54 y55 y56 y57 y58 y59 y60 y61 (fun h2 => hN (by rw [h, h2]; rfl)) (fun h2 => hP (by rw [h, h2]; rfl))
 have HP : Hid ((decide (m = 0) || decide (k = 1)) = false → ∀ (a : Act), a.defers = [] → Q (.panic Bu) a W) := qh fun h a hd => hP (by rw [h]; rfl) a W hd (Below.refl _ _)
 clear hX hN hP C hml hm1 hm2 hm3 hm4; change Code.wp Try.prog (.seq L5 (Ab 4 Bd)) _ _ _; refine Ac (fun K hK => ?_); have HK := qh hK; clear hK
 conv => arg 2; whnf
 by_cases hm0 : (m : Int) = 0
 ·have hg : (decide (m = 0) || decide (k = 1)) = true := by rw [decide_eq_true (by omega : m = 0)]; rfl
  have HG := qh hg; clear hg
  go_wp2_with (go_at_call 63; first | (refine (Aq _).mono ?_; rintro e w2 ⟨rfl, rfl⟩) | (refine (Al _).mono ?_; unfold Ah; rintro e w2 ⟨rfl, rfl⟩) | (refine (Bv (by simp only [Bool.or_eq_false_iff, beq_eq_false_iff_ne, ne_eq]; omega) _).mono ?_; unfold Ah; rintro e w2 ⟨rfl, rfl⟩)); refine HK.out _ _ ?_; exact HE.out HG.out _ _ _ _ _ _ _ _ _ _ _ _ _ _ _ _ _ _ _ _ _ _ _ _ _ _ _ _ _ _ _ _ _ _ _ _ _ _ _ _ _ _ _ _ _ _ _ _ _ _ _ _ _ _
 ·by_cases hk1 : k = 1
  ·have hg : (decide (m = 0) || decide (k = 1)) = true := by rw [decide_eq_true hk1, Bool.or_true]
   have HG := qh hg; clear hg
   go_wp2_with (go_at_call 63; first | (refine (Aq _).mono ?_; rintro e w2 ⟨rfl, rfl⟩) | (refine (Al _).mono ?_; unfold Ah; rintro e w2 ⟨rfl, rfl⟩) | (refine (Bv (by simp only [Bool.or_eq_false_iff, beq_eq_false_iff_ne, ne_eq]; omega) _).mono ?_; unfold Ah; rintro e w2 ⟨rfl, rfl⟩)); refine HK.out _ _ ?_; exact HE.out HG.out _ _ _ _ _ _ _ _ _ _ _ _ _ _ _ _ _ _ _ _ _ _ _ _ _ _ _ _ _ _ _ _ _ _ _ _ _ _ _ _ _ _ _ _ _ _ _ _ _ _ _ _ _ _
  ·have hg : (decide (m = 0) || decide (k = 1)) = false := by rw [decide_eq_false (by omega : ¬ m = 0), decide_eq_false hk1]; rfl
   have HG := qh hg; clear hg
   go_wp2_with (go_at_call 63; first | (refine (Aq _).mono ?_; rintro e w2 ⟨rfl, rfl⟩) | (refine (Al _).mono ?_; unfold Ah; rintro e w2 ⟨rfl, rfl⟩) | (refine (Bv (by simp only [Bool.or_eq_false_iff, beq_eq_false_iff_ne, ne_eq]; omega) _).mono ?_; unfold Ah; rintro e w2 ⟨rfl, rfl⟩)); refine HP.out HG.out _ ?_
   rfl
theorem Pj (k n u : Int) (un : Nm) (ia : Option Addr) (ic l : Nat) (ma : Option Addr) (mc m : Nat) (X : Nat) (Q : Exit → Act → World → Prop) (W : World) (hX : W.heap[X]? = some (.cells #[int i64 k, int i64 n, sv un, int i64 u, .slice ia l ic, .slice ma m mc] 78 (0, 0))) (b : Bool) (C : ∀ V, Below W.heap.size W V → Calls Try.prog 66 #[.slice ia l ic] V (ExP b V)) (ms : List Mov) (ks : List Int) (hml : ms.length = m) (hm1 : ms = [] ∨ ma = some ⟨blk ma, off ma, none⟩) (hm2 : m ≤ maxLen) (hm3 : Bc W (blk ma) (off ma) ms) (hm4 : NsAt W (Aw (blk ma) (off ma) ms) ks) (e0 e1 e2 e4 e5 e6 e7 e8 e9 ea eb ec ed ee ef eg eh ei ej ek el em en eo ep eq er es et eu ev ew ex ey ez eA eB eC eD eE eF eG eH eI eJ eK eL eM eN eO eP eQ eR eS eT eU eV eW eX eY eZ : Value)
  (hN : ((decide (l = 0) || (decide (k = 2) || decide (k = 3))) && ((decide (m = 0) || decide (k = 1)) && (ms.all Cn && b))) = true → ∀ (x5 x9 aa ab ac ad ae af ag ah ai aj ak al am an ao ap aq ar au av aw ax ay az aA aB aC aD aE aF aG aH aI aJ aK aL aM aN aO aP aQ aR aS aT aU aV aW aX aY aZ ba bb : Value) (V : World), Below W.heap.size W V → Q .normal { tmps := #[e0, e1, e2, .pointer (some ⟨X, 0, none⟩), e4, x5, e6, e7, e8, x9, aa, ab, ac, ad, ae, af, ag, ah, ai, aj, ak, al, am, an, ao, ap, aq, ar, au, av, aw, ax, ay, az, aA, aB, aC, aD, aE, aF, aG, aH, aI, aJ, aK, aL, aM, aN, aO, aP, aQ, aR, aS, aT, aU, aV, aW, aX, aY, aZ, ba, bb], defers := [] } V)
  (hP : ((decide (l = 0) || (decide (k = 2) || decide (k = 3))) && ((decide (m = 0) || decide (k = 1)) && (ms.all Cn && b))) = false → ∀ (a : Act) (V : World), a.defers = [] → Below W.heap.size W V → Q (.panic Bu) a V) :
  (Ab 2 Bd).wp Try.prog Q { tmps := #[e0, e1, e2, .pointer (some ⟨X, 0, none⟩), e4, e5, e6, e7, e8, e9, ea, eb, ec, ed, ee, ef, eg, eh, ei, ej, ek, el, em, en, eo, ep, eq, er, es, et, eu, ev, ew, ex, ey, ez, eA, eB, eC, eD, eE, eF, eG, eH, eI, eJ, eK, eL, eM, eN, eO, eP, eQ, eR, eS, eT, eU, eV, eW, eX, eY, eZ], defers := [] } W := by
 have y0 := Aa hX 0 rfl; have y4 := Aa hX 4 rfl; have HE : Hid ((decide (l = 0) || (decide (k = 2) || decide (k = 3))) = true → ∀ (y5 y9 y10 y11 y12 y13 y14 y15 y16 y17 y18 y19 y20 y21 y22 y23 y24 y25 y26 y27 y28 y29 y30 y31 y32 y33 y34 y35 y36 y37 y38 y39 y40 y41 y42 y43 y44 y45 y46 y47 y48 y49 y50 y51 y52 y53 y54 y55 y56 y57 y58 y59 y60 y61 : Value), (Ab 3 Bd).wp Try.prog Q { tmps := #[e0, e1, e2, .pointer (some ⟨X, 0, none⟩), e4, y5, e6, e7, e8, y9, y10, y11, y12, y13, y14, y15, y16, y17, y18, y19, y20, y21, y22, y23, y24, y25, y26, y27, y28, y29, y30, y31, y32, y33, y34, y35, y36, y37, y38, y39, y40, y41, y42, y43, y44, y45, y46, y47, y48, y49, y50, y51, y52, y53, y54, y55, y56, y57, y58, y59, y60, y61], defers := [] } W) := qh fun h y5 y9 y10 y11 y12 y13 y14 y15 y16 y17 y18 y19 y20 y21 y22 y23 y24 y25 y26 y27 y28 y29 y30 y31 y32 y33 y34 y35 y36 y37 y38 y39 y40 y41 y42 y43 y44 y45 y46 y47 y48 y49 y50 y51 y52 y53 y54 y55 y56 y57 y58 y59 y60 y61 => Pk k n u un ia ic l ma mc m X Q W hX b C ms ks hml hm1 hm2 hm3 hm4 e0 e1 e2 e4 y5 e6 e7 e8 y9 y10 y11 y12 y13 y14 y15 y16 y17 y18 y19 y20 y21 y22 y23 y24 y25 y26 y27 y28 y29 y30 y31 y32 y33 y34 y35 y36 y37 y38 y39 y40 y41 y42 y43 y44 y45 y46 y47 y48 y49 y50 y51 y52 y53 y54 y55 y56 y57 y58 y59 y60 y61 (fun h2 => hN (by rw [h, h2]; rfl)) (fun h2 => hP (by rw [h, h2]; rfl))
 have HP : Hid ((decide (l = 0) || (decide (k = 2) || decide (k = 3))) = false → ∀ (a : Act), a.defers = [] → Q (.panic Bu) a W) := qh fun h a hd => hP (by rw [h]; rfl) a W hd (Below.refl _ _)
 clear hX hN hP C hml hm1 hm2 hm3 hm4; change Code.wp Try.prog (.seq L4 (Ab 3 Bd)) _ _ _; refine Ac (fun K hK => ?_); have HK := qh hK; clear hK
 conv => arg 2; whnf
 by_cases hm0 : (l : Int) = 0
 ·have hg : (decide (l = 0) || (decide (k = 2) || decide (k = 3))) = true := by rw [decide_eq_true (by omega : l = 0)]; rfl
  have HG := qh hg; clear hg
  go_wp2_with (go_at_call 63; first | (refine (Aq _).mono ?_; rintro e w2 ⟨rfl, rfl⟩) | (refine (Al _).mono ?_; unfold Ah; rintro e w2 ⟨rfl, rfl⟩) | (refine (Bv (by simp only [Bool.or_eq_false_iff, beq_eq_false_iff_ne, ne_eq]; omega) _).mono ?_; unfold Ah; rintro e w2 ⟨rfl, rfl⟩)); refine HK.out _ _ ?_; exact HE.out HG.out _ _ _ _ _ _ _ _ _ _ _ _ _ _ _ _ _ _ _ _ _ _ _ _ _ _ _ _ _ _ _ _ _ _ _ _ _ _ _ _ _ _ _ _ _ _ _ _ _ _ _ _ _ _
 ·by_cases hk2 : k = 2
  ·have hg : (decide (l = 0) || (decide (k = 2) || decide (k = 3))) = true := by rw [decide_eq_true hk2, Bool.true_or, Bool.or_true]
   have HG := qh hg; clear hg
   go_wp2_with (go_at_call 63; first | (refine (Aq _).mono ?_; rintro e w2 ⟨rfl, rfl⟩) | (refine (Al _).mono ?_; unfold Ah; rintro e w2 ⟨rfl, rfl⟩) | (refine (Bv (by simp only [Bool.or_eq_false_iff, beq_eq_false_iff_ne, ne_eq]; omega) _).mono ?_; unfold Ah; rintro e w2 ⟨rfl, rfl⟩)); refine HK.out _ _ ?_; exact HE.out HG.out _ _ _ _ _ _ _ _ _ _ _ _ _ _ _ _ _ _ _ _ _ _ _ _ _ _ _ _ _ _ _ _ _ _ _ _ _ _ _ _ _ _ _ _ _ _ _ _ _ _ _ _ _ _
  ·by_cases hk3 : k = 3
   ·have hg : (decide (l = 0) || (decide (k = 2) || decide (k = 3))) = true := by rw [decide_eq_true hk3, Bool.or_true, Bool.or_true]
    have HG := qh hg; clear hg
    go_wp2_with (go_at_call 63; first | (refine (Aq _).mono ?_; rintro e w2 ⟨rfl, rfl⟩) | (refine (Al _).mono ?_; unfold Ah; rintro e w2 ⟨rfl, rfl⟩) | (refine (Bv (by simp only [Bool.or_eq_false_iff, beq_eq_false_iff_ne, ne_eq]; omega) _).mono ?_; unfold Ah; rintro e w2 ⟨rfl, rfl⟩)); refine HK.out _ _ ?_; exact HE.out HG.out _ _ _ _ _ _ _ _ _ _ _ _ _ _ _ _ _ _ _ _ _ _ _ _ _ _ _ _ _ _ _ _ _ _ _ _ _ _ _ _ _ _ _ _ _ _ _ _ _ _ _ _ _ _
   ·have hg : (decide (l = 0) || (decide (k = 2) || decide (k = 3))) = false := by rw [decide_eq_false (by omega : ¬ l = 0), decide_eq_false hk2, decide_eq_false hk3]; rfl
    have HG := qh hg; clear hg
    go_wp2_with (go_at_call 63; first | (refine (Aq _).mono ?_; rintro e w2 ⟨rfl, rfl⟩) | (refine (Al _).mono ?_; unfold Ah; rintro e w2 ⟨rfl, rfl⟩) | (refine (Bv (by simp only [Bool.or_eq_false_iff, beq_eq_false_iff_ne, ne_eq]; omega) _).mono ?_; unfold Ah; rintro e w2 ⟨rfl, rfl⟩)); refine HP.out HG.out _ ?_
    rfl
theorem Pi (k n u : Int) (un : Nm) (ia : Option Addr) (ic l : Nat) (ma : Option Addr) (mc m : Nat) (X : Nat) (Q : Exit → Act → World → Prop) (W : World) (hX : W.heap[X]? = some (.cells #[int i64 k, int i64 n, sv un, int i64 u, .slice ia l ic, .slice ma m mc] 78 (0, 0))) (b : Bool) (C : ∀ V, Below W.heap.size W V → Calls Try.prog 66 #[.slice ia l ic] V (ExP b V)) (ms : List Mov) (ks : List Int) (hml : ms.length = m) (hm1 : ms = [] ∨ ma = some ⟨blk ma, off ma, none⟩) (hm2 : m ≤ maxLen) (hm3 : Bc W (blk ma) (off ma) ms) (hm4 : NsAt W (Aw (blk ma) (off ma) ms) ks) (e0 e1 e2 e4 e5 e6 e7 e8 e9 ea eb ec ed ee ef eg eh ei ej ek el em en eo ep eq er es et eu ev ew ex ey ez eA eB eC eD eE eF eG eH eI eJ eK eL eM eN eO eP eQ eR eS eT eU eV eW eX eY eZ : Value)
  (hN : (DF k n && ((decide (l = 0) || (decide (k = 2) || decide (k = 3))) && ((decide (m = 0) || decide (k = 1)) && (ms.all Cn && b)))) = true → ∀ (x5 x9 aa ab ac ad ae af ag ah ai aj ak al am an ao ap aq ar au av aw ax ay az aA aB aC aD aE aF aG aH aI aJ aK aL aM aN aO aP aQ aR aS aT aU aV aW aX aY aZ ba bb : Value) (V : World), Below W.heap.size W V → Q .normal { tmps := #[e0, e1, e2, .pointer (some ⟨X, 0, none⟩), e4, x5, e6, e7, e8, x9, aa, ab, ac, ad, ae, af, ag, ah, ai, aj, ak, al, am, an, ao, ap, aq, ar, au, av, aw, ax, ay, az, aA, aB, aC, aD, aE, aF, aG, aH, aI, aJ, aK, aL, aM, aN, aO, aP, aQ, aR, aS, aT, aU, aV, aW, aX, aY, aZ, ba, bb], defers := [] } V)
  (hP : (DF k n && ((decide (l = 0) || (decide (k = 2) || decide (k = 3))) && ((decide (m = 0) || decide (k = 1)) && (ms.all Cn && b)))) = false → ∀ (a : Act) (V : World), a.defers = [] → Below W.heap.size W V → Q (.panic Bu) a V) :
  (Ab 1 Bd).wp Try.prog Q { tmps := #[e0, e1, e2, .pointer (some ⟨X, 0, none⟩), e4, e5, e6, e7, e8, e9, ea, eb, ec, ed, ee, ef, eg, eh, ei, ej, ek, el, em, en, eo, ep, eq, er, es, et, eu, ev, ew, ex, ey, ez, eA, eB, eC, eD, eE, eF, eG, eH, eI, eJ, eK, eL, eM, eN, eO, eP, eQ, eR, eS, eT, eU, eV, eW, eX, eY, eZ], defers := [] } W := by
 have y0 := Aa hX 0 rfl; have y1 := Aa hX 1 rfl; have HE : Hid (DF k n = true → ∀ (y5 y9 y10 y11 y12 y13 y14 y15 y16 y17 y18 y19 y20 y21 y22 y23 y24 y25 y26 y27 y28 y29 y30 y31 y32 y33 y34 y35 y36 y37 y38 y39 y40 y41 y42 y43 y44 y45 y46 y47 y48 y49 y50 y51 y52 y53 y54 y55 y56 y57 y58 y59 y60 y61 : Value), (Ab 2 Bd).wp Try.prog Q { tmps := #[e0, e1, e2, .pointer (some ⟨X, 0, none⟩), e4, y5, e6, e7, e8, y9, y10, y11, y12, y13, y14, y15, y16, y17, y18, y19, y20, y21, y22, y23, y24, y25, y26, y27, y28, y29, y30, y31, y32, y33, y34, y35, y36, y37, y38, y39, y40, y41, y42, y43, y44, y45, y46, y47, y48, y49, y50, y51, y52, y53, y54, y55, y56, y57, y58, y59, y60, y61], defers := [] } W) := qh fun h y5 y9 y10 y11 y12 y13 y14 y15 y16 y17 y18 y19 y20 y21 y22 y23 y24 y25 y26 y27 y28 y29 y30 y31 y32 y33 y34 y35 y36 y37 y38 y39 y40 y41 y42 y43 y44 y45 y46 y47 y48 y49 y50 y51 y52 y53 y54 y55 y56 y57 y58 y59 y60 y61 => Pj k n u un ia ic l ma mc m X Q W hX b C ms ks hml hm1 hm2 hm3 hm4 e0 e1 e2 e4 y5 e6 e7 e8 y9 y10 y11 y12 y13 y14 y15 y16 y17 y18 y19 y20 y21 y22 y23 y24 y25 y26 y27 y28 y29 y30 y31 y32 y33 y34 y35 y36 y37 y38 y39 y40 y41 y42 y43 y44 y45 y46 y47 y48 y49 y50 y51 y52 y53 y54 y55 y56 y57 y58 y59 y60 y61 (fun h2 => hN (by rw [h, h2]; rfl)) (fun h2 => hP (by rw [h, h2]; rfl))
 have HP : Hid (DF k n = false → ∀ (a : Act), a.defers = [] → Q (.panic Bu) a W) := qh fun h a hd => hP (by rw [h]; rfl) a W hd (Below.refl _ _)
 clear hX hN hP C hml hm1 hm2 hm3 hm4; change Code.wp Try.prog (.seq L3 (Ab 2 Bd)) _ _ _; refine Ac (fun K hK => ?_); have HK := qh hK; clear hK
 conv => arg 2; whnf
 by_cases hk2 : k = 2
 ·have hg : DF k n = inB n 1 64 := by unfold DF; rw [if_pos hk2]
  obtain ⟨c, hc⟩ : ∃ c, inB n 1 64 = c := ⟨_, rfl⟩; rw [hc] at hg; have HG := qh hg; have HBB := qh hc; clear hg hc
  cases c with
  | true =>
   go_wp2_with (first | (go_at_call 64; refine (Bg _ _ _ _).mono ?_; rw [HBB.out]; rintro e w2 ⟨rfl, rfl⟩) | (go_at_call 63; first | (refine (Aq _).mono ?_; rintro e w2 ⟨rfl, rfl⟩) | (refine (Al _).mono ?_; unfold Ah; rintro e w2 ⟨rfl, rfl⟩) | (refine (Bv (by simp only [Bool.or_eq_false_iff, beq_eq_false_iff_ne, ne_eq]; omega) _).mono ?_; unfold Ah; rintro e w2 ⟨rfl, rfl⟩))); refine HK.out _ _ ?_; exact HE.out HG.out _ _ _ _ _ _ _ _ _ _ _ _ _ _ _ _ _ _ _ _ _ _ _ _ _ _ _ _ _ _ _ _ _ _ _ _ _ _ _ _ _ _ _ _ _ _ _ _ _ _ _ _ _ _
  | false =>
   go_wp2_with (first | (go_at_call 64; refine (Bg _ _ _ _).mono ?_; rw [HBB.out]; rintro e w2 ⟨rfl, rfl⟩) | (go_at_call 63; first | (refine (Aq _).mono ?_; rintro e w2 ⟨rfl, rfl⟩) | (refine (Al _).mono ?_; unfold Ah; rintro e w2 ⟨rfl, rfl⟩) | (refine (Bv (by simp only [Bool.or_eq_false_iff, beq_eq_false_iff_ne, ne_eq]; omega) _).mono ?_; unfold Ah; rintro e w2 ⟨rfl, rfl⟩))); refine HP.out HG.out _ ?_
   rfl
 ·by_cases hn0 : n = 0
  ·have hg : DF k n = true := by unfold DF; rw [if_neg hk2, decide_eq_true hn0]
   have HG := qh hg; clear hg
   go_wp2_with (go_at_call 63; first | (refine (Aq _).mono ?_; rintro e w2 ⟨rfl, rfl⟩) | (refine (Al _).mono ?_; unfold Ah; rintro e w2 ⟨rfl, rfl⟩) | (refine (Bv (by simp only [beq_eq_false_iff_ne, ne_eq]; omega) _).mono ?_; unfold Ah; rintro e w2 ⟨rfl, rfl⟩)); refine HK.out _ _ ?_; exact HE.out HG.out _ _ _ _ _ _ _ _ _ _ _ _ _ _ _ _ _ _ _ _ _ _ _ _ _ _ _ _ _ _ _ _ _ _ _ _ _ _ _ _ _ _ _ _ _ _ _ _ _ _ _ _ _ _
  ·have hg : DF k n = false := by unfold DF; rw [if_neg hk2, decide_eq_false hn0]
   have HG := qh hg; clear hg
   go_wp2_with (go_at_call 63; first | (refine (Aq _).mono ?_; rintro e w2 ⟨rfl, rfl⟩) | (refine (Al _).mono ?_; unfold Ah; rintro e w2 ⟨rfl, rfl⟩) | (refine (Bv (by simp only [beq_eq_false_iff_ne, ne_eq]; omega) _).mono ?_; unfold Ah; rintro e w2 ⟨rfl, rfl⟩)); refine HP.out HG.out _ ?_
   rfl
theorem G5 (T : Lt) (hI : ∀ T' : Lt, T'.size < T.size → ∀ (ia : Option Addr) (ic : Nat) (ns : List Int) (W : World), (T'.len = 0 ∨ ia = some ⟨blk ia, off ia, none⟩) → T'.len ≤ maxLen → T'.At W (blk ia) (off ia) → NsAt W (T'.refsL (blk ia) (off ia)) ns → Calls Try.prog 66 #[.slice ia T'.len ic] W (ExP T'.strip.exB W))
  (ia : Option Addr) (ic : Nat) (ns : List Int) (W : World) (hf : T.len = 0 ∨ ia = some ⟨blk ia, off ia, none⟩) (hl : T.len ≤ maxLen) (hT : T.At W (blk ia) (off ia)) (hN : NsAt W (T.refsL (blk ia) (off ia)) ns) : Calls Try.prog 66 #[.slice ia T.len ic] W (ExP T.strip.exB W) := by
 have HI := qh hI; have HT := qh hT; have HF := qh hf; have HNS := qh hN; clear hI hT hf hN; generalize hn : T.len = m at *; have HN := qh hn; clear hn; unfold maxLen at hl; go_enter Try.func66, Try.ntmps66; go_wp2_with fail; go_loopw [8] (fun iv wr => ∃ (i : Nat) (R : Lt) (ks : List Int), iv = int i64 i ∧ i + R.len = m ∧ Hid (R.size ≤ T.size) ∧ Hid (T.strip.exB = R.strip.exB) ∧ Hid (R.At wr (blk ia) (off ia + i * 6)) ∧ Hid (NsAt wr (R.refsL (blk ia) (off ia + i * 6)) ks) ∧ Hid (Below W.heap.size W wr)) (fun iv _ => m + 1 - (intOf iv).toNat)
 case atStart => exact ⟨0, T, ns, rfl, by rw [HN.out]; omega, qh (qn _), qh rfl, by simpa [Hid] using HT.out, by simpa [Hid] using HNS.out, qh (Below.refl _ _)⟩
 case round =>
  obtain ⟨i, R, ks, rfl, hin, hsz, hex, hR, hK, hB⟩ := hrel
  cases R with
  | nil =>
   simp only [Lt.len, Nat.add_zero] at hin; subst hin; go_wp2_with fail; go_end0; exact ⟨Or.inl ⟨hex.out, rfl⟩, hB.out⟩
  | cons k n un ja jc its ma mc ms r =>
   simp only [Lt.len] at hin; have hi : (i : Int) < (m : Int) := by omega
   have e := HF.out.resolve_left (by omega); obtain ⟨u, g0, g1, g2, g3, g4, g5, m1, m2, m3, hns2, k1, k2, k3⟩ := Lt.At.cells hR.out hK.out; obtain ⟨_, ⟨f1, f2, f3⟩, ⟨i1, i2, i3⟩, hr⟩ := hR.out; have hlt : its.size < T.size := by have := hsz.out; simp only [Lt.size] at this; omega
   have hszr : r.size ≤ T.size := by have := hsz.out; simp only [Lt.size] at this; omega
   obtain ⟨W2, hW2, gW2, bW2, sW2⟩ := Ai wr #[int i64 k, int i64 n, sv un, int i64 u, .slice ja its.len jc, .slice ma ms.length mc] 78; have C := fun (V : World) (hv : Below W2.heap.size W2 V) => HI.out its hlt ja jc m2 V i1 i2 (i3.below (Ag bW2 hv)) (k2.below (Ag bW2 hv))
   have hx : T.strip.exB = (DF k n && ((decide (its.len = 0) || (decide (k = 2) || decide (k = 3))) && ((decide (ms.length = 0) || decide (k = 1)) && ((ms.all Cn && its.strip.exB) && r.strip.exB)))) := by
    rw [hex.out]; simp only [Lt.strip, Its.exB, Lt.strip_len]
   have HC := qh C; have HX := qh hx; have HG2 := qh gW2; have HB2 := qh bW2; have HW2 := qh hW2; have HMV := qh (And.intro f1 (And.intro f2 (And.intro (Cv f3 bW2) (k1.below bW2))))
   have HR : Hid (r.At wr (blk ia) (off ia + (i + 1) * 6) ∧ NsAt wr (r.refsL (blk ia) (off ia + (i + 1) * 6)) m3) := qh (by
    rw [show off ia + (i + 1) * 6 = off ia + i * 6 + 6 by omega]
    exact ⟨hr, k3⟩)
   have hone : (#[int i64 k, int i64 n, sv un, int i64 u, .slice ja its.len jc, .slice ma ms.length mc] : Array Value).all (·.oneCell') = true := by simp [Value.oneCell']
   have HONE := qh hone; have HSZ := qh hszr; clear C hx gW2 bW2 sW2 hW2 f1 f2 f3 i1 i2 i3 hr hlt k1 k2 k3 hns2 hR hK hex hsz hone hszr; generalize hbb : blk ia = bb at *; generalize hoo : off ia = oo at *; subst e; clear hbb hoo HF; refine Ac (fun K1 hK => ?_); have HK1 := qh hK; clear hK; go_wp2_with fail; refine HK1.out _ _ ?_; clear HK1 K1; refine Ac (fun K2 hK => ?_); have HK2 := qh hK; clear hK; go_wp2_with fail; refine HK2.out _ _ ?_; clear HK2 K2; refine Ac (fun K3 hK => ?_); have HK3 := qh hK; clear hK; refine wp_block ?_; refine Ac (fun K4 hK => ?_); have HK4 := qh hK; clear hK; go_wp2_with fail; refine HK4.out _ _ ?_; clear HK4 K4; rw [HW2.out]; change Code.wp Try.prog (Ab 1 Bd) _ _ _; refine Pi k n u un ja jc its.len ma mc ms.length wr.heap.size _ W2 HG2.out its.strip.exB HC.out ms m1 rfl HMV.out.1 HMV.out.2.1 HMV.out.2.2.1 HMV.out.2.2.2 _ _ _ _ _ _ _ _ _ _ _ _ _ _ _ _ _ _ _ _ _ _ _ _ _ _ _ _ _ _ _ _ _ _ _ _ _ _ _ _ _ _ _ _ _ _ _ _ _ _ _ _ _ _ _ _ _ _ _ _ _ (fun hc => ?_) (fun hc => ?_)
   ·intros
    rename_i V hv; refine HK3.out _ _ ?_
    have hx2 : T.strip.exB = r.strip.exB := by
     rw [HX.out]; simp only [Bool.and_eq_true] at hc; obtain ⟨h1, h2, h3, h4⟩ := hc; rw [h1, h2, h3, h4.1, h4.2]
     rfl
    have HX2 := qh hx2; have HV := qh (Ag HB2.out hv); clear hx2 hv hc HX; go_wp2_with fail; go_roundw
    case rel => exact ⟨i + 1, r, m3, by go_num, by omega, HSZ, HX2, qh (HR.out.1.below HV.out), qh (HR.out.2.below HV.out), qh (Ag hB.out HV.out)⟩
    case measure => simp [intOf]; omega
   ·intro a V hd hv
    have hx2 : T.strip.exB = false := by
     rw [HX.out]; generalize its.strip.exB = q1 at hc; generalize r.strip.exB = q2; generalize DF k n = q3 at hc; generalize (decide (its.len = 0) || (decide (k = 2) || decide (k = 3))) = q4 at hc; generalize (decide (ms.length = 0) || decide (k = 1)) = q5 at hc; generalize ms.all Cn = q6 at hc
     revert hc
     cases q1 <;> cases q2 <;> cases q3 <;> cases q4 <;> cases q5 <;> cases q6 <;> decide
    exact ⟨hd, Or.inr ⟨hx2, rfl⟩, Ag hB.out (Ag HB2.out hv)⟩
theorem Lh : ∀ (s : Nat) (T : Lt), T.size ≤ s → ∀ (ia : Option Addr) (ic : Nat) (ns : List Int) (W : World), (T.len = 0 ∨ ia = some ⟨blk ia, off ia, none⟩) → T.len ≤ maxLen → T.At W (blk ia) (off ia) → NsAt W (T.refsL (blk ia) (off ia)) ns → Calls Try.prog 66 #[.slice ia T.len ic] W (ExP T.strip.exB W) := by
 intro s
 induction s with
 | zero => intro T hs; exact G5 T (fun T' hlt => absurd hlt (by omega))
 | succ s ih => intro T hs; exact G5 T (fun T' hlt => ih T' (by omega))
end
section
open Go Go.RowKit
theorem MP (k : Int) (N I G i n c m : Nat) (ks : List Int) (W : World) (hin : i < n) (_hn : n ≤ maxLen) (hN : W.heap[N]? = some (.cells #[.slice (some ⟨G, 0, none⟩) n c] 136 (0, 0))) (hI : W.heap[I]? = some (.cells #[int i64 i] 3 (0, 0))) (hG : W.cell? ⟨G, i, none⟩ = some (.map (some m))) (hS : SetB W m ks) :
  Calls Try.prog 85 #[int i64 k, .pointer (some ⟨N, 0, none⟩), .pointer (some ⟨I, 0, none⟩)] W fun e W' => e = .returned (.tuple #[]) ∧ SetB W' m (AU ks k) ∧ W.grownBy W' (some m) ∧ W'.heap.size = W.heap.size := by
 obtain ⟨W', hrun, h1, h2, h3, h4⟩ := hS.put (P := Try.prog) (T := 137) Try.underlying137 Try.underlying3 k; have y0 := Aa hN 0 rfl; have y1 := Aa hI 0 rfl; unfold maxLen at _hn; have HS : Hid (SetB W' m (AU ks k)) := qh h1; have HG : Hid (W.grownBy W' (some m)) := qh ⟨(h4 0 (Nat.zero_le _)).os, (h4 0 (Nat.zero_le _)).tape, (h4 0 (Nat.zero_le _)).output, Nat.le_of_eq h3.symm, fun c _ hc => h2 c (fun e => hc (by rw [e]))⟩; have HZ := qh h3; clear h1 h2 h3 h4 hN hI hS; have hi : (i : Int) < (n : Int) := by omega
 go_enter Try.func85, Try.ntmps85; go_wp2_with fail; go_end0; exact ⟨rfl, HS.out, HG.out, HZ.out⟩
def Its.uses (f : Nm → Int) : Its → List Int
 | .nil => []
 | .cons k _ un its _ r => (if k = 4 then [f un] else []) ++ (its.uses f ++ r.uses f)
def NumAt (f : Nm → Int) (w : World) (xs : List RefL) : Prop := ∀ x ∈ xs, ∃ n, w.cell? ⟨x.b, x.o + 1, none⟩ = some (int i64 n) ∧ (x.to = 2 → n = f x.nm)
theorem NumAt.ns {f : Nm → Int} {w : World} : ∀ {xs : List RefL}, NumAt f w xs → ∃ ns, NsAt w xs ns
 | [], _ => ⟨[], trivial⟩
 | x :: xs, h => by
  obtain ⟨n, h1, _⟩ := h x (by simp); obtain ⟨ns, h2⟩ := NumAt.ns (xs := xs) (fun y hy => h y (by simp [hy])); exact ⟨n :: ns, h1, h2⟩
def DH (w : World) (m : Nat) : Prop := ∃ es c, w.heap[m]? = some (.map es c)
theorem SetB.isMap {w : World} {m : Nat} {ks : List Int} (h : SetB w m ks) : DH w m := by
 obtain ⟨es, c, h1, _⟩ := h.stamp; exact ⟨es, c, h1⟩
theorem GJ {w : World} {a : Addr} {v : Value} {m : Nat} (h : w.cell? a = some v) (hm : DH w m) : a.block ≠ m := by
 rintro rfl; obtain ⟨es, c, h1⟩ := hm; unfold World.cell? at h; rw [h1] at h; cases h
theorem Bs {w w' : World} {a : Addr} {v : Value} {m : Nat} (h : w.cell? a = some v) (hm : DH w m) (hg : w.grownBy w' (some m)) : w'.cell? a = some v := by
 have := hg.block a.block (BT h) (fun e => GJ h hm (by cases e; rfl)); rw [← h]; unfold World.cell?; rw [this]
theorem BQ {w w' : World} {b m : Nat} {cs : Array Value} {t : TypeId} (h : w.heap[b]? = some (.cells cs t (0, 0))) (hm : DH w m) (hg : w.grownBy w' (some m)) : w'.heap[b]? = some (.cells cs t (0, 0)) :=
 (hg.block b (qs.1 h).1 (fun e => by cases e; obtain ⟨es, c, h1⟩ := hm; rw [h1] at h; cases h)).trans h
theorem NumAt.grown {f : Nm → Int} {w w' : World} {xs : List RefL} {m : Nat} (h : NumAt f w xs) (hm : DH w m) (hg : w.grownBy w' (some m)) : NumAt f w' xs := fun x hx => by
 obtain ⟨n, h1, h2⟩ := h x hx; exact ⟨n, Bs h1 hm hg, h2⟩
theorem NumAt.below {f : Nm → Int} {w w' : World} {xs : List RefL} (h : NumAt f w xs) (hb : Below w.heap.size w w') : NumAt f w' xs := fun x hx => by
 obtain ⟨n, h1, h2⟩ := h x hx; exact ⟨n, Ae hb h1, h2⟩
theorem Lt.At.grown {w w' : World} {T : Lt} {b o m : Nat} (h : T.At w b o) (hm : DH w m) (hg : w.grownBy w' (some m)) : T.At w' b o :=
 h.kept (fun _ _ _ h => Bs h hm hg) (fun _ _ _ _ h => Bs h hm hg)
structure RingC (W : World) (N I G i n c m : Nat) (ks : List Int) : Prop where
 box : W.heap[N]? = some (.cells #[.slice (some ⟨G, 0, none⟩) n c] 136 (0, 0))
 idx : W.heap[I]? = some (.cells #[int i64 i] 3 (0, 0))
 at_ : W.cell? ⟨G, i, none⟩ = some (.map (some m))
 set_ : SetB W m ks
theorem RingC.kept {W W' : World} {N I G i n c m : Nat} {ks ks' : List Int} (h : RingC W N I G i n c m ks) (hg : W.grownBy W' (some m)) (hs : SetB W' m ks') : RingC W' N I G i n c m ks' :=
 ⟨BQ h.box h.set_.isMap hg, BQ h.idx h.set_.isMap hg, Bs h.at_ h.set_.isMap hg, hs⟩
theorem RingC.below {W W' : World} {N I G i n c m : Nat} {ks : List Int} (h : RingC W N I G i n c m ks) (hb : Below W.heap.size W W') : RingC W' N I G i n c m ks :=
 ⟨Am hb h.box, Am hb h.idx, Ae hb h.at_, h.set_.below hb h.set_.lt⟩
theorem LM (k : Int) {N I G i n c m : Nat} {ks : List Int} {W : World} (hin : i < n) (hn : n ≤ maxLen) (h : RingC W N I G i n c m ks) :
  Calls Try.prog 85 #[int i64 k, .pointer (some ⟨N, 0, none⟩), .pointer (some ⟨I, 0, none⟩)] W fun e W' => e = .returned (.tuple #[]) ∧ RingC W' N I G i n c m (AU ks k) ∧ W.grownBy W' (some m) ∧ W'.heap.size = W.heap.size :=
 (MP k N I G i n c m ks W hin hn h.box h.idx h.at_ h.set_).mono fun _ _ ⟨h1, h2, h3, h4⟩ => ⟨h1, h.kept h3 h2, h3, h4⟩
abbrev LB (N I : Nat) : Value := .func (.func 85) #[] #[.pointer (some ⟨N, 0, none⟩), .pointer (some ⟨I, 0, none⟩)]
def NL (f : Nm → Int) (T : Lt) (N I G i n c m : Nat) (ks : List Int) (W : World) (e : Ending) (W' : World) : Prop := e = .returned (.tuple #[]) ∧ RingC W' N I G i n c m ((T.strip.uses f).foldl AU ks) ∧ W.grownBy W' (some m)
theorem NumAt.mov {f : Nm → Int} {w : World} {k n : Int} {un : Nm} {ia : Option Addr} {ic : Nat} {its : Lt} {ma : Option Addr} {mc : Nat} {ms : List Mov} {r : Lt} {b o : Nat} (h : NumAt f w ((Lt.cons k n un ia ic its ma mc ms r).refsL b o)) :
  (∃ u, w.cell? ⟨b, o + 3, none⟩ = some (int i64 u) ∧ (k = 4 → u = f un)) ∧ NumAt f w (Aw (blk ma) (off ma) ms) ∧ NumAt f w (its.refsL (blk ia) (off ia)) ∧ NumAt f w (r.refsL b (o + 6)) := by
 refine ⟨?_, fun x hx => h x (by simp [Lt.refsL, hx]), fun x hx => h x (by simp [Lt.refsL, hx]), fun x hx => h x (by simp [Lt.refsL, hx])⟩; obtain ⟨u, h1, h2⟩ := h ⟨b, o + 2, Bh k, un⟩ (by simp [Lt.refsL]); exact ⟨u, h1, fun hk => h2 (by simp [Bh, hk])⟩
theorem Cb {w w2 w' : World} {m : Nat} (hb : Below w.heap.size w w2) (hg : w2.grownBy w' (some m)) : w.grownBy w' (some m) :=
 ⟨hg.os.trans hb.os, hg.tape.trans hb.tape, hg.output.trans hb.output, Nat.le_trans hb.size hg.size, fun k hk hn => (hg.block k (Nat.lt_of_lt_of_le hk hb.size) hn).trans (hb.block k hk)⟩
theorem B8 {w w2 w' : World} {m : Nat} (hb : w.grownBy w2 (some m)) (hg : w2.grownBy w' (some m)) : w.grownBy w' (some m) :=
 ⟨hg.os.trans hb.os, hg.tape.trans hb.tape, hg.output.trans hb.output, Nat.le_trans hb.size hg.size, fun k hk hn => (hg.block k (Nat.lt_of_lt_of_le hk hb.size) hn).trans (hb.block k hk hn)⟩
theorem Gl (f : Nm → Int) (N I G i n c m : Nat) (hin : i < n) (hn : n ≤ maxLen) (T : Lt)
  (hI : ∀ T' : Lt, T'.size < T.size → ∀ (ia : Option Addr) (ic : Nat) (ks : List Int) (W : World), (T'.len = 0 ∨ ia = some ⟨blk ia, off ia, none⟩) → T'.len ≤ maxLen → T'.At W (blk ia) (off ia) → NumAt f W (T'.refsL (blk ia) (off ia)) → RingC W N I G i n c m ks → Calls Try.prog 84 #[.slice ia T'.len ic, LB N I] W (NL f T' N I G i n c m ks W))
  (ia : Option Addr) (ic : Nat) (ks : List Int) (W : World) (hf : T.len = 0 ∨ ia = some ⟨blk ia, off ia, none⟩) (hl : T.len ≤ maxLen) (hT : T.At W (blk ia) (off ia)) (hU : NumAt f W (T.refsL (blk ia) (off ia))) (hC : RingC W N I G i n c m ks) : Calls Try.prog 84 #[.slice ia T.len ic, LB N I] W (NL f T N I G i n c m ks W) := by
 have HI := qh hI; have HT := qh hT; have HF := qh hf; have HU := qh hU; have HC := qh hC; have CP := fun (k : Int) (ks : List Int) (V : World) (h : RingC V N I G i n c m ks) => LM k hin hn h
 have HCP := qh CP; clear hI hT hf hU hC CP; generalize hm : T.len = q at *; have HM := qh hm; clear hm; unfold maxLen at hl; go_enter Try.func84, Try.ntmps84; go_wp2_with fail; go_loopw [8] (fun iv wr => ∃ (j : Nat) (R : Lt) (us : List Int), iv = int i64 j ∧ j + R.len = q ∧ Hid (R.size ≤ T.size) ∧ Hid ((T.strip.uses f).foldl AU ks = (R.strip.uses f).foldl AU us) ∧ Hid (R.At wr (blk ia) (off ia + j * 6)) ∧ Hid (NumAt f wr (R.refsL (blk ia) (off ia + j * 6))) ∧ Hid (RingC wr N I G i n c m us) ∧ Hid (W.grownBy wr (some m))) (fun iv _ => q + 1 - (intOf iv).toNat)
 case atStart => exact ⟨0, T, ks, rfl, by rw [HM.out]; omega, qh (qn _), qh rfl, by simpa [Hid] using HT.out, by simpa [Hid] using HU.out, HC, qh (World.grownBy.refl _ _)⟩
 case round =>
  obtain ⟨j, R, us, rfl, hin, hsz, hus, hR, hK, hC, hB⟩ := hrel
  cases R with
  | nil =>
   simp only [Lt.len, Nat.add_zero] at hin; subst hin; go_wp2_with fail; go_end0; refine ⟨rfl, ?_, hB.out⟩; rw [hus.out]; exact hC.out
  | cons kk nn un ja jc its ma mc ms r =>
   simp only [Lt.len] at hin; have hi : (j : Int) < (q : Int) := by omega
   have e := HF.out.resolve_left (by omega); obtain ⟨⟨u, g3, hu⟩, _, k2, k3⟩ := hK.out.mov; obtain ⟨⟨g0, g1, g2, g4, g5⟩, _, ⟨i1, i2, i3⟩, hr⟩ := hR.out; have hlt : its.size < T.size := by have := hsz.out; simp only [Lt.size] at this; omega
   have hszr : r.size ≤ T.size := by have := hsz.out; simp only [Lt.size] at this; omega
   obtain ⟨W2, hW2, gW2, bW2, sW2⟩ := Ai wr #[int i64 kk, int i64 nn, sv un, int i64 u, .slice ja its.len jc, .slice ma ms.length mc] 78; have hC2 := hC.out.below bW2; have hg0 := hB.out; have hM2 := hC2.set_.isMap; have hMr := hC.out.set_.isMap
   -- the call of itself, from whatever world behind the box
   have C := fun (V : World) (us : List Int) (hv : W2.grownBy V (some m)) (hc : RingC V N I G i n c m us) => HI.out its hlt ja jc us V i1 i2 ((i3.below bW2).grown hM2 hv) ((k2.below bW2).grown hM2 hv) hc
   have HC' := qh C
   have hx : (T.strip.uses f).foldl AU ks = (r.strip.uses f).foldl AU ((its.strip.uses f).foldl AU ((if kk = 4 then [f un] else []).foldl AU us)) := by
    rw [hus.out]; simp only [Lt.strip, Its.uses, List.foldl_append]
   have HX := qh hx
   have HR : Hid (r.At wr (blk ia) (off ia + (j + 1) * 6) ∧ NumAt f wr (r.refsL (blk ia) (off ia + (j + 1) * 6))) := qh (by
    rw [show off ia + (j + 1) * 6 = off ia + j * 6 + 6 by omega]
    exact ⟨hr, k3⟩)
   have y0 := Aa gW2 0 rfl; have y3 := Aa gW2 3 rfl; have y4 := Aa gW2 4 rfl; have HG2 := qh gW2; have HB2 := qh bW2; have HC2 := qh hC2; have HM2 := qh hM2; have HSZ := qh hszr; have HMr := qh hMr; clear C hx gW2 bW2 sW2 i1 i2 i3 hr hlt k2 k3 hR hK hus hsz hszr hC2 hM2 hMr hg0 hC; generalize hbb : blk ia = bb at *; generalize hoo : off ia = oo at *; subst e; clear hbb hoo HF; by_cases h4 : kk = 4
   ·subst h4
    have hu' := hu rfl; have HU' := qh hu'; have HX2 : Hid ((T.strip.uses f).foldl AU ks = (r.strip.uses f).foldl AU ((its.strip.uses f).foldl AU (AU us u))) := qh (by rw [HX.out, if_pos rfl, ← hu']; rfl); clear hu' hu
    go_wp2_with (first
     | (go_at_call 85; refine (HCP.out _ _ _ HC2.out).mono ?_; rintro e V ⟨rfl, hv1, hv2, hv3⟩; have HV1 := qh hv1; have HV2 := qh hv2; have z4 := Bs y4 HM2.out hv2; clear hv1 hv2 hv3)
     | (go_at_call 84; refine (HC'.out _ _ HV2.out HV1.out).mono ?_; rintro e V2 ⟨rfl, hv4, hv5⟩; have HV4 := qh hv4; have HV5 := qh hv5; clear hv4 hv5))
    have hgr := Cb HB2.out (B8 HV2.out HV5.out); go_roundw
    case rel => exact ⟨j + 1, r, _, by go_num, by omega, HSZ, HX2, qh (HR.out.1.grown HMr.out hgr), qh (HR.out.2.grown HMr.out hgr), HV4, qh (B8 hB.out hgr)⟩
    case measure => simp [intOf]; omega
   ·have HX2 : Hid ((T.strip.uses f).foldl AU ks = (r.strip.uses f).foldl AU ((its.strip.uses f).foldl AU us)) := qh (by rw [HX.out, if_neg h4]; rfl)
    clear hu
    go_wp2_with (first
     | (go_at_call 84; refine (HC'.out _ _ (World.grownBy.refl _ _) HC2.out).mono ?_; rintro e V2 ⟨rfl, hv4, hv5⟩; have HV4 := qh hv4; have HV5 := qh hv5; clear hv4 hv5))
    have hgr := Cb HB2.out HV5.out; go_roundw
    case rel => exact ⟨j + 1, r, _, by go_num, by omega, HSZ, HX2, qh (HR.out.1.grown HMr.out hgr), qh (HR.out.2.grown HMr.out hgr), HV4, qh (B8 hB.out hgr)⟩
    case measure => simp [intOf]; omega
theorem M7 (f : Nm → Int) (N I G i n c m : Nat) (hin : i < n) (hn : n ≤ maxLen) : ∀ (s : Nat) (T : Lt), T.size ≤ s → ∀ (ia : Option Addr) (ic : Nat) (ks : List Int) (W : World), (T.len = 0 ∨ ia = some ⟨blk ia, off ia, none⟩) → T.len ≤ maxLen → T.At W (blk ia) (off ia) → NumAt f W (T.refsL (blk ia) (off ia)) → RingC W N I G i n c m ks → Calls Try.prog 84 #[.slice ia T.len ic, LB N I] W (NL f T N I G i n c m ks W) := by
 intro s
 induction s with
 | zero => intro T hs; exact Gl f N I G i n c m hin hn T (fun T' hlt => absurd hlt (by omega))
 | succ s ih => intro T hs; exact Gl f N I G i n c m hin hn T (fun T' hlt => ih T' (by omega))
end
section
open Go Go.RowKit
theorem Mw : (Try.prog.info? 137).map (fun i => (i.zero, i.size, i.bytes)) = some (some (.map none), 1, 8) := by kernel_rfl
theorem Oh (v : Value) (n : Nat) : madeCells #[v] n = (List.replicate n v).toArray := by
 unfold madeCells; apply Array.ext
 ·simp
 ·intro j h1 h2
  simp [Nat.mod_one]
theorem JQ (m : Nat) (hm : m ≤ 1000) (w : World) : (Instr.makeSlice 136 (int i64 m) (int i64 m)).run Try.prog w = .ok (.slice (some ⟨w.heap.size, 0, none⟩) m m) (w.alloc (.cells (Array.replicate m (.map none)) 137)) := by
 obtain ⟨i, h1, h2, h3, h4⟩ := info_parts Mw; have h := run_make (P := Try.prog) w 136 137 i (.map none) Try.underlying136 h1 h2 .i64 .i64 m m (by omega) (Int.le_refl _) (by rw [h4]; omega) (by omega); rw [h, h3]; simp [Value.cells, Oh]
def Ew (n : Nat) (ms : List Nat) : Array Value := ((List.range n).map fun j => Value.map ms[j]?).toArray
theorem Ki (n : Nat) : Array.replicate n (Value.map none) = Ew n [] := by
 unfold Ew; apply Array.ext
 ·simp
 ·intro j h1 h2
  simp
theorem CT {n : Nat} (ms : List Nat) {j : Nat} (h : j < n) : (Ew n ms)[j]? = some (.map ms[j]?) := by
 unfold Ew; simp [h]
theorem Ex (n : Nat) (ms : List Nat) : (Ew n ms).size = n := by simp [Ew]
theorem Kh (n : Nat) (ms : List Nat) (m : Nat) (h : ms.length < n) : (Ew n ms).setIfInBounds ms.length (.map (some m)) = Ew n (ms ++ [m]) := by
 apply Array.ext
 ·simp [Ex]
 ·intro j h1 h2
  have hj : j < n := by simpa [Ex] using h2
  have e2 : (Ew n (ms ++ [m]))[j]? = some (.map (ms ++ [m])[j]?) := CT _ hj
  have e1 : ((Ew n ms).setIfInBounds ms.length (.map (some m)))[j]? = some (.map (ms ++ [m])[j]?) := by
   rw [Array.getElem?_setIfInBounds]; by_cases he : ms.length = j
   ·rw [if_pos he, if_pos (by rw [Ex]; omega)]
    subst he; simp
   ·rw [if_neg he, CT ms hj]
    rcases Nat.lt_or_ge j ms.length with h3 | h3
    ·rw [List.getElem?_append_left h3]
    ·rw [List.getElem?_append_right h3, List.getElem?_eq_none h3, List.getElem?_eq_none (by simp; omega)]
  rw [Array.getElem?_eq_getElem h1] at e1; rw [Array.getElem?_eq_getElem h2] at e2; exact Option.some.inj (e1.trans e2.symm)
structure RgS (s : Ls) (f : Nm → Int) (B : Nat) (W : World) : Prop where
 at_ : s.At W
 box : W.heap[B]? = some (.cells s.cells 30 (0, 0))
 nums : NumAt f W (Ay s.phrases)
theorem RgS.below {s : Ls} {f : Nm → Int} {B : Nat} {W W' : World} (h : RgS s f B W) (hb : Below W.heap.size W W') : RgS s f B W' := ⟨h.at_.below hb, Am hb h.box, h.nums.below hb⟩
def Ls.nexts (s : Ls) (f : Nm → Int) : List (List Int) := s.phrases.map fun p => (p.its.strip.uses f).foldl AU []
structure NextW (w W : World) (N G n : Nat) (kss : List (List Int)) (ms : List Nat) : Prop where
 below : Below w.heap.size w W
 lowN : w.heap.size ≤ N
 lowG : w.heap.size ≤ G
 box : W.heap[N]? = some (.cells #[.slice (some ⟨G, 0, none⟩) n n] 136 (0, 0))
 row : W.heap[G]? = some (.cells (Ew n ms) 137 (0, 0))
 len : ms.length ≤ n
 low : ∀ m ∈ ms, w.heap.size ≤ m
 sets : ∀ (j m : Nat) (ks : List Int), ms[j]? = some m → kss[j]? = some ks → SetB W m ks
 apart : ms.Nodup
theorem NextW.keep {w W W' : World} {N G n : Nat} {kss : List (List Int)} {ms : List Nat} (h : NextW w W N G n kss ms) (hb : Below W.heap.size W W') : NextW w W' N G n kss ms :=
 ⟨Ag h.below hb, h.lowN, h.lowG, Am hb h.box, Am hb h.row, h.len, h.low, fun j m ks h1 h2 => (h.sets j m ks h1 h2).below hb (h.sets j m ks h1 h2).lt, h.apart⟩
theorem Br {W : World} {G i : Nat} {cs : Array Value} {t : TypeId} (v : Value) (h : W.heap[G]? = some (.cells cs t (0, 0))) : (W.setCell ⟨G, i, none⟩ v).heap[G]? = some (.cells (cs.setIfInBounds i v) t (0, 0)) := by
 simp only [World.setCell, Array.getElem?_modify, h, if_true, Option.map_some]
 rfl
theorem Aj {W : World} {G i c : Nat} (v : Value) (h : c ≠ G) : (W.setCell ⟨G, i, none⟩ v).heap[c]? = W.heap[c]? := by
 simp only [World.setCell, Array.getElem?_modify]; rw [if_neg (fun e => h e.symm)]
theorem Ei {W : World} (a : Addr) (v : Value) : (W.setCell a v).heap.size = W.heap.size := by simp [World.setCell]
theorem LH {W : World} {G : Nat} {cs : Array Value} {t : TypeId} (h : W.heap[G]? = some (.cells cs t (0, 0))) {m : Nat} (hm : DH W m) : m ≠ G := by
 rintro rfl; obtain ⟨es, c, h1⟩ := hm; rw [h] at h1; cases h1
theorem NextW.lay {w wr W2 W3 W4 : World} {N G n : Nat} {kss : List (List Int)} {ms : List Nat} (h : NextW w wr N G n kss ms) (hb : Below wr.heap.size wr W2) (h3 : W2.alloc (.map #[] 0) = W3) (h4 : W3.setCell ⟨G, ms.length, none⟩ (.map (some W2.heap.size)) = W4) (hlt : ms.length < n) :
  Below w.heap.size w W4 ∧ W4.heap[G]? = some (.cells (Ew n (ms ++ [W2.heap.size])) 137 (0, 0)) ∧ W4.heap[N]? = some (.cells #[.slice (some ⟨G, 0, none⟩) n n] 136 (0, 0)) ∧ SetB W4 W2.heap.size [] ∧ (∀ c, c < W2.heap.size → c ≠ G → W4.heap[c]? = W2.heap[c]?) ∧ W4.heap.size = W2.heap.size + 1 := by
 have b3 : Below W2.heap.size W2 W3 := by rw [← h3]; exact (Below.refl _ _).alloc (qn _) _
 have hG2 := Am hb h.row; have hN2 := Am hb h.box
 have hGN : N ≠ G := by
  rintro e; rw [e] at hN2; rw [hG2] at hN2; injection hN2 with e1; injection e1 with e1 e2; cases e2
 have hG3 := Am b3 hG2; have hGl : G < W2.heap.size := (qs.1 hG2).1; have hb2 := Ag h.below hb; have hs3 : SetB W3 W2.heap.size [] := by rw [← h3]; exact SetB.new W2
 refine ⟨?_, ?_, ?_, ?_, fun c h1 h2 => ?_, ?_⟩
 ·rw [← h4]
  exact (Ag hb2 b3).setCell (p := ⟨G, ms.length, none⟩) h.lowG _
 ·rw [← h4, Br _ hG3, Kh n ms _ hlt]
 ·rw [← h4, Aj _ hGN]; exact Am b3 hN2
 ·refine hs3.of_block ?_
  rw [← h4, Aj _ (by omega)]
 ·rw [← h4, Aj _ h2]; exact b3.block c h1
 ·rw [← h4, Ei, ← h3]; simp
theorem NextW.step {w wr W2 W4 V : World} {N G n : Nat} {kss : List (List Int)} {ms : List Nat} {ks : List Int} (h : NextW w wr N G n kss ms) (hb : Below wr.heap.size wr W2) (hlt : ms.length < n)
  (h4 : Below w.heap.size w W4 ∧ W4.heap[G]? = some (.cells (Ew n (ms ++ [W2.heap.size])) 137 (0, 0)) ∧ W4.heap[N]? = some (.cells #[.slice (some ⟨G, 0, none⟩) n n] 136 (0, 0)) ∧ SetB W4 W2.heap.size [] ∧ (∀ c, c < W2.heap.size → c ≠ G → W4.heap[c]? = W2.heap[c]?) ∧ W4.heap.size = W2.heap.size + 1)
  (hg : W4.grownBy V (some W2.heap.size)) (hs : SetB V W2.heap.size ks) (hk : kss[ms.length]? = some ks) : NextW w V N G n kss (ms ++ [W2.heap.size]) := by
 obtain ⟨q1, q2, q3, q4, q5, q6⟩ := h4; have hm := q4.isMap; have hlow : w.heap.size ≤ W2.heap.size := Nat.le_trans h.below.size hb.size; refine ⟨q1.grown hg (by omega) (fun k hk => by cases hk; exact hlow), h.lowN, h.lowG, BQ q3 hm hg, BQ q2 hm hg, by simp; omega, fun m hmm => ?_, fun j m ks' h1 h2 => ?_, ?_⟩
 ·rcases List.mem_append.1 hmm with hmm | hmm
  ·exact h.low m hmm
  ·simp at hmm; omega
 ·rcases Nat.lt_or_ge j ms.length with hj | hj
  ·rw [List.getElem?_append_left hj] at h1
   have hsj := h.sets j m ks' h1 h2; have hmG : m ≠ G := LH h.row hsj.isMap; have hml := hsj.lt; have hb2 := hb.block m hml; refine (hsj.of_block hb2).of_block ?_; have hml2 : m < W2.heap.size := Nat.lt_of_lt_of_le hml hb.size; rw [hg.block m (by omega) (fun e => by cases e; omega), q5 m hml2 hmG]
  ·have : j = ms.length := by
    have := (ql.1 h1).1; simp at this; omega
   subst this; rw [List.getElem?_append_right (qn _)] at h1; simp at h1; subst h1; rw [hk] at h2; cases h2; exact hs
 ·rw [List.nodup_append]
  refine ⟨h.apart, by simp, fun a ha b hb' => ?_⟩; simp at hb'; subst hb'; rintro rfl; obtain ⟨j, hj⟩ := List.getElem?_of_mem ha
  obtain ⟨ks', hks⟩ : ∃ ks', kss[j]? = some ks' := ⟨_, qg (by
   have := (ql.1 hj).1; have := (ql.1 hk).1
   omega)⟩
  have := (h.sets j _ ks' hj hks).lt; have := hb.size; omega
noncomputable def BV : Code := (Try.f61.body).getD .skip
noncomputable def KZ : Code := match Ab 0 BV with
 | .seq a _ => a
 | c => c
noncomputable def L2 : Code := match Ab 1 BV with
 | .seq a _ => a
 | c => c
noncomputable def elem61n2 : Code := match Ab 2 BV with
 | .seq a _ => a
 | c => c
noncomputable def H8 : Code := match Ab 3 BV with
 | .seq a _ => a
 | c => c
theorem MX : Ab 1 BV = .seq L2 (Ab 2 BV) := rfl
theorem MY : Ab 2 BV = .seq elem61n2 (Ab 3 BV) := rfl
theorem MZ : Ab 3 BV = .seq H8 (Ab 4 BV) := rfl
theorem CR : ∀ {ps : List Ph} {i : Nat} {p : Ph} {x : RefL}, ps[i]? = some p → x ∈ p.its.refsL (blk p.ia) (off p.ia) → x ∈ Ay ps
 | [], _, _, _, h, _ => by cases h
 | q :: r, 0, p, x, h, hx => by cases h; exact List.mem_append.2 (Or.inl hx)
 | q :: r, i + 1, p, x, h, hx => List.mem_append.2 (Or.inr (CR (ps := r) (i := i) (by simpa using h) hx))
theorem Pv (s : Ls) (f : Nm → Int) (B N G : Nat) (w W : World) (hs : RgS s f B w) (hn : s.phrases.length ≤ 1000) (hW : NextW w W N G s.phrases.length (s.nexts f) []) (Q : Exit → Act → World → Prop) (e0 e2 e4 e5 e6 e7 e8 e9 ea eb ec ed ee ef eg eh ei ej ek el em en eo ep eq er es et eu ev ew ex ey ez eA eB eC eD eE eF eG eH eI eJ eK eL eM eN eO eP eQ eR eS eT eU eV eW eX eY eZ aa ab ac ad ae af ag ah ai aj ak al am an ao ap aq ar au av aw ax ay az aA aB aC aD aE aF aG aH aI aJ aK aL aM aN aO aP aQ aR aS aT aU aV aW aX aY aZ ba bb bc bd be bf bg bh bi bj bk bl bm bn bo bp bq br bs bt bu bv bw bx bz bA bB bC bD bE bF bG bH bI bJ bK bL bM bN : Value)
  (hK : ∀ (ms : List Nat) (x4 x5 x6 x7 x8 x9 bO bP bQ bR bS bT bU bV bW bX bY bZ ca cb cc cd ce cf cg ch ci cj ck cl cm cn co cp cq cr cs ct cu cv cw cx cy cz cA cB cC cD cE cF cG cH cI cJ cK cL cM cN cO cP cQ cR cS cT cU cV cW cX cY cZ da db dc dd de df dg dh di dj dk dl dm dn dp dq dr ds dt du dv dw dx dy dz dA dB dC dD dE dF dG dH dI dJ dK dL dM dN dO dP dQ dR dS dT dU dV dW dX dY dZ fd fe ff fg fh fi fj fk fl fm fn fp fq fr fs ft fu fv fw fx fy fz fA fB fC fD : Value) (V : World), NextW w V N G s.phrases.length (s.nexts f) ms → ms.length = s.phrases.length → Q .normal { tmps := #[e0, .pointer (some ⟨B, 0, none⟩), e2, .pointer (some ⟨N, 0, none⟩), x4, x5, x6, x7, x8, x9, bO, bP, bQ, bR, bS, bT, bU, bV, bW, bX, bY, bZ, ca, cb, cc, cd, ce, cf, cg, ch, ci, cj, ck, cl, cm, cn, co, cp, cq, cr, cs, ct, cu, cv, cw, cx, cy, cz, cA, cB, cC, cD, cE, cF, cG, cH, cI, cJ, cK, cL, cM, cN, cO, cP, cQ, cR, cS, cT, cU, cV, cW, cX, cY, cZ, da, db, dc, dd, de, df, dg, dh, di, dj, dk, dl, dm, dn, dp, dq, dr, ds, dt, du, dv, dw, dx, dy, dz, dA, dB, dC, dD, dE, dF, dG, dH, dI, dJ, dK, dL, dM, dN, dO, dP, dQ, dR, dS, dT, dU, dV, dW, dX, dY, dZ, fd, fe, ff, fg, fh, fi, fj, fk, fl, fm, fn, fp, fq, fr, fs, ft, fu, fv, fw, fx, fy, fz, fA, fB, fC, fD], defers := [] } V) :
  elem61n2.wp Try.prog Q { tmps := #[e0, .pointer (some ⟨B, 0, none⟩), e2, .pointer (some ⟨N, 0, none⟩), e4, e5, e6, e7, e8, e9, ea, eb, ec, ed, ee, ef, eg, eh, ei, ej, ek, el, em, en, eo, ep, eq, er, es, et, eu, ev, ew, ex, ey, ez, eA, eB, eC, eD, eE, eF, eG, eH, eI, eJ, eK, eL, eM, eN, eO, eP, eQ, eR, eS, eT, eU, eV, eW, eX, eY, eZ, aa, ab, ac, ad, ae, af, ag, ah, ai, aj, ak, al, am, an, ao, ap, aq, ar, au, av, aw, ax, ay, az, aA, aB, aC, aD, aE, aF, aG, aH, aI, aJ, aK, aL, aM, aN, aO, aP, aQ, aR, aS, aT, aU, aV, aW, aX, aY, aZ, ba, bb, bc, bd, be, bf, bg, bh, bi, bj, bk, bl, bm, bn, bo, bp, bq, br, bs, bt, bu, bv, bw, bx, bz, bA, bB, bC, bD, bE, bF, bG, bH, bI, bJ, bK, bL, bM, bN], defers := [] } W := by
 generalize hm : s.phrases.length = n at *; have y9 : W.cell? ⟨B, 10, none⟩ = some (.slice s.fa s.phrases.length s.fc) := Aa (Am hW.below hs.box) 10 rfl; rw [hm] at y9; have HS := qh hs; have HW := qh hW; have HK := qh hK; have HM := qh hm; clear hs hW hK hm
 conv => arg 2; whnf
 go_wp2_with fail; go_loopw [27] (fun iv wr => ∃ (i : Nat) (ms : List Nat), iv = int i64 i ∧ i ≤ n ∧ Hid (ms.length = i) ∧ Hid (NextW w wr N G n (s.nexts f) ms)) (fun iv _ => n + 1 - (intOf iv).toNat)
 case atStart => exact ⟨0, [], rfl, Nat.zero_le _, qh rfl, HW⟩
 case round =>
  obtain ⟨i, ms, rfl, hin, hL, hWr⟩ := hrel; by_cases hlt : i < n
  ·have hi : (i : Int) < (n : Int) := by omega
   obtain ⟨p, hp⟩ : ∃ p, s.phrases[i]? = some p := ⟨_, qg (by rw [HM.out]; exact hlt)⟩; have hS := HS.out.below hWr.out.below; obtain ⟨c0, c1⟩ := CO hS.at_.phrases hp; have hfa := hS.at_.pform.resolve_left (fun e => by rw [e] at hp; cases hp); obtain ⟨hp1, hp2, hp3⟩ := CQ hS.at_.phrases hp; have hpn : NumAt f wr (p.its.refsL (blk p.ia) (off p.ia)) := fun x hx => hS.nums x (CR hp hx)
   unfold Ph.val at c1
   -- the worlds up to the call
   obtain ⟨W1, hW1, gW1, bW1, sW1⟩ := Ai wr #[int i64 i] 3; obtain ⟨W2, hW2, gW2, bW2, sW2⟩ := Ai W1 #[sv p.name, .slice p.ia p.its.len p.ic] 57; obtain ⟨W3, hW3⟩ : ∃ W3, W2.alloc (.map #[] 0) = W3 := ⟨_, rfl⟩; have hb2 := Ag bW1 bW2; obtain ⟨W4, hW4⟩ : ∃ W4, W3.setCell ⟨G, i, none⟩ (.map (some W2.heap.size)) = W4 := ⟨_, rfl⟩; have hl := hL.out; have hlay := hWr.out.lay (W4 := W4) hb2 hW3 (by rw [hl]; exact hW4) (by omega); have hstep := fun V ks => hWr.out.step (V := V) (ks := ks) hb2 (by omega) hlay
   obtain ⟨q1, q2, q3, q4, q5, q6⟩ := id hlay; have hkss : (s.nexts f)[ms.length]? = some ((p.its.strip.uses f).foldl AU []) := by unfold Ls.nexts; rw [hl, List.getElem?_map, hp]; rfl
   -- facts of the worlds
   have z2N : W2.cell? ⟨N, 0, none⟩ = some (.slice (some ⟨G, 0, none⟩) n n) := Aa (Am hb2 hWr.out.box) 0 rfl; have z2I : W2.cell? ⟨wr.heap.size, 0, none⟩ = some (int i64 i) := Aa (Am bW2 gW1) 0 rfl; have b3 : Below W2.heap.size W2 W3 := by rw [← hW3]; exact (Below.refl _ _).alloc (qn _) _
   have z3G : W3.frozen? ⟨G, i, none⟩ = false := (show FreeB W3 G from ⟨_, _, Am b3 (Am hb2 hWr.out.row)⟩).free i
   have z3c : W3.cell? ⟨G, i, none⟩ = some (.map none) := by
    have := Aa (Am b3 (Am hb2 hWr.out.row)) i (CT ms hlt)
    rwa [List.getElem?_eq_none (by rw [hl]; exact qn _)] at this
   have hIG : wr.heap.size ≠ G := by have := (qs.1 hWr.out.row).1; omega
   have hAG : W1.heap.size ≠ G := by have := (qs.1 hWr.out.row).1; omega
   have gI4 : W4.heap[wr.heap.size]? = some (.cells #[int i64 i] 3 (0, 0)) := (q5 _ (by omega) hIG).trans (Am bW2 gW1); have gA4 := (q5 _ (by omega) hAG).trans gW2; have z4A : W4.cell? ⟨W1.heap.size, 1, none⟩ = some (.slice p.ia p.its.len p.ic) := Aa gA4 1 rfl; have hRC : RingC W4 N wr.heap.size G i n n W2.heap.size [] := ⟨q3, gI4, by rw [Aa q2 i (CT _ hlt)]; rw [← hl]; simp, q4⟩
   have hkeep : ∀ a v, wr.cell? a = some v → a.block < w.heap.size → W4.cell? a = some v := fun a v h1 h2 => by
    have e1 : W4.heap[a.block]? = wr.heap[a.block]? := (q1.block _ h2).trans (hWr.out.below.block _ h2).symm; rw [← h1]; unfold World.cell?; rw [e1]
   have hits : p.its.At W4 (blk p.ia) (off p.ia) := (CQ (HS.out.below q1).at_.phrases hp).2.2; have hnum : NumAt f W4 (p.its.refsL (blk p.ia) (off p.ia)) := fun x hx => (HS.out.below q1).nums x (CR hp hx)
   have C := M7 f N wr.heap.size G i n n W2.heap.size hlt (by unfold maxLen; omega) _ p.its (qn _) p.ia p.ic [] W4 hp1 hp2 hits hnum hRC; have HC := qh C; have HST := qh hstep; have HKS := qh hkss; have hmm := @run_makeMap Try.prog; clear C hstep hkss hits hnum hkeep hRC gI4 gA4 hIG hAG q1 q2 q3 q4 q5 q6 hlay hb2 bW1 bW2 gW1 gW2 b3 hpn hp1 hp2 hp3 hS; generalize hga : s.fa = fa at *; have HGA := qh hga; clear hga; generalize hbb : blk fa = fb at *; generalize hoo : off fa = fo at *; subst hfa; clear hbb hoo; have sW2' : W2.heap.size = wr.heap.size + 2 := by omega
   have HW1 := qh hW1; have HW2 := qh hW2; have HW3 := qh hW3; have HW4 := qh hW4; have HSW := qh sW1; have HZ := qh (And.intro z2N (And.intro z2I (And.intro z3G (And.intro z3c z4A)))); clear sW1 sW2 hl hW1 hW2 hW3 hW4 z2N z2I z3G z3c z4A sW2'; refine Ac (fun K1 hK => ?_); have HK1 := qh hK; clear hK; go_wp2_with fail; refine HK1.out _ _ ?_; clear HK1 K1; refine Ac (fun K2 hK => ?_); have HK2 := qh hK; clear hK; go_wp2_with fail; refine HK2.out _ _ ?_; clear HK2 K2; refine Ac (fun K3 hK => ?_); have HK3 := qh hK; clear hK; refine wp_block ?_; refine Ac (fun K4 hK => ?_); have HK4 := qh hK; clear hK; go_wp2_with fail; refine HK4.out _ _ ?_; clear HK4 K4; rw [HW1.out, HW2.out, ← HSW.out]; have hW3 := HW3.out; have hW4 := HW4.out; obtain ⟨z2N, z2I, z3G, z3c, z4A⟩ := HZ.out; clear HW1 HW2 HZ HW3 HW4
   go_wp2_with (first
    | (go_at_call 84; refine HC.out.mono ?_; rintro e V ⟨rfl, hv1, hv2⟩; have HV := qh (HST.out V _ hv2 hv1.set_ HKS.out); clear hv1 hv2))
   refine HK3.out _ _ ?_; clear HK3 K3 hW3 hW4 z2N z2I z3G z3c z4A; go_wp2_with fail; go_roundw
   case rel => exact ⟨i + 1, _, by go_num, by omega, qh (by have := hL.out; simp; omega), HV⟩
   case measure => simp [intOf]; omega
  ·have : i = n := by omega
   subst this; have hz : ¬ (i : Int) < (i : Int) := by omega
   go_wp2_with fail; exact HK.out ms _ _ _ _ _ _ _ _ _ _ _ _ _ _ _ _ _ _ _ _ _ _ _ _ _ _ _ _ _ _ _ _ _ _ _ _ _ _ _ _ _ _ _ _ _ _ _ _ _ _ _ _ _ _ _ _ _ _ _ _ _ _ _ _ _ _ _ _ _ _ _ _ _ _ _ _ _ _ _ _ _ _ _ _ _ _ _ _ _ _ _ _ _ _ _ _ _ _ _ _ _ _ _ _ _ _ _ _ _ _ _ _ _ _ _ _ _ _ _ _ _ _ _ _ _ _ _ _ _ _ _ _ _ _ _ _ _ _ _ _ _ _ _ _ _ _ _ wr hWr.out hL.out
end
end Go.Proofs.Ytpnbpepkoekkoaa
