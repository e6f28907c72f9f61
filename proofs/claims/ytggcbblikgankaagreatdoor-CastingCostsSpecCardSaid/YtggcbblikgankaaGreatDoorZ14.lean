/- Contracts and plain laws on the way to the statement: part 14. -/
import Derived.Test.YtggcbblikgankaaGreatDoorZ13
import Derived.Deep.RegionWith
import Derived.Deep.RegionHeld3
import Derived.Deep.QuietTactic
import Derived.BigQuiet
import Derived.KernelRfl
import Derived.StillTailTactics
import Derived.Test.YtggcbblikgankaaGreatDoorZ3
set_option linter.unusedVariables false
set_option linter.unusedSimpArgs false
set_option maxRecDepth 100000
set_option maxHeartbeats 16000000
namespace Go.Proofs.YtggcbblikgankaaGreatDoor
open Go.Value (int)
open Go.IntKind (i64)
section
open Go.RowKit
theorem A0 {w : World} {g : Nat} {xs : Array Value} {t : TypeId} {f : Nat × Nat} {v : Value} (h : w.heap[g]? = some (.cells xs t f)) (r : Nat) (hv : xs[r]? = some v) : w.cell? ⟨g, r, none⟩ = some v := by
 rw [← hv]; simp [World.cell?, h]
theorem PB {n d : Int} (h : d < 1 ∨ 1073741824 < d) : AE n d = false := by
 unfold AE; rw [Ah.2 (by omega)]; rfl
theorem Si {n d : Int} (h : n < -1073741824 ∨ 1073741824 < n) : AE n d = false := by
 unfold AE; rw [Ah.2 (show n < -1073741824 ∨ _ by omega), Bool.and_false]; rfl
theorem Rv {n d : Int} (h1 : 1 ≤ d) (h2 : d ≤ 1073741824) (h3 : -1073741824 ≤ n) (h4 : n ≤ 1073741824) : AE n d = decide (Nat.gcd n.natAbs d.natAbs = 1) := by
 unfold AE; rw [A4.2 ⟨h1, h2⟩, A4.2 ⟨h3, h4⟩]; rfl
theorem Cf {P : Program} (S : World → Prop) {id : Nat} {Q : Exit → Act → World → Prop} {a : Act} {w : World} {l : List Oper} (n : Nat) (hm : P.follows .mixedOrders = true) (hB : Region.lexTailB .any l.toArray n = true) (hS : S w.drew)
  (h : ∀ w2, S w2 → wpStill P l.toArray w2 (fun a' => wpList P l.toArray Q (l.drop n) a' w2) (l.take n) a) : (Code.region id l.toArray true).wp P Q a w :=
 wp_region_still_tail n hm hB (h _ hS)
def AP (b : Bool) (c : Int) : Int := if b then 0 else c
theorem QR (n d : Int) (hno : d < 1 ∨ 1073741824 < d ∨ n < -1073741824 ∨ 1073741824 < n) (w : World) :
  Calls Tryz.prog 135 #[.agg #[int i64 n, int i64 d]] w fun e w' => e = .returned (int i64 120) ∧ Below w.heap.size w w' := by
 by_cases h1 : d < 1
 ·clear hno
  go_enter Tryz.func135, Tryz.ntmps135
  go_wp2_with fail
  go_quiet (fail)
  go_wp2
  go_ret
  exact ⟨rfl, A5 ((Below.refl _ _).alloc (qn _) _) _⟩
 have f1 : decide (d < 1) = false := by simpa using h1
 by_cases h2 : 1073741824 < d
 ·clear hno h1
  go_enter Tryz.func135, Tryz.ntmps135
  go_wp2_with fail
  go_quiet (fail)
  go_wp2
  go_ret
  exact ⟨rfl, A5 ((Below.refl _ _).alloc (qn _) _) _⟩
 have f2 : decide (1073741824 < d) = false := by simpa using h2
 by_cases h3 : n < -1073741824
 ·clear hno h1 h2
  go_enter Tryz.func135, Tryz.ntmps135
  go_wp2_with fail
  go_quiet (fail)
  go_wp2
  go_ret
  exact ⟨rfl, A5 ((Below.refl _ _).alloc (qn _) _) _⟩
 have f3 : decide (n < -1073741824) = false := by simpa using h3
 have h4 : 1073741824 < n := by omega
 clear hno h1 h2 h3
 go_enter Tryz.func135, Tryz.ntmps135
 go_wp2_with fail
 go_quiet (fail)
 go_wp2
 go_ret
 exact ⟨rfl, A5 ((Below.refl _ _).alloc (qn _) _) _⟩
theorem OF (n d : Int) (h1 : 1 ≤ d) (h2 : d ≤ 1073741824) (h3 : -1073741824 ≤ n) (h4 : n ≤ 1073741824) (w : World) :
  Calls Tryz.prog 135 #[.agg #[int i64 n, int i64 d]] w fun e w' => e = .returned (int i64 (AP (AE n d) 120)) ∧ Below w.heap.size w w' := by
 have f1 : decide (d < 1) = false := by simpa using by omega
 have f2 : decide (1073741824 < d) = false := by simpa using by omega
 have f3 : decide (n < -1073741824) = false := by simpa using by omega
 have f4 : decide (1073741824 < n) = false := by simpa using by omega
 have hd : ((d.natAbs : Nat) : Int) = d := by omega
 have HR := qh (Rv h1 h2 h3 h4)
 have HD := qh hd; clear hd
 go_enter Tryz.func135, Tryz.ntmps135
 go_wp2_with fail
 refine Cf (fun w2 => w2.cell? ⟨w.heap.size, 0, none⟩ = some (int i64 n) ∧ w2.cell? ⟨w.heap.size, 1, none⟩ = some (int i64 d) ∧ w.heap.size < w2.heap.size ∧ Below w.heap.size w w2) 25 (by kernel_rfl) (by kernel_rfl) ⟨by go_simp, by go_simp, by simp, ((Below.refl _ _).alloc (qn _) _).drew⟩ ?_
 intro w2 ⟨c0, c1, hlt, hB⟩
 simp only [List.take_succ_cons, List.take_zero, List.drop_succ_cons, List.drop_zero]
 repeat still_step
 still_call ((IN n h3 h4 _).mono fun _ _ ⟨e1, e2⟩ => ⟨e1, e2.symm⟩)
 repeat still_step
 refine wpStill_nil ?_
 have hu : IntKind.u64.wrap d = ((d.natAbs : Nat) : Int) := by rw [wrap_u64]; omega
 rw [hu]
 clear hu
 go_wp2_with fail
 refine (KX n.natAbs d.natAbs (by omega) (by omega) (by omega) w2).mono ?_
 rintro e w3 ⟨rfl, hb⟩
 have hB3 := qh (hB.trans (hb.mono hB.size))
 clear hb
 by_cases hg : Nat.gcd n.natAbs d.natAbs = 1
 ·have f5 : (((Nat.gcd n.natAbs d.natAbs : Nat) : Int) != 1) = false := by simpa using by omega
  have HG := qh hg; clear hg
  go_wp2_with fail
  go_ret
  exact ⟨Af (by rw [HR.out, decide_eq_true HG.out]; rfl), hB3.out⟩
 ·have f5 : (((Nat.gcd n.natAbs d.natAbs : Nat) : Int) != 1) = true := by simpa using by omega
  have HG := qh hg; clear hg
  go_wp2_with fail
  go_ret
  exact ⟨Af (by rw [HR.out, decide_eq_false HG.out]; rfl), hB3.out⟩
theorem Jd (n d : Int) (w : World) :
  Calls Tryz.prog 135 #[.agg #[int i64 n, int i64 d]] w fun e w' => e = .returned (int i64 (AP (AE n d) 120)) ∧ Below w.heap.size w w' := by
 by_cases h : d < 1 ∨ 1073741824 < d ∨ n < -1073741824 ∨ 1073741824 < n
 ·refine (QR n d h w).mono fun e w' ⟨he, hb⟩ => ⟨?_, hb⟩
  have : AE n d = false := by
   rcases h with h | h | h
   ·exact PB (Or.inl h)
   ·exact PB (Or.inr h)
   ·exact Si h
  rw [he, this]; rfl
 ·exact OF n d (by omega) (by omega) (by omega) (by omega) w
theorem JZ {n d : Int} (h : AE n d = true) : 1 ≤ d ∧ d ≤ 1073741824 ∧ -1073741824 ≤ n ∧ n ≤ 1073741824 := by
 unfold AE at h
 simp only [Bool.and_eq_true, A4] at h
 omega
theorem Qm {a b : Int} (h1 : -1073741824 ≤ a) (h2 : a ≤ 1073741824) (h3 : 1 ≤ b) (h4 : b ≤ 1073741824) : -1152921504606846976 ≤ a * b ∧ a * b ≤ 1152921504606846976 := by
 constructor
 ·calc (-1152921504606846976 : Int) = -1073741824 * 1073741824 := by decide
   _ ≤ -1073741824 * b := by omega
   _ ≤ a * b := Int.mul_le_mul_of_nonneg_right h1 (by omega)
 ·calc a * b ≤ 1073741824 * b := Int.mul_le_mul_of_nonneg_right h2 (by omega)
   _ ≤ 1152921504606846976 := by omega
def Gq (a b c d : Int) : Value := if AE a b && AE c d then .tuple #[int i64 (By (a * d) (c * b)), int i64 0] else .tuple #[int i64 0, int i64 120]
theorem Hs (a b c d : Int) (w : World) :
  Calls Tryz.prog 116 #[.agg #[int i64 a, int i64 b], .agg #[int i64 c, int i64 d]] w fun e w' => e = .returned (Gq a b c d) ∧ Below w.heap.size w w' := by
 have hB0 : Below w.heap.size w ((w.alloc (.cells #[int i64 a, int i64 b] 70)).alloc (.cells #[int i64 c, int i64 d] 70)) := ((Below.refl _ w).alloc (qn _) _).alloc (by simp) _
 have hz : ((w.alloc (.cells #[int i64 a, int i64 b] 70)).alloc (.cells #[int i64 c, int i64 d] 70)).heap.size = w.heap.size + 2 := by simp
 have g0 : ((w.alloc (.cells #[int i64 a, int i64 b] 70)).alloc (.cells #[int i64 c, int i64 d] 70)).heap[w.heap.size]? = some (.cells #[int i64 a, int i64 b] 70 (0, 0)) := by
  rw [Below.heap_alloc _ _ _ (by simp)]; exact heap_alloc_new w _
 have g1 : ((w.alloc (.cells #[int i64 a, int i64 b] 70)).alloc (.cells #[int i64 c, int i64 d] 70)).heap[w.heap.size + 1]? = some (.cells #[int i64 c, int i64 d] 70 (0, 0)) := by
  have := heap_alloc_new (w.alloc (.cells #[int i64 a, int i64 b] 70)) (.cells #[int i64 c, int i64 d] 70); simpa using this
 go_enter Tryz.func116, Tryz.ntmps116
 go_wp2_with fail
 generalize (w.alloc (.cells #[int i64 a, int i64 b] 70)).alloc (.cells #[int i64 c, int i64 d] 70) = w0 at *
 refine (Jd a b w0).mono ?_
 rintro e w1 ⟨rfl, b1⟩
 have k0 := (b1.block _ (by omega)).trans g0
 have k1 := (b1.block _ (by omega)).trans g1
 have hs1 := b1.size
 have hB1 := qh (hB0.trans (b1.mono (by omega)))
 clear b1 g0 g1 hB0
 have K0 := qh k0; have K1 := qh k1
 have d0 := A0 k0 0 rfl; have d1 := A0 k0 1 rfl
 have e0 := A0 k1 0 rfl; have e1 := A0 k1 1 rfl
 clear k0 k1
 cases hA : AE a b with
 | false =>
  unfold AP
  go_wp2_with fail
  go_ret2
  exact ⟨by unfold Gq; rw [hA]; rfl, hB1.out⟩
 | true =>
  have HA := qh hA; clear hA
  unfold AP
  go_wp2_with fail
  refine (Jd c d w1).mono ?_
  rintro e w2 ⟨rfl, b2⟩
  have k0 := (b2.block _ (by omega)).trans K0.out
  have k1 := (b2.block _ (by omega)).trans K1.out
  have hB2 := qh (hB1.out.trans (b2.mono (by omega)))
  clear d0 d1 e0 e1 b2
  have d0 := A0 k0 0 rfl; have d1 := A0 k0 1 rfl
  have e0 := A0 k1 0 rfl; have e1 := A0 k1 1 rfl
  clear k0 k1
  cases hC : AE c d with
  | false =>
   unfold AP
   go_wp2_with fail
   go_ret2
   exact ⟨by unfold Gq; rw [HA.out, hC]; rfl, hB2.out⟩
  | true =>
   have HC := qh hC; clear hC
   obtain ⟨q1, q2, q3, q4⟩ := JZ HA.out
   obtain ⟨r1, r2, r3, r4⟩ := JZ HC.out
   obtain ⟨m1, m2⟩ := Qm q3 q4 r1 r2
   obtain ⟨m3, m4⟩ := Qm r3 r4 q1 q2
   clear q1 q2 q3 q4 r1 r2 r3 r4
   unfold AP
   go_wp2_with (go_at_call 63; refine (Ew _ _ _).mono ?_; rintro e w' ⟨rfl, rfl⟩)
   go_ret2
   exact ⟨by unfold Gq; rw [HA.out, HC.out]; rfl, hB2.out⟩
end
section
open Go.RowKit
def Dq (k : Nat) : Bool := k == 1 || k == 3 || k == 4 || k == 9
def Fz (k : Nat) : Bool := k == 1 || k == 2 || k == 3 || k == 4 || k == 5
def Dn (k : Nat) : Bool := k == 7 || k == 8
def Cr (k : Nat) : Int := if k == 1 || k == 2 then 1 else 0
def BS (k : Nat) : Int := if k == 3 || k == 4 || k == 5 || k == 9 then 3 else 0
def CU (k : Nat) : Int := if k == 1 || k == 2 then 16 else if k == 6 then 7 else 0
def FN (k : Nat) : List Value := [.bool (Dq k), .bool (Fz k), .bool (Dn k), int i64 (Cr k), int i64 (BS k), int i64 (CU k)]
def flatTab : List (Int × Int) := [(0, 29), (20, 21), (29, 0), (20, -21), (0, -29), (-20, -21), (-29, 0), (-20, 21)]
structure Env (w : World) : Prop where
 kinds : ∀ k, k < 10 → ∀ j v, (FN k)[j]? = some v → w.cell? ⟨0, k * 6 + j, none⟩ = some v
 flat : ∀ k p, flatTab[k]? = some p → w.cell? ⟨1, k * 2, none⟩ = some (int i64 p.1) ∧ w.cell? ⟨1, k * 2 + 1, none⟩ = some (int i64 p.2)
theorem AF {w : World} {a : Addr} {v : Value} (h : w.cell? a = some v) : a.block < w.heap.size := by
 rcases Nat.lt_or_ge a.block w.heap.size with h1 | h1
 ·exact h1
 ·unfold World.cell? at h; simp [Array.getElem?_eq_none h1] at h
theorem Env.below {w w' : World} (h : Env w) (hb : Below w.heap.size w w') : Env w' where
 kinds k hk j v hv := by
  have h1 := h.kinds k hk j v hv
  exact (hb.cell (p := ⟨0, k * 6 + j, none⟩) (AF h1)).trans h1
 flat k p hp := by
  obtain ⟨h1, h2⟩ := h.flat k p hp
  exact ⟨(hb.cell (p := ⟨1, k * 2, none⟩) (AF h1)).trans h1, (hb.cell (p := ⟨1, k * 2 + 1, none⟩) (AF h2)).trans h2⟩
theorem AI (n lo hi : Int) (w : World) : Calls Tryz.prog 80 #[int i64 n, int i64 lo, int i64 hi] w fun e w' => e = .returned (.bool (inB n lo hi)) ∧ w = w' := by
 go_enter Tryz.func80, Tryz.ntmps80
 go_wp2
 all_goals
  go_ret
  refine ⟨Aa ?_, rfl⟩
  unfold inB
  rw [Bool.eq_iff_iff]; simp; omega
theorem Az (n lo hi : Int) (w : World) : Calls Tryz.prog 132 #[int i64 n, int i64 lo, int i64 hi] w fun e w' => e = .returned (.bool (inB n lo hi)) ∧ w = w' := by
 go_enter Tryz.func132, Tryz.ntmps132
 go_wp2
 all_goals
  go_ret
  refine ⟨Aa ?_, rfl⟩
  unfold inB
  rw [Bool.eq_iff_iff]; simp; omega
theorem DJ (n : Int) (u : Bool) (lo hi : Int) (w : World) : Calls Tryz.prog 115 #[int i64 n, .bool u, int i64 lo, int i64 hi] w fun e w' => e = .returned (.bool (Cn n u lo hi)) ∧ w = w' := by
 cases u with
 | false =>
  go_enter Tryz.func115, Tryz.ntmps115
  go_wp2_with (go_at_call 80; refine (AI _ _ _ _).mono ?_; rintro e w' ⟨rfl, rfl⟩)
  go_ret
  exact ⟨Aa (by unfold Cn; rw [Bool.eq_iff_iff]; simp), rfl⟩
 | true =>
  go_enter Tryz.func115, Tryz.ntmps115
  go_wp2_with (go_at_call 80; refine (AI _ _ _ _).mono ?_; rintro e w' ⟨rfl, rfl⟩)
  go_ret
  exact ⟨Aa (by unfold Cn; simp), rfl⟩
end
end Go.Proofs.YtggcbblikgankaaGreatDoor
