/- The walk of the statement: part 1. -/
import Derived.Test.YtggcbblikgankaaDoorZ33
import Derived.Test.YtggcbblikgankaaDoorZ4
import Derived.Test.YtggcbblikgankaaDoorZ29
import Derived.Laws.CopyOwn
import Derived.OrdersHeld
import Derived.Deep.RegionHeld
set_option linter.unusedVariables false
set_option linter.unusedSimpArgs false
section
/- The head of function 6: boxes, sane, pick, guards, Options. -/
namespace Go.Proofs.YtggcbblikgankaaDoor
open Go Go.RowKit

noncomputable def code6 : Code := (Tryd.f6.body).getD .skip
set_option maxRecDepth 100000 in
set_option maxHeartbeats 8000000 in
theorem pick_6 (k : Wrk) (b : Bod) (n : Nat) (hn : n < 65536) (ws : Array Value) (xp : Value) (xq : Value) (w : World) (hE : Env w) (hz2 : 2 ≤ w.heap.size) (hW : WkAt k ws w) (R : Ending → World → Prop) (X : Code)
    (hX : ∀ (w3 : World) (K : Nat) (e0 e1 e2 e6 e8 e9 e10 e13 e14 e15 e16 e17 e18 e19 e20 e21 e22 e23 e24 e25 e26 e27 e28 e29 e30 e31 e32 e33 e34 e35 e36 e37 e38 e39 e40 e41 e42 e43 e44 e45 e46 e47 e48 e49 e50 e51 e52 e53 e54 e55 e56 e57 e58 e59 e60 e61 e62 e63 e64 e65 e66 e67 e68 e69 e70 e71 e72 e73 e74 e75 e76 e77 e78 e79 e80 e81 e82 e83 e84 e85 e86 e87 e88 e89 e90 e91 e92 e93 e94 e95 e96 e97 e98 e99 e100 e101 e102 e103 e104 e105 e106 e107 e108 e109 e110 e111 e112 e113 e114 e115 e116 e117 e118 e119 e120 e121 : Value), Below w.heap.size w w3 → w3.heap[w.heap.size]? = some (.cells ws 32 (0, 0)) → w3.heap[w.heap.size + 1]? = some (.cells (bodCells b) 36 (0, 0)) → w3.heap[K]? = some (.cells (pickA k.signs n) 41 (0, 0)) → w.heap.size + 2 ≤ K → Code.wp Tryd.prog X (bodyPost Tryd.prog Tryd.f6 R) { tmps := #[e0, e1, e2, xp, xq, .pointer (some ⟨w.heap.size, 0, none⟩), e6, .pointer (some ⟨w.heap.size + 1, 0, none⟩), e8, e9, e10, .pointer (some ⟨K, 0, none⟩), .bool (decide (k.signs ≠ [])), e13, e14, e15, e16, e17, e18, e19, e20, e21, e22, e23, e24, e25, e26, e27, e28, e29, e30, e31, e32, e33, e34, e35, e36, e37, e38, e39, e40, e41, e42, e43, e44, e45, e46, e47, e48, e49, e50, e51, e52, e53, e54, e55, e56, e57, e58, e59, e60, e61, e62, e63, e64, e65, e66, e67, e68, e69, e70, e71, e72, e73, e74, e75, e76, e77, e78, e79, e80, e81, e82, e83, e84, e85, e86, e87, e88, e89, e90, e91, e92, e93, e94, e95, e96, e97, e98, e99, e100, e101, e102, e103, e104, e105, e106, e107, e108, e109, e110, e111, e112, e113, e114, e115, e116, e117, e118, e119, e120, e121], defers := [] } w3) :
    Code.wp Tryd.prog (withLast 3 code6 X) (bodyPost Tryd.prog Tryd.f6 R) { tmps := #[.agg ws, .int .u16 n, bodV b, xp, xq, undef, undef, undef, undef, undef, undef, undef, undef, undef, undef, undef, undef, undef, undef, undef, undef, undef, undef, undef, undef, undef, undef, undef, undef, undef, undef, undef, undef, undef, undef, undef, undef, undef, undef, undef, undef, undef, undef, undef, undef, undef, undef, undef, undef, undef, undef, undef, undef, undef, undef, undef, undef, undef, undef, undef, undef, undef, undef, undef, undef, undef, undef, undef, undef, undef, undef, undef, undef, undef, undef, undef, undef, undef, undef, undef, undef, undef, undef, undef, undef, undef, undef, undef, undef, undef, undef, undef, undef, undef, undef, undef, undef, undef, undef, undef, undef, undef, undef, undef, undef, undef, undef, undef, undef, undef, undef, undef, undef, undef, undef, undef, undef, undef, undef, undef, undef, undef], defers := [] } w := by
  have hs := hW.size
  obtain ⟨g0, g1, hz, hb⟩ := blocks2 w (.cells ws 32) (.cells (bodCells b) 36)
  have hbv : bodV b = .agg (bodCells b) := rfl
  rw [hbv]
  have hp := fun (W : World) (hB : Below w.heap.size w W) => (hW.below hB (Nat.le_refl _)).pick n hn
  have hsn := fun (W : World) (hB : Below w.heap.size w W) (h : 2 ≤ W.heap.size) => sane_any W (hE.below hB) h
  have HS := Lib.hid hs; have G0 := Lib.hid g0; have G1 := Lib.hid g1; have HZ := Lib.hid hz; have HB := Lib.hid hb; have HP := Lib.hid hp; have HSN := Lib.hid hsn; have HX := Lib.hid hX; have HZ2 := Lib.hid hz2
  have HSA := Lib.hid (pickA_one k.signs n); have HSZ := Lib.hid (pickA_size k.signs n)
  clear hs g0 g1 hz hb hbv hp hsn hX hz2 hW hE
  generalize decide (k.signs ≠ []) = ok at *
  generalize pickA k.signs n = cs at *
  unfold code6
  conv => arg 2; whnf
  simp only [withLast]
  go_wp2_with fail
  generalize (w.alloc (.cells ws 32)).alloc (.cells (bodCells b) 36) = w0 at *
  refine (HSN.out w0 HB.out (by have := HZ.out; omega)).mono ?_
  rintro e w1 ⟨rfl, hb1⟩
  have B1 := Lib.hid (HB.out.trans (hb1.mono (by have := HZ.out; omega)))
  have H0 := Lib.hid ((hb1.block w.heap.size (by have := HZ.out; omega)).trans G0.out)
  have H1 := Lib.hid ((hb1.block (w.heap.size + 1) (by have := HZ.out; omega)).trans G1.out)
  have Z1 := Lib.hid (show w.heap.size + 2 ≤ w1.heap.size by have := HZ.out; have := hb1.size; omega)
  clear hb1 HSN G0 G1 HB HZ
  go_wp2_with ((refine wpList_load_row rfl 32 _ rfl w.heap.size rfl 32 _ (0, 0) _ H0.out Tryd.underlying32 rfl HS.out ?_; simp only [Act.put, List.setIfInBounds_toArray, List.set_cons_zero, List.set_cons_succ]))
  refine (HP.out w1 B1.out).mono ?_
  rintro e w2 ⟨rfl, hb2⟩
  have B2 := Lib.hid (B1.out.trans (hb2.mono (by have := Z1.out; omega)))
  have I0 := Lib.hid ((hb2.block w.heap.size (by have := Z1.out; omega)).trans H0.out)
  have I1 := Lib.hid ((hb2.block (w.heap.size + 1) (by have := Z1.out; omega)).trans H1.out)
  have Z2 := Lib.hid (show w.heap.size + 2 ≤ w2.heap.size by have := Z1.out; have := hb2.size; omega)
  clear hb2 HP H0 H1 B1 Z1
  go_wp2_with (refine wpList_store_row rfl 41 _ _ rfl w2.heap.size cs rfl rfl 41 _ (heap_alloc_new w2 _) (by rw [HSZ.out]; kernel_rfl) (by rw [HSZ.out]; rfl) HSA.out ?_; rw [World.setRow_alloc_new])
  have hb5 : Below w2.heap.size w2 (w2.alloc (.cells cs 41)) := (Below.refl w2.heap.size w2).alloc (Nat.le_refl _) _
  exact HX.out _ w2.heap.size _ _ _ _ _ _ _ _ _ _ _ _ _ _ _ _ _ _ _ _ _ _ _ _ _ _ _ _ _ _ _ _ _ _ _ _ _ _ _ _ _ _ _ _ _ _ _ _ _ _ _ _ _ _ _ _ _ _ _ _ _ _ _ _ _ _ _ _ _ _ _ _ _ _ _ _ _ _ _ _ _ _ _ _ _ _ _ _ _ _ _ _ _ _ _ _ _ _ _ _ _ _ _ _ _ _ _ _ _ _ _ _ _ _ _ _ (B2.out.trans (hb5.mono B2.out.size)) ((hb5.block _ (by have := Z2.out; omega)).trans I0.out) ((hb5.block _ (by have := Z2.out; omega)).trans I1.out) (heap_alloc_new w2 _) Z2.out
end Go.Proofs.YtggcbblikgankaaDoor
end
section
/- turn.Make: what it makes is a right turn; its contract. -/
namespace Go.Proofs.YtggcbblikgankaaDoor
open Go Go.RowKit

theorem gcd3_pos {A B C : Int} (hC : 1 ≤ C) : 1 ≤ gcd3 A B C := by
  unfold gcd3
  have : 0 < Nat.gcd (Nat.gcd A.natAbs B.natAbs) C.natAbs := Nat.gcd_pos_of_pos_right _ (by omega)
  omega
/-- A right turn's numbers without their common divisor are a right turn. -/
theorem low_right {A B C : Int} (hC : 1 ≤ C) (hC2 : C ≤ 32768) (h : A * A + B * B = C * C) : trnB (A.tdiv (gcd3 A B C)) (B.tdiv (gcd3 A B C)) (C / gcd3 A B C) = true := by
  have hg := gcd3_pos (A := A) (B := B) hC
  have dA : gcd3 A B C ∣ A := by
    unfold gcd3; exact Int.ofNat_dvd_left.2 (Nat.dvd_trans (Nat.gcd_dvd_left _ _) (Nat.gcd_dvd_left _ _))
  have dB : gcd3 A B C ∣ B := by
    unfold gcd3; exact Int.ofNat_dvd_left.2 (Nat.dvd_trans (Nat.gcd_dvd_left _ _) (Nat.gcd_dvd_right _ _))
  have dC : gcd3 A B C ∣ C := by
    unfold gcd3; exact Int.ofNat_dvd_left.2 (Nat.gcd_dvd_right _ _)
  have eA := Int.mul_tdiv_cancel' dA
  have eB := Int.mul_tdiv_cancel' dB
  have eC := Int.mul_ediv_cancel' dC
  have hgcd : Nat.gcd (Nat.gcd (A.tdiv (gcd3 A B C)).natAbs (B.tdiv (gcd3 A B C)).natAbs) (C / gcd3 A B C).natAbs = 1 := by
    have nA : (A.tdiv (gcd3 A B C)).natAbs = A.natAbs / (gcd3 A B C).natAbs := Int.natAbs_tdiv ..
    have nB : (B.tdiv (gcd3 A B C)).natAbs = B.natAbs / (gcd3 A B C).natAbs := Int.natAbs_tdiv ..
    have nC : (C / gcd3 A B C).natAbs = C.natAbs / (gcd3 A B C).natAbs := by
      rw [← Int.tdiv_eq_ediv_of_nonneg (by omega : 0 ≤ C)]; exact Int.natAbs_tdiv ..
    rw [nA, nB, nC]
    have hG : (gcd3 A B C).natAbs = Nat.gcd (Nat.gcd A.natAbs B.natAbs) C.natAbs := rfl
    rw [hG]
    have k1 : Nat.gcd (Nat.gcd A.natAbs B.natAbs) C.natAbs ∣ A.natAbs := Nat.dvd_trans (Nat.gcd_dvd_left _ _) (Nat.gcd_dvd_left _ _)
    have k2 : Nat.gcd (Nat.gcd A.natAbs B.natAbs) C.natAbs ∣ B.natAbs := Nat.dvd_trans (Nat.gcd_dvd_left _ _) (Nat.gcd_dvd_right _ _)
    rw [Nat.gcd_div k1 k2, Nat.gcd_div (Nat.gcd_dvd_left _ _) (Nat.gcd_dvd_right _ _)]
    exact Nat.div_self (Nat.gcd_pos_of_pos_right _ (by omega))
  generalize gcd3 A B C = g at *
  generalize A.tdiv g = a at *
  generalize B.tdiv g = b at *
  generalize C / g = c at *
  subst eA eB eC
  have hsq : a * a + b * b = c * c := by
    have h2 : (g * g) * (a * a + b * b) = (g * g) * (c * c) := by
      have e1 : g * a * (g * a) = (g * g) * (a * a) := by ac_rfl
      have e2 : g * b * (g * b) = (g * g) * (b * b) := by ac_rfl
      have e3 : g * c * (g * c) = (g * g) * (c * c) := by ac_rfl
      rw [Int.mul_add, ← e1, ← e2, ← e3]; exact h
    exact Int.eq_of_mul_eq_mul_left (Int.ne_of_gt (Int.mul_pos (by omega) (by omega))) h2
  have hc : 1 ≤ c := by
    rcases Int.lt_or_le c 1 with h1 | h1
    · have : g * c ≤ 0 := Int.mul_nonpos_of_nonneg_of_nonpos (by omega) (by omega)
      omega
    · exact h1
  have hc2 : c ≤ 32768 := by
    have : 1 * c ≤ g * c := Int.mul_le_mul_of_nonneg_right hg (by omega)
    omega
  have sq : ∀ x y : Int, x * x ≤ y * y → 0 ≤ y → -y ≤ x ∧ x ≤ y := by
    intro x y hxy hy
    refine ⟨?_, ?_⟩
    · rcases Int.lt_or_le x (-y) with h1 | h1
      · have : y * y < (-x) * (-x) := Int.mul_lt_mul' (by omega) (by omega) hy (by omega)
        rw [Int.neg_mul_neg] at this; omega
      · exact h1
    · rcases Int.lt_or_le y x with h1 | h1
      · have : y * y < x * x := Int.mul_lt_mul' (by omega) h1 hy (by omega)
        omega
      · exact h1
  have nn : ∀ x : Int, 0 ≤ x * x := fun x => by
    rcases Int.le_total 0 x with h1 | h1
    · exact Int.mul_nonneg h1 h1
    · have := Int.mul_nonneg (a := -x) (b := -x) (by omega) (by omega)
      rw [Int.neg_mul_neg] at this; exact this
  have ha := sq a c (by have := nn b; omega) (by omega)
  have hb := sq b c (by have := nn a; omega) (by omega)
  rw [trn_all hc hc2 ha.1 ha.2 hb.1 hb.2 hsq, decide_eq_true hgcd]

def makA (P Q : Int) : Int := P * P - Q * Q
def makB (P Q : Int) : Int := 2 * P * Q
def makC (P Q : Int) : Int := P * P + Q * Q
def mkA (P Q : Int) : Int := (makA P Q).tdiv (gcd3 (makA P Q) (makB P Q) (makC P Q))
def mkB (P Q : Int) : Int := (makB P Q).tdiv (gcd3 (makA P Q) (makB P Q) (makC P Q))
def mkC (P Q : Int) : Int := makC P Q / gcd3 (makA P Q) (makB P Q) (makC P Q)
theorem pq_bd {P Q : Int} (hP : 0 ≤ P ∧ P ≤ 127) (hQ : 0 ≤ Q ∧ Q ≤ 127) : 0 ≤ P * Q ∧ P * Q ≤ 16129 := by
  refine ⟨Int.mul_nonneg hP.1 hQ.1, ?_⟩
  have := Int.mul_le_mul hP.2 hQ.2 hQ.1 (by omega : (0 : Int) ≤ 127)
  omega
theorem mak_pos {P Q : Int} (hP : 0 ≤ P ∧ P ≤ 127) (hQ : 0 ≤ Q ∧ Q ≤ 127) (h : ¬ (P = 0 ∧ Q = 0)) : 1 ≤ makC P Q ∧ makC P Q ≤ 32258 := by
  have a := pq_bd hP hP
  have b := pq_bd hQ hQ
  unfold makC
  refine ⟨?_, by omega⟩
  rcases Int.lt_or_le 0 P with h1 | h1
  · have := Int.mul_pos h1 h1; omega
  · have : 0 < Q := by
      rcases Int.lt_or_le 0 Q with h2 | h2
      · exact h2
      · exact absurd ⟨by omega, by omega⟩ h
    have := Int.mul_pos this this; omega
theorem mak_right {P Q : Int} (hP : 0 ≤ P ∧ P ≤ 127) (hQ : 0 ≤ Q ∧ Q ≤ 127) (h : ¬ (P = 0 ∧ Q = 0)) : trnB (mkA P Q) (mkB P Q) (mkC P Q) = true := by
  have hc := mak_pos hP hQ h
  refine low_right hc.1 (by omega) ?_
  unfold makA makB makC
  grind

theorem results26 (tmps : Array Value) (w : World) (g : Nat) (x y z n : Value) (h4 : tmps.getD 4 undef = .pointer (some ⟨g, 0, none⟩)) (hg : w.heap[g]? = some (.cells #[x, y, z] 23 (0, 0))) (h5 : tmps.getD 5 undef = n) :
    (results Tryd.f26 tmps).run Tryd.prog w = .ok (.tuple #[.agg #[x, y, z], n]) w := by
  have h4' : tmps[4]?.getD undef = .pointer (some ⟨g, 0, none⟩) := by simpa using h4
  have h5' : tmps[5]?.getD undef = n := by simpa using h5
  simp [results, Tryd.results26, go_sem, h4', h5', cell_at hg 0 rfl, cell_at hg 1 rfl, cell_at hg 2 rfl]
def makV (P Q : Int) : Value := if P = 0 ∧ Q = 0 then .tuple #[.agg #[.int .i64 0, .int .i64 0, .int .i64 0], .int .i64 1] else .tuple #[.agg #[.int .i64 (mkA P Q), .int .i64 (mkB P Q), .int .i64 (mkC P Q)], .int .i64 0]
noncomputable def code26 : Code := (Tryd.f26.body).getD .skip
noncomputable def part26n2 : Code := lastPart 2 code26
set_option maxRecDepth 100000 in
set_option maxHeartbeats 4000000 in
theorem make_tail (P Q x y z : Int) (hP : 0 ≤ P ∧ P ≤ 127) (hQ : 0 ≤ Q ∧ Q ≤ 127) (w w1 : World) (g : Nat) (hg : w.heap.size ≤ g) (hB : Below w.heap.size w w1) (hg0 : w1.heap[g]? = some (.cells #[.int .i64 0, .int .i64 0, .int .i64 0] 23 (0, 0)))
    (hl : ∀ w, Calls Tryd.prog 56 #[.agg #[.int .i64 (P * P - Q * Q), .int .i64 (2 * P * Q), .int .i64 (P * P + Q * Q)]] w fun e w' => e = .returned (.agg #[.int .i64 x, .int .i64 y, .int .i64 z]) ∧ Below w.heap.size w w') (e2 e3 e5 e6 e7 e8 e9 e10 e11 e12 e13 e14 e15 e16 e17 e18 e19 e20 e21 e22 e23 e24 e25 e26 e27 e28 e29 e30 e31 e32 e33 e34 e35 e36 e37 e38 e39 e40 e41 e42 e43 e44 : Value) :
    Code.wp Tryd.prog part26n2 (bodyPost Tryd.prog Tryd.f26 fun e w' => e = .returned (.tuple #[.agg #[.int .i64 x, .int .i64 y, .int .i64 z], .int .i64 0]) ∧ Below w.heap.size w w') { tmps := #[.int .i64 P, .int .i64 Q, e2, e3, .pointer (some ⟨g, 0, none⟩), e5, e6, e7, e8, e9, e10, e11, e12, e13, e14, e15, e16, e17, e18, e19, e20, e21, e22, e23, e24, e25, e26, e27, e28, e29, e30, e31, e32, e33, e34, e35, e36, e37, e38, e39, e40, e41, e42, e43, e44], defers := [] } w1 := by
  have a1 := pq_bd hP hP
  have a2 := pq_bd hQ hQ
  have a3 := pq_bd (P := P) (Q := Q) hP hQ
  have W1 : IntKind.i64.wrap (P * P) = P * P := IntWalk.i64_in _ (by omega)
  have W2 : IntKind.i64.wrap (Q * Q) = Q * Q := IntWalk.i64_in _ (by omega)
  have W3 : IntKind.i64.wrap (P * P - Q * Q) = P * P - Q * Q := IntWalk.i64_in _ (by omega)
  have W4 : IntKind.i64.wrap (2 * P) = 2 * P := IntWalk.i64_in _ (by omega)
  have W5 : IntKind.i64.wrap (2 * P * Q) = 2 * P * Q := IntWalk.i64_in _ (by rw [Int.mul_assoc]; omega)
  have W6 : IntKind.i64.wrap (P * P + Q * Q) = P * P + Q * Q := IntWalk.i64_in _ (by omega)
  have hlt : g < w1.heap.size := (Array.getElem?_eq_some_iff.1 hg0).1
  have HL := Lib.hid hl; have HB := Lib.hid hB; have G0 := Lib.hid hg0; have HG := Lib.hid hg; have HLT := Lib.hid hlt
  clear hl hB hg0 a1 a2 a3 hP hQ hg hlt
  unfold part26n2 code26
  conv => arg 2; whnf
  go_wp2_with fail
  refine (HL.out _).mono ?_
  rintro e w2 ⟨rfl, b2⟩
  have g2 := (b2.block _ HLT.out).trans G0.out
  have B2 := Lib.hid (HB.out.trans (b2.mono HB.out.size))
  have G2 := Lib.hid g2
  clear b2 g2
  go_wp2_with (refine wpList_store_row rfl 23 _ _ rfl g #[.int .i64 x, .int .i64 y, .int .i64 z] rfl rfl 23 _ G2.out (by kernel_rfl) rfl (by simp [Value.oneCell']) ?_)
  refine bodyPost_ret (results26 _ _ g _ _ _ _ rfl (setRow_heap _ _ _ _ _ _ G2.out) rfl) rfl ⟨rfl, below_setRow B2.out HG.out _⟩
set_option maxRecDepth 100000 in
set_option maxHeartbeats 4000000 in
theorem make_any (P Q : Int) (hP : 0 ≤ P ∧ P ≤ 127) (hQ : 0 ≤ Q ∧ Q ≤ 127) (w : World) : Calls Tryd.prog 26 #[.int .i64 P, .int .i64 Q] w fun e w' => e = .returned (makV P Q) ∧ Below w.heap.size w w' := by
  have a1 := pq_bd hP hP
  have a2 := pq_bd hQ hQ
  have a3 := pq_bd (P := P) (Q := Q) hP hQ
  by_cases h0 : P = 0 ∧ Q = 0
  · obtain ⟨rfl, rfl⟩ := h0
    have g0 := heap_alloc_new w (.cells #[.int .i64 0, .int .i64 0, .int .i64 0] 23)
    have hb : Below w.heap.size w (w.alloc (.cells #[.int .i64 0, .int .i64 0, .int .i64 0] 23)) := (Below.refl _ w).alloc (Nat.le_refl _) _
    have G0 := Lib.hid g0; have HB := Lib.hid hb
    clear g0 hb a1 a2 a3 hP hQ
    go_enter Tryd.func26, Tryd.ntmps26
    go_wp2_with (first | (refine wpList_load_row rfl 23 _ rfl w.heap.size rfl 23 _ (0, 0) _ G0.out Tryd.underlying23 rfl (by kernel_rfl) ?_; simp only [Act.put, List.setIfInBounds_toArray, List.set_cons_zero, List.set_cons_succ]) | (refine wpList_store_row rfl 23 _ _ rfl w.heap.size _ rfl rfl 23 _ (heap_alloc_new w _) (by kernel_rfl) rfl (by simp [Value.oneCell']) ?_; rw [World.setRow_alloc_new]))
    refine bodyPost_ret (results26 _ _ w.heap.size _ _ _ _ rfl (heap_alloc_new w _) rfl) rfl ⟨rfl, HB.out⟩
  · have hlow := fun w => lowest_any (makA P Q) (makB P Q) (makC P Q) w (by unfold makA; omega) (by unfold makB; rw [Int.mul_assoc]; omega) ⟨(mak_pos hP hQ h0).1, by have := (mak_pos hP hQ h0).2; omega⟩
    have hv : makV P Q = .tuple #[.agg #[.int .i64 (mkA P Q), .int .i64 (mkB P Q), .int .i64 (mkC P Q)], .int .i64 0] := by unfold makV; rw [if_neg h0]
    have hlow' : ∀ w, Calls Tryd.prog 56 #[.agg #[.int .i64 (P * P - Q * Q), .int .i64 (2 * P * Q), .int .i64 (P * P + Q * Q)]] w fun e w' => e = .returned (.agg #[.int .i64 (mkA P Q), .int .i64 (mkB P Q), .int .i64 (mkC P Q)]) ∧ Below w.heap.size w w' := hlow
    have HL := Lib.hid hlow'; have HV := Lib.hid hv; have HP := Lib.hid hP; have HQ := Lib.hid hQ
    have f0 : (P == 0) = false ∨ ((P == 0) = true ∧ (Q == 0) = false) := by
      by_cases h1 : P = 0
      · exact Or.inr ⟨by simpa using h1, by simpa using fun h2 => h0 ⟨h1, h2⟩⟩
      · exact Or.inl (by simpa using h1)
    have hb0 : Below w.heap.size w (w.alloc (.cells #[.int .i64 0, .int .i64 0, .int .i64 0] 23)) := (Below.refl _ w).alloc (Nat.le_refl _) _
    have g0 := heap_alloc_new w (.cells #[.int .i64 0, .int .i64 0, .int .i64 0] 23)
    have HB0 := Lib.hid hb0; have G0 := Lib.hid g0
    clear hlow hlow' a1 a2 a3 h0 hb0 g0 hv
    rw [HV.out]
    generalize mkA P Q = x at *
    generalize mkB P Q = y at *
    generalize mkC P Q = z at *
    clear HV
    go_enter Tryd.func26, Tryd.ntmps26
    change Code.wp Tryd.prog (.seq (.region 0 _ _) (.seq _ part26n2)) _ _ _
    rcases Int.lt_trichotomy P Q with ho | ho | ho
    all_goals
      first
      | (have hmin : (if Q < P then Q else P) = P := if_neg (by omega)
         have hmax : (if P < Q then Q else P) = Q := if_pos (by omega)
         have hmn : ¬ P < -127 := by omega
         have hmx : ¬ 127 < Q := by omega
         skip)
      | (have hmin : (if Q < P then Q else P) = Q := if_pos (by omega)
         have hmax : (if P < Q then Q else P) = P := if_neg (by omega)
         have hmn : ¬ Q < -127 := by omega
         have hmx : ¬ 127 < P := by omega
         skip)
      | (have hmn : ¬ P < -127 := by omega
         have hmx : ¬ 127 < P := by omega
         subst ho
         skip)
    all_goals
      rcases f0 with f1 | ⟨f1, f2⟩
      all_goals
        first
        | (exfalso; rw [f1] at f2; cases f2)
        | (go_wp2_with fail
           exact make_tail _ _ x y z HP.out HQ.out w _ w.heap.size (Nat.le_refl _) HB0.out G0.out HL.out _ _ _ _ _ _ _ _ _ _ _ _ _ _ _ _ _ _ _ _ _ _ _ _ _ _ _ _ _ _ _ _ _ _ _ _ _ _ _ _ _ _)
end Go.Proofs.YtggcbblikgankaaDoor
end
section
/- turn.Order: its contract where the first angle lies in the first quarter. -/
namespace Go.Proofs.YtggcbblikgankaaDoor
open Go Go.RowKit Go.Deep

def lowB (a b : Int) : Bool := decide (b < 0) || (decide (b = 0) && decide (a < 0))
set_option maxRecDepth 100000 in
set_option maxHeartbeats 2000000 in
theorem lower_any (a b c : Int) (w : World) : Calls Tryd.prog 57 #[.agg #[.int .i64 a, .int .i64 b, .int .i64 c]] w fun e w' => e = .returned (.bool (lowB a b)) ∧ w' = w.alloc (.cells #[.int .i64 a, .int .i64 b, .int .i64 c] 23) := by
  unfold lowB
  go_enter Tryd.func57, Tryd.ntmps57
  by_cases h1 : b < 0
  · have f1 : decide (b < 0) = true := decide_eq_true h1
    go_wp2_with fail
    go_ret
    exact ⟨by simp [f1], rfl⟩
  · have f1 : decide (b < 0) = false := decide_eq_false h1
    by_cases h2 : b = 0
    · subst h2
      clear f1 h1
      by_cases h3 : a < 0
      · have f3 : decide (a < 0) = true := decide_eq_true h3
        go_wp2_with fail
        go_ret
        exact ⟨by simp [f3], rfl⟩
      · have f3 : decide (a < 0) = false := decide_eq_false h3
        go_wp2_with fail
        go_ret
        exact ⟨by simp [f3], rfl⟩
    · have f2 : (b == 0) = false := by simpa using h2
      have f2' : decide (b = 0) = false := decide_eq_false h2
      go_wp2_with fail
      go_ret
      exact ⟨by simp [f1, f2'], rfl⟩
/-- Two turns in two blocks, and what was there before. -/
def TwoT (A B C A' B' C' : Int) (g : Nat) (W w2 : World) : Prop :=
  w2.cell? ⟨g, 0, none⟩ = some (.int .i64 A) ∧ w2.cell? ⟨g, 1, none⟩ = some (.int .i64 B) ∧ w2.cell? ⟨g, 2, none⟩ = some (.int .i64 C) ∧ w2.cell? ⟨g + 1, 0, none⟩ = some (.int .i64 A') ∧ w2.cell? ⟨g + 1, 1, none⟩ = some (.int .i64 B') ∧ w2.cell? ⟨g + 1, 2, none⟩ = some (.int .i64 C') ∧ Below g W w2 ∧ g + 1 < w2.heap.size
theorem TwoT.keep {A B C A' B' C' : Int} {g : Nat} {W w2 w3 : World} (h : TwoT A B C A' B' C' g W w2) (hb : Below w2.heap.size w2 w3) : TwoT A B C A' B' C' g W w3 := by
  obtain ⟨h0, h1, h2, h3, h4, h5, h6, h7⟩ := h
  have hg : g < w2.heap.size := by omega
  exact ⟨(hb.cell (p := ⟨g, 0, none⟩) hg).trans h0, (hb.cell (p := ⟨g, 1, none⟩) hg).trans h1, (hb.cell (p := ⟨g, 2, none⟩) hg).trans h2, (hb.cell (p := ⟨g + 1, 0, none⟩) h7).trans h3, (hb.cell (p := ⟨g + 1, 1, none⟩) h7).trans h4, (hb.cell (p := ⟨g + 1, 2, none⟩) h7).trans h5, h6.trans (hb.mono (by omega)), Nat.lt_of_lt_of_le h7 hb.size⟩
theorem lower_box {A B C A' B' C' : Int} {g : Nat} {W : World} (a b c : Int) (w : World) (h : TwoT A B C A' B' C' g W w) : Calls Tryd.prog 57 #[.agg #[.int .i64 a, .int .i64 b, .int .i64 c]] w fun e w' => e = .returned (.bool (lowB a b)) ∧ TwoT A B C A' B' C' g W w' :=
  (lower_any a b c w).mono fun _ _ ⟨he, hw⟩ => ⟨he, by rw [hw]; exact h.keep ((Below.refl _ _).alloc (Nat.le_refl _) _)⟩

/-- The same, told by rows. -/
def TwoR (A B C A' B' C' : Int) (g : Nat) (W w2 : World) : Prop :=
  w2.heap[g]? = some (.cells #[.int .i64 A, .int .i64 B, .int .i64 C] 23 (0, 0)) ∧ w2.heap[g + 1]? = some (.cells #[.int .i64 A', .int .i64 B', .int .i64 C'] 23 (0, 0)) ∧ Below g W w2
theorem TwoR.cells {A B C A' B' C' : Int} {g : Nat} {W w2 : World} (h : TwoR A B C A' B' C' g W w2) : TwoT A B C A' B' C' g W w2 :=
  ⟨cell_at h.1 0 rfl, cell_at h.1 1 rfl, cell_at h.1 2 rfl, cell_at h.2.1 0 rfl, cell_at h.2.1 1 rfl, cell_at h.2.1 2 rfl, h.2.2, (Array.getElem?_eq_some_iff.1 h.2.1).1⟩
theorem TwoR.keep {A B C A' B' C' : Int} {g : Nat} {W w2 w3 : World} (h : TwoR A B C A' B' C' g W w2) (hb : Below w2.heap.size w2 w3) : TwoR A B C A' B' C' g W w3 := by
  have h1 := (Array.getElem?_eq_some_iff.1 h.1).1
  have h2 := (Array.getElem?_eq_some_iff.1 h.2.1).1
  exact ⟨(hb.block _ h1).trans h.1, (hb.block _ h2).trans h.2.1, h.2.2.trans (hb.mono (by omega))⟩
theorem lower_row {A B C A' B' C' : Int} {g : Nat} {W : World} (a b c : Int) (w : World) (h : TwoR A B C A' B' C' g W w) : Calls Tryd.prog 57 #[.agg #[.int .i64 a, .int .i64 b, .int .i64 c]] w fun e w' => e = .returned (.bool (lowB a b)) ∧ TwoR A B C A' B' C' g W w' :=
  (lower_any a b c w).mono fun _ _ ⟨he, hw⟩ => ⟨he, by rw [hw]; exact h.keep ((Below.refl _ _).alloc (Nat.le_refl _) _)⟩
theorem yieldsIf_row {P : Program} {ops : Array Oper} {S : World → Prop} {op : Oper} {a : Act} (hw : Region.wanted op (yielded ops a.tmps) = true) (ty : TypeId) (x : Operand) (ho : op.op = .load ty x)
    (g : Nat) (hx : a.eval x = .pointer (some ⟨g, 0, none⟩)) (t : TypeId) (cs : Array Value) (fr : Nat × Nat) (d : TypeDesc) (hS : ∀ w, S w → w.heap[g]? = some (.cells cs t fr))
    (hu : P.underlying ty = some d) (hd : (match d with | .struct _ | .array _ _ => true | _ => false) = true) (hi : (P.info? ty).map (·.size) = some cs.size) : YieldsIf P ops S op (.agg cs) a :=
  .inl ⟨hw, fun w hw' => by
    unfold execOp
    simp only [ho, hx, Instr.loadAt, Instr.sureAddr, Sem.run_bind, Sem.run_pure, Result.andThen_ok, run_loadVar_row w g t ty cs fr d (hS w hw') hu hd hi]⟩

theorem eql_turn (a b c d e f : Int) (w : World) : (binOp .eql 23 (.agg #[.int .i64 a, .int .i64 b, .int .i64 c]) (.agg #[.int .i64 d, .int .i64 e, .int .i64 f])).run Tryd.prog w = .ok (.bool (a == d && b == e && c == f)) w := by
  have u3 := Tryd.underlying3
  have a3 := Tryd.isAgg3
  have z3 := Tryd.sizeOf3
  have hS : Tryd.prog.underlying 23 = some (.struct (Tryd.prog.fieldsOf 23)) := by kernel_rfl
  have hp : Tryd.prog.stoodInHeld 23 = false := by kernel_rfl
  rw [run_eql_struct, show (10000 : Nat) = 9999 + 1 from rfl, run_equalIn_agg w 9999 23 _ _ hS hp]
  simp only [Program.fieldsOf, Tryd.underlying23]
  go_simp
  by_cases h1 : a = d <;> by_cases h2 : b = e <;> by_cases h3 : c = f <;> simp [h1, h2, h3]

/-- What turn.Order answers, for right turns, the first of them in the first quarter. -/
def ordI (A B C A' B' C' : Int) : Int := if A = A' ∧ B = B' ∧ C = C' then 0 else if lowB A' B' then -1 else if B * A' < A * B' then -1 else 1
set_option maxRecDepth 100000 in
set_option maxHeartbeats 8000000 in
theorem order_any (A B C A' B' C' : Int) (hA : 0 ≤ A) (hB : 0 ≤ B) (h1 : trnB A B C = true) (h2 : trnB A' B' C' = true) (w : World) : Calls Tryd.prog 27 #[.agg #[.int .i64 A, .int .i64 B, .int .i64 C], .agg #[.int .i64 A', .int .i64 B', .int .i64 C']] w fun e w' => e = .returned (.tuple #[.int .i64 (ordI A B C A' B' C'), .int .i64 0]) ∧ Below w.heap.size w w' := by
  have hc1 := fun w => turn_any A B C w
  have hc2 := fun w => turn_any A' B' C' w
  rw [h1] at hc1
  rw [h2] at hc2
  have bd : ∀ {a b c : Int}, trnB a b c = true → -32768 ≤ a ∧ a ≤ 32768 ∧ -32768 ≤ b ∧ b ≤ 32768 := by
    intro a b c h
    unfold trnB at h
    simp only [Bool.and_eq_true, inB_iff] at h
    omega
  obtain ⟨a1, a2, a3, a4⟩ := bd h1
  obtain ⟨b1, b2, b3, b4⟩ := bd h2
  have m1 := mul_in (a := A) (b := B') (by omega) (by omega)
  have m2 := mul_in (a := B) (b := A') (by omega) (by omega)
  have W1 : IntKind.i64.wrap (A * B') = A * B' := IntWalk.i64_in _ (by omega)
  have W2 : IntKind.i64.wrap (B * A') = B * A' := IntWalk.i64_in _ (by omega)
  have hq := fun w => eql_turn A B C A' B' C' w
  have hla : lowB A B = false := by unfold lowB; rw [decide_eq_false (by omega : ¬ B < 0), decide_eq_false (by omega : ¬ A < 0)]; simp
  obtain ⟨g0, g1, hz, hb⟩ := blocks2 w (.cells #[.int .i64 A, .int .i64 B, .int .i64 C] 23) (.cells #[.int .i64 A', .int .i64 B', .int .i64 C'] 23)
  have hT : TwoT A B C A' B' C' w.heap.size w ((w.alloc (.cells #[.int .i64 A, .int .i64 B, .int .i64 C] 23)).alloc (.cells #[.int .i64 A', .int .i64 B', .int .i64 C'] 23)) :=
    ⟨cell_at g0 0 rfl, cell_at g0 1 rfl, cell_at g0 2 rfl, cell_at g1 0 rfl, cell_at g1 1 rfl, cell_at g1 2 rfl, hb, by omega⟩
  have hTR : TwoR A B C A' B' C' w.heap.size w ((w.alloc (.cells #[.int .i64 A, .int .i64 B, .int .i64 C] 23)).alloc (.cells #[.int .i64 A', .int .i64 B', .int .i64 C'] 23)) := ⟨g0, g1, hb⟩
  have hor : ordI A B C A' B' C' = if A = A' ∧ B = B' ∧ C = C' then 0 else if lowB A' B' then -1 else if B * A' < A * B' then -1 else 1 := rfl
  generalize ordI A B C A' B' C' = oi at *
  have HC1 := Lib.hid hc1; have HC2 := Lib.hid hc2; have HT := Lib.hid hT; have HTR := Lib.hid hTR; have HOR := Lib.hid hor
  clear hc1 hc2 hT hTR hor g0 g1 hz hb h1 h2 a1 a2 a3 a4 b1 b2 b3 b4 m1 m2 hA hB
  go_enter Tryd.func27, Tryd.ntmps27
  go_wp2_with fail
  generalize (w.alloc (.cells #[.int .i64 A, .int .i64 B, .int .i64 C] 23)).alloc (.cells #[.int .i64 A', .int .i64 B', .int .i64 C'] 23) = w0 at *
  refine (HC1.out w0).mono ?_
  rintro e w1 ⟨rfl, b1⟩
  have hT1 := HT.out.keep b1
  have HT1 := Lib.hid hT1
  have HTR1 := Lib.hid (HTR.out.keep b1)
  clear b1 hT1 HT HC1 HTR
  rw [show codeI true 140 = 0 from rfl]
  obtain ⟨c0, c1, c2, c3, c4, c5, c6, c7⟩ := HT1.out
  clear c6 c7
  go_wp2_with fail
  refine (HC2.out w1).mono ?_
  rintro e w2 ⟨rfl, b2⟩
  have hT2 := HT1.out.keep b2
  have HT2 := Lib.hid hT2
  have HTR2 := Lib.hid (HTR1.out.keep b2)
  clear HTR1 b2 hT2 HT1 HC2 c0 c1 c2 c3 c4 c5
  rw [show codeI true 140 = 0 from rfl]
  obtain ⟨c0, c1, c2, c3, c4, c5, c6, c7⟩ := HT2.out
  clear c6 c7
  by_cases he : A = A' ∧ B = B' ∧ C = C'
  · obtain ⟨rfl, rfl, rfl⟩ := he
    have HO := Lib.hid (HOR.out.trans (if_pos ⟨rfl, rfl, rfl⟩))
    clear HOR
    simp only [beq_self_eq_true, Bool.and_self] at hq
    go_wp2_with fail
    go_ret2
    exact ⟨by rw [HO.out]; rfl, HT2.out.2.2.2.2.2.2.1⟩
  · have hqf : (A == A' && B == B' && C == C') = false := by
      by_cases q1 : A = A' <;> by_cases q2 : B = B' <;> by_cases q3 : C = C' <;> simp_all
    rw [if_neg he] at HOR
    simp only [hqf] at hq
    clear he hqf
    have hTd : TwoT A B C A' B' C' w.heap.size w w2.drew := HT2.out.keep (Below.refl _ w2).drew
    have HTD := Lib.hid hTd
    clear hTd
    cases hlb : lowB A' B' with
    | true =>
      have HO := Lib.hid (HOR.out.trans (by rw [hlb]; rfl) : oi = -1)
      clear HOR
      go_wp2_with fail
      go_region_held3 (fun w2 => w2.cell? ⟨w.heap.size, 0, none⟩ = some (.int .i64 A) ∧ w2.cell? ⟨w.heap.size, 1, none⟩ = some (.int .i64 B) ∧ w2.cell? ⟨w.heap.size, 2, none⟩ = some (.int .i64 C) ∧ w2.cell? ⟨w.heap.size + 1, 0, none⟩ = some (.int .i64 A') ∧ w2.cell? ⟨w.heap.size + 1, 1, none⟩ = some (.int .i64 B') ∧ w2.cell? ⟨w.heap.size + 1, 2, none⟩ = some (.int .i64 C') ∧ Below w.heap.size w w2 ∧ w.heap.size + 1 < w2.heap.size) (first | assumption | exact HTD.out | exact HT2.out) (first | (go_at_call 57; refine (lower_box _ _ _ _ (by assumption)).mono ?_; rintro e w3 ⟨rfl, hd⟩))
      all_goals
        rename_i w3 hHeld
        go_wp2_with fail
        go_ret2
        exact ⟨by rw [HO.out]; rfl, hHeld.2.2.2.2.2.2.1⟩
    | false =>
      have HO := Lib.hid (HOR.out.trans (by rw [hlb]; rfl) : oi = if B * A' < A * B' then -1 else 1)
      clear HOR
      go_wp2_with fail
      have hdr : TwoR A B C A' B' C' w.heap.size w w2.drew := HTR2.out.keep (Below.refl _ w2).drew
      refine wp_region_held (S := TwoR A B C A' B' C' w.heap.size w) (by kernel_rfl) ?_
      change wpAnyH _ _ _ _ _ _ _ _ w2.drew
      refine wpAnyH_take (i := 0) (oi := _) (v := .agg #[.int .i64 A, .int .i64 B, .int .i64 C]) rfl (by kernel_rfl) (by kernel_rfl) (by kernel_rfl) (fun _ _ _ h => h) (yieldsIf_row rfl 23 _ rfl w.heap.size rfl 23 _ (0, 0) _ (fun _ h => h.1) Tryd.underlying23 rfl (by kernel_rfl)) hdr ?_
      try (simp only [Act.put, List.setIfInBounds_toArray, List.set_cons_zero, List.set_cons_succ])
      refine wpAnyH_take (i := 2) (oi := _) (v := .agg #[.int .i64 A', .int .i64 B', .int .i64 C']) rfl (by kernel_rfl) (by kernel_rfl) (by kernel_rfl) (fun _ _ _ h => h) (yieldsIf_row rfl 23 _ rfl (w.heap.size + 1) rfl 23 _ (0, 0) _ (fun _ h => h.2.1) Tryd.underlying23 rfl (by kernel_rfl)) hdr ?_
      try (simp only [Act.put, List.setIfInBounds_toArray, List.set_cons_zero, List.set_cons_succ])
      refine wpAnyH_ready (rs := [1]) (by kernel_rfl) (by simp) ?_
      refine AllReadyH.cons (o := _) rfl (fun K1 hK => ?_) AllReadyH.nil
      go_simp
      go_at_call 57
      refine (lower_row _ _ _ _ (by assumption)).mono ?_
      rintro e u1 ⟨rfl, hd1⟩
      refine hK.out _ _ hd1 (fun _ => ?_)
      clear hK K1
      try (simp only [Act.put, List.setIfInBounds_toArray, List.set_cons_zero, List.set_cons_succ])
      clear hdr
      refine wpAnyH_ready (rs := [3]) (by kernel_rfl) (by simp) ?_
      refine AllReadyH.cons (o := _) rfl (fun K1 hK => ?_) AllReadyH.nil
      go_simp
      go_at_call 57
      refine (lower_row _ _ _ _ (by assumption)).mono ?_
      rintro e u3 ⟨rfl, hd3⟩
      refine hK.out _ _ hd3 (fun _ => ?_)
      clear hK K1
      try (simp only [Act.put, List.setIfInBounds_toArray, List.set_cons_zero, List.set_cons_succ])

      refine wpAnyH_ready (rs := [4]) (by kernel_rfl) (by simp) ?_
      refine AllReadyH.cons (o := _) rfl (fun K1 hK => ?_) AllReadyH.nil
      go_simp
      refine hK.out _ _ hd3 (fun _ => ?_)
      clear hK K1
      try (simp only [Act.put, List.setIfInBounds_toArray, List.set_cons_zero, List.set_cons_succ])
      refine wpAnyH_ready (rs := [5]) (by kernel_rfl) (by simp) ?_
      refine AllReadyH.cons (o := _) rfl (fun K1 hK => ?_) AllReadyH.nil
      go_simp
      refine hK.out _ _ hd3 (fun _ => ?_)
      clear hK K1
      try (simp only [Act.put, List.setIfInBounds_toArray, List.set_cons_zero, List.set_cons_succ])
      refine wpAnyH_ready (rs := [6]) (by kernel_rfl) (by simp) ?_
      refine AllReadyH.cons (o := _) rfl (fun K1 hK => ?_) AllReadyH.nil
      go_simp
      refine hK.out _ _ hd3 (fun _ => ?_)
      clear hK K1
      try (simp only [Act.put, List.setIfInBounds_toArray, List.set_cons_zero, List.set_cons_succ])
      refine wpAnyH_ready (rs := [7]) (by kernel_rfl) (by simp) ?_
      refine AllReadyH.cons (o := _) rfl (fun K1 hK => ?_) AllReadyH.nil
      go_simp
      refine hK.out _ _ hd3 (fun _ => ?_)
      clear hK K1
      try (simp only [Act.put, List.setIfInBounds_toArray, List.set_cons_zero, List.set_cons_succ])
      refine wpAnyH_ready (rs := [8]) (by kernel_rfl) (by simp) ?_
      refine AllReadyH.cons (o := _) rfl (fun K1 hK => ?_) AllReadyH.nil
      go_simp
      refine hK.out _ _ hd3 (fun _ => ?_)
      clear hK K1
      try (simp only [Act.put, List.setIfInBounds_toArray, List.set_cons_zero, List.set_cons_succ])
      refine wpAnyH_ready (rs := [9]) (by kernel_rfl) (by simp) ?_
      refine AllReadyH.cons (o := _) rfl (fun K1 hK => ?_) AllReadyH.nil
      go_simp
      refine hK.out _ _ hd3 (fun _ => ?_)
      clear hK K1
      try (simp only [Act.put, List.setIfInBounds_toArray, List.set_cons_zero, List.set_cons_succ])
      refine wpAnyH_done (by kernel_rfl) ?_ _
      have HH := Lib.hid hd3.cells
      have HTD2 := Lib.hid (TwoT.keep hd3.cells (Below.refl _ u3).drew)
      clear hd1 hd3 HT2 HTD HTR2 c0 c1 c2 c3 c4 c5
      all_goals
        by_cases hlt : B * A' < A * B'
        · have HO2 := Lib.hid (HO.out.trans (if_pos hlt))
          have hd : decide (B * A' < A * B') = true := decide_eq_true hlt
          go_wp2_with fail
          go_region_held3 (fun w2 => w2.cell? ⟨w.heap.size, 0, none⟩ = some (.int .i64 A) ∧ w2.cell? ⟨w.heap.size, 1, none⟩ = some (.int .i64 B) ∧ w2.cell? ⟨w.heap.size, 2, none⟩ = some (.int .i64 C) ∧ w2.cell? ⟨w.heap.size + 1, 0, none⟩ = some (.int .i64 A') ∧ w2.cell? ⟨w.heap.size + 1, 1, none⟩ = some (.int .i64 B') ∧ w2.cell? ⟨w.heap.size + 1, 2, none⟩ = some (.int .i64 C') ∧ Below w.heap.size w w2 ∧ w.heap.size + 1 < w2.heap.size) (first | assumption | exact HTD2.out | exact HH.out) (first | (go_at_call 57; refine (lower_box _ _ _ _ (by assumption)).mono ?_; rintro e w3 ⟨rfl, hd⟩))
          all_goals
            rename_i w4 hHeld
            go_wp2_with fail
            go_ret2
            exact ⟨by rw [HO2.out]; rfl, hHeld.2.2.2.2.2.2.1⟩
        · have HO2 := Lib.hid (HO.out.trans (if_neg hlt))
          have hd : decide (B * A' < A * B') = false := decide_eq_false hlt
          go_wp2_with fail
          go_region_held3 (fun w2 => w2.cell? ⟨w.heap.size, 0, none⟩ = some (.int .i64 A) ∧ w2.cell? ⟨w.heap.size, 1, none⟩ = some (.int .i64 B) ∧ w2.cell? ⟨w.heap.size, 2, none⟩ = some (.int .i64 C) ∧ w2.cell? ⟨w.heap.size + 1, 0, none⟩ = some (.int .i64 A') ∧ w2.cell? ⟨w.heap.size + 1, 1, none⟩ = some (.int .i64 B') ∧ w2.cell? ⟨w.heap.size + 1, 2, none⟩ = some (.int .i64 C') ∧ Below w.heap.size w w2 ∧ w.heap.size + 1 < w2.heap.size) (first | assumption | exact HTD2.out | exact HH.out) (first | (go_at_call 57; refine (lower_box _ _ _ _ (by assumption)).mono ?_; rintro e w3 ⟨rfl, hd⟩))
          all_goals
            rename_i w4 hHeld
            go_wp2_with fail
            go_ret2
            exact ⟨by rw [HO2.out]; rfl, hHeld.2.2.2.2.2.2.1⟩
end Go.Proofs.YtggcbblikgankaaDoor
end
section
/- OptionsTolerance: the walk. -/
namespace Go.Proofs.YtggcbblikgankaaDoor
open Go Go.RowKit

theorem setCell_block {w : World} {g i : Nat} {cs : Array Value} {t : TypeId} {fr : Nat × Nat} (h : w.heap[g]? = some (.cells cs t fr)) (v : Value) : (w.setCell ⟨g, i, none⟩ v).heap[g]? = some (.cells (cs.setIfInBounds i v) t fr) := by
  simp [World.setCell, Array.getElem?_modify, h]
/-- A work's cells with another tolerance. -/
def tolA (ws : Array Value) (x y z : Int) : Array Value := ((ws.setIfInBounds 2 (.int .i64 x)).setIfInBounds 3 (.int .i64 y)).setIfInBounds 4 (.int .i64 z)
def tolK (k : Wrk) (x y z : Int) : Wrk := { k with ta := x, tb := y, tc := z }
theorem WkAt.tol {k : Wrk} {ws : Array Value} {w : World} (h : WkAt k ws w) (x y z : Int) : WkAt (tolK k x y z) (tolA ws x y z) w := by
  obtain ⟨aR, aT, aP, aX, aS, cR, cT, cP, cX, cS, rfl, hR, hT, hP, hX, hS⟩ := h
  exact ⟨aR, aT, aP, aX, aS, cR, cT, cP, cX, cS, rfl, hR, hT, hP, hX, hS⟩
noncomputable def part6n3 : Code := lastPart 3 code6
noncomputable def part6n4 : Code := lastPart 4 code6
noncomputable def part6n5 : Code := lastPart 5 code6
noncomputable def part6n6 : Code := lastPart 6 code6
noncomputable def part6n7 : Code := lastPart 7 code6
noncomputable def part6n9 : Code := lastPart 9 code6
noncomputable def part6n10 : Code := lastPart 10 code6
noncomputable def part6n12 : Code := lastPart 12 code6
set_option maxRecDepth 100000 in
set_option maxHeartbeats 8000000 in
theorem tol_make (p q : Nat) (ok : Bool) (x y z er : Int) (hmk : makV ((p % 128 : Nat) : Int) ((q % 128 : Nat) : Int) = .tuple #[.agg #[.int .i64 x, .int .i64 y, .int .i64 z], .int .i64 er]) (A K : Nat) (w3 : World) (e0 e1 e2 e6 e8 e9 e10 e13 e14 e15 e16 e17 e18 e19 e20 e21 e22 e23 e24 e25 e26 e27 e28 e29 e30 e31 e32 e33 e34 e35 e36 e37 e38 e39 e40 e41 e42 e43 e44 e45 e46 e47 e48 e49 e50 e51 e52 e53 e54 e55 e56 e57 e58 e59 e60 e61 e62 e63 e64 e65 e66 e67 e68 e69 e70 e71 e72 e73 e74 e75 e76 e77 e78 e79 e80 e81 e82 e83 e84 e85 e86 e87 e88 e89 e90 e91 e92 e93 e94 e95 e96 e97 e98 e99 e100 e101 e102 e103 e104 e105 e106 e107 e108 e109 e110 e111 e112 e113 e114 e115 e116 e117 e118 e119 e120 e121 : Value) (R : Ending → World → Prop) (X : Code)
    (hX : ∀ (w4 : World) (T : Nat) (e0 e1 e2 e3 e4 e6 e8 e9 e10 e15 e16 e17 e18 e19 e20 e21 e22 e23 e24 e25 e26 e27 e28 e29 e30 e31 e32 e33 e34 e35 e36 e37 e38 e39 e40 e41 e42 e43 e44 e45 e46 e47 e48 e49 e50 e51 e52 e53 e54 e55 e56 e57 e58 e59 e60 e61 e62 e63 e64 e65 e66 e67 e68 e69 e70 e71 e72 e73 e74 e75 e76 e77 e78 e79 e80 e81 e82 e83 e84 e85 e86 e87 e88 e89 e90 e91 e92 e93 e94 e95 e96 e97 e98 e99 e100 e101 e102 e103 e104 e105 e106 e107 e108 e109 e110 e111 e112 e113 e114 e115 e116 e117 e118 e119 e120 e121 : Value), Below w3.heap.size w3 w4 → w3.heap.size ≤ T → w4.heap[T]? = some (.cells #[.int .i64 x, .int .i64 y, .int .i64 z] 23 (0, 0)) → Code.wp Tryd.prog X (bodyPost Tryd.prog Tryd.f6 R) { tmps := #[e0, e1, e2, e3, e4, .pointer (some ⟨A, 0, none⟩), e6, .pointer (some ⟨A + 1, 0, none⟩), e8, e9, e10, .pointer (some ⟨K, 0, none⟩), .bool ok, .pointer (some ⟨T, 0, none⟩), .int .i64 er, e15, e16, e17, e18, e19, e20, e21, e22, e23, e24, e25, e26, e27, e28, e29, e30, e31, e32, e33, e34, e35, e36, e37, e38, e39, e40, e41, e42, e43, e44, e45, e46, e47, e48, e49, e50, e51, e52, e53, e54, e55, e56, e57, e58, e59, e60, e61, e62, e63, e64, e65, e66, e67, e68, e69, e70, e71, e72, e73, e74, e75, e76, e77, e78, e79, e80, e81, e82, e83, e84, e85, e86, e87, e88, e89, e90, e91, e92, e93, e94, e95, e96, e97, e98, e99, e100, e101, e102, e103, e104, e105, e106, e107, e108, e109, e110, e111, e112, e113, e114, e115, e116, e117, e118, e119, e120, e121], defers := [] } w4) :
    Code.wp Tryd.prog (withLast 1 part6n3 X) (bodyPost Tryd.prog Tryd.f6 R) { tmps := #[e0, e1, e2, .int .u8 (p : Nat), .int .u8 (q : Nat), .pointer (some ⟨A, 0, none⟩), e6, .pointer (some ⟨A + 1, 0, none⟩), e8, e9, e10, .pointer (some ⟨K, 0, none⟩), .bool ok, e13, e14, e15, e16, e17, e18, e19, e20, e21, e22, e23, e24, e25, e26, e27, e28, e29, e30, e31, e32, e33, e34, e35, e36, e37, e38, e39, e40, e41, e42, e43, e44, e45, e46, e47, e48, e49, e50, e51, e52, e53, e54, e55, e56, e57, e58, e59, e60, e61, e62, e63, e64, e65, e66, e67, e68, e69, e70, e71, e72, e73, e74, e75, e76, e77, e78, e79, e80, e81, e82, e83, e84, e85, e86, e87, e88, e89, e90, e91, e92, e93, e94, e95, e96, e97, e98, e99, e100, e101, e102, e103, e104, e105, e106, e107, e108, e109, e110, e111, e112, e113, e114, e115, e116, e117, e118, e119, e120, e121], defers := [] } w3 := by
  have hp : p % 128 < 128 := Nat.mod_lt _ (by omega)
  have hq : q % 128 < 128 := Nat.mod_lt _ (by omega)
  have hm := make_any ((p % 128 : Nat) : Int) ((q % 128 : Nat) : Int) (by omega) (by omega) w3
  rw [hmk] at hm
  have hmod1 : ((p : Int)).tmod 128 = ((p % 128 : Nat) : Int) := rfl
  have hmod2 : ((q : Int)).tmod 128 = ((q % 128 : Nat) : Int) := rfl
  have hcv1 : IntKind.i64.wrap ((p % 128 : Nat) : Int) = ((p % 128 : Nat) : Int) := IntWalk.i64_in _ (by omega)
  have hcv2 : IntKind.i64.wrap ((q % 128 : Nat) : Int) = ((q % 128 : Nat) : Int) := IntWalk.i64_in _ (by omega)
  have HM := Lib.hid hm; have HX := Lib.hid hX
  clear hm hX hmk
  generalize p % 128 = p7 at *
  generalize q % 128 = q7 at *
  unfold part6n3 code6
  conv => arg 2; whnf
  simp only [withLast]
  go_wp2_with fail
  refine HM.out.mono ?_
  rintro e w4 ⟨rfl, b4⟩
  have B4 := Lib.hid b4
  clear b4 HM
  go_wp2_with (refine wpList_store_row rfl 23 _ _ rfl w4.heap.size #[.int .i64 x, .int .i64 y, .int .i64 z] rfl rfl 23 _ (heap_alloc_new w4 _) (by kernel_rfl) rfl (by simp [Value.oneCell']) ?_; rw [World.setRow_alloc_new])
  exact HX.out _ w4.heap.size _ _ _ _ _ _ _ _ _ _ _ _ _ _ _ _ _ _ _ _ _ _ _ _ _ _ _ _ _ _ _ _ _ _ _ _ _ _ _ _ _ _ _ _ _ _ _ _ _ _ _ _ _ _ _ _ _ _ _ _ _ _ _ _ _ _ _ _ _ _ _ _ _ _ _ _ _ _ _ _ _ _ _ _ _ _ _ _ _ _ _ _ _ _ _ _ _ _ _ _ _ _ _ _ _ _ _ _ _ _ _ _ _ _ _ _ (B4.out.alloc B4.out.size _) B4.out.size (heap_alloc_new w4 _)
set_option maxRecDepth 100000 in
set_option maxHeartbeats 8000000 in
theorem tol_guards (k : Wrk) (b : Bod) (hbn : b.name.length ≤ maxLen) (ok : Bool) (er : Int) (ws : Array Value) (A K T : Nat) (w3 : World) (hE : Env w3) (hW : WkAt k ws w3) (g0 : w3.heap[A]? = some (.cells ws 32 (0, 0))) (g1 : w3.heap[A + 1]? = some (.cells (bodCells b) 36 (0, 0))) (e0 e1 e2 e3 e4 e6 e8 e9 e10 e15 e16 e17 e18 e19 e20 e21 e22 e23 e24 e25 e26 e27 e28 e29 e30 e31 e32 e33 e34 e35 e36 e37 e38 e39 e40 e41 e42 e43 e44 e45 e46 e47 e48 e49 e50 e51 e52 e53 e54 e55 e56 e57 e58 e59 e60 e61 e62 e63 e64 e65 e66 e67 e68 e69 e70 e71 e72 e73 e74 e75 e76 e77 e78 e79 e80 e81 e82 e83 e84 e85 e86 e87 e88 e89 e90 e91 e92 e93 e94 e95 e96 e97 e98 e99 e100 e101 e102 e103 e104 e105 e106 e107 e108 e109 e110 e111 e112 e113 e114 e115 e116 e117 e118 e119 e120 e121 : Value) (R : Ending → World → Prop) (X : Code)
    (hT : ∀ w', Below w3.heap.size w3 w' → R (.returned (.bool true)) w')
    (hX : ok = true → er = 0 → wrkE k = 0 → bodB b = true → ∀ (w4 : World) (e0 e1 e2 e3 e4 e6 e8 e9 e10 e12 e14 e15 e16 e17 e18 e19 e20 e21 e22 e23 e24 e25 e26 e27 e28 e29 e30 e31 e32 e33 e34 e35 e36 e37 e38 e39 e40 e41 e42 e43 e44 e45 e46 e47 e48 e49 e50 e51 e52 e53 e54 e55 e56 e57 e58 e59 e60 e61 e62 e63 e64 e65 e66 e67 e68 e69 e70 e71 e72 e73 e74 e75 e76 e77 e78 e79 e80 e81 e82 e83 e84 e85 e86 e87 e88 e89 e90 e91 e92 e93 e94 e95 e96 e97 e98 e99 e100 e101 e102 e103 e104 e105 e106 e107 e108 e109 e110 e111 e112 e113 e114 e115 e116 e117 e118 e119 e120 e121 : Value), Below w3.heap.size w3 w4 → Code.wp Tryd.prog X (bodyPost Tryd.prog Tryd.f6 R) { tmps := #[e0, e1, e2, e3, e4, .pointer (some ⟨A, 0, none⟩), e6, .pointer (some ⟨A + 1, 0, none⟩), e8, e9, e10, .pointer (some ⟨K, 0, none⟩), e12, .pointer (some ⟨T, 0, none⟩), e14, e15, e16, e17, e18, e19, e20, e21, e22, e23, e24, e25, e26, e27, e28, e29, e30, e31, e32, e33, e34, e35, e36, e37, e38, e39, e40, e41, e42, e43, e44, e45, e46, e47, e48, e49, e50, e51, e52, e53, e54, e55, e56, e57, e58, e59, e60, e61, e62, e63, e64, e65, e66, e67, e68, e69, e70, e71, e72, e73, e74, e75, e76, e77, e78, e79, e80, e81, e82, e83, e84, e85, e86, e87, e88, e89, e90, e91, e92, e93, e94, e95, e96, e97, e98, e99, e100, e101, e102, e103, e104, e105, e106, e107, e108, e109, e110, e111, e112, e113, e114, e115, e116, e117, e118, e119, e120, e121], defers := [] } w4) :
    Code.wp Tryd.prog (withLast 1 part6n4 X) (bodyPost Tryd.prog Tryd.f6 R) { tmps := #[e0, e1, e2, e3, e4, .pointer (some ⟨A, 0, none⟩), e6, .pointer (some ⟨A + 1, 0, none⟩), e8, e9, e10, .pointer (some ⟨K, 0, none⟩), .bool ok, .pointer (some ⟨T, 0, none⟩), .int .i64 er, e15, e16, e17, e18, e19, e20, e21, e22, e23, e24, e25, e26, e27, e28, e29, e30, e31, e32, e33, e34, e35, e36, e37, e38, e39, e40, e41, e42, e43, e44, e45, e46, e47, e48, e49, e50, e51, e52, e53, e54, e55, e56, e57, e58, e59, e60, e61, e62, e63, e64, e65, e66, e67, e68, e69, e70, e71, e72, e73, e74, e75, e76, e77, e78, e79, e80, e81, e82, e83, e84, e85, e86, e87, e88, e89, e90, e91, e92, e93, e94, e95, e96, e97, e98, e99, e100, e101, e102, e103, e104, e105, e106, e107, e108, e109, e110, e111, e112, e113, e114, e115, e116, e117, e118, e119, e120, e121], defers := [] } w3 := by
  have hs := hW.size
  have hf := hW.few
  have hc := fun (W : World) (hB : Below w3.heap.size w3 W) => (hW.below hB (Nat.le_refl _)).check (hE.below hB)
  have hbc := fun (W : World) => bcheck_any b hbn W
  have HS := Lib.hid hs; have G0 := Lib.hid g0; have G1 := Lib.hid g1; have HF := Lib.hid hf; have HC := Lib.hid hc; have HBC := Lib.hid hbc; have HX := Lib.hid hX; have HT := Lib.hid hT
  have HA := Lib.hid (Array.getElem?_eq_some_iff.1 g0).1
  have HA1 := Lib.hid (Array.getElem?_eq_some_iff.1 g1).1
  clear hs g0 g1 hf hc hbc hX hT hW hE
  generalize fewB k = fw at *
  generalize wrkE k = we at *
  unfold part6n4 code6
  conv => arg 2; whnf
  simp only [withLast]
  go_wp2_with ((refine wpList_load_row rfl 32 _ rfl A rfl 32 _ (0, 0) _ G0.out Tryd.underlying32 rfl HS.out ?_; simp only [Act.put, List.setIfInBounds_toArray, List.set_cons_zero, List.set_cons_succ]))
  refine (HF.out w3).mono ?_
  rintro e w4 ⟨rfl, b4⟩
  have B4 := Lib.hid b4
  have H0 := Lib.hid ((b4.block A HA.out).trans G0.out)
  clear b4 G0 HF
  cases fw with
  | false =>
    go_wp2_with fail
    first | exact HT.out _ B4.out | (go_ret; exact HT.out _ B4.out)
  | true =>
  cases ok with
  | false =>
    go_wp2_with fail
    first | exact HT.out _ B4.out | (go_ret; exact HT.out _ B4.out)
  | true =>
  by_cases her : er = 0
  · have herz : (er != 0) = false := by simp [her]
    have HER := Lib.hid her
    clear her
    go_wp2_with ((refine wpList_load_row_at rfl 32 _ rfl A rfl 32 _ (0, 0) _ H0.out Tryd.underlying32 rfl HS.out ?_; simp only [Act.put, List.setIfInBounds_toArray, List.set_cons_zero, List.set_cons_succ]))
    refine (HC.out w4 B4.out).mono ?_
    rintro e w5 ⟨rfl, b5⟩
    have B5 := Lib.hid (B4.out.trans (b5.mono B4.out.size))
    have H1 := Lib.hid ((B5.out.block (A + 1) HA1.out).trans G1.out)
    clear b5 B4 H0 HC G1
    by_cases hwe : we = 0
    · have hwz : (we != 0) = false := by simp [hwe]
      have HWE := Lib.hid hwe
      clear hwe
      go_wp2_with ((refine wpList_load_row_at rfl 36 _ rfl (A + 1) rfl 36 (bodCells b) (0, 0) _ H1.out Tryd.underlying36 rfl (by kernel_rfl) ?_; simp only [Act.put, List.setIfInBounds_toArray, List.set_cons_zero, List.set_cons_succ]))
      refine (HBC.out w5).mono ?_
      rintro e w6 ⟨rfl, b6⟩
      have B6 := Lib.hid (B5.out.trans (b6.mono B5.out.size))
      clear b6 B5 H1 HBC
      cases hbb : bodB b with
      | false =>
        have hq : (codeI false 250 != 0) = true := rfl
        go_wp2_with fail
        first | exact HT.out _ B6.out | (go_ret; exact HT.out _ B6.out)
      | true =>
        have hq : (codeI true 250 != 0) = false := rfl
        go_wp2_with fail
        exact HX.out (by first | rfl | trivial) (by first | exact HER.out | trivial) (by first | exact HWE.out | trivial) (by first | exact hbb | rfl | trivial) _ _ _ _ _ _ _ _ _ _ _ _ _ _ _ _ _ _ _ _ _ _ _ _ _ _ _ _ _ _ _ _ _ _ _ _ _ _ _ _ _ _ _ _ _ _ _ _ _ _ _ _ _ _ _ _ _ _ _ _ _ _ _ _ _ _ _ _ _ _ _ _ _ _ _ _ _ _ _ _ _ _ _ _ _ _ _ _ _ _ _ _ _ _ _ _ _ _ _ _ _ _ _ _ _ _ _ _ _ _ _ _ _ _ _ _ _ _ _ B6.out
    · have hwz : (we != 0) = true := by simpa using hwe
      clear hwe
      go_wp2_with fail
      first | exact HT.out _ B5.out | (go_ret; exact HT.out _ B5.out)
  · have herz : (er != 0) = true := by simpa using her
    clear her
    go_wp2_with fail
    first | exact HT.out _ B4.out | (go_ret; exact HT.out _ B4.out)
set_option maxRecDepth 100000 in
set_option maxHeartbeats 8000000 in
theorem tol_copy (k : Wrk) (ws : Array Value) (A K T : Nat) (w3 : World) (hW : WkAt k ws w3) (g0 : w3.heap[A]? = some (.cells ws 32 (0, 0))) (e0 e1 e2 e3 e4 e6 e8 e9 e10 e12 e14 e15 e16 e17 e18 e19 e20 e21 e22 e23 e24 e25 e26 e27 e28 e29 e30 e31 e32 e33 e34 e35 e36 e37 e38 e39 e40 e41 e42 e43 e44 e45 e46 e47 e48 e49 e50 e51 e52 e53 e54 e55 e56 e57 e58 e59 e60 e61 e62 e63 e64 e65 e66 e67 e68 e69 e70 e71 e72 e73 e74 e75 e76 e77 e78 e79 e80 e81 e82 e83 e84 e85 e86 e87 e88 e89 e90 e91 e92 e93 e94 e95 e96 e97 e98 e99 e100 e101 e102 e103 e104 e105 e106 e107 e108 e109 e110 e111 e112 e113 e114 e115 e116 e117 e118 e119 e120 e121 : Value) (R : Ending → World → Prop) (X : Code)
    (hX : ∀ (w4 : World) (M : Nat) (e0 e1 e2 e3 e4 e6 e8 e9 e10 e12 e14 e16 e17 e18 e19 e20 e21 e22 e23 e24 e25 e26 e27 e28 e29 e30 e31 e32 e33 e34 e35 e36 e37 e38 e39 e40 e41 e42 e43 e44 e45 e46 e47 e48 e49 e50 e51 e52 e53 e54 e55 e56 e57 e58 e59 e60 e61 e62 e63 e64 e65 e66 e67 e68 e69 e70 e71 e72 e73 e74 e75 e76 e77 e78 e79 e80 e81 e82 e83 e84 e85 e86 e87 e88 e89 e90 e91 e92 e93 e94 e95 e96 e97 e98 e99 e100 e101 e102 e103 e104 e105 e106 e107 e108 e109 e110 e111 e112 e113 e114 e115 e116 e117 e118 e119 e120 e121 : Value), Below w3.heap.size w3 w4 → w4.heap[M]? = some (.cells ws 32 (0, 0)) → w3.heap.size ≤ M → Code.wp Tryd.prog X (bodyPost Tryd.prog Tryd.f6 R) { tmps := #[e0, e1, e2, e3, e4, .pointer (some ⟨A, 0, none⟩), e6, .pointer (some ⟨A + 1, 0, none⟩), e8, e9, e10, .pointer (some ⟨K, 0, none⟩), e12, .pointer (some ⟨T, 0, none⟩), e14, .pointer (some ⟨M, 0, none⟩), e16, e17, e18, e19, e20, e21, e22, e23, e24, e25, e26, e27, e28, e29, e30, e31, e32, e33, e34, e35, e36, e37, e38, e39, e40, e41, e42, e43, e44, e45, e46, e47, e48, e49, e50, e51, e52, e53, e54, e55, e56, e57, e58, e59, e60, e61, e62, e63, e64, e65, e66, e67, e68, e69, e70, e71, e72, e73, e74, e75, e76, e77, e78, e79, e80, e81, e82, e83, e84, e85, e86, e87, e88, e89, e90, e91, e92, e93, e94, e95, e96, e97, e98, e99, e100, e101, e102, e103, e104, e105, e106, e107, e108, e109, e110, e111, e112, e113, e114, e115, e116, e117, e118, e119, e120, e121], defers := [] } w4) :
    Code.wp Tryd.prog (withLast 1 part6n5 X) (bodyPost Tryd.prog Tryd.f6 R) { tmps := #[e0, e1, e2, e3, e4, .pointer (some ⟨A, 0, none⟩), e6, .pointer (some ⟨A + 1, 0, none⟩), e8, e9, e10, .pointer (some ⟨K, 0, none⟩), e12, .pointer (some ⟨T, 0, none⟩), e14, e15, e16, e17, e18, e19, e20, e21, e22, e23, e24, e25, e26, e27, e28, e29, e30, e31, e32, e33, e34, e35, e36, e37, e38, e39, e40, e41, e42, e43, e44, e45, e46, e47, e48, e49, e50, e51, e52, e53, e54, e55, e56, e57, e58, e59, e60, e61, e62, e63, e64, e65, e66, e67, e68, e69, e70, e71, e72, e73, e74, e75, e76, e77, e78, e79, e80, e81, e82, e83, e84, e85, e86, e87, e88, e89, e90, e91, e92, e93, e94, e95, e96, e97, e98, e99, e100, e101, e102, e103, e104, e105, e106, e107, e108, e109, e110, e111, e112, e113, e114, e115, e116, e117, e118, e119, e120, e121], defers := [] } w3 := by
  have hs := hW.size
  obtain ⟨ones, zs⟩ : ws.all (·.oneCell') = true ∧ ws.size = 11 := by
    obtain ⟨aR, aT, aP, aX, aS, cR, cT, cP, cX, cS, rfl, _⟩ := hW
    exact ⟨by simp [Value.oneCell'], rfl⟩
  have hbM : Below w3.heap.size w3 (w3.alloc (.cells ws 32)) := (Below.refl _ w3).alloc (Nat.le_refl _) _
  have HS := Lib.hid hs; have G0 := Lib.hid g0; have HX := Lib.hid hX; have HBM := Lib.hid hbM; have HO := Lib.hid ones; have HZ := Lib.hid zs
  clear hs g0 hX hW hbM ones zs
  unfold part6n5 code6
  conv => arg 2; whnf
  simp only [withLast]
  go_wp2_with (first | (refine wpList_load_row rfl 32 _ rfl A rfl 32 _ (0, 0) _ G0.out Tryd.underlying32 rfl HS.out ?_; simp only [Act.put, List.setIfInBounds_toArray, List.set_cons_zero, List.set_cons_succ]) | (refine wpList_store_row rfl 32 _ _ rfl w3.heap.size ws rfl rfl 32 _ (heap_alloc_new w3 _) HS.out (by rw [HZ.out]; rfl) HO.out ?_; rw [World.setRow_alloc_new]))
  exact HX.out _ w3.heap.size _ _ _ _ _ _ _ _ _ _ _ _ _ _ _ _ _ _ _ _ _ _ _ _ _ _ _ _ _ _ _ _ _ _ _ _ _ _ _ _ _ _ _ _ _ _ _ _ _ _ _ _ _ _ _ _ _ _ _ _ _ _ _ _ _ _ _ _ _ _ _ _ _ _ _ _ _ _ _ _ _ _ _ _ _ _ _ _ _ _ _ _ _ _ _ _ _ _ _ _ _ _ _ _ _ _ _ _ _ _ _ _ _ _ _ _ _ HBM.out (heap_alloc_new w3 _) (Nat.le_refl _)
set_option maxRecDepth 100000 in
set_option maxHeartbeats 8000000 in
theorem tol_set (k : Wrk) (x y z : Int) (ws : Array Value) (A K T M n0 : Nat) (hM : n0 ≤ M) (w0 w3 : World) (hB : Below n0 w0 w3) (h2 : ws[2]? = some (.int .i64 k.ta)) (h3 : ws[3]? = some (.int .i64 k.tb)) (h4 : ws[4]? = some (.int .i64 k.tc)) (gM : w3.heap[M]? = some (.cells ws 32 (0, 0))) (g3 : w3.heap[T]? = some (.cells #[.int .i64 x, .int .i64 y, .int .i64 z] 23 (0, 0))) (e0 e1 e2 e3 e4 e6 e8 e9 e10 e12 e14 e16 e17 e18 e19 e20 e21 e22 e23 e24 e25 e26 e27 e28 e29 e30 e31 e32 e33 e34 e35 e36 e37 e38 e39 e40 e41 e42 e43 e44 e45 e46 e47 e48 e49 e50 e51 e52 e53 e54 e55 e56 e57 e58 e59 e60 e61 e62 e63 e64 e65 e66 e67 e68 e69 e70 e71 e72 e73 e74 e75 e76 e77 e78 e79 e80 e81 e82 e83 e84 e85 e86 e87 e88 e89 e90 e91 e92 e93 e94 e95 e96 e97 e98 e99 e100 e101 e102 e103 e104 e105 e106 e107 e108 e109 e110 e111 e112 e113 e114 e115 e116 e117 e118 e119 e120 e121 : Value) (R : Ending → World → Prop) (X : Code)
    (hX : ∀ (w4 : World) (e0 e1 e2 e3 e4 e6 e8 e9 e10 e12 e14 e16 e17 e18 e19 e20 e21 e22 e23 e24 e25 e26 e27 e28 e29 e30 e31 e32 e33 e34 e35 e36 e37 e38 e39 e40 e41 e42 e43 e44 e45 e46 e47 e48 e49 e50 e51 e52 e53 e54 e55 e56 e57 e58 e59 e60 e61 e62 e63 e64 e65 e66 e67 e68 e69 e70 e71 e72 e73 e74 e75 e76 e77 e78 e79 e80 e81 e82 e83 e84 e85 e86 e87 e88 e89 e90 e91 e92 e93 e94 e95 e96 e97 e98 e99 e100 e101 e102 e103 e104 e105 e106 e107 e108 e109 e110 e111 e112 e113 e114 e115 e116 e117 e118 e119 e120 e121 : Value), Below n0 w0 w4 → w4.heap[M]? = some (.cells (tolA ws x y z) 32 (0, 0)) → Code.wp Tryd.prog X (bodyPost Tryd.prog Tryd.f6 R) { tmps := #[e0, e1, e2, e3, e4, .pointer (some ⟨A, 0, none⟩), e6, .pointer (some ⟨A + 1, 0, none⟩), e8, e9, e10, .pointer (some ⟨K, 0, none⟩), e12, .pointer (some ⟨T, 0, none⟩), e14, .pointer (some ⟨M, 0, none⟩), e16, e17, e18, e19, e20, e21, e22, e23, e24, e25, e26, e27, e28, e29, e30, e31, e32, e33, e34, e35, e36, e37, e38, e39, e40, e41, e42, e43, e44, e45, e46, e47, e48, e49, e50, e51, e52, e53, e54, e55, e56, e57, e58, e59, e60, e61, e62, e63, e64, e65, e66, e67, e68, e69, e70, e71, e72, e73, e74, e75, e76, e77, e78, e79, e80, e81, e82, e83, e84, e85, e86, e87, e88, e89, e90, e91, e92, e93, e94, e95, e96, e97, e98, e99, e100, e101, e102, e103, e104, e105, e106, e107, e108, e109, e110, e111, e112, e113, e114, e115, e116, e117, e118, e119, e120, e121], defers := [] } w4) :
    Code.wp Tryd.prog (withLast 1 part6n6 X) (bodyPost Tryd.prog Tryd.f6 R) { tmps := #[e0, e1, e2, e3, e4, .pointer (some ⟨A, 0, none⟩), e6, .pointer (some ⟨A + 1, 0, none⟩), e8, e9, e10, .pointer (some ⟨K, 0, none⟩), e12, .pointer (some ⟨T, 0, none⟩), e14, .pointer (some ⟨M, 0, none⟩), e16, e17, e18, e19, e20, e21, e22, e23, e24, e25, e26, e27, e28, e29, e30, e31, e32, e33, e34, e35, e36, e37, e38, e39, e40, e41, e42, e43, e44, e45, e46, e47, e48, e49, e50, e51, e52, e53, e54, e55, e56, e57, e58, e59, e60, e61, e62, e63, e64, e65, e66, e67, e68, e69, e70, e71, e72, e73, e74, e75, e76, e77, e78, e79, e80, e81, e82, e83, e84, e85, e86, e87, e88, e89, e90, e91, e92, e93, e94, e95, e96, e97, e98, e99, e100, e101, e102, e103, e104, e105, e106, e107, e108, e109, e110, e111, e112, e113, e114, e115, e116, e117, e118, e119, e120, e121], defers := [] } w3 := by
  have m2 : w3.cell? ⟨M, 2, none⟩ = some (.int .i64 k.ta) := cell_at gM 2 h2
  have m3 : w3.cell? ⟨M, 3, none⟩ = some (.int .i64 k.tb) := cell_at gM 3 h3
  have m4 : w3.cell? ⟨M, 4, none⟩ = some (.int .i64 k.tc) := cell_at gM 4 h4
  have q2 := free_at gM 2
  have q3 := free_at gM 3
  have q4 := free_at gM 4
  have c0 : w3.cell? ⟨T, 0, none⟩ = some (.int .i64 x) := cell_at g3 0 rfl
  have c1 : w3.cell? ⟨T, 1, none⟩ = some (.int .i64 y) := cell_at g3 1 rfl
  have c2 : w3.cell? ⟨T, 2, none⟩ = some (.int .i64 z) := cell_at g3 2 rfl
  have HX := Lib.hid hX; have GM := Lib.hid gM; have HB := Lib.hid hB; have HM := Lib.hid hM
  clear hX gM g3 hB h2 h3 h4 hM
  unfold part6n6 code6
  conv => arg 2; whnf
  simp only [withLast]
  go_wp2_with fail
  refine HX.out _ _ _ _ _ _ _ _ _ _ _ _ _ _ _ _ _ _ _ _ _ _ _ _ _ _ _ _ _ _ _ _ _ _ _ _ _ _ _ _ _ _ _ _ _ _ _ _ _ _ _ _ _ _ _ _ _ _ _ _ _ _ _ _ _ _ _ _ _ _ _ _ _ _ _ _ _ _ _ _ _ _ _ _ _ _ _ _ _ _ _ _ _ _ _ _ _ _ _ _ _ _ _ _ _ _ _ _ _ _ _ _ _ _ _ _ _ _ (((HB.out.setCell (p := ⟨M, 2, none⟩) HM.out _).setCell (p := ⟨M, 3, none⟩) HM.out _).setCell (p := ⟨M, 4, none⟩) HM.out _) ?_
  exact setCell_block (setCell_block (setCell_block GM.out _) _) _
set_option maxRecDepth 100000 in
set_option maxHeartbeats 8000000 in
theorem tol_order (k : Wrk) (x y z : Int) (hta : 0 ≤ k.ta) (htb : 0 ≤ k.tb) (h1 : trnB k.ta k.tb k.tc = true) (h2 : trnB x y z = true) (A K T M : Nat) (w3 : World) (a2 : w3.cell? ⟨A, 2, none⟩ = some (.int .i64 k.ta)) (a3 : w3.cell? ⟨A, 3, none⟩ = some (.int .i64 k.tb)) (a4 : w3.cell? ⟨A, 4, none⟩ = some (.int .i64 k.tc)) (g3 : w3.heap[T]? = some (.cells #[.int .i64 x, .int .i64 y, .int .i64 z] 23 (0, 0))) (e0 e1 e2 e3 e4 e6 e8 e9 e10 e12 e14 e16 e17 e18 e19 e20 e21 e22 e23 e24 e25 e26 e27 e28 e29 e30 e31 e32 e33 e34 e35 e36 e37 e38 e39 e40 e41 e42 e43 e44 e45 e46 e47 e48 e49 e50 e51 e52 e53 e54 e55 e56 e57 e58 e59 e60 e61 e62 e63 e64 e65 e66 e67 e68 e69 e70 e71 e72 e73 e74 e75 e76 e77 e78 e79 e80 e81 e82 e83 e84 e85 e86 e87 e88 e89 e90 e91 e92 e93 e94 e95 e96 e97 e98 e99 e100 e101 e102 e103 e104 e105 e106 e107 e108 e109 e110 e111 e112 e113 e114 e115 e116 e117 e118 e119 e120 e121 : Value) (R : Ending → World → Prop) (X : Code)
    (hX : ∀ (w4 : World) (e0 e1 e2 e3 e4 e6 e8 e9 e10 e12 e14 e17 e18 e19 e20 e21 e22 e23 e24 e25 e26 e27 e28 e29 e30 e31 e32 e33 e34 e35 e36 e37 e38 e39 e40 e41 e42 e43 e44 e45 e46 e47 e48 e49 e50 e51 e52 e53 e54 e55 e56 e57 e58 e59 e60 e61 e62 e63 e64 e65 e66 e67 e68 e69 e70 e71 e72 e73 e74 e75 e76 e77 e78 e79 e80 e81 e82 e83 e84 e85 e86 e87 e88 e89 e90 e91 e92 e93 e94 e95 e96 e97 e98 e99 e100 e101 e102 e103 e104 e105 e106 e107 e108 e109 e110 e111 e112 e113 e114 e115 e116 e117 e118 e119 e120 e121 : Value), Below w3.heap.size w3 w4 → Code.wp Tryd.prog X (bodyPost Tryd.prog Tryd.f6 R) { tmps := #[e0, e1, e2, e3, e4, .pointer (some ⟨A, 0, none⟩), e6, .pointer (some ⟨A + 1, 0, none⟩), e8, e9, e10, .pointer (some ⟨K, 0, none⟩), e12, .pointer (some ⟨T, 0, none⟩), e14, .pointer (some ⟨M, 0, none⟩), .int .i64 (ordI k.ta k.tb k.tc x y z), e17, e18, e19, e20, e21, e22, e23, e24, e25, e26, e27, e28, e29, e30, e31, e32, e33, e34, e35, e36, e37, e38, e39, e40, e41, e42, e43, e44, e45, e46, e47, e48, e49, e50, e51, e52, e53, e54, e55, e56, e57, e58, e59, e60, e61, e62, e63, e64, e65, e66, e67, e68, e69, e70, e71, e72, e73, e74, e75, e76, e77, e78, e79, e80, e81, e82, e83, e84, e85, e86, e87, e88, e89, e90, e91, e92, e93, e94, e95, e96, e97, e98, e99, e100, e101, e102, e103, e104, e105, e106, e107, e108, e109, e110, e111, e112, e113, e114, e115, e116, e117, e118, e119, e120, e121], defers := [] } w4) :
    Code.wp Tryd.prog (withLast 2 part6n7 X) (bodyPost Tryd.prog Tryd.f6 R) { tmps := #[e0, e1, e2, e3, e4, .pointer (some ⟨A, 0, none⟩), e6, .pointer (some ⟨A + 1, 0, none⟩), e8, e9, e10, .pointer (some ⟨K, 0, none⟩), e12, .pointer (some ⟨T, 0, none⟩), e14, .pointer (some ⟨M, 0, none⟩), e16, e17, e18, e19, e20, e21, e22, e23, e24, e25, e26, e27, e28, e29, e30, e31, e32, e33, e34, e35, e36, e37, e38, e39, e40, e41, e42, e43, e44, e45, e46, e47, e48, e49, e50, e51, e52, e53, e54, e55, e56, e57, e58, e59, e60, e61, e62, e63, e64, e65, e66, e67, e68, e69, e70, e71, e72, e73, e74, e75, e76, e77, e78, e79, e80, e81, e82, e83, e84, e85, e86, e87, e88, e89, e90, e91, e92, e93, e94, e95, e96, e97, e98, e99, e100, e101, e102, e103, e104, e105, e106, e107, e108, e109, e110, e111, e112, e113, e114, e115, e116, e117, e118, e119, e120, e121], defers := [] } w3 := by
  have ho := order_any k.ta k.tb k.tc x y z hta htb h1 h2 w3
  have c0 : w3.cell? ⟨T, 0, none⟩ = some (.int .i64 x) := cell_at g3 0 rfl
  have c1 : w3.cell? ⟨T, 1, none⟩ = some (.int .i64 y) := cell_at g3 1 rfl
  have c2 : w3.cell? ⟨T, 2, none⟩ = some (.int .i64 z) := cell_at g3 2 rfl
  have HO := Lib.hid ho; have HX := Lib.hid hX
  clear ho hX g3 hta htb h1 h2
  generalize ordI k.ta k.tb k.tc x y z = oi at *
  unfold part6n7 code6
  conv => arg 2; whnf
  simp only [withLast]
  go_wp2_with fail
  refine HO.out.mono ?_
  rintro e w4 ⟨rfl, b4⟩
  have B4 := Lib.hid b4
  clear b4 HO c0 c1 c2 a2 a3 a4
  go_wp2_with fail
  exact HX.out _ _ _ _ _ _ _ _ _ _ _ _ _ _ _ _ _ _ _ _ _ _ _ _ _ _ _ _ _ _ _ _ _ _ _ _ _ _ _ _ _ _ _ _ _ _ _ _ _ _ _ _ _ _ _ _ _ _ _ _ _ _ _ _ _ _ _ _ _ _ _ _ _ _ _ _ _ _ _ _ _ _ _ _ _ _ _ _ _ _ _ _ _ _ _ _ _ _ _ _ _ _ _ _ _ _ _ _ _ _ _ _ _ _ _ _ _ B4.out
set_option maxRecDepth 100000 in
set_option maxHeartbeats 8000000 in
theorem tol_test (k : Wrk) (c : Int) (k' : Wrk) (ws' : Array Value) (A K T M : Nat) (w3 : World) (hE : Env w3) (hW : WkAt k' ws' w3) (g0 : w3.heap[M]? = some (.cells ws' 32 (0, 0))) (e0 e1 e2 e3 e4 e6 e8 e9 e10 e12 e14 e17 e18 e19 e20 e21 e22 e23 e24 e25 e26 e27 e28 e29 e30 e31 e32 e33 e34 e35 e36 e37 e38 e39 e40 e41 e42 e43 e44 e45 e46 e47 e48 e49 e50 e51 e52 e53 e54 e55 e56 e57 e58 e59 e60 e61 e62 e63 e64 e65 e66 e67 e68 e69 e70 e71 e72 e73 e74 e75 e76 e77 e78 e79 e80 e81 e82 e83 e84 e85 e86 e87 e88 e89 e90 e91 e92 e93 e94 e95 e96 e97 e98 e99 e100 e101 e102 e103 e104 e105 e106 e107 e108 e109 e110 e111 e112 e113 e114 e115 e116 e117 e118 e119 e120 e121 : Value) (R : Ending → World → Prop) (X : Code)
    (hT : ∀ w', Below w3.heap.size w3 w' → R (.returned (.bool true)) w')
    (hX : c ≤ 0 → wrkE k' = 0 → ∀ (w4 : World) (e0 e1 e2 e3 e4 e6 e8 e9 e10 e12 e14 e16 e17 e18 e19 e20 e21 e22 e23 e24 e25 e26 e27 e28 e29 e30 e31 e32 e33 e34 e35 e36 e37 e38 e39 e40 e41 e42 e43 e44 e45 e46 e47 e48 e49 e50 e51 e52 e53 e54 e55 e56 e57 e58 e59 e60 e61 e62 e63 e64 e65 e66 e67 e68 e69 e70 e71 e72 e73 e74 e75 e76 e77 e78 e79 e80 e81 e82 e83 e84 e85 e86 e87 e88 e89 e90 e91 e92 e93 e94 e95 e96 e97 e98 e99 e100 e101 e102 e103 e104 e105 e106 e107 e108 e109 e110 e111 e112 e113 e114 e115 e116 e117 e118 e119 e120 e121 : Value), Below w3.heap.size w3 w4 → Code.wp Tryd.prog X (bodyPost Tryd.prog Tryd.f6 R) { tmps := #[e0, e1, e2, e3, e4, .pointer (some ⟨A, 0, none⟩), e6, .pointer (some ⟨A + 1, 0, none⟩), e8, e9, e10, .pointer (some ⟨K, 0, none⟩), e12, .pointer (some ⟨T, 0, none⟩), e14, .pointer (some ⟨M, 0, none⟩), e16, e17, e18, e19, e20, e21, e22, e23, e24, e25, e26, e27, e28, e29, e30, e31, e32, e33, e34, e35, e36, e37, e38, e39, e40, e41, e42, e43, e44, e45, e46, e47, e48, e49, e50, e51, e52, e53, e54, e55, e56, e57, e58, e59, e60, e61, e62, e63, e64, e65, e66, e67, e68, e69, e70, e71, e72, e73, e74, e75, e76, e77, e78, e79, e80, e81, e82, e83, e84, e85, e86, e87, e88, e89, e90, e91, e92, e93, e94, e95, e96, e97, e98, e99, e100, e101, e102, e103, e104, e105, e106, e107, e108, e109, e110, e111, e112, e113, e114, e115, e116, e117, e118, e119, e120, e121], defers := [] } w4) :
    Code.wp Tryd.prog (withLast 1 part6n9 X) (bodyPost Tryd.prog Tryd.f6 R) { tmps := #[e0, e1, e2, e3, e4, .pointer (some ⟨A, 0, none⟩), e6, .pointer (some ⟨A + 1, 0, none⟩), e8, e9, e10, .pointer (some ⟨K, 0, none⟩), e12, .pointer (some ⟨T, 0, none⟩), e14, .pointer (some ⟨M, 0, none⟩), .int .i64 c, e17, e18, e19, e20, e21, e22, e23, e24, e25, e26, e27, e28, e29, e30, e31, e32, e33, e34, e35, e36, e37, e38, e39, e40, e41, e42, e43, e44, e45, e46, e47, e48, e49, e50, e51, e52, e53, e54, e55, e56, e57, e58, e59, e60, e61, e62, e63, e64, e65, e66, e67, e68, e69, e70, e71, e72, e73, e74, e75, e76, e77, e78, e79, e80, e81, e82, e83, e84, e85, e86, e87, e88, e89, e90, e91, e92, e93, e94, e95, e96, e97, e98, e99, e100, e101, e102, e103, e104, e105, e106, e107, e108, e109, e110, e111, e112, e113, e114, e115, e116, e117, e118, e119, e120, e121], defers := [] } w3 := by
  have hs := hW.size
  have hc := hW.check hE
  have HS := Lib.hid hs; have G0 := Lib.hid g0; have HC := Lib.hid hc; have HX := Lib.hid hX; have HT := Lib.hid hT
  clear hs g0 hc hX hT hW hE
  generalize wrkE k' = we at *
  unfold part6n9 code6
  conv => arg 2; whnf
  simp only [withLast]
  by_cases hcc : 0 < c
  · have hd : decide (0 < c) = true := decide_eq_true hcc
    go_wp2_with fail
    first | exact HT.out _ (Below.refl _ _) | (go_ret; exact HT.out _ (Below.refl _ _))
  · have hd : decide (0 < c) = false := decide_eq_false hcc
    go_wp2_with ((refine wpList_load_row_at rfl 32 _ rfl M rfl 32 _ (0, 0) _ G0.out Tryd.underlying32 rfl HS.out ?_; simp only [Act.put, List.setIfInBounds_toArray, List.set_cons_zero, List.set_cons_succ]))
    refine HC.out.mono ?_
    rintro e w4 ⟨rfl, b4⟩
    have B4 := Lib.hid b4
    clear b4 G0 HC
    by_cases hwe : we = 0
    · have hwz : (we != 0) = false := by simp [hwe]
      have HWE := Lib.hid hwe
      clear hwe
      go_wp2_with fail
      exact HX.out (by omega) (by first | exact HWE.out | trivial) _ _ _ _ _ _ _ _ _ _ _ _ _ _ _ _ _ _ _ _ _ _ _ _ _ _ _ _ _ _ _ _ _ _ _ _ _ _ _ _ _ _ _ _ _ _ _ _ _ _ _ _ _ _ _ _ _ _ _ _ _ _ _ _ _ _ _ _ _ _ _ _ _ _ _ _ _ _ _ _ _ _ _ _ _ _ _ _ _ _ _ _ _ _ _ _ _ _ _ _ _ _ _ _ _ _ _ _ _ _ _ _ _ _ _ _ _ _ B4.out
    · have hwz : (we != 0) = true := by simpa using hwe
      clear hwe
      go_wp2_with fail
      first | exact HT.out _ B4.out | (go_ret; exact HT.out _ B4.out)
set_option maxRecDepth 100000 in
set_option maxHeartbeats 8000000 in
theorem tol_opts (k k' : Wrk) (s : Sgn) (b : Bod) (hbn : b.name.length ≤ maxLen) (ws ws' : Array Value) (A K T M : Nat) (w3 : World) (hE : Env w3) (hz2 : 2 ≤ w3.heap.size) (hW : WkAt k ws w3) (hW' : WkAt k' ws' w3) (g0 : w3.heap[A]? = some (.cells ws 32 (0, 0))) (g1 : w3.heap[A + 1]? = some (.cells (bodCells b) 36 (0, 0))) (g2 : w3.heap[K]? = some (.cells (sgnA s) 41 (0, 0))) (g4 : w3.heap[M]? = some (.cells ws' 32 (0, 0)))
    (hk : wrkE k = 0) (hs : s ∈ k.signs) (hk' : wrkE k' = 0) (hs' : s ∈ k'.signs) (hb : bodB b = true) (e0 e1 e2 e3 e4 e6 e8 e9 e10 e12 e14 e16 e17 e18 e19 e20 e21 e22 e23 e24 e25 e26 e27 e28 e29 e30 e31 e32 e33 e34 e35 e36 e37 e38 e39 e40 e41 e42 e43 e44 e45 e46 e47 e48 e49 e50 e51 e52 e53 e54 e55 e56 e57 e58 e59 e60 e61 e62 e63 e64 e65 e66 e67 e68 e69 e70 e71 e72 e73 e74 e75 e76 e77 e78 e79 e80 e81 e82 e83 e84 e85 e86 e87 e88 e89 e90 e91 e92 e93 e94 e95 e96 e97 e98 e99 e100 e101 e102 e103 e104 e105 e106 e107 e108 e109 e110 e111 e112 e113 e114 e115 e116 e117 e118 e119 e120 e121 : Value) (R : Ending → World → Prop) (X : Code)
    (hX : ∀ (w5 : World) (vx vy : Value) (e0 e1 e2 e3 e4 e6 e8 e9 e10 e12 e14 e16 e17 e22 e23 e24 e25 e26 e27 e28 e29 e30 e31 e32 e33 e34 e35 e36 e37 e38 e39 e40 e41 e42 e43 e44 e45 e46 e47 e48 e49 e50 e51 e52 e53 e54 e55 e56 e57 e58 e59 e60 e61 e62 e63 e64 e65 e66 e67 e68 e69 e70 e71 e72 e73 e74 e75 e76 e77 e78 e79 e80 e81 e82 e83 e84 e85 e86 e87 e88 e89 e90 e91 e92 e93 e94 e95 e96 e97 e98 e99 e100 e101 e102 e103 e104 e105 e106 e107 e108 e109 e110 e111 e112 e113 e114 e115 e116 e117 e118 e119 e120 e121 : Value), Below w3.heap.size w3 w5 → IsRow encRea 4 w5 vx (optL k s b) → IsRow encRea 4 w5 vy (optL k' s b) → Code.wp Tryd.prog X (bodyPost Tryd.prog Tryd.f6 R) { tmps := #[e0, e1, e2, e3, e4, .pointer (some ⟨A, 0, none⟩), e6, .pointer (some ⟨A + 1, 0, none⟩), e8, e9, e10, .pointer (some ⟨K, 0, none⟩), e12, .pointer (some ⟨T, 0, none⟩), e14, .pointer (some ⟨M, 0, none⟩), e16, e17, vx, .int .i64 0, vy, .int .i64 0, e22, e23, e24, e25, e26, e27, e28, e29, e30, e31, e32, e33, e34, e35, e36, e37, e38, e39, e40, e41, e42, e43, e44, e45, e46, e47, e48, e49, e50, e51, e52, e53, e54, e55, e56, e57, e58, e59, e60, e61, e62, e63, e64, e65, e66, e67, e68, e69, e70, e71, e72, e73, e74, e75, e76, e77, e78, e79, e80, e81, e82, e83, e84, e85, e86, e87, e88, e89, e90, e91, e92, e93, e94, e95, e96, e97, e98, e99, e100, e101, e102, e103, e104, e105, e106, e107, e108, e109, e110, e111, e112, e113, e114, e115, e116, e117, e118, e119, e120, e121], defers := [] } w5) :
    Code.wp Tryd.prog (withLast 2 part6n10 X) (bodyPost Tryd.prog Tryd.f6 R) { tmps := #[e0, e1, e2, e3, e4, .pointer (some ⟨A, 0, none⟩), e6, .pointer (some ⟨A + 1, 0, none⟩), e8, e9, e10, .pointer (some ⟨K, 0, none⟩), e12, .pointer (some ⟨T, 0, none⟩), e14, .pointer (some ⟨M, 0, none⟩), e16, e17, e18, e19, e20, e21, e22, e23, e24, e25, e26, e27, e28, e29, e30, e31, e32, e33, e34, e35, e36, e37, e38, e39, e40, e41, e42, e43, e44, e45, e46, e47, e48, e49, e50, e51, e52, e53, e54, e55, e56, e57, e58, e59, e60, e61, e62, e63, e64, e65, e66, e67, e68, e69, e70, e71, e72, e73, e74, e75, e76, e77, e78, e79, e80, e81, e82, e83, e84, e85, e86, e87, e88, e89, e90, e91, e92, e93, e94, e95, e96, e97, e98, e99, e100, e101, e102, e103, e104, e105, e106, e107, e108, e109, e110, e111, e112, e113, e114, e115, e116, e117, e118, e119, e120, e121], defers := [] } w3 := by
  have hsz := hW.size
  have hsz' := hW'.size
  have ho := hW.options hE hz2 s.id b hbn
  have ho' := fun (W : World) (hB : Below w3.heap.size w3 W) => (hW'.below hB (Nat.le_refl _)).options (hE.below hB) (Nat.le_trans hz2 hB.size) s.id b hbn
  obtain ⟨he, hr⟩ := opt_own hk hs hb
  obtain ⟨he', hr'⟩ := opt_own hk' hs' hb
  rw [he, hr] at ho
  rw [he', hr'] at ho'
  have hbv : bodV b = .agg (bodCells b) := rfl
  rw [hbv] at ho ho'
  have c0 : w3.cell? ⟨K, 0, none⟩ = some (.int .i64 s.id) := cell_at g2 0 rfl
  have hM : M < w3.heap.size := (Array.getElem?_eq_some_iff.1 g4).1
  have hA1 : A + 1 < w3.heap.size := (Array.getElem?_eq_some_iff.1 g1).1
  have hK : K < w3.heap.size := (Array.getElem?_eq_some_iff.1 g2).1
  have HS := Lib.hid hsz; have HS' := Lib.hid hsz'; have G0 := Lib.hid g0; have G1 := Lib.hid g1; have G2 := Lib.hid g2; have G4 := Lib.hid g4; have HO := Lib.hid ho; have HO' := Lib.hid ho'; have HX := Lib.hid hX; have HM := Lib.hid hM; have HA1 := Lib.hid hA1; have HK := Lib.hid hK
  clear hsz hsz' g0 g1 g2 g4 ho ho' he hr he' hr' hbv hX hW hW' hE hk hs hk' hs' hb hM hA1 hK
  unfold part6n10 code6
  conv => arg 2; whnf
  simp only [withLast]
  go_wp2_with (first | (refine wpList_load_row rfl 32 _ rfl A rfl 32 _ (0, 0) _ G0.out Tryd.underlying32 rfl HS.out ?_; simp only [Act.put, List.setIfInBounds_toArray, List.set_cons_zero, List.set_cons_succ]) | (refine wpList_load_row rfl 36 _ rfl (A + 1) rfl 36 (bodCells b) (0, 0) _ G1.out Tryd.underlying36 rfl (by kernel_rfl) ?_; simp only [Act.put, List.setIfInBounds_toArray, List.set_cons_zero, List.set_cons_succ]))
  refine HO.out.mono ?_
  rintro e w4 ⟨vx, rfl, hown, b4⟩
  have c0' : w4.cell? ⟨K, 0, none⟩ = some (.int .i64 s.id) := cell_at ((b4.block K HK.out).trans G2.out) 0 rfl
  have H1 := Lib.hid ((b4.block (A + 1) HA1.out).trans G1.out)
  have H4 := Lib.hid ((b4.block M HM.out).trans G4.out)
  have RX := Lib.hid (owns_isRow encRea_len hown rfl)
  have B4 := Lib.hid b4
  clear hown b4 HO c0 G0 G1 G2 G4
  go_wp2_with (first | (refine wpList_load_row rfl 32 _ rfl M rfl 32 _ (0, 0) _ H4.out Tryd.underlying32 rfl HS'.out ?_; simp only [Act.put, List.setIfInBounds_toArray, List.set_cons_zero, List.set_cons_succ]) | (refine wpList_load_row rfl 36 _ rfl (A + 1) rfl 36 (bodCells b) (0, 0) _ H1.out Tryd.underlying36 rfl (by kernel_rfl) ?_; simp only [Act.put, List.setIfInBounds_toArray, List.set_cons_zero, List.set_cons_succ]))
  refine (HO'.out w4 B4.out).mono ?_
  rintro e w5 ⟨vy, rfl, hown, b5⟩
  have RY := Lib.hid (owns_isRow encRea_len hown rfl)
  have RX2 := Lib.hid (RX.out.below b5 (Nat.le_refl _))
  have B5 := Lib.hid (B4.out.trans (b5.mono B4.out.size))
  clear hown b5 HO' c0' H1 H4 RX B4
  go_wp2_with fail
  exact HX.out _ vx vy _ _ _ _ _ _ _ _ _ _ _ _ _ _ _ _ _ _ _ _ _ _ _ _ _ _ _ _ _ _ _ _ _ _ _ _ _ _ _ _ _ _ _ _ _ _ _ _ _ _ _ _ _ _ _ _ _ _ _ _ _ _ _ _ _ _ _ _ _ _ _ _ _ _ _ _ _ _ _ _ _ _ _ _ _ _ _ _ _ _ _ _ _ _ _ _ _ _ _ _ _ _ _ _ _ _ _ _ _ _ _ _ _ B5.out RX2.out RY.out
set_option maxRecDepth 100000 in
set_option maxHeartbeats 8000000 in
theorem tol_end (xs ys : List Rea) (nx ny : Nat) (hx : xs.length = nx) (hy : ys.length = ny) (hle : nx ≤ ny) (hny : ny ≤ 2000) (hone : ∀ r ∈ xs, hasN ys r = 1) (ax ay : Option Addr) (cx cy : Nat) (w0 w : World) (hB : Below w0.heap.size w0 w) (hrx : IsRow encRea 4 w (.slice ax nx cx) xs) (hry : IsRow encRea 4 w (.slice ay ny cy) ys) (e0 e1 e2 e3 e4 e5 e6 e7 e8 e9 e10 e11 e12 e13 e14 e15 e16 e17 e22 e23 e24 e25 e26 e27 e28 e29 e30 e31 e32 e33 e34 e35 e36 e37 e38 e39 e40 e41 e42 e43 e44 e45 e46 e47 e48 e49 e50 e51 e52 e53 e54 e55 e56 e57 e58 e59 e60 e61 e62 e63 e64 e65 e66 e67 e68 e69 e70 e71 e72 e73 e74 e75 e76 e77 e78 e79 e80 e81 e82 e83 e84 e85 e86 e87 e88 e89 e90 e91 e92 e93 e94 e95 e96 e97 e98 e99 e100 e101 e102 e103 e104 e105 e106 e107 e108 e109 e110 e111 e112 e113 e114 e115 e116 e117 e118 e119 e120 e121 : Value) :
    Code.wp Tryd.prog part6n12 (bodyPost Tryd.prog Tryd.f6 (trueP w0)) { tmps := #[e0, e1, e2, e3, e4, e5, e6, e7, e8, e9, e10, e11, e12, e13, e14, e15, e16, e17, .slice ax nx cx, .int .i64 0, .slice ay ny cy, .int .i64 0, e22, e23, e24, e25, e26, e27, e28, e29, e30, e31, e32, e33, e34, e35, e36, e37, e38, e39, e40, e41, e42, e43, e44, e45, e46, e47, e48, e49, e50, e51, e52, e53, e54, e55, e56, e57, e58, e59, e60, e61, e62, e63, e64, e65, e66, e67, e68, e69, e70, e71, e72, e73, e74, e75, e76, e77, e78, e79, e80, e81, e82, e83, e84, e85, e86, e87, e88, e89, e90, e91, e92, e93, e94, e95, e96, e97, e98, e99, e100, e101, e102, e103, e104, e105, e106, e107, e108, e109, e110, e111, e112, e113, e114, e115, e116, e117, e118, e119, e120, e121], defers := [] } w := by
  have hc : ∀ r ∈ xs, ∀ W, Below w.heap.size w W → Calls Tryd.prog 21 #[.slice ay ny cy, reaV r] W fun e w' => e = .returned (.int .i64 1) ∧ Below W.heap.size W w' := by
    intro r hr W hb
    subst hy
    have := has_any ay cy ys r W (hry.below hb (Nat.le_refl _))
    rw [hone r hr] at this
    exact this
  have HC := Lib.hid hc; have HB := Lib.hid hB; have HRX := Lib.hid hrx; have HXL := Lib.hid hx
  clear hc hB hrx hry hone hx hy
  have hlt : decide (ny < nx) = false := decide_eq_false (by omega)
  unfold trueP part6n12 code6
  conv => arg 2; whnf
  go_wp2_with fail
  go_loopw [113] (fun iv wr => ∃ k : Nat, k ≤ nx ∧ iv = .int .i64 k ∧ Hid (Below w.heap.size w wr)) (fun iv _ => nx - (intOf iv).toNat)
  case atStart => exact ⟨0, Nat.zero_le _, rfl, Lib.hid (Below.refl _ _)⟩
  case round =>
    obtain ⟨k, hkn0, rfl, hbw⟩ := hrel
    by_cases hkn : k < nx
    · obtain ⟨r, hr⟩ : ∃ r, xs[k]? = some r := ⟨_, List.getElem?_eq_getElem (by rw [HXL.out]; exact hkn)⟩
      obtain ⟨b1, o1, hp1, hat1, hb1⟩ := (HRX.out.below hbw.out (Nat.le_refl _)).block hr
      subst hp1
      obtain ⟨p0, p1, p2, p3⟩ := atRea hat1 hr
      have hkn' : (k : Int) < (nx : Int) := by omega
      have hbb : Below w.heap.size w (wr.alloc (.cells (reaA r) 60)) := hbw.out.alloc hbw.out.size _
      have hcall := HC.out r (List.mem_of_getElem? hr) _ hbb
      have HCALL := Lib.hid hcall; have HBB := Lib.hid hbb
      clear hcall hbb hat1 hb1 hr
      unfold reaA at HCALL HBB
      unfold reaV at HCALL
      go_wp2_with fail
      refine HCALL.out.mono ?_
      rintro e w' ⟨rfl, hb6⟩
      have HB6 := Lib.hid (HBB.out.trans (hb6.mono HBB.out.size))
      clear hb6 HCALL HBB p0 p1 p2 p3
      go_wp2_with fail
      go_roundw
      case rel => exact ⟨k + 1, by omega, by go_num, HB6⟩
      case measure => simp [intOf]; omega
    · obtain rfl : k = nx := by omega
      have hkn' : ¬ (k : Int) < (k : Int) := by omega
      go_wp2_with fail
      go_ret
      exact ⟨rfl, HB.out.trans (hbw.out.mono HB.out.size)⟩
set_option maxRecDepth 100000 in
set_option maxHeartbeats 8000000 in
theorem tol_any (k : Wrk) (b : Bod) (hbn : b.name.length ≤ maxLen) (n : Nat) (hn : n < 65536) (p q : Nat) (ws : Array Value) (w : World) (hE : Env w) (hz2 : 2 ≤ w.heap.size) (hW : WkAt k ws w) :
    Calls Tryd.prog 6 #[.agg ws, .int .u16 n, bodV b, .int .u8 p, .int .u8 q] w (trueP w) := by
  obtain ⟨x, y, z, er, hmk, hrt⟩ : ∃ x y z er : Int, makV ((p % 128 : Nat) : Int) ((q % 128 : Nat) : Int) = .tuple #[.agg #[.int .i64 x, .int .i64 y, .int .i64 z], .int .i64 er] ∧ (er = 0 → trnB x y z = true) := by
    have hp : p % 128 < 128 := Nat.mod_lt _ (by omega)
    have hq : q % 128 < 128 := Nat.mod_lt _ (by omega)
    unfold makV
    by_cases h : ((p % 128 : Nat) : Int) = 0 ∧ ((q % 128 : Nat) : Int) = 0
    · rw [if_pos h]; exact ⟨0, 0, 0, 1, rfl, fun h => by cases h⟩
    · rw [if_neg h]; exact ⟨_, _, _, 0, rfl, fun _ => mak_right (by omega) (by omega) h⟩
  go_enter Tryd.func6, Tryd.ntmps6
  refine pick_6 k b n hn ws _ _ w hE hz2 hW _ (withLast 1 part6n3 (withLast 1 part6n4 (withLast 1 part6n5 (withLast 1 part6n6 (withLast 2 part6n7 (withLast 1 part6n9 (withLast 2 part6n10 part6n12))))))) ?_
  intro w3 K _ _ _ _ _ _ _ _ _ _ _ _ _ _ _ _ _ _ _ _ _ _ _ _ _ _ _ _ _ _ _ _ _ _ _ _ _ _ _ _ _ _ _ _ _ _ _ _ _ _ _ _ _ _ _ _ _ _ _ _ _ _ _ _ _ _ _ _ _ _ _ _ _ _ _ _ _ _ _ _ _ _ _ _ _ _ _ _ _ _ _ _ _ _ _ _ _ _ _ _ _ _ _ _ _ _ _ _ _ _ _ _ _ _ _ _ B3 g0 g1 g2 hKg
  have hA3 : w.heap.size < w3.heap.size := (Array.getElem?_eq_some_iff.1 g0).1
  have hA31 : w.heap.size + 1 < w3.heap.size := (Array.getElem?_eq_some_iff.1 g1).1
  have hK3 : K < w3.heap.size := (Array.getElem?_eq_some_iff.1 g2).1
  refine tol_make p q _ x y z er hmk w.heap.size K w3 _ _ _ _ _ _ _ _ _ _ _ _ _ _ _ _ _ _ _ _ _ _ _ _ _ _ _ _ _ _ _ _ _ _ _ _ _ _ _ _ _ _ _ _ _ _ _ _ _ _ _ _ _ _ _ _ _ _ _ _ _ _ _ _ _ _ _ _ _ _ _ _ _ _ _ _ _ _ _ _ _ _ _ _ _ _ _ _ _ _ _ _ _ _ _ _ _ _ _ _ _ _ _ _ _ _ _ _ _ _ _ _ _ _ _ _ _ (withLast 1 part6n4 (withLast 1 part6n5 (withLast 1 part6n6 (withLast 2 part6n7 (withLast 1 part6n9 (withLast 2 part6n10 part6n12)))))) ?_
  intro w4 T _ _ _ _ _ _ _ _ _ _ _ _ _ _ _ _ _ _ _ _ _ _ _ _ _ _ _ _ _ _ _ _ _ _ _ _ _ _ _ _ _ _ _ _ _ _ _ _ _ _ _ _ _ _ _ _ _ _ _ _ _ _ _ _ _ _ _ _ _ _ _ _ _ _ _ _ _ _ _ _ _ _ _ _ _ _ _ _ _ _ _ _ _ _ _ _ _ _ _ _ _ _ _ _ _ _ _ _ _ _ _ _ _ _ _ _ b4 hT gT
  have B4 := B3.trans (b4.mono B3.size)
  have g0 := (b4.block _ hA3).trans g0
  have g1 := (b4.block _ hA31).trans g1
  have g2 := (b4.block _ hK3).trans g2
  have hA4 : w.heap.size < w4.heap.size := Nat.lt_of_lt_of_le hA3 b4.size
  have hA41 : w.heap.size + 1 < w4.heap.size := Nat.lt_of_lt_of_le hA31 b4.size
  have hK4 : K < w4.heap.size := Nat.lt_of_lt_of_le hK3 b4.size
  have hT4 : T < w4.heap.size := (Array.getElem?_eq_some_iff.1 gT).1
  clear b4 B3 hA3 hA31 hK3 hKg hT
  refine tol_guards k b hbn _ er ws w.heap.size K T w4 (hE.below B4) (hW.below B4 (Nat.le_refl _)) g0 g1 _ _ _ _ _ _ _ _ _ _ _ _ _ _ _ _ _ _ _ _ _ _ _ _ _ _ _ _ _ _ _ _ _ _ _ _ _ _ _ _ _ _ _ _ _ _ _ _ _ _ _ _ _ _ _ _ _ _ _ _ _ _ _ _ _ _ _ _ _ _ _ _ _ _ _ _ _ _ _ _ _ _ _ _ _ _ _ _ _ _ _ _ _ _ _ _ _ _ _ _ _ _ _ _ _ _ _ _ _ _ _ _ _ _ _ _ _ (withLast 1 part6n5 (withLast 1 part6n6 (withLast 2 part6n7 (withLast 1 part6n9 (withLast 2 part6n10 part6n12))))) ?_ ?_
  · intro w' hb
    exact ⟨rfl, B4.trans (hb.mono B4.size)⟩
  intro hok her hk hbo w5 _ _ _ _ _ _ _ _ _ _ _ _ _ _ _ _ _ _ _ _ _ _ _ _ _ _ _ _ _ _ _ _ _ _ _ _ _ _ _ _ _ _ _ _ _ _ _ _ _ _ _ _ _ _ _ _ _ _ _ _ _ _ _ _ _ _ _ _ _ _ _ _ _ _ _ _ _ _ _ _ _ _ _ _ _ _ _ _ _ _ _ _ _ _ _ _ _ _ _ _ _ _ _ _ _ _ _ _ _ _ _ _ _ _ _ _ _ _ b5
  have hne : k.signs ≠ [] := of_decide_eq_true hok
  have hs := pick_mem hne n
  have g2 : w4.heap[K]? = some (.cells (sgnA (pickS k.signs n)) 41 (0, 0)) := by rw [g2]; unfold pickA; rw [if_neg hne]
  generalize pickS k.signs n = s at *
  have hrt := hrt her
  have B5 := B4.trans (b5.mono B4.size)
  have g0 := (b5.block _ hA4).trans g0
  have g1 := (b5.block _ hA41).trans g1
  have g2 := (b5.block _ hK4).trans g2
  have gT := (b5.block _ hT4).trans gT
  have hA5 := Nat.lt_of_lt_of_le hA4 b5.size
  have hA51 := Nat.lt_of_lt_of_le hA41 b5.size
  have hK5 := Nat.lt_of_lt_of_le hK4 b5.size
  have hT5 := Nat.lt_of_lt_of_le hT4 b5.size
  clear b5 B4 hA4 hA41 hK4 hT4 hok hne
  refine tol_copy k ws w.heap.size K T w5 (hW.below B5 (Nat.le_refl _)) g0 _ _ _ _ _ _ _ _ _ _ _ _ _ _ _ _ _ _ _ _ _ _ _ _ _ _ _ _ _ _ _ _ _ _ _ _ _ _ _ _ _ _ _ _ _ _ _ _ _ _ _ _ _ _ _ _ _ _ _ _ _ _ _ _ _ _ _ _ _ _ _ _ _ _ _ _ _ _ _ _ _ _ _ _ _ _ _ _ _ _ _ _ _ _ _ _ _ _ _ _ _ _ _ _ _ _ _ _ _ _ _ _ _ _ _ _ _ _ _ (withLast 1 part6n6 (withLast 2 part6n7 (withLast 1 part6n9 (withLast 2 part6n10 part6n12)))) ?_
  intro w6 M _ _ _ _ _ _ _ _ _ _ _ _ _ _ _ _ _ _ _ _ _ _ _ _ _ _ _ _ _ _ _ _ _ _ _ _ _ _ _ _ _ _ _ _ _ _ _ _ _ _ _ _ _ _ _ _ _ _ _ _ _ _ _ _ _ _ _ _ _ _ _ _ _ _ _ _ _ _ _ _ _ _ _ _ _ _ _ _ _ _ _ _ _ _ _ _ _ _ _ _ _ _ _ _ _ _ _ _ _ _ _ _ _ _ _ _ _ b6 gM hM
  obtain ⟨h2, h3, h4⟩ : ws[2]? = some (.int .i64 k.ta) ∧ ws[3]? = some (.int .i64 k.tb) ∧ ws[4]? = some (.int .i64 k.tc) := by
    obtain ⟨aR, aT, aP, aX, aS, cR, cT, cP, cX, cS, rfl, _⟩ := hW
    exact ⟨rfl, rfl, rfl⟩
  refine tol_set k x y z ws w.heap.size K T M w5.heap.size hM w5 w6 b6 h2 h3 h4 gM ((b6.block _ hT5).trans gT) _ _ _ _ _ _ _ _ _ _ _ _ _ _ _ _ _ _ _ _ _ _ _ _ _ _ _ _ _ _ _ _ _ _ _ _ _ _ _ _ _ _ _ _ _ _ _ _ _ _ _ _ _ _ _ _ _ _ _ _ _ _ _ _ _ _ _ _ _ _ _ _ _ _ _ _ _ _ _ _ _ _ _ _ _ _ _ _ _ _ _ _ _ _ _ _ _ _ _ _ _ _ _ _ _ _ _ _ _ _ _ _ _ _ _ _ _ _ (withLast 2 part6n7 (withLast 1 part6n9 (withLast 2 part6n10 part6n12))) ?_
  clear b6 gM
  intro w6 _ _ _ _ _ _ _ _ _ _ _ _ _ _ _ _ _ _ _ _ _ _ _ _ _ _ _ _ _ _ _ _ _ _ _ _ _ _ _ _ _ _ _ _ _ _ _ _ _ _ _ _ _ _ _ _ _ _ _ _ _ _ _ _ _ _ _ _ _ _ _ _ _ _ _ _ _ _ _ _ _ _ _ _ _ _ _ _ _ _ _ _ _ _ _ _ _ _ _ _ _ _ _ _ _ _ _ _ _ _ _ _ _ _ _ _ _ b6 gM
  have B6 := B5.trans (b6.mono B5.size)
  have g0 := (b6.block _ hA5).trans g0
  have g1 := (b6.block _ hA51).trans g1
  have g2 := (b6.block _ hK5).trans g2
  have gT := (b6.block _ hT5).trans gT
  have hA6 := Nat.lt_of_lt_of_le hA5 b6.size
  have hA61 := Nat.lt_of_lt_of_le hA51 b6.size
  have hK6 := Nat.lt_of_lt_of_le hK5 b6.size
  have hM6 : M < w6.heap.size := (Array.getElem?_eq_some_iff.1 gM).1
  clear b6 B5 hA5 hA51 hK5 hT5 hM
  have hq : 0 ≤ k.ta ∧ 0 ≤ k.tb ∧ trnB k.ta k.tb k.tc = true := by
    have hb := (wrk_ok_of hk).2.2.2
    unfold wrkB wrkHead at hb
    simp only [Bool.and_eq_true, decide_eq_true_eq] at hb
    exact ⟨hb.1.1.1.1.2, hb.1.1.1.2, hb.1.1.1.1.1.2⟩
  refine tol_order k x y z hq.1 hq.2.1 hq.2.2 hrt w.heap.size K T M w6 (cell_at g0 2 h2) (cell_at g0 3 h3) (cell_at g0 4 h4) gT _ _ _ _ _ _ _ _ _ _ _ _ _ _ _ _ _ _ _ _ _ _ _ _ _ _ _ _ _ _ _ _ _ _ _ _ _ _ _ _ _ _ _ _ _ _ _ _ _ _ _ _ _ _ _ _ _ _ _ _ _ _ _ _ _ _ _ _ _ _ _ _ _ _ _ _ _ _ _ _ _ _ _ _ _ _ _ _ _ _ _ _ _ _ _ _ _ _ _ _ _ _ _ _ _ _ _ _ _ _ _ _ _ _ _ _ _ _ (withLast 1 part6n9 (withLast 2 part6n10 part6n12)) ?_
  intro w7 _ _ _ _ _ _ _ _ _ _ _ _ _ _ _ _ _ _ _ _ _ _ _ _ _ _ _ _ _ _ _ _ _ _ _ _ _ _ _ _ _ _ _ _ _ _ _ _ _ _ _ _ _ _ _ _ _ _ _ _ _ _ _ _ _ _ _ _ _ _ _ _ _ _ _ _ _ _ _ _ _ _ _ _ _ _ _ _ _ _ _ _ _ _ _ _ _ _ _ _ _ _ _ _ _ _ _ _ _ _ _ _ _ _ _ _ b7
  have B7 := B6.trans (b7.mono B6.size)
  have g0 := (b7.block _ hA6).trans g0
  have g1 := (b7.block _ hA61).trans g1
  have g2 := (b7.block _ hK6).trans g2
  have gM := (b7.block _ hM6).trans gM
  have hA7 := Nat.lt_of_lt_of_le hA6 b7.size
  have hA71 := Nat.lt_of_lt_of_le hA61 b7.size
  have hK7 := Nat.lt_of_lt_of_le hK6 b7.size
  have hM7 := Nat.lt_of_lt_of_le hM6 b7.size
  clear b7 B6 hA6 hA61 hK6 hM6
  have hWm := hW.tol x y z
  refine tol_test k _ (tolK k x y z) (tolA ws x y z) w.heap.size K T M w7 (hE.below B7) (hWm.below B7 (Nat.le_refl _)) gM _ _ _ _ _ _ _ _ _ _ _ _ _ _ _ _ _ _ _ _ _ _ _ _ _ _ _ _ _ _ _ _ _ _ _ _ _ _ _ _ _ _ _ _ _ _ _ _ _ _ _ _ _ _ _ _ _ _ _ _ _ _ _ _ _ _ _ _ _ _ _ _ _ _ _ _ _ _ _ _ _ _ _ _ _ _ _ _ _ _ _ _ _ _ _ _ _ _ _ _ _ _ _ _ _ _ _ _ _ _ _ _ _ _ _ _ _ (withLast 2 part6n10 part6n12) ?_ ?_
  · intro w' hb
    exact ⟨rfl, B7.trans (hb.mono B7.size)⟩
  intro hle hk' w8 _ _ _ _ _ _ _ _ _ _ _ _ _ _ _ _ _ _ _ _ _ _ _ _ _ _ _ _ _ _ _ _ _ _ _ _ _ _ _ _ _ _ _ _ _ _ _ _ _ _ _ _ _ _ _ _ _ _ _ _ _ _ _ _ _ _ _ _ _ _ _ _ _ _ _ _ _ _ _ _ _ _ _ _ _ _ _ _ _ _ _ _ _ _ _ _ _ _ _ _ _ _ _ _ _ _ _ _ _ _ _ _ _ _ _ _ _ b8
  have B8 := B7.trans (b8.mono B7.size)
  have g0 := (b8.block _ hA7).trans g0
  have g1 := (b8.block _ hA71).trans g1
  have g2 := (b8.block _ hK7).trans g2
  have gM := (b8.block _ hM7).trans gM
  clear b8 B7 hA7 hA71 hK7 hM7
  refine tol_opts k (tolK k x y z) s b hbn ws (tolA ws x y z) w.heap.size K T M w8 (hE.below B8) (Nat.le_trans hz2 B8.size) (hW.below B8 (Nat.le_refl _)) (hWm.below B8 (Nat.le_refl _)) g0 g1 g2 gM hk hs hk' hs hbo _ _ _ _ _ _ _ _ _ _ _ _ _ _ _ _ _ _ _ _ _ _ _ _ _ _ _ _ _ _ _ _ _ _ _ _ _ _ _ _ _ _ _ _ _ _ _ _ _ _ _ _ _ _ _ _ _ _ _ _ _ _ _ _ _ _ _ _ _ _ _ _ _ _ _ _ _ _ _ _ _ _ _ _ _ _ _ _ _ _ _ _ _ _ _ _ _ _ _ _ _ _ _ _ _ _ _ _ _ _ _ _ _ _ _ _ _ _ part6n12 ?_
  intro w9 vx vy _ _ _ _ _ _ _ _ _ _ _ _ _ _ _ _ _ _ _ _ _ _ _ _ _ _ _ _ _ _ _ _ _ _ _ _ _ _ _ _ _ _ _ _ _ _ _ _ _ _ _ _ _ _ _ _ _ _ _ _ _ _ _ _ _ _ _ _ _ _ _ _ _ _ _ _ _ _ _ _ _ _ _ _ _ _ _ _ _ _ _ _ _ _ _ _ _ _ _ _ _ _ _ _ _ _ _ _ _ _ _ _ _ b9 rx ry
  have ho : k.ta = (tolK k x y z).ta ∧ k.tb = (tolK k x y z).tb ∧ k.tc = (tolK k x y z).tc ∨ k.tb * (tolK k x y z).ta < k.ta * (tolK k x y z).tb := by
    have hb := (wrk_ok_of hk').2.2.2
    unfold wrkB wrkHead at hb
    simp only [Bool.and_eq_true, decide_eq_true_eq] at hb
    have ha' : 0 ≤ x := hb.1.1.1.1.2
    have hb' : 0 ≤ y := hb.1.1.1.2
    have hl : lowB x y = false := by unfold lowB; rw [decide_eq_false (by omega : ¬ y < 0), decide_eq_false (by omega : ¬ x < 0)]; simp
    unfold ordI at hle
    by_cases he : k.ta = x ∧ k.tb = y ∧ k.tc = z
    · exact Or.inl he
    · rw [if_neg he, hl] at hle
      simp only [Bool.false_eq_true, if_false] at hle
      by_cases hlt : k.tb * x < k.ta * y
      · exact Or.inr hlt
      · rw [if_neg hlt] at hle; omega
  obtain ⟨f1, f2⟩ := tol_facts (s := s) (b := b) hk hk' ho
  have hlen : (optL (tolK k x y z) s b).length ≤ 2000 := by
    have := doL_len (tolK k x y z) s hbo
    unfold optL dropL
    rw [List.length_append]
    split <;> simp <;> omega
  obtain ⟨ax, cx, rfl, hmx, hx2⟩ := rx
  obtain ⟨ay, cy, rfl, hmy, hy2⟩ := ry
  exact tol_end (optL k s b) (optL (tolK k x y z) s b) _ _ rfl rfl f1 hlen f2 ax ay cx cy w w9 (B8.trans (b9.mono B8.size)) ⟨ax, cx, rfl, hmx, hx2⟩ ⟨ay, cy, rfl, hmy, hy2⟩ _ _ _ _ _ _ _ _ _ _ _ _ _ _ _ _ _ _ _ _ _ _ _ _ _ _ _ _ _ _ _ _ _ _ _ _ _ _ _ _ _ _ _ _ _ _ _ _ _ _ _ _ _ _ _ _ _ _ _ _ _ _ _ _ _ _ _ _ _ _ _ _ _ _ _ _ _ _ _ _ _ _ _ _ _ _ _ _ _ _ _ _ _ _ _ _ _ _ _ _ _ _ _ _ _ _ _ _ _ _ _ _ _ _ _ _ _ _
end Go.Proofs.YtggcbblikgankaaDoor
end
