/- The walk of the statement: part 1. -/
import Derived.Test.YtggcbblikgankaaDoorZ33
import Derived.Test.YtggcbblikgankaaDoorZ4
import Derived.Test.YtggcbblikgankaaDoorZ29
import Derived.Laws.CopyOwn
import Derived.OrdersHeld
import Derived.Deep.RegionHeld
set_option linter.unusedVariables false
set_option linter.unusedSimpArgs false
section
/- The head of function 7: boxes, sane, pick, guards, Options. -/
namespace Go.Proofs.YtggcbblikgankaaDoor
open Go Go.RowKit

noncomputable def code7 : Code := (Tryd.f7.body).getD .skip
set_option maxRecDepth 100000 in
set_option maxHeartbeats 8000000 in
theorem pick_7 (k : Wrk) (b : Bod) (n : Nat) (hn : n < 65536) (ws : Array Value) (xc : Value) (w : World) (hE : Env w) (hz2 : 2 ≤ w.heap.size) (hW : WkAt k ws w) (R : Ending → World → Prop) (X : Code)
    (hX : ∀ (w3 : World) (K : Nat) (e0 e1 e2 e5 e7 e8 e11 e12 e13 e14 e15 e16 e17 e18 e19 e20 e21 e22 e23 e24 e25 e26 e27 e28 e29 e30 e31 e32 e33 e34 e35 e36 e37 e38 e39 e40 e41 e42 e43 e44 e45 e46 e47 e48 e49 e50 e51 e52 e53 e54 e55 e56 e57 e58 e59 e60 e61 e62 e63 e64 e65 e66 e67 e68 e69 e70 e71 e72 e73 e74 e75 e76 e77 e78 e79 e80 e81 e82 e83 e84 e85 e86 e87 e88 e89 e90 e91 e92 e93 e94 e95 e96 e97 e98 e99 e100 e101 e102 e103 e104 e105 e106 e107 e108 e109 e110 e111 e112 e113 e114 e115 e116 e117 e118 e119 e120 e121 e122 e123 e124 : Value), Below w.heap.size w w3 → w3.heap[w.heap.size]? = some (.cells ws 32 (0, 0)) → w3.heap[w.heap.size + 1]? = some (.cells (bodCells b) 36 (0, 0)) → w3.heap[K]? = some (.cells (pickA k.signs n) 41 (0, 0)) → w.heap.size + 2 ≤ K → Code.wp Tryd.prog X (bodyPost Tryd.prog Tryd.f7 R) { tmps := #[e0, e1, e2, xc, .pointer (some ⟨w.heap.size, 0, none⟩), e5, .pointer (some ⟨w.heap.size + 1, 0, none⟩), e7, e8, .pointer (some ⟨K, 0, none⟩), .bool (decide (k.signs ≠ [])), e11, e12, e13, e14, e15, e16, e17, e18, e19, e20, e21, e22, e23, e24, e25, e26, e27, e28, e29, e30, e31, e32, e33, e34, e35, e36, e37, e38, e39, e40, e41, e42, e43, e44, e45, e46, e47, e48, e49, e50, e51, e52, e53, e54, e55, e56, e57, e58, e59, e60, e61, e62, e63, e64, e65, e66, e67, e68, e69, e70, e71, e72, e73, e74, e75, e76, e77, e78, e79, e80, e81, e82, e83, e84, e85, e86, e87, e88, e89, e90, e91, e92, e93, e94, e95, e96, e97, e98, e99, e100, e101, e102, e103, e104, e105, e106, e107, e108, e109, e110, e111, e112, e113, e114, e115, e116, e117, e118, e119, e120, e121, e122, e123, e124], defers := [] } w3) :
    Code.wp Tryd.prog (withLast 3 code7 X) (bodyPost Tryd.prog Tryd.f7 R) { tmps := #[.agg ws, .int .u16 n, bodV b, xc, undef, undef, undef, undef, undef, undef, undef, undef, undef, undef, undef, undef, undef, undef, undef, undef, undef, undef, undef, undef, undef, undef, undef, undef, undef, undef, undef, undef, undef, undef, undef, undef, undef, undef, undef, undef, undef, undef, undef, undef, undef, undef, undef, undef, undef, undef, undef, undef, undef, undef, undef, undef, undef, undef, undef, undef, undef, undef, undef, undef, undef, undef, undef, undef, undef, undef, undef, undef, undef, undef, undef, undef, undef, undef, undef, undef, undef, undef, undef, undef, undef, undef, undef, undef, undef, undef, undef, undef, undef, undef, undef, undef, undef, undef, undef, undef, undef, undef, undef, undef, undef, undef, undef, undef, undef, undef, undef, undef, undef, undef, undef, undef, undef, undef, undef, undef, undef, undef, undef, undef, undef], defers := [] } w := by
  have hs := hW.size
  obtain ⟨g0, g1, hz, hb⟩ := blocks2 w (.cells ws 32) (.cells (bodCells b) 36)
  have hbv : bodV b = .agg (bodCells b) := rfl
  rw [hbv]
  have hp := fun (W : World) (hB : Below w.heap.size w W) => (hW.below hB (Nat.le_refl _)).pick n hn
  have hsn := fun (W : World) (hB : Below w.heap.size w W) (h : 2 ≤ W.heap.size) => sane_any W (hE.below hB) h
  have HS := Lib.hid hs; have G0 := Lib.hid g0; have G1 := Lib.hid g1; have HZ := Lib.hid hz; have HB := Lib.hid hb; have HP := Lib.hid hp; have HSN := Lib.hid hsn; have HX := Lib.hid hX; have HZ2 := Lib.hid hz2
  have HSA := Lib.hid (pickA_one k.signs n); have HSZ := Lib.hid (pickA_size k.signs n)
  clear hs g0 g1 hz hb hbv hp hsn hX hz2 hW hE
  generalize decide (k.signs ≠ []) = ok at *
  generalize pickA k.signs n = cs at *
  unfold code7
  conv => arg 2; whnf
  simp only [withLast]
  go_wp2_with fail
  generalize (w.alloc (.cells ws 32)).alloc (.cells (bodCells b) 36) = w0 at *
  refine (HSN.out w0 HB.out (by have := HZ.out; omega)).mono ?_
  rintro e w1 ⟨rfl, hb1⟩
  have B1 := Lib.hid (HB.out.trans (hb1.mono (by have := HZ.out; omega)))
  have H0 := Lib.hid ((hb1.block w.heap.size (by have := HZ.out; omega)).trans G0.out)
  have H1 := Lib.hid ((hb1.block (w.heap.size + 1) (by have := HZ.out; omega)).trans G1.out)
  have Z1 := Lib.hid (show w.heap.size + 2 ≤ w1.heap.size by have := HZ.out; have := hb1.size; omega)
  clear hb1 HSN G0 G1 HB HZ
  go_wp2_with ((refine wpList_load_row rfl 32 _ rfl w.heap.size rfl 32 _ (0, 0) _ H0.out Tryd.underlying32 rfl HS.out ?_; simp only [Act.put, List.setIfInBounds_toArray, List.set_cons_zero, List.set_cons_succ]))
  refine (HP.out w1 B1.out).mono ?_
  rintro e w2 ⟨rfl, hb2⟩
  have B2 := Lib.hid (B1.out.trans (hb2.mono (by have := Z1.out; omega)))
  have I0 := Lib.hid ((hb2.block w.heap.size (by have := Z1.out; omega)).trans H0.out)
  have I1 := Lib.hid ((hb2.block (w.heap.size + 1) (by have := Z1.out; omega)).trans H1.out)
  have Z2 := Lib.hid (show w.heap.size + 2 ≤ w2.heap.size by have := Z1.out; have := hb2.size; omega)
  clear hb2 HP H0 H1 B1 Z1
  go_wp2_with (refine wpList_store_row rfl 41 _ _ rfl w2.heap.size cs rfl rfl 41 _ (heap_alloc_new w2 _) (by rw [HSZ.out]; kernel_rfl) (by rw [HSZ.out]; rfl) HSA.out ?_; rw [World.setRow_alloc_new])
  have hb5 : Below w2.heap.size w2 (w2.alloc (.cells cs 41)) := (Below.refl w2.heap.size w2).alloc (Nat.le_refl _) _
  exact HX.out _ w2.heap.size _ _ _ _ _ _ _ _ _ _ _ _ _ _ _ _ _ _ _ _ _ _ _ _ _ _ _ _ _ _ _ _ _ _ _ _ _ _ _ _ _ _ _ _ _ _ _ _ _ _ _ _ _ _ _ _ _ _ _ _ _ _ _ _ _ _ _ _ _ _ _ _ _ _ _ _ _ _ _ _ _ _ _ _ _ _ _ _ _ _ _ _ _ _ _ _ _ _ _ _ _ _ _ _ _ _ _ _ _ _ _ _ _ _ _ _ _ _ _ _ (B2.out.trans (hb5.mono B2.out.size)) ((hb5.block _ (by have := Z2.out; omega)).trans I0.out) ((hb5.block _ (by have := Z2.out; omega)).trans I1.out) (heap_alloc_new w2 _) Z2.out
end Go.Proofs.YtggcbblikgankaaDoor
end
section
/- turn.Make: what it makes is a right turn; its contract. -/
namespace Go.Proofs.YtggcbblikgankaaDoor
open Go Go.RowKit

theorem gcd3_pos {A B C : Int} (hC : 1 ≤ C) : 1 ≤ gcd3 A B C := by
  unfold gcd3
  have : 0 < Nat.gcd (Nat.gcd A.natAbs B.natAbs) C.natAbs := Nat.gcd_pos_of_pos_right _ (by omega)
  omega
/-- A right turn's numbers without their common divisor are a right turn. -/
theorem low_right {A B C : Int} (hC : 1 ≤ C) (hC2 : C ≤ 32768) (h : A * A + B * B = C * C) : trnB (A.tdiv (gcd3 A B C)) (B.tdiv (gcd3 A B C)) (C / gcd3 A B C) = true := by
  have hg := gcd3_pos (A := A) (B := B) hC
  have dA : gcd3 A B C ∣ A := by
    unfold gcd3; exact Int.ofNat_dvd_left.2 (Nat.dvd_trans (Nat.gcd_dvd_left _ _) (Nat.gcd_dvd_left _ _))
  have dB : gcd3 A B C ∣ B := by
    unfold gcd3; exact Int.ofNat_dvd_left.2 (Nat.dvd_trans (Nat.gcd_dvd_left _ _) (Nat.gcd_dvd_right _ _))
  have dC : gcd3 A B C ∣ C := by
    unfold gcd3; exact Int.ofNat_dvd_left.2 (Nat.gcd_dvd_right _ _)
  have eA := Int.mul_tdiv_cancel' dA
  have eB := Int.mul_tdiv_cancel' dB
  have eC := Int.mul_ediv_cancel' dC
  have hgcd : Nat.gcd (Nat.gcd (A.tdiv (gcd3 A B C)).natAbs (B.tdiv (gcd3 A B C)).natAbs) (C / gcd3 A B C).natAbs = 1 := by
    have nA : (A.tdiv (gcd3 A B C)).natAbs = A.natAbs / (gcd3 A B C).natAbs := Int.natAbs_tdiv ..
    have nB : (B.tdiv (gcd3 A B C)).natAbs = B.natAbs / (gcd3 A B C).natAbs := Int.natAbs_tdiv ..
    have nC : (C / gcd3 A B C).natAbs = C.natAbs / (gcd3 A B C).natAbs := by
      rw [← Int.tdiv_eq_ediv_of_nonneg (by omega : 0 ≤ C)]; exact Int.natAbs_tdiv ..
    rw [nA, nB, nC]
    have hG : (gcd3 A B C).natAbs = Nat.gcd (Nat.gcd A.natAbs B.natAbs) C.natAbs := rfl
    rw [hG]
    have k1 : Nat.gcd (Nat.gcd A.natAbs B.natAbs) C.natAbs ∣ A.natAbs := Nat.dvd_trans (Nat.gcd_dvd_left _ _) (Nat.gcd_dvd_left _ _)
    have k2 : Nat.gcd (Nat.gcd A.natAbs B.natAbs) C.natAbs ∣ B.natAbs := Nat.dvd_trans (Nat.gcd_dvd_left _ _) (Nat.gcd_dvd_right _ _)
    rw [Nat.gcd_div k1 k2, Nat.gcd_div (Nat.gcd_dvd_left _ _) (Nat.gcd_dvd_right _ _)]
    exact Nat.div_self (Nat.gcd_pos_of_pos_right _ (by omega))
  generalize gcd3 A B C = g at *
  generalize A.tdiv g = a at *
  generalize B.tdiv g = b at *
  generalize C / g = c at *
  subst eA eB eC
  have hsq : a * a + b * b = c * c := by
    have h2 : (g * g) * (a * a + b * b) = (g * g) * (c * c) := by
      have e1 : g * a * (g * a) = (g * g) * (a * a) := by ac_rfl
      have e2 : g * b * (g * b) = (g * g) * (b * b) := by ac_rfl
      have e3 : g * c * (g * c) = (g * g) * (c * c) := by ac_rfl
      rw [Int.mul_add, ← e1, ← e2, ← e3]; exact h
    exact Int.eq_of_mul_eq_mul_left (Int.ne_of_gt (Int.mul_pos (by omega) (by omega))) h2
  have hc : 1 ≤ c := by
    rcases Int.lt_or_le c 1 with h1 | h1
    · have : g * c ≤ 0 := Int.mul_nonpos_of_nonneg_of_nonpos (by omega) (by omega)
      omega
    · exact h1
  have hc2 : c ≤ 32768 := by
    have : 1 * c ≤ g * c := Int.mul_le_mul_of_nonneg_right hg (by omega)
    omega
  have sq : ∀ x y : Int, x * x ≤ y * y → 0 ≤ y → -y ≤ x ∧ x ≤ y := by
    intro x y hxy hy
    refine ⟨?_, ?_⟩
    · rcases Int.lt_or_le x (-y) with h1 | h1
      · have : y * y < (-x) * (-x) := Int.mul_lt_mul' (by omega) (by omega) hy (by omega)
        rw [Int.neg_mul_neg] at this; omega
      · exact h1
    · rcases Int.lt_or_le y x with h1 | h1
      · have : y * y < x * x := Int.mul_lt_mul' (by omega) h1 hy (by omega)
        omega
      · exact h1
  have nn : ∀ x : Int, 0 ≤ x * x := fun x => by
    rcases Int.le_total 0 x with h1 | h1
    · exact Int.mul_nonneg h1 h1
    · have := Int.mul_nonneg (a := -x) (b := -x) (by omega) (by omega)
      rw [Int.neg_mul_neg] at this; exact this
  have ha := sq a c (by have := nn b; omega) (by omega)
  have hb := sq b c (by have := nn a; omega) (by omega)
  rw [trn_all hc hc2 ha.1 ha.2 hb.1 hb.2 hsq, decide_eq_true hgcd]

def makA (P Q : Int) : Int := P * P - Q * Q
def makB (P Q : Int) : Int := 2 * P * Q
def makC (P Q : Int) : Int := P * P + Q * Q
def mkA (P Q : Int) : Int := (makA P Q).tdiv (gcd3 (makA P Q) (makB P Q) (makC P Q))
def mkB (P Q : Int) : Int := (makB P Q).tdiv (gcd3 (makA P Q) (makB P Q) (makC P Q))
def mkC (P Q : Int) : Int := makC P Q / gcd3 (makA P Q) (makB P Q) (makC P Q)
theorem pq_bd {P Q : Int} (hP : 0 ≤ P ∧ P ≤ 127) (hQ : 0 ≤ Q ∧ Q ≤ 127) : 0 ≤ P * Q ∧ P * Q ≤ 16129 := by
  refine ⟨Int.mul_nonneg hP.1 hQ.1, ?_⟩
  have := Int.mul_le_mul hP.2 hQ.2 hQ.1 (by omega : (0 : Int) ≤ 127)
  omega
theorem mak_pos {P Q : Int} (hP : 0 ≤ P ∧ P ≤ 127) (hQ : 0 ≤ Q ∧ Q ≤ 127) (h : ¬ (P = 0 ∧ Q = 0)) : 1 ≤ makC P Q ∧ makC P Q ≤ 32258 := by
  have a := pq_bd hP hP
  have b := pq_bd hQ hQ
  unfold makC
  refine ⟨?_, by omega⟩
  rcases Int.lt_or_le 0 P with h1 | h1
  · have := Int.mul_pos h1 h1; omega
  · have : 0 < Q := by
      rcases Int.lt_or_le 0 Q with h2 | h2
      · exact h2
      · exact absurd ⟨by omega, by omega⟩ h
    have := Int.mul_pos this this; omega
theorem mak_right {P Q : Int} (hP : 0 ≤ P ∧ P ≤ 127) (hQ : 0 ≤ Q ∧ Q ≤ 127) (h : ¬ (P = 0 ∧ Q = 0)) : trnB (mkA P Q) (mkB P Q) (mkC P Q) = true := by
  have hc := mak_pos hP hQ h
  refine low_right hc.1 (by omega) ?_
  unfold makA makB makC
  grind

theorem results26 (tmps : Array Value) (w : World) (g : Nat) (x y z n : Value) (h4 : tmps.getD 4 undef = .pointer (some ⟨g, 0, none⟩)) (hg : w.heap[g]? = some (.cells #[x, y, z] 23 (0, 0))) (h5 : tmps.getD 5 undef = n) :
    (results Tryd.f26 tmps).run Tryd.prog w = .ok (.tuple #[.agg #[x, y, z], n]) w := by
  have h4' : tmps[4]?.getD undef = .pointer (some ⟨g, 0, none⟩) := by simpa using h4
  have h5' : tmps[5]?.getD undef = n := by simpa using h5
  simp [results, Tryd.results26, go_sem, h4', h5', cell_at hg 0 rfl, cell_at hg 1 rfl, cell_at hg 2 rfl]
def makV (P Q : Int) : Value := if P = 0 ∧ Q = 0 then .tuple #[.agg #[.int .i64 0, .int .i64 0, .int .i64 0], .int .i64 1] else .tuple #[.agg #[.int .i64 (mkA P Q), .int .i64 (mkB P Q), .int .i64 (mkC P Q)], .int .i64 0]
noncomputable def code26 : Code := (Tryd.f26.body).getD .skip
noncomputable def part26n2 : Code := lastPart 2 code26
set_option maxRecDepth 100000 in
set_option maxHeartbeats 4000000 in
theorem make_tail (P Q x y z : Int) (hP : 0 ≤ P ∧ P ≤ 127) (hQ : 0 ≤ Q ∧ Q ≤ 127) (w w1 : World) (g : Nat) (hg : w.heap.size ≤ g) (hB : Below w.heap.size w w1) (hg0 : w1.heap[g]? = some (.cells #[.int .i64 0, .int .i64 0, .int .i64 0] 23 (0, 0)))
    (hl : ∀ w, Calls Tryd.prog 56 #[.agg #[.int .i64 (P * P - Q * Q), .int .i64 (2 * P * Q), .int .i64 (P * P + Q * Q)]] w fun e w' => e = .returned (.agg #[.int .i64 x, .int .i64 y, .int .i64 z]) ∧ Below w.heap.size w w') (e2 e3 e5 e6 e7 e8 e9 e10 e11 e12 e13 e14 e15 e16 e17 e18 e19 e20 e21 e22 e23 e24 e25 e26 e27 e28 e29 e30 e31 e32 e33 e34 e35 e36 e37 e38 e39 e40 e41 e42 e43 e44 : Value) :
    Code.wp Tryd.prog part26n2 (bodyPost Tryd.prog Tryd.f26 fun e w' => e = .returned (.tuple #[.agg #[.int .i64 x, .int .i64 y, .int .i64 z], .int .i64 0]) ∧ Below w.heap.size w w') { tmps := #[.int .i64 P, .int .i64 Q, e2, e3, .pointer (some ⟨g, 0, none⟩), e5, e6, e7, e8, e9, e10, e11, e12, e13, e14, e15, e16, e17, e18, e19, e20, e21, e22, e23, e24, e25, e26, e27, e28, e29, e30, e31, e32, e33, e34, e35, e36, e37, e38, e39, e40, e41, e42, e43, e44], defers := [] } w1 := by
  have a1 := pq_bd hP hP
  have a2 := pq_bd hQ hQ
  have a3 := pq_bd (P := P) (Q := Q) hP hQ
  have W1 : IntKind.i64.wrap (P * P) = P * P := IntWalk.i64_in _ (by omega)
  have W2 : IntKind.i64.wrap (Q * Q) = Q * Q := IntWalk.i64_in _ (by omega)
  have W3 : IntKind.i64.wrap (P * P - Q * Q) = P * P - Q * Q := IntWalk.i64_in _ (by omega)
  have W4 : IntKind.i64.wrap (2 * P) = 2 * P := IntWalk.i64_in _ (by omega)
  have W5 : IntKind.i64.wrap (2 * P * Q) = 2 * P * Q := IntWalk.i64_in _ (by rw [Int.mul_assoc]; omega)
  have W6 : IntKind.i64.wrap (P * P + Q * Q) = P * P + Q * Q := IntWalk.i64_in _ (by omega)
  have hlt : g < w1.heap.size := (Array.getElem?_eq_some_iff.1 hg0).1
  have HL := Lib.hid hl; have HB := Lib.hid hB; have G0 := Lib.hid hg0; have HG := Lib.hid hg; have HLT := Lib.hid hlt
  clear hl hB hg0 a1 a2 a3 hP hQ hg hlt
  unfold part26n2 code26
  conv => arg 2; whnf
  go_wp2_with fail
  refine (HL.out _).mono ?_
  rintro e w2 ⟨rfl, b2⟩
  have g2 := (b2.block _ HLT.out).trans G0.out
  have B2 := Lib.hid (HB.out.trans (b2.mono HB.out.size))
  have G2 := Lib.hid g2
  clear b2 g2
  go_wp2_with (refine wpList_store_row rfl 23 _ _ rfl g #[.int .i64 x, .int .i64 y, .int .i64 z] rfl rfl 23 _ G2.out (by kernel_rfl) rfl (by simp [Value.oneCell']) ?_)
  refine bodyPost_ret (results26 _ _ g _ _ _ _ rfl (setRow_heap _ _ _ _ _ _ G2.out) rfl) rfl ⟨rfl, below_setRow B2.out HG.out _⟩
set_option maxRecDepth 100000 in
set_option maxHeartbeats 4000000 in
theorem make_any (P Q : Int) (hP : 0 ≤ P ∧ P ≤ 127) (hQ : 0 ≤ Q ∧ Q ≤ 127) (w : World) : Calls Tryd.prog 26 #[.int .i64 P, .int .i64 Q] w fun e w' => e = .returned (makV P Q) ∧ Below w.heap.size w w' := by
  have a1 := pq_bd hP hP
  have a2 := pq_bd hQ hQ
  have a3 := pq_bd (P := P) (Q := Q) hP hQ
  by_cases h0 : P = 0 ∧ Q = 0
  · obtain ⟨rfl, rfl⟩ := h0
    have g0 := heap_alloc_new w (.cells #[.int .i64 0, .int .i64 0, .int .i64 0] 23)
    have hb : Below w.heap.size w (w.alloc (.cells #[.int .i64 0, .int .i64 0, .int .i64 0] 23)) := (Below.refl _ w).alloc (Nat.le_refl _) _
    have G0 := Lib.hid g0; have HB := Lib.hid hb
    clear g0 hb a1 a2 a3 hP hQ
    go_enter Tryd.func26, Tryd.ntmps26
    go_wp2_with (first | (refine wpList_load_row rfl 23 _ rfl w.heap.size rfl 23 _ (0, 0) _ G0.out Tryd.underlying23 rfl (by kernel_rfl) ?_; simp only [Act.put, List.setIfInBounds_toArray, List.set_cons_zero, List.set_cons_succ]) | (refine wpList_store_row rfl 23 _ _ rfl w.heap.size _ rfl rfl 23 _ (heap_alloc_new w _) (by kernel_rfl) rfl (by simp [Value.oneCell']) ?_; rw [World.setRow_alloc_new]))
    refine bodyPost_ret (results26 _ _ w.heap.size _ _ _ _ rfl (heap_alloc_new w _) rfl) rfl ⟨rfl, HB.out⟩
  · have hlow := fun w => lowest_any (makA P Q) (makB P Q) (makC P Q) w (by unfold makA; omega) (by unfold makB; rw [Int.mul_assoc]; omega) ⟨(mak_pos hP hQ h0).1, by have := (mak_pos hP hQ h0).2; omega⟩
    have hv : makV P Q = .tuple #[.agg #[.int .i64 (mkA P Q), .int .i64 (mkB P Q), .int .i64 (mkC P Q)], .int .i64 0] := by unfold makV; rw [if_neg h0]
    have hlow' : ∀ w, Calls Tryd.prog 56 #[.agg #[.int .i64 (P * P - Q * Q), .int .i64 (2 * P * Q), .int .i64 (P * P + Q * Q)]] w fun e w' => e = .returned (.agg #[.int .i64 (mkA P Q), .int .i64 (mkB P Q), .int .i64 (mkC P Q)]) ∧ Below w.heap.size w w' := hlow
    have HL := Lib.hid hlow'; have HV := Lib.hid hv; have HP := Lib.hid hP; have HQ := Lib.hid hQ
    have f0 : (P == 0) = false ∨ ((P == 0) = true ∧ (Q == 0) = false) := by
      by_cases h1 : P = 0
      · exact Or.inr ⟨by simpa using h1, by simpa using fun h2 => h0 ⟨h1, h2⟩⟩
      · exact Or.inl (by simpa using h1)
    have hb0 : Below w.heap.size w (w.alloc (.cells #[.int .i64 0, .int .i64 0, .int .i64 0] 23)) := (Below.refl _ w).alloc (Nat.le_refl _) _
    have g0 := heap_alloc_new w (.cells #[.int .i64 0, .int .i64 0, .int .i64 0] 23)
    have HB0 := Lib.hid hb0; have G0 := Lib.hid g0
    clear hlow hlow' a1 a2 a3 h0 hb0 g0 hv
    rw [HV.out]
    generalize mkA P Q = x at *
    generalize mkB P Q = y at *
    generalize mkC P Q = z at *
    clear HV
    go_enter Tryd.func26, Tryd.ntmps26
    change Code.wp Tryd.prog (.seq (.region 0 _ _) (.seq _ part26n2)) _ _ _
    rcases Int.lt_trichotomy P Q with ho | ho | ho
    all_goals
      first
      | (have hmin : (if Q < P then Q else P) = P := if_neg (by omega)
         have hmax : (if P < Q then Q else P) = Q := if_pos (by omega)
         have hmn : ¬ P < -127 := by omega
         have hmx : ¬ 127 < Q := by omega
         skip)
      | (have hmin : (if Q < P then Q else P) = Q := if_pos (by omega)
         have hmax : (if P < Q then Q else P) = P := if_neg (by omega)
         have hmn : ¬ Q < -127 := by omega
         have hmx : ¬ 127 < P := by omega
         skip)
      | (have hmn : ¬ P < -127 := by omega
         have hmx : ¬ 127 < P := by omega
         subst ho
         skip)
    all_goals
      rcases f0 with f1 | ⟨f1, f2⟩
      all_goals
        first
        | (exfalso; rw [f1] at f2; cases f2)
        | (go_wp2_with fail
           exact make_tail _ _ x y z HP.out HQ.out w _ w.heap.size (Nat.le_refl _) HB0.out G0.out HL.out _ _ _ _ _ _ _ _ _ _ _ _ _ _ _ _ _ _ _ _ _ _ _ _ _ _ _ _ _ _ _ _ _ _ _ _ _ _ _ _ _ _)
end Go.Proofs.YtggcbblikgankaaDoor
end
section
/- Caps; body.Valid. -/
namespace Go.Proofs.YtggcbblikgankaaDoor
open Go Go.RowKit Go.Deep

structure Cap where
  kind : Int
  limb : Int
  n : Int
  deriving DecidableEq
instance : Inhabited Cap := ⟨⟨0, 0, 0⟩⟩
def encCap (c : Cap) : List Value := [.int .i64 c.kind, .int .i64 c.limb, .int .i64 c.n]
def capA (c : Cap) : Array Value := #[.int .i64 c.kind, .int .i64 c.limb, .int .i64 c.n]
def lmaxOf (k : Nat) : Int := if k = 1 ∨ k = 2 then 2 else 0
def capB (c : Cap) : Bool := inB c.kind 1 6 && inB c.limb 0 (lmaxOf c.kind.toNat) && inB c.n (loOf (c.kind.toNat - 1)) (hiOf (c.kind.toNat - 1))
def ruleK (k : Nat) : Array Value := #[.func (.func (78 + k)) #[] #[], .int .i64 (loOf (k - 1)), .int .i64 (hiOf (k - 1)), .int .i64 (lmaxOf k)]
def ruleVal (k : Nat) : Value := .agg ((rulesA.toList.drop (k * 4)).take 4).toArray
noncomputable def code58 : Code := (Tryd.f58.body).getD .skip
noncomputable def part58n2 : Code := lastPart 2 code58
noncomputable def part58n3 : Code := lastPart 3 code58
theorem rule_step {W w : World} {A : Nat} {cs : Array Value} {t : TypeId} (hb : Below W.heap.size W w) (hA : w.heap[A]? = some (.cells cs t (0, 0))) (cs' : Array Value) (t' : TypeId) : ∃ w', w.alloc (.cells cs' t') = w' ∧ w'.heap[A]? = some (.cells cs t (0, 0)) ∧ w'.heap[w.heap.size]? = some (.cells cs' t' (0, 0)) ∧ Below W.heap.size W w' ∧ w.heap.size < w'.heap.size ∧ W.heap.size ≤ w.heap.size :=
  ⟨_, rfl, (Below.heap_alloc w _ A (Array.getElem?_eq_some_iff.1 hA).1).trans hA, heap_alloc_new w _, hb.alloc hb.size _, by simp, hb.size⟩
set_option maxRecDepth 100000 in
set_option maxHeartbeats 8000000 in
theorem valid_rule (c : Cap) (k : Nat) (hk : 1 ≤ k ∧ k ≤ 6) (hck : c.kind = k) (A : Nat) (w3 : World) (g0 : w3.heap[A]? = some (.cells (capA c) 136 (0, 0))) (e0 e2 e3 e4 e5 e6 e7 e8 e9 e10 e11 e12 e13 e14 e15 e16 e17 e18 e19 e20 e21 e22 e23 e24 e25 e26 e27 e28 : Value) (R : Ending → World → Prop) (X : Code)
    (hX : ∀ (w4 : World) (G : Nat) (e0 e2 e4 e5 e6 e7 e8 e9 e10 e11 e12 e13 e14 e15 e16 e17 e18 e19 e20 e21 e22 e23 e24 e25 e26 e27 e28 : Value), Below w3.heap.size w3 w4 → w4.heap[G]? = some (.cells (ruleK k) 117 (0, 0)) → Code.wp Tryd.prog X (bodyPost Tryd.prog Tryd.f58 R) { tmps := #[e0, .pointer (some ⟨A, 0, none⟩), e2, .pointer (some ⟨G, 0, none⟩), e4, e5, e6, e7, e8, e9, e10, e11, e12, e13, e14, e15, e16, e17, e18, e19, e20, e21, e22, e23, e24, e25, e26, e27, e28], defers := [] } w4) :
    Code.wp Tryd.prog (withLast 1 part58n2 X) (bodyPost Tryd.prog Tryd.f58 R) { tmps := #[e0, .pointer (some ⟨A, 0, none⟩), e2, e3, e4, e5, e6, e7, e8, e9, e10, e11, e12, e13, e14, e15, e16, e17, e18, e19, e20, e21, e22, e23, e24, e25, e26, e27, e28], defers := [] } w3 := by
  have hA : A < w3.heap.size := (Array.getElem?_eq_some_iff.1 g0).1
  have HX := Lib.hid hX; have HA := Lib.hid hA
  have hB0 : Below w3.heap.size w3 w3.drew := (Below.refl _ w3).drew
  have gA0 : w3.drew.heap[A]? = some (.cells (capA c) 136 (0, 0)) := g0
  have hcell : ∀ w2 : World, w2.heap[A]? = some (.cells (capA c) 136 (0, 0)) → w2.cell? ⟨A, 0, none⟩ = some (.int .i64 (k : Int)) := fun w2 h => by rw [← hck]; exact cell_at h 0 rfl
  have HCL := Lib.hid hcell
  clear hX g0 hA hcell
  unfold part58n2 code58
  conv => arg 2; whnf
  simp only [withLast]
  refine wp_seq ?_
  refine wp_region_held (S := fun w2 => w2.heap[A]? = some (.cells (capA c) 136 (0, 0))) (by kernel_rfl) ?_
  change wpAnyH _ _ _ _ _ _ _ _ w3.drew
  generalize w3.drew = W0 at *
  refine wpAnyH_take (i := 1) (oi := _) (v := .pointer (some ⟨A, 0, none⟩)) rfl (by kernel_rfl) (by kernel_rfl) (by kernel_rfl) (fun _ _ _ h => h) (Or.inl ⟨by rfl, fun w _ => by go_simp⟩) gA0 ?_
  try (simp only [Act.put, List.setIfInBounds_toArray, List.set_cons_zero, List.set_cons_succ])
  refine wpAnyH_take (i := 2) (oi := _) (v := .int .i64 (k : Int)) rfl (by kernel_rfl) (by kernel_rfl) (by kernel_rfl) (fun _ _ _ h => h) (Or.inl ⟨by rfl, fun w h => by have := HCL.out w h; go_simp⟩) gA0 ?_
  try (simp only [Act.put, List.setIfInBounds_toArray, List.set_cons_zero, List.set_cons_succ])
  have hkk : k = 1 ∨ k = 2 ∨ k = 3 ∨ k = 4 ∨ k = 5 ∨ k = 6 := by omega
  refine wpAnyH_ready (rs := [0, 4]) (by kernel_rfl) (by simp) ?_
  refine AllReadyH.cons (o := _) rfl (fun K1 hK => ?_) (AllReadyH.cons (o := _) rfl (fun K2 hK => ?_) AllReadyH.nil)
  · go_simp
    go_at_call 51
    refine (rules_any W0).mono ?_
    rintro e W1 ⟨rfl, hb1⟩
    have gA1 := (hb1.block A (by have := HA.out; have := hB0.size; omega)).trans gA0
    have hB1 := hB0.trans (hb1.mono hB0.size)
    refine hK.out _ _ gA1 (fun _ => ?_)
    clear hK K1 hb1 gA0 hB0
    try (simp only [Act.put, List.setIfInBounds_toArray, List.set_cons_zero, List.set_cons_succ])
    refine wpAnyH_take (i := 3) (oi := _) (v := .agg (ruleK k)) rfl (by kernel_rfl) (by kernel_rfl) (by kernel_rfl) (fun _ _ _ h => h) (Or.inl ⟨by rfl, fun w _ => by rcases hkk with rfl | rfl | rfl | rfl | rfl | rfl <;> (unfold rulesA ruleK; go_simp; first | done | rfl)⟩) gA1 ?_
    try (simp only [Act.put, List.setIfInBounds_toArray, List.set_cons_zero, List.set_cons_succ])
    refine wpAnyH_ready (rs := [4]) (by kernel_rfl) (by simp) ?_
    refine AllReadyH.cons (o := _) rfl (fun K1 hK => ?_) AllReadyH.nil
    go_simp
    obtain ⟨W2, hW2, gA2, m2, b2, z2, hM2⟩ := rule_step hB1 gA1 #[.nilFunc, .int .i64 0, .int .i64 0, .int .i64 0] 117
    rw [hW2]
    refine hK.out _ _ gA2 (fun _ => ?_)
    clear hK K1 hW2
    try (simp only [Act.put, List.setIfInBounds_toArray, List.set_cons_zero, List.set_cons_succ])
    refine wpAnyH_ready (rs := [5]) (by kernel_rfl) (by simp) ?_
    refine AllReadyH.cons (o := _) rfl (fun K1 hK => ?_) AllReadyH.nil
    rw [if_pos (by rfl)]
    refine wp_store_row 117 _ _ rfl W1.heap.size (ruleK k) rfl rfl 117 _ m2 (by kernel_rfl) rfl (by simp [ruleK, Value.oneCell']) ?_
    refine hK.out _ _ ((setRow_other _ _ _ _ (by have := HA.out; omega)).trans gA2) (fun _ => ?_)
    clear hK K1
    try (simp only [Act.put, List.setIfInBounds_toArray, List.set_cons_zero, List.set_cons_succ])
    refine wpAnyH_done (by kernel_rfl) ?_ _
    exact HX.out _ W1.heap.size _ _ _ _ _ _ _ _ _ _ _ _ _ _ _ _ _ _ _ _ _ _ _ _ _ _ _ (below_setRow b2 (by omega) _) (setRow_heap _ _ _ _ _ _ m2)
  · go_simp
    obtain ⟨W2, hW2, gA2, m2, b2, z2, hM2⟩ := rule_step hB0 gA0 #[.nilFunc, .int .i64 0, .int .i64 0, .int .i64 0] 117
    rw [hW2]
    refine hK.out _ _ gA2 (fun _ => ?_)
    clear hK K2 hW2
    try (simp only [Act.put, List.setIfInBounds_toArray, List.set_cons_zero, List.set_cons_succ])
    refine wpAnyH_ready (rs := [0]) (by kernel_rfl) (by simp) ?_
    refine AllReadyH.cons (o := _) rfl (fun K1 hK => ?_) AllReadyH.nil
    go_simp
    go_at_call 51
    refine (rules_any W2).mono ?_
    rintro e W1 ⟨rfl, hb1⟩
    have gA1 := (hb1.block A (by have := HA.out; have := b2.size; omega)).trans gA2
    have m1 := (hb1.block W0.heap.size (by omega)).trans m2
    have hB1 := b2.trans (hb1.mono b2.size)
    refine hK.out _ _ gA1 (fun _ => ?_)
    clear hK K1 hb1 gA0 hB0
    try (simp only [Act.put, List.setIfInBounds_toArray, List.set_cons_zero, List.set_cons_succ])
    refine wpAnyH_take (i := 3) (oi := _) (v := .agg (ruleK k)) rfl (by kernel_rfl) (by kernel_rfl) (by kernel_rfl) (fun _ _ _ h => h) (Or.inl ⟨by rfl, fun w _ => by rcases hkk with rfl | rfl | rfl | rfl | rfl | rfl <;> (unfold rulesA ruleK; go_simp; first | done | rfl)⟩) gA1 ?_
    try (simp only [Act.put, List.setIfInBounds_toArray, List.set_cons_zero, List.set_cons_succ])
    refine wpAnyH_ready (rs := [5]) (by kernel_rfl) (by simp) ?_
    refine AllReadyH.cons (o := _) rfl (fun K1 hK => ?_) AllReadyH.nil
    rw [if_pos (by rfl)]
    refine wp_store_row 117 _ _ rfl W0.heap.size (ruleK k) rfl rfl 117 _ m1 (by kernel_rfl) rfl (by simp [ruleK, Value.oneCell']) ?_
    refine hK.out _ _ ((setRow_other _ _ _ _ (by have := HA.out; omega)).trans gA1) (fun _ => ?_)
    clear hK K1
    try (simp only [Act.put, List.setIfInBounds_toArray, List.set_cons_zero, List.set_cons_succ])
    refine wpAnyH_done (by kernel_rfl) ?_ _
    exact HX.out _ W0.heap.size _ _ _ _ _ _ _ _ _ _ _ _ _ _ _ _ _ _ _ _ _ _ _ _ _ _ _ (below_setRow hB1 (by omega) _) (setRow_heap _ _ _ _ _ _ m1)
set_option maxRecDepth 100000 in
set_option maxHeartbeats 8000000 in
theorem valid_tail (c : Cap) (k : Nat) (hck : c.kind = k) (hk : 1 ≤ k ∧ k ≤ 6) (A G : Nat) (w0 w3 : World) (hB : Below w0.heap.size w0 w3) (g0 : w3.heap[A]? = some (.cells (capA c) 136 (0, 0))) (g1 : w3.heap[G]? = some (.cells (ruleK k) 117 (0, 0))) (e0 e2 e4 e5 e6 e7 e8 e9 e10 e11 e12 e13 e14 e15 e16 e17 e18 e19 e20 e21 e22 e23 e24 e25 e26 e27 e28 : Value) :
    Code.wp Tryd.prog part58n3 (bodyPost Tryd.prog Tryd.f58 fun e w' => e = .returned (.bool (capB c)) ∧ Below w0.heap.size w0 w') { tmps := #[e0, .pointer (some ⟨A, 0, none⟩), e2, .pointer (some ⟨G, 0, none⟩), e4, e5, e6, e7, e8, e9, e10, e11, e12, e13, e14, e15, e16, e17, e18, e19, e20, e21, e22, e23, e24, e25, e26, e27, e28], defers := [] } w3 := by
  have hcb : capB c = (inB c.limb 0 (lmaxOf k) && inB c.n (loOf (k - 1)) (hiOf (k - 1))) := by
    unfold capB
    rw [hck, show ((k : Int)).toNat = k from Int.toNat_natCast k, inB_iff.2 (by omega : (1 : Int) ≤ (k : Int) ∧ (k : Int) ≤ 6), Bool.true_and]
  have c1 : w3.cell? ⟨A, 1, none⟩ = some (.int .i64 c.limb) := cell_at g0 1 rfl
  have c2 : w3.cell? ⟨A, 2, none⟩ = some (.int .i64 c.n) := cell_at g0 2 rfl
  have r1 : w3.cell? ⟨G, 1, none⟩ = some (.int .i64 (loOf (k - 1))) := cell_at g1 1 rfl
  have r2 : w3.cell? ⟨G, 2, none⟩ = some (.int .i64 (hiOf (k - 1))) := cell_at g1 2 rfl
  have r3 : w3.cell? ⟨G, 3, none⟩ = some (.int .i64 (lmaxOf k)) := cell_at g1 3 rfl
  have hA : A < w3.heap.size := (Array.getElem?_eq_some_iff.1 g0).1
  have hG : G < w3.heap.size := (Array.getElem?_eq_some_iff.1 g1).1
  have hwi := fun (lo hi x : Int) (g : Nat) (W : World) (h : W.heap[g]? = some (.cells #[.int .i64 x] 3 (0, 0))) => within_one lo hi x g 1 W (cell_at h 0 rfl)
  have HWI := Lib.hid hwi; have HCB := Lib.hid hcb; have HB := Lib.hid hB; have HA := Lib.hid hA; have HG := Lib.hid hG
  clear hwi hcb hB g0 g1 hk hck hA hG
  generalize capB c = cb at *
  generalize lmaxOf k = lm at *
  generalize loOf (k - 1) = lo at *
  generalize hiOf (k - 1) = hi at *
  generalize c.limb = x at *
  generalize c.n = y at *
  unfold part58n3 code58
  conv => arg 2; whnf
  go_wp2_with fail
  refine (HWI.out 0 lm x w3.heap.size _ (heap_alloc_new w3 _)).mono ?_
  rintro e W ⟨rfl, rfl⟩
  have hb1 : Below w3.heap.size w3 (w3.alloc (.cells #[.int .i64 x] 3)) := (Below.refl _ w3).alloc (Nat.le_refl _) _
  have d2 := (hb1.cell (p := ⟨A, 2, none⟩) HA.out).trans c2
  have s1 := (hb1.cell (p := ⟨G, 1, none⟩) HG.out).trans r1
  have s2 := (hb1.cell (p := ⟨G, 2, none⟩) HG.out).trans r2
  have HB1 := Lib.hid (HB.out.trans (hb1.mono HB.out.size))
  clear hb1 c1 c2 r1 r2 r3
  generalize w3.alloc (.cells #[.int .i64 x] 3) = W1 at *
  cases hl : inB x 0 lm with
  | false =>
    have HL := Lib.hid hl
    clear hl
    go_wp2_with fail
    go_ret
    exact ⟨by rw [HCB.out, HL.out]; rfl, HB1.out⟩
  | true =>
    have HL := Lib.hid hl
    clear hl
    go_wp2_with fail
    refine (HWI.out lo hi y W1.heap.size _ (heap_alloc_new W1 _)).mono ?_
    rintro e W ⟨rfl, rfl⟩
    have HB2 := Lib.hid (HB1.out.alloc HB1.out.size (.cells #[.int .i64 y] 3))
    clear d2 s1 s2
    generalize hin : inB y lo hi = iy at *
    have HI := Lib.hid hin
    clear hin
    go_wp2_with fail
    go_ret
    exact ⟨by rw [HCB.out, HL.out]; rfl, HB2.out⟩
set_option maxRecDepth 100000 in
set_option maxHeartbeats 8000000 in
theorem valid_head (c : Cap) (w : World) (R : Ending → World → Prop) (X : Code) (hF : inB c.kind 1 6 = false → ∀ w', Below w.heap.size w w' → R (.returned (.bool false)) w')
    (hX : inB c.kind 1 6 = true → ∀ (w3 : World) (e0 e2 e3 e4 e5 e6 e7 e8 e9 e10 e11 e12 e13 e14 e15 e16 e17 e18 e19 e20 e21 e22 e23 e24 e25 e26 e27 e28 : Value), Below w.heap.size w w3 → w3.heap[w.heap.size]? = some (.cells (capA c) 136 (0, 0)) → Code.wp Tryd.prog X (bodyPost Tryd.prog Tryd.f58 R) { tmps := #[e0, .pointer (some ⟨w.heap.size, 0, none⟩), e2, e3, e4, e5, e6, e7, e8, e9, e10, e11, e12, e13, e14, e15, e16, e17, e18, e19, e20, e21, e22, e23, e24, e25, e26, e27, e28], defers := [] } w3) :
    Code.wp Tryd.prog (withLast 2 code58 X) (bodyPost Tryd.prog Tryd.f58 R) { tmps := #[.agg (capA c), undef, undef, undef, undef, undef, undef, undef, undef, undef, undef, undef, undef, undef, undef, undef, undef, undef, undef, undef, undef, undef, undef, undef, undef, undef, undef, undef, undef], defers := [] } w := by
  have g0 := heap_alloc_new w (.cells (capA c) 136)
  obtain ⟨j0, j1, hz, hb⟩ := blocks2 w (.cells (capA c) 136) (.cells #[.int .i64 c.kind] 3)
  have c0 : (w.alloc (.cells (capA c) 136)).cell? ⟨w.heap.size, 0, none⟩ = some (.int .i64 c.kind) := cell_at g0 0 rfl
  have hwi := within_one 1 6 c.kind (w.heap.size + 1) 1 _ (cell_at j1 0 rfl)
  have J0 := Lib.hid j0; have HB0 := Lib.hid hb; have HWI := Lib.hid hwi; have HF := Lib.hid hF; have HX := Lib.hid hX
  clear g0 hb hwi hz j0 j1 hF hX
  unfold code58
  conv => arg 2; whnf
  simp only [withLast]
  go_wp2_with fail
  refine HWI.out.mono ?_
  rintro e W ⟨rfl, rfl⟩
  cases hk : inB c.kind 1 6 with
  | false =>
    rw [hk] at HF
    clear hk
    go_wp2_with fail
    first | exact HF.out (by first | rfl | trivial) _ HB0.out | (go_ret; exact HF.out (by first | rfl | trivial) _ HB0.out)
  | true =>
    rw [hk] at HX
    clear hk
    go_wp2_with fail
    exact HX.out (by first | rfl | trivial) _ _ _ _ _ _ _ _ _ _ _ _ _ _ _ _ _ _ _ _ _ _ _ _ _ _ _ _ _ HB0.out J0.out
set_option maxRecDepth 100000 in
set_option maxHeartbeats 8000000 in
theorem valid_any (c : Cap) (w : World) : Calls Tryd.prog 58 #[.agg (capA c)] w fun e w' => e = .returned (.bool (capB c)) ∧ Below w.heap.size w w' := by
  go_enter Tryd.func58, Tryd.ntmps58
  refine valid_head c w _ (withLast 1 part58n2 part58n3) ?_ ?_
  · intro hk w' hb
    have hcb : capB c = false := by unfold capB; rw [hk]; rfl
    exact ⟨by rw [hcb], hb⟩
  intro hk w3 _ _ _ _ _ _ _ _ _ _ _ _ _ _ _ _ _ _ _ _ _ _ _ _ _ _ _ _ b3 g3
  have hkk := inB_iff.1 hk
  have hck : c.kind = (c.kind.toNat : Nat) := by omega
  refine valid_rule c c.kind.toNat (by omega) hck w.heap.size w3 g3 _ _ _ _ _ _ _ _ _ _ _ _ _ _ _ _ _ _ _ _ _ _ _ _ _ _ _ _ _ part58n3 ?_
  intro w4 G _ _ _ _ _ _ _ _ _ _ _ _ _ _ _ _ _ _ _ _ _ _ _ _ _ _ _ b4 gG
  have hlt : w.heap.size < w3.heap.size := (Array.getElem?_eq_some_iff.1 g3).1
  exact valid_tail c c.kind.toNat hck (by omega) w.heap.size G w w4 (b3.trans (b4.mono b3.size)) ((b4.block _ hlt).trans g3) gG _ _ _ _ _ _ _ _ _ _ _ _ _ _ _ _ _ _ _ _ _ _ _ _ _ _ _
end Go.Proofs.YtggcbblikgankaaDoor
end
section
/- Bodies lowered by caps: plain laws; the methods that find a field. -/
namespace Go.Proofs.YtggcbblikgankaaDoor
open Go Go.RowKit

/-- Where the field of a kind and a limb stands. -/
def offOf (k : Nat) (limb : Int) : Nat := if k = 1 then 12 + limb.toNat else if k = 2 then 9 + limb.toNat else if k = 3 then 4 else if k = 4 then 5 else if k = 5 then 2 else 15
def bodGet (b : Bod) : Nat → Int
  | 2 => b.lift
  | 4 => b.step
  | 5 => b.jump
  | 9 => b.s0
  | 10 => b.s1
  | 11 => b.s2
  | 12 => b.t0
  | 13 => b.t1
  | 14 => b.t2
  | _ => b.effort
def bodSet (b : Bod) (v : Int) : Nat → Bod
  | 2 => { b with lift := v }
  | 4 => { b with step := v }
  | 5 => { b with jump := v }
  | 9 => { b with s0 := v }
  | 10 => { b with s1 := v }
  | 11 => { b with s2 := v }
  | 12 => { b with t0 := v }
  | 13 => { b with t1 := v }
  | 14 => { b with t2 := v }
  | _ => { b with effort := v }
/-- The places that caps know. -/
def OffIn (o : Nat) : Prop := o = 2 ∨ o = 4 ∨ o = 5 ∨ o = 9 ∨ o = 10 ∨ o = 11 ∨ o = 12 ∨ o = 13 ∨ o = 14 ∨ o = 15
theorem off_in {c : Cap} (h : capB c = true) : OffIn (offOf c.kind.toNat c.limb) ∧ 1 ≤ c.kind.toNat ∧ c.kind.toNat ≤ 6 ∧ c.kind = (c.kind.toNat : Nat) ∧ 0 ≤ c.limb ∧ c.limb ≤ 2 := by
  unfold capB at h
  simp only [Bool.and_eq_true, inB_iff] at h
  obtain ⟨⟨h1, h2⟩, _⟩ := h
  have hl : c.limb ≤ 2 := by have := h2.2; unfold lmaxOf at this; split at this <;> omega
  refine ⟨?_, by omega, by omega, by omega, h2.1, hl⟩
  unfold offOf OffIn
  have hk : c.kind.toNat = 1 ∨ c.kind.toNat = 2 ∨ c.kind.toNat = 3 ∨ c.kind.toNat = 4 ∨ c.kind.toNat = 5 ∨ c.kind.toNat = 6 := by omega
  rcases hk with e | e | e | e | e | e <;> simp [e] <;> omega
theorem bod_at (b : Bod) {o : Nat} (h : OffIn o) : (bodCells b)[o]? = some (.int .i64 (bodGet b o)) := by
  rcases h with rfl | rfl | rfl | rfl | rfl | rfl | rfl | rfl | rfl | rfl <;> rfl
theorem bod_set (b : Bod) (v : Int) {o : Nat} (h : OffIn o) : (bodCells b).setIfInBounds o (.int .i64 v) = bodCells (bodSet b v o) := by
  rcases h with rfl | rfl | rfl | rfl | rfl | rfl | rfl | rfl | rfl | rfl <;> rfl
/-- A body that can do at most what another can. -/
structure LeB (a b : Bod) : Prop where
  name : a.name = b.name
  weight : a.weight = b.weight
  girth : a.girth = b.girth
  r0 : a.r0 = b.r0
  r1 : a.r1 = b.r1
  r2 : a.r2 = b.r2
  recover : a.recover = b.recover
  lift : a.lift ≤ b.lift
  step : a.step ≤ b.step
  jump : a.jump ≤ b.jump
  s0 : a.s0 ≤ b.s0
  s1 : a.s1 ≤ b.s1
  s2 : a.s2 ≤ b.s2
  t0 : a.t0 ≤ b.t0
  t1 : a.t1 ≤ b.t1
  t2 : a.t2 ≤ b.t2
  effort : a.effort ≤ b.effort
theorem LeB.refl (b : Bod) : LeB b b := ⟨rfl, rfl, rfl, rfl, rfl, rfl, rfl, Int.le_refl _, Int.le_refl _, Int.le_refl _, Int.le_refl _, Int.le_refl _, Int.le_refl _, Int.le_refl _, Int.le_refl _, Int.le_refl _, Int.le_refl _⟩
theorem LeB.set {a b : Bod} (h : LeB a b) {o : Nat} (ho : OffIn o) {v : Int} (hv : v ≤ bodGet a o) : LeB (bodSet a v o) b := by
  obtain ⟨h1, h2, h3, h4, h5, h6, h7, h8, h9, h10, h11, h12, h13, h14, h15, h16, h17⟩ := h
  rcases ho with rfl | rfl | rfl | rfl | rfl | rfl | rfl | rfl | rfl | rfl <;> simp only [bodGet] at hv <;> refine ⟨h1, h2, h3, h4, h5, h6, h7, ?_, ?_, ?_, ?_, ?_, ?_, ?_, ?_, ?_, ?_⟩ <;> simp only [bodSet] <;> first | assumption | omega
theorem bod_iff (b : Bod) : bodB b = true ↔ headB b = true ∧ inB b.t0 1 3 = true ∧ inB b.t1 1 3 = true ∧ inB b.t2 1 3 = true ∧ inB b.s0 1 1048576 = true ∧ inB b.s1 1 1048576 = true ∧ inB b.s2 1 1048576 = true ∧ inB b.step 1 16 = true ∧ inB b.jump 0 16 = true ∧ inB b.lift 0 500 = true ∧ inB b.effort 0 1048576 = true := by
  unfold bodB
  rw [Bool.and_eq_true]
  refine and_congr_right fun _ => ?_
  rw [show List.range 6 = [0, 1, 2, 3, 4, 5] from rfl]
  simp [ruleB, valsOf, loOf, hiOf, and_assoc]
theorem cap_lowers {c : Cap} (hc : capB c = true) {a : Bod} (ha : bodB a = true) : bodB (bodSet a (min (bodGet a (offOf c.kind.toNat c.limb)) c.n) (offOf c.kind.toNat c.limb)) = true := by
  have hoff := off_in hc
  unfold capB at hc
  simp only [Bool.and_eq_true, inB_iff] at hc
  obtain ⟨⟨h1, h2⟩, h3⟩ := hc
  obtain ⟨_, hk1, hk6, _, hl0, hl2⟩ := hoff
  rw [bod_iff] at ha
  obtain ⟨a0, a1, a2, a3, a4, a5, a6, a7, a8, a9, a10⟩ := ha
  have hk : c.kind.toNat = 1 ∨ c.kind.toNat = 2 ∨ c.kind.toNat = 3 ∨ c.kind.toNat = 4 ∨ c.kind.toNat = 5 ∨ c.kind.toNat = 6 := by omega
  have mn : ∀ {x n lo hi : Int}, inB x lo hi = true → lo ≤ n ∧ n ≤ hi → inB (min x n) lo hi = true := fun hx hn => by
    rw [inB_iff] at hx ⊢; omega
  rw [bod_iff]
  have hlim : c.limb = 0 ∨ c.limb = 1 ∨ c.limb = 2 := by omega
  rcases hk with e | e | e | e | e | e <;> rw [e] at h2 h3 ⊢ <;> simp only [loOf, hiOf, Nat.reduceSub] at h3 <;> simp only [offOf, Nat.reduceEqDiff, if_true, if_false]
  · rcases hlim with l | l | l <;> rw [l]
    · exact ⟨a0, mn a1 h3, a2, a3, a4, a5, a6, a7, a8, a9, a10⟩
    · exact ⟨a0, a1, mn a2 h3, a3, a4, a5, a6, a7, a8, a9, a10⟩
    · exact ⟨a0, a1, a2, mn a3 h3, a4, a5, a6, a7, a8, a9, a10⟩
  · rcases hlim with l | l | l <;> rw [l]
    · exact ⟨a0, a1, a2, a3, mn a4 h3, a5, a6, a7, a8, a9, a10⟩
    · exact ⟨a0, a1, a2, a3, a4, mn a5 h3, a6, a7, a8, a9, a10⟩
    · exact ⟨a0, a1, a2, a3, a4, a5, mn a6 h3, a7, a8, a9, a10⟩
  · exact ⟨a0, a1, a2, a3, a4, a5, a6, mn a7 h3, a8, a9, a10⟩
  · exact ⟨a0, a1, a2, a3, a4, a5, a6, a7, mn a8 h3, a9, a10⟩
  · exact ⟨a0, a1, a2, a3, a4, a5, a6, a7, a8, mn a9 h3, a10⟩
  · exact ⟨a0, a1, a2, a3, a4, a5, a6, a7, a8, a9, mn a10 h3⟩

/-- The method of a kind. -/
theorem door_any (k : Nat) (hk : 1 ≤ k ∧ k ≤ 6) (limb : Int) (h0 : 0 ≤ limb) (h2 : limb ≤ 2) (L : Nat) (w : World) : Calls Tryd.prog (78 + k) #[.pointer (some ⟨L, 0, none⟩), .int .i64 limb] w fun e w' => e = .returned (.pointer (some ⟨L, offOf k limb, none⟩)) ∧ w = w' := by
  have hkk : k = 1 ∨ k = 2 ∨ k = 3 ∨ k = 4 ∨ k = 5 ∨ k = 6 := by omega
  rcases hkk with rfl | rfl | rfl | rfl | rfl | rfl
  · exact ctop_any L limb h0 (by omega) w
  · exact cspeed_any L limb h0 (by omega) w
  · exact cstep_any L limb w
  · exact cjump_any L limb w
  · exact clift_any L limb w
  · exact ceffort_any L limb w
end Go.Proofs.YtggcbblikgankaaDoor
end
section
/- The head of function 3: boxes, sane, pick, guards, Options. -/
namespace Go.Proofs.YtggcbblikgankaaDoor
open Go Go.RowKit

noncomputable def code3 : Code := (Tryd.f3.body).getD .skip
set_option maxRecDepth 100000 in
set_option maxHeartbeats 8000000 in
theorem pick_3 (k : Wrk) (b : Bod) (n : Nat) (hn : n < 65536) (ws : Array Value)  (w : World) (hE : Env w) (hz2 : 2 ≤ w.heap.size) (hW : WkAt k ws w) (R : Ending → World → Prop) (X : Code)
    (hX : ∀ (w3 : World) (K : Nat) (e0 e1 e2 e4 e6 e9 e10 e11 e12 e13 e14 e15 e16 e17 e18 e19 e20 e21 e22 e23 e24 e25 e26 e27 e28 e29 e30 e31 e32 e33 e34 e35 e36 e37 e38 e39 e40 e41 e42 e43 e44 e45 e46 e47 e48 e49 e50 e51 e52 e53 e54 e55 e56 e57 e58 e59 e60 e61 e62 e63 e64 e65 e66 e67 e68 e69 e70 e71 e72 e73 e74 e75 e76 e77 e78 e79 e80 e81 e82 e83 e84 e85 e86 e87 e88 e89 e90 e91 e92 e93 e94 e95 e96 e97 e98 e99 e100 e101 e102 e103 e104 e105 e106 e107 e108 e109 e110 e111 e112 e113 e114 e115 e116 e117 e118 e119 e120 e121 e122 e123 e124 e125 e126 e127 e128 e129 e130 e131 e132 e133 e134 e135 e136 e137 e138 e139 e140 e141 e142 e143 e144 e145 e146 e147 e148 e149 e150 e151 e152 e153 e154 e155 e156 e157 e158 e159 e160 e161 e162 e163 e164 e165 e166 e167 e168 e169 e170 e171 e172 e173 e174 e175 e176 e177 e178 e179 e180 e181 e182 e183 e184 e185 e186 e187 e188 : Value), Below w.heap.size w w3 → w3.heap[w.heap.size]? = some (.cells ws 32 (0, 0)) → w3.heap[w.heap.size + 1]? = some (.cells (bodCells b) 36 (0, 0)) → w3.heap[K]? = some (.cells (pickA k.signs n) 41 (0, 0)) → w.heap.size + 2 ≤ K → Code.wp Tryd.prog X (bodyPost Tryd.prog Tryd.f3 R) { tmps := #[e0, e1, e2, .pointer (some ⟨w.heap.size, 0, none⟩), e4, .pointer (some ⟨w.heap.size + 1, 0, none⟩), e6, .pointer (some ⟨K, 0, none⟩), .bool (decide (k.signs ≠ [])), e9, e10, e11, e12, e13, e14, e15, e16, e17, e18, e19, e20, e21, e22, e23, e24, e25, e26, e27, e28, e29, e30, e31, e32, e33, e34, e35, e36, e37, e38, e39, e40, e41, e42, e43, e44, e45, e46, e47, e48, e49, e50, e51, e52, e53, e54, e55, e56, e57, e58, e59, e60, e61, e62, e63, e64, e65, e66, e67, e68, e69, e70, e71, e72, e73, e74, e75, e76, e77, e78, e79, e80, e81, e82, e83, e84, e85, e86, e87, e88, e89, e90, e91, e92, e93, e94, e95, e96, e97, e98, e99, e100, e101, e102, e103, e104, e105, e106, e107, e108, e109, e110, e111, e112, e113, e114, e115, e116, e117, e118, e119, e120, e121, e122, e123, e124, e125, e126, e127, e128, e129, e130, e131, e132, e133, e134, e135, e136, e137, e138, e139, e140, e141, e142, e143, e144, e145, e146, e147, e148, e149, e150, e151, e152, e153, e154, e155, e156, e157, e158, e159, e160, e161, e162, e163, e164, e165, e166, e167, e168, e169, e170, e171, e172, e173, e174, e175, e176, e177, e178, e179, e180, e181, e182, e183, e184, e185, e186, e187, e188], defers := [] } w3) :
    Code.wp Tryd.prog (withLast 3 code3 X) (bodyPost Tryd.prog Tryd.f3 R) { tmps := #[.agg ws, .int .u16 n, bodV b, undef, undef, undef, undef, undef, undef, undef, undef, undef, undef, undef, undef, undef, undef, undef, undef, undef, undef, undef, undef, undef, undef, undef, undef, undef, undef, undef, undef, undef, undef, undef, undef, undef, undef, undef, undef, undef, undef, undef, undef, undef, undef, undef, undef, undef, undef, undef, undef, undef, undef, undef, undef, undef, undef, undef, undef, undef, undef, undef, undef, undef, undef, undef, undef, undef, undef, undef, undef, undef, undef, undef, undef, undef, undef, undef, undef, undef, undef, undef, undef, undef, undef, undef, undef, undef, undef, undef, undef, undef, undef, undef, undef, undef, undef, undef, undef, undef, undef, undef, undef, undef, undef, undef, undef, undef, undef, undef, undef, undef, undef, undef, undef, undef, undef, undef, undef, undef, undef, undef, undef, undef, undef, undef, undef, undef, undef, undef, undef, undef, undef, undef, undef, undef, undef, undef, undef, undef, undef, undef, undef, undef, undef, undef, undef, undef, undef, undef, undef, undef, undef, undef, undef, undef, undef, undef, undef, undef, undef, undef, undef, undef, undef, undef, undef, undef, undef, undef, undef, undef, undef, undef, undef, undef, undef, undef, undef, undef, undef, undef, undef, undef, undef, undef, undef, undef, undef], defers := [] } w := by
  have hs := hW.size
  obtain ⟨g0, g1, hz, hb⟩ := blocks2 w (.cells ws 32) (.cells (bodCells b) 36)
  have hbv : bodV b = .agg (bodCells b) := rfl
  rw [hbv]
  have hp := fun (W : World) (hB : Below w.heap.size w W) => (hW.below hB (Nat.le_refl _)).pick n hn
  have hsn := fun (W : World) (hB : Below w.heap.size w W) (h : 2 ≤ W.heap.size) => sane_any W (hE.below hB) h
  have HS := Lib.hid hs; have G0 := Lib.hid g0; have G1 := Lib.hid g1; have HZ := Lib.hid hz; have HB := Lib.hid hb; have HP := Lib.hid hp; have HSN := Lib.hid hsn; have HX := Lib.hid hX; have HZ2 := Lib.hid hz2
  have HSA := Lib.hid (pickA_one k.signs n); have HSZ := Lib.hid (pickA_size k.signs n)
  clear hs g0 g1 hz hb hbv hp hsn hX hz2 hW hE
  generalize decide (k.signs ≠ []) = ok at *
  generalize pickA k.signs n = cs at *
  unfold code3
  conv => arg 2; whnf
  simp only [withLast]
  go_wp2_with fail
  generalize (w.alloc (.cells ws 32)).alloc (.cells (bodCells b) 36) = w0 at *
  refine (HSN.out w0 HB.out (by have := HZ.out; omega)).mono ?_
  rintro e w1 ⟨rfl, hb1⟩
  have B1 := Lib.hid (HB.out.trans (hb1.mono (by have := HZ.out; omega)))
  have H0 := Lib.hid ((hb1.block w.heap.size (by have := HZ.out; omega)).trans G0.out)
  have H1 := Lib.hid ((hb1.block (w.heap.size + 1) (by have := HZ.out; omega)).trans G1.out)
  have Z1 := Lib.hid (show w.heap.size + 2 ≤ w1.heap.size by have := HZ.out; have := hb1.size; omega)
  clear hb1 HSN G0 G1 HB HZ
  go_wp2_with ((refine wpList_load_row rfl 32 _ rfl w.heap.size rfl 32 _ (0, 0) _ H0.out Tryd.underlying32 rfl HS.out ?_; simp only [Act.put, List.setIfInBounds_toArray, List.set_cons_zero, List.set_cons_succ]))
  refine (HP.out w1 B1.out).mono ?_
  rintro e w2 ⟨rfl, hb2⟩
  have B2 := Lib.hid (B1.out.trans (hb2.mono (by have := Z1.out; omega)))
  have I0 := Lib.hid ((hb2.block w.heap.size (by have := Z1.out; omega)).trans H0.out)
  have I1 := Lib.hid ((hb2.block (w.heap.size + 1) (by have := Z1.out; omega)).trans H1.out)
  have Z2 := Lib.hid (show w.heap.size + 2 ≤ w2.heap.size by have := Z1.out; have := hb2.size; omega)
  clear hb2 HP H0 H1 B1 Z1
  go_wp2_with (refine wpList_store_row rfl 41 _ _ rfl w2.heap.size cs rfl rfl 41 _ (heap_alloc_new w2 _) (by rw [HSZ.out]; kernel_rfl) (by rw [HSZ.out]; rfl) HSA.out ?_; rw [World.setRow_alloc_new])
  have hb5 : Below w2.heap.size w2 (w2.alloc (.cells cs 41)) := (Below.refl w2.heap.size w2).alloc (Nat.le_refl _) _
  exact HX.out _ w2.heap.size _ _ _ _ _ _ _ _ _ _ _ _ _ _ _ _ _ _ _ _ _ _ _ _ _ _ _ _ _ _ _ _ _ _ _ _ _ _ _ _ _ _ _ _ _ _ _ _ _ _ _ _ _ _ _ _ _ _ _ _ _ _ _ _ _ _ _ _ _ _ _ _ _ _ _ _ _ _ _ _ _ _ _ _ _ _ _ _ _ _ _ _ _ _ _ _ _ _ _ _ _ _ _ _ _ _ _ _ _ _ _ _ _ _ _ _ _ _ _ _ _ _ _ _ _ _ _ _ _ _ _ _ _ _ _ _ _ _ _ _ _ _ _ _ _ _ _ _ _ _ _ _ _ _ _ _ _ _ _ _ _ _ _ _ _ _ _ _ _ _ _ _ _ _ _ _ _ _ _ _ _ _ _ _ _ (B2.out.trans (hb5.mono B2.out.size)) ((hb5.block _ (by have := Z2.out; omega)).trans I0.out) ((hb5.block _ (by have := Z2.out; omega)).trans I1.out) (heap_alloc_new w2 _) Z2.out
noncomputable def part3n3 : Code := lastPart 3 code3
set_option maxRecDepth 100000 in
set_option maxHeartbeats 8000000 in
theorem guards_3 (k : Wrk) (b : Bod) (hbn : b.name.length ≤ maxLen) (ok : Bool) (ws : Array Value) (A K : Nat)  (w3 : World) (hE : Env w3) (hW : WkAt k ws w3) (g0 : w3.heap[A]? = some (.cells ws 32 (0, 0))) (g1 : w3.heap[A + 1]? = some (.cells (bodCells b) 36 (0, 0))) (e0 e1 e2 e4 e6 e9 e10 e11 e12 e13 e14 e15 e16 e17 e18 e19 e20 e21 e22 e23 e24 e25 e26 e27 e28 e29 e30 e31 e32 e33 e34 e35 e36 e37 e38 e39 e40 e41 e42 e43 e44 e45 e46 e47 e48 e49 e50 e51 e52 e53 e54 e55 e56 e57 e58 e59 e60 e61 e62 e63 e64 e65 e66 e67 e68 e69 e70 e71 e72 e73 e74 e75 e76 e77 e78 e79 e80 e81 e82 e83 e84 e85 e86 e87 e88 e89 e90 e91 e92 e93 e94 e95 e96 e97 e98 e99 e100 e101 e102 e103 e104 e105 e106 e107 e108 e109 e110 e111 e112 e113 e114 e115 e116 e117 e118 e119 e120 e121 e122 e123 e124 e125 e126 e127 e128 e129 e130 e131 e132 e133 e134 e135 e136 e137 e138 e139 e140 e141 e142 e143 e144 e145 e146 e147 e148 e149 e150 e151 e152 e153 e154 e155 e156 e157 e158 e159 e160 e161 e162 e163 e164 e165 e166 e167 e168 e169 e170 e171 e172 e173 e174 e175 e176 e177 e178 e179 e180 e181 e182 e183 e184 e185 e186 e187 e188 : Value) (R : Ending → World → Prop) (X : Code)
    (hT : ∀ w', Below w3.heap.size w3 w' → R (.returned (.bool true)) w')
    (hX : fewB k = true → ok = true → wrkE k = 0 → bodB b = true → ∀ (w4 : World) (e0 e1 e2 e4 e6 e9 e10 e11 e12 e13 e14 e15 e16 e17 e18 e19 e20 e21 e22 e23 e24 e25 e26 e27 e28 e29 e30 e31 e32 e33 e34 e35 e36 e37 e38 e39 e40 e41 e42 e43 e44 e45 e46 e47 e48 e49 e50 e51 e52 e53 e54 e55 e56 e57 e58 e59 e60 e61 e62 e63 e64 e65 e66 e67 e68 e69 e70 e71 e72 e73 e74 e75 e76 e77 e78 e79 e80 e81 e82 e83 e84 e85 e86 e87 e88 e89 e90 e91 e92 e93 e94 e95 e96 e97 e98 e99 e100 e101 e102 e103 e104 e105 e106 e107 e108 e109 e110 e111 e112 e113 e114 e115 e116 e117 e118 e119 e120 e121 e122 e123 e124 e125 e126 e127 e128 e129 e130 e131 e132 e133 e134 e135 e136 e137 e138 e139 e140 e141 e142 e143 e144 e145 e146 e147 e148 e149 e150 e151 e152 e153 e154 e155 e156 e157 e158 e159 e160 e161 e162 e163 e164 e165 e166 e167 e168 e169 e170 e171 e172 e173 e174 e175 e176 e177 e178 e179 e180 e181 e182 e183 e184 e185 e186 e187 e188 : Value), Below w3.heap.size w3 w4 → Code.wp Tryd.prog X (bodyPost Tryd.prog Tryd.f3 R) { tmps := #[e0, e1, e2, .pointer (some ⟨A, 0, none⟩), e4, .pointer (some ⟨A + 1, 0, none⟩), e6, .pointer (some ⟨K, 0, none⟩), .bool ok, e9, e10, e11, e12, e13, e14, e15, e16, e17, e18, e19, e20, e21, e22, e23, e24, e25, e26, e27, e28, e29, e30, e31, e32, e33, e34, e35, e36, e37, e38, e39, e40, e41, e42, e43, e44, e45, e46, e47, e48, e49, e50, e51, e52, e53, e54, e55, e56, e57, e58, e59, e60, e61, e62, e63, e64, e65, e66, e67, e68, e69, e70, e71, e72, e73, e74, e75, e76, e77, e78, e79, e80, e81, e82, e83, e84, e85, e86, e87, e88, e89, e90, e91, e92, e93, e94, e95, e96, e97, e98, e99, e100, e101, e102, e103, e104, e105, e106, e107, e108, e109, e110, e111, e112, e113, e114, e115, e116, e117, e118, e119, e120, e121, e122, e123, e124, e125, e126, e127, e128, e129, e130, e131, e132, e133, e134, e135, e136, e137, e138, e139, e140, e141, e142, e143, e144, e145, e146, e147, e148, e149, e150, e151, e152, e153, e154, e155, e156, e157, e158, e159, e160, e161, e162, e163, e164, e165, e166, e167, e168, e169, e170, e171, e172, e173, e174, e175, e176, e177, e178, e179, e180, e181, e182, e183, e184, e185, e186, e187, e188], defers := [] } w4) :
    Code.wp Tryd.prog (withLast 1 part3n3 X) (bodyPost Tryd.prog Tryd.f3 R) { tmps := #[e0, e1, e2, .pointer (some ⟨A, 0, none⟩), e4, .pointer (some ⟨A + 1, 0, none⟩), e6, .pointer (some ⟨K, 0, none⟩), .bool ok, e9, e10, e11, e12, e13, e14, e15, e16, e17, e18, e19, e20, e21, e22, e23, e24, e25, e26, e27, e28, e29, e30, e31, e32, e33, e34, e35, e36, e37, e38, e39, e40, e41, e42, e43, e44, e45, e46, e47, e48, e49, e50, e51, e52, e53, e54, e55, e56, e57, e58, e59, e60, e61, e62, e63, e64, e65, e66, e67, e68, e69, e70, e71, e72, e73, e74, e75, e76, e77, e78, e79, e80, e81, e82, e83, e84, e85, e86, e87, e88, e89, e90, e91, e92, e93, e94, e95, e96, e97, e98, e99, e100, e101, e102, e103, e104, e105, e106, e107, e108, e109, e110, e111, e112, e113, e114, e115, e116, e117, e118, e119, e120, e121, e122, e123, e124, e125, e126, e127, e128, e129, e130, e131, e132, e133, e134, e135, e136, e137, e138, e139, e140, e141, e142, e143, e144, e145, e146, e147, e148, e149, e150, e151, e152, e153, e154, e155, e156, e157, e158, e159, e160, e161, e162, e163, e164, e165, e166, e167, e168, e169, e170, e171, e172, e173, e174, e175, e176, e177, e178, e179, e180, e181, e182, e183, e184, e185, e186, e187, e188], defers := [] } w3 := by
  have hs := hW.size
  have hf := hW.few
  have hc := fun (W : World) (hB : Below w3.heap.size w3 W) => (hW.below hB (Nat.le_refl _)).check (hE.below hB)
  have hbc := fun (W : World) => bcheck_any b hbn W
  have HS := Lib.hid hs; have G0 := Lib.hid g0; have G1 := Lib.hid g1; have HF := Lib.hid hf; have HC := Lib.hid hc; have HBC := Lib.hid hbc; have HX := Lib.hid hX; have HT := Lib.hid hT
  have hA : A < w3.heap.size := (Array.getElem?_eq_some_iff.1 g0).1
  have hA1 : A + 1 < w3.heap.size := (Array.getElem?_eq_some_iff.1 g1).1
  have HA := Lib.hid hA; have HA1 := Lib.hid hA1
  clear hs g0 g1 hf hc hbc hX hT hW hE hA hA1
  generalize fewB k = fw at *
  generalize wrkE k = we at *
  unfold part3n3 code3
  conv => arg 2; whnf
  simp only [withLast]
  go_wp2_with ((refine wpList_load_row rfl 32 _ rfl A rfl 32 _ (0, 0) _ G0.out Tryd.underlying32 rfl HS.out ?_; simp only [Act.put, List.setIfInBounds_toArray, List.set_cons_zero, List.set_cons_succ]))
  refine (HF.out w3).mono ?_
  rintro e w4 ⟨rfl, b4⟩
  have B4 := Lib.hid b4
  have H0 := Lib.hid ((b4.block A HA.out).trans G0.out)
  clear b4 G0 HF
  cases fw with
  | false =>
    go_wp2_with fail
    first | exact HT.out _ B4.out | (go_ret; exact HT.out _ B4.out)
  | true =>
  cases ok with
  | false =>
    go_wp2_with fail
    first | exact HT.out _ B4.out | (go_ret; exact HT.out _ B4.out)
  | true =>
  go_wp2_with ((refine wpList_load_row_at rfl 32 _ rfl A rfl 32 _ (0, 0) _ H0.out Tryd.underlying32 rfl HS.out ?_; simp only [Act.put, List.setIfInBounds_toArray, List.set_cons_zero, List.set_cons_succ]))
  refine (HC.out w4 B4.out).mono ?_
  rintro e w5 ⟨rfl, b5⟩
  have B5 := Lib.hid (B4.out.trans (b5.mono B4.out.size))
  have H1 := Lib.hid ((B5.out.block (A + 1) HA1.out).trans G1.out)
  clear b5 B4 H0 HC G1
  by_cases hwe : we = 0
  · have hwz : (we != 0) = false := by simp [hwe]
    have HWE := Lib.hid hwe
    clear hwe
    go_wp2_with ((refine wpList_load_row_at rfl 36 _ rfl (A + 1) rfl 36 (bodCells b) (0, 0) _ H1.out Tryd.underlying36 rfl (by kernel_rfl) ?_; simp only [Act.put, List.setIfInBounds_toArray, List.set_cons_zero, List.set_cons_succ]))
    refine (HBC.out w5).mono ?_
    rintro e w6 ⟨rfl, b6⟩
    have B6 := Lib.hid (B5.out.trans (b6.mono B5.out.size))
    clear b6 B5 H1 HBC
    cases hbb : bodB b with
    | false =>
      have hq : (codeI false 250 != 0) = true := rfl
      go_wp2_with fail
      first | exact HT.out _ B6.out | (go_ret; exact HT.out _ B6.out)
    | true =>
      have hq : (codeI true 250 != 0) = false := rfl
      go_wp2_with fail
      exact HX.out (by first | rfl | trivial) (by first | rfl | trivial) (by first | exact HWE.out | trivial) (by first | exact hbb | rfl | trivial) _ _ _ _ _ _ _ _ _ _ _ _ _ _ _ _ _ _ _ _ _ _ _ _ _ _ _ _ _ _ _ _ _ _ _ _ _ _ _ _ _ _ _ _ _ _ _ _ _ _ _ _ _ _ _ _ _ _ _ _ _ _ _ _ _ _ _ _ _ _ _ _ _ _ _ _ _ _ _ _ _ _ _ _ _ _ _ _ _ _ _ _ _ _ _ _ _ _ _ _ _ _ _ _ _ _ _ _ _ _ _ _ _ _ _ _ _ _ _ _ _ _ _ _ _ _ _ _ _ _ _ _ _ _ _ _ _ _ _ _ _ _ _ _ _ _ _ _ _ _ _ _ _ _ _ _ _ _ _ _ _ _ _ _ _ _ _ _ _ _ _ _ _ _ _ _ _ _ _ _ _ _ _ _ _ _ B6.out
  · have hwz : (we != 0) = true := by simpa using hwe
    have HWE := Lib.hid hwe
    clear hwe
    go_wp2_with fail
    first | exact HT.out _ B5.out | (go_ret; exact HT.out _ B5.out)
noncomputable def part3n4 : Code := lastPart 4 code3
set_option maxRecDepth 100000 in
set_option maxHeartbeats 8000000 in
theorem opts_3 (k : Wrk) (s : Sgn) (b : Bod) (hbn : b.name.length ≤ maxLen) (ws : Array Value) (A K : Nat)  (w3 : World) (hE : Env w3) (hz2 : 2 ≤ w3.heap.size) (hW : WkAt k ws w3) (g0 : w3.heap[A]? = some (.cells ws 32 (0, 0))) (g1 : w3.heap[A + 1]? = some (.cells (bodCells b) 36 (0, 0))) (g2 : w3.heap[K]? = some (.cells (sgnA s) 41 (0, 0)))
    (hk : wrkE k = 0) (hs : s ∈ k.signs) (hb : bodB b = true) (e0 e1 e2 e4 e6 e8 e9 e10 e11 e12 e13 e14 e15 e16 e17 e18 e19 e20 e21 e22 e23 e24 e25 e26 e27 e28 e29 e30 e31 e32 e33 e34 e35 e36 e37 e38 e39 e40 e41 e42 e43 e44 e45 e46 e47 e48 e49 e50 e51 e52 e53 e54 e55 e56 e57 e58 e59 e60 e61 e62 e63 e64 e65 e66 e67 e68 e69 e70 e71 e72 e73 e74 e75 e76 e77 e78 e79 e80 e81 e82 e83 e84 e85 e86 e87 e88 e89 e90 e91 e92 e93 e94 e95 e96 e97 e98 e99 e100 e101 e102 e103 e104 e105 e106 e107 e108 e109 e110 e111 e112 e113 e114 e115 e116 e117 e118 e119 e120 e121 e122 e123 e124 e125 e126 e127 e128 e129 e130 e131 e132 e133 e134 e135 e136 e137 e138 e139 e140 e141 e142 e143 e144 e145 e146 e147 e148 e149 e150 e151 e152 e153 e154 e155 e156 e157 e158 e159 e160 e161 e162 e163 e164 e165 e166 e167 e168 e169 e170 e171 e172 e173 e174 e175 e176 e177 e178 e179 e180 e181 e182 e183 e184 e185 e186 e187 e188 : Value) (R : Ending → World → Prop) (X : Code)
    (hX : ∀ (w4 : World) (v : Value) (e0 e1 e2 e4 e6 e8 e11 e12 e13 e14 e15 e16 e17 e18 e19 e20 e21 e22 e23 e24 e25 e26 e27 e28 e29 e30 e31 e32 e33 e34 e35 e36 e37 e38 e39 e40 e41 e42 e43 e44 e45 e46 e47 e48 e49 e50 e51 e52 e53 e54 e55 e56 e57 e58 e59 e60 e61 e62 e63 e64 e65 e66 e67 e68 e69 e70 e71 e72 e73 e74 e75 e76 e77 e78 e79 e80 e81 e82 e83 e84 e85 e86 e87 e88 e89 e90 e91 e92 e93 e94 e95 e96 e97 e98 e99 e100 e101 e102 e103 e104 e105 e106 e107 e108 e109 e110 e111 e112 e113 e114 e115 e116 e117 e118 e119 e120 e121 e122 e123 e124 e125 e126 e127 e128 e129 e130 e131 e132 e133 e134 e135 e136 e137 e138 e139 e140 e141 e142 e143 e144 e145 e146 e147 e148 e149 e150 e151 e152 e153 e154 e155 e156 e157 e158 e159 e160 e161 e162 e163 e164 e165 e166 e167 e168 e169 e170 e171 e172 e173 e174 e175 e176 e177 e178 e179 e180 e181 e182 e183 e184 e185 e186 e187 e188 : Value), Below w3.heap.size w3 w4 → w4.ownsRow w3.heap.size 60 4 v (optL k s b).length ((optL k s b).flatMap encRea) → Code.wp Tryd.prog X (bodyPost Tryd.prog Tryd.f3 R) { tmps := #[e0, e1, e2, .pointer (some ⟨A, 0, none⟩), e4, .pointer (some ⟨A + 1, 0, none⟩), e6, .pointer (some ⟨K, 0, none⟩), e8, v, .int .i64 0, e11, e12, e13, e14, e15, e16, e17, e18, e19, e20, e21, e22, e23, e24, e25, e26, e27, e28, e29, e30, e31, e32, e33, e34, e35, e36, e37, e38, e39, e40, e41, e42, e43, e44, e45, e46, e47, e48, e49, e50, e51, e52, e53, e54, e55, e56, e57, e58, e59, e60, e61, e62, e63, e64, e65, e66, e67, e68, e69, e70, e71, e72, e73, e74, e75, e76, e77, e78, e79, e80, e81, e82, e83, e84, e85, e86, e87, e88, e89, e90, e91, e92, e93, e94, e95, e96, e97, e98, e99, e100, e101, e102, e103, e104, e105, e106, e107, e108, e109, e110, e111, e112, e113, e114, e115, e116, e117, e118, e119, e120, e121, e122, e123, e124, e125, e126, e127, e128, e129, e130, e131, e132, e133, e134, e135, e136, e137, e138, e139, e140, e141, e142, e143, e144, e145, e146, e147, e148, e149, e150, e151, e152, e153, e154, e155, e156, e157, e158, e159, e160, e161, e162, e163, e164, e165, e166, e167, e168, e169, e170, e171, e172, e173, e174, e175, e176, e177, e178, e179, e180, e181, e182, e183, e184, e185, e186, e187, e188], defers := [] } w4) :
    Code.wp Tryd.prog (withLast 2 part3n4 X) (bodyPost Tryd.prog Tryd.f3 R) { tmps := #[e0, e1, e2, .pointer (some ⟨A, 0, none⟩), e4, .pointer (some ⟨A + 1, 0, none⟩), e6, .pointer (some ⟨K, 0, none⟩), e8, e9, e10, e11, e12, e13, e14, e15, e16, e17, e18, e19, e20, e21, e22, e23, e24, e25, e26, e27, e28, e29, e30, e31, e32, e33, e34, e35, e36, e37, e38, e39, e40, e41, e42, e43, e44, e45, e46, e47, e48, e49, e50, e51, e52, e53, e54, e55, e56, e57, e58, e59, e60, e61, e62, e63, e64, e65, e66, e67, e68, e69, e70, e71, e72, e73, e74, e75, e76, e77, e78, e79, e80, e81, e82, e83, e84, e85, e86, e87, e88, e89, e90, e91, e92, e93, e94, e95, e96, e97, e98, e99, e100, e101, e102, e103, e104, e105, e106, e107, e108, e109, e110, e111, e112, e113, e114, e115, e116, e117, e118, e119, e120, e121, e122, e123, e124, e125, e126, e127, e128, e129, e130, e131, e132, e133, e134, e135, e136, e137, e138, e139, e140, e141, e142, e143, e144, e145, e146, e147, e148, e149, e150, e151, e152, e153, e154, e155, e156, e157, e158, e159, e160, e161, e162, e163, e164, e165, e166, e167, e168, e169, e170, e171, e172, e173, e174, e175, e176, e177, e178, e179, e180, e181, e182, e183, e184, e185, e186, e187, e188], defers := [] } w3 := by
  have hsz := hW.size
  have ho := hW.options hE hz2 s.id b hbn
  obtain ⟨he, hr⟩ := opt_own hk hs hb
  rw [he, hr] at ho
  have hbv : bodV b = .agg (bodCells b) := rfl
  rw [hbv] at ho
  have c0 : w3.cell? ⟨K, 0, none⟩ = some (.int .i64 s.id) := cell_at g2 0 rfl
  have HS := Lib.hid hsz; have G0 := Lib.hid g0; have G1 := Lib.hid g1; have HO := Lib.hid ho; have HX := Lib.hid hX
  clear hsz g0 g1 g2 ho he hr hbv hX hW hE hk hs hb
  unfold part3n4 code3
  conv => arg 2; whnf
  simp only [withLast]
  go_wp2_with (first | (refine wpList_load_row rfl 32 _ rfl A rfl 32 _ (0, 0) _ G0.out Tryd.underlying32 rfl HS.out ?_; simp only [Act.put, List.setIfInBounds_toArray, List.set_cons_zero, List.set_cons_succ]) | (refine wpList_load_row rfl 36 _ rfl (A + 1) rfl 36 (bodCells b) (0, 0) _ G1.out Tryd.underlying36 rfl (by kernel_rfl) ?_; simp only [Act.put, List.setIfInBounds_toArray, List.set_cons_zero, List.set_cons_succ]))
  refine HO.out.mono ?_
  rintro e w4 ⟨v, rfl, hown, b4⟩
  have HOW := Lib.hid hown; have B4 := Lib.hid b4
  clear hown b4 HO c0 G0 G1
  go_wp2_with fail
  exact HX.out _ v _ _ _ _ _ _ _ _ _ _ _ _ _ _ _ _ _ _ _ _ _ _ _ _ _ _ _ _ _ _ _ _ _ _ _ _ _ _ _ _ _ _ _ _ _ _ _ _ _ _ _ _ _ _ _ _ _ _ _ _ _ _ _ _ _ _ _ _ _ _ _ _ _ _ _ _ _ _ _ _ _ _ _ _ _ _ _ _ _ _ _ _ _ _ _ _ _ _ _ _ _ _ _ _ _ _ _ _ _ _ _ _ _ _ _ _ _ _ _ _ _ _ _ _ _ _ _ _ _ _ _ _ _ _ _ _ _ _ _ _ _ _ _ _ _ _ _ _ _ _ _ _ _ _ _ _ _ _ _ _ _ _ _ _ _ _ _ _ _ _ _ _ _ _ _ _ _ _ _ _ _ _ _ _ B4.out HOW.out
end Go.Proofs.YtggcbblikgankaaDoor
end
