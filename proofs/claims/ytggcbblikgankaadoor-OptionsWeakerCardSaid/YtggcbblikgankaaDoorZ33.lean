/- Contracts and plain laws on the way to the statement: part 33. -/
import Derived.Test.YtggcbblikgankaaDoorZ32
import Derived.Test.YtggcbblikgankaaDoorZ31
import Derived.Test.YtggcbblikgankaaDoorZ29
set_option linter.unusedVariables false
set_option linter.unusedSimpArgs false
section
/- The last part of the law's sane. -/
namespace Go.Proofs.YtggcbblikgankaaDoor
open Go Go.RowKit

set_option maxRecDepth 100000 in
set_option maxHeartbeats 8000000 in
theorem sane_last (w W : World) (hB : Below w.heap.size w W) (K1 K2 : Nat) (v3 : Value) (v5 : Value) (v7 : Value) (h3 : IsRow encRea 4 W v3 [⟨3, 1, 2, false⟩]) (h5 : IsRow encRea 4 W v5 [⟨3, 1, 2, false⟩, ⟨3, 2, 2, false⟩, ⟨3, 8, 2, false⟩, ⟨3, 1, 1, false⟩, ⟨3, 1, 3, false⟩]) (h7 : IsRow encRea 4 W v7 [⟨5, 0, 0, true⟩]) (e9 e17 e18 e19 e20 e21 e22 e23 e24 e25 e26 e27 e28 e29 e30 e31 e32 e33 e34 e35 e36 e37 e38 e39 e40 e41 e42 e43 e44 e45 e46 e47 e48 e49 e50 e51 e52 e53 e54 e55 e56 e57 e58 e59 e60 e61 e62 e63 e64 e65 e66 e67 e68 e69 e70 e71 e72 e73 e74 e75 e76 e77 e78 e79 e80 e81 e82 e83 e84 e85 e86 e87 e88 e89 e90 e91 e92 e93 e94 e95 e96 e97 e98 e99 e100 e101 e102 e103 e104 e105 e106 e107 e108 e109 e110 e111 e112 e113 e114 e115 e116 e117 e118 e119 e120 e121 e122 : Value) :
    Code.wp Tryd.prog part13n9 (bodyPost Tryd.prog Tryd.f13 fun e w' => e = .returned (.bool true) ∧ Below w.heap.size w w') { tmps := #[.bool false, .pointer (some ⟨K1, 0, none⟩), .pointer (some ⟨K2, 0, none⟩), v3, .int .i64 0, v5, .int .i64 0, v7, .int .i64 0, e9, .int .i64 300, .int .i64 64, .int .i64 0, .int .i64 4, .int .i64 0, .int .i64 1, .int .i64 0, e17, e18, e19, e20, e21, e22, e23, e24, e25, e26, e27, e28, e29, e30, e31, e32, e33, e34, e35, e36, e37, e38, e39, e40, e41, e42, e43, e44, e45, e46, e47, e48, e49, e50, e51, e52, e53, e54, e55, e56, e57, e58, e59, e60, e61, e62, e63, e64, e65, e66, e67, e68, e69, e70, e71, e72, e73, e74, e75, e76, e77, e78, e79, e80, e81, e82, e83, e84, e85, e86, e87, e88, e89, e90, e91, e92, e93, e94, e95, e96, e97, e98, e99, e100, e101, e102, e103, e104, e105, e106, e107, e108, e109, e110, e111, e112, e113, e114, e115, e116, e117, e118, e119, e120, e121, e122], defers := [] } W := by
  obtain ⟨a3, c3, rfl, _, _⟩ := id h3
  obtain ⟨a5, c5, rfl, _, _⟩ := id h5
  obtain ⟨a7, c7, rfl, _, _⟩ := id h7
  have hbb : Below W.heap.size W (W.alloc (.cells #[.int .i64 3, .int .i64 1, .int .i64 2, .bool false, .int .i64 3, .int .i64 2, .int .i64 2, .bool false, .int .i64 3, .int .i64 8, .int .i64 2, .bool false, .int .i64 3, .int .i64 1, .int .i64 1, .bool false, .int .i64 3, .int .i64 1, .int .i64 3, .bool false] 60)) := (Below.refl _ _).alloc (Nat.le_refl _) _
  have hg := heap_alloc_new W (.cells #[.int .i64 3, .int .i64 1, .int .i64 2, .bool false, .int .i64 3, .int .i64 2, .int .i64 2, .bool false, .int .i64 3, .int .i64 8, .int .i64 2, .bool false, .int .i64 3, .int .i64 1, .int .i64 1, .bool false, .int .i64 3, .int .i64 1, .int .i64 3, .bool false] 60)
  have r5 : IsRow encRea 4 (W.alloc (.cells #[.int .i64 3, .int .i64 1, .int .i64 2, .bool false, .int .i64 3, .int .i64 2, .int .i64 2, .bool false, .int .i64 3, .int .i64 8, .int .i64 2, .bool false, .int .i64 3, .int .i64 1, .int .i64 1, .bool false, .int .i64 3, .int .i64 1, .int .i64 3, .bool false] 60)) (.slice (some ⟨W.heap.size, 0, none⟩) 5 5) [⟨3, 1, 2, false⟩, ⟨3, 2, 2, false⟩, ⟨3, 8, 2, false⟩, ⟨3, 1, 1, false⟩, ⟨3, 1, 3, false⟩] := isRow_block encRea_len hg rfl (by decide) rfl
  have r1 : IsRow encRea 4 (W.alloc (.cells #[.int .i64 3, .int .i64 1, .int .i64 2, .bool false, .int .i64 3, .int .i64 2, .int .i64 2, .bool false, .int .i64 3, .int .i64 8, .int .i64 2, .bool false, .int .i64 3, .int .i64 1, .int .i64 1, .bool false, .int .i64 3, .int .i64 1, .int .i64 3, .bool false] 60)) (.slice (some ⟨W.heap.size, 0, none⟩) 1 5) [⟨3, 1, 2, false⟩] := by
    refine ⟨some ⟨W.heap.size, 0, none⟩, 5, rfl, by decide, Or.inr ⟨W.heap.size, 0, rfl, ?_, by simp⟩⟩
    obtain ⟨b, o, hp, hat, _⟩ := r5.block (i := 0) rfl
    cases hp
    intro i x hx j v hj
    rcases i with _ | i
    · simp at hx; subst hx
      exact hat 0 _ rfl j v hj
    · simp at hx
  have g3 := h3.below hbb (Nat.le_refl _)
  have g5 := h5.below hbb (Nat.le_refl _)
  have g7 := h7.below hbb (Nat.le_refl _)
  have s1 := same_any a3 (some ⟨W.heap.size, 0, none⟩) c3 5 [⟨3, 1, 2, false⟩] [⟨3, 1, 2, false⟩] _ g3 r1
  have s2 := fun k => same_any a5 (some ⟨W.heap.size, 0, none⟩) c5 5 [⟨3, 1, 2, false⟩, ⟨3, 2, 2, false⟩, ⟨3, 8, 2, false⟩, ⟨3, 1, 1, false⟩, ⟨3, 1, 3, false⟩] [⟨3, 1, 2, false⟩, ⟨3, 2, 2, false⟩, ⟨3, 8, 2, false⟩, ⟨3, 1, 1, false⟩, ⟨3, 1, 3, false⟩] _ (g5.drewN k) (r5.drewN k)
  rw [decide_eq_true rfl] at s1
  have s2 := fun k => show Calls _ _ _ _ (fun e w' => e = .returned (.bool true) ∧ ∃ k, w' = _) from by have := s2 k; rw [decide_eq_true rfl] at this; exact this
  have HB2 := Lib.hid (hB.alloc hB.size (.cells #[.int .i64 3, .int .i64 1, .int .i64 2, .bool false, .int .i64 3, .int .i64 2, .int .i64 2, .bool false, .int .i64 3, .int .i64 8, .int .i64 2, .bool false, .int .i64 3, .int .i64 1, .int .i64 1, .bool false, .int .i64 3, .int .i64 1, .int .i64 3, .bool false] 60)); have G7 := Lib.hid g7
  have S1 := Lib.hid s1; have S2 := Lib.hid s2
  clear h3 h5 h7 hbb hg r5 r1 g3 g5 g7 s1 s2
  unfold part13n9 code13
  conv => arg 2; whnf
  go_wp2_with fail
  refine S1.out.mono ?_
  rintro e w' ⟨rfl, k, rfl⟩
  go_wp2_with fail
  refine (S2.out k).mono ?_
  rintro e w' ⟨rfl, k2, rfl⟩
  have g7 := (G7.out.drewN k).drewN k2
  have hB4 := below_drewN (below_drewN HB2.out k) k2
  clear S1 S2 HB2 G7
  generalize (((W.alloc (.cells #[.int .i64 3, .int .i64 1, .int .i64 2, .bool false, .int .i64 3, .int .i64 2, .int .i64 2, .bool false, .int .i64 3, .int .i64 8, .int .i64 2, .bool false, .int .i64 3, .int .i64 1, .int .i64 1, .bool false, .int .i64 3, .int .i64 1, .int .i64 3, .bool false] 60)).drewN k).drewN k2) = WW at *
  have hbb : Below WW.heap.size WW (WW.alloc (.cells #[.int .i64 5, .int .i64 0, .int .i64 0, .bool true] 60)) := (Below.refl _ _).alloc (Nat.le_refl _) _
  have hg := heap_alloc_new WW (.cells #[.int .i64 5, .int .i64 0, .int .i64 0, .bool true] 60)
  have r7 : IsRow encRea 4 (WW.alloc (.cells #[.int .i64 5, .int .i64 0, .int .i64 0, .bool true] 60)) (.slice (some ⟨WW.heap.size, 0, none⟩) 1 1) [⟨5, 0, 0, true⟩] := isRow_block encRea_len hg rfl (by decide) rfl
  have s3 := same_any a7 (some ⟨WW.heap.size, 0, none⟩) c7 1 [⟨5, 0, 0, true⟩] [⟨5, 0, 0, true⟩] _ (g7.below hbb (Nat.le_refl _)) r7
  rw [decide_eq_true rfl] at s3
  have S3 := Lib.hid s3
  have B5 := Lib.hid (hB4.alloc hB4.size (.cells #[.int .i64 5, .int .i64 0, .int .i64 0, .bool true] 60))
  clear g7 hB4 hbb hg r7 s3
  go_wp2_with fail
  refine S3.out.mono ?_
  rintro e w' ⟨rfl, k3, rfl⟩
  have B6 := Lib.hid (below_drewN B5.out k3)
  clear S3 B5
  go_wp2_with fail
  go_ret
  exact ⟨rfl, B6.out⟩
end Go.Proofs.YtggcbblikgankaaDoor
end
section
/- The law's sane returns true. -/
namespace Go.Proofs.YtggcbblikgankaaDoor
open Go Go.RowKit

set_option maxRecDepth 100000 in
set_option maxHeartbeats 8000000 in
theorem sane_head (w : World) (R : Ending → World → Prop) (X : Code)
    (hX : ∀ (W : World) (K1 K2 R1 T1 S1 R2 T2 S2 : Nat) (e3 e4 e5 e6 e7 e8 e9 e10 e11 e12 e13 e14 e15 e16 e17 e18 e19 e20 e21 e22 e23 e24 e25 e26 e27 e28 e29 e30 e31 e32 e33 e34 e35 e36 e37 e38 e39 e40 e41 e42 e43 e44 e45 e46 e47 e48 e49 e50 e51 e52 e53 e54 e55 e56 e57 e58 e59 e60 e61 e62 e63 e64 e65 e66 e67 e68 e69 e70 e71 e72 e73 e74 e75 e76 e77 e78 e79 e80 e81 e82 e83 e84 e85 e86 e87 e88 e89 e90 e91 e92 e93 e94 e95 e96 e97 e98 e99 e100 e101 e102 e103 e104 e105 e106 e107 e108 e109 e110 e111 e112 e113 e114 e115 e116 e117 e118 e119 e120 e121 e122 : Value), SaneAt w W K1 K2 R1 T1 S1 R2 T2 S2 → Code.wp Tryd.prog X (bodyPost Tryd.prog Tryd.f13 R) { tmps := #[.bool false, .pointer (some ⟨K1, 0, none⟩), .pointer (some ⟨K2, 0, none⟩), e3, e4, e5, e6, e7, e8, e9, e10, e11, e12, e13, e14, e15, e16, e17, e18, e19, e20, e21, e22, e23, e24, e25, e26, e27, e28, e29, e30, e31, e32, e33, e34, e35, e36, e37, e38, e39, e40, e41, e42, e43, e44, e45, e46, e47, e48, e49, e50, e51, e52, e53, e54, e55, e56, e57, e58, e59, e60, e61, e62, e63, e64, e65, e66, e67, e68, e69, e70, e71, e72, e73, e74, e75, e76, e77, e78, e79, e80, e81, e82, e83, e84, e85, e86, e87, e88, e89, e90, e91, e92, e93, e94, e95, e96, e97, e98, e99, e100, e101, e102, e103, e104, e105, e106, e107, e108, e109, e110, e111, e112, e113, e114, e115, e116, e117, e118, e119, e120, e121, e122], defers := [] } W) :
    Code.wp Tryd.prog (withLast 2 ((Tryd.f13.body).getD .skip) X) (bodyPost Tryd.prog Tryd.f13 R) { tmps := #[undef, undef, undef, undef, undef, undef, undef, undef, undef, undef, undef, undef, undef, undef, undef, undef, undef, undef, undef, undef, undef, undef, undef, undef, undef, undef, undef, undef, undef, undef, undef, undef, undef, undef, undef, undef, undef, undef, undef, undef, undef, undef, undef, undef, undef, undef, undef, undef, undef, undef, undef, undef, undef, undef, undef, undef, undef, undef, undef, undef, undef, undef, undef, undef, undef, undef, undef, undef, undef, undef, undef, undef, undef, undef, undef, undef, undef, undef, undef, undef, undef, undef, undef, undef, undef, undef, undef, undef, undef, undef, undef, undef, undef, undef, undef, undef, undef, undef, undef, undef, undef, undef, undef, undef, undef, undef, undef, undef, undef, undef, undef, undef, undef, undef, undef, undef, undef, undef, undef, undef, undef, undef, undef], defers := [] } w := by
  have HX := Lib.hid hX; clear hX
  conv => arg 2; whnf
  simp only [withLast]
  go_wp2_with fail
  refine (small_any 1 0 1 w).mono ?_
  rintro e w1 ⟨R1, T1, S1, rfl, hs1, hb1⟩
  have HS1 := Lib.hid hs1; have HB1 := Lib.hid hb1; clear hs1 hb1
  go_wp2_with fail
  refine (small_any 3 4 5 w1).mono ?_
  rintro e w2 ⟨R2, T2, S2, rfl, hs2, hb2⟩
  have hs1 := HS1.out.below hb2
  have B2 := Lib.hid (HB1.out.trans (hb2.mono HB1.out.size))
  obtain ⟨g1, g2, hz, hb⟩ := blocks2 w2 (.cells (smallA 1 0 1 R1 T1 S1) 32) (.cells (smallA 3 4 5 R2 T2 S2) 32)
  have hat : SaneAt w ((w2.alloc (.cells (smallA 1 0 1 R1 T1 S1) 32)).alloc (.cells (smallA 3 4 5 R2 T2 S2) 32)) w2.heap.size (w2.heap.size + 1) R1 T1 S1 R2 T2 S2 := ⟨g1, g2, hs1.below hb, hs2.below hb, B2.out.trans (hb.mono B2.out.size)⟩
  have HAT := Lib.hid hat
  clear HS1 HB1 hs2 hb2 hs1 g1 g2 hz hb hat
  unfold smallV
  unfold smallA at HAT
  go_wp2_with fail
  exact HX.out _ _ _ R1 T1 S1 R2 T2 S2 _ _ _ _ _ _ _ _ _ _ _ _ _ _ _ _ _ _ _ _ _ _ _ _ _ _ _ _ _ _ _ _ _ _ _ _ _ _ _ _ _ _ _ _ _ _ _ _ _ _ _ _ _ _ _ _ _ _ _ _ _ _ _ _ _ _ _ _ _ _ _ _ _ _ _ _ _ _ _ _ _ _ _ _ _ _ _ _ _ _ _ _ _ _ _ _ _ _ _ _ _ _ _ _ _ _ _ _ _ _ _ _ _ _ _ _ _ _ _ _ HAT.out
end Go.Proofs.YtggcbblikgankaaDoor
end
section
/- The law's sane returns true: the parts joined. -/
namespace Go.Proofs.YtggcbblikgankaaDoor
open Go Go.RowKit

set_option maxRecDepth 100000 in
set_option maxHeartbeats 8000000 in
theorem sane_any (w : World) (hE : Env w) (hz : 2 ≤ w.heap.size) : Calls Tryd.prog 13 #[] w fun e w' => e = .returned (.bool true) ∧ Below w.heap.size w w' := by
  go_enter Tryd.func13, Tryd.ntmps13
  refine sane_head w _ (withLast 1 part13n2 (withLast 1 part13n3 (withLast 1 part13n4 (withLast 1 part13n5 (withLast 1 part13n6 (withLast 1 part13n7 (withLast 1 part13n8 part13n9))))))) ?_
  intro W K1 K2 R1 T1 S1 R2 T2 S2 _ _ _ _ _ _ _ _ _ _ _ _ _ _ _ _ _ _ _ _ _ _ _ _ _ _ _ _ _ _ _ _ _ _ _ _ _ _ _ _ _ _ _ _ _ _ _ _ _ _ _ _ _ _ _ _ _ _ _ _ _ _ _ _ _ _ _ _ _ _ _ _ _ _ _ _ _ _ _ _ _ _ _ _ _ _ _ _ _ _ _ _ _ _ _ _ _ _ _ _ _ _ _ _ _ _ _ _ _ _ _ _ _ _ _ _ _ _ _ _ hA
  refine sane_2 w W K1 K2 R1 T1 S1 R2 T2 S2 hE hz hA _ _ _ _ _ _ _ _ _ _ _ _ _ _ _ _ _ _ _ _ _ _ _ _ _ _ _ _ _ _ _ _ _ _ _ _ _ _ _ _ _ _ _ _ _ _ _ _ _ _ _ _ _ _ _ _ _ _ _ _ _ _ _ _ _ _ _ _ _ _ _ _ _ _ _ _ _ _ _ _ _ _ _ _ _ _ _ _ _ _ _ _ _ _ _ _ _ _ _ _ _ _ _ _ _ _ _ _ _ _ _ _ _ _ _ _ _ _ _ _ (withLast 1 part13n3 (withLast 1 part13n4 (withLast 1 part13n5 (withLast 1 part13n6 (withLast 1 part13n7 (withLast 1 part13n8 part13n9)))))) ?_
  clear hA
  intro W v3 _ _ _ _ _ _ _ _ _ _ _ _ _ _ _ _ _ _ _ _ _ _ _ _ _ _ _ _ _ _ _ _ _ _ _ _ _ _ _ _ _ _ _ _ _ _ _ _ _ _ _ _ _ _ _ _ _ _ _ _ _ _ _ _ _ _ _ _ _ _ _ _ _ _ _ _ _ _ _ _ _ _ _ _ _ _ _ _ _ _ _ _ _ _ _ _ _ _ _ _ _ _ _ _ _ _ _ _ _ _ _ _ _ _ _ _ _ _ hA h3
  refine sane_3 w W K1 K2 R1 T1 S1 R2 T2 S2 hE hz hA v3 h3 _ _ _ _ _ _ _ _ _ _ _ _ _ _ _ _ _ _ _ _ _ _ _ _ _ _ _ _ _ _ _ _ _ _ _ _ _ _ _ _ _ _ _ _ _ _ _ _ _ _ _ _ _ _ _ _ _ _ _ _ _ _ _ _ _ _ _ _ _ _ _ _ _ _ _ _ _ _ _ _ _ _ _ _ _ _ _ _ _ _ _ _ _ _ _ _ _ _ _ _ _ _ _ _ _ _ _ _ _ _ _ _ _ _ _ _ _ _ (withLast 1 part13n4 (withLast 1 part13n5 (withLast 1 part13n6 (withLast 1 part13n7 (withLast 1 part13n8 part13n9))))) ?_
  clear hA h3
  intro W v5 _ _ _ _ _ _ _ _ _ _ _ _ _ _ _ _ _ _ _ _ _ _ _ _ _ _ _ _ _ _ _ _ _ _ _ _ _ _ _ _ _ _ _ _ _ _ _ _ _ _ _ _ _ _ _ _ _ _ _ _ _ _ _ _ _ _ _ _ _ _ _ _ _ _ _ _ _ _ _ _ _ _ _ _ _ _ _ _ _ _ _ _ _ _ _ _ _ _ _ _ _ _ _ _ _ _ _ _ _ _ _ _ _ _ _ _ hA h3 h5
  refine sane_4 w W K1 K2 R1 T1 S1 R2 T2 S2 hE hz hA v3 v5 h3 h5 _ _ _ _ _ _ _ _ _ _ _ _ _ _ _ _ _ _ _ _ _ _ _ _ _ _ _ _ _ _ _ _ _ _ _ _ _ _ _ _ _ _ _ _ _ _ _ _ _ _ _ _ _ _ _ _ _ _ _ _ _ _ _ _ _ _ _ _ _ _ _ _ _ _ _ _ _ _ _ _ _ _ _ _ _ _ _ _ _ _ _ _ _ _ _ _ _ _ _ _ _ _ _ _ _ _ _ _ _ _ _ _ _ _ _ _ (withLast 1 part13n5 (withLast 1 part13n6 (withLast 1 part13n7 (withLast 1 part13n8 part13n9)))) ?_
  clear hA h3 h5
  intro W v7 _ _ _ _ _ _ _ _ _ _ _ _ _ _ _ _ _ _ _ _ _ _ _ _ _ _ _ _ _ _ _ _ _ _ _ _ _ _ _ _ _ _ _ _ _ _ _ _ _ _ _ _ _ _ _ _ _ _ _ _ _ _ _ _ _ _ _ _ _ _ _ _ _ _ _ _ _ _ _ _ _ _ _ _ _ _ _ _ _ _ _ _ _ _ _ _ _ _ _ _ _ _ _ _ _ _ _ _ _ _ _ _ _ _ hA h3 h5 h7
  refine sane_5 w W K1 K2 R1 T1 S1 R2 T2 S2 hE hz hA v3 v5 v7 h3 h5 h7 _ _ _ _ _ _ _ _ _ _ _ _ _ _ _ _ _ _ _ _ _ _ _ _ _ _ _ _ _ _ _ _ _ _ _ _ _ _ _ _ _ _ _ _ _ _ _ _ _ _ _ _ _ _ _ _ _ _ _ _ _ _ _ _ _ _ _ _ _ _ _ _ _ _ _ _ _ _ _ _ _ _ _ _ _ _ _ _ _ _ _ _ _ _ _ _ _ _ _ _ _ _ _ _ _ _ _ _ _ _ _ _ _ _ (withLast 1 part13n6 (withLast 1 part13n7 (withLast 1 part13n8 part13n9))) ?_
  clear hA h3 h5 h7
  intro W _ _ _ _ _ _ _ _ _ _ _ _ _ _ _ _ _ _ _ _ _ _ _ _ _ _ _ _ _ _ _ _ _ _ _ _ _ _ _ _ _ _ _ _ _ _ _ _ _ _ _ _ _ _ _ _ _ _ _ _ _ _ _ _ _ _ _ _ _ _ _ _ _ _ _ _ _ _ _ _ _ _ _ _ _ _ _ _ _ _ _ _ _ _ _ _ _ _ _ _ _ _ _ _ _ _ _ _ _ _ _ _ _ hA h3 h5 h7
  refine sane_6 w W K1 K2 R1 T1 S1 R2 T2 S2 hE hz hA v3 v5 v7 h3 h5 h7 _ _ _ _ _ _ _ _ _ _ _ _ _ _ _ _ _ _ _ _ _ _ _ _ _ _ _ _ _ _ _ _ _ _ _ _ _ _ _ _ _ _ _ _ _ _ _ _ _ _ _ _ _ _ _ _ _ _ _ _ _ _ _ _ _ _ _ _ _ _ _ _ _ _ _ _ _ _ _ _ _ _ _ _ _ _ _ _ _ _ _ _ _ _ _ _ _ _ _ _ _ _ _ _ _ _ _ _ _ _ _ _ _ (withLast 1 part13n7 (withLast 1 part13n8 part13n9)) ?_
  clear hA h3 h5 h7
  intro W _ _ _ _ _ _ _ _ _ _ _ _ _ _ _ _ _ _ _ _ _ _ _ _ _ _ _ _ _ _ _ _ _ _ _ _ _ _ _ _ _ _ _ _ _ _ _ _ _ _ _ _ _ _ _ _ _ _ _ _ _ _ _ _ _ _ _ _ _ _ _ _ _ _ _ _ _ _ _ _ _ _ _ _ _ _ _ _ _ _ _ _ _ _ _ _ _ _ _ _ _ _ _ _ _ _ _ _ _ _ _ hA h3 h5 h7
  refine sane_7 w W K1 K2 R1 T1 S1 R2 T2 S2 hE hz hA v3 v5 v7 h3 h5 h7 _ _ _ _ _ _ _ _ _ _ _ _ _ _ _ _ _ _ _ _ _ _ _ _ _ _ _ _ _ _ _ _ _ _ _ _ _ _ _ _ _ _ _ _ _ _ _ _ _ _ _ _ _ _ _ _ _ _ _ _ _ _ _ _ _ _ _ _ _ _ _ _ _ _ _ _ _ _ _ _ _ _ _ _ _ _ _ _ _ _ _ _ _ _ _ _ _ _ _ _ _ _ _ _ _ _ _ _ _ _ _ (withLast 1 part13n8 part13n9) ?_
  clear hA h3 h5 h7
  intro W _ _ _ _ _ _ _ _ _ _ _ _ _ _ _ _ _ _ _ _ _ _ _ _ _ _ _ _ _ _ _ _ _ _ _ _ _ _ _ _ _ _ _ _ _ _ _ _ _ _ _ _ _ _ _ _ _ _ _ _ _ _ _ _ _ _ _ _ _ _ _ _ _ _ _ _ _ _ _ _ _ _ _ _ _ _ _ _ _ _ _ _ _ _ _ _ _ _ _ _ _ _ _ _ _ _ _ _ _ hA h3 h5 h7
  refine sane_8 w W K1 K2 R1 T1 S1 R2 T2 S2 hE hz hA v3 v5 v7 h3 h5 h7 _ _ _ _ _ _ _ _ _ _ _ _ _ _ _ _ _ _ _ _ _ _ _ _ _ _ _ _ _ _ _ _ _ _ _ _ _ _ _ _ _ _ _ _ _ _ _ _ _ _ _ _ _ _ _ _ _ _ _ _ _ _ _ _ _ _ _ _ _ _ _ _ _ _ _ _ _ _ _ _ _ _ _ _ _ _ _ _ _ _ _ _ _ _ _ _ _ _ _ _ _ _ _ _ _ _ _ _ _ part13n9 ?_
  clear hA h3 h5 h7
  intro W _ _ _ _ _ _ _ _ _ _ _ _ _ _ _ _ _ _ _ _ _ _ _ _ _ _ _ _ _ _ _ _ _ _ _ _ _ _ _ _ _ _ _ _ _ _ _ _ _ _ _ _ _ _ _ _ _ _ _ _ _ _ _ _ _ _ _ _ _ _ _ _ _ _ _ _ _ _ _ _ _ _ _ _ _ _ _ _ _ _ _ _ _ _ _ _ _ _ _ _ _ _ _ _ _ _ _ hA h3 h5 h7
  exact sane_last w W hA.below0 K1 K2 v3 v5 v7 h3 h5 h7 _ _ _ _ _ _ _ _ _ _ _ _ _ _ _ _ _ _ _ _ _ _ _ _ _ _ _ _ _ _ _ _ _ _ _ _ _ _ _ _ _ _ _ _ _ _ _ _ _ _ _ _ _ _ _ _ _ _ _ _ _ _ _ _ _ _ _ _ _ _ _ _ _ _ _ _ _ _ _ _ _ _ _ _ _ _ _ _ _ _ _ _ _ _ _ _ _ _ _ _ _ _ _ _ _ _ _
end Go.Proofs.YtggcbblikgankaaDoor
end
section
/- A work as an argument, bundled; the contracts over it. -/
namespace Go.Proofs.YtggcbblikgankaaDoor
open Go Go.RowKit

/-- The cells of a work that reads as k. -/
def WkAt (k : Wrk) (ws : Array Value) (w : World) : Prop :=
  ∃ (aR aT aP aX aS : Option Addr) (cR cT cP cX cS : Nat),
    ws = #[.int .i64 k.width, .int .i64 k.depth, .int .i64 k.ta, .int .i64 k.tb, .int .i64 k.tc, .slice aR k.roles.length cR, .int .i64 k.clock.bars, .slice aT k.clock.tempos.length cT, .slice aP k.clock.pauses.length cP, .slice aX k.clock.spans.length cX, .slice aS k.signs.length cS] ∧
    IsRow encR 4 w (.slice aR k.roles.length cR) k.roles ∧ IsRow encT 3 w (.slice aT k.clock.tempos.length cT) k.clock.tempos ∧ IsRow encP 4 w (.slice aP k.clock.pauses.length cP) k.clock.pauses ∧ IsRow encC 4 w (.slice aX k.clock.spans.length cX) k.clock.spans ∧ IsRow encS 14 w (.slice aS k.signs.length cS) k.signs
section
variable {k : Wrk} {ws : Array Value} {w : World}
theorem WkAt.below {w' : World} {B : Nat} (h : WkAt k ws w) (hb : Below B w w') (hB : w.heap.size ≤ B) : WkAt k ws w' := by
  obtain ⟨aR, aT, aP, aX, aS, cR, cT, cP, cX, cS, e, hR, hT, hP, hX, hS⟩ := h
  exact ⟨aR, aT, aP, aX, aS, cR, cT, cP, cX, cS, e, hR.below hb hB, hT.below hb hB, hP.below hb hB, hX.below hb hB, hS.below hb hB⟩
theorem WkAt.size (h : WkAt k ws w) : (Tryd.prog.info? 32).map (·.size) = some ws.size := by
  obtain ⟨aR, aT, aP, aX, aS, cR, cT, cP, cX, cS, rfl, _⟩ := h
  kernel_rfl
theorem WkAt.few (h : WkAt k ws w) (W : World) : Calls Tryd.prog 15 #[.agg ws] W fun e w' => e = .returned (.bool (fewB k)) ∧ Below W.heap.size W w' := by
  obtain ⟨aR, aT, aP, aX, aS, cR, cT, cP, cX, cS, rfl, _⟩ := h
  exact few_any _ _ _ _ _ _ _ _ _ _ _ _ _ _ _ _ _ _ _ _ _ W
theorem WkAt.check (h : WkAt k ws w) (hE : Env w) : Calls Tryd.prog 16 #[.agg ws] w fun e w' => e = .returned (.int .i64 (wrkE k)) ∧ Below w.heap.size w w' := by
  obtain ⟨aR, aT, aP, aX, aS, cR, cT, cP, cX, cS, rfl, hR, hT, hP, hX, hS⟩ := h
  exact echeck_any _ _ _ _ _ _ _ _ _ _ _ _ _ _ _ _ _ _ _ _ _ w hE hR hT hP hX hS
theorem WkAt.options (h : WkAt k ws w) (hE : Env w) (hz : 2 ≤ w.heap.size) (n : Int) (b : Bod) (hbn : b.name.length ≤ maxLen) :
    Calls Tryd.prog 18 #[.agg ws, .int .i64 n, bodV b] w fun e w' => ∃ v, e = .returned (.tuple #[v, .int .i64 (optE k n b)]) ∧ w'.ownsRow w.heap.size 60 4 v (optR k n b).length ((optR k n b).flatMap encRea) ∧ Below w.heap.size w w' := by
  obtain ⟨aR, aT, aP, aX, aS, cR, cT, cP, cX, cS, rfl, hR, hT, hP, hX, hS⟩ := h
  exact options_any n b hbn _ _ _ _ _ _ _ _ _ _ _ _ _ _ _ _ _ _ _ _ _ w hE hz hR hT hP hX hS
theorem WkAt.cost (h : WkAt k ws w) (hE : Env w) (n : Int) (r : Rea) : Calls Tryd.prog 22 #[.agg ws, .int .i64 n, reaV r] w (costR (costI k n r) (costE k n r) w) := by
  obtain ⟨aR, aT, aP, aX, aS, cR, cT, cP, cX, cS, rfl, hR, hT, hP, hX, hS⟩ := h
  exact cost_any n r _ _ _ _ _ _ _ _ _ _ _ _ _ _ _ _ _ _ _ _ _ w hE hR hT hP hX hS

def pickA (ss : List Sgn) (n : Nat) : Array Value := if ss = [] then zeroA else sgnA (pickS ss n)
theorem pickA_size (ss : List Sgn) (n : Nat) : (pickA ss n).size = 14 := by unfold pickA; split <;> rfl
theorem pickA_one (ss : List Sgn) (n : Nat) : (pickA ss n).all (·.oneCell') = true := by unfold pickA; split <;> simp [zeroA, sgnA, Value.oneCell']
theorem WkAt.pick (h : WkAt k ws w) (n : Nat) (hn : n < 65536) : Calls Tryd.prog 14 #[.agg ws, .int .u16 n] w fun e w' => e = .returned (.tuple #[.agg (pickA k.signs n), .bool (decide (k.signs ≠ []))]) ∧ Below w.heap.size w w' := by
  obtain ⟨aR, aT, aP, aX, aS, cR, cT, cP, cX, cS, rfl, hR, hT, hP, hX, hS⟩ := h
  unfold pickA
  by_cases h0 : k.signs = []
  · rw [if_pos h0, decide_eq_false (by simpa using h0), h0]
    exact pick_none _ _ _ _ _ _ _ _ _ _ _ _ _ _ _ _ _ _ _ _ n w
  · have hlen : 0 < k.signs.length := List.length_pos_iff.2 h0
    have hml : n % k.signs.length < k.signs.length := Nat.mod_lt _ hlen
    have hx : k.signs[n % k.signs.length]? = some (pickS k.signs n) := by
      unfold pickS; rw [List.getElem!_eq_getElem?_getD, List.getElem?_eq_getElem hml]; rfl
    obtain ⟨b, o, rfl, hat, hb⟩ := hS.block hx
    rw [if_neg h0, decide_eq_true h0]
    exact pick_some _ _ _ _ _ _ _ _ _ _ _ _ _ _ _ _ _ _ _ b o n hn _ hlen (pickS k.signs n) w hb fun j v hj => hat _ _ hx j v hj
end

theorem pick_mem {ss : List Sgn} (h : ss ≠ []) (n : Nat) : pickS ss n ∈ ss := by
  have hlen : 0 < ss.length := List.length_pos_iff.2 h
  have hml : n % ss.length < ss.length := Nat.mod_lt _ hlen
  unfold pickS
  rw [List.getElem!_eq_getElem?_getD, List.getElem?_eq_getElem hml]
  exact List.getElem_mem hml
/-- A sign is found by its own number. -/
theorem idP_own {ss : List Sgn} (hs : SortedT (idT ss)) {i : Nat} {s : Sgn} (h : ss[i]? = some s) : idP ss s.id = i := by
  have hi := upTo_iff (bar := s.id - 1) hs (idT_at h)
  have h1 : ¬ i < idP ss s.id := fun hlt => by
    have := hi.2 hlt
    simp at this
    omega
  rcases Nat.lt_or_ge (idP ss s.id) i with hlt | hge
  · have hil : i < ss.length := (List.getElem?_eq_some_iff.1 h).1
    have hp : ss[idP ss s.id]? = some (ss[idP ss s.id]'(by omega)) := List.getElem?_eq_getElem _
    have hq := upTo_iff (bar := s.id - 1) hs (idT_at hp)
    have hlt2 : (ss[idP ss s.id]'(by omega)).id < s.id := by
      have e1 := idT_at hp
      have e2 := idT_at h
      obtain ⟨g1, f1⟩ := List.getElem?_eq_some_iff.1 e1
      obtain ⟨g2, f2⟩ := List.getElem?_eq_some_iff.1 e2
      have := List.pairwise_iff_getElem.1 hs (idP ss s.id) i g1 g2 hlt
      rw [f1, f2] at this
      exact this
    have : idP ss s.id < upTo (idT ss) (s.id - 1) := hq.1 (by show (ss[idP ss s.id]'(by omega)).id ≤ s.id - 1; omega)
    exact absurd this (Nat.lt_irrefl _)
  · omega
theorem idF_own {ss : List Sgn} (hs : SortedT (idT ss)) {s : Sgn} (h : s ∈ ss) : idF ss s.id = true ∧ ss[idP ss s.id]! = s := by
  obtain ⟨i, hi⟩ := List.getElem?_of_mem h
  have := idP_own hs hi
  unfold idF
  rw [this, hi, List.getElem!_eq_getElem?_getD, hi]
  simp
/-- The options of a sign of a right work, for a right body. -/
theorem opt_own {k : Wrk} {s : Sgn} {b : Bod} (hk : wrkE k = 0) (hs : s ∈ k.signs) (hb : bodB b = true) : optE k s.id b = 0 ∧ optR k s.id b = optL k s b := by
  obtain ⟨h1, h2⟩ := idF_own (wrk_sorted hk) hs
  have he : optE k s.id b = 0 := by unfold optE; rw [if_neg (by simpa using hk), if_pos hb, if_pos h1]
  refine ⟨he, ?_⟩
  unfold optR
  rw [if_pos he, h2]
theorem cost_own {k : Wrk} {s : Sgn} {r : Rea} (hk : wrkE k = 0) (hs : s ∈ k.signs) (hf : formB s r = true) (hr : r.sign = s.id) : costE k s.id r = 0 ∧ costI k s.id r = priceI s r := by
  obtain ⟨h1, h2⟩ := idF_own (wrk_sorted hk) hs
  have he : costE k s.id r = 0 := by unfold costE; rw [if_neg (by simpa using hk), if_pos h1, h2, if_pos (by simp [hf, hr])]
  refine ⟨he, ?_⟩
  unfold costI
  rw [if_pos he, h2]
end Go.Proofs.YtggcbblikgankaaDoor
end
section
/- Plain law of OptionsFirst: the options of a sign, their order, their costs, the first of them. No program in sight. -/
namespace Go.Proofs.YtggcbblikgankaaDoor
open Go.RowKit Go.Sort

theorem sortA_sorted (l : List Par) : (sortA l).Pairwise fun x y => y.n ≤ x.n := by
  have h := (insertionSort_holds (lt := ltOf cfP) swo_cfP l.toArray 0 l.length (Nat.zero_le _) (by simp)).2
  have hlen := sortA_len l
  rw [List.pairwise_iff_getElem]
  intro i j hi hj hij
  have h2 := h i j (Nat.zero_le _) hij (by omega)
  have e : ∀ m (hm : m < (sortA l).length), (Sort.insertionSort (ltOf cfP) l.toArray 0 l.length)[m]! = (sortA l)[m] := by
    intro m hm
    unfold sortA at hm ⊢
    rw [Array.getElem_toList, getElem!_pos _ m (by simpa using hm)]
  rw [e j hj, e i hi] at h2
  unfold ltOf cfP cmpI at h2
  simp only [decide_eq_false_iff_not] at h2
  split at h2
  · omega
  · split at h2 <;> omega

set_option maxRecDepth 100000 in
theorem dot_tab : ∀ a, a < 9 → ∀ l, l < 3 → ∀ d, d < 9 → ∀ v, v < 3 → dotI (a : Nat) ((l : Nat) + 1 : Int) (d : Nat) ((v : Nat) + 1 : Int) < 1073741824 := by decide

theorem mem_allL {ta tc : Int} {s : Sgn} {top m : Nat} {x : Par} : x ∈ allL ta tc s top m ↔ ∃ d, d < m ∧ ∃ v, v < top ∧ fitB ta tc s (d : Nat) ((v : Nat) + 1 : Int) = true ∧ parOf s (d : Nat) ((v : Nat) + 1 : Int) = x := by
  unfold allL lineL
  simp only [List.mem_flatMap, List.mem_range, List.mem_filterMap]
  constructor
  · rintro ⟨d, hd, v, hv, h⟩
    split at h
    · rename_i hf
      exact ⟨d, hd, v, hv, hf, by simpa using h⟩
    · simp at h
  · rintro ⟨d, hd, v, hv, hf, h⟩
    exact ⟨d, hd, v, hv, by rw [if_pos hf, h]⟩

/-- What a pair of the sorted list is. -/
theorem par_facts {ta tc : Int} {s : Sgn} {top : Nat} (hd : 0 ≤ s.dir ∧ s.dir ≤ 8) (hl : 1 ≤ s.level ∧ s.level ≤ 3) (ht : top ≤ 3) {x : Par} (hx : x ∈ sortA (allL ta tc s top 9)) :
    x.r.sign = s.id ∧ x.r.drop = false ∧ (0 ≤ x.r.dir ∧ x.r.dir ≤ 8) ∧ (1 ≤ x.r.level ∧ x.r.level ≤ top) ∧ ((x.r.dir = s.dir ∧ x.r.level = s.level) ∧ x.n = 1073741824 ∨ ¬ (x.r.dir = s.dir ∧ x.r.level = s.level) ∧ x.n < 1073741824) := by
  obtain ⟨d, hd9, v, hv, hf, rfl⟩ := mem_allL.1 ((sortA_perm _).mem_iff.1 hx)
  refine ⟨rfl, rfl, ?_, ?_, ?_⟩
  · show (0 : Int) ≤ (d : Int) ∧ (d : Int) ≤ 8
    omega
  · show (1 : Int) ≤ (v : Int) + 1 ∧ (v : Int) + 1 ≤ top
    omega
  · show ((d : Int) = s.dir ∧ (v : Int) + 1 = s.level) ∧ keyI s d (v + 1) = 1073741824 ∨ ¬ ((d : Int) = s.dir ∧ (v : Int) + 1 = s.level) ∧ keyI s d (v + 1) < 1073741824
    unfold keyI ownB
    by_cases ho : (d : Int) = s.dir ∧ (v : Int) + 1 = s.level
    · left; refine ⟨ho, ?_⟩; simp [ho.1, ho.2]
    · right; refine ⟨ho, ?_⟩
      rw [if_neg (by simpa using ho)]
      have := dot_tab s.dir.toNat (by omega) (s.level - 1).toNat (by omega) d hd9 v (by omega)
      rw [show ((s.dir.toNat : Nat) : Int) = s.dir by omega, show (((s.level - 1).toNat : Nat) : Int) + 1 = s.level by omega] at this
      exact this
theorem own_mem {ta tc : Int} {s : Sgn} {top : Nat} (hd : 0 ≤ s.dir ∧ s.dir ≤ 8) (hl : 1 ≤ s.level ∧ s.level ≤ 3) (ht : s.level ≤ top) : parOf s s.dir s.level ∈ sortA (allL ta tc s top 9) := by
  refine (sortA_perm _).mem_iff.2 (mem_allL.2 ⟨s.dir.toNat, by omega, (s.level - 1).toNat, by omega, ?_, ?_⟩)
  · rw [show ((s.dir.toNat : Nat) : Int) = s.dir by omega, show (((s.level - 1).toNat : Nat) : Int) + 1 = s.level by omega]
    unfold fitB ownB; simp
  · rw [show ((s.dir.toNat : Nat) : Int) = s.dir by omega, show (((s.level - 1).toNat : Nat) : Int) + 1 = s.level by omega]

theorem limb_form {ta tc : Int} {s : Sgn} {top : Nat} (hm : movB s = true) (hd : 0 ≤ s.dir ∧ s.dir ≤ 8) (hl : 1 ≤ s.level ∧ s.level ≤ 3) (ht : top ≤ 3) {r : Rea} (hr : r ∈ optS ta tc s top) :
    r.sign = s.id ∧ r.drop = false ∧ formB s r = true ∧ r.level ≤ top := by
  unfold optS at hr
  obtain ⟨x, hx, rfl⟩ := List.mem_map.1 hr
  obtain ⟨h1, h2, h3, h4, _⟩ := par_facts hd hl ht hx
  refine ⟨h1, h2, ?_, h4.2⟩
  unfold formB
  rw [h2, hm]
  simp only [Bool.false_eq_true, if_false, if_true, Bool.and_eq_true, inB_iff]
  omega
theorem price_par {ta tc : Int} {s : Sgn} {top : Nat} (hm : movB s = true) (hd : 0 ≤ s.dir ∧ s.dir ≤ 8) (hl : 1 ≤ s.level ∧ s.level ≤ 3) (ht : top ≤ 3) {x : Par} (hx : x ∈ sortA (allL ta tc s top 9)) :
    priceI s x.r = if x.n = 1073741824 then 0 else 1 := by
  obtain ⟨h1, h2, h3, h4, h5⟩ := par_facts hd hl ht hx
  unfold priceI
  rw [h2, hm]
  rcases h5 with ⟨⟨a, b⟩, h⟩ | ⟨a, h⟩
  · simp [a, b, h]
  · rw [if_neg (by omega : ¬ x.n = 1073741824)]
    have : (decide (x.r.dir = s.dir) && decide (x.r.level = s.level)) = false := by simpa using a
    simp [this]
theorem limb_price {ta tc : Int} {s : Sgn} {top : Nat} (hm : movB s = true) (hd : 0 ≤ s.dir ∧ s.dir ≤ 8) (hl : 1 ≤ s.level ∧ s.level ≤ 3) (ht : top ≤ 3) :
    (optS ta tc s top).Pairwise fun r r' => priceI s r ≤ priceI s r' := by
  unfold optS
  rw [List.pairwise_map]
  refine (sortA_sorted _).imp_of_mem fun {x y} hx hy h => ?_
  rw [price_par hm hd hl ht hx, price_par hm hd hl ht hy]
  obtain ⟨_, _, _, _, hx5⟩ := par_facts hd hl ht hx
  obtain ⟨_, _, _, _, hy5⟩ := par_facts hd hl ht hy
  split <;> split <;> omega
theorem limb_head {ta tc : Int} {s : Sgn} {top : Nat} (hd : 0 ≤ s.dir ∧ s.dir ≤ 8) (hl : 1 ≤ s.level ∧ s.level ≤ 3) (ht : top ≤ 3) (h : s.level ≤ top) : (optS ta tc s top)[0]? = some ⟨s.id, s.dir, s.level, false⟩ := by
  have hm := own_mem (ta := ta) (tc := tc) hd hl h
  have hs := sortA_sorted (allL ta tc s top 9)
  have hf := fun (x : Par) (hx : x ∈ sortA (allL ta tc s top 9)) => par_facts hd hl ht hx
  unfold optS
  generalize sortA (allL ta tc s top 9) = L at *
  cases L with
  | nil => simp at hm
  | cons x r =>
    obtain ⟨h1, h2, _, _, h5⟩ := hf x (by simp)
    have hk : x.r.dir = s.dir ∧ x.r.level = s.level := by
      rcases List.mem_cons.1 hm with e | e
      · rw [← e]; exact ⟨rfl, rfl⟩
      · have := List.rel_of_pairwise_cons hs e
        have hk : (parOf s s.dir s.level).n = 1073741824 := by unfold parOf keyI ownB; simp
        rw [hk] at this
        rcases h5 with ⟨h, _⟩ | ⟨_, h⟩
        · exact h
        · omega
    simp only [List.map_cons, List.getElem?_cons_zero, Option.some.injEq]
    rcases x with ⟨⟨a, b, c, d⟩, n⟩
    simp only at h1 h2 hk
    rw [h1, h2, hk.1, hk.2]
theorem limb_none {ta tc : Int} {s : Sgn} {top : Nat} (hm : movB s = true) (hd : 0 ≤ s.dir ∧ s.dir ≤ 8) (hl : 1 ≤ s.level ∧ s.level ≤ 3) (ht : top ≤ 3) (h : ¬ s.level ≤ top) : ⟨s.id, s.dir, s.level, false⟩ ∉ optS ta tc s top := by
  intro hr
  have := (limb_form hm hd hl ht hr).2.2.2
  exact h this
end Go.Proofs.YtggcbblikgankaaDoor
end
section
/- Plain law of OptionsFirst, for every kind of sign. -/
namespace Go.Proofs.YtggcbblikgankaaDoor
open Go.RowKit Go.Sort

/-- Whether the body can do the sign as it stands, and how that reads. -/
def canB (s : Sgn) (b : Bod) : Bool :=
  if s.kind = 1 then decide (s.size ≤ b.step) else if s.kind = 2 then decide (s.size ≤ b.jump) else if s.kind = 3 then decide (s.level ≤ b.t0) else if s.kind = 4 then decide (s.level ≤ b.t1) else if s.kind = 5 then decide (s.level ≤ b.t2) else true
def firstR (s : Sgn) (b : Bod) : Rea :=
  if s.kind = 1 ∨ s.kind = 2 then ⟨s.id, 0, 0, false⟩ else if s.kind = 9 then ⟨s.id, 0, min s.level b.t1, false⟩ else ⟨s.id, s.dir, s.level, false⟩

structure DoFacts (k : Wrk) (s : Sgn) (b : Bod) : Prop where
  form : ∀ r ∈ doL k s b, r.sign = s.id ∧ r.drop = false ∧ formB s r = true
  price : (doL k s b).Pairwise fun r r' => priceI s r ≤ priceI s r'
  can : canB s b = true → (doL k s b)[0]? = some (firstR s b) ∧ priceI s (firstR s b) = 0
  not : canB s b = false → firstR s b ∉ doL k s b

theorem right_rest {s : Sgn} {roles bars : Int} (h : rightB s roles bars = true) : (s.kind = 6 ∨ s.kind = 7 ∨ s.kind = 8 → s.dir = 0 ∧ s.level = 0) ∧ (s.kind = 9 → 1 ≤ s.level ∧ s.level ≤ 3) := by
  unfold rightB fieldsB at h
  simp only [Bool.and_eq_true] at h
  obtain ⟨⟨_, h⟩, _⟩ := h
  refine ⟨?_, ?_⟩
  · rintro (e | e | e) <;> simp [e, inB_iff] at h <;> omega
  · intro e; simp [e, inB_iff] at h; omega

theorem one_facts {k : Wrk} {s : Sgn} {b : Bod} {r : Rea} (hd : doL k s b = [r]) (hc : canB s b = true) (hr : firstR s b = r) (h1 : r.sign = s.id) (h2 : r.drop = false) (h3 : formB s r = true) (h4 : priceI s r = 0) : DoFacts k s b where
  form x hx := by
    rw [hd] at hx
    obtain rfl := List.mem_singleton.1 hx
    exact ⟨h1, h2, h3⟩
  price := by rw [hd]; exact List.pairwise_singleton _ _
  can _ := by rw [hd, hr]; exact ⟨rfl, h4⟩
  not h := by rw [hc] at h; cases h
theorem trav_facts {k : Wrk} {s : Sgn} {b : Bod} {n : Int} (hk : s.kind = 1 ∨ s.kind = 2) (hd : doL k s b = travL s n) (hc : canB s b = decide (s.size ≤ n)) : DoFacts k s b := by
  have hr : firstR s b = ⟨s.id, 0, 0, false⟩ := by unfold firstR; rw [if_pos hk]
  have hm : movB s = false := by unfold movB; rcases hk with h | h <;> simp [h]
  by_cases h : n < s.size
  · have hd' : doL k s b = [] := by rw [hd]; unfold travL; rw [if_pos h]
    exact ⟨by rw [hd']; simp, by rw [hd']; exact List.Pairwise.nil, fun hc' => by rw [hc] at hc'; simp at hc'; omega, fun _ => by rw [hd']; simp⟩
  · have hd' : doL k s b = [⟨s.id, 0, 0, false⟩] := by rw [hd]; unfold travL; rw [if_neg h]
    refine one_facts hd' (by rw [hc]; simp; omega) hr rfl rfl ?_ ?_
    · unfold formB
      rw [hm]
      rcases hk with h | h <;> simp [h]
    · unfold priceI; rw [hm]; simp
theorem limb_facts {k : Wrk} {s : Sgn} {b : Bod} {n : Int} (hm : movB s = true) (hne : ¬ (s.kind = 1 ∨ s.kind = 2) ∧ s.kind ≠ 9) (hd0 : 0 ≤ s.dir ∧ s.dir ≤ 8) (hl : 1 ≤ s.level ∧ s.level ≤ 3) (hn : 1 ≤ n ∧ n ≤ 3)
    (hd : doL k s b = optS k.ta k.tc s n.toNat) (hc : canB s b = decide (s.level ≤ n)) : DoFacts k s b := by
  have hr : firstR s b = ⟨s.id, s.dir, s.level, false⟩ := by unfold firstR; rw [if_neg hne.1, if_neg hne.2]
  have ht : n.toNat ≤ 3 := by omega
  refine ⟨fun r h => ?_, ?_, fun h => ?_, fun h => ?_⟩
  · rw [hd] at h
    have := limb_form hm hd0 hl ht h
    exact ⟨this.1, this.2.1, this.2.2.1⟩
  · rw [hd]; exact limb_price hm hd0 hl ht
  · rw [hc] at h
    rw [hd, hr]
    refine ⟨limb_head hd0 hl ht (by have := of_decide_eq_true h; omega), ?_⟩
    unfold priceI; simp
  · rw [hc] at h
    rw [hd, hr]
    exact limb_none hm hd0 hl ht (by have := of_decide_eq_false h; omega)

theorem do_facts {k : Wrk} {s : Sgn} {b : Bod} (hk : wrkE k = 0) (hs : s ∈ k.signs) (hb : bodB b = true) : DoFacts k s b := by
  have hR := wrk_right hk hs
  have hK := right_kind hR
  have h0 : 1 ≤ b.t0 ∧ b.t0 ≤ 3 := bod_top hb (i := 0) (by omega)
  have h1 : 1 ≤ b.t1 ∧ b.t1 ≤ 3 := bod_top hb (i := 1) (by omega)
  have h2 : 1 ≤ b.t2 ∧ b.t2 ≤ 3 := bod_top hb (i := 2) (by omega)
  have hcase : s.kind = 1 ∨ s.kind = 2 ∨ s.kind = 3 ∨ s.kind = 4 ∨ s.kind = 5 ∨ (s.kind = 6 ∨ s.kind = 7 ∨ s.kind = 8) ∨ s.kind = 9 := by omega
  rcases hcase with e | e | e | e | e | e | e
  · exact trav_facts (n := b.step) (Or.inl e) (by unfold doL; simp [e]) (by unfold canB; simp [e])
  · exact trav_facts (n := b.jump) (Or.inr e) (by unfold doL; simp [e]) (by unfold canB; simp [e])
  · have hl := right_limb hR (Or.inl e)
    exact limb_facts (n := b.t0) (by unfold movB; simp [e]) (by omega) hl.1 hl.2 h0 (by unfold doL; simp [e]) (by unfold canB; simp [e])
  · have hl := right_limb hR (Or.inr (Or.inl e))
    exact limb_facts (n := b.t1) (by unfold movB; simp [e]) (by omega) hl.1 hl.2 h1 (by unfold doL; simp [e]) (by unfold canB; simp [e])
  · have hl := right_limb hR (Or.inr (Or.inr e))
    exact limb_facts (n := b.t2) (by unfold movB; simp [e]) (by omega) hl.1 hl.2 h2 (by unfold doL; simp [e]) (by unfold canB; simp [e])
  · have hz := (right_rest hR).1 e
    have hm : movB s = false := by unfold movB; rcases e with e | e | e <;> simp [e]
    refine one_facts (r := ⟨s.id, 0, 0, false⟩) (by unfold doL; rcases e with e | e | e <;> simp [e]) (by unfold canB; rcases e with e | e | e <;> simp [e]) ?_ rfl rfl ?_ ?_
    · unfold firstR; rw [hz.1, hz.2]; rcases e with e | e | e <;> simp [e]
    · unfold formB; rw [hm]; rcases e with e | e | e <;> simp [e]
    · unfold priceI; rw [hm]; simp
  · have hz := (right_rest hR).2 e
    have hm : movB s = false := by unfold movB; simp [e]
    refine one_facts (r := ⟨s.id, 0, min s.level b.t1, false⟩) (by unfold doL; simp [e]) (by unfold canB; simp [e]) (by unfold firstR; simp [e]) rfl rfl ?_ ?_
    · unfold formB; rw [hm]
      have : inB (min s.level b.t1) 1 3 = true := inB_iff.2 (by omega)
      simp [e, this]
    · unfold priceI; rw [hm]; simp

/-- All that OptionsFirst asks of the options of a sign. -/
structure OptFacts (k : Wrk) (s : Sgn) (b : Bod) : Prop where
  form : ∀ i r, (optL k s b)[i]? = some r → r.sign = s.id ∧ formB s r = true ∧ r.drop = (decide (i + 1 = (optL k s b).length) && decide (s.mark ≠ 1))
  price : (optL k s b).Pairwise fun r r' => priceI s r ≤ priceI s r'
  pos : ∀ r ∈ optL k s b, 0 ≤ priceI s r
  more : s.mark ≠ 1 → optL k s b ≠ []
  can : canB s b = true → (optL k s b)[0]? = some (firstR s b) ∧ priceI s (firstR s b) = 0 ∧ formB s (firstR s b) = true ∧ (firstR s b).sign = s.id
  not : canB s b = false → (optL k s b)[0]? ≠ some (firstR s b)
theorem first_drop (s : Sgn) (b : Bod) : (firstR s b).drop = false := by unfold firstR; split <;> (try split) <;> rfl
theorem price_nn (s : Sgn) (r : Rea) : 0 ≤ priceI s r := by unfold priceI; repeat' split <;> omega
theorem price_do {s : Sgn} {r : Rea} (h : r.drop = false) : priceI s r ≤ 1 := by unfold priceI; rw [h]; simp; split <;> omega
theorem price_drop {s : Sgn} (hm : 1 ≤ s.mark ∧ s.mark ≤ 3) : 1 ≤ priceI s ⟨s.id, 0, 0, true⟩ := by unfold priceI; simp; repeat' split <;> omega
theorem opt_facts {k : Wrk} {s : Sgn} {b : Bod} (hk : wrkE k = 0) (hs : s ∈ k.signs) (hb : bodB b = true) : OptFacts k s b := by
  obtain ⟨f1, f2, f3, f4⟩ := do_facts hk hs hb
  have hR := wrk_right hk hs
  have hm : 1 ≤ s.mark ∧ s.mark ≤ 3 := by
    unfold rightB at hR
    simp only [Bool.and_eq_true, inB_iff] at hR
    omega
  have hdrop : formB s ⟨s.id, 0, 0, true⟩ = true := by unfold formB; simp
  refine ⟨?_, ?_, fun r _ => price_nn s r, ?_, ?_, ?_⟩
  · intro i r hr
    unfold optL at hr ⊢
    by_cases hi : i < (doL k s b).length
    · rw [List.getElem?_append_left hi] at hr
      have := f1 r (List.mem_of_getElem? hr)
      refine ⟨this.1, this.2.2, ?_⟩
      rw [this.2.1]
      unfold dropL
      split
      · rename_i h1; simp [h1]
      · have h2 : ¬ (i + 1 = (doL k s b ++ [(⟨s.id, 0, 0, true⟩ : Rea)]).length) := by simp; omega
        rw [decide_eq_false h2, Bool.false_and]
    · rw [List.getElem?_append_right (by omega)] at hr
      unfold dropL at hr ⊢
      split at hr
      · simp at hr
      · rename_i h1
        have hi2 : i - (doL k s b).length = 0 := by
          rcases Nat.eq_zero_or_pos (i - (doL k s b).length) with h | h
          · exact h
          · rw [List.getElem?_eq_none (by simp; omega)] at hr; cases hr
        rw [hi2] at hr
        simp at hr
        subst hr
        refine ⟨rfl, hdrop, ?_⟩
        rw [if_neg h1]
        have h2 : i + 1 = (doL k s b ++ [(⟨s.id, 0, 0, true⟩ : Rea)]).length := by simp; omega
        simp [h2, h1]
  · unfold optL dropL
    rw [List.pairwise_append]
    refine ⟨f2, ?_, ?_⟩
    · split
      · exact List.Pairwise.nil
      · exact List.pairwise_singleton _ _
    · intro x hx y hy
      split at hy
      · simp at hy
      · obtain rfl := List.mem_singleton.1 hy
        have := price_do (s := s) (f1 x hx).2.1
        have := price_drop hm
        omega
  · intro h
    unfold optL dropL
    rw [if_neg h]; simp
  · intro h
    have ⟨g1, g2⟩ := f3 h
    have g3 := f1 _ (List.mem_of_getElem? g1)
    refine ⟨?_, g2, g3.2.2, g3.1⟩
    unfold optL
    obtain ⟨h0, _⟩ := List.getElem?_eq_some_iff.1 g1
    rw [List.getElem?_append_left h0]; exact g1
  · intro h he
    unfold optL at he
    by_cases h0 : 0 < (doL k s b).length
    · rw [List.getElem?_append_left h0] at he
      exact f4 h (List.mem_of_getElem? he)
    · rw [List.getElem?_append_right (by omega)] at he
      unfold dropL at he
      split at he
      · simp at he
      · have : (0 : Nat) - (doL k s b).length = 0 := by omega
        rw [this] at he
        simp at he
        have h2 := first_drop s b
        rw [← he] at h2
        cases h2
end Go.Proofs.YtggcbblikgankaaDoor
end
section
/- Plain law of OptionsAll: exactly the fitting directions and levels, each once. No program in sight. -/
namespace Go.Proofs.YtggcbblikgankaaDoor
open Go.RowKit Go.Sort

theorem cnt_app (p : Par → Bool) (a b : List Par) : (a ++ b).countP p = a.countP p + b.countP p := List.countP_append
/-- How often a direction and a level are among the first levels of a direction. -/
theorem lineL_cnt (ta tc : Int) (s : Sgn) (d e v : Nat) (hv : 1 ≤ v) : ∀ m, (lineL ta tc s e m).countP (fun x => decide (x.r = (⟨s.id, d, v, false⟩ : Rea))) = if e = d ∧ v ≤ m ∧ fitB ta tc s d v = true then 1 else 0
  | 0 => by
    rw [if_neg (by omega)]
    simp [lineL]
  | m + 1 => by
    have ih := lineL_cnt ta tc s d e v hv m
    cases hf : fitB ta tc s e ((m : Int) + 1) with
    | true =>
      rw [lineL_yes hf, cnt_app, ih]
      by_cases h : e = d ∧ m + 1 = v
      · obtain ⟨rfl, rfl⟩ := h
        rw [if_neg (by omega), if_pos ⟨rfl, Nat.le_refl _, by simpa using hf⟩]
        simp [parOf]
      · have h1 : ¬ (parOf s e ((m : Int) + 1)).r = (⟨s.id, d, v, false⟩ : Rea) := by
          unfold parOf
          intro hc
          injection hc with _ h2 h3 _
          exact h ⟨by omega, by omega⟩
        rw [List.countP_cons_of_neg (by simpa using h1), List.countP_nil]
        by_cases h2 : e = d ∧ v ≤ m ∧ fitB ta tc s d v = true
        · rw [if_pos h2, if_pos ⟨h2.1, by omega, h2.2.2⟩]
        · rw [if_neg h2, if_neg (fun h3 => h2 ⟨h3.1, by have : ¬ (m + 1 = v) := fun h4 => h ⟨h3.1, h4⟩; omega, h3.2.2⟩)]
    | false =>
      rw [lineL_no hf, ih]
      by_cases h2 : e = d ∧ v ≤ m ∧ fitB ta tc s d v = true
      · rw [if_pos h2, if_pos ⟨h2.1, by omega, h2.2.2⟩]
      · rw [if_neg h2, if_neg]
        intro h3
        by_cases h4 : v = m + 1
        · obtain ⟨rfl, _, h5⟩ := h3
          rw [h4] at h5
          have : fitB ta tc s (e : Nat) ((m : Int) + 1) = true := by simpa using h5
          rw [hf] at this; cases this
        · exact h2 ⟨h3.1, by omega, h3.2.2⟩
theorem allL_cnt (ta tc : Int) (s : Sgn) (top d v : Nat) (hv : 1 ≤ v) : ∀ m, (allL ta tc s top m).countP (fun x => decide (x.r = (⟨s.id, d, v, false⟩ : Rea))) = if d < m ∧ v ≤ top ∧ fitB ta tc s d v = true then 1 else 0
  | 0 => by rw [if_neg (by omega)]; simp [allL]
  | m + 1 => by
    rw [allL_succ, cnt_app, allL_cnt ta tc s top d v hv m, lineL_cnt ta tc s d m v hv top]
    by_cases h : m = d
    · subst h
      have hz : ¬ (m < m ∧ v ≤ top ∧ fitB ta tc s m v = true) := fun h => Nat.lt_irrefl _ h.1
      rw [if_neg hz]
      by_cases h2 : v ≤ top ∧ fitB ta tc s m v = true
      · rw [if_pos ⟨rfl, h2⟩, if_pos ⟨by omega, h2⟩]
      · rw [if_neg (fun h3 => h2 h3.2), if_neg (fun h3 => h2 h3.2)]
    · have hz : ¬ (m = d ∧ v ≤ top ∧ fitB ta tc s d v = true) := fun h2 => h h2.1
      rw [if_neg hz]
      by_cases h2 : d < m ∧ v ≤ top ∧ fitB ta tc s d v = true
      · rw [if_pos h2, if_pos ⟨by omega, h2.2⟩]
      · rw [if_neg h2, if_neg (fun h3 => h2 ⟨by omega, h3.2⟩)]
theorem optS_cnt (ta tc : Int) (s : Sgn) (top d v : Nat) (hd : d < 9) (hv : 1 ≤ v) : hasN (optS ta tc s top) ⟨s.id, d, v, false⟩ = if v ≤ top ∧ fitB ta tc s d v = true then 1 else 0 := by
  unfold hasN optS
  rw [List.countP_map]
  rw [(sortA_perm _).countP_eq]
  have := allL_cnt ta tc s top d v hv 9
  rw [show ((fun x => decide (x = (⟨s.id, d, v, false⟩ : Rea))) ∘ fun x : Par => x.r) = (fun x : Par => decide (x.r = (⟨s.id, d, v, false⟩ : Rea))) from rfl, this]
  by_cases h2 : v ≤ top ∧ fitB ta tc s d v = true
  · rw [if_pos ⟨hd, h2⟩, if_pos h2]
  · rw [if_neg (fun h3 => h2 h3.2), if_neg h2]
theorem optS_len (ta tc : Int) (s : Sgn) (top : Nat) : (optS ta tc s top).length = (allL ta tc s top 9).length := by
  unfold optS; rw [List.length_map, sortA_len]
theorem optS_drops (ta tc : Int) (s : Sgn) (top : Nat) (i d v : Int) : hasN (optS ta tc s top) ⟨i, d, v, true⟩ = 0 := by
  unfold hasN
  rw [List.countP_eq_zero]
  intro x hx
  unfold optS at hx
  obtain ⟨y, hy, rfl⟩ := List.mem_map.1 hx
  obtain ⟨d, hd9, v, hv, hf, rfl⟩ := mem_allL.1 ((sortA_perm _).mem_iff.1 hy)
  simp [parOf]
theorem hasN_app (a b : List Rea) (r : Rea) : hasN (a ++ b) r = hasN a r + hasN b r := List.countP_append
theorem dropL_no (s : Sgn) (i d v : Int) : hasN (dropL s) ⟨i, d, v, false⟩ = 0 := by
  unfold hasN
  rw [List.countP_eq_zero]
  intro x hx
  unfold dropL at hx
  split at hx
  · simp at hx
  · obtain rfl := List.mem_singleton.1 hx
    simp
theorem dropL_yes (s : Sgn) : hasN (dropL s) ⟨s.id, 0, 0, true⟩ = (dropL s).length := by
  unfold dropL hasN
  split <;> simp
theorem dropL_len (s : Sgn) : (dropL s).length = if s.mark = 1 then 0 else 1 := by unfold dropL; split <;> rfl

/-- All that OptionsAll asks of the options of a sign that moves a limb. -/
structure AllFacts (k : Wrk) (s : Sgn) (b : Bod) (top : Nat) : Prop where
  tops : 1 ≤ top ∧ top ≤ 3
  dir : 0 ≤ s.dir ∧ s.dir ≤ 8
  level : 1 ≤ s.level ∧ s.level ≤ 3
  at_ : ∀ d v : Nat, d < 9 → 1 ≤ v → hasN (optL k s b) ⟨s.id, d, v, false⟩ = if v ≤ top ∧ fitB k.ta k.tc s d v = true then 1 else 0
  drops : hasN (optL k s b) ⟨s.id, 0, 0, true⟩ = (dropL s).length
  len : (optL k s b).length = (allL k.ta k.tc s top 9).length + (dropL s).length
theorem all_facts {k : Wrk} {s : Sgn} {b : Bod} (hk : wrkE k = 0) (hs : s ∈ k.signs) (hb : bodB b = true) (i : Nat) (hi : i < 3) (hkind : s.kind = (i : Int) + 3) : AllFacts k s b (topOf b i).toNat := by
  have hR := wrk_right hk hs
  have ht : 1 ≤ topOf b i ∧ topOf b i ≤ 3 := bod_top hb hi
  have hl := right_limb hR (by omega)
  have hdo : doL k s b = optS k.ta k.tc s (topOf b i).toNat := by
    unfold doL
    rcases i with _ | _ | _ | i
    · have e : s.kind = 3 := by omega
      simp [e, topOf]
    · have e : s.kind = 4 := by omega
      simp [e, topOf]
    · have e : s.kind = 5 := by omega
      simp [e, topOf]
    · omega
  refine ⟨by omega, hl.1, hl.2, ?_, ?_, ?_⟩
  · intro d v hd hv
    unfold optL
    rw [hasN_app, hdo, optS_cnt _ _ _ _ _ _ hd hv, dropL_no, Nat.add_zero]
  · unfold optL
    rw [hasN_app, hdo, optS_drops, dropL_yes, Nat.zero_add]
  · unfold optL
    rw [List.length_append, hdo, optS_len]

set_option maxRecDepth 100000 in
theorem dot_wide : ∀ a, a < 9 → ∀ l, l < 3 → ∀ d, d < 9 → ∀ v, v < 3 → -707281 ≤ dotI (a : Nat) ((l : Nat) + 1 : Int) (d : Nat) ((v : Nat) + 1 : Int) ∧ dotI (a : Nat) ((l : Nat) + 1 : Int) (d : Nat) ((v : Nat) + 1 : Int) ≤ 707281 := by decide
theorem dot_in {a l d v : Int} (ha : 0 ≤ a ∧ a ≤ 8) (hl : 1 ≤ l ∧ l ≤ 3) (hd : 0 ≤ d ∧ d ≤ 8) (hv : 1 ≤ v ∧ v ≤ 3) : -707281 ≤ dotI a l d v ∧ dotI a l d v ≤ 707281 := by
  have := dot_wide a.toNat (by omega) (l - 1).toNat (by omega) d.toNat (by omega) (v - 1).toNat (by omega)
  rw [show ((a.toNat : Nat) : Int) = a by omega, show (((l - 1).toNat : Nat) : Int) + 1 = l by omega, show ((d.toNat : Nat) : Int) = d by omega, show (((v - 1).toNat : Nat) : Int) + 1 = v by omega] at this
  exact this
end Go.Proofs.YtggcbblikgankaaDoor
end
section
/- Plain law of OptionsTolerance: with a tolerance of a greater angle no option is lost; each option stands once. No program in sight. -/
namespace Go.Proofs.YtggcbblikgankaaDoor
open Go.RowKit Go.Sort

/-- Angles in the first quarter: the greater one has the smaller cosine. -/
theorem cos_le {a b c a' b' c' : Int} (ha : 0 ≤ a) (hb : 0 ≤ b) (hc : 1 ≤ c) (ha' : 0 ≤ a') (hb' : 0 ≤ b') (hc' : 1 ≤ c') (h : a * a + b * b = c * c) (h' : a' * a' + b' * b' = c' * c') (ho : b * a' ≤ a * b') : a' * c ≤ a * c' := by
  have h1 : (b * a') * (b * a') ≤ (a * b') * (a * b') := Int.mul_le_mul ho ho (Int.mul_nonneg hb ha') (Int.mul_nonneg ha hb')
  have e1 : (b * a') * (b * a') = (b * b) * (a' * a') := by ac_rfl
  have e2 : (a * b') * (a * b') = (a * a) * (b' * b') := by ac_rfl
  have hbb : b * b = c * c - a * a := by omega
  have hbb' : b' * b' = c' * c' - a' * a' := by omega
  rw [e1, e2, hbb, hbb', Int.sub_mul, Int.mul_sub] at h1
  have h2 : (c * c) * (a' * a') ≤ (a * a) * (c' * c') := by omega
  have e3 : (c * c) * (a' * a') = (a' * c) * (a' * c) := by ac_rfl
  have e4 : (a * a) * (c' * c') = (a * c') * (a * c') := by ac_rfl
  rw [e3, e4] at h2
  rcases Int.lt_or_le (a * c') (a' * c) with hlt | hle
  · have h0 : 0 ≤ a * c' := Int.mul_nonneg ha (by omega)
    have := Int.mul_lt_mul' (Int.le_of_lt hlt) hlt h0 (by omega)
    omega
  · exact hle
theorem fit_more {ta tc ta' tc' : Int} (hc : 1 ≤ tc) (hc' : 1 ≤ tc') (ho : ta' * tc ≤ ta * tc') {s : Sgn} {d v : Int} (h : fitB ta tc s d v = true) : fitB ta' tc' s d v = true := by
  unfold fitB at h ⊢
  simp only [Bool.or_eq_true, Bool.and_eq_true, decide_eq_true_eq] at h ⊢
  rcases h with h | ⟨h2, h3⟩
  · exact Or.inl h
  · refine Or.inr ⟨h2, ?_⟩
    generalize dotI s.dir s.level d v = n at *
    have h4 : ta * 707281 * tc' ≤ n * tc * tc' := Int.mul_le_mul_of_nonneg_right h3 (by omega)
    have h5 : ta' * tc * 707281 ≤ ta * tc' * 707281 := Int.mul_le_mul_of_nonneg_right ho (by omega)
    have h6 : ta * 707281 * tc' = ta * tc' * 707281 := by rw [Int.mul_assoc, Int.mul_comm 707281 tc', ← Int.mul_assoc]
    have h7 : n * tc * tc' = (n * tc') * tc := by rw [Int.mul_assoc, Int.mul_comm tc tc', ← Int.mul_assoc]
    have h8 : ta' * tc * 707281 = (ta' * 707281) * tc := by rw [Int.mul_assoc, Int.mul_comm tc 707281, ← Int.mul_assoc]
    exact Int.le_of_mul_le_mul_right (by omega : (ta' * 707281) * tc ≤ (n * tc') * tc) (by omega)
theorem lineL_more {ta tc ta' tc' : Int} {s : Sgn} (h : ∀ d v, fitB ta tc s d v = true → fitB ta' tc' s d v = true) (d : Nat) : ∀ m, (lineL ta tc s d m).length ≤ (lineL ta' tc' s d m).length
  | 0 => by simp [lineL]
  | m + 1 => by
    have ih := lineL_more h d m
    cases hf : fitB ta tc s d ((m : Int) + 1) with
    | true => rw [lineL_yes hf, lineL_yes (h _ _ hf), List.length_append, List.length_append]; simp; exact ih
    | false =>
      rw [lineL_no hf]
      cases hf' : fitB ta' tc' s d ((m : Int) + 1) with
      | true => rw [lineL_yes hf', List.length_append]; omega
      | false => rw [lineL_no hf']; exact ih
theorem allL_more {ta tc ta' tc' : Int} {s : Sgn} (h : ∀ d v, fitB ta tc s d v = true → fitB ta' tc' s d v = true) (top : Nat) : ∀ m, (allL ta tc s top m).length ≤ (allL ta' tc' s top m).length
  | 0 => by simp [allL]
  | m + 1 => by
    rw [allL_succ, allL_succ, List.length_append, List.length_append]
    exact Nat.add_le_add (allL_more h top m) (lineL_more h m top)

/-- An element of optS is a direction and a level that fit. -/
theorem optS_mem {ta tc : Int} {s : Sgn} {top : Nat} {r : Rea} (h : r ∈ optS ta tc s top) : ∃ d v : Nat, d < 9 ∧ 1 ≤ v ∧ v ≤ top ∧ fitB ta tc s d v = true ∧ r = ⟨s.id, d, v, false⟩ := by
  unfold optS at h
  obtain ⟨y, hy, rfl⟩ := List.mem_map.1 h
  obtain ⟨d, hd9, v, hv, hf, rfl⟩ := mem_allL.1 ((sortA_perm _).mem_iff.1 hy)
  exact ⟨d, v + 1, hd9, by omega, by omega, by simpa using hf, by simp [parOf]⟩
theorem optS_once {ta tc ta' tc' : Int} {s : Sgn} {top : Nat} (h : ∀ d v, fitB ta tc s d v = true → fitB ta' tc' s d v = true) {r : Rea} (hr : r ∈ optS ta tc s top) : hasN (optS ta' tc' s top) r = 1 := by
  obtain ⟨d, v, hd, hv, ht, hf, rfl⟩ := optS_mem hr
  rw [optS_cnt _ _ _ _ _ _ hd hv, if_pos ⟨ht, h _ _ hf⟩]
theorem one_once (r : Rea) : hasN [r] r = 1 := by unfold hasN; simp
theorem doL_more {k k' : Wrk} {s : Sgn} {b : Bod} (h : ∀ d v, fitB k.ta k.tc s d v = true → fitB k'.ta k'.tc s d v = true) : (doL k s b).length ≤ (doL k' s b).length ∧ ∀ r ∈ doL k s b, hasN (doL k' s b) r = 1 := by
  have lim : ∀ top, (optS k.ta k.tc s top).length ≤ (optS k'.ta k'.tc s top).length ∧ ∀ r ∈ optS k.ta k.tc s top, hasN (optS k'.ta k'.tc s top) r = 1 := fun top =>
    ⟨by rw [optS_len, optS_len]; exact allL_more h top 9, fun r hr => optS_once h hr⟩
  have one : ∀ x : Rea, ([x] : List Rea).length ≤ ([x] : List Rea).length ∧ ∀ r ∈ ([x] : List Rea), hasN [x] r = 1 := fun x => ⟨Nat.le_refl _, fun r hr => by rw [List.mem_singleton.1 hr]; exact one_once x⟩
  have trv : ∀ n, (travL s n).length ≤ (travL s n).length ∧ ∀ r ∈ travL s n, hasN (travL s n) r = 1 := fun n => by
    unfold travL
    split
    · exact ⟨Nat.le_refl _, fun r hr => by cases hr⟩
    · exact one _
  unfold doL
  repeat' split
  all_goals first | exact trv _ | exact lim _ | exact one _
theorem doL_drop {k : Wrk} {s : Sgn} {b : Bod} {r : Rea} (h : r ∈ doL k s b) : r.drop = false := by
  unfold doL at h
  have lim : ∀ top, r ∈ optS k.ta k.tc s top → r.drop = false := fun top hr => by
    obtain ⟨d, v, _, _, _, _, rfl⟩ := optS_mem hr; rfl
  have trv : ∀ n, r ∈ travL s n → r.drop = false := fun n hr => by
    unfold travL at hr
    split at hr
    · cases hr
    · rw [List.mem_singleton.1 hr]
  repeat' split at h
  all_goals first | exact trv _ h | exact lim _ h | (rw [List.mem_singleton.1 h])
theorem dropL_mem {s : Sgn} {r : Rea} (h : r ∈ dropL s) : r = ⟨s.id, 0, 0, true⟩ ∧ (dropL s).length = 1 := by
  unfold dropL at h ⊢
  split at h
  · cases h
  · rename_i h1
    rw [if_neg h1]
    exact ⟨List.mem_singleton.1 h, rfl⟩
theorem hasN_zero {l : List Rea} {r : Rea} (h : r ∉ l) : hasN l r = 0 := by
  unfold hasN; rw [List.countP_eq_zero]; intro x hx; simp; rintro rfl; exact h hx
theorem optL_more {k k' : Wrk} {s : Sgn} {b : Bod} (h : ∀ d v, fitB k.ta k.tc s d v = true → fitB k'.ta k'.tc s d v = true) : (optL k s b).length ≤ (optL k' s b).length ∧ ∀ r ∈ optL k s b, hasN (optL k' s b) r = 1 := by
  obtain ⟨h1, h2⟩ := doL_more (k := k) (k' := k') (b := b) h
  unfold optL
  refine ⟨by rw [List.length_append, List.length_append]; omega, ?_⟩
  intro r hr
  rw [hasN_app]
  rcases List.mem_append.1 hr with hr | hr
  · rw [h2 r hr]
    have hd := doL_drop hr
    have : hasN (dropL s) r = 0 := hasN_zero fun hm => by
      rw [(dropL_mem hm).1] at hd; cases hd
    rw [this]
  · obtain ⟨rfl, hl⟩ := dropL_mem hr
    rw [dropL_yes, hl]
    have : hasN (doL k' s b) ⟨s.id, 0, 0, true⟩ = 0 := hasN_zero fun hm => by
      have := doL_drop hm; cases this
    rw [this]

/-- The plain law: work and wider work. -/
theorem tol_facts {k k' : Wrk} {s : Sgn} {b : Bod} (hk : wrkE k = 0) (hk' : wrkE k' = 0) (ho : k.ta = k'.ta ∧ k.tb = k'.tb ∧ k.tc = k'.tc ∨ k.tb * k'.ta < k.ta * k'.tb) : (optL k s b).length ≤ (optL k' s b).length ∧ ∀ r ∈ optL k s b, hasN (optL k' s b) r = 1 := by
  have trn : ∀ {k : Wrk}, wrkE k = 0 → 0 ≤ k.ta ∧ 0 ≤ k.tb ∧ 1 ≤ k.tc ∧ k.ta * k.ta + k.tb * k.tb = k.tc * k.tc := by
    intro k h
    have hb := (wrk_ok_of h).2.2.2
    unfold wrkB wrkHead trnB at hb
    simp only [Bool.and_eq_true, decide_eq_true_eq, inB_iff] at hb
    omega
  obtain ⟨a1, a2, a3, a4⟩ := trn hk
  obtain ⟨b1, b2, b3, b4⟩ := trn hk'
  refine optL_more fun d v hf => fit_more a3 b3 ?_ hf
  rcases ho with ⟨e1, _, e3⟩ | ho
  · rw [e1, e3]; exact Int.le_refl _
  · exact cos_le a1 a2 a3 b1 b2 b3 a4 b4 (Int.le_of_lt ho)
end Go.Proofs.YtggcbblikgankaaDoor
end
section
/- Plain law of OptionsMirror: the options of a mirrored sign are the mirrored ones; another mark changes the last one alone. No program in sight. -/
namespace Go.Proofs.YtggcbblikgankaaDoor
open Go.RowKit Go.Sort

def mirD (d : Int) : Int := if d ≤ 1 then d else 10 - d
/-- A sign to which the mirrored fields of another are given. -/
def mirG (s x : Sgn) : Sgn := { x with dir := mirD s.dir, side := if s.side = 0 then x.side else 3 - s.side, size := if s.kind = 6 then 8 - s.size else x.size }
def mirL (s : Sgn) (l : List Sgn) : List Sgn := l.map fun x => if x.id = s.id then mirG s x else x
def markL (s : Sgn) (m : Int) (l : List Sgn) : List Sgn := l.map fun x => if x.id = s.id then { x with mark := m } else x

set_option maxRecDepth 100000 in
theorem mir_tab : ∀ a, a < 9 → ∀ l, l < 3 → ∀ d, d < 9 → ∀ v, v < 3 → dotI (mirD (a : Nat)) ((l : Nat) + 1 : Int) (mirD (d : Nat)) ((v : Nat) + 1 : Int) = dotI (a : Nat) ((l : Nat) + 1 : Int) (d : Nat) ((v : Nat) + 1 : Int) := by decide
set_option maxRecDepth 100000 in
theorem mir_nz : ∀ d, d < 9 → ∀ v, v < 3 → nzB (mirD (d : Nat)) ((v : Nat) + 1 : Int) = nzB (d : Nat) ((v : Nat) + 1 : Int) := by decide
theorem mirD_in {d : Int} (h : 0 ≤ d ∧ d ≤ 8) : 0 ≤ mirD d ∧ mirD d ≤ 8 := by unfold mirD; split <;> omega
theorem mirD_inj {d e : Int} (h : 0 ≤ d ∧ d ≤ 8) (h' : 0 ≤ e ∧ e ≤ 8) : mirD d = mirD e ↔ d = e := by unfold mirD; constructor <;> intro h <;> (repeat' split at h) <;> (try split) <;> omega
theorem mir_fit {ta tc : Int} {s t : Sgn} {d v : Int} (hs : 0 ≤ s.dir ∧ s.dir ≤ 8) (hl : 1 ≤ s.level ∧ s.level ≤ 3) (hd : 0 ≤ d ∧ d ≤ 8) (hv : 1 ≤ v ∧ v ≤ 3) (h1 : t.dir = mirD s.dir) (h2 : t.level = s.level) : fitB ta tc t (mirD d) v = fitB ta tc s d v := by
  have e1 := mir_tab s.dir.toNat (by omega) (s.level - 1).toNat (by omega) d.toNat (by omega) (v - 1).toNat (by omega)
  have e2 := mir_nz s.dir.toNat (by omega) (s.level - 1).toNat (by omega)
  have e3 := mir_nz d.toNat (by omega) (v - 1).toNat (by omega)
  rw [show ((s.dir.toNat : Nat) : Int) = s.dir by omega, show (((s.level - 1).toNat : Nat) : Int) + 1 = s.level by omega] at e1 e2
  rw [show ((d.toNat : Nat) : Int) = d by omega, show (((v - 1).toNat : Nat) : Int) + 1 = v by omega] at e1 e3
  have e4 : decide (mirD d = t.dir) = decide (d = s.dir) := by rw [h1]; exact decide_eq_decide.2 (mirD_inj hd hs)
  unfold fitB ownB
  rw [e4, h2, h1, e1, e2, e3]
theorem mir_line {ta tc : Int} {s t : Sgn} (hs : 0 ≤ s.dir ∧ s.dir ≤ 8) (hl : 1 ≤ s.level ∧ s.level ≤ 3) (h1 : t.dir = mirD s.dir) (h2 : t.level = s.level) (d e : Nat) (hd : d ≤ 8) (he : (e : Int) = mirD d) : ∀ m, m ≤ 3 → (lineL ta tc t e m).length = (lineL ta tc s d m).length
  | 0, _ => by simp [lineL]
  | m + 1, hm => by
    have ih := mir_line (ta := ta) (tc := tc) hs hl h1 h2 d e hd he m (by omega)
    have hf := mir_fit (ta := ta) (tc := tc) (d := d) (v := (m : Int) + 1) hs hl (by omega) (by omega) h1 h2
    rw [← he] at hf
    cases hg : fitB ta tc s d ((m : Int) + 1) with
    | true => rw [hg] at hf; rw [lineL_yes hf, lineL_yes hg, List.length_append, List.length_append, ih]; rfl
    | false => rw [hg] at hf; rw [lineL_no hf, lineL_no hg, ih]
theorem allL_nine (ta tc : Int) (s : Sgn) (top : Nat) : (allL ta tc s top 9).length = (lineL ta tc s 0 top).length + (lineL ta tc s 1 top).length + (lineL ta tc s 2 top).length + (lineL ta tc s 3 top).length + (lineL ta tc s 4 top).length + (lineL ta tc s 5 top).length + (lineL ta tc s 6 top).length + (lineL ta tc s 7 top).length + (lineL ta tc s 8 top).length := by
  iterate 9 rw [allL_succ, List.length_append]
  simp [allL]
theorem mir_all {ta tc : Int} {s t : Sgn} (hs : 0 ≤ s.dir ∧ s.dir ≤ 8) (hl : 1 ≤ s.level ∧ s.level ≤ 3) (h1 : t.dir = mirD s.dir) (h2 : t.level = s.level) (top : Nat) (ht : top ≤ 3) : (allL ta tc t top 9).length = (allL ta tc s top 9).length := by
  have L := fun d e hd he => mir_line (ta := ta) (tc := tc) hs hl h1 h2 d e hd he top ht
  have a0 := L 0 0 (by omega) (by decide)
  have a1 := L 1 1 (by omega) (by decide)
  have a2 := L 2 8 (by omega) (by decide)
  have a3 := L 3 7 (by omega) (by decide)
  have a4 := L 4 6 (by omega) (by decide)
  have a5 := L 5 5 (by omega) (by decide)
  have a6 := L 6 4 (by omega) (by decide)
  have a7 := L 7 3 (by omega) (by decide)
  have a8 := L 8 2 (by omega) (by decide)
  rw [allL_nine, allL_nine]
  omega
def mirR (r : Rea) : Rea := { r with dir := mirD r.dir }

theorem right_side {s : Sgn} {roles bars : Int} (h : rightB s roles bars = true) : 1 ≤ s.kind ∧ s.kind ≤ 9 ∧ 0 ≤ s.side ∧ s.side ≤ 2 ∧ 0 ≤ s.dir ∧ s.dir ≤ 8 ∧ (s.kind = 6 → 1 ≤ s.size ∧ s.size ≤ 7) := by
  unfold rightB fieldsB at h
  simp only [Bool.and_eq_true, inB_iff] at h
  obtain ⟨⟨⟨⟨⟨h1, _⟩, _⟩, _⟩, h⟩, _⟩ := h
  refine ⟨h1.1, h1.2, ?_⟩
  (repeat' split at h) <;> simp [inB_iff] at h <;> omega
theorem mir_right {s : Sgn} {roles bars : Int} (h : rightB s roles bars = true) : rightB (mirG s s) roles bars = true := by
  have hd := right_side h
  have hm := mirD_in (d := s.dir) (by omega)
  have hz : mirD s.dir = 0 ↔ s.dir = 0 := by unfold mirD; split <;> omega
  have h' := h
  unfold rightB at h' ⊢
  simp only [Bool.and_eq_true] at h' ⊢
  obtain ⟨⟨⟨⟨⟨h1, h2⟩, h3⟩, h4⟩, h5⟩, h6⟩ := h'
  refine ⟨⟨⟨⟨⟨h1, h2⟩, h3⟩, h4⟩, ?_⟩, h6⟩
  have k1 : (mirG s s).kind = s.kind := rfl
  have k2 : (mirG s s).level = s.level := rfl
  have k3 : (mirG s s).wth = s.wth := rfl
  have k4 : (mirG s s).dir = mirD s.dir := rfl
  have k5 : (mirG s s).side = if s.side = 0 then s.side else 3 - s.side := rfl
  have k6 : (mirG s s).size = if s.kind = 6 then 8 - s.size else s.size := rfl
  clear h1 h2 h3 h4 h6
  generalize mirG s s = x at *
  have e1 : ∀ lo, (lo = 0 ∨ lo = 1) → inB x.dir lo 8 = inB s.dir lo 8 := by
    intro lo hlo
    rw [Bool.eq_iff_iff, inB_iff, inB_iff, k4]
    rcases hlo with rfl | rfl <;> omega
  have e2 : inB x.side 1 2 = inB s.side 1 2 := by
    rw [Bool.eq_iff_iff, inB_iff, inB_iff, k5]; split <;> omega
  have e3 : decide (x.side = 0) = decide (s.side = 0) := by
    apply decide_eq_decide.2; rw [k5]; split <;> omega
  have e4 : decide (x.dir = 0) = decide (s.dir = 0) := decide_eq_decide.2 (by rw [k4]; exact hz)
  unfold fieldsB at h5 ⊢
  rw [e1 0 (Or.inl rfl), e1 1 (Or.inr rfl), e2, e3, e4, k1, k2, k3]
  by_cases h6 : s.kind = 6
  · have := hd.2.2.2.2.2.2 h6
    rw [if_pos h6] at k6
    simp only [h6] at h5 ⊢
    simp [inB_iff] at h5 ⊢
    omega
  · rw [if_neg h6] at k6
    rw [k6]; exact h5
theorem mark_right {s : Sgn} {roles bars m : Int} (hm : 1 ≤ m ∧ m ≤ 3) (h : rightB s roles bars = true) : rightB { s with mark := m } roles bars = true := by
  unfold rightB at h ⊢
  simp only [Bool.and_eq_true] at h ⊢
  exact ⟨⟨⟨h.1.1.1, inB_iff.2 hm⟩, h.1.2⟩, h.2⟩

/-- A change of signs that leaves their numbers, and keeps them right. -/
theorem signs_map {roles bars : Int} (f : Sgn → Sgn) (hid : ∀ x, (f x).id = x.id) : ∀ {l : List Sgn} {last : Int}, signsB roles bars last l = true → (∀ x ∈ l, rightB x roles bars = true → rightB (f x) roles bars = true) → signsB roles bars last (l.map f) = true
  | [], _, h, _ => h
  | x :: r, last, h, hf => by
    unfold signsB at h
    rw [Bool.and_eq_true] at h
    rw [List.map_cons]
    unfold signsB
    rw [Bool.and_eq_true, hid]
    refine ⟨?_, signs_map f hid h.2 fun y hy => hf y (List.mem_cons_of_mem _ hy)⟩
    have := h.1
    unfold signB at this ⊢
    simp only [Bool.and_eq_true] at this ⊢
    rw [hid]
    exact ⟨this.1, hf x List.mem_cons_self this.2⟩
theorem wrk_map {k : Wrk} (f : Sgn → Sgn) (hid : ∀ x, (f x).id = x.id) (hk : wrkE k = 0) (hf : ∀ x ∈ k.signs, rightB x k.roles.length k.clock.bars = true → rightB (f x) k.roles.length k.clock.bars = true) : wrkE { k with signs := k.signs.map f } = 0 := by
  obtain ⟨h1, h2, h3, h4⟩ := wrk_ok_of hk
  have hl : wrkLim { k with signs := k.signs.map f } = true := by unfold wrkLim; simp [h1, h2]
  have hb : wrkB { k with signs := k.signs.map f } = true := by
    unfold wrkB at h4 ⊢
    simp only [Bool.and_eq_true] at h4 ⊢
    exact ⟨h4.1, signs_map f hid h4.2 hf⟩
  unfold wrkE
  rw [if_pos hl, if_neg (by simpa using h3), if_pos hb]
theorem idT_map (f : Sgn → Sgn) (hid : ∀ x, (f x).id = x.id) (l : List Sgn) : idT (l.map f) = idT l := by
  unfold idT; rw [List.map_map]; congr 1; funext x; simp [hid]
theorem idP_map (f : Sgn → Sgn) (hid : ∀ x, (f x).id = x.id) (l : List Sgn) (n : Int) : idP (l.map f) n = idP l n := by unfold idP; rw [idT_map f hid]
theorem idF_map (f : Sgn → Sgn) (hid : ∀ x, (f x).id = x.id) (l : List Sgn) (n : Int) : idF (l.map f) n = idF l n := by
  unfold idF; rw [idP_map f hid, List.getElem?_map]
  cases l[idP l n]? with
  | none => rfl
  | some x => simp [hid]
theorem find_map (f : Sgn → Sgn) (hid : ∀ x, (f x).id = x.id) (l : List Sgn) (n : Int) (h : idF l n = true) : (l.map f)[idP (l.map f) n]! = f (l[idP l n]!) := by
  rw [idP_map f hid]
  unfold idF at h
  cases he : l[idP l n]? with
  | none => rw [he] at h; cases h
  | some x => rw [getElem!_def, getElem!_def, List.getElem?_map, he]; rfl

theorem mir_do {k k' : Wrk} {s : Sgn} {b : Bod} (hb : bodB b = true) (hR : rightB s k.roles.length k.clock.bars = true) (h1 : k'.ta = k.ta) (h2 : k'.tc = k.tc) : (doL k' (mirG s s) b).length = (doL k s b).length ∧ ∀ r ∈ doL k s b, hasN (doL k' (mirG s s) b) (mirR r) = 1 := by
  have lim : ∀ top, top ≤ 3 → (s.kind = 3 ∨ s.kind = 4 ∨ s.kind = 5) → (optS k.ta k.tc (mirG s s) top).length = (optS k.ta k.tc s top).length ∧ ∀ r ∈ optS k.ta k.tc s top, hasN (optS k.ta k.tc (mirG s s) top) (mirR r) = 1 := by
    intro top ht hkd
    have hl := right_limb hR hkd
    refine ⟨by rw [optS_len, optS_len]; exact mir_all (s := s) (t := mirG s s) hl.1 hl.2 rfl rfl top ht, ?_⟩
    intro r hr
    obtain ⟨d, v, hd, hv, hvt, hf, rfl⟩ := optS_mem hr
    have hm := mirD_in (d := (d : Int)) (by omega)
    have hf' := mir_fit (ta := k.ta) (tc := k.tc) (s := s) (t := mirG s s) (d := d) (v := v) hl.1 hl.2 (by omega) (by omega) rfl rfl
    have e : ((mirD (d : Int)).toNat : Int) = mirD d := by omega
    have := optS_cnt k.ta k.tc (mirG s s) top (mirD d).toNat v (by omega) hv
    rw [e, hf', hf, if_pos ⟨hvt, rfl⟩] at this
    exact this
  have one : ∀ x y : Rea, mirR x = y → ([y] : List Rea).length = ([x] : List Rea).length ∧ ∀ r ∈ ([x] : List Rea), hasN [y] (mirR r) = 1 := fun x y h => ⟨rfl, fun r hr => by rw [List.mem_singleton.1 hr, h]; exact one_once y⟩
  have trv : ∀ n, s.kind ≠ 6 → (travL (mirG s s) n).length = (travL s n).length ∧ ∀ r ∈ travL s n, hasN (travL (mirG s s) n) (mirR r) = 1 := fun n h6 => by
    have e : (mirG s s).size = s.size := by simp [mirG, h6]
    have e2 : (mirG s s).id = s.id := rfl
    unfold travL
    rw [e, e2]
    split
    · exact ⟨rfl, fun r hr => by cases hr⟩
    · exact one _ _ rfl
  have ht : ∀ i, i < 3 → (topOf b i).toNat ≤ 3 := fun i hi => by have := bod_top hb hi; omega
  have e0 : (mirG s s).kind = s.kind := rfl
  unfold doL
  rw [e0, h1, h2]
  by_cases k1 : s.kind = 1
  · rw [if_pos k1, if_pos k1]; exact trv _ (by omega)
  rw [if_neg k1, if_neg k1]
  by_cases k2 : s.kind = 2
  · rw [if_pos k2, if_pos k2]; exact trv _ (by omega)
  rw [if_neg k2, if_neg k2]
  by_cases k3 : s.kind = 3
  · rw [if_pos k3, if_pos k3]; exact lim _ (ht 0 (by omega)) (by omega)
  rw [if_neg k3, if_neg k3]
  by_cases k4 : s.kind = 4
  · rw [if_pos k4, if_pos k4]; exact lim _ (ht 1 (by omega)) (by omega)
  rw [if_neg k4, if_neg k4]
  by_cases k5 : s.kind = 5
  · rw [if_pos k5, if_pos k5]; exact lim _ (ht 2 (by omega)) (by omega)
  rw [if_neg k5, if_neg k5]
  by_cases k9 : s.kind = 9
  · rw [if_pos k9, if_pos k9]; exact one _ _ rfl
  rw [if_neg k9, if_neg k9]
  exact one _ _ rfl
theorem mir_opt {k k' : Wrk} {s : Sgn} {b : Bod} (hb : bodB b = true) (hR : rightB s k.roles.length k.clock.bars = true) (h1 : k'.ta = k.ta) (h2 : k'.tc = k.tc) : (optL k' (mirG s s) b).length = (optL k s b).length ∧ ∀ r ∈ optL k s b, hasN (optL k' (mirG s s) b) (mirR r) = 1 := by
  obtain ⟨a1, a2⟩ := mir_do (b := b) hb hR h1 h2
  have hdrop : dropL (mirG s s) = dropL s := rfl
  unfold optL
  rw [hdrop]
  refine ⟨by rw [List.length_append, List.length_append, a1], ?_⟩
  intro r hr
  rw [hasN_app]
  rcases List.mem_append.1 hr with hr | hr
  · rw [a2 r hr]
    have hd := doL_drop hr
    have : hasN (dropL s) (mirR r) = 0 := hasN_zero fun hm => by
      have := (dropL_mem hm).1
      have : (mirR r).drop = true := by rw [this]
      have h' : (mirR r).drop = r.drop := rfl
      rw [h', hd] at this; cases this
    rw [this]
  · obtain ⟨rfl, hl⟩ := dropL_mem hr
    have e : mirR ⟨s.id, 0, 0, true⟩ = ⟨s.id, 0, 0, true⟩ := rfl
    rw [e, dropL_yes, hl]
    have : hasN (doL k' (mirG s s) b) ⟨s.id, 0, 0, true⟩ = 0 := hasN_zero fun hm => by
      have := doL_drop hm; cases this
    rw [this]
theorem mark_do (k k' : Wrk) (s : Sgn) (b : Bod) (m : Int) (h1 : k'.ta = k.ta) (h2 : k'.tc = k.tc) : doL k' { s with mark := m } b = doL k s b := by
  unfold doL
  rw [h1, h2]
  rfl
end Go.Proofs.YtggcbblikgankaaDoor
end
