/- The walk of the statement: part 8. -/
import Derived.Test.YtggcbblikgankaaGreatDoorYEf6p7
import Derived.Test.YtggcbblikgankaaGreatDoorYEf6p6
set_option linter.unusedVariables false
set_option linter.unusedSimpArgs false
section
namespace Go.Proofs.YtggcbblikgankaaGreatDoor
open Go Go.RowKit
set_option maxRecDepth 100000 in
set_option maxHeartbeats 8000000 in
theorem sane_last (w W : World) (hB : Below w.heap.size w W) (K1 K2 : Nat) (v3 : Value) (v5 : Value) (v7 : Value) (h3 : IsRow encRea 4 W v3 [⟨3, 1, 2, false⟩]) (h5 : IsRow encRea 4 W v5 [⟨3, 1, 2, false⟩, ⟨3, 2, 2, false⟩, ⟨3, 8, 2, false⟩, ⟨3, 1, 1, false⟩, ⟨3, 1, 3, false⟩]) (h7 : IsRow encRea 4 W v7 [⟨5, 0, 0, true⟩]) (e9 e17 e18 e19 e20 e21 e22 e23 e24 e25 e26 e27 e28 e29 e30 e31 e32 e33 e34 e35 e36 e37 e38 e39 e40 e41 e42 e43 e44 e45 e46 e47 e48 e49 e50 e51 e52 e53 e54 e55 e56 e57 e58 e59 e60 e61 e62 e63 e64 e65 e66 e67 e68 e69 e70 e71 e72 e73 e74 e75 e76 e77 e78 e79 e80 e81 e82 e83 e84 e85 e86 e87 e88 e89 e90 e91 e92 e93 e94 e95 e96 e97 e98 e99 e100 e101 e102 e103 e104 e105 e106 e107 e108 e109 e110 e111 e112 e113 e114 e115 e116 e117 e118 e119 e120 e121 e122 : Value) :
  Code.wp Tryz.prog part13n9 (bodyPost Tryz.prog Tryz.f7 fun e w' => e = .returned (.bool true) ∧ Below w.heap.size w w') { tmps := #[.bool false, .pointer (some ⟨K1, 0, none⟩), .pointer (some ⟨K2, 0, none⟩), v3, .int .i64 0, v5, .int .i64 0, v7, .int .i64 0, e9, .int .i64 300, .int .i64 64, .int .i64 0, .int .i64 4, .int .i64 0, .int .i64 1, .int .i64 0, e17, e18, e19, e20, e21, e22, e23, e24, e25, e26, e27, e28, e29, e30, e31, e32, e33, e34, e35, e36, e37, e38, e39, e40, e41, e42, e43, e44, e45, e46, e47, e48, e49, e50, e51, e52, e53, e54, e55, e56, e57, e58, e59, e60, e61, e62, e63, e64, e65, e66, e67, e68, e69, e70, e71, e72, e73, e74, e75, e76, e77, e78, e79, e80, e81, e82, e83, e84, e85, e86, e87, e88, e89, e90, e91, e92, e93, e94, e95, e96, e97, e98, e99, e100, e101, e102, e103, e104, e105, e106, e107, e108, e109, e110, e111, e112, e113, e114, e115, e116, e117, e118, e119, e120, e121, e122], defers := [] } W := by
 obtain ⟨a3, c3, rfl, _, _⟩ := id h3
 obtain ⟨a5, c5, rfl, _, _⟩ := id h5
 obtain ⟨a7, c7, rfl, _, _⟩ := id h7
 have hbb : Below W.heap.size W (W.alloc (.cells #[.int .i64 3, .int .i64 1, .int .i64 2, .bool false, .int .i64 3, .int .i64 2, .int .i64 2, .bool false, .int .i64 3, .int .i64 8, .int .i64 2, .bool false, .int .i64 3, .int .i64 1, .int .i64 1, .bool false, .int .i64 3, .int .i64 1, .int .i64 3, .bool false] 37)) := (Below.refl _ _).alloc (Nat.le_refl _) _
 have hg := heap_alloc_new W (.cells #[.int .i64 3, .int .i64 1, .int .i64 2, .bool false, .int .i64 3, .int .i64 2, .int .i64 2, .bool false, .int .i64 3, .int .i64 8, .int .i64 2, .bool false, .int .i64 3, .int .i64 1, .int .i64 1, .bool false, .int .i64 3, .int .i64 1, .int .i64 3, .bool false] 37)
 have r5 : IsRow encRea 4 (W.alloc (.cells #[.int .i64 3, .int .i64 1, .int .i64 2, .bool false, .int .i64 3, .int .i64 2, .int .i64 2, .bool false, .int .i64 3, .int .i64 8, .int .i64 2, .bool false, .int .i64 3, .int .i64 1, .int .i64 1, .bool false, .int .i64 3, .int .i64 1, .int .i64 3, .bool false] 37)) (.slice (some ⟨W.heap.size, 0, none⟩) 5 5) [⟨3, 1, 2, false⟩, ⟨3, 2, 2, false⟩, ⟨3, 8, 2, false⟩, ⟨3, 1, 1, false⟩, ⟨3, 1, 3, false⟩] := isRow_block encRea_len hg rfl (by decide) rfl
 have r1 : IsRow encRea 4 (W.alloc (.cells #[.int .i64 3, .int .i64 1, .int .i64 2, .bool false, .int .i64 3, .int .i64 2, .int .i64 2, .bool false, .int .i64 3, .int .i64 8, .int .i64 2, .bool false, .int .i64 3, .int .i64 1, .int .i64 1, .bool false, .int .i64 3, .int .i64 1, .int .i64 3, .bool false] 37)) (.slice (some ⟨W.heap.size, 0, none⟩) 1 5) [⟨3, 1, 2, false⟩] := by
  refine ⟨some ⟨W.heap.size, 0, none⟩, 5, rfl, by decide, Or.inr ⟨W.heap.size, 0, rfl, ?_, by simp⟩⟩
  obtain ⟨b, o, hp, hat, _⟩ := r5.block (i := 0) rfl
  cases hp
  intro i x hx j v hj
  rcases i with _ | i
  ·simp at hx; subst hx
   exact hat 0 _ rfl j v hj
  ·simp at hx
 have g3 := h3.below hbb (Nat.le_refl _)
 have g5 := h5.below hbb (Nat.le_refl _)
 have g7 := h7.below hbb (Nat.le_refl _)
 have s1 := same_any a3 (some ⟨W.heap.size, 0, none⟩) c3 5 [⟨3, 1, 2, false⟩] [⟨3, 1, 2, false⟩] _ g3 r1
 have s2 := fun k => same_any a5 (some ⟨W.heap.size, 0, none⟩) c5 5 [⟨3, 1, 2, false⟩, ⟨3, 2, 2, false⟩, ⟨3, 8, 2, false⟩, ⟨3, 1, 1, false⟩, ⟨3, 1, 3, false⟩] [⟨3, 1, 2, false⟩, ⟨3, 2, 2, false⟩, ⟨3, 8, 2, false⟩, ⟨3, 1, 1, false⟩, ⟨3, 1, 3, false⟩] _ (g5.drewN k) (r5.drewN k)
 rw [decide_eq_true rfl] at s1
 have s2 := fun k => show Calls _ _ _ _ (fun e w' => e = .returned (.bool true) ∧ ∃ k, w' = _) from by have := s2 k; rw [decide_eq_true rfl] at this; exact this
 have HB2 := Lib.hid (hB.alloc hB.size (.cells #[.int .i64 3, .int .i64 1, .int .i64 2, .bool false, .int .i64 3, .int .i64 2, .int .i64 2, .bool false, .int .i64 3, .int .i64 8, .int .i64 2, .bool false, .int .i64 3, .int .i64 1, .int .i64 1, .bool false, .int .i64 3, .int .i64 1, .int .i64 3, .bool false] 37)); have G7 := Lib.hid g7
 have S1 := Lib.hid s1; have S2 := Lib.hid s2
 clear h3 h5 h7 hbb hg r5 r1 g3 g5 g7 s1 s2
 unfold part13n9 code13
 conv => arg 2; whnf
 go_wp2_with fail
 refine S1.out.mono ?_
 rintro e w' ⟨rfl, k, rfl⟩
 go_wp2_with fail
 refine (S2.out k).mono ?_
 rintro e w' ⟨rfl, k2, rfl⟩
 have g7 := (G7.out.drewN k).drewN k2
 have hB4 := below_drewN (below_drewN HB2.out k) k2
 clear S1 S2 HB2 G7
 generalize (((W.alloc (.cells #[.int .i64 3, .int .i64 1, .int .i64 2, .bool false, .int .i64 3, .int .i64 2, .int .i64 2, .bool false, .int .i64 3, .int .i64 8, .int .i64 2, .bool false, .int .i64 3, .int .i64 1, .int .i64 1, .bool false, .int .i64 3, .int .i64 1, .int .i64 3, .bool false] 37)).drewN k).drewN k2) = WW at *
 have hbb : Below WW.heap.size WW (WW.alloc (.cells #[.int .i64 5, .int .i64 0, .int .i64 0, .bool true] 37)) := (Below.refl _ _).alloc (Nat.le_refl _) _
 have hg := heap_alloc_new WW (.cells #[.int .i64 5, .int .i64 0, .int .i64 0, .bool true] 37)
 have r7 : IsRow encRea 4 (WW.alloc (.cells #[.int .i64 5, .int .i64 0, .int .i64 0, .bool true] 37)) (.slice (some ⟨WW.heap.size, 0, none⟩) 1 1) [⟨5, 0, 0, true⟩] := isRow_block encRea_len hg rfl (by decide) rfl
 have s3 := same_any a7 (some ⟨WW.heap.size, 0, none⟩) c7 1 [⟨5, 0, 0, true⟩] [⟨5, 0, 0, true⟩] _ (g7.below hbb (Nat.le_refl _)) r7
 rw [decide_eq_true rfl] at s3
 have S3 := Lib.hid s3
 have B5 := Lib.hid (hB4.alloc hB4.size (.cells #[.int .i64 5, .int .i64 0, .int .i64 0, .bool true] 37))
 clear g7 hB4 hbb hg r7 s3
 go_wp2_with fail
 refine S3.out.mono ?_
 rintro e w' ⟨rfl, k3, rfl⟩
 have B6 := Lib.hid (below_drewN B5.out k3)
 clear S3 B5
 go_wp2_with fail
 go_ret
 exact ⟨rfl, B6.out⟩
end Go.Proofs.YtggcbblikgankaaGreatDoor
end
section
namespace Go.Proofs.YtggcbblikgankaaGreatDoor
open Go Go.RowKit
set_option maxRecDepth 100000 in
set_option maxHeartbeats 8000000 in
theorem sane_head (w : World) (R : Ending → World → Prop) (X : Code)
  (hX : ∀ (W : World) (K1 K2 R1 T1 S1 R2 T2 S2 : Nat) (e3 e4 e5 e6 e7 e8 e9 e10 e11 e12 e13 e14 e15 e16 e17 e18 e19 e20 e21 e22 e23 e24 e25 e26 e27 e28 e29 e30 e31 e32 e33 e34 e35 e36 e37 e38 e39 e40 e41 e42 e43 e44 e45 e46 e47 e48 e49 e50 e51 e52 e53 e54 e55 e56 e57 e58 e59 e60 e61 e62 e63 e64 e65 e66 e67 e68 e69 e70 e71 e72 e73 e74 e75 e76 e77 e78 e79 e80 e81 e82 e83 e84 e85 e86 e87 e88 e89 e90 e91 e92 e93 e94 e95 e96 e97 e98 e99 e100 e101 e102 e103 e104 e105 e106 e107 e108 e109 e110 e111 e112 e113 e114 e115 e116 e117 e118 e119 e120 e121 e122 : Value), SaneAt w W K1 K2 R1 T1 S1 R2 T2 S2 → Code.wp Tryz.prog X (bodyPost Tryz.prog Tryz.f7 R) { tmps := #[.bool false, .pointer (some ⟨K1, 0, none⟩), .pointer (some ⟨K2, 0, none⟩), e3, e4, e5, e6, e7, e8, e9, e10, e11, e12, e13, e14, e15, e16, e17, e18, e19, e20, e21, e22, e23, e24, e25, e26, e27, e28, e29, e30, e31, e32, e33, e34, e35, e36, e37, e38, e39, e40, e41, e42, e43, e44, e45, e46, e47, e48, e49, e50, e51, e52, e53, e54, e55, e56, e57, e58, e59, e60, e61, e62, e63, e64, e65, e66, e67, e68, e69, e70, e71, e72, e73, e74, e75, e76, e77, e78, e79, e80, e81, e82, e83, e84, e85, e86, e87, e88, e89, e90, e91, e92, e93, e94, e95, e96, e97, e98, e99, e100, e101, e102, e103, e104, e105, e106, e107, e108, e109, e110, e111, e112, e113, e114, e115, e116, e117, e118, e119, e120, e121, e122], defers := [] } W) :
  Code.wp Tryz.prog (withLast 2 ((Tryz.f7.body).getD .skip) X) (bodyPost Tryz.prog Tryz.f7 R) { tmps := #[undef, undef, undef, undef, undef, undef, undef, undef, undef, undef, undef, undef, undef, undef, undef, undef, undef, undef, undef, undef, undef, undef, undef, undef, undef, undef, undef, undef, undef, undef, undef, undef, undef, undef, undef, undef, undef, undef, undef, undef, undef, undef, undef, undef, undef, undef, undef, undef, undef, undef, undef, undef, undef, undef, undef, undef, undef, undef, undef, undef, undef, undef, undef, undef, undef, undef, undef, undef, undef, undef, undef, undef, undef, undef, undef, undef, undef, undef, undef, undef, undef, undef, undef, undef, undef, undef, undef, undef, undef, undef, undef, undef, undef, undef, undef, undef, undef, undef, undef, undef, undef, undef, undef, undef, undef, undef, undef, undef, undef, undef, undef, undef, undef, undef, undef, undef, undef, undef, undef, undef, undef, undef, undef], defers := [] } w := by
 have HX := Lib.hid hX; clear hX
 conv => arg 2; whnf
 simp only [withLast]
 go_wp2_with fail
 refine (small_any 1 0 1 w).mono ?_
 rintro e w1 ⟨R1, T1, S1, rfl, hs1, hb1⟩
 have HS1 := Lib.hid hs1; have HB1 := Lib.hid hb1; clear hs1 hb1
 go_wp2_with fail
 refine (small_any 3 4 5 w1).mono ?_
 rintro e w2 ⟨R2, T2, S2, rfl, hs2, hb2⟩
 have hs1 := HS1.out.below hb2
 have B2 := Lib.hid (HB1.out.trans (hb2.mono HB1.out.size))
 obtain ⟨g1, g2, hz, hb⟩ := blocks2 w2 (.cells (smallA 1 0 1 R1 T1 S1) 32) (.cells (smallA 3 4 5 R2 T2 S2) 32)
 have hat : SaneAt w ((w2.alloc (.cells (smallA 1 0 1 R1 T1 S1) 32)).alloc (.cells (smallA 3 4 5 R2 T2 S2) 32)) w2.heap.size (w2.heap.size + 1) R1 T1 S1 R2 T2 S2 := ⟨g1, g2, hs1.below hb, hs2.below hb, B2.out.trans (hb.mono B2.out.size)⟩
 have HAT := Lib.hid hat
 clear HS1 HB1 hs2 hb2 hs1 g1 g2 hz hb hat
 unfold smallV
 unfold smallA at HAT
 go_wp2_with fail
 exact HX.out _ _ _ R1 T1 S1 R2 T2 S2 _ _ _ _ _ _ _ _ _ _ _ _ _ _ _ _ _ _ _ _ _ _ _ _ _ _ _ _ _ _ _ _ _ _ _ _ _ _ _ _ _ _ _ _ _ _ _ _ _ _ _ _ _ _ _ _ _ _ _ _ _ _ _ _ _ _ _ _ _ _ _ _ _ _ _ _ _ _ _ _ _ _ _ _ _ _ _ _ _ _ _ _ _ _ _ _ _ _ _ _ _ _ _ _ _ _ _ _ _ _ _ _ _ _ _ _ _ _ _ _ HAT.out
end Go.Proofs.YtggcbblikgankaaGreatDoor
end
section
namespace Go.Proofs.YtggcbblikgankaaGreatDoor
open Go Go.RowKit
set_option maxRecDepth 100000 in
set_option maxHeartbeats 8000000 in
theorem sane_any (w : World) (hE : Env w) (hz : 2 ≤ w.heap.size) : Calls Tryz.prog 7 #[] w fun e w' => e = .returned (.bool true) ∧ Below w.heap.size w w' := by
 go_enter Tryz.func7, Tryz.ntmps7
 refine sane_head w _ (withLast 1 part13n2 (withLast 1 part13n3 (withLast 1 part13n4 (withLast 1 part13n5 (withLast 1 part13n6 (withLast 1 part13n7 (withLast 1 part13n8 part13n9))))))) ?_
 intro W K1 K2 R1 T1 S1 R2 T2 S2 _ _ _ _ _ _ _ _ _ _ _ _ _ _ _ _ _ _ _ _ _ _ _ _ _ _ _ _ _ _ _ _ _ _ _ _ _ _ _ _ _ _ _ _ _ _ _ _ _ _ _ _ _ _ _ _ _ _ _ _ _ _ _ _ _ _ _ _ _ _ _ _ _ _ _ _ _ _ _ _ _ _ _ _ _ _ _ _ _ _ _ _ _ _ _ _ _ _ _ _ _ _ _ _ _ _ _ _ _ _ _ _ _ _ _ _ _ _ _ _ hA
 refine sane_2 w W K1 K2 R1 T1 S1 R2 T2 S2 hE hz hA _ _ _ _ _ _ _ _ _ _ _ _ _ _ _ _ _ _ _ _ _ _ _ _ _ _ _ _ _ _ _ _ _ _ _ _ _ _ _ _ _ _ _ _ _ _ _ _ _ _ _ _ _ _ _ _ _ _ _ _ _ _ _ _ _ _ _ _ _ _ _ _ _ _ _ _ _ _ _ _ _ _ _ _ _ _ _ _ _ _ _ _ _ _ _ _ _ _ _ _ _ _ _ _ _ _ _ _ _ _ _ _ _ _ _ _ _ _ _ _ (withLast 1 part13n3 (withLast 1 part13n4 (withLast 1 part13n5 (withLast 1 part13n6 (withLast 1 part13n7 (withLast 1 part13n8 part13n9)))))) ?_
 clear hA
 intro W v3 _ _ _ _ _ _ _ _ _ _ _ _ _ _ _ _ _ _ _ _ _ _ _ _ _ _ _ _ _ _ _ _ _ _ _ _ _ _ _ _ _ _ _ _ _ _ _ _ _ _ _ _ _ _ _ _ _ _ _ _ _ _ _ _ _ _ _ _ _ _ _ _ _ _ _ _ _ _ _ _ _ _ _ _ _ _ _ _ _ _ _ _ _ _ _ _ _ _ _ _ _ _ _ _ _ _ _ _ _ _ _ _ _ _ _ _ _ _ hA h3
 refine sane_3 w W K1 K2 R1 T1 S1 R2 T2 S2 hE hz hA v3 h3 _ _ _ _ _ _ _ _ _ _ _ _ _ _ _ _ _ _ _ _ _ _ _ _ _ _ _ _ _ _ _ _ _ _ _ _ _ _ _ _ _ _ _ _ _ _ _ _ _ _ _ _ _ _ _ _ _ _ _ _ _ _ _ _ _ _ _ _ _ _ _ _ _ _ _ _ _ _ _ _ _ _ _ _ _ _ _ _ _ _ _ _ _ _ _ _ _ _ _ _ _ _ _ _ _ _ _ _ _ _ _ _ _ _ _ _ _ _ (withLast 1 part13n4 (withLast 1 part13n5 (withLast 1 part13n6 (withLast 1 part13n7 (withLast 1 part13n8 part13n9))))) ?_
 clear hA h3
 intro W v5 _ _ _ _ _ _ _ _ _ _ _ _ _ _ _ _ _ _ _ _ _ _ _ _ _ _ _ _ _ _ _ _ _ _ _ _ _ _ _ _ _ _ _ _ _ _ _ _ _ _ _ _ _ _ _ _ _ _ _ _ _ _ _ _ _ _ _ _ _ _ _ _ _ _ _ _ _ _ _ _ _ _ _ _ _ _ _ _ _ _ _ _ _ _ _ _ _ _ _ _ _ _ _ _ _ _ _ _ _ _ _ _ _ _ _ _ hA h3 h5
 refine sane_4 w W K1 K2 R1 T1 S1 R2 T2 S2 hE hz hA v3 v5 h3 h5 _ _ _ _ _ _ _ _ _ _ _ _ _ _ _ _ _ _ _ _ _ _ _ _ _ _ _ _ _ _ _ _ _ _ _ _ _ _ _ _ _ _ _ _ _ _ _ _ _ _ _ _ _ _ _ _ _ _ _ _ _ _ _ _ _ _ _ _ _ _ _ _ _ _ _ _ _ _ _ _ _ _ _ _ _ _ _ _ _ _ _ _ _ _ _ _ _ _ _ _ _ _ _ _ _ _ _ _ _ _ _ _ _ _ _ _ (withLast 1 part13n5 (withLast 1 part13n6 (withLast 1 part13n7 (withLast 1 part13n8 part13n9)))) ?_
 clear hA h3 h5
 intro W v7 _ _ _ _ _ _ _ _ _ _ _ _ _ _ _ _ _ _ _ _ _ _ _ _ _ _ _ _ _ _ _ _ _ _ _ _ _ _ _ _ _ _ _ _ _ _ _ _ _ _ _ _ _ _ _ _ _ _ _ _ _ _ _ _ _ _ _ _ _ _ _ _ _ _ _ _ _ _ _ _ _ _ _ _ _ _ _ _ _ _ _ _ _ _ _ _ _ _ _ _ _ _ _ _ _ _ _ _ _ _ _ _ _ _ hA h3 h5 h7
 refine sane_5 w W K1 K2 R1 T1 S1 R2 T2 S2 hE hz hA v3 v5 v7 h3 h5 h7 _ _ _ _ _ _ _ _ _ _ _ _ _ _ _ _ _ _ _ _ _ _ _ _ _ _ _ _ _ _ _ _ _ _ _ _ _ _ _ _ _ _ _ _ _ _ _ _ _ _ _ _ _ _ _ _ _ _ _ _ _ _ _ _ _ _ _ _ _ _ _ _ _ _ _ _ _ _ _ _ _ _ _ _ _ _ _ _ _ _ _ _ _ _ _ _ _ _ _ _ _ _ _ _ _ _ _ _ _ _ _ _ _ _ (withLast 1 part13n6 (withLast 1 part13n7 (withLast 1 part13n8 part13n9))) ?_
 clear hA h3 h5 h7
 intro W _ _ _ _ _ _ _ _ _ _ _ _ _ _ _ _ _ _ _ _ _ _ _ _ _ _ _ _ _ _ _ _ _ _ _ _ _ _ _ _ _ _ _ _ _ _ _ _ _ _ _ _ _ _ _ _ _ _ _ _ _ _ _ _ _ _ _ _ _ _ _ _ _ _ _ _ _ _ _ _ _ _ _ _ _ _ _ _ _ _ _ _ _ _ _ _ _ _ _ _ _ _ _ _ _ _ _ _ _ _ _ _ _ hA h3 h5 h7
 refine sane_6 w W K1 K2 R1 T1 S1 R2 T2 S2 hE hz hA v3 v5 v7 h3 h5 h7 _ _ _ _ _ _ _ _ _ _ _ _ _ _ _ _ _ _ _ _ _ _ _ _ _ _ _ _ _ _ _ _ _ _ _ _ _ _ _ _ _ _ _ _ _ _ _ _ _ _ _ _ _ _ _ _ _ _ _ _ _ _ _ _ _ _ _ _ _ _ _ _ _ _ _ _ _ _ _ _ _ _ _ _ _ _ _ _ _ _ _ _ _ _ _ _ _ _ _ _ _ _ _ _ _ _ _ _ _ _ _ _ _ (withLast 1 part13n7 (withLast 1 part13n8 part13n9)) ?_
 clear hA h3 h5 h7
 intro W _ _ _ _ _ _ _ _ _ _ _ _ _ _ _ _ _ _ _ _ _ _ _ _ _ _ _ _ _ _ _ _ _ _ _ _ _ _ _ _ _ _ _ _ _ _ _ _ _ _ _ _ _ _ _ _ _ _ _ _ _ _ _ _ _ _ _ _ _ _ _ _ _ _ _ _ _ _ _ _ _ _ _ _ _ _ _ _ _ _ _ _ _ _ _ _ _ _ _ _ _ _ _ _ _ _ _ _ _ _ _ hA h3 h5 h7
 refine sane_7 w W K1 K2 R1 T1 S1 R2 T2 S2 hE hz hA v3 v5 v7 h3 h5 h7 _ _ _ _ _ _ _ _ _ _ _ _ _ _ _ _ _ _ _ _ _ _ _ _ _ _ _ _ _ _ _ _ _ _ _ _ _ _ _ _ _ _ _ _ _ _ _ _ _ _ _ _ _ _ _ _ _ _ _ _ _ _ _ _ _ _ _ _ _ _ _ _ _ _ _ _ _ _ _ _ _ _ _ _ _ _ _ _ _ _ _ _ _ _ _ _ _ _ _ _ _ _ _ _ _ _ _ _ _ _ _ (withLast 1 part13n8 part13n9) ?_
 clear hA h3 h5 h7
 intro W _ _ _ _ _ _ _ _ _ _ _ _ _ _ _ _ _ _ _ _ _ _ _ _ _ _ _ _ _ _ _ _ _ _ _ _ _ _ _ _ _ _ _ _ _ _ _ _ _ _ _ _ _ _ _ _ _ _ _ _ _ _ _ _ _ _ _ _ _ _ _ _ _ _ _ _ _ _ _ _ _ _ _ _ _ _ _ _ _ _ _ _ _ _ _ _ _ _ _ _ _ _ _ _ _ _ _ _ _ hA h3 h5 h7
 refine sane_8 w W K1 K2 R1 T1 S1 R2 T2 S2 hE hz hA v3 v5 v7 h3 h5 h7 _ _ _ _ _ _ _ _ _ _ _ _ _ _ _ _ _ _ _ _ _ _ _ _ _ _ _ _ _ _ _ _ _ _ _ _ _ _ _ _ _ _ _ _ _ _ _ _ _ _ _ _ _ _ _ _ _ _ _ _ _ _ _ _ _ _ _ _ _ _ _ _ _ _ _ _ _ _ _ _ _ _ _ _ _ _ _ _ _ _ _ _ _ _ _ _ _ _ _ _ _ _ _ _ _ _ _ _ _ part13n9 ?_
 clear hA h3 h5 h7
 intro W _ _ _ _ _ _ _ _ _ _ _ _ _ _ _ _ _ _ _ _ _ _ _ _ _ _ _ _ _ _ _ _ _ _ _ _ _ _ _ _ _ _ _ _ _ _ _ _ _ _ _ _ _ _ _ _ _ _ _ _ _ _ _ _ _ _ _ _ _ _ _ _ _ _ _ _ _ _ _ _ _ _ _ _ _ _ _ _ _ _ _ _ _ _ _ _ _ _ _ _ _ _ _ _ _ _ _ hA h3 h5 h7
 exact sane_last w W hA.below0 K1 K2 v3 v5 v7 h3 h5 h7 _ _ _ _ _ _ _ _ _ _ _ _ _ _ _ _ _ _ _ _ _ _ _ _ _ _ _ _ _ _ _ _ _ _ _ _ _ _ _ _ _ _ _ _ _ _ _ _ _ _ _ _ _ _ _ _ _ _ _ _ _ _ _ _ _ _ _ _ _ _ _ _ _ _ _ _ _ _ _ _ _ _ _ _ _ _ _ _ _ _ _ _ _ _ _ _ _ _ _ _ _ _ _ _ _ _ _
end Go.Proofs.YtggcbblikgankaaGreatDoor
end
section
set_option linter.unusedSimpArgs false
set_option linter.unusedVariables false
namespace Go.Proofs.YtggcbblikgankaaGreatDoor
open Go Go.RowKit Go.Deep Go.Sort
structure SpecW (w : World) (ws : Array Value) (b : Bod) (r : Rea) (wr : World) : Prop where
 trn : wr.heap[w.heap.size]? = some (.cells ws 32 (0, 0))
 bod : wr.heap[w.heap.size + 1]? = some (.cells #[.string ⟨b.name.toArray⟩, .int .i64 b.weight, .int .i64 b.lift, .int .i64 b.girth, .int .i64 b.step, .int .i64 b.jump, .int .i64 b.r0, .int .i64 b.r1, .int .i64 b.r2, .int .i64 b.s0, .int .i64 b.s1, .int .i64 b.s2, .int .i64 b.t0, .int .i64 b.t1, .int .i64 b.t2, .int .i64 b.effort, .int .i64 b.recover] 35 (0, 0))
 rea : wr.heap[w.heap.size + 1 + 1]? = some (.cells #[.int .i64 r.sign, .int .i64 r.dir, .int .i64 r.level, .bool r.drop] 37 (0, 0))
 below : Below w.heap.size w wr
theorem SpecW.next {w : World} {ws : Array Value} {b : Bod} {r : Rea} {wr w2 : World} (h : SpecW w ws b r wr) (hb : Below wr.heap.size wr w2) : SpecW w ws b r w2 :=
 ⟨(hb.block _ (Array.getElem?_eq_some_iff.1 h.trn).1).trans h.trn, (hb.block _ (Array.getElem?_eq_some_iff.1 h.bod).1).trans h.bod, (hb.block _ (Array.getElem?_eq_some_iff.1 h.rea).1).trans h.rea, h.below.trans (hb.mono h.below.size)⟩
set_option maxRecDepth 100000 in
set_option maxHeartbeats 16000000 in
theorem spec3_any (k : Wrk) (ws : Array Value) (n : Int) (b : Bod) (hbn : b.name.length ≤ maxLen) (r : Rea) (w : World) (hE : Env w) (hz : 2 ≤ w.heap.size) (hWk : WkAt k ws w) : Calls Tryz.prog 3 #[.agg ws, .int .i64 n, bodV b, reaV r] w (trueP w) := by
 have hs32 := hWk.size
 have hsan := fun (W : World) (hb : Below w.heap.size w W) => sane_any W (Env.two hE hz hb) (Nat.le_trans hz hb.size)
 have hfew := fun (W : World) => hWk.few W
 have hopt := fun (W : World) (hb : Below w.heap.size w W) => (hWk.below hb (Nat.le_refl _)).options (Env.two hE hz hb) (Nat.le_trans hz hb.size) n b hbn
 have hrop := fun (W : World) (hb : Below w.heap.size w W) => roptions_any (hWk.below hb (Nat.le_refl _)) n b hbn
 have hcst := fun (W : World) (hb : Below w.heap.size w W) => (hWk.below hb (Nat.le_refl _)).cost (Env.two hE hz hb) n r
 have hrct := fun (W : World) (hb : Below w.heap.size w W) => rcost_any (hWk.below hb (Nat.le_refl _)) n r
 obtain ⟨k0, k1, k2, kz, kb⟩ := blocks3 w (.cells ws 32) (.cells #[.string ⟨b.name.toArray⟩, .int .i64 b.weight, .int .i64 b.lift, .int .i64 b.girth, .int .i64 b.step, .int .i64 b.jump, .int .i64 b.r0, .int .i64 b.r1, .int .i64 b.r2, .int .i64 b.s0, .int .i64 b.s1, .int .i64 b.s2, .int .i64 b.t0, .int .i64 b.t1, .int .i64 b.t2, .int .i64 b.effort, .int .i64 b.recover] 35) (.cells #[.int .i64 r.sign, .int .i64 r.dir, .int .i64 r.level, .bool r.drop] 37)
 have hw0 : SpecW w ws b r (((w.alloc (.cells ws 32)).alloc (.cells #[.string ⟨b.name.toArray⟩, .int .i64 b.weight, .int .i64 b.lift, .int .i64 b.girth, .int .i64 b.step, .int .i64 b.jump, .int .i64 b.r0, .int .i64 b.r1, .int .i64 b.r2, .int .i64 b.s0, .int .i64 b.s1, .int .i64 b.s2, .int .i64 b.t0, .int .i64 b.t1, .int .i64 b.t2, .int .i64 b.effort, .int .i64 b.recover] 35)).alloc (.cells #[.int .i64 r.sign, .int .i64 r.dir, .int .i64 r.level, .bool r.drop] 37)) := ⟨k0, k1, k2, kb⟩
 unfold bodV at hopt hrop
 unfold costR reaV at hcst hrct
 have HS32 := Lib.hid hs32; have HSAN := Lib.hid hsan; have HFEW := Lib.hid hfew; have HOPT := Lib.hid hopt; have HROP := Lib.hid hrop; have HCST := Lib.hid hcst; have HRCT := Lib.hid hrct; have HW0 := Lib.hid hw0
 clear hs32 hsan hfew hopt hrop hcst hrct hw0 k0 k1 k2 kz kb hE hz hWk hbn
 unfold bodV reaV
 go_enter Tryz.func3, Tryz.ntmps3
 go_wp2_with fail
 generalize ((w.alloc (.cells ws 32)).alloc (.cells #[.string ⟨b.name.toArray⟩, .int .i64 b.weight, .int .i64 b.lift, .int .i64 b.girth, .int .i64 b.step, .int .i64 b.jump, .int .i64 b.r0, .int .i64 b.r1, .int .i64 b.r2, .int .i64 b.s0, .int .i64 b.s1, .int .i64 b.s2, .int .i64 b.t0, .int .i64 b.t1, .int .i64 b.t2, .int .i64 b.effort, .int .i64 b.recover] 35)).alloc (.cells #[.int .i64 r.sign, .int .i64 r.dir, .int .i64 r.level, .bool r.drop] 37) = w0 at *
 refine (HSAN.out w0 HW0.out.below).mono ?_
 rintro e w1 ⟨rfl, hb⟩
 have HW1 := Lib.hid (HW0.out.next hb)
 clear hb
 go_wp2_with (refine wpList_load_row rfl 32 _ rfl w.heap.size rfl 32 _ (0, 0) _ (HW1.out).trn Tryz.underlying32 rfl HS32.out ?_; simp only [Act.put, List.setIfInBounds_toArray, List.set_cons_zero, List.set_cons_succ])
 refine (HFEW.out w1).mono ?_
 rintro e w2 ⟨rfl, hb⟩
 have HW2 := Lib.hid (HW1.out.next hb)
 clear hb
 cases hf : fewB k with
 | false =>
  clear hf
  go_wp2_with fail
  go_ret
  exact ⟨rfl, HW2.out.below⟩
 | true =>
 clear hf
 go_wp2_with (first | (refine wpList_load_row rfl 32 _ rfl w.heap.size rfl 32 _ (0, 0) _ (HW2.out).trn Tryz.underlying32 rfl HS32.out ?_; simp only [Act.put, List.setIfInBounds_toArray, List.set_cons_zero, List.set_cons_succ]) | (refine wpList_load_row rfl 35 _ rfl (w.heap.size + 1) rfl 35 _ (0, 0) _ (HW2.out).bod Tryz.underlying35 rfl (by kernel_rfl) ?_; simp only [Act.put, List.setIfInBounds_toArray, List.set_cons_zero, List.set_cons_succ]))
 refine (HOPT.out w2 HW2.out.below).mono ?_
 rintro e w3 ⟨v1, rfl, ho1, hb⟩
 have HW3 := Lib.hid (HW2.out.next hb)
 have HO1 := Lib.hid ho1
 clear hb ho1
 go_wp2_with (first | (refine wpList_load_row rfl 32 _ rfl w.heap.size rfl 32 _ (0, 0) _ (HW3.out).trn Tryz.underlying32 rfl HS32.out ?_; simp only [Act.put, List.setIfInBounds_toArray, List.set_cons_zero, List.set_cons_succ]) | (refine wpList_load_row rfl 35 _ rfl (w.heap.size + 1) rfl 35 _ (0, 0) _ (HW3.out).bod Tryz.underlying35 rfl (by kernel_rfl) ?_; simp only [Act.put, List.setIfInBounds_toArray, List.set_cons_zero, List.set_cons_succ]))
 refine (HROP.out w3 HW3.out.below).mono ?_
 rintro e w4 ⟨v2, rfl, ho2, hb⟩
 have HW4 := Lib.hid (HW3.out.next hb)
 have HO1 := Lib.hid (owns_below HO1.out hb)
 have HO2 := Lib.hid ho2
 clear hb ho2
 go_wp2_with (first | (refine wpList_load_row rfl 32 _ rfl w.heap.size rfl 32 _ (0, 0) _ (HW4.out).trn Tryz.underlying32 rfl HS32.out ?_; simp only [Act.put, List.setIfInBounds_toArray, List.set_cons_zero, List.set_cons_succ]) | (refine wpList_load_row rfl 37 _ rfl (w.heap.size + 1 + 1) rfl 37 _ (0, 0) _ (HW4.out).rea Tryz.underlying37 rfl (by kernel_rfl) ?_; simp only [Act.put, List.setIfInBounds_toArray, List.set_cons_zero, List.set_cons_succ]))
 refine (HCST.out w4 HW4.out.below).mono ?_
 rintro e w5 ⟨rfl, hb⟩
 have HW5 := Lib.hid (HW4.out.next hb)
 have HO1 := Lib.hid (owns_below HO1.out hb)
 have HO2 := Lib.hid (owns_below HO2.out hb)
 clear hb
 go_wp2_with (first | (refine wpList_load_row rfl 32 _ rfl w.heap.size rfl 32 _ (0, 0) _ (HW5.out).trn Tryz.underlying32 rfl HS32.out ?_; simp only [Act.put, List.setIfInBounds_toArray, List.set_cons_zero, List.set_cons_succ]) | (refine wpList_load_row rfl 37 _ rfl (w.heap.size + 1 + 1) rfl 37 _ (0, 0) _ (HW5.out).rea Tryz.underlying37 rfl (by kernel_rfl) ?_; simp only [Act.put, List.setIfInBounds_toArray, List.set_cons_zero, List.set_cons_succ]))
 refine (HRCT.out w5 HW5.out.below).mono ?_
 rintro e w6 ⟨rfl, hb⟩
 have HW6 := Lib.hid (HW5.out.next hb)
 obtain ⟨ao, c, hve, hml, hrw1⟩ := owns_isRow encRea_len (owns_below HO1.out hb) rfl
 obtain ⟨bo, d, hve2, hml2, hrw2⟩ := owns_isRow encRea_len (owns_below HO2.out hb) rfl
 subst hve
 subst hve2
 have hsm := same_any ao bo c d (optR k n b) (optR k n b) w6 ⟨ao, c, rfl, hml, hrw1⟩ ⟨bo, d, rfl, hml2, hrw2⟩
 rw [decide_eq_true (rfl : optR k n b = optR k n b)] at hsm
 have HSM := Lib.hid hsm
 clear hb hsm hml hml2 hrw1 hrw2 HO1 HO2
 generalize (optR k n b).length = N at *
 go_wp2_with fail
 refine HSM.out.mono ?_
 rintro e w7 ⟨rfl, q, rfl⟩
 go_wp2_with fail
 go_ret
 exact ⟨rfl, bel_dn HW6.out.below _⟩
end Go.Proofs.YtggcbblikgankaaGreatDoor
end
