/- The walk of the statement: part 7. -/
import Derived.Test.YtggcbblikgankaaGreatDoorYEf6p6
set_option linter.unusedVariables false
set_option linter.unusedSimpArgs false
section
namespace Go.Proofs.YtggcbblikgankaaGreatDoor
open Go Go.RowKit
noncomputable def code13 : Code := (Tryz.f7.body).getD .skip
noncomputable def part13n2 : Code := lastPart 2 code13
noncomputable def part13n3 : Code := lastPart 3 code13
noncomputable def part13n4 : Code := lastPart 4 code13
noncomputable def part13n5 : Code := lastPart 5 code13
noncomputable def part13n6 : Code := lastPart 6 code13
noncomputable def part13n7 : Code := lastPart 7 code13
noncomputable def part13n8 : Code := lastPart 8 code13
noncomputable def part13n9 : Code := lastPart 9 code13
set_option maxRecDepth 100000 in
set_option maxHeartbeats 8000000 in
theorem sane_2 (w W : World) (K1 K2 R1 T1 S1 R2 T2 S2 : Nat) (hE : Env w) (hz : 2 ≤ w.heap.size) (hA : SaneAt w W K1 K2 R1 T1 S1 R2 T2 S2) (e3 e4 e5 e6 e7 e8 e9 e10 e11 e12 e13 e14 e15 e16 e17 e18 e19 e20 e21 e22 e23 e24 e25 e26 e27 e28 e29 e30 e31 e32 e33 e34 e35 e36 e37 e38 e39 e40 e41 e42 e43 e44 e45 e46 e47 e48 e49 e50 e51 e52 e53 e54 e55 e56 e57 e58 e59 e60 e61 e62 e63 e64 e65 e66 e67 e68 e69 e70 e71 e72 e73 e74 e75 e76 e77 e78 e79 e80 e81 e82 e83 e84 e85 e86 e87 e88 e89 e90 e91 e92 e93 e94 e95 e96 e97 e98 e99 e100 e101 e102 e103 e104 e105 e106 e107 e108 e109 e110 e111 e112 e113 e114 e115 e116 e117 e118 e119 e120 e121 e122 : Value) (X : Code)
  (hX : ∀ (W' : World) (v3 : Value) (e5 e6 e7 e8 e9 e10 e11 e12 e13 e14 e15 e16 e17 e18 e19 e20 e21 e22 e23 e24 e25 e26 e27 e28 e29 e30 e31 e32 e33 e34 e35 e36 e37 e38 e39 e40 e41 e42 e43 e44 e45 e46 e47 e48 e49 e50 e51 e52 e53 e54 e55 e56 e57 e58 e59 e60 e61 e62 e63 e64 e65 e66 e67 e68 e69 e70 e71 e72 e73 e74 e75 e76 e77 e78 e79 e80 e81 e82 e83 e84 e85 e86 e87 e88 e89 e90 e91 e92 e93 e94 e95 e96 e97 e98 e99 e100 e101 e102 e103 e104 e105 e106 e107 e108 e109 e110 e111 e112 e113 e114 e115 e116 e117 e118 e119 e120 e121 e122 : Value), SaneAt w W' K1 K2 R1 T1 S1 R2 T2 S2 → IsRow encRea 4 W' v3 [⟨3, 1, 2, false⟩] → Code.wp Tryz.prog X (bodyPost Tryz.prog Tryz.f7 fun e w' => e = .returned (.bool true) ∧ Below w.heap.size w w') { tmps := #[.bool false, .pointer (some ⟨K1, 0, none⟩), .pointer (some ⟨K2, 0, none⟩), v3, .int .i64 0, e5, e6, e7, e8, e9, e10, e11, e12, e13, e14, e15, e16, e17, e18, e19, e20, e21, e22, e23, e24, e25, e26, e27, e28, e29, e30, e31, e32, e33, e34, e35, e36, e37, e38, e39, e40, e41, e42, e43, e44, e45, e46, e47, e48, e49, e50, e51, e52, e53, e54, e55, e56, e57, e58, e59, e60, e61, e62, e63, e64, e65, e66, e67, e68, e69, e70, e71, e72, e73, e74, e75, e76, e77, e78, e79, e80, e81, e82, e83, e84, e85, e86, e87, e88, e89, e90, e91, e92, e93, e94, e95, e96, e97, e98, e99, e100, e101, e102, e103, e104, e105, e106, e107, e108, e109, e110, e111, e112, e113, e114, e115, e116, e117, e118, e119, e120, e121, e122], defers := [] } W') :
  Code.wp Tryz.prog (withLast 1 part13n2 X) (bodyPost Tryz.prog Tryz.f7 fun e w' => e = .returned (.bool true) ∧ Below w.heap.size w w') { tmps := #[.bool false, .pointer (some ⟨K1, 0, none⟩), .pointer (some ⟨K2, 0, none⟩), e3, e4, e5, e6, e7, e8, e9, e10, e11, e12, e13, e14, e15, e16, e17, e18, e19, e20, e21, e22, e23, e24, e25, e26, e27, e28, e29, e30, e31, e32, e33, e34, e35, e36, e37, e38, e39, e40, e41, e42, e43, e44, e45, e46, e47, e48, e49, e50, e51, e52, e53, e54, e55, e56, e57, e58, e59, e60, e61, e62, e63, e64, e65, e66, e67, e68, e69, e70, e71, e72, e73, e74, e75, e76, e77, e78, e79, e80, e81, e82, e83, e84, e85, e86, e87, e88, e89, e90, e91, e92, e93, e94, e95, e96, e97, e98, e99, e100, e101, e102, e103, e104, e105, e106, e107, e108, e109, e110, e111, e112, e113, e114, e115, e116, e117, e118, e119, e120, e121, e122], defers := [] } W := by
 have p0 : W.cell? ⟨K1, 0, none⟩ = some (.int .i64 20) := cell_at hA.k1 0 rfl
 have p1 : W.cell? ⟨K1, 1, none⟩ = some (.int .i64 20) := cell_at hA.k1 1 rfl
 have p2 : W.cell? ⟨K1, 2, none⟩ = some (.int .i64 1) := cell_at hA.k1 2 rfl
 have p3 : W.cell? ⟨K1, 3, none⟩ = some (.int .i64 0) := cell_at hA.k1 3 rfl
 have p4 : W.cell? ⟨K1, 4, none⟩ = some (.int .i64 1) := cell_at hA.k1 4 rfl
 have p5 : W.cell? ⟨K1, 5, none⟩ = some (.slice (some ⟨R1, 0, none⟩) 1 1) := cell_at hA.k1 5 rfl
 have p6 : W.cell? ⟨K1, 6, none⟩ = some (.int .i64 1) := cell_at hA.k1 6 rfl
 have p7 : W.cell? ⟨K1, 7, none⟩ = some (.slice (some ⟨T1, 0, none⟩) 1 1) := cell_at hA.k1 7 rfl
 have p8 : W.cell? ⟨K1, 8, none⟩ = some (.slice none 0 0) := cell_at hA.k1 8 rfl
 have p9 : W.cell? ⟨K1, 9, none⟩ = some (.slice none 0 0) := cell_at hA.k1 9 rfl
 have p10 : W.cell? ⟨K1, 10, none⟩ = some (.slice (some ⟨S1, 0, none⟩) 2 2) := cell_at hA.k1 10 rfl
 have HA := Lib.hid hA; have HE := Lib.hid hE; have HX := Lib.hid hX
 clear hA hE hX
 unfold part13n2 code13
 conv => arg 2; whnf
 go_wp2_with fail
 go_region_with (first | (go_at_call 32; refine (dancer_any _).mono ?_; rintro e wd ⟨rfl, hbd⟩; have hA2 := HA.out.drew.below hbd; have q0 : wd.cell? ⟨K1, 0, none⟩ = some (.int .i64 20) := cell_at hA2.k1 0 rfl; have q1 : wd.cell? ⟨K1, 1, none⟩ = some (.int .i64 20) := cell_at hA2.k1 1 rfl; have q2 : wd.cell? ⟨K1, 2, none⟩ = some (.int .i64 1) := cell_at hA2.k1 2 rfl; have q3 : wd.cell? ⟨K1, 3, none⟩ = some (.int .i64 0) := cell_at hA2.k1 3 rfl; have q4 : wd.cell? ⟨K1, 4, none⟩ = some (.int .i64 1) := cell_at hA2.k1 4 rfl; have q5 : wd.cell? ⟨K1, 5, none⟩ = some (.slice (some ⟨R1, 0, none⟩) 1 1) := cell_at hA2.k1 5 rfl; have q6 : wd.cell? ⟨K1, 6, none⟩ = some (.int .i64 1) := cell_at hA2.k1 6 rfl; have q7 : wd.cell? ⟨K1, 7, none⟩ = some (.slice (some ⟨T1, 0, none⟩) 1 1) := cell_at hA2.k1 7 rfl; have q8 : wd.cell? ⟨K1, 8, none⟩ = some (.slice none 0 0) := cell_at hA2.k1 8 rfl; have q9 : wd.cell? ⟨K1, 9, none⟩ = some (.slice none 0 0) := cell_at hA2.k1 9 rfl; have q10 : wd.cell? ⟨K1, 10, none⟩ = some (.slice (some ⟨S1, 0, none⟩) 2 2) := cell_at hA2.k1 10 rfl; have HA2 := Lib.hid hA2; clear hA2; have HBD := Lib.hid hbd; clear hbd) | (go_at_call 9; refine (small_options_x 1 0 1 3 _ _ R1 T1 S1 wd (HE.out.two hz HA2.out.below0) (Nat.le_trans hz HA2.out.below0.size) HA2.out.s1 opt1 res1).mono ?_; rintro e wo ⟨v, rfl, ho, hbo⟩; have HA3 := Lib.hid (HA2.out.below hbo); have HO := Lib.hid ho; have HBO := Lib.hid hbo; clear ho hbo))
 all_goals
  have HV := Lib.hid (owns_isRow encRea_len HO.out rfl)
  clear p0 q0 p1 q1 p2 q2 p3 q3 p4 q4 p5 q5 p6 q6 p7 q7 p8 q8 p9 q9 p10 q10
  go_wp2_with fail
  exact HX.out _ _ _ _ _ _ _ _ _ _ _ _ _ _ _ _ _ _ _ _ _ _ _ _ _ _ _ _ _ _ _ _ _ _ _ _ _ _ _ _ _ _ _ _ _ _ _ _ _ _ _ _ _ _ _ _ _ _ _ _ _ _ _ _ _ _ _ _ _ _ _ _ _ _ _ _ _ _ _ _ _ _ _ _ _ _ _ _ _ _ _ _ _ _ _ _ _ _ _ _ _ _ _ _ _ _ _ _ _ _ _ _ _ _ _ _ _ _ _ _ HA3.out HV.out
set_option maxRecDepth 100000 in
set_option maxHeartbeats 8000000 in
theorem sane_3 (w W : World) (K1 K2 R1 T1 S1 R2 T2 S2 : Nat) (hE : Env w) (hz : 2 ≤ w.heap.size) (hA : SaneAt w W K1 K2 R1 T1 S1 R2 T2 S2) (v3 : Value) (h3 : IsRow encRea 4 W v3 [⟨3, 1, 2, false⟩]) (e5 e6 e7 e8 e9 e10 e11 e12 e13 e14 e15 e16 e17 e18 e19 e20 e21 e22 e23 e24 e25 e26 e27 e28 e29 e30 e31 e32 e33 e34 e35 e36 e37 e38 e39 e40 e41 e42 e43 e44 e45 e46 e47 e48 e49 e50 e51 e52 e53 e54 e55 e56 e57 e58 e59 e60 e61 e62 e63 e64 e65 e66 e67 e68 e69 e70 e71 e72 e73 e74 e75 e76 e77 e78 e79 e80 e81 e82 e83 e84 e85 e86 e87 e88 e89 e90 e91 e92 e93 e94 e95 e96 e97 e98 e99 e100 e101 e102 e103 e104 e105 e106 e107 e108 e109 e110 e111 e112 e113 e114 e115 e116 e117 e118 e119 e120 e121 e122 : Value) (X : Code)
  (hX : ∀ (W' : World) (v5 : Value) (e7 e8 e9 e10 e11 e12 e13 e14 e15 e16 e17 e18 e19 e20 e21 e22 e23 e24 e25 e26 e27 e28 e29 e30 e31 e32 e33 e34 e35 e36 e37 e38 e39 e40 e41 e42 e43 e44 e45 e46 e47 e48 e49 e50 e51 e52 e53 e54 e55 e56 e57 e58 e59 e60 e61 e62 e63 e64 e65 e66 e67 e68 e69 e70 e71 e72 e73 e74 e75 e76 e77 e78 e79 e80 e81 e82 e83 e84 e85 e86 e87 e88 e89 e90 e91 e92 e93 e94 e95 e96 e97 e98 e99 e100 e101 e102 e103 e104 e105 e106 e107 e108 e109 e110 e111 e112 e113 e114 e115 e116 e117 e118 e119 e120 e121 e122 : Value), SaneAt w W' K1 K2 R1 T1 S1 R2 T2 S2 → IsRow encRea 4 W' v3 [⟨3, 1, 2, false⟩] → IsRow encRea 4 W' v5 [⟨3, 1, 2, false⟩, ⟨3, 2, 2, false⟩, ⟨3, 8, 2, false⟩, ⟨3, 1, 1, false⟩, ⟨3, 1, 3, false⟩] → Code.wp Tryz.prog X (bodyPost Tryz.prog Tryz.f7 fun e w' => e = .returned (.bool true) ∧ Below w.heap.size w w') { tmps := #[.bool false, .pointer (some ⟨K1, 0, none⟩), .pointer (some ⟨K2, 0, none⟩), v3, .int .i64 0, v5, .int .i64 0, e7, e8, e9, e10, e11, e12, e13, e14, e15, e16, e17, e18, e19, e20, e21, e22, e23, e24, e25, e26, e27, e28, e29, e30, e31, e32, e33, e34, e35, e36, e37, e38, e39, e40, e41, e42, e43, e44, e45, e46, e47, e48, e49, e50, e51, e52, e53, e54, e55, e56, e57, e58, e59, e60, e61, e62, e63, e64, e65, e66, e67, e68, e69, e70, e71, e72, e73, e74, e75, e76, e77, e78, e79, e80, e81, e82, e83, e84, e85, e86, e87, e88, e89, e90, e91, e92, e93, e94, e95, e96, e97, e98, e99, e100, e101, e102, e103, e104, e105, e106, e107, e108, e109, e110, e111, e112, e113, e114, e115, e116, e117, e118, e119, e120, e121, e122], defers := [] } W') :
  Code.wp Tryz.prog (withLast 1 part13n3 X) (bodyPost Tryz.prog Tryz.f7 fun e w' => e = .returned (.bool true) ∧ Below w.heap.size w w') { tmps := #[.bool false, .pointer (some ⟨K1, 0, none⟩), .pointer (some ⟨K2, 0, none⟩), v3, .int .i64 0, e5, e6, e7, e8, e9, e10, e11, e12, e13, e14, e15, e16, e17, e18, e19, e20, e21, e22, e23, e24, e25, e26, e27, e28, e29, e30, e31, e32, e33, e34, e35, e36, e37, e38, e39, e40, e41, e42, e43, e44, e45, e46, e47, e48, e49, e50, e51, e52, e53, e54, e55, e56, e57, e58, e59, e60, e61, e62, e63, e64, e65, e66, e67, e68, e69, e70, e71, e72, e73, e74, e75, e76, e77, e78, e79, e80, e81, e82, e83, e84, e85, e86, e87, e88, e89, e90, e91, e92, e93, e94, e95, e96, e97, e98, e99, e100, e101, e102, e103, e104, e105, e106, e107, e108, e109, e110, e111, e112, e113, e114, e115, e116, e117, e118, e119, e120, e121, e122], defers := [] } W := by
 have H3 := Lib.hid h3
 clear h3
 have p0 : W.cell? ⟨K2, 0, none⟩ = some (.int .i64 20) := cell_at hA.k2 0 rfl
 have p1 : W.cell? ⟨K2, 1, none⟩ = some (.int .i64 20) := cell_at hA.k2 1 rfl
 have p2 : W.cell? ⟨K2, 2, none⟩ = some (.int .i64 3) := cell_at hA.k2 2 rfl
 have p3 : W.cell? ⟨K2, 3, none⟩ = some (.int .i64 4) := cell_at hA.k2 3 rfl
 have p4 : W.cell? ⟨K2, 4, none⟩ = some (.int .i64 5) := cell_at hA.k2 4 rfl
 have p5 : W.cell? ⟨K2, 5, none⟩ = some (.slice (some ⟨R2, 0, none⟩) 1 1) := cell_at hA.k2 5 rfl
 have p6 : W.cell? ⟨K2, 6, none⟩ = some (.int .i64 1) := cell_at hA.k2 6 rfl
 have p7 : W.cell? ⟨K2, 7, none⟩ = some (.slice (some ⟨T2, 0, none⟩) 1 1) := cell_at hA.k2 7 rfl
 have p8 : W.cell? ⟨K2, 8, none⟩ = some (.slice none 0 0) := cell_at hA.k2 8 rfl
 have p9 : W.cell? ⟨K2, 9, none⟩ = some (.slice none 0 0) := cell_at hA.k2 9 rfl
 have p10 : W.cell? ⟨K2, 10, none⟩ = some (.slice (some ⟨S2, 0, none⟩) 2 2) := cell_at hA.k2 10 rfl
 have HA := Lib.hid hA; have HE := Lib.hid hE; have HX := Lib.hid hX
 clear hA hE hX
 unfold part13n3 code13
 conv => arg 2; whnf
 go_wp2_with fail
 go_region_with (first | (go_at_call 32; refine (dancer_any _).mono ?_; rintro e wd ⟨rfl, hbd⟩; have hA2 := HA.out.drew.below hbd; have q0 : wd.cell? ⟨K2, 0, none⟩ = some (.int .i64 20) := cell_at hA2.k2 0 rfl; have q1 : wd.cell? ⟨K2, 1, none⟩ = some (.int .i64 20) := cell_at hA2.k2 1 rfl; have q2 : wd.cell? ⟨K2, 2, none⟩ = some (.int .i64 3) := cell_at hA2.k2 2 rfl; have q3 : wd.cell? ⟨K2, 3, none⟩ = some (.int .i64 4) := cell_at hA2.k2 3 rfl; have q4 : wd.cell? ⟨K2, 4, none⟩ = some (.int .i64 5) := cell_at hA2.k2 4 rfl; have q5 : wd.cell? ⟨K2, 5, none⟩ = some (.slice (some ⟨R2, 0, none⟩) 1 1) := cell_at hA2.k2 5 rfl; have q6 : wd.cell? ⟨K2, 6, none⟩ = some (.int .i64 1) := cell_at hA2.k2 6 rfl; have q7 : wd.cell? ⟨K2, 7, none⟩ = some (.slice (some ⟨T2, 0, none⟩) 1 1) := cell_at hA2.k2 7 rfl; have q8 : wd.cell? ⟨K2, 8, none⟩ = some (.slice none 0 0) := cell_at hA2.k2 8 rfl; have q9 : wd.cell? ⟨K2, 9, none⟩ = some (.slice none 0 0) := cell_at hA2.k2 9 rfl; have q10 : wd.cell? ⟨K2, 10, none⟩ = some (.slice (some ⟨S2, 0, none⟩) 2 2) := cell_at hA2.k2 10 rfl; have HA2 := Lib.hid hA2; clear hA2; have HBD := Lib.hid hbd; clear hbd) | (go_at_call 9; refine (small_options_x 3 4 5 3 _ _ R2 T2 S2 wd (HE.out.two hz HA2.out.below0) (Nat.le_trans hz HA2.out.below0.size) HA2.out.s2 opt2 res2).mono ?_; rintro e wo ⟨v, rfl, ho, hbo⟩; have HA3 := Lib.hid (HA2.out.below hbo); have HO := Lib.hid ho; have HBO := Lib.hid hbo; clear ho hbo))
 all_goals
  have H3b := Lib.hid (((H3.out.below (Below.drew (Below.refl _ W)) (Nat.le_refl _)).below HBD.out (Nat.le_refl _)).below HBO.out (Nat.le_refl _))
  have HV := Lib.hid (owns_isRow encRea_len HO.out rfl)
  clear p0 q0 p1 q1 p2 q2 p3 q3 p4 q4 p5 q5 p6 q6 p7 q7 p8 q8 p9 q9 p10 q10
  go_wp2_with fail
  exact HX.out _ _ _ _ _ _ _ _ _ _ _ _ _ _ _ _ _ _ _ _ _ _ _ _ _ _ _ _ _ _ _ _ _ _ _ _ _ _ _ _ _ _ _ _ _ _ _ _ _ _ _ _ _ _ _ _ _ _ _ _ _ _ _ _ _ _ _ _ _ _ _ _ _ _ _ _ _ _ _ _ _ _ _ _ _ _ _ _ _ _ _ _ _ _ _ _ _ _ _ _ _ _ _ _ _ _ _ _ _ _ _ _ _ _ _ _ _ _ HA3.out H3b.out HV.out
set_option maxRecDepth 100000 in
set_option maxHeartbeats 8000000 in
theorem sane_4 (w W : World) (K1 K2 R1 T1 S1 R2 T2 S2 : Nat) (hE : Env w) (hz : 2 ≤ w.heap.size) (hA : SaneAt w W K1 K2 R1 T1 S1 R2 T2 S2) (v3 : Value) (v5 : Value) (h3 : IsRow encRea 4 W v3 [⟨3, 1, 2, false⟩]) (h5 : IsRow encRea 4 W v5 [⟨3, 1, 2, false⟩, ⟨3, 2, 2, false⟩, ⟨3, 8, 2, false⟩, ⟨3, 1, 1, false⟩, ⟨3, 1, 3, false⟩]) (e7 e8 e9 e10 e11 e12 e13 e14 e15 e16 e17 e18 e19 e20 e21 e22 e23 e24 e25 e26 e27 e28 e29 e30 e31 e32 e33 e34 e35 e36 e37 e38 e39 e40 e41 e42 e43 e44 e45 e46 e47 e48 e49 e50 e51 e52 e53 e54 e55 e56 e57 e58 e59 e60 e61 e62 e63 e64 e65 e66 e67 e68 e69 e70 e71 e72 e73 e74 e75 e76 e77 e78 e79 e80 e81 e82 e83 e84 e85 e86 e87 e88 e89 e90 e91 e92 e93 e94 e95 e96 e97 e98 e99 e100 e101 e102 e103 e104 e105 e106 e107 e108 e109 e110 e111 e112 e113 e114 e115 e116 e117 e118 e119 e120 e121 e122 : Value) (X : Code)
  (hX : ∀ (W' : World) (v7 : Value) (e9 e10 e11 e12 e13 e14 e15 e16 e17 e18 e19 e20 e21 e22 e23 e24 e25 e26 e27 e28 e29 e30 e31 e32 e33 e34 e35 e36 e37 e38 e39 e40 e41 e42 e43 e44 e45 e46 e47 e48 e49 e50 e51 e52 e53 e54 e55 e56 e57 e58 e59 e60 e61 e62 e63 e64 e65 e66 e67 e68 e69 e70 e71 e72 e73 e74 e75 e76 e77 e78 e79 e80 e81 e82 e83 e84 e85 e86 e87 e88 e89 e90 e91 e92 e93 e94 e95 e96 e97 e98 e99 e100 e101 e102 e103 e104 e105 e106 e107 e108 e109 e110 e111 e112 e113 e114 e115 e116 e117 e118 e119 e120 e121 e122 : Value), SaneAt w W' K1 K2 R1 T1 S1 R2 T2 S2 → IsRow encRea 4 W' v3 [⟨3, 1, 2, false⟩] → IsRow encRea 4 W' v5 [⟨3, 1, 2, false⟩, ⟨3, 2, 2, false⟩, ⟨3, 8, 2, false⟩, ⟨3, 1, 1, false⟩, ⟨3, 1, 3, false⟩] → IsRow encRea 4 W' v7 [⟨5, 0, 0, true⟩] → Code.wp Tryz.prog X (bodyPost Tryz.prog Tryz.f7 fun e w' => e = .returned (.bool true) ∧ Below w.heap.size w w') { tmps := #[.bool false, .pointer (some ⟨K1, 0, none⟩), .pointer (some ⟨K2, 0, none⟩), v3, .int .i64 0, v5, .int .i64 0, v7, .int .i64 0, e9, e10, e11, e12, e13, e14, e15, e16, e17, e18, e19, e20, e21, e22, e23, e24, e25, e26, e27, e28, e29, e30, e31, e32, e33, e34, e35, e36, e37, e38, e39, e40, e41, e42, e43, e44, e45, e46, e47, e48, e49, e50, e51, e52, e53, e54, e55, e56, e57, e58, e59, e60, e61, e62, e63, e64, e65, e66, e67, e68, e69, e70, e71, e72, e73, e74, e75, e76, e77, e78, e79, e80, e81, e82, e83, e84, e85, e86, e87, e88, e89, e90, e91, e92, e93, e94, e95, e96, e97, e98, e99, e100, e101, e102, e103, e104, e105, e106, e107, e108, e109, e110, e111, e112, e113, e114, e115, e116, e117, e118, e119, e120, e121, e122], defers := [] } W') :
  Code.wp Tryz.prog (withLast 1 part13n4 X) (bodyPost Tryz.prog Tryz.f7 fun e w' => e = .returned (.bool true) ∧ Below w.heap.size w w') { tmps := #[.bool false, .pointer (some ⟨K1, 0, none⟩), .pointer (some ⟨K2, 0, none⟩), v3, .int .i64 0, v5, .int .i64 0, e7, e8, e9, e10, e11, e12, e13, e14, e15, e16, e17, e18, e19, e20, e21, e22, e23, e24, e25, e26, e27, e28, e29, e30, e31, e32, e33, e34, e35, e36, e37, e38, e39, e40, e41, e42, e43, e44, e45, e46, e47, e48, e49, e50, e51, e52, e53, e54, e55, e56, e57, e58, e59, e60, e61, e62, e63, e64, e65, e66, e67, e68, e69, e70, e71, e72, e73, e74, e75, e76, e77, e78, e79, e80, e81, e82, e83, e84, e85, e86, e87, e88, e89, e90, e91, e92, e93, e94, e95, e96, e97, e98, e99, e100, e101, e102, e103, e104, e105, e106, e107, e108, e109, e110, e111, e112, e113, e114, e115, e116, e117, e118, e119, e120, e121, e122], defers := [] } W := by
 have H3 := Lib.hid h3
 have H5 := Lib.hid h5
 clear h3 h5
 have p0 : W.cell? ⟨K1, 0, none⟩ = some (.int .i64 20) := cell_at hA.k1 0 rfl
 have p1 : W.cell? ⟨K1, 1, none⟩ = some (.int .i64 20) := cell_at hA.k1 1 rfl
 have p2 : W.cell? ⟨K1, 2, none⟩ = some (.int .i64 1) := cell_at hA.k1 2 rfl
 have p3 : W.cell? ⟨K1, 3, none⟩ = some (.int .i64 0) := cell_at hA.k1 3 rfl
 have p4 : W.cell? ⟨K1, 4, none⟩ = some (.int .i64 1) := cell_at hA.k1 4 rfl
 have p5 : W.cell? ⟨K1, 5, none⟩ = some (.slice (some ⟨R1, 0, none⟩) 1 1) := cell_at hA.k1 5 rfl
 have p6 : W.cell? ⟨K1, 6, none⟩ = some (.int .i64 1) := cell_at hA.k1 6 rfl
 have p7 : W.cell? ⟨K1, 7, none⟩ = some (.slice (some ⟨T1, 0, none⟩) 1 1) := cell_at hA.k1 7 rfl
 have p8 : W.cell? ⟨K1, 8, none⟩ = some (.slice none 0 0) := cell_at hA.k1 8 rfl
 have p9 : W.cell? ⟨K1, 9, none⟩ = some (.slice none 0 0) := cell_at hA.k1 9 rfl
 have p10 : W.cell? ⟨K1, 10, none⟩ = some (.slice (some ⟨S1, 0, none⟩) 2 2) := cell_at hA.k1 10 rfl
 have HA := Lib.hid hA; have HE := Lib.hid hE; have HX := Lib.hid hX
 clear hA hE hX
 unfold part13n4 code13
 conv => arg 2; whnf
 go_wp2_with fail
 go_region_with (first | (go_at_call 32; refine (dancer_any _).mono ?_; rintro e wd ⟨rfl, hbd⟩; have hA2 := HA.out.drew.below hbd; have q0 : wd.cell? ⟨K1, 0, none⟩ = some (.int .i64 20) := cell_at hA2.k1 0 rfl; have q1 : wd.cell? ⟨K1, 1, none⟩ = some (.int .i64 20) := cell_at hA2.k1 1 rfl; have q2 : wd.cell? ⟨K1, 2, none⟩ = some (.int .i64 1) := cell_at hA2.k1 2 rfl; have q3 : wd.cell? ⟨K1, 3, none⟩ = some (.int .i64 0) := cell_at hA2.k1 3 rfl; have q4 : wd.cell? ⟨K1, 4, none⟩ = some (.int .i64 1) := cell_at hA2.k1 4 rfl; have q5 : wd.cell? ⟨K1, 5, none⟩ = some (.slice (some ⟨R1, 0, none⟩) 1 1) := cell_at hA2.k1 5 rfl; have q6 : wd.cell? ⟨K1, 6, none⟩ = some (.int .i64 1) := cell_at hA2.k1 6 rfl; have q7 : wd.cell? ⟨K1, 7, none⟩ = some (.slice (some ⟨T1, 0, none⟩) 1 1) := cell_at hA2.k1 7 rfl; have q8 : wd.cell? ⟨K1, 8, none⟩ = some (.slice none 0 0) := cell_at hA2.k1 8 rfl; have q9 : wd.cell? ⟨K1, 9, none⟩ = some (.slice none 0 0) := cell_at hA2.k1 9 rfl; have q10 : wd.cell? ⟨K1, 10, none⟩ = some (.slice (some ⟨S1, 0, none⟩) 2 2) := cell_at hA2.k1 10 rfl; have HA2 := Lib.hid hA2; clear hA2; have HBD := Lib.hid hbd; clear hbd) | (go_at_call 9; refine (small_options_x 1 0 1 5 _ _ R1 T1 S1 wd (HE.out.two hz HA2.out.below0) (Nat.le_trans hz HA2.out.below0.size) HA2.out.s1 opt3 res3).mono ?_; rintro e wo ⟨v, rfl, ho, hbo⟩; have HA3 := Lib.hid (HA2.out.below hbo); have HO := Lib.hid ho; have HBO := Lib.hid hbo; clear ho hbo))
 all_goals
  have H3b := Lib.hid (((H3.out.below (Below.drew (Below.refl _ W)) (Nat.le_refl _)).below HBD.out (Nat.le_refl _)).below HBO.out (Nat.le_refl _))
  have H5b := Lib.hid (((H5.out.below (Below.drew (Below.refl _ W)) (Nat.le_refl _)).below HBD.out (Nat.le_refl _)).below HBO.out (Nat.le_refl _))
  have HV := Lib.hid (owns_isRow encRea_len HO.out rfl)
  clear p0 q0 p1 q1 p2 q2 p3 q3 p4 q4 p5 q5 p6 q6 p7 q7 p8 q8 p9 q9 p10 q10
  go_wp2_with fail
  exact HX.out _ _ _ _ _ _ _ _ _ _ _ _ _ _ _ _ _ _ _ _ _ _ _ _ _ _ _ _ _ _ _ _ _ _ _ _ _ _ _ _ _ _ _ _ _ _ _ _ _ _ _ _ _ _ _ _ _ _ _ _ _ _ _ _ _ _ _ _ _ _ _ _ _ _ _ _ _ _ _ _ _ _ _ _ _ _ _ _ _ _ _ _ _ _ _ _ _ _ _ _ _ _ _ _ _ _ _ _ _ _ _ _ _ _ _ _ HA3.out H3b.out H5b.out HV.out
set_option maxRecDepth 100000 in
set_option maxHeartbeats 8000000 in
theorem sane_5 (w W : World) (K1 K2 R1 T1 S1 R2 T2 S2 : Nat) (hE : Env w) (hz : 2 ≤ w.heap.size) (hA : SaneAt w W K1 K2 R1 T1 S1 R2 T2 S2) (v3 : Value) (v5 : Value) (v7 : Value) (h3 : IsRow encRea 4 W v3 [⟨3, 1, 2, false⟩]) (h5 : IsRow encRea 4 W v5 [⟨3, 1, 2, false⟩, ⟨3, 2, 2, false⟩, ⟨3, 8, 2, false⟩, ⟨3, 1, 1, false⟩, ⟨3, 1, 3, false⟩]) (h7 : IsRow encRea 4 W v7 [⟨5, 0, 0, true⟩]) (e9 e10 e11 e12 e13 e14 e15 e16 e17 e18 e19 e20 e21 e22 e23 e24 e25 e26 e27 e28 e29 e30 e31 e32 e33 e34 e35 e36 e37 e38 e39 e40 e41 e42 e43 e44 e45 e46 e47 e48 e49 e50 e51 e52 e53 e54 e55 e56 e57 e58 e59 e60 e61 e62 e63 e64 e65 e66 e67 e68 e69 e70 e71 e72 e73 e74 e75 e76 e77 e78 e79 e80 e81 e82 e83 e84 e85 e86 e87 e88 e89 e90 e91 e92 e93 e94 e95 e96 e97 e98 e99 e100 e101 e102 e103 e104 e105 e106 e107 e108 e109 e110 e111 e112 e113 e114 e115 e116 e117 e118 e119 e120 e121 e122 : Value) (X : Code)
  (hX : ∀ (W' : World) (e9 e11 e12 e13 e14 e15 e16 e17 e18 e19 e20 e21 e22 e23 e24 e25 e26 e27 e28 e29 e30 e31 e32 e33 e34 e35 e36 e37 e38 e39 e40 e41 e42 e43 e44 e45 e46 e47 e48 e49 e50 e51 e52 e53 e54 e55 e56 e57 e58 e59 e60 e61 e62 e63 e64 e65 e66 e67 e68 e69 e70 e71 e72 e73 e74 e75 e76 e77 e78 e79 e80 e81 e82 e83 e84 e85 e86 e87 e88 e89 e90 e91 e92 e93 e94 e95 e96 e97 e98 e99 e100 e101 e102 e103 e104 e105 e106 e107 e108 e109 e110 e111 e112 e113 e114 e115 e116 e117 e118 e119 e120 e121 e122 : Value), SaneAt w W' K1 K2 R1 T1 S1 R2 T2 S2 → IsRow encRea 4 W' v3 [⟨3, 1, 2, false⟩] → IsRow encRea 4 W' v5 [⟨3, 1, 2, false⟩, ⟨3, 2, 2, false⟩, ⟨3, 8, 2, false⟩, ⟨3, 1, 1, false⟩, ⟨3, 1, 3, false⟩] → IsRow encRea 4 W' v7 [⟨5, 0, 0, true⟩] → Code.wp Tryz.prog X (bodyPost Tryz.prog Tryz.f7 fun e w' => e = .returned (.bool true) ∧ Below w.heap.size w w') { tmps := #[.bool false, .pointer (some ⟨K1, 0, none⟩), .pointer (some ⟨K2, 0, none⟩), v3, .int .i64 0, v5, .int .i64 0, v7, .int .i64 0, e9, .int .i64 300, e11, e12, e13, e14, e15, e16, e17, e18, e19, e20, e21, e22, e23, e24, e25, e26, e27, e28, e29, e30, e31, e32, e33, e34, e35, e36, e37, e38, e39, e40, e41, e42, e43, e44, e45, e46, e47, e48, e49, e50, e51, e52, e53, e54, e55, e56, e57, e58, e59, e60, e61, e62, e63, e64, e65, e66, e67, e68, e69, e70, e71, e72, e73, e74, e75, e76, e77, e78, e79, e80, e81, e82, e83, e84, e85, e86, e87, e88, e89, e90, e91, e92, e93, e94, e95, e96, e97, e98, e99, e100, e101, e102, e103, e104, e105, e106, e107, e108, e109, e110, e111, e112, e113, e114, e115, e116, e117, e118, e119, e120, e121, e122], defers := [] } W') :
  Code.wp Tryz.prog (withLast 1 part13n5 X) (bodyPost Tryz.prog Tryz.f7 fun e w' => e = .returned (.bool true) ∧ Below w.heap.size w w') { tmps := #[.bool false, .pointer (some ⟨K1, 0, none⟩), .pointer (some ⟨K2, 0, none⟩), v3, .int .i64 0, v5, .int .i64 0, v7, .int .i64 0, e9, e10, e11, e12, e13, e14, e15, e16, e17, e18, e19, e20, e21, e22, e23, e24, e25, e26, e27, e28, e29, e30, e31, e32, e33, e34, e35, e36, e37, e38, e39, e40, e41, e42, e43, e44, e45, e46, e47, e48, e49, e50, e51, e52, e53, e54, e55, e56, e57, e58, e59, e60, e61, e62, e63, e64, e65, e66, e67, e68, e69, e70, e71, e72, e73, e74, e75, e76, e77, e78, e79, e80, e81, e82, e83, e84, e85, e86, e87, e88, e89, e90, e91, e92, e93, e94, e95, e96, e97, e98, e99, e100, e101, e102, e103, e104, e105, e106, e107, e108, e109, e110, e111, e112, e113, e114, e115, e116, e117, e118, e119, e120, e121, e122], defers := [] } W := by
 have H3 := Lib.hid h3
 have H5 := Lib.hid h5
 have H7 := Lib.hid h7
 clear h3 h5 h7
 have p0 : W.cell? ⟨K1, 0, none⟩ = some (.int .i64 20) := cell_at hA.k1 0 rfl
 have p1 : W.cell? ⟨K1, 1, none⟩ = some (.int .i64 20) := cell_at hA.k1 1 rfl
 have p2 : W.cell? ⟨K1, 2, none⟩ = some (.int .i64 1) := cell_at hA.k1 2 rfl
 have p3 : W.cell? ⟨K1, 3, none⟩ = some (.int .i64 0) := cell_at hA.k1 3 rfl
 have p4 : W.cell? ⟨K1, 4, none⟩ = some (.int .i64 1) := cell_at hA.k1 4 rfl
 have p5 : W.cell? ⟨K1, 5, none⟩ = some (.slice (some ⟨R1, 0, none⟩) 1 1) := cell_at hA.k1 5 rfl
 have p6 : W.cell? ⟨K1, 6, none⟩ = some (.int .i64 1) := cell_at hA.k1 6 rfl
 have p7 : W.cell? ⟨K1, 7, none⟩ = some (.slice (some ⟨T1, 0, none⟩) 1 1) := cell_at hA.k1 7 rfl
 have p8 : W.cell? ⟨K1, 8, none⟩ = some (.slice none 0 0) := cell_at hA.k1 8 rfl
 have p9 : W.cell? ⟨K1, 9, none⟩ = some (.slice none 0 0) := cell_at hA.k1 9 rfl
 have p10 : W.cell? ⟨K1, 10, none⟩ = some (.slice (some ⟨S1, 0, none⟩) 2 2) := cell_at hA.k1 10 rfl
 have HA := Lib.hid hA; have HE := Lib.hid hE; have HX := Lib.hid hX
 clear hA hE hX
 unfold part13n5 code13
 conv => arg 2; whnf
 go_wp2_with fail
 go_region_with (first | (go_at_call 32; refine (dancer_any _).mono ?_; rintro e wd ⟨rfl, hbd⟩; have hA2 := HA.out.drew.below hbd; have q0 : wd.cell? ⟨K1, 0, none⟩ = some (.int .i64 20) := cell_at hA2.k1 0 rfl; have q1 : wd.cell? ⟨K1, 1, none⟩ = some (.int .i64 20) := cell_at hA2.k1 1 rfl; have q2 : wd.cell? ⟨K1, 2, none⟩ = some (.int .i64 1) := cell_at hA2.k1 2 rfl; have q3 : wd.cell? ⟨K1, 3, none⟩ = some (.int .i64 0) := cell_at hA2.k1 3 rfl; have q4 : wd.cell? ⟨K1, 4, none⟩ = some (.int .i64 1) := cell_at hA2.k1 4 rfl; have q5 : wd.cell? ⟨K1, 5, none⟩ = some (.slice (some ⟨R1, 0, none⟩) 1 1) := cell_at hA2.k1 5 rfl; have q6 : wd.cell? ⟨K1, 6, none⟩ = some (.int .i64 1) := cell_at hA2.k1 6 rfl; have q7 : wd.cell? ⟨K1, 7, none⟩ = some (.slice (some ⟨T1, 0, none⟩) 1 1) := cell_at hA2.k1 7 rfl; have q8 : wd.cell? ⟨K1, 8, none⟩ = some (.slice none 0 0) := cell_at hA2.k1 8 rfl; have q9 : wd.cell? ⟨K1, 9, none⟩ = some (.slice none 0 0) := cell_at hA2.k1 9 rfl; have q10 : wd.cell? ⟨K1, 10, none⟩ = some (.slice (some ⟨S1, 0, none⟩) 2 2) := cell_at hA2.k1 10 rfl; have HA2 := Lib.hid hA2; clear hA2; have HBD := Lib.hid hbd; clear hbd) | (go_at_call 9; refine (small_options_x 1 0 1 4 _ _ R1 T1 S1 wd (HE.out.two hz HA2.out.below0) (Nat.le_trans hz HA2.out.below0.size) HA2.out.s1 opt4 res4).mono ?_; rintro e wo ⟨v, rfl, ho, hbo⟩; have HA3 := Lib.hid (HA2.out.below hbo); have HO := Lib.hid ho; have HBO := Lib.hid hbo; clear ho hbo))
 all_goals
  have H3b := Lib.hid (((H3.out.below (Below.drew (Below.refl _ W)) (Nat.le_refl _)).below HBD.out (Nat.le_refl _)).below HBO.out (Nat.le_refl _))
  have H5b := Lib.hid (((H5.out.below (Below.drew (Below.refl _ W)) (Nat.le_refl _)).below HBD.out (Nat.le_refl _)).below HBO.out (Nat.le_refl _))
  have H7b := Lib.hid (((H7.out.below (Below.drew (Below.refl _ W)) (Nat.le_refl _)).below HBD.out (Nat.le_refl _)).below HBO.out (Nat.le_refl _))
  clear p0 q0 p1 q1 p2 q2 p3 q3 p4 q4 p5 q5 p6 q6 p7 q7 p8 q8 p9 q9 p10 q10
  go_wp2_with fail
  exact HX.out _ _ _ _ _ _ _ _ _ _ _ _ _ _ _ _ _ _ _ _ _ _ _ _ _ _ _ _ _ _ _ _ _ _ _ _ _ _ _ _ _ _ _ _ _ _ _ _ _ _ _ _ _ _ _ _ _ _ _ _ _ _ _ _ _ _ _ _ _ _ _ _ _ _ _ _ _ _ _ _ _ _ _ _ _ _ _ _ _ _ _ _ _ _ _ _ _ _ _ _ _ _ _ _ _ _ _ _ _ _ _ _ _ _ HA3.out H3b.out H5b.out H7b.out
set_option maxRecDepth 100000 in
set_option maxHeartbeats 8000000 in
theorem sane_6 (w W : World) (K1 K2 R1 T1 S1 R2 T2 S2 : Nat) (hE : Env w) (hz : 2 ≤ w.heap.size) (hA : SaneAt w W K1 K2 R1 T1 S1 R2 T2 S2) (v3 : Value) (v5 : Value) (v7 : Value) (h3 : IsRow encRea 4 W v3 [⟨3, 1, 2, false⟩]) (h5 : IsRow encRea 4 W v5 [⟨3, 1, 2, false⟩, ⟨3, 2, 2, false⟩, ⟨3, 8, 2, false⟩, ⟨3, 1, 1, false⟩, ⟨3, 1, 3, false⟩]) (h7 : IsRow encRea 4 W v7 [⟨5, 0, 0, true⟩]) (e9 e11 e12 e13 e14 e15 e16 e17 e18 e19 e20 e21 e22 e23 e24 e25 e26 e27 e28 e29 e30 e31 e32 e33 e34 e35 e36 e37 e38 e39 e40 e41 e42 e43 e44 e45 e46 e47 e48 e49 e50 e51 e52 e53 e54 e55 e56 e57 e58 e59 e60 e61 e62 e63 e64 e65 e66 e67 e68 e69 e70 e71 e72 e73 e74 e75 e76 e77 e78 e79 e80 e81 e82 e83 e84 e85 e86 e87 e88 e89 e90 e91 e92 e93 e94 e95 e96 e97 e98 e99 e100 e101 e102 e103 e104 e105 e106 e107 e108 e109 e110 e111 e112 e113 e114 e115 e116 e117 e118 e119 e120 e121 e122 : Value) (X : Code)
  (hX : ∀ (W' : World) (e9 e13 e14 e15 e16 e17 e18 e19 e20 e21 e22 e23 e24 e25 e26 e27 e28 e29 e30 e31 e32 e33 e34 e35 e36 e37 e38 e39 e40 e41 e42 e43 e44 e45 e46 e47 e48 e49 e50 e51 e52 e53 e54 e55 e56 e57 e58 e59 e60 e61 e62 e63 e64 e65 e66 e67 e68 e69 e70 e71 e72 e73 e74 e75 e76 e77 e78 e79 e80 e81 e82 e83 e84 e85 e86 e87 e88 e89 e90 e91 e92 e93 e94 e95 e96 e97 e98 e99 e100 e101 e102 e103 e104 e105 e106 e107 e108 e109 e110 e111 e112 e113 e114 e115 e116 e117 e118 e119 e120 e121 e122 : Value), SaneAt w W' K1 K2 R1 T1 S1 R2 T2 S2 → IsRow encRea 4 W' v3 [⟨3, 1, 2, false⟩] → IsRow encRea 4 W' v5 [⟨3, 1, 2, false⟩, ⟨3, 2, 2, false⟩, ⟨3, 8, 2, false⟩, ⟨3, 1, 1, false⟩, ⟨3, 1, 3, false⟩] → IsRow encRea 4 W' v7 [⟨5, 0, 0, true⟩] → Code.wp Tryz.prog X (bodyPost Tryz.prog Tryz.f7 fun e w' => e = .returned (.bool true) ∧ Below w.heap.size w w') { tmps := #[.bool false, .pointer (some ⟨K1, 0, none⟩), .pointer (some ⟨K2, 0, none⟩), v3, .int .i64 0, v5, .int .i64 0, v7, .int .i64 0, e9, .int .i64 300, .int .i64 64, .int .i64 0, e13, e14, e15, e16, e17, e18, e19, e20, e21, e22, e23, e24, e25, e26, e27, e28, e29, e30, e31, e32, e33, e34, e35, e36, e37, e38, e39, e40, e41, e42, e43, e44, e45, e46, e47, e48, e49, e50, e51, e52, e53, e54, e55, e56, e57, e58, e59, e60, e61, e62, e63, e64, e65, e66, e67, e68, e69, e70, e71, e72, e73, e74, e75, e76, e77, e78, e79, e80, e81, e82, e83, e84, e85, e86, e87, e88, e89, e90, e91, e92, e93, e94, e95, e96, e97, e98, e99, e100, e101, e102, e103, e104, e105, e106, e107, e108, e109, e110, e111, e112, e113, e114, e115, e116, e117, e118, e119, e120, e121, e122], defers := [] } W') :
  Code.wp Tryz.prog (withLast 1 part13n6 X) (bodyPost Tryz.prog Tryz.f7 fun e w' => e = .returned (.bool true) ∧ Below w.heap.size w w') { tmps := #[.bool false, .pointer (some ⟨K1, 0, none⟩), .pointer (some ⟨K2, 0, none⟩), v3, .int .i64 0, v5, .int .i64 0, v7, .int .i64 0, e9, .int .i64 300, e11, e12, e13, e14, e15, e16, e17, e18, e19, e20, e21, e22, e23, e24, e25, e26, e27, e28, e29, e30, e31, e32, e33, e34, e35, e36, e37, e38, e39, e40, e41, e42, e43, e44, e45, e46, e47, e48, e49, e50, e51, e52, e53, e54, e55, e56, e57, e58, e59, e60, e61, e62, e63, e64, e65, e66, e67, e68, e69, e70, e71, e72, e73, e74, e75, e76, e77, e78, e79, e80, e81, e82, e83, e84, e85, e86, e87, e88, e89, e90, e91, e92, e93, e94, e95, e96, e97, e98, e99, e100, e101, e102, e103, e104, e105, e106, e107, e108, e109, e110, e111, e112, e113, e114, e115, e116, e117, e118, e119, e120, e121, e122], defers := [] } W := by
 have H3 := Lib.hid h3
 have H5 := Lib.hid h5
 have H7 := Lib.hid h7
 clear h3 h5 h7
 have hK := hA.k1
 have HKK := Lib.hid hK
 have hcc := small_cost_x 1 0 1 3 64 ⟨3, 0, 0, true⟩ R1 T1 S1 W (hE.two hz hA.below0) hA.s1 cost1
 have HCC := Lib.hid hcc
 have HA := Lib.hid hA; have HX := Lib.hid hX
 clear hA hE hX hK hcc
 unfold part13n6 code13
 conv => arg 2; whnf
 go_wp2_with (refine wpList_load_row rfl 32 _ rfl K1 rfl 32 _ (0, 0) _ HKK.out Tryz.underlying32 rfl (by kernel_rfl) ?_; simp only [Act.put, List.setIfInBounds_toArray, List.set_cons_zero, List.set_cons_succ])
 refine HCC.out.mono ?_
 rintro e wo ⟨rfl, hbo⟩
 have HA3 := Lib.hid (HA.out.below hbo)
 have H3b := Lib.hid (H3.out.below hbo (Nat.le_refl _))
 have H5b := Lib.hid (H5.out.below hbo (Nat.le_refl _))
 have H7b := Lib.hid (H7.out.below hbo (Nat.le_refl _))
 clear hbo
 go_wp2_with fail
 exact HX.out _ _ _ _ _ _ _ _ _ _ _ _ _ _ _ _ _ _ _ _ _ _ _ _ _ _ _ _ _ _ _ _ _ _ _ _ _ _ _ _ _ _ _ _ _ _ _ _ _ _ _ _ _ _ _ _ _ _ _ _ _ _ _ _ _ _ _ _ _ _ _ _ _ _ _ _ _ _ _ _ _ _ _ _ _ _ _ _ _ _ _ _ _ _ _ _ _ _ _ _ _ _ _ _ _ _ _ _ _ _ _ _ HA3.out H3b.out H5b.out H7b.out
set_option maxRecDepth 100000 in
set_option maxHeartbeats 8000000 in
theorem sane_7 (w W : World) (K1 K2 R1 T1 S1 R2 T2 S2 : Nat) (hE : Env w) (hz : 2 ≤ w.heap.size) (hA : SaneAt w W K1 K2 R1 T1 S1 R2 T2 S2) (v3 : Value) (v5 : Value) (v7 : Value) (h3 : IsRow encRea 4 W v3 [⟨3, 1, 2, false⟩]) (h5 : IsRow encRea 4 W v5 [⟨3, 1, 2, false⟩, ⟨3, 2, 2, false⟩, ⟨3, 8, 2, false⟩, ⟨3, 1, 1, false⟩, ⟨3, 1, 3, false⟩]) (h7 : IsRow encRea 4 W v7 [⟨5, 0, 0, true⟩]) (e9 e13 e14 e15 e16 e17 e18 e19 e20 e21 e22 e23 e24 e25 e26 e27 e28 e29 e30 e31 e32 e33 e34 e35 e36 e37 e38 e39 e40 e41 e42 e43 e44 e45 e46 e47 e48 e49 e50 e51 e52 e53 e54 e55 e56 e57 e58 e59 e60 e61 e62 e63 e64 e65 e66 e67 e68 e69 e70 e71 e72 e73 e74 e75 e76 e77 e78 e79 e80 e81 e82 e83 e84 e85 e86 e87 e88 e89 e90 e91 e92 e93 e94 e95 e96 e97 e98 e99 e100 e101 e102 e103 e104 e105 e106 e107 e108 e109 e110 e111 e112 e113 e114 e115 e116 e117 e118 e119 e120 e121 e122 : Value) (X : Code)
  (hX : ∀ (W' : World) (e9 e15 e16 e17 e18 e19 e20 e21 e22 e23 e24 e25 e26 e27 e28 e29 e30 e31 e32 e33 e34 e35 e36 e37 e38 e39 e40 e41 e42 e43 e44 e45 e46 e47 e48 e49 e50 e51 e52 e53 e54 e55 e56 e57 e58 e59 e60 e61 e62 e63 e64 e65 e66 e67 e68 e69 e70 e71 e72 e73 e74 e75 e76 e77 e78 e79 e80 e81 e82 e83 e84 e85 e86 e87 e88 e89 e90 e91 e92 e93 e94 e95 e96 e97 e98 e99 e100 e101 e102 e103 e104 e105 e106 e107 e108 e109 e110 e111 e112 e113 e114 e115 e116 e117 e118 e119 e120 e121 e122 : Value), SaneAt w W' K1 K2 R1 T1 S1 R2 T2 S2 → IsRow encRea 4 W' v3 [⟨3, 1, 2, false⟩] → IsRow encRea 4 W' v5 [⟨3, 1, 2, false⟩, ⟨3, 2, 2, false⟩, ⟨3, 8, 2, false⟩, ⟨3, 1, 1, false⟩, ⟨3, 1, 3, false⟩] → IsRow encRea 4 W' v7 [⟨5, 0, 0, true⟩] → Code.wp Tryz.prog X (bodyPost Tryz.prog Tryz.f7 fun e w' => e = .returned (.bool true) ∧ Below w.heap.size w w') { tmps := #[.bool false, .pointer (some ⟨K1, 0, none⟩), .pointer (some ⟨K2, 0, none⟩), v3, .int .i64 0, v5, .int .i64 0, v7, .int .i64 0, e9, .int .i64 300, .int .i64 64, .int .i64 0, .int .i64 4, .int .i64 0, e15, e16, e17, e18, e19, e20, e21, e22, e23, e24, e25, e26, e27, e28, e29, e30, e31, e32, e33, e34, e35, e36, e37, e38, e39, e40, e41, e42, e43, e44, e45, e46, e47, e48, e49, e50, e51, e52, e53, e54, e55, e56, e57, e58, e59, e60, e61, e62, e63, e64, e65, e66, e67, e68, e69, e70, e71, e72, e73, e74, e75, e76, e77, e78, e79, e80, e81, e82, e83, e84, e85, e86, e87, e88, e89, e90, e91, e92, e93, e94, e95, e96, e97, e98, e99, e100, e101, e102, e103, e104, e105, e106, e107, e108, e109, e110, e111, e112, e113, e114, e115, e116, e117, e118, e119, e120, e121, e122], defers := [] } W') :
  Code.wp Tryz.prog (withLast 1 part13n7 X) (bodyPost Tryz.prog Tryz.f7 fun e w' => e = .returned (.bool true) ∧ Below w.heap.size w w') { tmps := #[.bool false, .pointer (some ⟨K1, 0, none⟩), .pointer (some ⟨K2, 0, none⟩), v3, .int .i64 0, v5, .int .i64 0, v7, .int .i64 0, e9, .int .i64 300, .int .i64 64, .int .i64 0, e13, e14, e15, e16, e17, e18, e19, e20, e21, e22, e23, e24, e25, e26, e27, e28, e29, e30, e31, e32, e33, e34, e35, e36, e37, e38, e39, e40, e41, e42, e43, e44, e45, e46, e47, e48, e49, e50, e51, e52, e53, e54, e55, e56, e57, e58, e59, e60, e61, e62, e63, e64, e65, e66, e67, e68, e69, e70, e71, e72, e73, e74, e75, e76, e77, e78, e79, e80, e81, e82, e83, e84, e85, e86, e87, e88, e89, e90, e91, e92, e93, e94, e95, e96, e97, e98, e99, e100, e101, e102, e103, e104, e105, e106, e107, e108, e109, e110, e111, e112, e113, e114, e115, e116, e117, e118, e119, e120, e121, e122], defers := [] } W := by
 have H3 := Lib.hid h3
 have H5 := Lib.hid h5
 have H7 := Lib.hid h7
 clear h3 h5 h7
 have hK := hA.k1
 have HKK := Lib.hid hK
 have hcc := small_cost_x 1 0 1 5 4 ⟨5, 0, 0, true⟩ R1 T1 S1 W (hE.two hz hA.below0) hA.s1 cost2
 have HCC := Lib.hid hcc
 have HA := Lib.hid hA; have HX := Lib.hid hX
 clear hA hE hX hK hcc
 unfold part13n7 code13
 conv => arg 2; whnf
 go_wp2_with (refine wpList_load_row rfl 32 _ rfl K1 rfl 32 _ (0, 0) _ HKK.out Tryz.underlying32 rfl (by kernel_rfl) ?_; simp only [Act.put, List.setIfInBounds_toArray, List.set_cons_zero, List.set_cons_succ])
 refine HCC.out.mono ?_
 rintro e wo ⟨rfl, hbo⟩
 have HA3 := Lib.hid (HA.out.below hbo)
 have H3b := Lib.hid (H3.out.below hbo (Nat.le_refl _))
 have H5b := Lib.hid (H5.out.below hbo (Nat.le_refl _))
 have H7b := Lib.hid (H7.out.below hbo (Nat.le_refl _))
 clear hbo
 go_wp2_with fail
 exact HX.out _ _ _ _ _ _ _ _ _ _ _ _ _ _ _ _ _ _ _ _ _ _ _ _ _ _ _ _ _ _ _ _ _ _ _ _ _ _ _ _ _ _ _ _ _ _ _ _ _ _ _ _ _ _ _ _ _ _ _ _ _ _ _ _ _ _ _ _ _ _ _ _ _ _ _ _ _ _ _ _ _ _ _ _ _ _ _ _ _ _ _ _ _ _ _ _ _ _ _ _ _ _ _ _ _ _ _ _ _ _ HA3.out H3b.out H5b.out H7b.out
set_option maxRecDepth 100000 in
set_option maxHeartbeats 8000000 in
theorem sane_8 (w W : World) (K1 K2 R1 T1 S1 R2 T2 S2 : Nat) (hE : Env w) (hz : 2 ≤ w.heap.size) (hA : SaneAt w W K1 K2 R1 T1 S1 R2 T2 S2) (v3 : Value) (v5 : Value) (v7 : Value) (h3 : IsRow encRea 4 W v3 [⟨3, 1, 2, false⟩]) (h5 : IsRow encRea 4 W v5 [⟨3, 1, 2, false⟩, ⟨3, 2, 2, false⟩, ⟨3, 8, 2, false⟩, ⟨3, 1, 1, false⟩, ⟨3, 1, 3, false⟩]) (h7 : IsRow encRea 4 W v7 [⟨5, 0, 0, true⟩]) (e9 e15 e16 e17 e18 e19 e20 e21 e22 e23 e24 e25 e26 e27 e28 e29 e30 e31 e32 e33 e34 e35 e36 e37 e38 e39 e40 e41 e42 e43 e44 e45 e46 e47 e48 e49 e50 e51 e52 e53 e54 e55 e56 e57 e58 e59 e60 e61 e62 e63 e64 e65 e66 e67 e68 e69 e70 e71 e72 e73 e74 e75 e76 e77 e78 e79 e80 e81 e82 e83 e84 e85 e86 e87 e88 e89 e90 e91 e92 e93 e94 e95 e96 e97 e98 e99 e100 e101 e102 e103 e104 e105 e106 e107 e108 e109 e110 e111 e112 e113 e114 e115 e116 e117 e118 e119 e120 e121 e122 : Value) (X : Code)
  (hX : ∀ (W' : World) (e9 e17 e18 e19 e20 e21 e22 e23 e24 e25 e26 e27 e28 e29 e30 e31 e32 e33 e34 e35 e36 e37 e38 e39 e40 e41 e42 e43 e44 e45 e46 e47 e48 e49 e50 e51 e52 e53 e54 e55 e56 e57 e58 e59 e60 e61 e62 e63 e64 e65 e66 e67 e68 e69 e70 e71 e72 e73 e74 e75 e76 e77 e78 e79 e80 e81 e82 e83 e84 e85 e86 e87 e88 e89 e90 e91 e92 e93 e94 e95 e96 e97 e98 e99 e100 e101 e102 e103 e104 e105 e106 e107 e108 e109 e110 e111 e112 e113 e114 e115 e116 e117 e118 e119 e120 e121 e122 : Value), SaneAt w W' K1 K2 R1 T1 S1 R2 T2 S2 → IsRow encRea 4 W' v3 [⟨3, 1, 2, false⟩] → IsRow encRea 4 W' v5 [⟨3, 1, 2, false⟩, ⟨3, 2, 2, false⟩, ⟨3, 8, 2, false⟩, ⟨3, 1, 1, false⟩, ⟨3, 1, 3, false⟩] → IsRow encRea 4 W' v7 [⟨5, 0, 0, true⟩] → Code.wp Tryz.prog X (bodyPost Tryz.prog Tryz.f7 fun e w' => e = .returned (.bool true) ∧ Below w.heap.size w w') { tmps := #[.bool false, .pointer (some ⟨K1, 0, none⟩), .pointer (some ⟨K2, 0, none⟩), v3, .int .i64 0, v5, .int .i64 0, v7, .int .i64 0, e9, .int .i64 300, .int .i64 64, .int .i64 0, .int .i64 4, .int .i64 0, .int .i64 1, .int .i64 0, e17, e18, e19, e20, e21, e22, e23, e24, e25, e26, e27, e28, e29, e30, e31, e32, e33, e34, e35, e36, e37, e38, e39, e40, e41, e42, e43, e44, e45, e46, e47, e48, e49, e50, e51, e52, e53, e54, e55, e56, e57, e58, e59, e60, e61, e62, e63, e64, e65, e66, e67, e68, e69, e70, e71, e72, e73, e74, e75, e76, e77, e78, e79, e80, e81, e82, e83, e84, e85, e86, e87, e88, e89, e90, e91, e92, e93, e94, e95, e96, e97, e98, e99, e100, e101, e102, e103, e104, e105, e106, e107, e108, e109, e110, e111, e112, e113, e114, e115, e116, e117, e118, e119, e120, e121, e122], defers := [] } W') :
  Code.wp Tryz.prog (withLast 1 part13n8 X) (bodyPost Tryz.prog Tryz.f7 fun e w' => e = .returned (.bool true) ∧ Below w.heap.size w w') { tmps := #[.bool false, .pointer (some ⟨K1, 0, none⟩), .pointer (some ⟨K2, 0, none⟩), v3, .int .i64 0, v5, .int .i64 0, v7, .int .i64 0, e9, .int .i64 300, .int .i64 64, .int .i64 0, .int .i64 4, .int .i64 0, e15, e16, e17, e18, e19, e20, e21, e22, e23, e24, e25, e26, e27, e28, e29, e30, e31, e32, e33, e34, e35, e36, e37, e38, e39, e40, e41, e42, e43, e44, e45, e46, e47, e48, e49, e50, e51, e52, e53, e54, e55, e56, e57, e58, e59, e60, e61, e62, e63, e64, e65, e66, e67, e68, e69, e70, e71, e72, e73, e74, e75, e76, e77, e78, e79, e80, e81, e82, e83, e84, e85, e86, e87, e88, e89, e90, e91, e92, e93, e94, e95, e96, e97, e98, e99, e100, e101, e102, e103, e104, e105, e106, e107, e108, e109, e110, e111, e112, e113, e114, e115, e116, e117, e118, e119, e120, e121, e122], defers := [] } W := by
 have H3 := Lib.hid h3
 have H5 := Lib.hid h5
 have H7 := Lib.hid h7
 clear h3 h5 h7
 have hK := hA.k2
 have HKK := Lib.hid hK
 have hcc := small_cost_x 3 4 5 3 1 ⟨3, 2, 2, false⟩ R2 T2 S2 W (hE.two hz hA.below0) hA.s2 cost3
 have HCC := Lib.hid hcc
 have HA := Lib.hid hA; have HX := Lib.hid hX
 clear hA hE hX hK hcc
 unfold part13n8 code13
 conv => arg 2; whnf
 go_wp2_with (refine wpList_load_row rfl 32 _ rfl K2 rfl 32 _ (0, 0) _ HKK.out Tryz.underlying32 rfl (by kernel_rfl) ?_; simp only [Act.put, List.setIfInBounds_toArray, List.set_cons_zero, List.set_cons_succ])
 refine HCC.out.mono ?_
 rintro e wo ⟨rfl, hbo⟩
 have HA3 := Lib.hid (HA.out.below hbo)
 have H3b := Lib.hid (H3.out.below hbo (Nat.le_refl _))
 have H5b := Lib.hid (H5.out.below hbo (Nat.le_refl _))
 have H7b := Lib.hid (H7.out.below hbo (Nat.le_refl _))
 clear hbo
 go_wp2_with fail
 exact HX.out _ _ _ _ _ _ _ _ _ _ _ _ _ _ _ _ _ _ _ _ _ _ _ _ _ _ _ _ _ _ _ _ _ _ _ _ _ _ _ _ _ _ _ _ _ _ _ _ _ _ _ _ _ _ _ _ _ _ _ _ _ _ _ _ _ _ _ _ _ _ _ _ _ _ _ _ _ _ _ _ _ _ _ _ _ _ _ _ _ _ _ _ _ _ _ _ _ _ _ _ _ _ _ _ _ _ _ _ HA3.out H3b.out H5b.out H7b.out
end Go.Proofs.YtggcbblikgankaaGreatDoor
end
