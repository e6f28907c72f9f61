/- The walk of the statement: part 1. -/
import Derived.Test.YtggcbblikgankaaDoorZ33
import Derived.Test.YtggcbblikgankaaDoorZ4
set_option linter.unusedVariables false
set_option linter.unusedSimpArgs false
section
/- The head of function 3: boxes, sane, pick, guards, Options. -/
namespace Go.Proofs.YtggcbblikgankaaDoor
open Go Go.RowKit

noncomputable def code3 : Code := (Tryd.f3.body).getD .skip
set_option maxRecDepth 100000 in
set_option maxHeartbeats 8000000 in
theorem pick_3 (k : Wrk) (b : Bod) (n : Nat) (hn : n < 65536) (ws : Array Value)  (w : World) (hE : Env w) (hz2 : 2 ≤ w.heap.size) (hW : WkAt k ws w) (R : Ending → World → Prop) (X : Code)
    (hX : ∀ (w3 : World) (K : Nat) (e0 e1 e2 e4 e6 e9 e10 e11 e12 e13 e14 e15 e16 e17 e18 e19 e20 e21 e22 e23 e24 e25 e26 e27 e28 e29 e30 e31 e32 e33 e34 e35 e36 e37 e38 e39 e40 e41 e42 e43 e44 e45 e46 e47 e48 e49 e50 e51 e52 e53 e54 e55 e56 e57 e58 e59 e60 e61 e62 e63 e64 e65 e66 e67 e68 e69 e70 e71 e72 e73 e74 e75 e76 e77 e78 e79 e80 e81 e82 e83 e84 e85 e86 e87 e88 e89 e90 e91 e92 e93 e94 e95 e96 e97 e98 e99 e100 e101 e102 e103 e104 e105 e106 e107 e108 e109 e110 e111 e112 e113 e114 e115 e116 e117 e118 e119 e120 e121 e122 e123 e124 e125 e126 e127 e128 e129 e130 e131 e132 e133 e134 e135 e136 e137 e138 e139 e140 e141 e142 e143 e144 e145 e146 e147 e148 e149 e150 e151 e152 e153 e154 e155 e156 e157 e158 e159 e160 e161 e162 e163 e164 e165 e166 e167 e168 e169 e170 e171 e172 e173 e174 e175 e176 e177 e178 e179 e180 e181 e182 e183 e184 e185 e186 e187 e188 : Value), Below w.heap.size w w3 → w3.heap[w.heap.size]? = some (.cells ws 32 (0, 0)) → w3.heap[w.heap.size + 1]? = some (.cells (bodCells b) 36 (0, 0)) → w3.heap[K]? = some (.cells (pickA k.signs n) 41 (0, 0)) → w.heap.size + 2 ≤ K → Code.wp Tryd.prog X (bodyPost Tryd.prog Tryd.f3 R) { tmps := #[e0, e1, e2, .pointer (some ⟨w.heap.size, 0, none⟩), e4, .pointer (some ⟨w.heap.size + 1, 0, none⟩), e6, .pointer (some ⟨K, 0, none⟩), .bool (decide (k.signs ≠ [])), e9, e10, e11, e12, e13, e14, e15, e16, e17, e18, e19, e20, e21, e22, e23, e24, e25, e26, e27, e28, e29, e30, e31, e32, e33, e34, e35, e36, e37, e38, e39, e40, e41, e42, e43, e44, e45, e46, e47, e48, e49, e50, e51, e52, e53, e54, e55, e56, e57, e58, e59, e60, e61, e62, e63, e64, e65, e66, e67, e68, e69, e70, e71, e72, e73, e74, e75, e76, e77, e78, e79, e80, e81, e82, e83, e84, e85, e86, e87, e88, e89, e90, e91, e92, e93, e94, e95, e96, e97, e98, e99, e100, e101, e102, e103, e104, e105, e106, e107, e108, e109, e110, e111, e112, e113, e114, e115, e116, e117, e118, e119, e120, e121, e122, e123, e124, e125, e126, e127, e128, e129, e130, e131, e132, e133, e134, e135, e136, e137, e138, e139, e140, e141, e142, e143, e144, e145, e146, e147, e148, e149, e150, e151, e152, e153, e154, e155, e156, e157, e158, e159, e160, e161, e162, e163, e164, e165, e166, e167, e168, e169, e170, e171, e172, e173, e174, e175, e176, e177, e178, e179, e180, e181, e182, e183, e184, e185, e186, e187, e188], defers := [] } w3) :
    Code.wp Tryd.prog (withLast 3 code3 X) (bodyPost Tryd.prog Tryd.f3 R) { tmps := #[.agg ws, .int .u16 n, bodV b, undef, undef, undef, undef, undef, undef, undef, undef, undef, undef, undef, undef, undef, undef, undef, undef, undef, undef, undef, undef, undef, undef, undef, undef, undef, undef, undef, undef, undef, undef, undef, undef, undef, undef, undef, undef, undef, undef, undef, undef, undef, undef, undef, undef, undef, undef, undef, undef, undef, undef, undef, undef, undef, undef, undef, undef, undef, undef, undef, undef, undef, undef, undef, undef, undef, undef, undef, undef, undef, undef, undef, undef, undef, undef, undef, undef, undef, undef, undef, undef, undef, undef, undef, undef, undef, undef, undef, undef, undef, undef, undef, undef, undef, undef, undef, undef, undef, undef, undef, undef, undef, undef, undef, undef, undef, undef, undef, undef, undef, undef, undef, undef, undef, undef, undef, undef, undef, undef, undef, undef, undef, undef, undef, undef, undef, undef, undef, undef, undef, undef, undef, undef, undef, undef, undef, undef, undef, undef, undef, undef, undef, undef, undef, undef, undef, undef, undef, undef, undef, undef, undef, undef, undef, undef, undef, undef, undef, undef, undef, undef, undef, undef, undef, undef, undef, undef, undef, undef, undef, undef, undef, undef, undef, undef, undef, undef, undef, undef, undef, undef, undef, undef, undef, undef, undef, undef], defers := [] } w := by
  have hs := hW.size
  obtain ⟨g0, g1, hz, hb⟩ := blocks2 w (.cells ws 32) (.cells (bodCells b) 36)
  have hbv : bodV b = .agg (bodCells b) := rfl
  rw [hbv]
  have hp := fun (W : World) (hB : Below w.heap.size w W) => (hW.below hB (Nat.le_refl _)).pick n hn
  have hsn := fun (W : World) (hB : Below w.heap.size w W) (h : 2 ≤ W.heap.size) => sane_any W (hE.below hB) h
  have HS := Lib.hid hs; have G0 := Lib.hid g0; have G1 := Lib.hid g1; have HZ := Lib.hid hz; have HB := Lib.hid hb; have HP := Lib.hid hp; have HSN := Lib.hid hsn; have HX := Lib.hid hX; have HZ2 := Lib.hid hz2
  have HSA := Lib.hid (pickA_one k.signs n); have HSZ := Lib.hid (pickA_size k.signs n)
  clear hs g0 g1 hz hb hbv hp hsn hX hz2 hW hE
  generalize decide (k.signs ≠ []) = ok at *
  generalize pickA k.signs n = cs at *
  unfold code3
  conv => arg 2; whnf
  simp only [withLast]
  go_wp2_with fail
  generalize (w.alloc (.cells ws 32)).alloc (.cells (bodCells b) 36) = w0 at *
  refine (HSN.out w0 HB.out (by have := HZ.out; omega)).mono ?_
  rintro e w1 ⟨rfl, hb1⟩
  have B1 := Lib.hid (HB.out.trans (hb1.mono (by have := HZ.out; omega)))
  have H0 := Lib.hid ((hb1.block w.heap.size (by have := HZ.out; omega)).trans G0.out)
  have H1 := Lib.hid ((hb1.block (w.heap.size + 1) (by have := HZ.out; omega)).trans G1.out)
  have Z1 := Lib.hid (show w.heap.size + 2 ≤ w1.heap.size by have := HZ.out; have := hb1.size; omega)
  clear hb1 HSN G0 G1 HB HZ
  go_wp2_with ((refine wpList_load_row rfl 32 _ rfl w.heap.size rfl 32 _ (0, 0) _ H0.out Tryd.underlying32 rfl HS.out ?_; simp only [Act.put, List.setIfInBounds_toArray, List.set_cons_zero, List.set_cons_succ]))
  refine (HP.out w1 B1.out).mono ?_
  rintro e w2 ⟨rfl, hb2⟩
  have B2 := Lib.hid (B1.out.trans (hb2.mono (by have := Z1.out; omega)))
  have I0 := Lib.hid ((hb2.block w.heap.size (by have := Z1.out; omega)).trans H0.out)
  have I1 := Lib.hid ((hb2.block (w.heap.size + 1) (by have := Z1.out; omega)).trans H1.out)
  have Z2 := Lib.hid (show w.heap.size + 2 ≤ w2.heap.size by have := Z1.out; have := hb2.size; omega)
  clear hb2 HP H0 H1 B1 Z1
  go_wp2_with (refine wpList_store_row rfl 41 _ _ rfl w2.heap.size cs rfl rfl 41 _ (heap_alloc_new w2 _) (by rw [HSZ.out]; kernel_rfl) (by rw [HSZ.out]; rfl) HSA.out ?_; rw [World.setRow_alloc_new])
  have hb5 : Below w2.heap.size w2 (w2.alloc (.cells cs 41)) := (Below.refl w2.heap.size w2).alloc (Nat.le_refl _) _
  exact HX.out _ w2.heap.size _ _ _ _ _ _ _ _ _ _ _ _ _ _ _ _ _ _ _ _ _ _ _ _ _ _ _ _ _ _ _ _ _ _ _ _ _ _ _ _ _ _ _ _ _ _ _ _ _ _ _ _ _ _ _ _ _ _ _ _ _ _ _ _ _ _ _ _ _ _ _ _ _ _ _ _ _ _ _ _ _ _ _ _ _ _ _ _ _ _ _ _ _ _ _ _ _ _ _ _ _ _ _ _ _ _ _ _ _ _ _ _ _ _ _ _ _ _ _ _ _ _ _ _ _ _ _ _ _ _ _ _ _ _ _ _ _ _ _ _ _ _ _ _ _ _ _ _ _ _ _ _ _ _ _ _ _ _ _ _ _ _ _ _ _ _ _ _ _ _ _ _ _ _ _ _ _ _ _ _ _ _ _ _ _ (B2.out.trans (hb5.mono B2.out.size)) ((hb5.block _ (by have := Z2.out; omega)).trans I0.out) ((hb5.block _ (by have := Z2.out; omega)).trans I1.out) (heap_alloc_new w2 _) Z2.out
noncomputable def part3n3 : Code := lastPart 3 code3
set_option maxRecDepth 100000 in
set_option maxHeartbeats 8000000 in
theorem guards_3 (k : Wrk) (b : Bod) (hbn : b.name.length ≤ maxLen) (ok : Bool) (ws : Array Value) (A K : Nat)  (w3 : World) (hE : Env w3) (hW : WkAt k ws w3) (g0 : w3.heap[A]? = some (.cells ws 32 (0, 0))) (g1 : w3.heap[A + 1]? = some (.cells (bodCells b) 36 (0, 0))) (e0 e1 e2 e4 e6 e9 e10 e11 e12 e13 e14 e15 e16 e17 e18 e19 e20 e21 e22 e23 e24 e25 e26 e27 e28 e29 e30 e31 e32 e33 e34 e35 e36 e37 e38 e39 e40 e41 e42 e43 e44 e45 e46 e47 e48 e49 e50 e51 e52 e53 e54 e55 e56 e57 e58 e59 e60 e61 e62 e63 e64 e65 e66 e67 e68 e69 e70 e71 e72 e73 e74 e75 e76 e77 e78 e79 e80 e81 e82 e83 e84 e85 e86 e87 e88 e89 e90 e91 e92 e93 e94 e95 e96 e97 e98 e99 e100 e101 e102 e103 e104 e105 e106 e107 e108 e109 e110 e111 e112 e113 e114 e115 e116 e117 e118 e119 e120 e121 e122 e123 e124 e125 e126 e127 e128 e129 e130 e131 e132 e133 e134 e135 e136 e137 e138 e139 e140 e141 e142 e143 e144 e145 e146 e147 e148 e149 e150 e151 e152 e153 e154 e155 e156 e157 e158 e159 e160 e161 e162 e163 e164 e165 e166 e167 e168 e169 e170 e171 e172 e173 e174 e175 e176 e177 e178 e179 e180 e181 e182 e183 e184 e185 e186 e187 e188 : Value) (R : Ending → World → Prop) (X : Code)
    (hT : ∀ w', Below w3.heap.size w3 w' → R (.returned (.bool true)) w')
    (hX : fewB k = true → ok = true → wrkE k = 0 → bodB b = true → ∀ (w4 : World) (e0 e1 e2 e4 e6 e9 e10 e11 e12 e13 e14 e15 e16 e17 e18 e19 e20 e21 e22 e23 e24 e25 e26 e27 e28 e29 e30 e31 e32 e33 e34 e35 e36 e37 e38 e39 e40 e41 e42 e43 e44 e45 e46 e47 e48 e49 e50 e51 e52 e53 e54 e55 e56 e57 e58 e59 e60 e61 e62 e63 e64 e65 e66 e67 e68 e69 e70 e71 e72 e73 e74 e75 e76 e77 e78 e79 e80 e81 e82 e83 e84 e85 e86 e87 e88 e89 e90 e91 e92 e93 e94 e95 e96 e97 e98 e99 e100 e101 e102 e103 e104 e105 e106 e107 e108 e109 e110 e111 e112 e113 e114 e115 e116 e117 e118 e119 e120 e121 e122 e123 e124 e125 e126 e127 e128 e129 e130 e131 e132 e133 e134 e135 e136 e137 e138 e139 e140 e141 e142 e143 e144 e145 e146 e147 e148 e149 e150 e151 e152 e153 e154 e155 e156 e157 e158 e159 e160 e161 e162 e163 e164 e165 e166 e167 e168 e169 e170 e171 e172 e173 e174 e175 e176 e177 e178 e179 e180 e181 e182 e183 e184 e185 e186 e187 e188 : Value), Below w3.heap.size w3 w4 → Code.wp Tryd.prog X (bodyPost Tryd.prog Tryd.f3 R) { tmps := #[e0, e1, e2, .pointer (some ⟨A, 0, none⟩), e4, .pointer (some ⟨A + 1, 0, none⟩), e6, .pointer (some ⟨K, 0, none⟩), .bool ok, e9, e10, e11, e12, e13, e14, e15, e16, e17, e18, e19, e20, e21, e22, e23, e24, e25, e26, e27, e28, e29, e30, e31, e32, e33, e34, e35, e36, e37, e38, e39, e40, e41, e42, e43, e44, e45, e46, e47, e48, e49, e50, e51, e52, e53, e54, e55, e56, e57, e58, e59, e60, e61, e62, e63, e64, e65, e66, e67, e68, e69, e70, e71, e72, e73, e74, e75, e76, e77, e78, e79, e80, e81, e82, e83, e84, e85, e86, e87, e88, e89, e90, e91, e92, e93, e94, e95, e96, e97, e98, e99, e100, e101, e102, e103, e104, e105, e106, e107, e108, e109, e110, e111, e112, e113, e114, e115, e116, e117, e118, e119, e120, e121, e122, e123, e124, e125, e126, e127, e128, e129, e130, e131, e132, e133, e134, e135, e136, e137, e138, e139, e140, e141, e142, e143, e144, e145, e146, e147, e148, e149, e150, e151, e152, e153, e154, e155, e156, e157, e158, e159, e160, e161, e162, e163, e164, e165, e166, e167, e168, e169, e170, e171, e172, e173, e174, e175, e176, e177, e178, e179, e180, e181, e182, e183, e184, e185, e186, e187, e188], defers := [] } w4) :
    Code.wp Tryd.prog (withLast 1 part3n3 X) (bodyPost Tryd.prog Tryd.f3 R) { tmps := #[e0, e1, e2, .pointer (some ⟨A, 0, none⟩), e4, .pointer (some ⟨A + 1, 0, none⟩), e6, .pointer (some ⟨K, 0, none⟩), .bool ok, e9, e10, e11, e12, e13, e14, e15, e16, e17, e18, e19, e20, e21, e22, e23, e24, e25, e26, e27, e28, e29, e30, e31, e32, e33, e34, e35, e36, e37, e38, e39, e40, e41, e42, e43, e44, e45, e46, e47, e48, e49, e50, e51, e52, e53, e54, e55, e56, e57, e58, e59, e60, e61, e62, e63, e64, e65, e66, e67, e68, e69, e70, e71, e72, e73, e74, e75, e76, e77, e78, e79, e80, e81, e82, e83, e84, e85, e86, e87, e88, e89, e90, e91, e92, e93, e94, e95, e96, e97, e98, e99, e100, e101, e102, e103, e104, e105, e106, e107, e108, e109, e110, e111, e112, e113, e114, e115, e116, e117, e118, e119, e120, e121, e122, e123, e124, e125, e126, e127, e128, e129, e130, e131, e132, e133, e134, e135, e136, e137, e138, e139, e140, e141, e142, e143, e144, e145, e146, e147, e148, e149, e150, e151, e152, e153, e154, e155, e156, e157, e158, e159, e160, e161, e162, e163, e164, e165, e166, e167, e168, e169, e170, e171, e172, e173, e174, e175, e176, e177, e178, e179, e180, e181, e182, e183, e184, e185, e186, e187, e188], defers := [] } w3 := by
  have hs := hW.size
  have hf := hW.few
  have hc := fun (W : World) (hB : Below w3.heap.size w3 W) => (hW.below hB (Nat.le_refl _)).check (hE.below hB)
  have hbc := fun (W : World) => bcheck_any b hbn W
  have HS := Lib.hid hs; have G0 := Lib.hid g0; have G1 := Lib.hid g1; have HF := Lib.hid hf; have HC := Lib.hid hc; have HBC := Lib.hid hbc; have HX := Lib.hid hX; have HT := Lib.hid hT
  have hA : A < w3.heap.size := (Array.getElem?_eq_some_iff.1 g0).1
  have hA1 : A + 1 < w3.heap.size := (Array.getElem?_eq_some_iff.1 g1).1
  have HA := Lib.hid hA; have HA1 := Lib.hid hA1
  clear hs g0 g1 hf hc hbc hX hT hW hE hA hA1
  generalize fewB k = fw at *
  generalize wrkE k = we at *
  unfold part3n3 code3
  conv => arg 2; whnf
  simp only [withLast]
  go_wp2_with ((refine wpList_load_row rfl 32 _ rfl A rfl 32 _ (0, 0) _ G0.out Tryd.underlying32 rfl HS.out ?_; simp only [Act.put, List.setIfInBounds_toArray, List.set_cons_zero, List.set_cons_succ]))
  refine (HF.out w3).mono ?_
  rintro e w4 ⟨rfl, b4⟩
  have B4 := Lib.hid b4
  have H0 := Lib.hid ((b4.block A HA.out).trans G0.out)
  clear b4 G0 HF
  cases fw with
  | false =>
    go_wp2_with fail
    first | exact HT.out _ B4.out | (go_ret; exact HT.out _ B4.out)
  | true =>
  cases ok with
  | false =>
    go_wp2_with fail
    first | exact HT.out _ B4.out | (go_ret; exact HT.out _ B4.out)
  | true =>
  go_wp2_with ((refine wpList_load_row_at rfl 32 _ rfl A rfl 32 _ (0, 0) _ H0.out Tryd.underlying32 rfl HS.out ?_; simp only [Act.put, List.setIfInBounds_toArray, List.set_cons_zero, List.set_cons_succ]))
  refine (HC.out w4 B4.out).mono ?_
  rintro e w5 ⟨rfl, b5⟩
  have B5 := Lib.hid (B4.out.trans (b5.mono B4.out.size))
  have H1 := Lib.hid ((B5.out.block (A + 1) HA1.out).trans G1.out)
  clear b5 B4 H0 HC G1
  by_cases hwe : we = 0
  · have hwz : (we != 0) = false := by simp [hwe]
    have HWE := Lib.hid hwe
    clear hwe
    go_wp2_with ((refine wpList_load_row_at rfl 36 _ rfl (A + 1) rfl 36 (bodCells b) (0, 0) _ H1.out Tryd.underlying36 rfl (by kernel_rfl) ?_; simp only [Act.put, List.setIfInBounds_toArray, List.set_cons_zero, List.set_cons_succ]))
    refine (HBC.out w5).mono ?_
    rintro e w6 ⟨rfl, b6⟩
    have B6 := Lib.hid (B5.out.trans (b6.mono B5.out.size))
    clear b6 B5 H1 HBC
    cases hbb : bodB b with
    | false =>
      have hq : (codeI false 250 != 0) = true := rfl
      go_wp2_with fail
      first | exact HT.out _ B6.out | (go_ret; exact HT.out _ B6.out)
    | true =>
      have hq : (codeI true 250 != 0) = false := rfl
      go_wp2_with fail
      exact HX.out (by first | rfl | trivial) (by first | rfl | trivial) (by first | exact HWE.out | trivial) (by first | exact hbb | rfl | trivial) _ _ _ _ _ _ _ _ _ _ _ _ _ _ _ _ _ _ _ _ _ _ _ _ _ _ _ _ _ _ _ _ _ _ _ _ _ _ _ _ _ _ _ _ _ _ _ _ _ _ _ _ _ _ _ _ _ _ _ _ _ _ _ _ _ _ _ _ _ _ _ _ _ _ _ _ _ _ _ _ _ _ _ _ _ _ _ _ _ _ _ _ _ _ _ _ _ _ _ _ _ _ _ _ _ _ _ _ _ _ _ _ _ _ _ _ _ _ _ _ _ _ _ _ _ _ _ _ _ _ _ _ _ _ _ _ _ _ _ _ _ _ _ _ _ _ _ _ _ _ _ _ _ _ _ _ _ _ _ _ _ _ _ _ _ _ _ _ _ _ _ _ _ _ _ _ _ _ _ _ _ _ _ _ _ _ B6.out
  · have hwz : (we != 0) = true := by simpa using hwe
    have HWE := Lib.hid hwe
    clear hwe
    go_wp2_with fail
    first | exact HT.out _ B5.out | (go_ret; exact HT.out _ B5.out)
noncomputable def part3n4 : Code := lastPart 4 code3
set_option maxRecDepth 100000 in
set_option maxHeartbeats 8000000 in
theorem opts_3 (k : Wrk) (s : Sgn) (b : Bod) (hbn : b.name.length ≤ maxLen) (ws : Array Value) (A K : Nat)  (w3 : World) (hE : Env w3) (hz2 : 2 ≤ w3.heap.size) (hW : WkAt k ws w3) (g0 : w3.heap[A]? = some (.cells ws 32 (0, 0))) (g1 : w3.heap[A + 1]? = some (.cells (bodCells b) 36 (0, 0))) (g2 : w3.heap[K]? = some (.cells (sgnA s) 41 (0, 0)))
    (hk : wrkE k = 0) (hs : s ∈ k.signs) (hb : bodB b = true) (e0 e1 e2 e4 e6 e8 e9 e10 e11 e12 e13 e14 e15 e16 e17 e18 e19 e20 e21 e22 e23 e24 e25 e26 e27 e28 e29 e30 e31 e32 e33 e34 e35 e36 e37 e38 e39 e40 e41 e42 e43 e44 e45 e46 e47 e48 e49 e50 e51 e52 e53 e54 e55 e56 e57 e58 e59 e60 e61 e62 e63 e64 e65 e66 e67 e68 e69 e70 e71 e72 e73 e74 e75 e76 e77 e78 e79 e80 e81 e82 e83 e84 e85 e86 e87 e88 e89 e90 e91 e92 e93 e94 e95 e96 e97 e98 e99 e100 e101 e102 e103 e104 e105 e106 e107 e108 e109 e110 e111 e112 e113 e114 e115 e116 e117 e118 e119 e120 e121 e122 e123 e124 e125 e126 e127 e128 e129 e130 e131 e132 e133 e134 e135 e136 e137 e138 e139 e140 e141 e142 e143 e144 e145 e146 e147 e148 e149 e150 e151 e152 e153 e154 e155 e156 e157 e158 e159 e160 e161 e162 e163 e164 e165 e166 e167 e168 e169 e170 e171 e172 e173 e174 e175 e176 e177 e178 e179 e180 e181 e182 e183 e184 e185 e186 e187 e188 : Value) (R : Ending → World → Prop) (X : Code)
    (hX : ∀ (w4 : World) (v : Value) (e0 e1 e2 e4 e6 e8 e11 e12 e13 e14 e15 e16 e17 e18 e19 e20 e21 e22 e23 e24 e25 e26 e27 e28 e29 e30 e31 e32 e33 e34 e35 e36 e37 e38 e39 e40 e41 e42 e43 e44 e45 e46 e47 e48 e49 e50 e51 e52 e53 e54 e55 e56 e57 e58 e59 e60 e61 e62 e63 e64 e65 e66 e67 e68 e69 e70 e71 e72 e73 e74 e75 e76 e77 e78 e79 e80 e81 e82 e83 e84 e85 e86 e87 e88 e89 e90 e91 e92 e93 e94 e95 e96 e97 e98 e99 e100 e101 e102 e103 e104 e105 e106 e107 e108 e109 e110 e111 e112 e113 e114 e115 e116 e117 e118 e119 e120 e121 e122 e123 e124 e125 e126 e127 e128 e129 e130 e131 e132 e133 e134 e135 e136 e137 e138 e139 e140 e141 e142 e143 e144 e145 e146 e147 e148 e149 e150 e151 e152 e153 e154 e155 e156 e157 e158 e159 e160 e161 e162 e163 e164 e165 e166 e167 e168 e169 e170 e171 e172 e173 e174 e175 e176 e177 e178 e179 e180 e181 e182 e183 e184 e185 e186 e187 e188 : Value), Below w3.heap.size w3 w4 → w4.ownsRow w3.heap.size 60 4 v (optL k s b).length ((optL k s b).flatMap encRea) → Code.wp Tryd.prog X (bodyPost Tryd.prog Tryd.f3 R) { tmps := #[e0, e1, e2, .pointer (some ⟨A, 0, none⟩), e4, .pointer (some ⟨A + 1, 0, none⟩), e6, .pointer (some ⟨K, 0, none⟩), e8, v, .int .i64 0, e11, e12, e13, e14, e15, e16, e17, e18, e19, e20, e21, e22, e23, e24, e25, e26, e27, e28, e29, e30, e31, e32, e33, e34, e35, e36, e37, e38, e39, e40, e41, e42, e43, e44, e45, e46, e47, e48, e49, e50, e51, e52, e53, e54, e55, e56, e57, e58, e59, e60, e61, e62, e63, e64, e65, e66, e67, e68, e69, e70, e71, e72, e73, e74, e75, e76, e77, e78, e79, e80, e81, e82, e83, e84, e85, e86, e87, e88, e89, e90, e91, e92, e93, e94, e95, e96, e97, e98, e99, e100, e101, e102, e103, e104, e105, e106, e107, e108, e109, e110, e111, e112, e113, e114, e115, e116, e117, e118, e119, e120, e121, e122, e123, e124, e125, e126, e127, e128, e129, e130, e131, e132, e133, e134, e135, e136, e137, e138, e139, e140, e141, e142, e143, e144, e145, e146, e147, e148, e149, e150, e151, e152, e153, e154, e155, e156, e157, e158, e159, e160, e161, e162, e163, e164, e165, e166, e167, e168, e169, e170, e171, e172, e173, e174, e175, e176, e177, e178, e179, e180, e181, e182, e183, e184, e185, e186, e187, e188], defers := [] } w4) :
    Code.wp Tryd.prog (withLast 2 part3n4 X) (bodyPost Tryd.prog Tryd.f3 R) { tmps := #[e0, e1, e2, .pointer (some ⟨A, 0, none⟩), e4, .pointer (some ⟨A + 1, 0, none⟩), e6, .pointer (some ⟨K, 0, none⟩), e8, e9, e10, e11, e12, e13, e14, e15, e16, e17, e18, e19, e20, e21, e22, e23, e24, e25, e26, e27, e28, e29, e30, e31, e32, e33, e34, e35, e36, e37, e38, e39, e40, e41, e42, e43, e44, e45, e46, e47, e48, e49, e50, e51, e52, e53, e54, e55, e56, e57, e58, e59, e60, e61, e62, e63, e64, e65, e66, e67, e68, e69, e70, e71, e72, e73, e74, e75, e76, e77, e78, e79, e80, e81, e82, e83, e84, e85, e86, e87, e88, e89, e90, e91, e92, e93, e94, e95, e96, e97, e98, e99, e100, e101, e102, e103, e104, e105, e106, e107, e108, e109, e110, e111, e112, e113, e114, e115, e116, e117, e118, e119, e120, e121, e122, e123, e124, e125, e126, e127, e128, e129, e130, e131, e132, e133, e134, e135, e136, e137, e138, e139, e140, e141, e142, e143, e144, e145, e146, e147, e148, e149, e150, e151, e152, e153, e154, e155, e156, e157, e158, e159, e160, e161, e162, e163, e164, e165, e166, e167, e168, e169, e170, e171, e172, e173, e174, e175, e176, e177, e178, e179, e180, e181, e182, e183, e184, e185, e186, e187, e188], defers := [] } w3 := by
  have hsz := hW.size
  have ho := hW.options hE hz2 s.id b hbn
  obtain ⟨he, hr⟩ := opt_own hk hs hb
  rw [he, hr] at ho
  have hbv : bodV b = .agg (bodCells b) := rfl
  rw [hbv] at ho
  have c0 : w3.cell? ⟨K, 0, none⟩ = some (.int .i64 s.id) := cell_at g2 0 rfl
  have HS := Lib.hid hsz; have G0 := Lib.hid g0; have G1 := Lib.hid g1; have HO := Lib.hid ho; have HX := Lib.hid hX
  clear hsz g0 g1 g2 ho he hr hbv hX hW hE hk hs hb
  unfold part3n4 code3
  conv => arg 2; whnf
  simp only [withLast]
  go_wp2_with (first | (refine wpList_load_row rfl 32 _ rfl A rfl 32 _ (0, 0) _ G0.out Tryd.underlying32 rfl HS.out ?_; simp only [Act.put, List.setIfInBounds_toArray, List.set_cons_zero, List.set_cons_succ]) | (refine wpList_load_row rfl 36 _ rfl (A + 1) rfl 36 (bodCells b) (0, 0) _ G1.out Tryd.underlying36 rfl (by kernel_rfl) ?_; simp only [Act.put, List.setIfInBounds_toArray, List.set_cons_zero, List.set_cons_succ]))
  refine HO.out.mono ?_
  rintro e w4 ⟨v, rfl, hown, b4⟩
  have HOW := Lib.hid hown; have B4 := Lib.hid b4
  clear hown b4 HO c0 G0 G1
  go_wp2_with fail
  exact HX.out _ v _ _ _ _ _ _ _ _ _ _ _ _ _ _ _ _ _ _ _ _ _ _ _ _ _ _ _ _ _ _ _ _ _ _ _ _ _ _ _ _ _ _ _ _ _ _ _ _ _ _ _ _ _ _ _ _ _ _ _ _ _ _ _ _ _ _ _ _ _ _ _ _ _ _ _ _ _ _ _ _ _ _ _ _ _ _ _ _ _ _ _ _ _ _ _ _ _ _ _ _ _ _ _ _ _ _ _ _ _ _ _ _ _ _ _ _ _ _ _ _ _ _ _ _ _ _ _ _ _ _ _ _ _ _ _ _ _ _ _ _ _ _ _ _ _ _ _ _ _ _ _ _ _ _ _ _ _ _ _ _ _ _ _ _ _ _ _ _ _ _ _ _ _ _ _ _ _ _ _ _ _ _ _ _ B4.out HOW.out
end Go.Proofs.YtggcbblikgankaaDoor
end
section
/- OptionsAll: the limb, and the parts of a round. -/
namespace Go.Proofs.YtggcbblikgankaaDoor
open Go Go.RowKit

def blkC : Code → Code | .block _ c => c | c => c
def lopC : Code → Code | .loop c => c | c => c
def fstC : Code → Code | .seq a _ => a | c => c
def sndC : Code → Code | .seq _ b => b | c => c
noncomputable def part3n6 : Code := lastPart 6 code3
noncomputable def part3n8 : Code := lastPart 8 code3
noncomputable def part3n10 : Code := lastPart 10 code3
/-- The round of the outer loop, of the inner loop. -/
noncomputable def loop3a : Code := lopC (blkC (sndC (fstC (lastPart 9 code3))))
noncomputable def loop3b : Code := lopC (blkC (sndC (blkC (fstC (sndC loop3a)))))
noncomputable def body3 : Code := blkC (fstC (sndC loop3b))
noncomputable def body3n4 : Code := lastPart 4 body3
noncomputable def body3n5 : Code := lastPart 5 body3
noncomputable def body3n7 : Code := lastPart 7 body3
noncomputable def body3n8 : Code := lastPart 8 body3

def limbI (k : Int) : Int := if k = 3 then 0 else if k = 4 then 1 else if k = 5 then 2 else -1
def limbKV : List (Int × Value) := [(3, .int .i64 1), (4, .int .i64 2), (5, .int .i64 3)]
theorem limbKV_get (m : Int) : (kvGet limbKV m).getD (.int .i64 0) = .int .i64 (limbI m + 1) := by
  unfold limbI
  by_cases h3 : m = 3
  · subst h3; rfl
  by_cases h2 : m = 4
  · subst h2; rfl
  by_cases h1 : m = 5
  · subst h1; rfl
  · rw [if_neg h3, if_neg h2, if_neg h1]
    have : kvGet limbKV m = none := by
      unfold kvGet limbKV
      have e3 : ((3 : Int) == m) = false := by simpa using fun e => h3 e.symm
      have e2 : ((4 : Int) == m) = false := by simpa using fun e => h2 e.symm
      have e1 : ((5 : Int) == m) = false := by simpa using fun e => h1 e.symm
      simp [e3, e2, e1]
    rw [this]; rfl
theorem limbI_vals (m : Int) : limbI m = -1 ∨ limbI m = 0 ∨ limbI m = 1 ∨ limbI m = 2 := by
  unfold limbI
  by_cases h3 : m = 3
  · rw [if_pos h3]; exact Or.inr (Or.inl rfl)
  rw [if_neg h3]
  by_cases h4 : m = 4
  · rw [if_pos h4]; exact Or.inr (Or.inr (Or.inl rfl))
  rw [if_neg h4]
  by_cases h5 : m = 5
  · rw [if_pos h5]; exact Or.inr (Or.inr (Or.inr rfl))
  rw [if_neg h5]; exact Or.inl rfl
set_option maxRecDepth 100000 in
set_option maxHeartbeats 8000000 in
theorem all_limb (s : Sgn) (vl : Value) (w3 : World) (A K : Nat) (hk : w3.heap[K]? = some (.cells (sgnA s) 41 (0, 0))) (e0 e1 e2 e4 e6 e8 e10 e11 e12 e13 e14 e15 e16 e17 e18 e19 e20 e21 e22 e23 e24 e25 e26 e27 e28 e29 e30 e31 e32 e33 e34 e35 e36 e37 e38 e39 e40 e41 e42 e43 e44 e45 e46 e47 e48 e49 e50 e51 e52 e53 e54 e55 e56 e57 e58 e59 e60 e61 e62 e63 e64 e65 e66 e67 e68 e69 e70 e71 e72 e73 e74 e75 e76 e77 e78 e79 e80 e81 e82 e83 e84 e85 e86 e87 e88 e89 e90 e91 e92 e93 e94 e95 e96 e97 e98 e99 e100 e101 e102 e103 e104 e105 e106 e107 e108 e109 e110 e111 e112 e113 e114 e115 e116 e117 e118 e119 e120 e121 e122 e123 e124 e125 e126 e127 e128 e129 e130 e131 e132 e133 e134 e135 e136 e137 e138 e139 e140 e141 e142 e143 e144 e145 e146 e147 e148 e149 e150 e151 e152 e153 e154 e155 e156 e157 e158 e159 e160 e161 e162 e163 e164 e165 e166 e167 e168 e169 e170 e171 e172 e173 e174 e175 e176 e177 e178 e179 e180 e181 e182 e183 e184 e185 e186 e187 e188 : Value) (R : Ending → World → Prop) (X : Code)
    (hT : ∀ w', Below w3.heap.size w3 w' → R (.returned (.bool true)) w')
    (hX : 0 ≤ limbI s.kind → ∀ (w4 : World) (e0 e1 e2 e4 e6 e8 e10 e12 e13 e14 e15 e16 e17 e18 e19 e20 e21 e22 e23 e24 e25 e26 e27 e28 e29 e30 e31 e32 e33 e34 e35 e36 e37 e38 e39 e40 e41 e42 e43 e44 e45 e46 e47 e48 e49 e50 e51 e52 e53 e54 e55 e56 e57 e58 e59 e60 e61 e62 e63 e64 e65 e66 e67 e68 e69 e70 e71 e72 e73 e74 e75 e76 e77 e78 e79 e80 e81 e82 e83 e84 e85 e86 e87 e88 e89 e90 e91 e92 e93 e94 e95 e96 e97 e98 e99 e100 e101 e102 e103 e104 e105 e106 e107 e108 e109 e110 e111 e112 e113 e114 e115 e116 e117 e118 e119 e120 e121 e122 e123 e124 e125 e126 e127 e128 e129 e130 e131 e132 e133 e134 e135 e136 e137 e138 e139 e140 e141 e142 e143 e144 e145 e146 e147 e148 e149 e150 e151 e152 e153 e154 e155 e156 e157 e158 e159 e160 e161 e162 e163 e164 e165 e166 e167 e168 e169 e170 e171 e172 e173 e174 e175 e176 e177 e178 e179 e180 e181 e182 e183 e184 e185 e186 e187 e188 : Value), Below w3.heap.size w3 w4 → Code.wp Tryd.prog X (bodyPost Tryd.prog Tryd.f3 R) { tmps := #[e0, e1, e2, .pointer (some ⟨A, 0, none⟩), e4, .pointer (some ⟨A + 1, 0, none⟩), e6, .pointer (some ⟨K, 0, none⟩), e8, vl, e10, .int .i64 (limbI s.kind), e12, e13, e14, e15, e16, e17, e18, e19, e20, e21, e22, e23, e24, e25, e26, e27, e28, e29, e30, e31, e32, e33, e34, e35, e36, e37, e38, e39, e40, e41, e42, e43, e44, e45, e46, e47, e48, e49, e50, e51, e52, e53, e54, e55, e56, e57, e58, e59, e60, e61, e62, e63, e64, e65, e66, e67, e68, e69, e70, e71, e72, e73, e74, e75, e76, e77, e78, e79, e80, e81, e82, e83, e84, e85, e86, e87, e88, e89, e90, e91, e92, e93, e94, e95, e96, e97, e98, e99, e100, e101, e102, e103, e104, e105, e106, e107, e108, e109, e110, e111, e112, e113, e114, e115, e116, e117, e118, e119, e120, e121, e122, e123, e124, e125, e126, e127, e128, e129, e130, e131, e132, e133, e134, e135, e136, e137, e138, e139, e140, e141, e142, e143, e144, e145, e146, e147, e148, e149, e150, e151, e152, e153, e154, e155, e156, e157, e158, e159, e160, e161, e162, e163, e164, e165, e166, e167, e168, e169, e170, e171, e172, e173, e174, e175, e176, e177, e178, e179, e180, e181, e182, e183, e184, e185, e186, e187, e188], defers := [] } w4) :
    Code.wp Tryd.prog (withLast 2 part3n6 X) (bodyPost Tryd.prog Tryd.f3 R) { tmps := #[e0, e1, e2, .pointer (some ⟨A, 0, none⟩), e4, .pointer (some ⟨A + 1, 0, none⟩), e6, .pointer (some ⟨K, 0, none⟩), e8, vl, e10, e11, e12, e13, e14, e15, e16, e17, e18, e19, e20, e21, e22, e23, e24, e25, e26, e27, e28, e29, e30, e31, e32, e33, e34, e35, e36, e37, e38, e39, e40, e41, e42, e43, e44, e45, e46, e47, e48, e49, e50, e51, e52, e53, e54, e55, e56, e57, e58, e59, e60, e61, e62, e63, e64, e65, e66, e67, e68, e69, e70, e71, e72, e73, e74, e75, e76, e77, e78, e79, e80, e81, e82, e83, e84, e85, e86, e87, e88, e89, e90, e91, e92, e93, e94, e95, e96, e97, e98, e99, e100, e101, e102, e103, e104, e105, e106, e107, e108, e109, e110, e111, e112, e113, e114, e115, e116, e117, e118, e119, e120, e121, e122, e123, e124, e125, e126, e127, e128, e129, e130, e131, e132, e133, e134, e135, e136, e137, e138, e139, e140, e141, e142, e143, e144, e145, e146, e147, e148, e149, e150, e151, e152, e153, e154, e155, e156, e157, e158, e159, e160, e161, e162, e163, e164, e165, e166, e167, e168, e169, e170, e171, e172, e173, e174, e175, e176, e177, e178, e179, e180, e181, e182, e183, e184, e185, e186, e187, e188], defers := [] } w3 := by
  have c4 : w3.cell? ⟨K, 4, none⟩ = some (.int .i64 s.kind) := cell_at hk 4 rfl
  have hK : K < w3.heap.size := (Array.getElem?_eq_some_iff.1 hk).1
  have HX := Lib.hid hX; have HT := Lib.hid hT
  clear hX hT hk
  unfold part3n6 code3
  conv => arg 2; whnf
  simp only [withLast]
  have hmm := @run_makeMap Tryd.prog
  have hm0 := MapAt.new w3
  have hbl : Below w3.heap.size w3 (w3.alloc (.map #[] 0)) := (Below.refl _ _).alloc (Nat.le_refl _) _
  obtain ⟨W1, u1, hm1, bb1, _, _⟩ := update_kv (P := Tryd.prog) (T := 51) Tryd.underlying51 Tryd.underlying3 hm0 List.nodup_nil 3 (.int .i64 1)
  rw [kvPut_new rfl] at hm1
  have hb1 := hbl.trans bb1
  obtain ⟨W2, u2, hm2, bb2, _, _⟩ := update_kv (P := Tryd.prog) (T := 51) Tryd.underlying51 Tryd.underlying3 hm1 (by unfold KeysApart; simp) 4 (.int .i64 2)
  rw [kvPut_new rfl] at hm2
  have hb2 := hb1.trans bb2
  obtain ⟨W3, u3, hm3, bb3, _, _⟩ := update_kv (P := Tryd.prog) (T := 51) Tryd.underlying51 Tryd.underlying3 hm2 (by unfold KeysApart; simp) 5 (.int .i64 3)
  rw [kvPut_new rfl] at hm3
  have hb3 := hb2.trans bb3
  have d4 := (hb3.cell (p := ⟨K, 4, none⟩) hK).trans c4
  have u4 := run_lookup_kv (P := Tryd.prog) (T := 51) Tryd.underlying51 Tryd.underlying3 hm3 s.kind (Tryd.zeroValue3 _) false
  have hg : (kvGet ([] ++ [(3, Value.int .i64 1)] ++ [(4, .int .i64 2)] ++ [(5, .int .i64 3)]) s.kind).getD (.int .i64 0) = .int .i64 (limbI s.kind + 1) := limbKV_get s.kind
  rw [hg] at u4
  have HB := Lib.hid hb3
  clear hm0 hm1 hm2 hm3 hbl hb1 hb2 hb3 hg bb1 bb2 bb3 c4
  rcases limbI_vals s.kind with h | h | h | h
  · rw [h] at u4 HX
    clear h
    go_wp2_with fail
    first | exact HT.out _ HB.out | (go_ret; exact HT.out _ HB.out)
  all_goals
    rw [h] at u4 HX
    clear h
    go_wp2_with fail
    exact HX.out (by decide) _ _ _ _ _ _ _ _ _ _ _ _ _ _ _ _ _ _ _ _ _ _ _ _ _ _ _ _ _ _ _ _ _ _ _ _ _ _ _ _ _ _ _ _ _ _ _ _ _ _ _ _ _ _ _ _ _ _ _ _ _ _ _ _ _ _ _ _ _ _ _ _ _ _ _ _ _ _ _ _ _ _ _ _ _ _ _ _ _ _ _ _ _ _ _ _ _ _ _ _ _ _ _ _ _ _ _ _ _ _ _ _ _ _ _ _ _ _ _ _ _ _ _ _ _ _ _ _ _ _ _ _ _ _ _ _ _ _ _ _ _ _ _ _ _ _ _ _ _ _ _ _ _ _ _ _ _ _ _ _ _ _ _ _ _ _ _ _ _ _ _ _ _ _ _ _ _ _ _ _ _ _ _ _ _ HB.out
set_option maxRecDepth 100000 in
set_option maxHeartbeats 8000000 in
theorem all_dot (s : Sgn) (d v : Nat) (hs : 0 ≤ s.dir ∧ s.dir ≤ 8) (hl : 1 ≤ s.level ∧ s.level ≤ 3) (hd : d ≤ 8) (hv : 1 ≤ v ∧ v ≤ 3) (vl : Value) (A K : Nat) (lm many : Int) (w : World) (hE : Env w) (hw : 2 ≤ w.heap.size) (hk : w.heap[K]? = some (.cells (sgnA s) 41 (0, 0))) (e0 e1 e2 e4 e6 e8 e10 e15 e16 e17 e18 e19 e20 e21 e22 e23 e24 e25 e26 e27 e28 e29 e30 e31 e32 e33 e34 e35 e36 e37 e38 e39 e40 e41 e42 e43 e44 e45 e46 e47 e48 e49 e50 e51 e52 e53 e54 e55 e56 e57 e58 e59 e60 e61 e62 e63 e64 e65 e66 e67 e68 e69 e70 e71 e72 e73 e74 e75 e76 e77 e78 e79 e80 e81 e82 e83 e84 e85 e86 e87 e88 e89 e90 e91 e92 e93 e94 e95 e96 e97 e98 e99 e100 e101 e102 e103 e104 e105 e106 e107 e108 e109 e110 e111 e112 e113 e114 e115 e116 e117 e118 e119 e120 e121 e122 e123 e124 e125 e126 e127 e128 e129 e130 e131 e132 e133 e134 e135 e136 e137 e138 e139 e140 e141 e142 e143 e144 e145 e146 e147 e148 e149 e150 e151 e152 e153 e154 e155 e156 e157 e158 e159 e160 e161 e162 e163 e164 e165 e166 e167 e168 e169 e170 e171 e172 e173 e174 e175 e176 e177 e178 e179 e180 e181 e182 e183 e184 e185 e186 e187 e188 : Value) (Q : Exit → Act → World → Prop) (X : Code)
    (hX : ∀ (w6 : World) (X1 Y1 : Nat) (u16 u18 u20 u21 u22 u75 u76 u77 u78 u79 u80 u81 u82 u83 u84 u85 u86 u87 u88 u89 u90 u91 u92 u93 u94 u95 u96 u97 u98 u99 u100 u101 u102 u103 u104 u105 u106 u107 u108 u109 u110 u111 u112 u113 u114 u115 u116 u117 u118 u119 u120 u121 u122 u123 u124 u125 u126 u127 u128 u129 u130 u131 u132 u133 u134 u135 u136 u137 u138 u139 u140 u141 u142 u143 u144 u145 u146 u147 u148 u149 u150 u151 u152 u153 u154 u155 u156 u157 u158 u159 u160 u161 u162 u163 u164 u165 : Value), Below w.heap.size w w6 → w6.heap[X1]? = some (.cells #[.int .i64 (vecX s.dir s.level), .int .i64 (vecY s.dir s.level), .int .i64 (vecZ s.dir s.level)] 53 (0, 0)) → w6.heap[Y1]? = some (.cells #[.int .i64 (vecX (d : Int) (v : Int)), .int .i64 (vecY (d : Int) (v : Int)), .int .i64 (vecZ (d : Int) (v : Int))] 53 (0, 0)) → Code.wp Tryd.prog X Q { tmps := #[e0, e1, e2, .pointer (some ⟨A, 0, none⟩), e4, .pointer (some ⟨A + 1, 0, none⟩), e6, .pointer (some ⟨K, 0, none⟩), e8, vl, e10, .int .i64 lm, .int .i64 many, .int .i64 (d : Nat), .int .i64 (v : Nat), .pointer (some ⟨X1, 0, none⟩), u16, .pointer (some ⟨Y1, 0, none⟩), u18, .int .i64 (dotI s.dir s.level d v), u20, u21, u22, e23, e24, e25, e26, e27, e28, e29, e30, e31, e32, e33, e34, e35, e36, e37, e38, e39, e40, e41, e42, e43, e44, e45, e46, e47, e48, e49, e50, e51, e52, e53, e54, e55, e56, e57, e58, e59, e60, e61, e62, e63, e64, e65, e66, e67, e68, e69, e70, e71, e72, e73, e74, u75, u76, u77, u78, u79, u80, u81, u82, u83, u84, u85, u86, u87, u88, u89, u90, u91, u92, u93, u94, u95, u96, u97, u98, u99, u100, u101, u102, u103, u104, u105, u106, u107, u108, u109, u110, u111, u112, u113, u114, u115, u116, u117, u118, u119, u120, u121, u122, u123, u124, u125, u126, u127, u128, u129, u130, u131, u132, u133, u134, u135, u136, u137, u138, u139, u140, u141, u142, u143, u144, u145, u146, u147, u148, u149, u150, u151, u152, u153, u154, u155, u156, u157, u158, u159, u160, u161, u162, u163, u164, u165, e166, e167, e168, e169, e170, e171, e172, e173, e174, e175, e176, e177, e178, e179, e180, e181, e182, e183, e184, e185, e186, e187, e188], defers := [] } w6) :
    Code.wp Tryd.prog (withLast 4 body3 X) Q { tmps := #[e0, e1, e2, .pointer (some ⟨A, 0, none⟩), e4, .pointer (some ⟨A + 1, 0, none⟩), e6, .pointer (some ⟨K, 0, none⟩), e8, vl, e10, .int .i64 lm, .int .i64 many, .int .i64 (d : Nat), .int .i64 (v : Nat), e15, e16, e17, e18, e19, e20, e21, e22, e23, e24, e25, e26, e27, e28, e29, e30, e31, e32, e33, e34, e35, e36, e37, e38, e39, e40, e41, e42, e43, e44, e45, e46, e47, e48, e49, e50, e51, e52, e53, e54, e55, e56, e57, e58, e59, e60, e61, e62, e63, e64, e65, e66, e67, e68, e69, e70, e71, e72, e73, e74, e75, e76, e77, e78, e79, e80, e81, e82, e83, e84, e85, e86, e87, e88, e89, e90, e91, e92, e93, e94, e95, e96, e97, e98, e99, e100, e101, e102, e103, e104, e105, e106, e107, e108, e109, e110, e111, e112, e113, e114, e115, e116, e117, e118, e119, e120, e121, e122, e123, e124, e125, e126, e127, e128, e129, e130, e131, e132, e133, e134, e135, e136, e137, e138, e139, e140, e141, e142, e143, e144, e145, e146, e147, e148, e149, e150, e151, e152, e153, e154, e155, e156, e157, e158, e159, e160, e161, e162, e163, e164, e165, e166, e167, e168, e169, e170, e171, e172, e173, e174, e175, e176, e177, e178, e179, e180, e181, e182, e183, e184, e185, e186, e187, e188], defers := [] } w := by
  have c6 : w.cell? ⟨K, 6, none⟩ = some (.int .i64 s.dir) := cell_at hk 6 rfl
  have c7 : w.cell? ⟨K, 7, none⟩ = some (.int .i64 s.level) := cell_at hk 7 rfl
  have h1 : vecB s.dir s.level = true := by unfold vecB; rw [inB_iff.2 hs, inB_iff.2 hl]; rfl
  have h2 : vecB d v = true := by unfold vecB; rw [inB_iff.2 (by omega), inB_iff.2 (by omega)]; rfl
  have hin := dot_in (a := s.dir) (l := s.level) (d := d) (v := v) hs hl (by omega) (by omega)
  have hv1 : vecV s.dir s.level = .tuple #[.agg #[.int .i64 (vecX s.dir s.level), .int .i64 (vecY s.dir s.level), .int .i64 (vecZ s.dir s.level)], .int .i64 0] := by unfold vecV; rw [h1]; rfl
  have hv2 : vecV d v = .tuple #[.agg #[.int .i64 (vecX (d : Int) (v : Int)), .int .i64 (vecY (d : Int) (v : Int)), .int .i64 (vecZ (d : Int) (v : Int))], .int .i64 0] := by unfold vecV; rw [h2]; rfl
  obtain ⟨x1, x2, x3⟩ := vec_bd h1
  obtain ⟨y1, y2, y3⟩ := vec_bd h2
  have hd := fun w => sdot_any (vecX s.dir s.level) (vecY s.dir s.level) (vecZ s.dir s.level) (vecX d v) (vecY d v) (vecZ d v) (by omega) (by omega) (by omega) (by omega) (by omega) (by omega) w
  have hdd : dotI s.dir s.level d v = vecX s.dir s.level * vecX d v + vecY s.dir s.level * vecY d v + vecZ s.dir s.level * vecZ d v := rfl
  rw [← hdd] at hd
  have hc1 := fun w (h : Env w) hw => vector_any s.dir s.level w h hw
  have hc2 := fun w (h : Env w) hw => vector_any d v w h hw
  rw [hv1] at hc1
  rw [hv2] at hc2
  clear hdd hv1 hv2 h1 h2 x1 x2 x3 y1 y2 y3 hk hs hl hv
  have HX := Lib.hid hX; clear hX
  generalize dotI s.dir s.level d v = n at *
  generalize vecX s.dir s.level = a at *
  generalize vecY s.dir s.level = b at *
  generalize vecZ s.dir s.level = c at *
  generalize vecX d v = a' at *
  generalize vecY d v = b' at *
  generalize vecZ d v = c' at *
  have HD := Lib.hid hd; have HC1 := Lib.hid hc1; have HC2 := Lib.hid hc2; have HE := Lib.hid hE; have HIN := Lib.hid hin
  clear hd hc1 hc2 hE hin
  unfold body3 loop3b loop3a code3
  conv => arg 2; whnf
  simp only [withLast]
  go_wp2_with fail
  refine (HC1.out w HE.out (by omega)).mono ?_
  rintro e w1 ⟨rfl, b1⟩
  have n1 := heap_alloc_new w1 (.cells #[.int .i64 a, .int .i64 b, .int .i64 c] 53)
  have m1 : Below w.heap.size w (w1.alloc (.cells #[.int .i64 a, .int .i64 b, .int .i64 c] 53)) := b1.alloc b1.size _
  have z1 : w1.heap.size < (w1.alloc (.cells #[.int .i64 a, .int .i64 b, .int .i64 c] 53)).heap.size := by simp
  have s1 := b1.size
  clear c6 c7
  go_wp2_with fail
  generalize w1.alloc (.cells #[.int .i64 a, .int .i64 b, .int .i64 c] 53) = wa at *
  generalize w1.heap.size = g1 at *
  refine (HC2.out wa (HE.out.below m1) (by omega)).mono ?_
  rintro e w2 ⟨rfl, b2⟩
  have s2 := b2.size
  have n2 := (Below.heap_alloc w2 (.cells #[.int .i64 a', .int .i64 b', .int .i64 c'] 53) g1 (by omega)).trans ((b2.block _ z1).trans n1)
  have n3 := heap_alloc_new w2 (.cells #[.int .i64 a', .int .i64 b', .int .i64 c'] 53)
  have m2 : Below w.heap.size w (w2.alloc (.cells #[.int .i64 a', .int .i64 b', .int .i64 c'] 53)) := (m1.trans (b2.mono (by omega))).alloc (by omega) _
  have z2 : w2.heap.size < (w2.alloc (.cells #[.int .i64 a', .int .i64 b', .int .i64 c'] 53)).heap.size := by simp
  have hg2 : g1 < w2.heap.size := by omega
  have N2 := Lib.hid n2; have N3 := Lib.hid n3; have M2 := Lib.hid m2
  clear n1 n2 n3 m1 m2 b1 b2
  go_wp2_with (first | (refine wpList_load_row rfl 53 _ rfl g1 rfl 53 _ (0, 0) _ N2.out Tryd.underlying53 rfl (by kernel_rfl) ?_; simp only [Act.put, List.setIfInBounds_toArray, List.set_cons_zero, List.set_cons_succ]) | (refine wpList_load_row rfl 53 _ rfl w2.heap.size rfl 53 _ (0, 0) _ N3.out Tryd.underlying53 rfl (by kernel_rfl) ?_; simp only [Act.put, List.setIfInBounds_toArray, List.set_cons_zero, List.set_cons_succ]))
  generalize w2.alloc (.cells #[.int .i64 a', .int .i64 b', .int .i64 c'] 53) = wb at *
  generalize w2.heap.size = g2 at *
  refine (HD.out wb).mono ?_
  rintro e w3 ⟨rfl, b3⟩
  have k2 := (b3.block _ (show g1 < wb.heap.size by omega)).trans N2.out
  have k3 := (b3.block _ z2).trans N3.out
  have K2 := Lib.hid k2; have K3 := Lib.hid k3
  have M3 := Lib.hid (M2.out.trans (b3.mono (by omega)))
  clear k2 k3 b3 N2 N3 M2 HC1 HC2 HD HE
  have hi := HIN.out
  have hneg : IntKind.i64.wrap (-n) = -n := IntWalk.i64_in _ (by omega)
  rcases Int.lt_trichotomy n 0 with h | h | h
  · have hmax : (if n < -n then -n else n) = -n := if_pos (by omega)
    have hf : decide (707281 < -n) = false := decide_eq_false (by omega)
    have hg : ¬ 707281 < -n := by omega
    go_wp2_with fail
    exact HX.out _ g1 g2 _ _ _ _ _ _ _ _ _ _ _ _ _ _ _ _ _ _ _ _ _ _ _ _ _ _ _ _ _ _ _ _ _ _ _ _ _ _ _ _ _ _ _ _ _ _ _ _ _ _ _ _ _ _ _ _ _ _ _ _ _ _ _ _ _ _ _ _ _ _ _ _ _ _ _ _ _ _ _ _ _ _ _ _ _ _ _ _ _ _ _ _ _ _ _ _ M3.out K2.out K3.out
  · subst h
    clear hi hneg
    go_wp2_with fail
    exact HX.out _ g1 g2 _ _ _ _ _ _ _ _ _ _ _ _ _ _ _ _ _ _ _ _ _ _ _ _ _ _ _ _ _ _ _ _ _ _ _ _ _ _ _ _ _ _ _ _ _ _ _ _ _ _ _ _ _ _ _ _ _ _ _ _ _ _ _ _ _ _ _ _ _ _ _ _ _ _ _ _ _ _ _ _ _ _ _ _ _ _ _ _ _ _ _ _ _ _ _ _ M3.out K2.out K3.out
  · have hmax : (if n < -n then -n else n) = n := if_neg (by omega)
    have hf : decide (707281 < n) = false := decide_eq_false (by omega)
    have hg : ¬ 707281 < n := by omega
    go_wp2_with fail
    exact HX.out _ g1 g2 _ _ _ _ _ _ _ _ _ _ _ _ _ _ _ _ _ _ _ _ _ _ _ _ _ _ _ _ _ _ _ _ _ _ _ _ _ _ _ _ _ _ _ _ _ _ _ _ _ _ _ _ _ _ _ _ _ _ _ _ _ _ _ _ _ _ _ _ _ _ _ _ _ _ _ _ _ _ _ _ _ _ _ _ _ _ _ _ _ _ _ _ _ _ _ _ M3.out K2.out K3.out
set_option maxRecDepth 100000 in
set_option maxHeartbeats 8000000 in
theorem all_fits (s : Sgn) (d v : Nat) (hs : 0 ≤ s.dir ∧ s.dir ≤ 8) (hl : 1 ≤ s.level ∧ s.level ≤ 3) (hd : d ≤ 8) (hv : 1 ≤ v ∧ v ≤ 3) (vl : Value) (A K X1 Y1 : Nat) (ta tc : Int) (hta : 0 ≤ ta ∧ ta ≤ 32768) (htc : 0 ≤ tc ∧ tc ≤ 32768) (lm many : Int) (w : World) (hk : w.heap[K]? = some (.cells (sgnA s) 41 (0, 0)))
    (c2 : w.cell? ⟨A, 2, none⟩ = some (.int .i64 ta)) (c4 : w.cell? ⟨A, 4, none⟩ = some (.int .i64 tc)) (hx : w.heap[X1]? = some (.cells #[.int .i64 (vecX s.dir s.level), .int .i64 (vecY s.dir s.level), .int .i64 (vecZ s.dir s.level)] 53 (0, 0))) (hy : w.heap[Y1]? = some (.cells #[.int .i64 (vecX (d : Int) (v : Int)), .int .i64 (vecY (d : Int) (v : Int)), .int .i64 (vecZ (d : Int) (v : Int))] 53 (0, 0))) (e0 e1 e2 e4 e6 e8 e10 e16 e18 e20 e21 e22 e23 e24 e25 e26 e27 e28 e29 e30 e31 e32 e33 e34 e35 e36 e37 e38 e39 e40 e41 e42 e43 e44 e45 e46 e47 e48 e49 e50 e51 e52 e53 e54 e55 e56 e57 e58 e59 e60 e61 e62 e63 e64 e65 e66 e67 e68 e69 e70 e71 e72 e73 e74 e75 e76 e77 e78 e79 e80 e81 e82 e83 e84 e85 e86 e87 e88 e89 e90 e91 e92 e93 e94 e95 e96 e97 e98 e99 e100 e101 e102 e103 e104 e105 e106 e107 e108 e109 e110 e111 e112 e113 e114 e115 e116 e117 e118 e119 e120 e121 e122 e123 e124 e125 e126 e127 e128 e129 e130 e131 e132 e133 e134 e135 e136 e137 e138 e139 e140 e141 e142 e143 e144 e145 e146 e147 e148 e149 e150 e151 e152 e153 e154 e155 e156 e157 e158 e159 e160 e161 e162 e163 e164 e165 e166 e167 e168 e169 e170 e171 e172 e173 e174 e175 e176 e177 e178 e179 e180 e181 e182 e183 e184 e185 e186 e187 e188 : Value) (Q : Exit → Act → World → Prop) (X : Code)
    (hX : ∀ (u15 u16 u17 u18 u19 u20 u22 u75 u76 u77 u78 u79 u80 u81 u82 u83 u84 u85 u86 u87 u88 u89 u90 u91 u92 u93 u94 u95 u96 u97 u98 u99 u100 u101 u102 u103 u104 u105 u106 u107 u108 u109 u110 u111 u112 u113 u114 u115 u116 u117 u118 u119 u120 u121 u122 u123 u124 u125 u126 u127 u128 u129 u130 u131 u132 u133 u134 u135 u136 u137 u138 u139 u140 u141 u142 u143 u144 u145 u146 u147 u148 u149 u150 u151 u152 u153 u154 u155 u156 u157 u158 u159 u160 u161 u162 u163 u164 u165 : Value), Code.wp Tryd.prog X Q { tmps := #[e0, e1, e2, .pointer (some ⟨A, 0, none⟩), e4, .pointer (some ⟨A + 1, 0, none⟩), e6, .pointer (some ⟨K, 0, none⟩), e8, vl, e10, .int .i64 lm, .int .i64 many, .int .i64 (d : Nat), .int .i64 (v : Nat), u15, u16, u17, u18, u19, u20, .bool (fitB ta tc s d v), u22, e23, e24, e25, e26, e27, e28, e29, e30, e31, e32, e33, e34, e35, e36, e37, e38, e39, e40, e41, e42, e43, e44, e45, e46, e47, e48, e49, e50, e51, e52, e53, e54, e55, e56, e57, e58, e59, e60, e61, e62, e63, e64, e65, e66, e67, e68, e69, e70, e71, e72, e73, e74, u75, u76, u77, u78, u79, u80, u81, u82, u83, u84, u85, u86, u87, u88, u89, u90, u91, u92, u93, u94, u95, u96, u97, u98, u99, u100, u101, u102, u103, u104, u105, u106, u107, u108, u109, u110, u111, u112, u113, u114, u115, u116, u117, u118, u119, u120, u121, u122, u123, u124, u125, u126, u127, u128, u129, u130, u131, u132, u133, u134, u135, u136, u137, u138, u139, u140, u141, u142, u143, u144, u145, u146, u147, u148, u149, u150, u151, u152, u153, u154, u155, u156, u157, u158, u159, u160, u161, u162, u163, u164, u165, e166, e167, e168, e169, e170, e171, e172, e173, e174, e175, e176, e177, e178, e179, e180, e181, e182, e183, e184, e185, e186, e187, e188], defers := [] } w) :
    Code.wp Tryd.prog (withLast 1 body3n4 X) Q { tmps := #[e0, e1, e2, .pointer (some ⟨A, 0, none⟩), e4, .pointer (some ⟨A + 1, 0, none⟩), e6, .pointer (some ⟨K, 0, none⟩), e8, vl, e10, .int .i64 lm, .int .i64 many, .int .i64 (d : Nat), .int .i64 (v : Nat), .pointer (some ⟨X1, 0, none⟩), e16, .pointer (some ⟨Y1, 0, none⟩), e18, .int .i64 (dotI s.dir s.level d v), e20, e21, e22, e23, e24, e25, e26, e27, e28, e29, e30, e31, e32, e33, e34, e35, e36, e37, e38, e39, e40, e41, e42, e43, e44, e45, e46, e47, e48, e49, e50, e51, e52, e53, e54, e55, e56, e57, e58, e59, e60, e61, e62, e63, e64, e65, e66, e67, e68, e69, e70, e71, e72, e73, e74, e75, e76, e77, e78, e79, e80, e81, e82, e83, e84, e85, e86, e87, e88, e89, e90, e91, e92, e93, e94, e95, e96, e97, e98, e99, e100, e101, e102, e103, e104, e105, e106, e107, e108, e109, e110, e111, e112, e113, e114, e115, e116, e117, e118, e119, e120, e121, e122, e123, e124, e125, e126, e127, e128, e129, e130, e131, e132, e133, e134, e135, e136, e137, e138, e139, e140, e141, e142, e143, e144, e145, e146, e147, e148, e149, e150, e151, e152, e153, e154, e155, e156, e157, e158, e159, e160, e161, e162, e163, e164, e165, e166, e167, e168, e169, e170, e171, e172, e173, e174, e175, e176, e177, e178, e179, e180, e181, e182, e183, e184, e185, e186, e187, e188], defers := [] } w := by
  have c6 : w.cell? ⟨K, 6, none⟩ = some (.int .i64 s.dir) := cell_at hk 6 rfl
  have c7 : w.cell? ⟨K, 7, none⟩ = some (.int .i64 s.level) := cell_at hk 7 rfl
  have hin := dot_in (a := s.dir) (l := s.level) (d := d) (v := v) hs hl (by omega) (by omega)
  obtain ⟨q1, q2⟩ := dotc_bd (a := dotI s.dir s.level d v) (b := tc) (by omega) htc
  have fitD : fitB ta tc s d v = (ownB s d v || (nzB s.dir s.level && nzB d v && decide (ta * 707281 ≤ dotI s.dir s.level d v * tc))) := rfl
  have ownD : ownB s d v = (decide ((d : Int) = s.dir) && decide ((v : Int) = s.level)) := rfl
  have hq1 := fun w => neq_vec (vecX s.dir s.level) (vecY s.dir s.level) (vecZ s.dir s.level) 0 0 0 w
  have hq2 := fun w => neq_vec (vecX d v) (vecY d v) (vecZ d v) 0 0 0 w
  have hn1 : (!(vecX s.dir s.level == 0 && vecY s.dir s.level == 0 && vecZ s.dir s.level == 0)) = nzB s.dir s.level := rfl
  have hn2 : (!(vecX d v == 0 && vecY d v == 0 && vecZ d v == 0)) = nzB d v := rfl
  simp only [hn1] at hq1
  simp only [hn2] at hq2
  clear hk hs hl hd hv hn1 hn2
  generalize dotI s.dir s.level d v = n at *
  generalize vecX s.dir s.level = a at *
  generalize vecY s.dir s.level = b at *
  generalize vecZ s.dir s.level = c at *
  generalize vecX d v = a' at *
  generalize vecY d v = b' at *
  generalize vecZ d v = c' at *
  have W1 : IntKind.i64.wrap (ta * 841) = ta * 841 := IntWalk.i64_in _ (by omega)
  have W2 : IntKind.i64.wrap (ta * 841 * 841) = ta * 841 * 841 := IntWalk.i64_in _ (by omega)
  have W3 : IntKind.i64.wrap (n * tc) = n * tc := IntWalk.i64_in _ (by omega)
  have HX := Lib.hid hX; have HXC := Lib.hid hx; have HYC := Lib.hid hy
  clear hX hx hy hin q1 q2
  generalize fitB ta tc s d v = fb at *
  have hass : ta * 707281 = ta * 841 * 841 := by omega
  rw [hass] at fitD
  clear hass
  unfold body3n4 body3 loop3b loop3a code3
  conv => arg 2; whnf
  simp only [withLast]
  by_cases ho : (d : Int) = s.dir ∧ (v : Int) = s.level
  · have f1 : ((d : Int) == s.dir) = true := by simpa using ho.1
    have f2 : ((v : Int) == s.level) = true := by simpa using ho.2
    have hF : fb = true := by rw [fitD, ownD, decide_eq_true ho.1, decide_eq_true ho.2]; rfl
    subst hF
    clear ho ownD fitD
    go_wp2_with fail
    exact HX.out _ _ _ _ _ _ _ _ _ _ _ _ _ _ _ _ _ _ _ _ _ _ _ _ _ _ _ _ _ _ _ _ _ _ _ _ _ _ _ _ _ _ _ _ _ _ _ _ _ _ _ _ _ _ _ _ _ _ _ _ _ _ _ _ _ _ _ _ _ _ _ _ _ _ _ _ _ _ _ _ _ _ _ _ _ _ _ _ _ _ _ _ _ _ _ _ _ _
  · have hoB : ownB s d v = false := by
      rw [ownD, Bool.and_eq_false_iff, decide_eq_false_iff_not, decide_eq_false_iff_not]
      by_cases h : (d : Int) = s.dir
      · exact Or.inr fun h2 => ho ⟨h, h2⟩
      · exact Or.inl h
    rw [hoB, Bool.false_or] at fitD
    have hcs : ((d : Int) == s.dir) = false ∨ (((d : Int) == s.dir) = true ∧ ((v : Int) == s.level) = false) := by
      by_cases h : (d : Int) = s.dir
      · exact Or.inr ⟨by simpa using h, by simpa using fun h2 => ho ⟨h, h2⟩⟩
      · exact Or.inl (by simpa using h)
    have FD := Lib.hid fitD
    clear ho ownD fitD hoB
    cases hnx : nzB s.dir s.level with
    | false =>
      have hF : fb = false := by rw [FD.out, hnx]; rfl
      subst hF
      rw [hnx] at hq1
      clear FD hnx
      rcases hcs with f1 | ⟨f1, f2⟩ <;>
      · go_wp2_with (first | (refine wpList_load_row_at rfl 53 _ rfl X1 rfl 53 _ (0, 0) _ HXC.out Tryd.underlying53 rfl (by kernel_rfl) ?_; simp only [Act.put, List.setIfInBounds_toArray, List.set_cons_zero, List.set_cons_succ]) | (refine wpList_load_row_at rfl 53 _ rfl Y1 rfl 53 _ (0, 0) _ HYC.out Tryd.underlying53 rfl (by kernel_rfl) ?_; simp only [Act.put, List.setIfInBounds_toArray, List.set_cons_zero, List.set_cons_succ]))
        exact HX.out _ _ _ _ _ _ _ _ _ _ _ _ _ _ _ _ _ _ _ _ _ _ _ _ _ _ _ _ _ _ _ _ _ _ _ _ _ _ _ _ _ _ _ _ _ _ _ _ _ _ _ _ _ _ _ _ _ _ _ _ _ _ _ _ _ _ _ _ _ _ _ _ _ _ _ _ _ _ _ _ _ _ _ _ _ _ _ _ _ _ _ _ _ _ _ _ _ _
    | true =>
    cases hny : nzB d v with
    | false =>
      have hF : fb = false := by rw [FD.out, hnx, hny]; rfl
      subst hF
      rw [hnx] at hq1
      rw [hny] at hq2
      clear FD hnx hny
      rcases hcs with f1 | ⟨f1, f2⟩ <;>
      · go_wp2_with (first | (refine wpList_load_row_at rfl 53 _ rfl X1 rfl 53 _ (0, 0) _ HXC.out Tryd.underlying53 rfl (by kernel_rfl) ?_; simp only [Act.put, List.setIfInBounds_toArray, List.set_cons_zero, List.set_cons_succ]) | (refine wpList_load_row_at rfl 53 _ rfl Y1 rfl 53 _ (0, 0) _ HYC.out Tryd.underlying53 rfl (by kernel_rfl) ?_; simp only [Act.put, List.setIfInBounds_toArray, List.set_cons_zero, List.set_cons_succ]))
        exact HX.out _ _ _ _ _ _ _ _ _ _ _ _ _ _ _ _ _ _ _ _ _ _ _ _ _ _ _ _ _ _ _ _ _ _ _ _ _ _ _ _ _ _ _ _ _ _ _ _ _ _ _ _ _ _ _ _ _ _ _ _ _ _ _ _ _ _ _ _ _ _ _ _ _ _ _ _ _ _ _ _ _ _ _ _ _ _ _ _ _ _ _ _ _ _ _ _ _ _
    | true =>
      have hF : fb = decide (ta * 841 * 841 ≤ n * tc) := by rw [FD.out, hnx, hny]; rfl
      rw [hnx] at hq1
      rw [hny] at hq2
      clear FD hnx hny
      generalize hdec : decide (ta * 841 * 841 ≤ n * tc) = dd at *
      subst hF
      rcases hcs with f1 | ⟨f1, f2⟩ <;>
      · go_wp2_with (first | (refine wpList_load_row_at rfl 53 _ rfl X1 rfl 53 _ (0, 0) _ HXC.out Tryd.underlying53 rfl (by kernel_rfl) ?_; simp only [Act.put, List.setIfInBounds_toArray, List.set_cons_zero, List.set_cons_succ]) | (refine wpList_load_row_at rfl 53 _ rfl Y1 rfl 53 _ (0, 0) _ HYC.out Tryd.underlying53 rfl (by kernel_rfl) ?_; simp only [Act.put, List.setIfInBounds_toArray, List.set_cons_zero, List.set_cons_succ]))
        exact HX.out _ _ _ _ _ _ _ _ _ _ _ _ _ _ _ _ _ _ _ _ _ _ _ _ _ _ _ _ _ _ _ _ _ _ _ _ _ _ _ _ _ _ _ _ _ _ _ _ _ _ _ _ _ _ _ _ _ _ _ _ _ _ _ _ _ _ _ _ _ _ _ _ _ _ _ _ _ _ _ _ _ _ _ _ _ _ _ _ _ _ _ _ _ _ _ _ _ _
set_option maxRecDepth 100000 in
set_option maxHeartbeats 8000000 in
theorem all_want (b : Bod) (d v i top : Nat) (hi : i < 3) (htop : topOf b i = top) (fb : Bool) (vl : Value) (A K : Nat) (many : Int) (w : World) (hb : w.heap[A + 1]? = some (.cells (bodCells b) 36 (0, 0))) (e0 e1 e2 e4 e6 e8 e10 e15 e16 e17 e18 e19 e20 e22 e23 e24 e25 e26 e27 e28 e29 e30 e31 e32 e33 e34 e35 e36 e37 e38 e39 e40 e41 e42 e43 e44 e45 e46 e47 e48 e49 e50 e51 e52 e53 e54 e55 e56 e57 e58 e59 e60 e61 e62 e63 e64 e65 e66 e67 e68 e69 e70 e71 e72 e73 e74 e75 e76 e77 e78 e79 e80 e81 e82 e83 e84 e85 e86 e87 e88 e89 e90 e91 e92 e93 e94 e95 e96 e97 e98 e99 e100 e101 e102 e103 e104 e105 e106 e107 e108 e109 e110 e111 e112 e113 e114 e115 e116 e117 e118 e119 e120 e121 e122 e123 e124 e125 e126 e127 e128 e129 e130 e131 e132 e133 e134 e135 e136 e137 e138 e139 e140 e141 e142 e143 e144 e145 e146 e147 e148 e149 e150 e151 e152 e153 e154 e155 e156 e157 e158 e159 e160 e161 e162 e163 e164 e165 e166 e167 e168 e169 e170 e171 e172 e173 e174 e175 e176 e177 e178 e179 e180 e181 e182 e183 e184 e185 e186 e187 e188 : Value) (Q : Exit → Act → World → Prop) (X : Code)
    (hX : ∀ (u15 u16 u17 u18 u19 u20 u21 u75 u76 u77 u78 u79 u80 u81 u82 u83 u84 u85 u86 u87 u88 u89 u90 u91 u92 u93 u94 u95 u96 u97 u98 u99 u100 u101 u102 u103 u104 u105 u106 u107 u108 u109 u110 u111 u112 u113 u114 u115 u116 u117 u118 u119 u120 u121 u122 u123 u124 u125 u126 u127 u128 u129 u130 u131 u132 u133 u134 u135 u136 u137 u138 u139 u140 u141 u142 u143 u144 u145 u146 u147 u148 u149 u150 u151 u152 u153 u154 u155 u156 u157 u158 u159 u160 u161 u162 u163 u164 u165 : Value), Code.wp Tryd.prog X Q { tmps := #[e0, e1, e2, .pointer (some ⟨A, 0, none⟩), e4, .pointer (some ⟨A + 1, 0, none⟩), e6, .pointer (some ⟨K, 0, none⟩), e8, vl, e10, .int .i64 (i : Nat), .int .i64 many, .int .i64 (d : Nat), .int .i64 (v : Nat), u15, u16, u17, u18, u19, u20, u21, .int .i64 ((if fb && decide (v ≤ top) then 1 else 0 : Nat) : Int), e23, e24, e25, e26, e27, e28, e29, e30, e31, e32, e33, e34, e35, e36, e37, e38, e39, e40, e41, e42, e43, e44, e45, e46, e47, e48, e49, e50, e51, e52, e53, e54, e55, e56, e57, e58, e59, e60, e61, e62, e63, e64, e65, e66, e67, e68, e69, e70, e71, e72, e73, e74, u75, u76, u77, u78, u79, u80, u81, u82, u83, u84, u85, u86, u87, u88, u89, u90, u91, u92, u93, u94, u95, u96, u97, u98, u99, u100, u101, u102, u103, u104, u105, u106, u107, u108, u109, u110, u111, u112, u113, u114, u115, u116, u117, u118, u119, u120, u121, u122, u123, u124, u125, u126, u127, u128, u129, u130, u131, u132, u133, u134, u135, u136, u137, u138, u139, u140, u141, u142, u143, u144, u145, u146, u147, u148, u149, u150, u151, u152, u153, u154, u155, u156, u157, u158, u159, u160, u161, u162, u163, u164, u165, e166, e167, e168, e169, e170, e171, e172, e173, e174, e175, e176, e177, e178, e179, e180, e181, e182, e183, e184, e185, e186, e187, e188], defers := [] } w) :
    Code.wp Tryd.prog (withLast 2 body3n5 X) Q { tmps := #[e0, e1, e2, .pointer (some ⟨A, 0, none⟩), e4, .pointer (some ⟨A + 1, 0, none⟩), e6, .pointer (some ⟨K, 0, none⟩), e8, vl, e10, .int .i64 (i : Nat), .int .i64 many, .int .i64 (d : Nat), .int .i64 (v : Nat), e15, e16, e17, e18, e19, e20, .bool fb, e22, e23, e24, e25, e26, e27, e28, e29, e30, e31, e32, e33, e34, e35, e36, e37, e38, e39, e40, e41, e42, e43, e44, e45, e46, e47, e48, e49, e50, e51, e52, e53, e54, e55, e56, e57, e58, e59, e60, e61, e62, e63, e64, e65, e66, e67, e68, e69, e70, e71, e72, e73, e74, e75, e76, e77, e78, e79, e80, e81, e82, e83, e84, e85, e86, e87, e88, e89, e90, e91, e92, e93, e94, e95, e96, e97, e98, e99, e100, e101, e102, e103, e104, e105, e106, e107, e108, e109, e110, e111, e112, e113, e114, e115, e116, e117, e118, e119, e120, e121, e122, e123, e124, e125, e126, e127, e128, e129, e130, e131, e132, e133, e134, e135, e136, e137, e138, e139, e140, e141, e142, e143, e144, e145, e146, e147, e148, e149, e150, e151, e152, e153, e154, e155, e156, e157, e158, e159, e160, e161, e162, e163, e164, e165, e166, e167, e168, e169, e170, e171, e172, e173, e174, e175, e176, e177, e178, e179, e180, e181, e182, e183, e184, e185, e186, e187, e188], defers := [] } w := by
  have ct : w.cell? ⟨A + 1, 12 + i, none⟩ = some (.int .i64 top) := by
    rw [← htop]
    refine cell_at hb (12 + i) ?_
    rcases i with _ | _ | _ | i
    · rfl
    · rfl
    · rfl
    · omega
  have hi1 : (i : Int) < 3 := by omega
  have HX := Lib.hid hX
  clear hX hb htop
  unfold body3n5 body3 loop3b loop3a code3
  conv => arg 2; whnf
  simp only [withLast]
  cases fb with
  | false =>
    go_wp2_with fail
    exact HX.out _ _ _ _ _ _ _ _ _ _ _ _ _ _ _ _ _ _ _ _ _ _ _ _ _ _ _ _ _ _ _ _ _ _ _ _ _ _ _ _ _ _ _ _ _ _ _ _ _ _ _ _ _ _ _ _ _ _ _ _ _ _ _ _ _ _ _ _ _ _ _ _ _ _ _ _ _ _ _ _ _ _ _ _ _ _ _ _ _ _ _ _ _ _ _ _ _ _
  | true =>
    by_cases h : v ≤ top
    · rw [decide_eq_true h] at HX
      go_wp2_with fail
      exact HX.out _ _ _ _ _ _ _ _ _ _ _ _ _ _ _ _ _ _ _ _ _ _ _ _ _ _ _ _ _ _ _ _ _ _ _ _ _ _ _ _ _ _ _ _ _ _ _ _ _ _ _ _ _ _ _ _ _ _ _ _ _ _ _ _ _ _ _ _ _ _ _ _ _ _ _ _ _ _ _ _ _ _ _ _ _ _ _ _ _ _ _ _ _ _ _ _ _ _
    · rw [decide_eq_false h] at HX
      go_wp2_with fail
      exact HX.out _ _ _ _ _ _ _ _ _ _ _ _ _ _ _ _ _ _ _ _ _ _ _ _ _ _ _ _ _ _ _ _ _ _ _ _ _ _ _ _ _ _ _ _ _ _ _ _ _ _ _ _ _ _ _ _ _ _ _ _ _ _ _ _ _ _ _ _ _ _ _ _ _ _ _ _ _ _ _ _ _ _ _ _ _ _ _ _ _ _ _ _ _ _ _ _ _ _
set_option maxRecDepth 100000 in
set_option maxHeartbeats 8000000 in
theorem all_has (s : Sgn) (d v want : Nat) (ao : Option Addr) (c : Nat) (xs : List Rea) (hw : hasN xs ⟨s.id, d, v, false⟩ = want) (A K : Nat) (lm many : Int) (hm : 0 ≤ many ∧ many + want ≤ 1000) (w : World) (hk : w.heap[K]? = some (.cells (sgnA s) 41 (0, 0))) (hx : IsRow encRea 4 w (.slice ao xs.length c) xs) (e0 e1 e2 e4 e6 e8 e10 e15 e16 e17 e18 e19 e20 e21 e23 e24 e25 e26 e27 e28 e29 e30 e31 e32 e33 e34 e35 e36 e37 e38 e39 e40 e41 e42 e43 e44 e45 e46 e47 e48 e49 e50 e51 e52 e53 e54 e55 e56 e57 e58 e59 e60 e61 e62 e63 e64 e65 e66 e67 e68 e69 e70 e71 e72 e73 e74 e75 e76 e77 e78 e79 e80 e81 e82 e83 e84 e85 e86 e87 e88 e89 e90 e91 e92 e93 e94 e95 e96 e97 e98 e99 e100 e101 e102 e103 e104 e105 e106 e107 e108 e109 e110 e111 e112 e113 e114 e115 e116 e117 e118 e119 e120 e121 e122 e123 e124 e125 e126 e127 e128 e129 e130 e131 e132 e133 e134 e135 e136 e137 e138 e139 e140 e141 e142 e143 e144 e145 e146 e147 e148 e149 e150 e151 e152 e153 e154 e155 e156 e157 e158 e159 e160 e161 e162 e163 e164 e165 e166 e167 e168 e169 e170 e171 e172 e173 e174 e175 e176 e177 e178 e179 e180 e181 e182 e183 e184 e185 e186 e187 e188 : Value) (Q : Exit → Act → World → Prop)
    (hQ : ∀ (w' : World) (u15 u16 u17 u18 u19 u20 u21 u75 u76 u77 u78 u79 u80 u81 u82 u83 u84 u85 u86 u87 u88 u89 u90 u91 u92 u93 u94 u95 u96 u97 u98 u99 u100 u101 u102 u103 u104 u105 u106 u107 u108 u109 u110 u111 u112 u113 u114 u115 u116 u117 u118 u119 u120 u121 u122 u123 u124 u125 u126 u127 u128 u129 u130 u131 u132 u133 u134 u135 u136 u137 u138 u139 u140 u141 u142 u143 u144 u145 u146 u147 u148 u149 u150 u151 u152 u153 u154 u155 u156 u157 u158 u159 u160 u161 u162 u163 u164 u165 : Value), Below w.heap.size w w' → Q .normal { tmps := #[e0, e1, e2, .pointer (some ⟨A, 0, none⟩), e4, .pointer (some ⟨A + 1, 0, none⟩), e6, .pointer (some ⟨K, 0, none⟩), e8, .slice ao xs.length c, e10, .int .i64 lm, .int .i64 (many + (want : Nat)), .int .i64 (d : Nat), .int .i64 (v : Nat), u15, u16, u17, u18, u19, u20, u21, .int .i64 (want : Nat), e23, e24, e25, e26, e27, e28, e29, e30, e31, e32, e33, e34, e35, e36, e37, e38, e39, e40, e41, e42, e43, e44, e45, e46, e47, e48, e49, e50, e51, e52, e53, e54, e55, e56, e57, e58, e59, e60, e61, e62, e63, e64, e65, e66, e67, e68, e69, e70, e71, e72, e73, e74, u75, u76, u77, u78, u79, u80, u81, u82, u83, u84, u85, u86, u87, u88, u89, u90, u91, u92, u93, u94, u95, u96, u97, u98, u99, u100, u101, u102, u103, u104, u105, u106, u107, u108, u109, u110, u111, u112, u113, u114, u115, u116, u117, u118, u119, u120, u121, u122, u123, u124, u125, u126, u127, u128, u129, u130, u131, u132, u133, u134, u135, u136, u137, u138, u139, u140, u141, u142, u143, u144, u145, u146, u147, u148, u149, u150, u151, u152, u153, u154, u155, u156, u157, u158, u159, u160, u161, u162, u163, u164, u165, e166, e167, e168, e169, e170, e171, e172, e173, e174, e175, e176, e177, e178, e179, e180, e181, e182, e183, e184, e185, e186, e187, e188], defers := [] } w') :
    Code.wp Tryd.prog body3n7 Q { tmps := #[e0, e1, e2, .pointer (some ⟨A, 0, none⟩), e4, .pointer (some ⟨A + 1, 0, none⟩), e6, .pointer (some ⟨K, 0, none⟩), e8, .slice ao xs.length c, e10, .int .i64 lm, .int .i64 many, .int .i64 (d : Nat), .int .i64 (v : Nat), e15, e16, e17, e18, e19, e20, e21, .int .i64 (want : Nat), e23, e24, e25, e26, e27, e28, e29, e30, e31, e32, e33, e34, e35, e36, e37, e38, e39, e40, e41, e42, e43, e44, e45, e46, e47, e48, e49, e50, e51, e52, e53, e54, e55, e56, e57, e58, e59, e60, e61, e62, e63, e64, e65, e66, e67, e68, e69, e70, e71, e72, e73, e74, e75, e76, e77, e78, e79, e80, e81, e82, e83, e84, e85, e86, e87, e88, e89, e90, e91, e92, e93, e94, e95, e96, e97, e98, e99, e100, e101, e102, e103, e104, e105, e106, e107, e108, e109, e110, e111, e112, e113, e114, e115, e116, e117, e118, e119, e120, e121, e122, e123, e124, e125, e126, e127, e128, e129, e130, e131, e132, e133, e134, e135, e136, e137, e138, e139, e140, e141, e142, e143, e144, e145, e146, e147, e148, e149, e150, e151, e152, e153, e154, e155, e156, e157, e158, e159, e160, e161, e162, e163, e164, e165, e166, e167, e168, e169, e170, e171, e172, e173, e174, e175, e176, e177, e178, e179, e180, e181, e182, e183, e184, e185, e186, e187, e188], defers := [] } w := by
  have c0 : w.cell? ⟨K, 0, none⟩ = some (.int .i64 s.id) := cell_at hk 0 rfl
  have hh := has_any ao c xs ⟨s.id, d, v, false⟩ w hx
  rw [hw] at hh
  unfold reaV at hh
  have W1 : IntKind.i64.wrap (many + (want : Nat)) = many + (want : Nat) := IntWalk.i64_in _ (by omega)
  have f0 : ((want : Int) != (want : Int)) = false := by simp
  have HX := Lib.hid hQ; have HH := Lib.hid hh
  clear hQ hk hx hw hh hm
  generalize xs.length = n at *
  generalize hwn : ((want : Nat) : Int) = wn at *
  clear hwn
  unfold body3n7 body3 loop3b loop3a code3
  conv => arg 2; whnf
  go_wp2_with fail
  refine HH.out.mono ?_
  rintro e w' ⟨rfl, hb⟩
  have HB := Lib.hid hb
  clear hb HH c0
  go_wp2_with fail
  exact HX.out _ _ _ _ _ _ _ _ _ _ _ _ _ _ _ _ _ _ _ _ _ _ _ _ _ _ _ _ _ _ _ _ _ _ _ _ _ _ _ _ _ _ _ _ _ _ _ _ _ _ _ _ _ _ _ _ _ _ _ _ _ _ _ _ _ _ _ _ _ _ _ _ _ _ _ _ _ _ _ _ _ _ _ _ _ _ _ _ _ _ _ _ _ _ _ _ _ _ _ HB.out
set_option maxRecDepth 100000 in
set_option maxHeartbeats 8000000 in
theorem all_round (k : Wrk) (s : Sgn) (b : Bod) (top i : Nat) (F : AllFacts k s b top) (hi : i < 3) (htop : topOf b i = top) (hta : 0 ≤ k.ta ∧ k.ta ≤ 32768) (htc : 0 ≤ k.tc ∧ k.tc ≤ 32768) (ws : Array Value) (hw2 : ws[2]? = some (.int .i64 k.ta)) (hw4 : ws[4]? = some (.int .i64 k.tc)) (d v : Nat) (hd : d ≤ 8) (hv : 1 ≤ v ∧ v ≤ 3) (ao : Option Addr) (c A K : Nat) (many : Int) (hm : 0 ≤ many ∧ many ≤ 100)
    (w : World) (hE : Env w) (hz : 2 ≤ w.heap.size) (g0 : w.heap[A]? = some (.cells ws 32 (0, 0))) (g1 : w.heap[A + 1]? = some (.cells (bodCells b) 36 (0, 0))) (g2 : w.heap[K]? = some (.cells (sgnA s) 41 (0, 0))) (hrow : IsRow encRea 4 w (.slice ao (optL k s b).length c) (optL k s b)) (e0 e1 e2 e4 e6 e8 e10 e15 e16 e17 e18 e19 e20 e21 e22 e23 e24 e25 e26 e27 e28 e29 e30 e31 e32 e33 e34 e35 e36 e37 e38 e39 e40 e41 e42 e43 e44 e45 e46 e47 e48 e49 e50 e51 e52 e53 e54 e55 e56 e57 e58 e59 e60 e61 e62 e63 e64 e65 e66 e67 e68 e69 e70 e71 e72 e73 e74 e75 e76 e77 e78 e79 e80 e81 e82 e83 e84 e85 e86 e87 e88 e89 e90 e91 e92 e93 e94 e95 e96 e97 e98 e99 e100 e101 e102 e103 e104 e105 e106 e107 e108 e109 e110 e111 e112 e113 e114 e115 e116 e117 e118 e119 e120 e121 e122 e123 e124 e125 e126 e127 e128 e129 e130 e131 e132 e133 e134 e135 e136 e137 e138 e139 e140 e141 e142 e143 e144 e145 e146 e147 e148 e149 e150 e151 e152 e153 e154 e155 e156 e157 e158 e159 e160 e161 e162 e163 e164 e165 e166 e167 e168 e169 e170 e171 e172 e173 e174 e175 e176 e177 e178 e179 e180 e181 e182 e183 e184 e185 e186 e187 e188 : Value) (Q : Exit → Act → World → Prop)
    (hQ : ∀ (w' : World) (m2 : Int) (u15 u16 u17 u18 u19 u20 u21 u22 u75 u76 u77 u78 u79 u80 u81 u82 u83 u84 u85 u86 u87 u88 u89 u90 u91 u92 u93 u94 u95 u96 u97 u98 u99 u100 u101 u102 u103 u104 u105 u106 u107 u108 u109 u110 u111 u112 u113 u114 u115 u116 u117 u118 u119 u120 u121 u122 u123 u124 u125 u126 u127 u128 u129 u130 u131 u132 u133 u134 u135 u136 u137 u138 u139 u140 u141 u142 u143 u144 u145 u146 u147 u148 u149 u150 u151 u152 u153 u154 u155 u156 u157 u158 u159 u160 u161 u162 u163 u164 u165 : Value), m2 = many + ((if fitB k.ta k.tc s d v && decide (v ≤ top) then 1 else 0 : Nat) : Int) → Below w.heap.size w w' → Q .normal { tmps := #[e0, e1, e2, .pointer (some ⟨A, 0, none⟩), e4, .pointer (some ⟨A + 1, 0, none⟩), e6, .pointer (some ⟨K, 0, none⟩), e8, .slice ao (optL k s b).length c, e10, .int .i64 (i : Nat), .int .i64 m2, .int .i64 (d : Nat), .int .i64 (v : Nat), u15, u16, u17, u18, u19, u20, u21, u22, e23, e24, e25, e26, e27, e28, e29, e30, e31, e32, e33, e34, e35, e36, e37, e38, e39, e40, e41, e42, e43, e44, e45, e46, e47, e48, e49, e50, e51, e52, e53, e54, e55, e56, e57, e58, e59, e60, e61, e62, e63, e64, e65, e66, e67, e68, e69, e70, e71, e72, e73, e74, u75, u76, u77, u78, u79, u80, u81, u82, u83, u84, u85, u86, u87, u88, u89, u90, u91, u92, u93, u94, u95, u96, u97, u98, u99, u100, u101, u102, u103, u104, u105, u106, u107, u108, u109, u110, u111, u112, u113, u114, u115, u116, u117, u118, u119, u120, u121, u122, u123, u124, u125, u126, u127, u128, u129, u130, u131, u132, u133, u134, u135, u136, u137, u138, u139, u140, u141, u142, u143, u144, u145, u146, u147, u148, u149, u150, u151, u152, u153, u154, u155, u156, u157, u158, u159, u160, u161, u162, u163, u164, u165, e166, e167, e168, e169, e170, e171, e172, e173, e174, e175, e176, e177, e178, e179, e180, e181, e182, e183, e184, e185, e186, e187, e188], defers := [] } w') :
    Code.wp Tryd.prog body3 Q { tmps := #[e0, e1, e2, .pointer (some ⟨A, 0, none⟩), e4, .pointer (some ⟨A + 1, 0, none⟩), e6, .pointer (some ⟨K, 0, none⟩), e8, .slice ao (optL k s b).length c, e10, .int .i64 (i : Nat), .int .i64 many, .int .i64 (d : Nat), .int .i64 (v : Nat), e15, e16, e17, e18, e19, e20, e21, e22, e23, e24, e25, e26, e27, e28, e29, e30, e31, e32, e33, e34, e35, e36, e37, e38, e39, e40, e41, e42, e43, e44, e45, e46, e47, e48, e49, e50, e51, e52, e53, e54, e55, e56, e57, e58, e59, e60, e61, e62, e63, e64, e65, e66, e67, e68, e69, e70, e71, e72, e73, e74, e75, e76, e77, e78, e79, e80, e81, e82, e83, e84, e85, e86, e87, e88, e89, e90, e91, e92, e93, e94, e95, e96, e97, e98, e99, e100, e101, e102, e103, e104, e105, e106, e107, e108, e109, e110, e111, e112, e113, e114, e115, e116, e117, e118, e119, e120, e121, e122, e123, e124, e125, e126, e127, e128, e129, e130, e131, e132, e133, e134, e135, e136, e137, e138, e139, e140, e141, e142, e143, e144, e145, e146, e147, e148, e149, e150, e151, e152, e153, e154, e155, e156, e157, e158, e159, e160, e161, e162, e163, e164, e165, e166, e167, e168, e169, e170, e171, e172, e173, e174, e175, e176, e177, e178, e179, e180, e181, e182, e183, e184, e185, e186, e187, e188], defers := [] } w := by
  refine all_dot s d v F.dir F.level hd hv _ A K _ many w hE hz g2 _ _ _ _ _ _ _ _ _ _ _ _ _ _ _ _ _ _ _ _ _ _ _ _ _ _ _ _ _ _ _ _ _ _ _ _ _ _ _ _ _ _ _ _ _ _ _ _ _ _ _ _ _ _ _ _ _ _ _ _ _ _ _ _ _ _ _ _ _ _ _ _ _ _ _ _ _ _ _ _ _ _ _ _ _ _ _ _ _ _ _ _ _ _ _ _ _ _ _ _ _ _ _ _ _ _ _ _ _ _ _ _ _ _ _ _ _ _ _ _ _ _ _ _ _ _ _ _ _ _ _ _ _ _ _ _ _ _ _ _ _ _ _ _ _ _ _ _ _ _ _ _ _ _ _ _ _ _ _ _ _ _ _ _ _ _ _ _ _ _ _ _ _ _ _ _ _ _ _ _ _ Q (withLast 1 body3n4 (withLast 2 body3n5 body3n7)) ?_
  intro w6 X1 Y1 _ _ _ _ _ _ _ _ _ _ _ _ _ _ _ _ _ _ _ _ _ _ _ _ _ _ _ _ _ _ _ _ _ _ _ _ _ _ _ _ _ _ _ _ _ _ _ _ _ _ _ _ _ _ _ _ _ _ _ _ _ _ _ _ _ _ _ _ _ _ _ _ _ _ _ _ _ _ _ _ _ _ _ _ _ _ _ _ _ _ _ _ _ _ _ _ b6 hx hy
  have hA : A < w.heap.size := (Array.getElem?_eq_some_iff.1 g0).1
  have hA1 : A + 1 < w.heap.size := (Array.getElem?_eq_some_iff.1 g1).1
  have hK : K < w.heap.size := (Array.getElem?_eq_some_iff.1 g2).1
  have g0 := (b6.block _ hA).trans g0
  have g1 := (b6.block _ hA1).trans g1
  have g2 := (b6.block _ hK).trans g2
  refine all_fits s d v F.dir F.level hd hv _ A K X1 Y1 k.ta k.tc hta htc _ many w6 g2 (cell_at g0 2 hw2) (cell_at g0 4 hw4) hx hy _ _ _ _ _ _ _ _ _ _ _ _ _ _ _ _ _ _ _ _ _ _ _ _ _ _ _ _ _ _ _ _ _ _ _ _ _ _ _ _ _ _ _ _ _ _ _ _ _ _ _ _ _ _ _ _ _ _ _ _ _ _ _ _ _ _ _ _ _ _ _ _ _ _ _ _ _ _ _ _ _ _ _ _ _ _ _ _ _ _ _ _ _ _ _ _ _ _ _ _ _ _ _ _ _ _ _ _ _ _ _ _ _ _ _ _ _ _ _ _ _ _ _ _ _ _ _ _ _ _ _ _ _ _ _ _ _ _ _ _ _ _ _ _ _ _ _ _ _ _ _ _ _ _ _ _ _ _ _ _ _ _ _ _ _ _ _ _ _ _ _ _ _ _ _ _ _ _ Q (withLast 2 body3n5 body3n7) ?_
  intro _ _ _ _ _ _ _ _ _ _ _ _ _ _ _ _ _ _ _ _ _ _ _ _ _ _ _ _ _ _ _ _ _ _ _ _ _ _ _ _ _ _ _ _ _ _ _ _ _ _ _ _ _ _ _ _ _ _ _ _ _ _ _ _ _ _ _ _ _ _ _ _ _ _ _ _ _ _ _ _ _ _ _ _ _ _ _ _ _ _ _ _ _ _ _ _ _ _
  refine all_want b d v i top hi htop (fitB k.ta k.tc s d v) _ A K many w6 g1 _ _ _ _ _ _ _ _ _ _ _ _ _ _ _ _ _ _ _ _ _ _ _ _ _ _ _ _ _ _ _ _ _ _ _ _ _ _ _ _ _ _ _ _ _ _ _ _ _ _ _ _ _ _ _ _ _ _ _ _ _ _ _ _ _ _ _ _ _ _ _ _ _ _ _ _ _ _ _ _ _ _ _ _ _ _ _ _ _ _ _ _ _ _ _ _ _ _ _ _ _ _ _ _ _ _ _ _ _ _ _ _ _ _ _ _ _ _ _ _ _ _ _ _ _ _ _ _ _ _ _ _ _ _ _ _ _ _ _ _ _ _ _ _ _ _ _ _ _ _ _ _ _ _ _ _ _ _ _ _ _ _ _ _ _ _ _ _ _ _ _ _ _ _ _ _ _ _ _ _ Q body3n7 ?_
  intro _ _ _ _ _ _ _ _ _ _ _ _ _ _ _ _ _ _ _ _ _ _ _ _ _ _ _ _ _ _ _ _ _ _ _ _ _ _ _ _ _ _ _ _ _ _ _ _ _ _ _ _ _ _ _ _ _ _ _ _ _ _ _ _ _ _ _ _ _ _ _ _ _ _ _ _ _ _ _ _ _ _ _ _ _ _ _ _ _ _ _ _ _ _ _ _ _ _
  have hat := F.at_ d v (by omega) hv.1
  have hat2 : hasN (optL k s b) ⟨s.id, d, v, false⟩ = if fitB k.ta k.tc s d v && decide (v ≤ top) then 1 else 0 := by
    rw [hat]
    by_cases h : v ≤ top <;> cases fitB k.ta k.tc s d v <;> simp [h]
  refine all_has s d v _ ao c (optL k s b) hat2 A K _ many ⟨hm.1, by split <;> omega⟩ w6 g2 (hrow.below b6 (Nat.le_refl _)) _ _ _ _ _ _ _ _ _ _ _ _ _ _ _ _ _ _ _ _ _ _ _ _ _ _ _ _ _ _ _ _ _ _ _ _ _ _ _ _ _ _ _ _ _ _ _ _ _ _ _ _ _ _ _ _ _ _ _ _ _ _ _ _ _ _ _ _ _ _ _ _ _ _ _ _ _ _ _ _ _ _ _ _ _ _ _ _ _ _ _ _ _ _ _ _ _ _ _ _ _ _ _ _ _ _ _ _ _ _ _ _ _ _ _ _ _ _ _ _ _ _ _ _ _ _ _ _ _ _ _ _ _ _ _ _ _ _ _ _ _ _ _ _ _ _ _ _ _ _ _ _ _ _ _ _ _ _ _ _ _ _ _ _ _ _ _ _ _ _ _ _ _ _ _ _ _ _ _ _ Q ?_
  intro w7 _ _ _ _ _ _ _ _ _ _ _ _ _ _ _ _ _ _ _ _ _ _ _ _ _ _ _ _ _ _ _ _ _ _ _ _ _ _ _ _ _ _ _ _ _ _ _ _ _ _ _ _ _ _ _ _ _ _ _ _ _ _ _ _ _ _ _ _ _ _ _ _ _ _ _ _ _ _ _ _ _ _ _ _ _ _ _ _ _ _ _ _ _ _ _ _ _ _ b7
  exact hQ _ _ _ _ _ _ _ _ _ _ _ _ _ _ _ _ _ _ _ _ _ _ _ _ _ _ _ _ _ _ _ _ _ _ _ _ _ _ _ _ _ _ _ _ _ _ _ _ _ _ _ _ _ _ _ _ _ _ _ _ _ _ _ _ _ _ _ _ _ _ _ _ _ _ _ _ _ _ _ _ _ _ _ _ _ _ _ _ _ _ _ _ _ _ _ _ _ _ _ _ _ rfl (b6.trans (b7.mono b6.size))
end Go.Proofs.YtggcbblikgankaaDoor
end
