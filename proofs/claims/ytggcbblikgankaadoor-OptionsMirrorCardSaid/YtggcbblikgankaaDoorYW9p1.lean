/- The walk of the statement: part 1. -/
import Derived.Test.YtggcbblikgankaaDoorZ33
import Derived.Test.YtggcbblikgankaaDoorZ4
import Derived.OrdersHeld
import Derived.Deep.RegionHeld
set_option linter.unusedVariables false
set_option linter.unusedSimpArgs false
section
/- The head of function 5: boxes, sane, pick, guards, Options. -/
namespace Go.Proofs.YtggcbblikgankaaDoor
open Go Go.RowKit

noncomputable def code5 : Code := (Tryd.f5.body).getD .skip
set_option maxRecDepth 100000 in
set_option maxHeartbeats 8000000 in
theorem pick_5 (k : Wrk) (b : Bod) (n : Nat) (hn : n < 65536) (ws : Array Value) (xm : Value) (w : World) (hE : Env w) (hz2 : 2 ≤ w.heap.size) (hW : WkAt k ws w) (R : Ending → World → Prop) (X : Code)
    (hX : ∀ (w3 : World) (K : Nat) (e0 e1 e2 e5 e7 e8 e11 e12 e13 e14 e15 e16 e17 e18 e19 e20 e21 e22 e23 e24 e25 e26 e27 e28 e29 e30 e31 e32 e33 e34 e35 e36 e37 e38 e39 e40 e41 e42 e43 e44 e45 e46 e47 e48 e49 e50 e51 e52 e53 e54 e55 e56 e57 e58 e59 e60 e61 e62 e63 e64 e65 e66 e67 e68 e69 e70 e71 e72 e73 e74 e75 e76 e77 e78 e79 e80 e81 e82 e83 e84 e85 e86 e87 e88 e89 e90 e91 e92 e93 e94 e95 e96 e97 e98 e99 e100 e101 e102 e103 e104 e105 e106 e107 e108 e109 e110 e111 e112 e113 e114 e115 e116 e117 e118 e119 e120 e121 e122 e123 e124 e125 e126 e127 e128 e129 e130 e131 e132 e133 e134 e135 e136 e137 e138 e139 e140 e141 e142 e143 e144 e145 e146 e147 e148 e149 e150 e151 e152 e153 e154 e155 e156 e157 e158 e159 e160 e161 e162 e163 e164 e165 e166 e167 e168 e169 e170 e171 e172 e173 e174 e175 e176 e177 e178 e179 e180 e181 e182 e183 e184 e185 e186 e187 e188 e189 e190 e191 e192 : Value), Below w.heap.size w w3 → w3.heap[w.heap.size]? = some (.cells ws 32 (0, 0)) → w3.heap[w.heap.size + 1]? = some (.cells (bodCells b) 36 (0, 0)) → w3.heap[K]? = some (.cells (pickA k.signs n) 41 (0, 0)) → w.heap.size + 2 ≤ K → Code.wp Tryd.prog X (bodyPost Tryd.prog Tryd.f5 R) { tmps := #[e0, e1, e2, xm, .pointer (some ⟨w.heap.size, 0, none⟩), e5, .pointer (some ⟨w.heap.size + 1, 0, none⟩), e7, e8, .pointer (some ⟨K, 0, none⟩), .bool (decide (k.signs ≠ [])), e11, e12, e13, e14, e15, e16, e17, e18, e19, e20, e21, e22, e23, e24, e25, e26, e27, e28, e29, e30, e31, e32, e33, e34, e35, e36, e37, e38, e39, e40, e41, e42, e43, e44, e45, e46, e47, e48, e49, e50, e51, e52, e53, e54, e55, e56, e57, e58, e59, e60, e61, e62, e63, e64, e65, e66, e67, e68, e69, e70, e71, e72, e73, e74, e75, e76, e77, e78, e79, e80, e81, e82, e83, e84, e85, e86, e87, e88, e89, e90, e91, e92, e93, e94, e95, e96, e97, e98, e99, e100, e101, e102, e103, e104, e105, e106, e107, e108, e109, e110, e111, e112, e113, e114, e115, e116, e117, e118, e119, e120, e121, e122, e123, e124, e125, e126, e127, e128, e129, e130, e131, e132, e133, e134, e135, e136, e137, e138, e139, e140, e141, e142, e143, e144, e145, e146, e147, e148, e149, e150, e151, e152, e153, e154, e155, e156, e157, e158, e159, e160, e161, e162, e163, e164, e165, e166, e167, e168, e169, e170, e171, e172, e173, e174, e175, e176, e177, e178, e179, e180, e181, e182, e183, e184, e185, e186, e187, e188, e189, e190, e191, e192], defers := [] } w3) :
    Code.wp Tryd.prog (withLast 3 code5 X) (bodyPost Tryd.prog Tryd.f5 R) { tmps := #[.agg ws, .int .u16 n, bodV b, xm, undef, undef, undef, undef, undef, undef, undef, undef, undef, undef, undef, undef, undef, undef, undef, undef, undef, undef, undef, undef, undef, undef, undef, undef, undef, undef, undef, undef, undef, undef, undef, undef, undef, undef, undef, undef, undef, undef, undef, undef, undef, undef, undef, undef, undef, undef, undef, undef, undef, undef, undef, undef, undef, undef, undef, undef, undef, undef, undef, undef, undef, undef, undef, undef, undef, undef, undef, undef, undef, undef, undef, undef, undef, undef, undef, undef, undef, undef, undef, undef, undef, undef, undef, undef, undef, undef, undef, undef, undef, undef, undef, undef, undef, undef, undef, undef, undef, undef, undef, undef, undef, undef, undef, undef, undef, undef, undef, undef, undef, undef, undef, undef, undef, undef, undef, undef, undef, undef, undef, undef, undef, undef, undef, undef, undef, undef, undef, undef, undef, undef, undef, undef, undef, undef, undef, undef, undef, undef, undef, undef, undef, undef, undef, undef, undef, undef, undef, undef, undef, undef, undef, undef, undef, undef, undef, undef, undef, undef, undef, undef, undef, undef, undef, undef, undef, undef, undef, undef, undef, undef, undef, undef, undef, undef, undef, undef, undef, undef, undef, undef, undef, undef, undef, undef, undef, undef, undef, undef, undef], defers := [] } w := by
  have hs := hW.size
  obtain ⟨g0, g1, hz, hb⟩ := blocks2 w (.cells ws 32) (.cells (bodCells b) 36)
  have hbv : bodV b = .agg (bodCells b) := rfl
  rw [hbv]
  have hp := fun (W : World) (hB : Below w.heap.size w W) => (hW.below hB (Nat.le_refl _)).pick n hn
  have hsn := fun (W : World) (hB : Below w.heap.size w W) (h : 2 ≤ W.heap.size) => sane_any W (hE.below hB) h
  have HS := Lib.hid hs; have G0 := Lib.hid g0; have G1 := Lib.hid g1; have HZ := Lib.hid hz; have HB := Lib.hid hb; have HP := Lib.hid hp; have HSN := Lib.hid hsn; have HX := Lib.hid hX; have HZ2 := Lib.hid hz2
  have HSA := Lib.hid (pickA_one k.signs n); have HSZ := Lib.hid (pickA_size k.signs n)
  clear hs g0 g1 hz hb hbv hp hsn hX hz2 hW hE
  generalize decide (k.signs ≠ []) = ok at *
  generalize pickA k.signs n = cs at *
  unfold code5
  conv => arg 2; whnf
  simp only [withLast]
  go_wp2_with fail
  generalize (w.alloc (.cells ws 32)).alloc (.cells (bodCells b) 36) = w0 at *
  refine (HSN.out w0 HB.out (by have := HZ.out; omega)).mono ?_
  rintro e w1 ⟨rfl, hb1⟩
  have B1 := Lib.hid (HB.out.trans (hb1.mono (by have := HZ.out; omega)))
  have H0 := Lib.hid ((hb1.block w.heap.size (by have := HZ.out; omega)).trans G0.out)
  have H1 := Lib.hid ((hb1.block (w.heap.size + 1) (by have := HZ.out; omega)).trans G1.out)
  have Z1 := Lib.hid (show w.heap.size + 2 ≤ w1.heap.size by have := HZ.out; have := hb1.size; omega)
  clear hb1 HSN G0 G1 HB HZ
  go_wp2_with ((refine wpList_load_row rfl 32 _ rfl w.heap.size rfl 32 _ (0, 0) _ H0.out Tryd.underlying32 rfl HS.out ?_; simp only [Act.put, List.setIfInBounds_toArray, List.set_cons_zero, List.set_cons_succ]))
  refine (HP.out w1 B1.out).mono ?_
  rintro e w2 ⟨rfl, hb2⟩
  have B2 := Lib.hid (B1.out.trans (hb2.mono (by have := Z1.out; omega)))
  have I0 := Lib.hid ((hb2.block w.heap.size (by have := Z1.out; omega)).trans H0.out)
  have I1 := Lib.hid ((hb2.block (w.heap.size + 1) (by have := Z1.out; omega)).trans H1.out)
  have Z2 := Lib.hid (show w.heap.size + 2 ≤ w2.heap.size by have := Z1.out; have := hb2.size; omega)
  clear hb2 HP H0 H1 B1 Z1
  go_wp2_with (refine wpList_store_row rfl 41 _ _ rfl w2.heap.size cs rfl rfl 41 _ (heap_alloc_new w2 _) (by rw [HSZ.out]; kernel_rfl) (by rw [HSZ.out]; rfl) HSA.out ?_; rw [World.setRow_alloc_new])
  have hb5 : Below w2.heap.size w2 (w2.alloc (.cells cs 41)) := (Below.refl w2.heap.size w2).alloc (Nat.le_refl _) _
  exact HX.out _ w2.heap.size _ _ _ _ _ _ _ _ _ _ _ _ _ _ _ _ _ _ _ _ _ _ _ _ _ _ _ _ _ _ _ _ _ _ _ _ _ _ _ _ _ _ _ _ _ _ _ _ _ _ _ _ _ _ _ _ _ _ _ _ _ _ _ _ _ _ _ _ _ _ _ _ _ _ _ _ _ _ _ _ _ _ _ _ _ _ _ _ _ _ _ _ _ _ _ _ _ _ _ _ _ _ _ _ _ _ _ _ _ _ _ _ _ _ _ _ _ _ _ _ _ _ _ _ _ _ _ _ _ _ _ _ _ _ _ _ _ _ _ _ _ _ _ _ _ _ _ _ _ _ _ _ _ _ _ _ _ _ _ _ _ _ _ _ _ _ _ _ _ _ _ _ _ _ _ _ _ _ _ _ _ _ _ _ _ _ _ _ (B2.out.trans (hb5.mono B2.out.size)) ((hb5.block _ (by have := Z2.out; omega)).trans I0.out) ((hb5.block _ (by have := Z2.out; omega)).trans I1.out) (heap_alloc_new w2 _) Z2.out
noncomputable def part5n3 : Code := lastPart 3 code5
set_option maxRecDepth 100000 in
set_option maxHeartbeats 8000000 in
theorem guards_5 (k : Wrk) (b : Bod) (hbn : b.name.length ≤ maxLen) (ok : Bool) (ws : Array Value) (A K : Nat) (xm : Value) (w3 : World) (hE : Env w3) (hW : WkAt k ws w3) (g0 : w3.heap[A]? = some (.cells ws 32 (0, 0))) (g1 : w3.heap[A + 1]? = some (.cells (bodCells b) 36 (0, 0))) (e0 e1 e2 e5 e7 e8 e11 e12 e13 e14 e15 e16 e17 e18 e19 e20 e21 e22 e23 e24 e25 e26 e27 e28 e29 e30 e31 e32 e33 e34 e35 e36 e37 e38 e39 e40 e41 e42 e43 e44 e45 e46 e47 e48 e49 e50 e51 e52 e53 e54 e55 e56 e57 e58 e59 e60 e61 e62 e63 e64 e65 e66 e67 e68 e69 e70 e71 e72 e73 e74 e75 e76 e77 e78 e79 e80 e81 e82 e83 e84 e85 e86 e87 e88 e89 e90 e91 e92 e93 e94 e95 e96 e97 e98 e99 e100 e101 e102 e103 e104 e105 e106 e107 e108 e109 e110 e111 e112 e113 e114 e115 e116 e117 e118 e119 e120 e121 e122 e123 e124 e125 e126 e127 e128 e129 e130 e131 e132 e133 e134 e135 e136 e137 e138 e139 e140 e141 e142 e143 e144 e145 e146 e147 e148 e149 e150 e151 e152 e153 e154 e155 e156 e157 e158 e159 e160 e161 e162 e163 e164 e165 e166 e167 e168 e169 e170 e171 e172 e173 e174 e175 e176 e177 e178 e179 e180 e181 e182 e183 e184 e185 e186 e187 e188 e189 e190 e191 e192 : Value) (R : Ending → World → Prop) (X : Code)
    (hT : ∀ w', Below w3.heap.size w3 w' → R (.returned (.bool true)) w')
    (hX : fewB k = true → ok = true → wrkE k = 0 → bodB b = true → ∀ (w4 : World) (e0 e1 e2 e5 e7 e8 e11 e12 e13 e14 e15 e16 e17 e18 e19 e20 e21 e22 e23 e24 e25 e26 e27 e28 e29 e30 e31 e32 e33 e34 e35 e36 e37 e38 e39 e40 e41 e42 e43 e44 e45 e46 e47 e48 e49 e50 e51 e52 e53 e54 e55 e56 e57 e58 e59 e60 e61 e62 e63 e64 e65 e66 e67 e68 e69 e70 e71 e72 e73 e74 e75 e76 e77 e78 e79 e80 e81 e82 e83 e84 e85 e86 e87 e88 e89 e90 e91 e92 e93 e94 e95 e96 e97 e98 e99 e100 e101 e102 e103 e104 e105 e106 e107 e108 e109 e110 e111 e112 e113 e114 e115 e116 e117 e118 e119 e120 e121 e122 e123 e124 e125 e126 e127 e128 e129 e130 e131 e132 e133 e134 e135 e136 e137 e138 e139 e140 e141 e142 e143 e144 e145 e146 e147 e148 e149 e150 e151 e152 e153 e154 e155 e156 e157 e158 e159 e160 e161 e162 e163 e164 e165 e166 e167 e168 e169 e170 e171 e172 e173 e174 e175 e176 e177 e178 e179 e180 e181 e182 e183 e184 e185 e186 e187 e188 e189 e190 e191 e192 : Value), Below w3.heap.size w3 w4 → Code.wp Tryd.prog X (bodyPost Tryd.prog Tryd.f5 R) { tmps := #[e0, e1, e2, xm, .pointer (some ⟨A, 0, none⟩), e5, .pointer (some ⟨A + 1, 0, none⟩), e7, e8, .pointer (some ⟨K, 0, none⟩), .bool ok, e11, e12, e13, e14, e15, e16, e17, e18, e19, e20, e21, e22, e23, e24, e25, e26, e27, e28, e29, e30, e31, e32, e33, e34, e35, e36, e37, e38, e39, e40, e41, e42, e43, e44, e45, e46, e47, e48, e49, e50, e51, e52, e53, e54, e55, e56, e57, e58, e59, e60, e61, e62, e63, e64, e65, e66, e67, e68, e69, e70, e71, e72, e73, e74, e75, e76, e77, e78, e79, e80, e81, e82, e83, e84, e85, e86, e87, e88, e89, e90, e91, e92, e93, e94, e95, e96, e97, e98, e99, e100, e101, e102, e103, e104, e105, e106, e107, e108, e109, e110, e111, e112, e113, e114, e115, e116, e117, e118, e119, e120, e121, e122, e123, e124, e125, e126, e127, e128, e129, e130, e131, e132, e133, e134, e135, e136, e137, e138, e139, e140, e141, e142, e143, e144, e145, e146, e147, e148, e149, e150, e151, e152, e153, e154, e155, e156, e157, e158, e159, e160, e161, e162, e163, e164, e165, e166, e167, e168, e169, e170, e171, e172, e173, e174, e175, e176, e177, e178, e179, e180, e181, e182, e183, e184, e185, e186, e187, e188, e189, e190, e191, e192], defers := [] } w4) :
    Code.wp Tryd.prog (withLast 1 part5n3 X) (bodyPost Tryd.prog Tryd.f5 R) { tmps := #[e0, e1, e2, xm, .pointer (some ⟨A, 0, none⟩), e5, .pointer (some ⟨A + 1, 0, none⟩), e7, e8, .pointer (some ⟨K, 0, none⟩), .bool ok, e11, e12, e13, e14, e15, e16, e17, e18, e19, e20, e21, e22, e23, e24, e25, e26, e27, e28, e29, e30, e31, e32, e33, e34, e35, e36, e37, e38, e39, e40, e41, e42, e43, e44, e45, e46, e47, e48, e49, e50, e51, e52, e53, e54, e55, e56, e57, e58, e59, e60, e61, e62, e63, e64, e65, e66, e67, e68, e69, e70, e71, e72, e73, e74, e75, e76, e77, e78, e79, e80, e81, e82, e83, e84, e85, e86, e87, e88, e89, e90, e91, e92, e93, e94, e95, e96, e97, e98, e99, e100, e101, e102, e103, e104, e105, e106, e107, e108, e109, e110, e111, e112, e113, e114, e115, e116, e117, e118, e119, e120, e121, e122, e123, e124, e125, e126, e127, e128, e129, e130, e131, e132, e133, e134, e135, e136, e137, e138, e139, e140, e141, e142, e143, e144, e145, e146, e147, e148, e149, e150, e151, e152, e153, e154, e155, e156, e157, e158, e159, e160, e161, e162, e163, e164, e165, e166, e167, e168, e169, e170, e171, e172, e173, e174, e175, e176, e177, e178, e179, e180, e181, e182, e183, e184, e185, e186, e187, e188, e189, e190, e191, e192], defers := [] } w3 := by
  have hs := hW.size
  have hf := hW.few
  have hc := fun (W : World) (hB : Below w3.heap.size w3 W) => (hW.below hB (Nat.le_refl _)).check (hE.below hB)
  have hbc := fun (W : World) => bcheck_any b hbn W
  have HS := Lib.hid hs; have G0 := Lib.hid g0; have G1 := Lib.hid g1; have HF := Lib.hid hf; have HC := Lib.hid hc; have HBC := Lib.hid hbc; have HX := Lib.hid hX; have HT := Lib.hid hT
  have hA : A < w3.heap.size := (Array.getElem?_eq_some_iff.1 g0).1
  have hA1 : A + 1 < w3.heap.size := (Array.getElem?_eq_some_iff.1 g1).1
  have HA := Lib.hid hA; have HA1 := Lib.hid hA1
  clear hs g0 g1 hf hc hbc hX hT hW hE hA hA1
  generalize fewB k = fw at *
  generalize wrkE k = we at *
  unfold part5n3 code5
  conv => arg 2; whnf
  simp only [withLast]
  go_wp2_with ((refine wpList_load_row rfl 32 _ rfl A rfl 32 _ (0, 0) _ G0.out Tryd.underlying32 rfl HS.out ?_; simp only [Act.put, List.setIfInBounds_toArray, List.set_cons_zero, List.set_cons_succ]))
  refine (HF.out w3).mono ?_
  rintro e w4 ⟨rfl, b4⟩
  have B4 := Lib.hid b4
  have H0 := Lib.hid ((b4.block A HA.out).trans G0.out)
  clear b4 G0 HF
  cases fw with
  | false =>
    go_wp2_with fail
    first | exact HT.out _ B4.out | (go_ret; exact HT.out _ B4.out)
  | true =>
  cases ok with
  | false =>
    go_wp2_with fail
    first | exact HT.out _ B4.out | (go_ret; exact HT.out _ B4.out)
  | true =>
  go_wp2_with ((refine wpList_load_row_at rfl 32 _ rfl A rfl 32 _ (0, 0) _ H0.out Tryd.underlying32 rfl HS.out ?_; simp only [Act.put, List.setIfInBounds_toArray, List.set_cons_zero, List.set_cons_succ]))
  refine (HC.out w4 B4.out).mono ?_
  rintro e w5 ⟨rfl, b5⟩
  have B5 := Lib.hid (B4.out.trans (b5.mono B4.out.size))
  have H1 := Lib.hid ((B5.out.block (A + 1) HA1.out).trans G1.out)
  clear b5 B4 H0 HC G1
  by_cases hwe : we = 0
  · have hwz : (we != 0) = false := by simp [hwe]
    have HWE := Lib.hid hwe
    clear hwe
    go_wp2_with ((refine wpList_load_row_at rfl 36 _ rfl (A + 1) rfl 36 (bodCells b) (0, 0) _ H1.out Tryd.underlying36 rfl (by kernel_rfl) ?_; simp only [Act.put, List.setIfInBounds_toArray, List.set_cons_zero, List.set_cons_succ]))
    refine (HBC.out w5).mono ?_
    rintro e w6 ⟨rfl, b6⟩
    have B6 := Lib.hid (B5.out.trans (b6.mono B5.out.size))
    clear b6 B5 H1 HBC
    cases hbb : bodB b with
    | false =>
      have hq : (codeI false 250 != 0) = true := rfl
      go_wp2_with fail
      first | exact HT.out _ B6.out | (go_ret; exact HT.out _ B6.out)
    | true =>
      have hq : (codeI true 250 != 0) = false := rfl
      go_wp2_with fail
      exact HX.out (by first | rfl | trivial) (by first | rfl | trivial) (by first | exact HWE.out | trivial) (by first | exact hbb | rfl | trivial) _ _ _ _ _ _ _ _ _ _ _ _ _ _ _ _ _ _ _ _ _ _ _ _ _ _ _ _ _ _ _ _ _ _ _ _ _ _ _ _ _ _ _ _ _ _ _ _ _ _ _ _ _ _ _ _ _ _ _ _ _ _ _ _ _ _ _ _ _ _ _ _ _ _ _ _ _ _ _ _ _ _ _ _ _ _ _ _ _ _ _ _ _ _ _ _ _ _ _ _ _ _ _ _ _ _ _ _ _ _ _ _ _ _ _ _ _ _ _ _ _ _ _ _ _ _ _ _ _ _ _ _ _ _ _ _ _ _ _ _ _ _ _ _ _ _ _ _ _ _ _ _ _ _ _ _ _ _ _ _ _ _ _ _ _ _ _ _ _ _ _ _ _ _ _ _ _ _ _ _ _ _ _ _ _ _ _ _ _ B6.out
  · have hwz : (we != 0) = true := by simpa using hwe
    have HWE := Lib.hid hwe
    clear hwe
    go_wp2_with fail
    first | exact HT.out _ B5.out | (go_ret; exact HT.out _ B5.out)
noncomputable def part5n4 : Code := lastPart 4 code5
set_option maxRecDepth 100000 in
set_option maxHeartbeats 8000000 in
theorem opts_5 (k : Wrk) (s : Sgn) (b : Bod) (hbn : b.name.length ≤ maxLen) (ws : Array Value) (A K : Nat) (xm : Value) (w3 : World) (hE : Env w3) (hz2 : 2 ≤ w3.heap.size) (hW : WkAt k ws w3) (g0 : w3.heap[A]? = some (.cells ws 32 (0, 0))) (g1 : w3.heap[A + 1]? = some (.cells (bodCells b) 36 (0, 0))) (g2 : w3.heap[K]? = some (.cells (sgnA s) 41 (0, 0)))
    (hk : wrkE k = 0) (hs : s ∈ k.signs) (hb : bodB b = true) (e0 e1 e2 e5 e7 e8 e10 e11 e12 e13 e14 e15 e16 e17 e18 e19 e20 e21 e22 e23 e24 e25 e26 e27 e28 e29 e30 e31 e32 e33 e34 e35 e36 e37 e38 e39 e40 e41 e42 e43 e44 e45 e46 e47 e48 e49 e50 e51 e52 e53 e54 e55 e56 e57 e58 e59 e60 e61 e62 e63 e64 e65 e66 e67 e68 e69 e70 e71 e72 e73 e74 e75 e76 e77 e78 e79 e80 e81 e82 e83 e84 e85 e86 e87 e88 e89 e90 e91 e92 e93 e94 e95 e96 e97 e98 e99 e100 e101 e102 e103 e104 e105 e106 e107 e108 e109 e110 e111 e112 e113 e114 e115 e116 e117 e118 e119 e120 e121 e122 e123 e124 e125 e126 e127 e128 e129 e130 e131 e132 e133 e134 e135 e136 e137 e138 e139 e140 e141 e142 e143 e144 e145 e146 e147 e148 e149 e150 e151 e152 e153 e154 e155 e156 e157 e158 e159 e160 e161 e162 e163 e164 e165 e166 e167 e168 e169 e170 e171 e172 e173 e174 e175 e176 e177 e178 e179 e180 e181 e182 e183 e184 e185 e186 e187 e188 e189 e190 e191 e192 : Value) (R : Ending → World → Prop) (X : Code)
    (hX : ∀ (w4 : World) (v : Value) (e0 e1 e2 e5 e7 e8 e10 e13 e14 e15 e16 e17 e18 e19 e20 e21 e22 e23 e24 e25 e26 e27 e28 e29 e30 e31 e32 e33 e34 e35 e36 e37 e38 e39 e40 e41 e42 e43 e44 e45 e46 e47 e48 e49 e50 e51 e52 e53 e54 e55 e56 e57 e58 e59 e60 e61 e62 e63 e64 e65 e66 e67 e68 e69 e70 e71 e72 e73 e74 e75 e76 e77 e78 e79 e80 e81 e82 e83 e84 e85 e86 e87 e88 e89 e90 e91 e92 e93 e94 e95 e96 e97 e98 e99 e100 e101 e102 e103 e104 e105 e106 e107 e108 e109 e110 e111 e112 e113 e114 e115 e116 e117 e118 e119 e120 e121 e122 e123 e124 e125 e126 e127 e128 e129 e130 e131 e132 e133 e134 e135 e136 e137 e138 e139 e140 e141 e142 e143 e144 e145 e146 e147 e148 e149 e150 e151 e152 e153 e154 e155 e156 e157 e158 e159 e160 e161 e162 e163 e164 e165 e166 e167 e168 e169 e170 e171 e172 e173 e174 e175 e176 e177 e178 e179 e180 e181 e182 e183 e184 e185 e186 e187 e188 e189 e190 e191 e192 : Value), Below w3.heap.size w3 w4 → w4.ownsRow w3.heap.size 60 4 v (optL k s b).length ((optL k s b).flatMap encRea) → Code.wp Tryd.prog X (bodyPost Tryd.prog Tryd.f5 R) { tmps := #[e0, e1, e2, xm, .pointer (some ⟨A, 0, none⟩), e5, .pointer (some ⟨A + 1, 0, none⟩), e7, e8, .pointer (some ⟨K, 0, none⟩), e10, v, .int .i64 0, e13, e14, e15, e16, e17, e18, e19, e20, e21, e22, e23, e24, e25, e26, e27, e28, e29, e30, e31, e32, e33, e34, e35, e36, e37, e38, e39, e40, e41, e42, e43, e44, e45, e46, e47, e48, e49, e50, e51, e52, e53, e54, e55, e56, e57, e58, e59, e60, e61, e62, e63, e64, e65, e66, e67, e68, e69, e70, e71, e72, e73, e74, e75, e76, e77, e78, e79, e80, e81, e82, e83, e84, e85, e86, e87, e88, e89, e90, e91, e92, e93, e94, e95, e96, e97, e98, e99, e100, e101, e102, e103, e104, e105, e106, e107, e108, e109, e110, e111, e112, e113, e114, e115, e116, e117, e118, e119, e120, e121, e122, e123, e124, e125, e126, e127, e128, e129, e130, e131, e132, e133, e134, e135, e136, e137, e138, e139, e140, e141, e142, e143, e144, e145, e146, e147, e148, e149, e150, e151, e152, e153, e154, e155, e156, e157, e158, e159, e160, e161, e162, e163, e164, e165, e166, e167, e168, e169, e170, e171, e172, e173, e174, e175, e176, e177, e178, e179, e180, e181, e182, e183, e184, e185, e186, e187, e188, e189, e190, e191, e192], defers := [] } w4) :
    Code.wp Tryd.prog (withLast 1 part5n4 X) (bodyPost Tryd.prog Tryd.f5 R) { tmps := #[e0, e1, e2, xm, .pointer (some ⟨A, 0, none⟩), e5, .pointer (some ⟨A + 1, 0, none⟩), e7, e8, .pointer (some ⟨K, 0, none⟩), e10, e11, e12, e13, e14, e15, e16, e17, e18, e19, e20, e21, e22, e23, e24, e25, e26, e27, e28, e29, e30, e31, e32, e33, e34, e35, e36, e37, e38, e39, e40, e41, e42, e43, e44, e45, e46, e47, e48, e49, e50, e51, e52, e53, e54, e55, e56, e57, e58, e59, e60, e61, e62, e63, e64, e65, e66, e67, e68, e69, e70, e71, e72, e73, e74, e75, e76, e77, e78, e79, e80, e81, e82, e83, e84, e85, e86, e87, e88, e89, e90, e91, e92, e93, e94, e95, e96, e97, e98, e99, e100, e101, e102, e103, e104, e105, e106, e107, e108, e109, e110, e111, e112, e113, e114, e115, e116, e117, e118, e119, e120, e121, e122, e123, e124, e125, e126, e127, e128, e129, e130, e131, e132, e133, e134, e135, e136, e137, e138, e139, e140, e141, e142, e143, e144, e145, e146, e147, e148, e149, e150, e151, e152, e153, e154, e155, e156, e157, e158, e159, e160, e161, e162, e163, e164, e165, e166, e167, e168, e169, e170, e171, e172, e173, e174, e175, e176, e177, e178, e179, e180, e181, e182, e183, e184, e185, e186, e187, e188, e189, e190, e191, e192], defers := [] } w3 := by
  have hsz := hW.size
  have ho := hW.options hE hz2 s.id b hbn
  obtain ⟨he, hr⟩ := opt_own hk hs hb
  rw [he, hr] at ho
  have hbv : bodV b = .agg (bodCells b) := rfl
  rw [hbv] at ho
  have c0 : w3.cell? ⟨K, 0, none⟩ = some (.int .i64 s.id) := cell_at g2 0 rfl
  have HS := Lib.hid hsz; have G0 := Lib.hid g0; have G1 := Lib.hid g1; have HO := Lib.hid ho; have HX := Lib.hid hX
  clear hsz g0 g1 g2 ho he hr hbv hX hW hE hk hs hb
  unfold part5n4 code5
  conv => arg 2; whnf
  simp only [withLast]
  go_wp2_with (first | (refine wpList_load_row rfl 32 _ rfl A rfl 32 _ (0, 0) _ G0.out Tryd.underlying32 rfl HS.out ?_; simp only [Act.put, List.setIfInBounds_toArray, List.set_cons_zero, List.set_cons_succ]) | (refine wpList_load_row rfl 36 _ rfl (A + 1) rfl 36 (bodCells b) (0, 0) _ G1.out Tryd.underlying36 rfl (by kernel_rfl) ?_; simp only [Act.put, List.setIfInBounds_toArray, List.set_cons_zero, List.set_cons_succ]))
  refine HO.out.mono ?_
  rintro e w4 ⟨v, rfl, hown, b4⟩
  have HOW := Lib.hid hown; have B4 := Lib.hid b4
  clear hown b4 HO c0 G0 G1
  go_wp2_with fail
  exact HX.out _ v _ _ _ _ _ _ _ _ _ _ _ _ _ _ _ _ _ _ _ _ _ _ _ _ _ _ _ _ _ _ _ _ _ _ _ _ _ _ _ _ _ _ _ _ _ _ _ _ _ _ _ _ _ _ _ _ _ _ _ _ _ _ _ _ _ _ _ _ _ _ _ _ _ _ _ _ _ _ _ _ _ _ _ _ _ _ _ _ _ _ _ _ _ _ _ _ _ _ _ _ _ _ _ _ _ _ _ _ _ _ _ _ _ _ _ _ _ _ _ _ _ _ _ _ _ _ _ _ _ _ _ _ _ _ _ _ _ _ _ _ _ _ _ _ _ _ _ _ _ _ _ _ _ _ _ _ _ _ _ _ _ _ _ _ _ _ _ _ _ _ _ _ _ _ _ _ _ _ _ _ _ _ _ _ _ _ _ B4.out HOW.out
end Go.Proofs.YtggcbblikgankaaDoor
end
section
/- OptionsMirror: two copies of a work. -/
namespace Go.Proofs.YtggcbblikgankaaDoor
open Go Go.RowKit Go.Deep

noncomputable def part5n5 : Code := lastPart 5 code5
theorem yieldsIf_row {P : Program} {ops : Array Oper} {S : World → Prop} {op : Oper} {a : Act} (hw : Region.wanted op (yielded ops a.tmps) = true) (ty : TypeId) (x : Operand) (ho : op.op = .load ty x)
    (g : Nat) (hx : a.eval x = .pointer (some ⟨g, 0, none⟩)) (t : TypeId) (cs : Array Value) (fr : Nat × Nat) (d : TypeDesc) (hS : ∀ w, S w → w.heap[g]? = some (.cells cs t fr))
    (hu : P.underlying ty = some d) (hd : (match d with | .struct _ | .array _ _ => true | _ => false) = true) (hi : (P.info? ty).map (·.size) = some cs.size) : YieldsIf P ops S op (.agg cs) a :=
  .inl ⟨hw, fun w hw' => by
    unfold execOp
    simp only [ho, hx, Instr.loadAt, Instr.sureAddr, Sem.run_bind, Sem.run_pure, Result.andThen_ok, run_loadVar_row w g t ty cs fr d (hS w hw') hu hd hi]⟩
abbrev zero32 : Array Value := #[.int .i64 0, .int .i64 0, .int .i64 0, .int .i64 0, .int .i64 0, .slice none 0 0, .int .i64 0, .slice none 0 0, .slice none 0 0, .slice none 0 0, .slice none 0 0]
theorem alloc_step {W w : World} {A : Nat} {cs : Array Value} {t : TypeId} (hb : Below W.heap.size W w) (hA : w.heap[A]? = some (.cells cs t (0, 0))) : ∃ w', w.alloc (.cells zero32 32) = w' ∧ w'.heap[A]? = some (.cells cs t (0, 0)) ∧ w'.heap[w.heap.size]? = some (.cells zero32 32 (0, 0)) ∧ Below W.heap.size W w' ∧ w.heap.size < w'.heap.size ∧ W.heap.size ≤ w.heap.size :=
  ⟨_, rfl, (Below.heap_alloc w _ A (Array.getElem?_eq_some_iff.1 hA).1).trans hA, heap_alloc_new w _, hb.alloc hb.size _, by simp, hb.size⟩
set_option maxRecDepth 100000 in
set_option maxHeartbeats 8000000 in
theorem mir_copies (k : Wrk) (ws : Array Value) (xm vl : Value) (A K : Nat) (w3 : World) (hW : WkAt k ws w3) (g0 : w3.heap[A]? = some (.cells ws 32 (0, 0))) (e0 e1 e2 e5 e7 e8 e10 e13 e14 e15 e16 e17 e18 e19 e20 e21 e22 e23 e24 e25 e26 e27 e28 e29 e30 e31 e32 e33 e34 e35 e36 e37 e38 e39 e40 e41 e42 e43 e44 e45 e46 e47 e48 e49 e50 e51 e52 e53 e54 e55 e56 e57 e58 e59 e60 e61 e62 e63 e64 e65 e66 e67 e68 e69 e70 e71 e72 e73 e74 e75 e76 e77 e78 e79 e80 e81 e82 e83 e84 e85 e86 e87 e88 e89 e90 e91 e92 e93 e94 e95 e96 e97 e98 e99 e100 e101 e102 e103 e104 e105 e106 e107 e108 e109 e110 e111 e112 e113 e114 e115 e116 e117 e118 e119 e120 e121 e122 e123 e124 e125 e126 e127 e128 e129 e130 e131 e132 e133 e134 e135 e136 e137 e138 e139 e140 e141 e142 e143 e144 e145 e146 e147 e148 e149 e150 e151 e152 e153 e154 e155 e156 e157 e158 e159 e160 e161 e162 e163 e164 e165 e166 e167 e168 e169 e170 e171 e172 e173 e174 e175 e176 e177 e178 e179 e180 e181 e182 e183 e184 e185 e186 e187 e188 e189 e190 e191 e192 : Value) (R : Ending → World → Prop) (X : Code)
    (hX : ∀ (w4 : World) (M1 M2 : Nat) (e0 e1 e2 e5 e7 e8 e10 e15 e16 e17 e18 e19 e20 e21 e22 e23 e24 e25 e26 e27 e28 e29 e30 e31 e32 e33 e34 e35 e36 e37 e38 e39 e40 e41 e42 e43 e44 e45 e46 e47 e48 e49 e50 e51 e52 e53 e54 e55 e56 e57 e58 e59 e60 e61 e62 e63 e64 e65 e66 e67 e68 e69 e70 e71 e72 e73 e74 e75 e76 e77 e78 e79 e80 e81 e82 e83 e84 e85 e86 e87 e88 e89 e90 e91 e92 e93 e94 e95 e96 e97 e98 e99 e100 e101 e102 e103 e104 e105 e106 e107 e108 e109 e110 e111 e112 e113 e114 e115 e116 e117 e118 e119 e120 e121 e122 e123 e124 e125 e126 e127 e128 e129 e130 e131 e132 e133 e134 e135 e136 e137 e138 e139 e140 e141 e142 e143 e144 e145 e146 e147 e148 e149 e150 e151 e152 e153 e154 e155 e156 e157 e158 e159 e160 e161 e162 e163 e164 e165 e166 e167 e168 e169 e170 e171 e172 e173 e174 e175 e176 e177 e178 e179 e180 e181 e182 e183 e184 e185 e186 e187 e188 e189 e190 e191 e192 : Value), Below w3.heap.size w3 w4 → w4.heap[M1]? = some (.cells ws 32 (0, 0)) → w4.heap[M2]? = some (.cells ws 32 (0, 0)) → w3.heap.size ≤ M1 → w3.heap.size ≤ M2 → M1 ≠ M2 → Code.wp Tryd.prog X (bodyPost Tryd.prog Tryd.f5 R) { tmps := #[e0, e1, e2, xm, .pointer (some ⟨A, 0, none⟩), e5, .pointer (some ⟨A + 1, 0, none⟩), e7, e8, .pointer (some ⟨K, 0, none⟩), e10, vl, .int .i64 0, .pointer (some ⟨M1, 0, none⟩), .pointer (some ⟨M2, 0, none⟩), e15, e16, e17, e18, e19, e20, e21, e22, e23, e24, e25, e26, e27, e28, e29, e30, e31, e32, e33, e34, e35, e36, e37, e38, e39, e40, e41, e42, e43, e44, e45, e46, e47, e48, e49, e50, e51, e52, e53, e54, e55, e56, e57, e58, e59, e60, e61, e62, e63, e64, e65, e66, e67, e68, e69, e70, e71, e72, e73, e74, e75, e76, e77, e78, e79, e80, e81, e82, e83, e84, e85, e86, e87, e88, e89, e90, e91, e92, e93, e94, e95, e96, e97, e98, e99, e100, e101, e102, e103, e104, e105, e106, e107, e108, e109, e110, e111, e112, e113, e114, e115, e116, e117, e118, e119, e120, e121, e122, e123, e124, e125, e126, e127, e128, e129, e130, e131, e132, e133, e134, e135, e136, e137, e138, e139, e140, e141, e142, e143, e144, e145, e146, e147, e148, e149, e150, e151, e152, e153, e154, e155, e156, e157, e158, e159, e160, e161, e162, e163, e164, e165, e166, e167, e168, e169, e170, e171, e172, e173, e174, e175, e176, e177, e178, e179, e180, e181, e182, e183, e184, e185, e186, e187, e188, e189, e190, e191, e192], defers := [] } w4) :
    Code.wp Tryd.prog (withLast 1 part5n5 X) (bodyPost Tryd.prog Tryd.f5 R) { tmps := #[e0, e1, e2, xm, .pointer (some ⟨A, 0, none⟩), e5, .pointer (some ⟨A + 1, 0, none⟩), e7, e8, .pointer (some ⟨K, 0, none⟩), e10, vl, .int .i64 0, e13, e14, e15, e16, e17, e18, e19, e20, e21, e22, e23, e24, e25, e26, e27, e28, e29, e30, e31, e32, e33, e34, e35, e36, e37, e38, e39, e40, e41, e42, e43, e44, e45, e46, e47, e48, e49, e50, e51, e52, e53, e54, e55, e56, e57, e58, e59, e60, e61, e62, e63, e64, e65, e66, e67, e68, e69, e70, e71, e72, e73, e74, e75, e76, e77, e78, e79, e80, e81, e82, e83, e84, e85, e86, e87, e88, e89, e90, e91, e92, e93, e94, e95, e96, e97, e98, e99, e100, e101, e102, e103, e104, e105, e106, e107, e108, e109, e110, e111, e112, e113, e114, e115, e116, e117, e118, e119, e120, e121, e122, e123, e124, e125, e126, e127, e128, e129, e130, e131, e132, e133, e134, e135, e136, e137, e138, e139, e140, e141, e142, e143, e144, e145, e146, e147, e148, e149, e150, e151, e152, e153, e154, e155, e156, e157, e158, e159, e160, e161, e162, e163, e164, e165, e166, e167, e168, e169, e170, e171, e172, e173, e174, e175, e176, e177, e178, e179, e180, e181, e182, e183, e184, e185, e186, e187, e188, e189, e190, e191, e192], defers := [] } w3 := by
  have hs := hW.size
  obtain ⟨ones, zs⟩ : ws.all (·.oneCell') = true ∧ ws.size = 11 := by
    obtain ⟨aR, aT, aP, aX, aS, cR, cT, cP, cX, cS, rfl, _⟩ := hW
    exact ⟨by simp [Value.oneCell'], rfl⟩
  have hA : A < w3.heap.size := (Array.getElem?_eq_some_iff.1 g0).1
  have HS := Lib.hid hs; have G0 := Lib.hid g0; have HX := Lib.hid hX; have HO := Lib.hid ones; have HZ := Lib.hid zs; have HA := Lib.hid hA
  clear hs g0 hX hW ones zs hA
  unfold part5n5 code5
  conv => arg 2; whnf
  simp only [withLast]
  refine wp_seq ?_
  have hB0 : Below w3.heap.size w3 w3.drew := (Below.refl _ w3).drew
  have gA0 : w3.drew.heap[A]? = some (.cells ws 32 (0, 0)) := G0.out
  refine wp_region_held (S := fun w2 => w2.heap[A]? = some (.cells ws 32 (0, 0))) (by kernel_rfl) ?_
  change wpAnyH _ _ _ _ _ _ _ _ w3.drew
  generalize w3.drew = W0 at *
  refine wpAnyH_take (i := 0) (oi := _) (v := .agg ws) rfl (by kernel_rfl) (by kernel_rfl) (by kernel_rfl) (fun _ _ _ h => h) (yieldsIf_row rfl 32 _ rfl A rfl 32 ws (0, 0) _ (fun _ h => h) Tryd.underlying32 rfl HS.out) gA0 ?_
  simp only [Act.put, List.setIfInBounds_toArray, List.set_cons_zero, List.set_cons_succ]
  refine wpAnyH_take (i := 1) (oi := _) (v := .agg ws) rfl (by kernel_rfl) (by kernel_rfl) (by kernel_rfl) (fun _ _ _ h => h) (yieldsIf_row rfl 32 _ rfl A rfl 32 ws (0, 0) _ (fun _ h => h) Tryd.underlying32 rfl HS.out) gA0 ?_
  simp only [Act.put, List.setIfInBounds_toArray, List.set_cons_zero, List.set_cons_succ]
  clear G0
  refine wpAnyH_ready (rs := [2, 3]) (by kernel_rfl) (by simp) ?_
  refine AllReadyH.cons (o := _) rfl (fun K1 hK => ?_) (AllReadyH.cons (o := _) rfl (fun K2 hK => ?_) AllReadyH.nil)
  · go_simp
    obtain ⟨W1, hW1, gA1, m1, b1, z1, hM1⟩ := alloc_step hB0 gA0
    rw [hW1]
    refine hK.out _ _ gA1 (fun _ => ?_)
    clear hK K1 hW1 gA0 hB0
    try (simp only [Act.put, List.setIfInBounds_toArray, List.set_cons_zero, List.set_cons_succ])
    refine wpAnyH_ready (rs := [3]) (by kernel_rfl) (by simp) ?_
    refine AllReadyH.cons (o := _) rfl (fun K1 hK => ?_) AllReadyH.nil
    · go_simp
      obtain ⟨W2, hW2, gA2, m2, b2, z2, hM2⟩ := alloc_step b1 gA1
      have m1' := hW2 ▸ (Below.heap_alloc W1 (.cells zero32 32) W0.heap.size (by omega)).trans m1
      rw [hW2]
      refine hK.out _ _ gA2 (fun _ => ?_)
      clear hK K1 hW2
      try (simp only [Act.put, List.setIfInBounds_toArray, List.set_cons_zero, List.set_cons_succ])
      refine wpAnyH_ready (rs := [4]) (by kernel_rfl) (by simp) ?_
      refine AllReadyH.cons (o := _) rfl (fun K1 hK => ?_) AllReadyH.nil
      rw [if_pos (by rfl)]
      refine wp_store_row 32 _ _ rfl W0.heap.size ws rfl rfl 32 _ m1' HS.out (by rw [HZ.out]; rfl) HO.out ?_
      refine hK.out _ _ ((setRow_other _ _ _ _ (by have := HA.out; omega)).trans gA2) (fun _ => ?_)
      clear hK K1
      try (simp only [Act.put, List.setIfInBounds_toArray, List.set_cons_zero, List.set_cons_succ])
      refine wpAnyH_ready (rs := [5]) (by kernel_rfl) (by simp) ?_
      refine AllReadyH.cons (o := _) rfl (fun K1 hK => ?_) AllReadyH.nil
      rw [if_pos (by rfl)]
      refine wp_store_row 32 _ _ rfl W1.heap.size ws rfl rfl 32 _ ((setRow_other _ _ _ _ (by omega)).trans m2) HS.out (by rw [HZ.out]; rfl) HO.out ?_
      refine hK.out _ _ ((setRow_other _ _ _ _ (by have := HA.out; omega)).trans ((setRow_other _ _ _ _ (by have := HA.out; omega)).trans gA2)) (fun _ => ?_)
      clear hK K1
      try (simp only [Act.put, List.setIfInBounds_toArray, List.set_cons_zero, List.set_cons_succ])
      refine wpAnyH_done (by kernel_rfl) ?_ _
      exact HX.out _ W0.heap.size W1.heap.size _ _ _ _ _ _ _ _ _ _ _ _ _ _ _ _ _ _ _ _ _ _ _ _ _ _ _ _ _ _ _ _ _ _ _ _ _ _ _ _ _ _ _ _ _ _ _ _ _ _ _ _ _ _ _ _ _ _ _ _ _ _ _ _ _ _ _ _ _ _ _ _ _ _ _ _ _ _ _ _ _ _ _ _ _ _ _ _ _ _ _ _ _ _ _ _ _ _ _ _ _ _ _ _ _ _ _ _ _ _ _ _ _ _ _ _ _ _ _ _ _ _ _ _ _ _ _ _ _ _ _ _ _ _ _ _ _ _ _ _ _ _ _ _ _ _ _ _ _ _ _ _ _ _ _ _ _ _ _ _ _ _ _ _ _ _ _ _ _ _ _ _ _ _ _ _ _ _ _ _ _ _ _ _ _ (below_setRow (below_setRow b2 (by omega) _) (by omega) _) ((setRow_other _ _ _ _ (by omega)).trans (setRow_heap _ _ _ _ _ _ m1')) (setRow_heap _ _ _ _ _ _ ((setRow_other _ _ _ _ (by omega)).trans m2)) (by omega) (by omega) (by omega)
  · go_simp
    obtain ⟨W1, hW1, gA1, m1, b1, z1, hM1⟩ := alloc_step hB0 gA0
    rw [hW1]
    refine hK.out _ _ gA1 (fun _ => ?_)
    clear hK K2 hW1 gA0 hB0
    try (simp only [Act.put, List.setIfInBounds_toArray, List.set_cons_zero, List.set_cons_succ])
    refine wpAnyH_ready (rs := [2]) (by kernel_rfl) (by simp) ?_
    refine AllReadyH.cons (o := _) rfl (fun K1 hK => ?_) AllReadyH.nil
    go_simp
    obtain ⟨W2, hW2, gA2, m2, b2, z2, hM2⟩ := alloc_step b1 gA1
    have m1' := hW2 ▸ (Below.heap_alloc W1 (.cells zero32 32) W0.heap.size (by omega)).trans m1
    rw [hW2]
    refine hK.out _ _ gA2 (fun _ => ?_)
    clear hK K1 hW2
    try (simp only [Act.put, List.setIfInBounds_toArray, List.set_cons_zero, List.set_cons_succ])
    refine wpAnyH_ready (rs := [4]) (by kernel_rfl) (by simp) ?_
    refine AllReadyH.cons (o := _) rfl (fun K1 hK => ?_) AllReadyH.nil
    rw [if_pos (by rfl)]
    refine wp_store_row 32 _ _ rfl W1.heap.size ws rfl rfl 32 _ m2 HS.out (by rw [HZ.out]; rfl) HO.out ?_
    refine hK.out _ _ ((setRow_other _ _ _ _ (by have := HA.out; omega)).trans gA2) (fun _ => ?_)
    clear hK K1
    try (simp only [Act.put, List.setIfInBounds_toArray, List.set_cons_zero, List.set_cons_succ])
    refine wpAnyH_ready (rs := [5]) (by kernel_rfl) (by simp) ?_
    refine AllReadyH.cons (o := _) rfl (fun K1 hK => ?_) AllReadyH.nil
    rw [if_pos (by rfl)]
    refine wp_store_row 32 _ _ rfl W0.heap.size ws rfl rfl 32 _ ((setRow_other _ _ _ _ (by omega)).trans m1') HS.out (by rw [HZ.out]; rfl) HO.out ?_
    refine hK.out _ _ ((setRow_other _ _ _ _ (by have := HA.out; omega)).trans ((setRow_other _ _ _ _ (by have := HA.out; omega)).trans gA2)) (fun _ => ?_)
    clear hK K1
    try (simp only [Act.put, List.setIfInBounds_toArray, List.set_cons_zero, List.set_cons_succ])
    refine wpAnyH_done (by kernel_rfl) ?_ _
    exact HX.out _ W1.heap.size W0.heap.size _ _ _ _ _ _ _ _ _ _ _ _ _ _ _ _ _ _ _ _ _ _ _ _ _ _ _ _ _ _ _ _ _ _ _ _ _ _ _ _ _ _ _ _ _ _ _ _ _ _ _ _ _ _ _ _ _ _ _ _ _ _ _ _ _ _ _ _ _ _ _ _ _ _ _ _ _ _ _ _ _ _ _ _ _ _ _ _ _ _ _ _ _ _ _ _ _ _ _ _ _ _ _ _ _ _ _ _ _ _ _ _ _ _ _ _ _ _ _ _ _ _ _ _ _ _ _ _ _ _ _ _ _ _ _ _ _ _ _ _ _ _ _ _ _ _ _ _ _ _ _ _ _ _ _ _ _ _ _ _ _ _ _ _ _ _ _ _ _ _ _ _ _ _ _ _ _ _ _ _ _ _ _ _ _ (below_setRow (below_setRow b2 (by omega) _) (by omega) _) ((setRow_other _ _ _ _ (by omega)).trans (setRow_heap _ _ _ _ _ _ m2)) (setRow_heap _ _ _ _ _ _ ((setRow_other _ _ _ _ (by omega)).trans m1')) (by omega) (by omega) (by omega)
end Go.Proofs.YtggcbblikgankaaDoor
end
section
/- OptionsMirror: the signs of both copies are new rows. -/
namespace Go.Proofs.YtggcbblikgankaaDoor
open Go Go.RowKit Go.Deep

theorem info41 : (Tryd.prog.info? 41).map (fun i => (i.zero, i.size, i.bytes)) = some (some (.agg #[.int .i64 0, .int .i64 0, .int .i64 0, .int .i64 0, .int .i64 0, .int .i64 0, .int .i64 0, .int .i64 0, .int .i64 0, .int .i64 0, .int .i64 0, .int .i64 0, .int .i64 0, .int .i64 0]), 14, 112) := by kernel_rfl
theorem at_flat {α : Type} {enc : α → List Value} {k : Nat} (hk : ∀ x, (enc x).length = k) (h0 : 0 < k) {w : World} {b o : Nat} {xs : List α} (h : AtRow enc k w b o xs) (j : Nat) (u : Value) (hu : (xs.flatMap enc)[j]? = some u) : w.cell? ⟨b, o + j, none⟩ = some u := by
  have hlt : j < xs.length * k := by
    have := (List.getElem?_eq_some_iff.1 hu).1
    rwa [flat_len hk] at this
  have hi : j / k < xs.length := Nat.div_lt_of_lt_mul (by rw [Nat.mul_comm]; exact hlt)
  have hx : xs[j / k]? = some (xs[j / k]) := List.getElem?_eq_getElem hi
  have hm : j % k < k := Nat.mod_lt _ h0
  have hj : j / k * k + j % k = j := by rw [Nat.mul_comm]; exact Nat.div_add_mod j k
  have hf := flat_get hk xs (j / k) (j % k) _ hx hm
  rw [hj, hu] at hf
  have := h _ _ hx (j % k) u hf.symm
  rw [Nat.add_assoc, hj] at this
  exact this
theorem encS_one (ss : List Sgn) : ∀ u ∈ ss.flatMap encS, u.oneCell' = true := by
  intro u hu
  obtain ⟨s, _, hs⟩ := List.mem_flatMap.1 hu
  simp only [encS, List.mem_cons, List.not_mem_nil, or_false] at hs
  rcases hs with rfl | rfl | rfl | rfl | rfl | rfl | rfl | rfl | rfl | rfl | rfl | rfl | rfl | rfl <;> rfl
theorem app_facts {w3 w6 : World} {n M : Nat} {ws : Array Value} {cells : List Value} {x10 v' : Value} (hn : 0 < n) (hM : w3.heap[M]? = some (.cells ws 32 (0, 0))) (m10 : w3.cell? ⟨M, 10, none⟩ = some x10) (hown : w6.ownsRow w3.heap.size 41 14 v' (0 + n) ([] ++ cells))
    (hgrow : (w3.alloc (.cells #[] 41)).grownBy w6 (Value.slice (some ⟨w3.heap.size, 0, none⟩) 0 0).ownBlock) (hnil : v' = .slice none 0 0 ↔ Value.slice (some ⟨w3.heap.size, 0, none⟩) 0 0 = .slice none 0 0 ∧ n = 0) :
    ∃ I cp, v' = .slice (some ⟨I, 0, none⟩) n cp ∧ w3.heap.size ≤ I ∧ Below w3.heap.size w3 w6 ∧ w6.heap[M]? = some (.cells ws 32 (0, 0)) ∧ w6.cell? ⟨M, 10, none⟩ = some x10 ∧ w6.frozen? ⟨M, 10, none⟩ = false ∧ w6.ownsRow w3.heap.size 41 14 (.slice (some ⟨I, 0, none⟩) n cp) n cells := by
  have hbe : Below w3.heap.size w3 (w3.alloc (.cells #[] 41)) := (Below.refl _ w3).alloc (Nat.le_refl _) _
  have hb6 : Below w3.heap.size (w3.alloc (.cells #[] 41)) w6 := (Below.refl _ _).grown hgrow (by simp) (fun k hk => by simp only [Value.ownBlock, Option.some.injEq] at hk; omega)
  have B6 := hbe.trans hb6
  have hML : M < w3.heap.size := (Array.getElem?_eq_some_iff.1 hM).1
  rw [Nat.zero_add, List.nil_append] at hown
  have hv : v' ≠ .slice none 0 0 := fun h => by have := (hnil.1 h).1; cases this
  have m6 := (B6.block _ hML).trans hM
  rcases id hown.2 with ⟨h, _⟩ | ⟨g, cap, cur, rfl, hbg, _⟩
  · exact absurd h hv
  · exact ⟨g, cap, rfl, hbg, B6, m6, (B6.cell (p := ⟨M, 10, none⟩) hML).trans m10, free_at m6 10, hown⟩
theorem blk_setCell_ne (w : World) (a : Addr) (u : Value) (k : Nat) (h : k ≠ a.block) : (w.setCell a u).heap[k]? = w.heap[k]? := by
  simp only [World.setCell, Array.getElem?_modify]
  rw [if_neg (by omega)]
theorem owns_set {w : World} {base g cap n k : Nat} {e : TypeId} {cs : List Value} {M r : Nat} (h : w.ownsRow base e k (.slice (some ⟨g, 0, none⟩) n cap) n cs) (hne : g ≠ M) (v : Value) : (w.setCell ⟨M, r, none⟩ v).ownsRow base e k (.slice (some ⟨g, 0, none⟩) n cap) n cs := by
  obtain ⟨h1, h2⟩ := h
  refine ⟨h1, ?_⟩
  rcases h2 with ⟨h, _⟩ | ⟨g', cap', cur, e1, hb, hg, h3⟩
  · cases h
  · refine Or.inr ⟨g', cap', cur, e1, hb, ?_, h3⟩
    have : g' ≠ M := by
      injection e1 with e1 _ _
      injection e1 with e1
      injection e1 with e1
      omega
    exact (blk_setCell_ne _ _ _ _ this).trans hg
theorem setCell_block {w : World} {g i : Nat} {cs : Array Value} {t : TypeId} {fr : Nat × Nat} (h : w.heap[g]? = some (.cells cs t fr)) (v : Value) : (w.setCell ⟨g, i, none⟩ v).heap[g]? = some (.cells (cs.setIfInBounds i v) t fr) := by
  simp [World.setCell, Array.getElem?_modify, h]
noncomputable def part5n6 : Code := lastPart 6 code5
noncomputable def part5n7 : Code := lastPart 7 code5
set_option maxRecDepth 100000 in
set_option maxHeartbeats 8000000 in
theorem mir_app1 (k : Wrk) (hne : k.signs ≠ []) (hlen : k.signs.length ≤ 4096) (ws : Array Value) (xm vl : Value) (A K M1 M2 n0 : Nat) (hM : n0 ≤ M1) (w0 w3 : World) (hB : Below n0 w0 w3) (hn0 : n0 ≤ w3.heap.size) (hW : WkAt k ws w3) (g0 : w3.heap[A]? = some (.cells ws 32 (0, 0))) (gM : w3.heap[M1]? = some (.cells ws 32 (0, 0))) (e0 e1 e2 e5 e7 e8 e10 e15 e16 e17 e18 e19 e20 e21 e22 e23 e24 e25 e26 e27 e28 e29 e30 e31 e32 e33 e34 e35 e36 e37 e38 e39 e40 e41 e42 e43 e44 e45 e46 e47 e48 e49 e50 e51 e52 e53 e54 e55 e56 e57 e58 e59 e60 e61 e62 e63 e64 e65 e66 e67 e68 e69 e70 e71 e72 e73 e74 e75 e76 e77 e78 e79 e80 e81 e82 e83 e84 e85 e86 e87 e88 e89 e90 e91 e92 e93 e94 e95 e96 e97 e98 e99 e100 e101 e102 e103 e104 e105 e106 e107 e108 e109 e110 e111 e112 e113 e114 e115 e116 e117 e118 e119 e120 e121 e122 e123 e124 e125 e126 e127 e128 e129 e130 e131 e132 e133 e134 e135 e136 e137 e138 e139 e140 e141 e142 e143 e144 e145 e146 e147 e148 e149 e150 e151 e152 e153 e154 e155 e156 e157 e158 e159 e160 e161 e162 e163 e164 e165 e166 e167 e168 e169 e170 e171 e172 e173 e174 e175 e176 e177 e178 e179 e180 e181 e182 e183 e184 e185 e186 e187 e188 e189 e190 e191 e192 : Value) (R : Ending → World → Prop) (X : Code)
    (hX : ∀ (w4 : World) (I c : Nat) (e0 e1 e2 e5 e7 e8 e10 e15 e16 e17 e18 e19 e20 e21 e22 e23 e24 e25 e26 e27 e28 e29 e30 e31 e32 e33 e34 e35 e36 e37 e38 e39 e40 e41 e42 e43 e44 e45 e46 e47 e48 e49 e50 e51 e52 e53 e54 e55 e56 e57 e58 e59 e60 e61 e62 e63 e64 e65 e66 e67 e68 e69 e70 e71 e72 e73 e74 e75 e76 e77 e78 e79 e80 e81 e82 e83 e84 e85 e86 e87 e88 e89 e90 e91 e92 e93 e94 e95 e96 e97 e98 e99 e100 e101 e102 e103 e104 e105 e106 e107 e108 e109 e110 e111 e112 e113 e114 e115 e116 e117 e118 e119 e120 e121 e122 e123 e124 e125 e126 e127 e128 e129 e130 e131 e132 e133 e134 e135 e136 e137 e138 e139 e140 e141 e142 e143 e144 e145 e146 e147 e148 e149 e150 e151 e152 e153 e154 e155 e156 e157 e158 e159 e160 e161 e162 e163 e164 e165 e166 e167 e168 e169 e170 e171 e172 e173 e174 e175 e176 e177 e178 e179 e180 e181 e182 e183 e184 e185 e186 e187 e188 e189 e190 e191 e192 : Value), Below n0 w0 w4 → w3.heap.size ≤ I → w4.heap[M1]? = some (.cells (ws.setIfInBounds 10 (.slice (some ⟨I, 0, none⟩) k.signs.length c)) 32 (0, 0)) → (∀ b, b < w3.heap.size → b ≠ M1 → w4.heap[b]? = w3.heap[b]?) → w4.ownsRow w3.heap.size 41 14 (.slice (some ⟨I, 0, none⟩) k.signs.length c) k.signs.length (k.signs.flatMap encS) → Code.wp Tryd.prog X (bodyPost Tryd.prog Tryd.f5 R) { tmps := #[e0, e1, e2, xm, .pointer (some ⟨A, 0, none⟩), e5, .pointer (some ⟨A + 1, 0, none⟩), e7, e8, .pointer (some ⟨K, 0, none⟩), e10, vl, .int .i64 0, .pointer (some ⟨M1, 0, none⟩), .pointer (some ⟨M2, 0, none⟩), e15, e16, e17, e18, e19, e20, e21, e22, e23, e24, e25, e26, e27, e28, e29, e30, e31, e32, e33, e34, e35, e36, e37, e38, e39, e40, e41, e42, e43, e44, e45, e46, e47, e48, e49, e50, e51, e52, e53, e54, e55, e56, e57, e58, e59, e60, e61, e62, e63, e64, e65, e66, e67, e68, e69, e70, e71, e72, e73, e74, e75, e76, e77, e78, e79, e80, e81, e82, e83, e84, e85, e86, e87, e88, e89, e90, e91, e92, e93, e94, e95, e96, e97, e98, e99, e100, e101, e102, e103, e104, e105, e106, e107, e108, e109, e110, e111, e112, e113, e114, e115, e116, e117, e118, e119, e120, e121, e122, e123, e124, e125, e126, e127, e128, e129, e130, e131, e132, e133, e134, e135, e136, e137, e138, e139, e140, e141, e142, e143, e144, e145, e146, e147, e148, e149, e150, e151, e152, e153, e154, e155, e156, e157, e158, e159, e160, e161, e162, e163, e164, e165, e166, e167, e168, e169, e170, e171, e172, e173, e174, e175, e176, e177, e178, e179, e180, e181, e182, e183, e184, e185, e186, e187, e188, e189, e190, e191, e192], defers := [] } w4) :
    Code.wp Tryd.prog (withLast 1 part5n6 X) (bodyPost Tryd.prog Tryd.f5 R) { tmps := #[e0, e1, e2, xm, .pointer (some ⟨A, 0, none⟩), e5, .pointer (some ⟨A + 1, 0, none⟩), e7, e8, .pointer (some ⟨K, 0, none⟩), e10, vl, .int .i64 0, .pointer (some ⟨M1, 0, none⟩), .pointer (some ⟨M2, 0, none⟩), e15, e16, e17, e18, e19, e20, e21, e22, e23, e24, e25, e26, e27, e28, e29, e30, e31, e32, e33, e34, e35, e36, e37, e38, e39, e40, e41, e42, e43, e44, e45, e46, e47, e48, e49, e50, e51, e52, e53, e54, e55, e56, e57, e58, e59, e60, e61, e62, e63, e64, e65, e66, e67, e68, e69, e70, e71, e72, e73, e74, e75, e76, e77, e78, e79, e80, e81, e82, e83, e84, e85, e86, e87, e88, e89, e90, e91, e92, e93, e94, e95, e96, e97, e98, e99, e100, e101, e102, e103, e104, e105, e106, e107, e108, e109, e110, e111, e112, e113, e114, e115, e116, e117, e118, e119, e120, e121, e122, e123, e124, e125, e126, e127, e128, e129, e130, e131, e132, e133, e134, e135, e136, e137, e138, e139, e140, e141, e142, e143, e144, e145, e146, e147, e148, e149, e150, e151, e152, e153, e154, e155, e156, e157, e158, e159, e160, e161, e162, e163, e164, e165, e166, e167, e168, e169, e170, e171, e172, e173, e174, e175, e176, e177, e178, e179, e180, e181, e182, e183, e184, e185, e186, e187, e188, e189, e190, e191, e192], defers := [] } w3 := by
  obtain ⟨j0, hj0, hjz, hjs, hjb⟩ := info_parts info41
  have hpos : 0 < k.signs.length := List.length_pos_iff.2 hne
  obtain ⟨b, o, c0, a10, m10, hat, hb⟩ : ∃ (b o c0 : Nat), ws[10]? = some (.slice (some ⟨b, o, none⟩) k.signs.length c0) ∧ w3.cell? ⟨M1, 10, none⟩ = some (.slice (some ⟨b, o, none⟩) k.signs.length c0) ∧ AtRow encS 14 w3 b o k.signs ∧ b < w3.heap.size := by
    obtain ⟨aR, aT, aP, aX, aS, cR, cT, cP, cX, cS, rfl, hR, hT, hP, hX, hS⟩ := hW
    obtain ⟨b, o, rfl, hat, hb⟩ := hS.block (List.getElem?_eq_getElem hpos)
    exact ⟨b, o, cS, rfl, cell_at gM 10 rfl, hat, hb⟩
  have ca : w3.cell? ⟨A, 10, none⟩ = some (.slice (some ⟨b, o, none⟩) k.signs.length c0) := cell_at g0 10 a10
  have hML : M1 < w3.heap.size := (Array.getElem?_eq_some_iff.1 gM).1
  have hAL : A < w3.heap.size := (Array.getElem?_eq_some_iff.1 g0).1
  have hflat := fun (W : World) (hBB : Below w3.heap.size w3 W) (j : Nat) (u : Value) (hu : (k.signs.flatMap encS)[j]? = some u) => (hBB.cell (p := ⟨b, o + j, none⟩) hb).trans (at_flat encS_len (by decide) hat j u hu)
  have hfl := flat_len encS_len k.signs
  have hone := encS_one k.signs
  have hbe : Below w3.heap.size w3 (w3.alloc (.cells #[] 41)) := (Below.refl _ w3).alloc (Nat.le_refl _) _
  have ca' : (w3.alloc (.cells #[] 41)).cell? ⟨A, 10, none⟩ = some (.slice (some ⟨b, o, none⟩) k.signs.length c0) := (hbe.cell (p := ⟨A, 10, none⟩) hAL).trans ca
  have hse : (w3.alloc (.cells #[] 41)).heap.size = w3.heap.size + 1 := by simp
  have HX := Lib.hid hX; have HB := Lib.hid hB; have GM := Lib.hid gM; have HFL := Lib.hid hflat; have HLN := Lib.hid hfl; have HONE := Lib.hid hone; have HBE := Lib.hid hbe; have HSE := Lib.hid hse; have HML := Lib.hid hML; have HM := Lib.hid hM; have HN := Lib.hid hn0; have HPOS := Lib.hid hpos; have M10 := Lib.hid m10
  have HJ0 := Lib.hid hj0; have HJ1 := Lib.hid hjz; have HJ2 := Lib.hid hjs; have HJ3 := Lib.hid hjb
  clear hX hB gM g0 hflat hfl hone hbe hse hML hAL hM hn0 hW hat hb a10 hne hj0 hjz hjs hjb m10 ca
  generalize k.signs.flatMap encS = cells at *
  generalize k.signs.length = n at *
  unfold part5n6 code5
  conv => arg 2; whnf
  simp only [withLast]
  go_wp2_with (at_builtin; refine wpList_append_own _ rfl _ _ 30 rfl w3.heap.size 41 j0 _ 14 112 Tryd.underlying30 HJ0.out HJ1.out HJ2.out HJ3.out rfl (by decide) (.slice (some ⟨w3.heap.size, 0, none⟩) 0 0) 0 [] rfl ⟨rfl, Or.inr ⟨w3.heap.size, 0, #[], rfl, Nat.le_refl _, heap_alloc_new _ _, Nat.le_refl _, by decide, rfl, rfl⟩⟩ ⟨b, o, none⟩ n c0 cells rfl HLN.out (fun j u h => by rw [addr_plain]; exact HFL.out _ HBE.out j u h) HONE.out (by simp only [maxLen]; omega) (by omega) (by have := HSE.out; omega) ?_; intro v' w6 hown hgrow hnil; obtain ⟨I, cp, rfl, hI, B6, m6, c10, q10, hown⟩ := app_facts HPOS.out GM.out M10.out hown hgrow hnil; have HOWN := Lib.hid hown; have HB6 := Lib.hid B6; have M6 := Lib.hid m6; have HI := Lib.hid hI; clear hown hgrow hnil B6 m6 hI)
  refine HX.out _ I cp _ _ _ _ _ _ _ _ _ _ _ _ _ _ _ _ _ _ _ _ _ _ _ _ _ _ _ _ _ _ _ _ _ _ _ _ _ _ _ _ _ _ _ _ _ _ _ _ _ _ _ _ _ _ _ _ _ _ _ _ _ _ _ _ _ _ _ _ _ _ _ _ _ _ _ _ _ _ _ _ _ _ _ _ _ _ _ _ _ _ _ _ _ _ _ _ _ _ _ _ _ _ _ _ _ _ _ _ _ _ _ _ _ _ _ _ _ _ _ _ _ _ _ _ _ _ _ _ _ _ _ _ _ _ _ _ _ _ _ _ _ _ _ _ _ _ _ _ _ _ _ _ _ _ _ _ _ _ _ _ _ _ _ _ _ _ _ _ _ _ _ _ _ _ _ _ _ _ _ _ _ _ _ _ _ ((HB.out.trans (HB6.out.mono HN.out)).setCell (p := ⟨M1, 10, none⟩) HM.out _) HI.out (setCell_block M6.out _) (fun b' hb' hne' => (blk_setCell_ne _ _ _ _ hne').trans (HB6.out.block _ hb')) ?_
  exact owns_set HOWN.out (by have := HML.out; have := HI.out; omega) _
set_option maxRecDepth 100000 in
set_option maxHeartbeats 8000000 in
theorem mir_app2 (k : Wrk) (hne : k.signs ≠ []) (hlen : k.signs.length ≤ 4096) (ws : Array Value) (xm vl : Value) (A K M1 M2 n0 : Nat) (hM : n0 ≤ M2) (w0 w3 : World) (hB : Below n0 w0 w3) (hn0 : n0 ≤ w3.heap.size) (hW : WkAt k ws w3) (g0 : w3.heap[A]? = some (.cells ws 32 (0, 0))) (gM : w3.heap[M2]? = some (.cells ws 32 (0, 0))) (e0 e1 e2 e5 e7 e8 e10 e15 e16 e17 e18 e19 e20 e21 e22 e23 e24 e25 e26 e27 e28 e29 e30 e31 e32 e33 e34 e35 e36 e37 e38 e39 e40 e41 e42 e43 e44 e45 e46 e47 e48 e49 e50 e51 e52 e53 e54 e55 e56 e57 e58 e59 e60 e61 e62 e63 e64 e65 e66 e67 e68 e69 e70 e71 e72 e73 e74 e75 e76 e77 e78 e79 e80 e81 e82 e83 e84 e85 e86 e87 e88 e89 e90 e91 e92 e93 e94 e95 e96 e97 e98 e99 e100 e101 e102 e103 e104 e105 e106 e107 e108 e109 e110 e111 e112 e113 e114 e115 e116 e117 e118 e119 e120 e121 e122 e123 e124 e125 e126 e127 e128 e129 e130 e131 e132 e133 e134 e135 e136 e137 e138 e139 e140 e141 e142 e143 e144 e145 e146 e147 e148 e149 e150 e151 e152 e153 e154 e155 e156 e157 e158 e159 e160 e161 e162 e163 e164 e165 e166 e167 e168 e169 e170 e171 e172 e173 e174 e175 e176 e177 e178 e179 e180 e181 e182 e183 e184 e185 e186 e187 e188 e189 e190 e191 e192 : Value) (R : Ending → World → Prop) (X : Code)
    (hX : ∀ (w4 : World) (I c : Nat) (e0 e1 e2 e5 e7 e8 e10 e15 e16 e17 e18 e19 e20 e21 e22 e23 e24 e25 e26 e27 e28 e29 e30 e31 e32 e33 e34 e35 e36 e37 e38 e39 e40 e41 e42 e43 e44 e45 e46 e47 e48 e49 e50 e51 e52 e53 e54 e55 e56 e57 e58 e59 e60 e61 e62 e63 e64 e65 e66 e67 e68 e69 e70 e71 e72 e73 e74 e75 e76 e77 e78 e79 e80 e81 e82 e83 e84 e85 e86 e87 e88 e89 e90 e91 e92 e93 e94 e95 e96 e97 e98 e99 e100 e101 e102 e103 e104 e105 e106 e107 e108 e109 e110 e111 e112 e113 e114 e115 e116 e117 e118 e119 e120 e121 e122 e123 e124 e125 e126 e127 e128 e129 e130 e131 e132 e133 e134 e135 e136 e137 e138 e139 e140 e141 e142 e143 e144 e145 e146 e147 e148 e149 e150 e151 e152 e153 e154 e155 e156 e157 e158 e159 e160 e161 e162 e163 e164 e165 e166 e167 e168 e169 e170 e171 e172 e173 e174 e175 e176 e177 e178 e179 e180 e181 e182 e183 e184 e185 e186 e187 e188 e189 e190 e191 e192 : Value), Below n0 w0 w4 → w3.heap.size ≤ I → w4.heap[M2]? = some (.cells (ws.setIfInBounds 10 (.slice (some ⟨I, 0, none⟩) k.signs.length c)) 32 (0, 0)) → (∀ b, b < w3.heap.size → b ≠ M2 → w4.heap[b]? = w3.heap[b]?) → w4.ownsRow w3.heap.size 41 14 (.slice (some ⟨I, 0, none⟩) k.signs.length c) k.signs.length (k.signs.flatMap encS) → Code.wp Tryd.prog X (bodyPost Tryd.prog Tryd.f5 R) { tmps := #[e0, e1, e2, xm, .pointer (some ⟨A, 0, none⟩), e5, .pointer (some ⟨A + 1, 0, none⟩), e7, e8, .pointer (some ⟨K, 0, none⟩), e10, vl, .int .i64 0, .pointer (some ⟨M1, 0, none⟩), .pointer (some ⟨M2, 0, none⟩), e15, e16, e17, e18, e19, e20, e21, e22, e23, e24, e25, e26, e27, e28, e29, e30, e31, e32, e33, e34, e35, e36, e37, e38, e39, e40, e41, e42, e43, e44, e45, e46, e47, e48, e49, e50, e51, e52, e53, e54, e55, e56, e57, e58, e59, e60, e61, e62, e63, e64, e65, e66, e67, e68, e69, e70, e71, e72, e73, e74, e75, e76, e77, e78, e79, e80, e81, e82, e83, e84, e85, e86, e87, e88, e89, e90, e91, e92, e93, e94, e95, e96, e97, e98, e99, e100, e101, e102, e103, e104, e105, e106, e107, e108, e109, e110, e111, e112, e113, e114, e115, e116, e117, e118, e119, e120, e121, e122, e123, e124, e125, e126, e127, e128, e129, e130, e131, e132, e133, e134, e135, e136, e137, e138, e139, e140, e141, e142, e143, e144, e145, e146, e147, e148, e149, e150, e151, e152, e153, e154, e155, e156, e157, e158, e159, e160, e161, e162, e163, e164, e165, e166, e167, e168, e169, e170, e171, e172, e173, e174, e175, e176, e177, e178, e179, e180, e181, e182, e183, e184, e185, e186, e187, e188, e189, e190, e191, e192], defers := [] } w4) :
    Code.wp Tryd.prog (withLast 1 part5n7 X) (bodyPost Tryd.prog Tryd.f5 R) { tmps := #[e0, e1, e2, xm, .pointer (some ⟨A, 0, none⟩), e5, .pointer (some ⟨A + 1, 0, none⟩), e7, e8, .pointer (some ⟨K, 0, none⟩), e10, vl, .int .i64 0, .pointer (some ⟨M1, 0, none⟩), .pointer (some ⟨M2, 0, none⟩), e15, e16, e17, e18, e19, e20, e21, e22, e23, e24, e25, e26, e27, e28, e29, e30, e31, e32, e33, e34, e35, e36, e37, e38, e39, e40, e41, e42, e43, e44, e45, e46, e47, e48, e49, e50, e51, e52, e53, e54, e55, e56, e57, e58, e59, e60, e61, e62, e63, e64, e65, e66, e67, e68, e69, e70, e71, e72, e73, e74, e75, e76, e77, e78, e79, e80, e81, e82, e83, e84, e85, e86, e87, e88, e89, e90, e91, e92, e93, e94, e95, e96, e97, e98, e99, e100, e101, e102, e103, e104, e105, e106, e107, e108, e109, e110, e111, e112, e113, e114, e115, e116, e117, e118, e119, e120, e121, e122, e123, e124, e125, e126, e127, e128, e129, e130, e131, e132, e133, e134, e135, e136, e137, e138, e139, e140, e141, e142, e143, e144, e145, e146, e147, e148, e149, e150, e151, e152, e153, e154, e155, e156, e157, e158, e159, e160, e161, e162, e163, e164, e165, e166, e167, e168, e169, e170, e171, e172, e173, e174, e175, e176, e177, e178, e179, e180, e181, e182, e183, e184, e185, e186, e187, e188, e189, e190, e191, e192], defers := [] } w3 := by
  obtain ⟨j0, hj0, hjz, hjs, hjb⟩ := info_parts info41
  have hpos : 0 < k.signs.length := List.length_pos_iff.2 hne
  obtain ⟨b, o, c0, a10, m10, hat, hb⟩ : ∃ (b o c0 : Nat), ws[10]? = some (.slice (some ⟨b, o, none⟩) k.signs.length c0) ∧ w3.cell? ⟨M2, 10, none⟩ = some (.slice (some ⟨b, o, none⟩) k.signs.length c0) ∧ AtRow encS 14 w3 b o k.signs ∧ b < w3.heap.size := by
    obtain ⟨aR, aT, aP, aX, aS, cR, cT, cP, cX, cS, rfl, hR, hT, hP, hX, hS⟩ := hW
    obtain ⟨b, o, rfl, hat, hb⟩ := hS.block (List.getElem?_eq_getElem hpos)
    exact ⟨b, o, cS, rfl, cell_at gM 10 rfl, hat, hb⟩
  have ca : w3.cell? ⟨A, 10, none⟩ = some (.slice (some ⟨b, o, none⟩) k.signs.length c0) := cell_at g0 10 a10
  have hML : M2 < w3.heap.size := (Array.getElem?_eq_some_iff.1 gM).1
  have hAL : A < w3.heap.size := (Array.getElem?_eq_some_iff.1 g0).1
  have hflat := fun (W : World) (hBB : Below w3.heap.size w3 W) (j : Nat) (u : Value) (hu : (k.signs.flatMap encS)[j]? = some u) => (hBB.cell (p := ⟨b, o + j, none⟩) hb).trans (at_flat encS_len (by decide) hat j u hu)
  have hfl := flat_len encS_len k.signs
  have hone := encS_one k.signs
  have hbe : Below w3.heap.size w3 (w3.alloc (.cells #[] 41)) := (Below.refl _ w3).alloc (Nat.le_refl _) _
  have ca' : (w3.alloc (.cells #[] 41)).cell? ⟨A, 10, none⟩ = some (.slice (some ⟨b, o, none⟩) k.signs.length c0) := (hbe.cell (p := ⟨A, 10, none⟩) hAL).trans ca
  have hse : (w3.alloc (.cells #[] 41)).heap.size = w3.heap.size + 1 := by simp
  have HX := Lib.hid hX; have HB := Lib.hid hB; have GM := Lib.hid gM; have HFL := Lib.hid hflat; have HLN := Lib.hid hfl; have HONE := Lib.hid hone; have HBE := Lib.hid hbe; have HSE := Lib.hid hse; have HML := Lib.hid hML; have HM := Lib.hid hM; have HN := Lib.hid hn0; have HPOS := Lib.hid hpos; have M10 := Lib.hid m10
  have HJ0 := Lib.hid hj0; have HJ1 := Lib.hid hjz; have HJ2 := Lib.hid hjs; have HJ3 := Lib.hid hjb
  clear hX hB gM g0 hflat hfl hone hbe hse hML hAL hM hn0 hW hat hb a10 hne hj0 hjz hjs hjb m10 ca
  generalize k.signs.flatMap encS = cells at *
  generalize k.signs.length = n at *
  unfold part5n7 code5
  conv => arg 2; whnf
  simp only [withLast]
  go_wp2_with (at_builtin; refine wpList_append_own _ rfl _ _ 30 rfl w3.heap.size 41 j0 _ 14 112 Tryd.underlying30 HJ0.out HJ1.out HJ2.out HJ3.out rfl (by decide) (.slice (some ⟨w3.heap.size, 0, none⟩) 0 0) 0 [] rfl ⟨rfl, Or.inr ⟨w3.heap.size, 0, #[], rfl, Nat.le_refl _, heap_alloc_new _ _, Nat.le_refl _, by decide, rfl, rfl⟩⟩ ⟨b, o, none⟩ n c0 cells rfl HLN.out (fun j u h => by rw [addr_plain]; exact HFL.out _ HBE.out j u h) HONE.out (by simp only [maxLen]; omega) (by omega) (by have := HSE.out; omega) ?_; intro v' w6 hown hgrow hnil; obtain ⟨I, cp, rfl, hI, B6, m6, c10, q10, hown⟩ := app_facts HPOS.out GM.out M10.out hown hgrow hnil; have HOWN := Lib.hid hown; have HB6 := Lib.hid B6; have M6 := Lib.hid m6; have HI := Lib.hid hI; clear hown hgrow hnil B6 m6 hI)
  refine HX.out _ I cp _ _ _ _ _ _ _ _ _ _ _ _ _ _ _ _ _ _ _ _ _ _ _ _ _ _ _ _ _ _ _ _ _ _ _ _ _ _ _ _ _ _ _ _ _ _ _ _ _ _ _ _ _ _ _ _ _ _ _ _ _ _ _ _ _ _ _ _ _ _ _ _ _ _ _ _ _ _ _ _ _ _ _ _ _ _ _ _ _ _ _ _ _ _ _ _ _ _ _ _ _ _ _ _ _ _ _ _ _ _ _ _ _ _ _ _ _ _ _ _ _ _ _ _ _ _ _ _ _ _ _ _ _ _ _ _ _ _ _ _ _ _ _ _ _ _ _ _ _ _ _ _ _ _ _ _ _ _ _ _ _ _ _ _ _ _ _ _ _ _ _ _ _ _ _ _ _ _ _ _ _ _ _ _ _ ((HB.out.trans (HB6.out.mono HN.out)).setCell (p := ⟨M2, 10, none⟩) HM.out _) HI.out (setCell_block M6.out _) (fun b' hb' hne' => (blk_setCell_ne _ _ _ _ hne').trans (HB6.out.block _ hb')) ?_
  exact owns_set HOWN.out (by have := HML.out; have := HI.out; omega) _
end Go.Proofs.YtggcbblikgankaaDoor
end
section
/- OptionsMirror: the loop that mirrors one copy and marks the other. -/
namespace Go.Proofs.YtggcbblikgankaaDoor
open Go Go.RowKit Go.Deep

theorem row_apart {k i i' j r : Nat} (hj : j < k) (hr : r < k) (h : i' * k + j = i * k + r) : i' = i ∧ j = r := by
  rcases Nat.lt_trichotomy i' i with h1 | h1 | h1
  · have := Nat.mul_le_mul_right k (show i' + 1 ≤ i from h1)
    rw [Nat.succ_mul] at this; omega
  · subst h1; exact ⟨rfl, by omega⟩
  · have := Nat.mul_le_mul_right k (show i + 1 ≤ i' from h1)
    rw [Nat.succ_mul] at this; omega
theorem at_set {α : Type} {enc : α → List Value} {k : Nat} (hk : ∀ x, (enc x).length = k) {w : World} {I : Nat} {L : List α} (h : AtRow enc k w I 0 L) {i r : Nat} {x y : α} {v : Value} (hx : L[i]? = some x) (hr : r < k) (hy : enc y = (enc x).set r v) :
    AtRow enc k (w.setCell ⟨I, i * k + r, none⟩ v) I 0 (L.set i y) := by
  intro i' x' hx' j u hu
  have hjk : j < k := by rw [← hk x']; exact (List.getElem?_eq_some_iff.1 hu).1
  have hil : i < L.length := (List.getElem?_eq_some_iff.1 hx).1
  rw [Nat.zero_add]
  by_cases he : i' = i
  · subst he
    rw [List.getElem?_set_self hil] at hx'
    injection hx' with hx'
    subst hx'
    rw [hy] at hu
    by_cases hjr : j = r
    · subst hjr
      rw [List.getElem?_set_self (by rw [hk x]; exact hr)] at hu
      injection hu with hu
      subst hu
      have h0 : ∃ u0, (enc x)[j]? = some u0 := ⟨_, List.getElem?_eq_getElem (by rw [hk x]; exact hr)⟩
      obtain ⟨u0, h0⟩ := h0
      have := h i' x hx j u0 h0
      rw [Nat.zero_add] at this
      exact World.cell?_setCell_same _ _ _ this
    · rw [List.getElem?_set_ne (fun e => hjr e.symm)] at hu
      have := h i' x hx j u hu
      rw [Nat.zero_add] at this
      rw [World.cell?_setCell_other _ _ _ _ (by intro e; injection e with _ e _; omega)]
      exact this
  · rw [List.getElem?_set_ne (fun e => he e.symm)] at hx'
    have := h i' x' hx' j u hu
    rw [Nat.zero_add] at this
    rw [World.cell?_setCell_other _ _ _ _ (by intro e; injection e with _ e _; exact he (row_apart hjk hr e.symm).1)]
    exact this
theorem at_other {α : Type} {enc : α → List Value} {k : Nat} {w : World} {I J r : Nat} {L : List α} (h : AtRow enc k w I 0 L) (hne : I ≠ J) (v : Value) : AtRow enc k (w.setCell ⟨J, r, none⟩ v) I 0 L := by
  intro i x hx j u hu
  rw [World.cell?_setCell_far _ _ _ _ (fun e => hne e.symm)]
  exact h i x hx j u hu

theorem set_self {l : List Sgn} {i : Nat} {x : Sgn} (h : l[i]? = some x) : l.set i x = l := by
  apply List.ext_getElem?
  intro j
  by_cases hj : i = j
  · subst hj
    rw [List.getElem?_set_self (List.getElem?_eq_some_iff.1 h).1, h]
  · rw [List.getElem?_set_ne hj]
def mirL1 (s : Sgn) (ss : List Sgn) (i : Nat) : List Sgn := mirL s (ss.take i) ++ ss.drop i
def markL1 (s : Sgn) (m : Int) (ss : List Sgn) (i : Nat) : List Sgn := markL s m (ss.take i) ++ ss.drop i
theorem part_at {f : Sgn → Sgn} {ss : List Sgn} {i : Nat} {x : Sgn} (hx : ss[i]? = some x) : ((ss.take i).map f ++ ss.drop i)[i]? = some x := by
  have hl := (List.getElem?_eq_some_iff.1 hx).1
  rw [List.getElem?_append_right (by simp; omega), List.length_map, List.length_take, Nat.min_eq_left (by omega), Nat.sub_self, List.getElem?_drop, Nat.add_zero, hx]
theorem part_next {f : Sgn → Sgn} {ss : List Sgn} {i : Nat} {x : Sgn} (hx : ss[i]? = some x) : (ss.take (i + 1)).map f ++ ss.drop (i + 1) = ((ss.take i).map f ++ ss.drop i).set i (f x) := by
  have hl := (List.getElem?_eq_some_iff.1 hx).1
  have hd : ss.drop i = x :: ss.drop (i + 1) := by
    rw [List.drop_eq_getElem_cons hl]
    congr 1
    have := List.getElem?_eq_getElem hl
    rw [hx] at this; injection this with this; exact this.symm
  rw [List.take_add_one, hx, Option.toList_some, List.map_append, List.map_cons, List.map_nil, hd]
  rw [List.set_append_right _ _ (by simp; omega), List.length_map, List.length_take, Nat.min_eq_left (by omega), Nat.sub_self, List.set_cons_zero]
  simp

structure MirAt (n0 : Nat) (w0 : World) (s : Sgn) (m : Int) (ss : List Sgn) (I1 I2 M1 M2 : Nat) (ws1 ws2 : Array Value) (i : Nat) (w : World) : Prop where
  below : Below n0 w0 w
  m1 : w.heap[M1]? = some (.cells ws1 32 (0, 0))
  m2 : w.heap[M2]? = some (.cells ws2 32 (0, 0))
  r1 : AtRow encS 14 w I1 0 (mirL1 s ss i)
  r2 : AtRow encS 14 w I2 0 (markL1 s m ss i)
  b1 : ∃ cs, w.heap[I1]? = some (.cells cs 41 (0, 0))
  b2 : ∃ cs, w.heap[I2]? = some (.cells cs 41 (0, 0))
  d1 : n0 ≤ M1 ∧ n0 ≤ M2 ∧ M1 < I1 ∧ M2 < I1 ∧ I1 < I2 ∧ M1 ≠ M2
section
variable {n0 : Nat} {w0 : World} {s : Sgn} {m : Int} {ss : List Sgn} {I1 I2 M1 M2 : Nat} {ws1 ws2 : Array Value} {i : Nat} {w : World}
theorem MirAt.drewN (h : MirAt n0 w0 s m ss I1 I2 M1 M2 ws1 ws2 i w) (n : Nat) : MirAt n0 w0 s m ss I1 I2 M1 M2 ws1 ws2 i (w.drewN n) :=
  ⟨below_drewN h.below n, h.m1, h.m2, h.r1, h.r2, h.b1, h.b2, h.d1⟩
theorem MirAt.skip (h : MirAt n0 w0 s m ss I1 I2 M1 M2 ws1 ws2 i w) {x : Sgn} (hx : ss[i]? = some x) (hid : x.id ≠ s.id) : MirAt n0 w0 s m ss I1 I2 M1 M2 ws1 ws2 (i + 1) w := by
  have e1 : mirL1 s ss (i + 1) = mirL1 s ss i := by
    unfold mirL1 mirL
    rw [part_next hx, if_neg hid]
    exact set_self (part_at hx)
  have e2 : markL1 s m ss (i + 1) = markL1 s m ss i := by
    unfold markL1 markL
    rw [part_next hx, if_neg hid]
    exact set_self (part_at hx)
  exact ⟨h.below, h.m1, h.m2, by rw [e1]; exact h.r1, by rw [e2]; exact h.r2, h.b1, h.b2, h.d1⟩
/-- The world behind a round that meets the sign. -/
def mirW (s : Sgn) (m : Int) (I1 I2 i : Nat) (w : World) : World :=
  let w1 := w.setCell ⟨I1, i * 14 + 6, none⟩ (.int .i64 (mirD s.dir))
  let w2 := if s.side = 0 then w1 else w1.setCell ⟨I1, i * 14 + 5, none⟩ (.int .i64 (3 - s.side))
  let w3 := if s.kind = 6 then w2.setCell ⟨I1, i * 14 + 8, none⟩ (.int .i64 (8 - s.size)) else w2
  w3.setCell ⟨I2, i * 14 + 3, none⟩ (.int .i64 m)
theorem MirAt.put1 (h : MirAt n0 w0 s m ss I1 I2 M1 M2 ws1 ws2 i w) {L : List Sgn} {r : Nat} {x y : Sgn} {v : Value} (hr1 : AtRow encS 14 w I1 0 L) (hx : L[i]? = some x) (hr : r < 14) (hy : encS y = (encS x).set r v) :
    AtRow encS 14 (w.setCell ⟨I1, i * 14 + r, none⟩ v) I1 0 (L.set i y) ∧ Below n0 w0 (w.setCell ⟨I1, i * 14 + r, none⟩ v) ∧ (w.setCell ⟨I1, i * 14 + r, none⟩ v).heap[M1]? = some (.cells ws1 32 (0, 0)) := by
  have := h.d1
  exact ⟨at_set encS_len hr1 hx hr hy, h.below.setCell (p := ⟨I1, i * 14 + r, none⟩) (by show n0 ≤ I1; omega) _, (blk_setCell_ne _ _ _ _ (by show M1 ≠ I1; omega)).trans h.m1⟩
theorem MirAt.step (h : MirAt n0 w0 s m ss I1 I2 M1 M2 ws1 ws2 i w) {x : Sgn} (hx : ss[i]? = some x) (hid : x.id = s.id) : MirAt n0 w0 s m ss I1 I2 M1 M2 ws1 ws2 (i + 1) (mirW s m I1 I2 i w) := by
  obtain ⟨hb, hm1, hm2, hr1, hr2, hb1, hb2, hd⟩ := h
  have e1 : mirL1 s ss (i + 1) = (mirL1 s ss i).set i (mirG s x) := by
    unfold mirL1 mirL
    rw [part_next hx, if_pos hid]
  have e2 : markL1 s m ss (i + 1) = (markL1 s m ss i).set i { x with mark := m } := by
    unfold markL1 markL
    rw [part_next hx, if_pos hid]
  have x1 : (mirL1 s ss i)[i]? = some x := part_at hx
  have x2 : (markL1 s m ss i)[i]? = some x := part_at hx
  -- all stores but the last stay in the block of the mirrored signs
  have key : ∀ (w : World) (v : Value) (r : Nat), Below n0 w0 w → w.heap[M1]? = some (.cells ws1 32 (0, 0)) → w.heap[M2]? = some (.cells ws2 32 (0, 0)) → AtRow encS 14 w I2 0 (markL1 s m ss i) → (∃ cs, w.heap[I1]? = some (.cells cs 41 (0, 0))) → (∃ cs, w.heap[I2]? = some (.cells cs 41 (0, 0))) →
      Below n0 w0 (w.setCell ⟨I1, r, none⟩ v) ∧ (w.setCell ⟨I1, r, none⟩ v).heap[M1]? = some (.cells ws1 32 (0, 0)) ∧ (w.setCell ⟨I1, r, none⟩ v).heap[M2]? = some (.cells ws2 32 (0, 0)) ∧ AtRow encS 14 (w.setCell ⟨I1, r, none⟩ v) I2 0 (markL1 s m ss i) ∧ (∃ cs, (w.setCell ⟨I1, r, none⟩ v).heap[I1]? = some (.cells cs 41 (0, 0))) ∧ (∃ cs, (w.setCell ⟨I1, r, none⟩ v).heap[I2]? = some (.cells cs 41 (0, 0))) := by
    rintro w v r a1 a2 a3 a4 ⟨cs1, a5⟩ ⟨cs2, a6⟩
    exact ⟨a1.setCell (p := ⟨I1, r, none⟩) (by show n0 ≤ I1; omega) _, (blk_setCell_ne _ _ _ _ (by show M1 ≠ I1; omega)).trans a2, (blk_setCell_ne _ _ _ _ (by show M2 ≠ I1; omega)).trans a3, at_other a4 (by omega) _, ⟨_, setCell_block a5 _⟩, ⟨_, (blk_setCell_ne _ _ _ _ (by show I2 ≠ I1; omega)).trans a6⟩⟩
  unfold mirW
  -- the direction
  have k1 := key w (.int .i64 (mirD s.dir)) (i * 14 + 6) hb hm1 hm2 hr2 hb1 hb2
  have r1 : AtRow encS 14 (w.setCell ⟨I1, i * 14 + 6, none⟩ (.int .i64 (mirD s.dir))) I1 0 ((mirL1 s ss i).set i { x with dir := mirD s.dir }) := at_set encS_len hr1 x1 (by omega) rfl
  have hil : i < (mirL1 s ss i).length := (List.getElem?_eq_some_iff.1 x1).1
  generalize w.setCell ⟨I1, i * 14 + 6, none⟩ (.int .i64 (mirD s.dir)) = wa at *
  obtain ⟨p1, p2, p3, p4, p5, p6⟩ := k1
  -- the side
  obtain ⟨wb, hwb, q1, q2, q3, q4, q5, q6, rb⟩ : ∃ wb, (if s.side = 0 then wa else wa.setCell ⟨I1, i * 14 + 5, none⟩ (.int .i64 (3 - s.side))) = wb ∧ Below n0 w0 wb ∧ wb.heap[M1]? = some (.cells ws1 32 (0, 0)) ∧ wb.heap[M2]? = some (.cells ws2 32 (0, 0)) ∧ AtRow encS 14 wb I2 0 (markL1 s m ss i) ∧ (∃ cs, wb.heap[I1]? = some (.cells cs 41 (0, 0))) ∧ (∃ cs, wb.heap[I2]? = some (.cells cs 41 (0, 0))) ∧ AtRow encS 14 wb I1 0 ((mirL1 s ss i).set i { x with dir := mirD s.dir, side := if s.side = 0 then x.side else 3 - s.side }) := by
    by_cases hs : s.side = 0
    · refine ⟨wa, if_pos hs, p1, p2, p3, p4, p5, p6, ?_⟩
      rw [if_pos hs]; exact r1
    · have k2 := key wa (.int .i64 (3 - s.side)) (i * 14 + 5) p1 p2 p3 p4 p5 p6
      refine ⟨_, if_neg hs, k2.1, k2.2.1, k2.2.2.1, k2.2.2.2.1, k2.2.2.2.2.1, k2.2.2.2.2.2, ?_⟩
      rw [if_neg hs]
      have := at_set (y := { x with dir := mirD s.dir, side := 3 - s.side }) (v := .int .i64 (3 - s.side)) encS_len r1 (List.getElem?_set_self hil) (show 5 < 14 by omega) rfl
      rw [List.set_set] at this
      exact this
  simp only [hwb]
  clear p1 p2 p3 p4 p5 p6 r1 hwb
  obtain ⟨wc, hwc, p1, p2, p3, p4, p5, p6, rc⟩ : ∃ wc, (if s.kind = 6 then wb.setCell ⟨I1, i * 14 + 8, none⟩ (.int .i64 (8 - s.size)) else wb) = wc ∧ Below n0 w0 wc ∧ wc.heap[M1]? = some (.cells ws1 32 (0, 0)) ∧ wc.heap[M2]? = some (.cells ws2 32 (0, 0)) ∧ AtRow encS 14 wc I2 0 (markL1 s m ss i) ∧ (∃ cs, wc.heap[I1]? = some (.cells cs 41 (0, 0))) ∧ (∃ cs, wc.heap[I2]? = some (.cells cs 41 (0, 0))) ∧ AtRow encS 14 wc I1 0 ((mirL1 s ss i).set i (mirG s x)) := by
    by_cases hs : s.kind = 6
    · have k2 := key wb (.int .i64 (8 - s.size)) (i * 14 + 8) q1 q2 q3 q4 q5 q6
      refine ⟨_, if_pos hs, k2.1, k2.2.1, k2.2.2.1, k2.2.2.2.1, k2.2.2.2.2.1, k2.2.2.2.2.2, ?_⟩
      have := at_set (y := mirG s x) (v := .int .i64 (8 - s.size)) encS_len rb (List.getElem?_set_self hil) (show 8 < 14 by omega) (by simp [mirG, encS, hs])
      rw [List.set_set] at this
      exact this
    · refine ⟨wb, if_neg hs, q1, q2, q3, q4, q5, q6, ?_⟩
      have e : mirG s x = { x with dir := mirD s.dir, side := if s.side = 0 then x.side else 3 - s.side } := by simp [mirG, hs]
      rw [e]; exact rb
  simp only [hwc]
  clear q1 q2 q3 q4 q5 q6 rb hwc
  obtain ⟨cs1, p5⟩ := p5
  obtain ⟨cs2, p6⟩ := p6
  refine ⟨p1.setCell (p := ⟨I2, i * 14 + 3, none⟩) (by show n0 ≤ I2; omega) _, (blk_setCell_ne _ _ _ _ (by show M1 ≠ I2; omega)).trans p2, (blk_setCell_ne _ _ _ _ (by show M2 ≠ I2; omega)).trans p3, ?_, ?_, ⟨_, (blk_setCell_ne _ _ _ _ (by show I1 ≠ I2; omega)).trans p5⟩, ⟨_, setCell_block p6 _⟩, hd⟩
  · rw [e1]; exact at_other rc (by omega) _
  · rw [e2]; exact at_set encS_len p4 x2 (by omega) rfl
end
end Go.Proofs.YtggcbblikgankaaDoor
end
section
/- OptionsMirror: the walk of the loop. -/
namespace Go.Proofs.YtggcbblikgankaaDoor
open Go Go.RowKit Go.Deep

noncomputable def part5n8 : Code := lastPart 8 code5
set_option maxRecDepth 100000 in
set_option maxHeartbeats 8000000 in
theorem mir_loop (s : Sgn) (mk : Nat) (hmk : mk < 256) (ss : List Sgn) (n : Nat) (hn : ss.length = n) (hn2 : n ≤ 4096) (hd : 0 ≤ s.dir ∧ s.dir ≤ 8) (hsd : 0 ≤ s.side ∧ s.side ≤ 2) (hsz : s.kind = 6 → 1 ≤ s.size ∧ s.size ≤ 7) (vl : Value) (A K M1 M2 I1 I2 n0 b o cc c1 c2 : Nat) (ws ws1 ws2 : Array Value) (w0 w3 : World) (hA : A < n0) (hK : K < n0) (hb : b < n0)
    (gA : w0.heap[A]? = some (.cells ws 32 (0, 0))) (gK : w0.heap[K]? = some (.cells (sgnA s) 41 (0, 0))) (h10 : ws[10]? = some (.slice (some ⟨b, o, none⟩) n cc)) (hat : AtRow encS 14 w0 b o ss) (h11 : ws1[10]? = some (.slice (some ⟨I1, 0, none⟩) n c1)) (h12 : ws2[10]? = some (.slice (some ⟨I2, 0, none⟩) n c2))
    (hM : MirAt n0 w0 s (1 + ((mk % 3 : Nat) : Int)) ss I1 I2 M1 M2 ws1 ws2 0 w3) (e0 e1 e2 e5 e7 e8 e10 e15 e16 e17 e18 e19 e20 e21 e22 e23 e24 e25 e26 e27 e28 e29 e30 e31 e32 e33 e34 e35 e36 e37 e38 e39 e40 e41 e42 e43 e44 e45 e46 e47 e48 e49 e50 e51 e52 e53 e54 e55 e56 e57 e58 e59 e60 e61 e62 e63 e64 e65 e66 e67 e68 e69 e70 e71 e72 e73 e74 e75 e76 e77 e78 e79 e80 e81 e82 e83 e84 e85 e86 e87 e88 e89 e90 e91 e92 e93 e94 e95 e96 e97 e98 e99 e100 e101 e102 e103 e104 e105 e106 e107 e108 e109 e110 e111 e112 e113 e114 e115 e116 e117 e118 e119 e120 e121 e122 e123 e124 e125 e126 e127 e128 e129 e130 e131 e132 e133 e134 e135 e136 e137 e138 e139 e140 e141 e142 e143 e144 e145 e146 e147 e148 e149 e150 e151 e152 e153 e154 e155 e156 e157 e158 e159 e160 e161 e162 e163 e164 e165 e166 e167 e168 e169 e170 e171 e172 e173 e174 e175 e176 e177 e178 e179 e180 e181 e182 e183 e184 e185 e186 e187 e188 e189 e190 e191 e192 : Value) (R : Ending → World → Prop) (X : Code)
    (hX : ∀ (w4 : World) (e0 e1 e2 e5 e7 e8 e10 e15 e16 e17 e18 e19 e20 e21 e22 e23 e24 e25 e26 e27 e28 e29 e30 e31 e32 e33 e34 e35 e36 e37 e38 e39 e40 e41 e42 e43 e44 e45 e46 e47 e48 e49 e50 e51 e52 e53 e54 e55 e56 e57 e58 e59 e60 e61 e62 e63 e64 e65 e66 e67 e68 e69 e70 e71 e72 e73 e74 e75 e76 e77 e78 e79 e80 e81 e82 e83 e84 e85 e86 e87 e88 e89 e90 e91 e92 e93 e94 e95 e96 e97 e98 e99 e100 e101 e102 e103 e104 e105 e106 e107 e108 e109 e110 e111 e112 e113 e114 e115 e116 e117 e118 e119 e120 e121 e122 e123 e124 e125 e126 e127 e128 e129 e130 e131 e132 e133 e134 e135 e136 e137 e138 e139 e140 e141 e142 e143 e144 e145 e146 e147 e148 e149 e150 e151 e152 e153 e154 e155 e156 e157 e158 e159 e160 e161 e162 e163 e164 e165 e166 e167 e168 e169 e170 e171 e172 e173 e174 e175 e176 e177 e178 e179 e180 e181 e182 e183 e184 e185 e186 e187 e188 e189 e190 e191 e192 : Value), MirAt n0 w0 s (1 + ((mk % 3 : Nat) : Int)) ss I1 I2 M1 M2 ws1 ws2 n w4 → Code.wp Tryd.prog X (bodyPost Tryd.prog Tryd.f5 R) { tmps := #[e0, e1, e2, .int .u8 (mk : Nat), .pointer (some ⟨A, 0, none⟩), e5, .pointer (some ⟨A + 1, 0, none⟩), e7, e8, .pointer (some ⟨K, 0, none⟩), e10, vl, .int .i64 0, .pointer (some ⟨M1, 0, none⟩), .pointer (some ⟨M2, 0, none⟩), e15, e16, e17, e18, e19, e20, e21, e22, e23, e24, e25, e26, e27, e28, e29, e30, e31, e32, e33, e34, e35, e36, e37, e38, e39, e40, e41, e42, e43, e44, e45, e46, e47, e48, e49, e50, e51, e52, e53, e54, e55, e56, e57, e58, e59, e60, e61, e62, e63, e64, e65, e66, e67, e68, e69, e70, e71, e72, e73, e74, e75, e76, e77, e78, e79, e80, e81, e82, e83, e84, e85, e86, e87, e88, e89, e90, e91, e92, e93, e94, e95, e96, e97, e98, e99, e100, e101, e102, e103, e104, e105, e106, e107, e108, e109, e110, e111, e112, e113, e114, e115, e116, e117, e118, e119, e120, e121, e122, e123, e124, e125, e126, e127, e128, e129, e130, e131, e132, e133, e134, e135, e136, e137, e138, e139, e140, e141, e142, e143, e144, e145, e146, e147, e148, e149, e150, e151, e152, e153, e154, e155, e156, e157, e158, e159, e160, e161, e162, e163, e164, e165, e166, e167, e168, e169, e170, e171, e172, e173, e174, e175, e176, e177, e178, e179, e180, e181, e182, e183, e184, e185, e186, e187, e188, e189, e190, e191, e192], defers := [] } w4) :
    Code.wp Tryd.prog (withLast 1 part5n8 X) (bodyPost Tryd.prog Tryd.f5 R) { tmps := #[e0, e1, e2, .int .u8 (mk : Nat), .pointer (some ⟨A, 0, none⟩), e5, .pointer (some ⟨A + 1, 0, none⟩), e7, e8, .pointer (some ⟨K, 0, none⟩), e10, vl, .int .i64 0, .pointer (some ⟨M1, 0, none⟩), .pointer (some ⟨M2, 0, none⟩), e15, e16, e17, e18, e19, e20, e21, e22, e23, e24, e25, e26, e27, e28, e29, e30, e31, e32, e33, e34, e35, e36, e37, e38, e39, e40, e41, e42, e43, e44, e45, e46, e47, e48, e49, e50, e51, e52, e53, e54, e55, e56, e57, e58, e59, e60, e61, e62, e63, e64, e65, e66, e67, e68, e69, e70, e71, e72, e73, e74, e75, e76, e77, e78, e79, e80, e81, e82, e83, e84, e85, e86, e87, e88, e89, e90, e91, e92, e93, e94, e95, e96, e97, e98, e99, e100, e101, e102, e103, e104, e105, e106, e107, e108, e109, e110, e111, e112, e113, e114, e115, e116, e117, e118, e119, e120, e121, e122, e123, e124, e125, e126, e127, e128, e129, e130, e131, e132, e133, e134, e135, e136, e137, e138, e139, e140, e141, e142, e143, e144, e145, e146, e147, e148, e149, e150, e151, e152, e153, e154, e155, e156, e157, e158, e159, e160, e161, e162, e163, e164, e165, e166, e167, e168, e169, e170, e171, e172, e173, e174, e175, e176, e177, e178, e179, e180, e181, e182, e183, e184, e185, e186, e187, e188, e189, e190, e191, e192], defers := [] } w3 := by
  have hmv : mirV s.dir = .tuple #[.int .i64 (mirD s.dir), .int .i64 0] := by unfold mirV mirD; rw [inB_iff.2 hd]; rfl
  have hmod : ((mk : Int)).tmod 3 = ((mk % 3 : Nat) : Int) := rfl
  have hm3 : mk % 3 < 3 := Nat.mod_lt _ (by omega)
  have W0 : IntKind.i64.wrap (mk : Int) = (mk : Int) := IntWalk.i64_in _ (by omega)
  generalize mk % 3 = m3 at *
  have W1 : IntKind.i64.wrap (1 + (m3 : Int)) = 1 + (m3 : Int) := IntWalk.i64_in _ (by omega)
  have W2 : IntKind.i64.wrap (3 - s.side) = 3 - s.side := IntWalk.i64_in _ (by omega)
  have cA : ∀ W, Below n0 w0 W → W.cell? ⟨A, 10, none⟩ = some (.slice (some ⟨b, o, none⟩) n cc) := fun W h => (h.cell (p := ⟨A, 10, none⟩) hA).trans (cell_at gA 10 h10)
  have cK : ∀ W, Below n0 w0 W → ∀ (j : Nat) (v : Value), (sgnA s)[j]? = some v → W.cell? ⟨K, j, none⟩ = some v := fun W h j v hj => (h.cell (p := ⟨K, j, none⟩) hK).trans (cell_at gK j hj)
  have cS : ∀ W, Below n0 w0 W → ∀ (i : Nat) (x : Sgn), ss[i]? = some x → W.cell? ⟨b, o + i * 14, none⟩ = some (.int .i64 x.id) := fun W h i x hx => by
    have := hat i x hx 0 _ rfl
    exact (h.cell (p := ⟨b, o + i * 14, none⟩) hb).trans this
  have CA := Lib.hid cA; have CK := Lib.hid cK; have CS := Lib.hid cS; have HM := Lib.hid hM; have HX := Lib.hid hX; have H11 := Lib.hid h11; have H12 := Lib.hid h12; have HN := Lib.hid hn; have HMV := Lib.hid hmv; have HSZ := Lib.hid hsz
  have HD1 := Lib.hid hM.d1; have HKn := Lib.hid hK
  have ca := CA.out w3 hM.below
  clear cA cK cS hM hX h11 h12 hn hmv hsz gA gK h10 hat hA hK hb
  unfold part5n8 code5
  conv => arg 2; whnf
  simp only [withLast]
  go_wp2_with fail
  clear ca
  go_loopw [76] (fun iv wr => ∃ i : Nat, i ≤ n ∧ iv = .int .i64 i ∧ Hid (MirAt n0 w0 s (1 + (m3 : Int)) ss I1 I2 M1 M2 ws1 ws2 i wr)) (fun iv _ => n - (intOf iv).toNat)
  case atStart => exact ⟨0, Nat.zero_le _, rfl, HM⟩
  case round =>
    clear HM
    obtain ⟨i, hin, rfl, hM⟩ := hrel
    by_cases hi : i < n
    · obtain ⟨x, hx⟩ : ∃ x, ss[i]? = some x := ⟨_, List.getElem?_eq_getElem (by rw [HN.out]; exact hi)⟩
      have hi' : (i : Int) < (n : Int) := by omega
      have ca := CA.out wr hM.out.below
      have ck0 : wr.cell? ⟨K, 0, none⟩ = some (.int .i64 s.id) := CK.out wr hM.out.below 0 _ rfl
      have p0 := CS.out wr hM.out.below i x hx
      by_cases hid : x.id = s.id
      · have c4 : wr.cell? ⟨K, 4, none⟩ = some (.int .i64 s.kind) := CK.out wr hM.out.below 4 _ rfl
        have c5 : wr.cell? ⟨K, 5, none⟩ = some (.int .i64 s.side) := CK.out wr hM.out.below 5 _ rfl
        have c6 : wr.cell? ⟨K, 6, none⟩ = some (.int .i64 s.dir) := CK.out wr hM.out.below 6 _ rfl
        have c8 : wr.cell? ⟨K, 8, none⟩ = some (.int .i64 s.size) := CK.out wr hM.out.below 8 _ rfl
        have m1 := cell_at hM.out.m1 10 H11.out
        have m2 := cell_at hM.out.m2 10 H12.out
        obtain ⟨cs1, b1⟩ := hM.out.b1
        obtain ⟨cs2, b2⟩ := hM.out.b2
        have x1 : (mirL1 s ss i)[i]? = some x := part_at hx
        have x2 : (markL1 s (1 + (m3 : Int)) ss i)[i]? = some x := part_at hx
        have q5 : wr.cell? ⟨I1, i * 14 + 5, none⟩ = some (.int .i64 x.side) := by have := hM.out.r1 i x x1 5 _ rfl; rwa [Nat.zero_add] at this
        have q6 : wr.cell? ⟨I1, i * 14 + 6, none⟩ = some (.int .i64 x.dir) := by have := hM.out.r1 i x x1 6 _ rfl; rwa [Nat.zero_add] at this
        have q8 : wr.cell? ⟨I1, i * 14 + 8, none⟩ = some (.int .i64 x.size) := by have := hM.out.r1 i x x1 8 _ rfl; rwa [Nat.zero_add] at this
        have q3 : wr.cell? ⟨I2, i * 14 + 3, none⟩ = some (.int .i64 x.mark) := by have := hM.out.r2 i x x2 3 _ rfl; rwa [Nat.zero_add] at this
        have g5 := free_at b1 (i * 14 + 5); have g6 := free_at b1 (i * 14 + 6); have g8 := free_at b1 (i * 14 + 8); have g3 := free_at b2 (i * 14 + 3)
        have z0 : (x.id != s.id) = false := by simp [hid]
        have HXX := Lib.hid hx; have HID := Lib.hid hid
        have hdd := HD1.out
        have hkn := HKn.out
        have n1 : ¬ I1 = K := by omega
        have n2 : ¬ I1 = M2 := by omega
        have n3 : ¬ I1 = I2 := by omega
        clear hx hid hdd hkn b1 b2 x1 x2 cs1 cs2
        by_cases hs0 : s.side = 0
        · have zs : (s.side != 0) = false := by simp [hs0]
          have HS0 := Lib.hid hs0
          clear hs0
          by_cases hk6 : s.kind = 6
          · skip
            have zk : (s.kind == 6) = true := by simp [hk6]
            have hzz := HSZ.out hk6
            have W3 : IntKind.i64.wrap (8 - s.size) = 8 - s.size := IntWalk.i64_in _ (by omega)
            have HK6 := Lib.hid hk6
            clear hk6
            go_wp2_with fail
            go_region_held3 (fun w2 => w2.cell? ⟨A, 10, none⟩ = some (.slice (some ⟨b, o, none⟩) n cc) ∧ w2.cell? ⟨b, o + i * 14, none⟩ = some (.int .i64 x.id) ∧ w2.cell? ⟨K, 0, none⟩ = some (.int .i64 s.id)) (first | assumption | exact ⟨ca, p0, ck0⟩) (fail)
            go_wp2_with fail
            refine (mirrored_any s.dir _).mono ?_
            rintro e w' ⟨rfl, rfl⟩
            rw [HMV.out]
            go_wp2_with fail
            go_roundw
            case rel =>
              have hst := (hM.out.step HXX.out HID.out).drewN 1
              unfold mirW at hst
              simp only [if_pos HS0.out, if_pos HK6.out] at hst
              exact ⟨i + 1, by omega, by go_num, Lib.hid hst⟩
            case measure => simp [intOf]; omega
          · skip
            have zk : (s.kind == 6) = false := by simpa using hk6
            have HK6 := Lib.hid hk6
            clear hk6
            go_wp2_with fail
            go_region_held3 (fun w2 => w2.cell? ⟨A, 10, none⟩ = some (.slice (some ⟨b, o, none⟩) n cc) ∧ w2.cell? ⟨b, o + i * 14, none⟩ = some (.int .i64 x.id) ∧ w2.cell? ⟨K, 0, none⟩ = some (.int .i64 s.id)) (first | assumption | exact ⟨ca, p0, ck0⟩) (fail)
            go_wp2_with fail
            refine (mirrored_any s.dir _).mono ?_
            rintro e w' ⟨rfl, rfl⟩
            rw [HMV.out]
            go_wp2_with fail
            go_roundw
            case rel =>
              have hst := (hM.out.step HXX.out HID.out).drewN 1
              unfold mirW at hst
              simp only [if_pos HS0.out, if_neg HK6.out] at hst
              exact ⟨i + 1, by omega, by go_num, Lib.hid hst⟩
            case measure => simp [intOf]; omega
        · have zs : (s.side != 0) = true := by simpa using hs0
          have HS0 := Lib.hid hs0
          clear hs0
          by_cases hk6 : s.kind = 6
          · skip
            have zk : (s.kind == 6) = true := by simp [hk6]
            have hzz := HSZ.out hk6
            have W3 : IntKind.i64.wrap (8 - s.size) = 8 - s.size := IntWalk.i64_in _ (by omega)
            have HK6 := Lib.hid hk6
            clear hk6
            go_wp2_with fail
            go_region_held3 (fun w2 => w2.cell? ⟨A, 10, none⟩ = some (.slice (some ⟨b, o, none⟩) n cc) ∧ w2.cell? ⟨b, o + i * 14, none⟩ = some (.int .i64 x.id) ∧ w2.cell? ⟨K, 0, none⟩ = some (.int .i64 s.id)) (first | assumption | exact ⟨ca, p0, ck0⟩) (fail)
            go_wp2_with fail
            refine (mirrored_any s.dir _).mono ?_
            rintro e w' ⟨rfl, rfl⟩
            rw [HMV.out]
            go_wp2_with fail
            go_roundw
            case rel =>
              have hst := (hM.out.step HXX.out HID.out).drewN 1
              unfold mirW at hst
              simp only [if_neg HS0.out, if_pos HK6.out] at hst
              exact ⟨i + 1, by omega, by go_num, Lib.hid hst⟩
            case measure => simp [intOf]; omega
          · skip
            have zk : (s.kind == 6) = false := by simpa using hk6
            have HK6 := Lib.hid hk6
            clear hk6
            go_wp2_with fail
            go_region_held3 (fun w2 => w2.cell? ⟨A, 10, none⟩ = some (.slice (some ⟨b, o, none⟩) n cc) ∧ w2.cell? ⟨b, o + i * 14, none⟩ = some (.int .i64 x.id) ∧ w2.cell? ⟨K, 0, none⟩ = some (.int .i64 s.id)) (first | assumption | exact ⟨ca, p0, ck0⟩) (fail)
            go_wp2_with fail
            refine (mirrored_any s.dir _).mono ?_
            rintro e w' ⟨rfl, rfl⟩
            rw [HMV.out]
            go_wp2_with fail
            go_roundw
            case rel =>
              have hst := (hM.out.step HXX.out HID.out).drewN 1
              unfold mirW at hst
              simp only [if_neg HS0.out, if_neg HK6.out] at hst
              exact ⟨i + 1, by omega, by go_num, Lib.hid hst⟩
            case measure => simp [intOf]; omega
      · have z0 : (x.id != s.id) = true := by simpa using hid
        have HXX := Lib.hid hx; have HID := Lib.hid hid
        clear hx hid
        go_wp2_with fail
        go_region_held3 (fun w2 => w2.cell? ⟨A, 10, none⟩ = some (.slice (some ⟨b, o, none⟩) n cc) ∧ w2.cell? ⟨b, o + i * 14, none⟩ = some (.int .i64 x.id) ∧ w2.cell? ⟨K, 0, none⟩ = some (.int .i64 s.id)) (first | assumption | exact ⟨ca, p0, ck0⟩) (fail)
        go_wp2_with fail
        go_roundw
        case rel => exact ⟨i + 1, by omega, by go_num, Lib.hid ((hM.out.skip HXX.out HID.out).drewN 1)⟩
        case measure => simp [intOf]; omega
    · obtain rfl : i = n := by omega
      have hi' : ¬ (i : Int) < (i : Int) := by omega
      go_wp2_with fail
      exact HX.out _ _ _ _ _ _ _ _ _ _ _ _ _ _ _ _ _ _ _ _ _ _ _ _ _ _ _ _ _ _ _ _ _ _ _ _ _ _ _ _ _ _ _ _ _ _ _ _ _ _ _ _ _ _ _ _ _ _ _ _ _ _ _ _ _ _ _ _ _ _ _ _ _ _ _ _ _ _ _ _ _ _ _ _ _ _ _ _ _ _ _ _ _ _ _ _ _ _ _ _ _ _ _ _ _ _ _ _ _ _ _ _ _ _ _ _ _ _ _ _ _ _ _ _ _ _ _ _ _ _ _ _ _ _ _ _ _ _ _ _ _ _ _ _ _ _ _ _ _ _ _ _ _ _ _ _ _ _ _ _ _ _ _ _ _ _ _ _ _ _ _ _ _ _ _ _ _ _ _ _ _ _ _ _ _ _ hM.out
end Go.Proofs.YtggcbblikgankaaDoor
end
