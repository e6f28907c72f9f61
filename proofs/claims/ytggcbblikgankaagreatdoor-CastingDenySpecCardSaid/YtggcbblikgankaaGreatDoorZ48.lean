/- Contracts and plain laws on the way to the statement: part 48. -/
import Derived.Test.YtggcbblikgankaaGreatDoorZ47
set_option linter.unusedVariables false
set_option linter.unusedSimpArgs false
section
namespace Go.Proofs.YtggcbblikgankaaGreatDoor
open Go Go.RowKit Go.Deep
abbrev caseBc : Array Value := #[.string ⟨#[97]⟩, .int .i64 50, .int .i64 0, .int .i64 1, .int .i64 9, .int .i64 1, .int .i64 1, .int .i64 1, .int .i64 1, .int .i64 9, .int .i64 9, .int .i64 9, .int .i64 3, .int .i64 3, .int .i64 3, .int .i64 0, .int .i64 0]
abbrev caseABc : Array Value := #[.string ⟨#[97]⟩, .int .i64 50, .int .i64 0, .int .i64 1, .int .i64 2, .int .i64 2, .int .i64 1, .int .i64 1, .int .i64 1, .int .i64 9, .int .i64 9, .int .i64 9, .int .i64 3, .int .i64 3, .int .i64 3, .int .i64 0, .int .i64 0, .string ⟨#[97]⟩, .int .i64 50, .int .i64 0, .int .i64 1, .int .i64 9, .int .i64 1, .int .i64 1, .int .i64 1, .int .i64 1, .int .i64 9, .int .i64 9, .int .i64 9, .int .i64 3, .int .i64 3, .int .i64 3, .int .i64 0, .int .i64 0]
set_option maxRecDepth 100000 in
set_option maxHeartbeats 16000000 in
theorem sane_costs (w0 w : World) (hE : Env w0) (hz : 2 ≤ w0.heap.size) (hw : Below w0.heap.size w0 w) (K g : Nat) (a2 : Option Addr) (c2 : Nat) (a12 : Option Addr) (c12 U V : Nat) (hK : w0.heap.size ≤ K ∧ w.heap.size = K + 5) (h1 : w.heap[K]? = some (.cells caseRs 86 (0, 0))) (h2 : w.heap[K + 1]? = some (.cells #[.int .i64 0, .int .i64 9, .int .i64 0] 88 (0, 0))) (h3 : w.heap[K + 2]? = some (.cells caseSs 72 (0, 0))) (h4 : w.heap[K + 3]? = some (.cells (caseWs K (K + 1) (K + 2)) 32 (0, 0))) (h5 : w.heap[K + 4]? = some (.cells caseAc 35 (0, 0)))
  (hr2 : IsRow encI 1 w (.slice a2 2 c2) [1, 0]) (hr12 : IsRow encI 1 w (.slice a12 2 c12) [1, 2]) (R : Ending → World → Prop) (X : Code) (e9 e15 e22 e23 e28 e29 e30 e31 e32 e33 e34 e35 e36 e37 e38 e39 e40 e41 e42 e43 e44 e45 e46 e47 e48 e49 e50 e51 e52 e53 e54 e55 e56 e57 e58 e59 e60 e61 e62 e63 e64 e65 e66 e67 e68 e69 e70 e71 e72 e73 e74 e75 e76 e77 e78 e79 e80 e81 e82 e83 e84 e85 e86 e87 e88 e89 e90 e91 e92 e93 e94 e95 e96 e97 e98 e99 e100 e101 e102 e103 e104 e105 e106 e107 e108 e109 e110 e111 e112 e113 e114 e115 e116 e117 e118 e119 e120 e121 e122 e123 e124 e125 e126 e127 e128 e129 e130 e131 e132 e133 e134 e135 e136 e137 e138 e139 e140 e141 e142 e143 e144 e145 e146 e147 e148 e149 e150 e151 e152 e153 e154 e155 e156 e157 e158 e159 e160 e161 e162 e163 e164 e165 e166 e167 e168 e169 e170 e171 e172 e173 e174 e175 e176 e177 e178 e179 e180 e181 e182 e183 e184 e185 e186 e187 e188 e189 e190 e191 e192 e193 e194 e195 e196 e197 e198 e199 e200 e201 e202 e203 e204 e205 e206 e207 e208 e209 e210 e211 e212 e213 e214 e215 e216 e217 e218 e219 : Value)
  (hX : ∀ (W : World) (a29 : Option Addr) (c29 : Nat) (f28 f157 f158 f159 f160 f161 f162 f163 f164 f165 f166 f167 : Value), Below w0.heap.size w0 W → IsRow encI 1 W (.slice a2 2 c2) [1, 0] → IsRow encI 1 W (.slice a12 2 c12) [1, 2] → IsMat W (.slice a29 2 c29) [[16, -1], [0, 0]] → Code.wp Tryz.prog X (bodyPost Tryz.prog Tryz.f14 R) { tmps := #[.bool false, .slice (some ⟨g, 0, none⟩) 2 2, .slice a2 2 c2, .int .i64 3, .bool true, .int .i64 0, .int .i64 3, .bool true, .int .i64 0, e9, .bool false, .int .i64 0, .slice a12 2 c12, .bool true, .int .i64 0, e15, .bool false, .int .i64 0, .slice (some ⟨U, 0, none⟩) 2 2, .slice (some ⟨V, 0, none⟩) 2 2, .bool true, .int .i64 0, e22, e23, .bool false, .int .i64 0, .pointer (some ⟨K + 3, 0, none⟩), .pointer (some ⟨K + 4, 0, none⟩), f28, .slice a29 2 c29, .int .i64 0, e31, e32, e33, e34, e35, e36, e37, e38, e39, e40, e41, e42, e43, e44, e45, e46, e47, e48, e49, e50, e51, e52, e53, e54, e55, e56, e57, e58, e59, e60, e61, e62, e63, e64, e65, e66, e67, e68, e69, e70, e71, e72, e73, e74, e75, e76, e77, e78, e79, e80, e81, e82, e83, e84, e85, e86, e87, e88, e89, e90, e91, e92, e93, e94, e95, e96, e97, e98, e99, e100, e101, e102, e103, e104, e105, e106, e107, e108, e109, e110, e111, e112, e113, e114, e115, e116, e117, e118, e119, e120, e121, e122, e123, e124, e125, e126, e127, e128, e129, e130, e131, e132, e133, e134, e135, e136, e137, e138, e139, e140, e141, e142, e143, e144, e145, e146, e147, e148, e149, e150, e151, e152, e153, e154, e155, e156, f157, f158, f159, f160, f161, f162, f163, f164, f165, f166, f167, e168, e169, e170, e171, e172, e173, e174, e175, e176, e177, e178, e179, e180, e181, e182, e183, e184, e185, e186, e187, e188, e189, e190, e191, e192, e193, e194, e195, e196, e197, e198, e199, e200, e201, e202, e203, e204, e205, e206, e207, e208, e209, e210, e211, e212, e213, e214, e215, e216, e217, e218, e219], defers := [] } W) :
  Code.wp Tryz.prog (withLast 3 part30n12 X) (bodyPost Tryz.prog Tryz.f14 R) { tmps := #[.bool false, .slice (some ⟨g, 0, none⟩) 2 2, .slice a2 2 c2, .int .i64 3, .bool true, .int .i64 0, .int .i64 3, .bool true, .int .i64 0, e9, .bool false, .int .i64 0, .slice a12 2 c12, .bool true, .int .i64 0, e15, .bool false, .int .i64 0, .slice (some ⟨U, 0, none⟩) 2 2, .slice (some ⟨V, 0, none⟩) 2 2, .bool true, .int .i64 0, e22, e23, .bool false, .int .i64 0, .pointer (some ⟨K + 3, 0, none⟩), .pointer (some ⟨K + 4, 0, none⟩), e28, e29, e30, e31, e32, e33, e34, e35, e36, e37, e38, e39, e40, e41, e42, e43, e44, e45, e46, e47, e48, e49, e50, e51, e52, e53, e54, e55, e56, e57, e58, e59, e60, e61, e62, e63, e64, e65, e66, e67, e68, e69, e70, e71, e72, e73, e74, e75, e76, e77, e78, e79, e80, e81, e82, e83, e84, e85, e86, e87, e88, e89, e90, e91, e92, e93, e94, e95, e96, e97, e98, e99, e100, e101, e102, e103, e104, e105, e106, e107, e108, e109, e110, e111, e112, e113, e114, e115, e116, e117, e118, e119, e120, e121, e122, e123, e124, e125, e126, e127, e128, e129, e130, e131, e132, e133, e134, e135, e136, e137, e138, e139, e140, e141, e142, e143, e144, e145, e146, e147, e148, e149, e150, e151, e152, e153, e154, e155, e156, e157, e158, e159, e160, e161, e162, e163, e164, e165, e166, e167, e168, e169, e170, e171, e172, e173, e174, e175, e176, e177, e178, e179, e180, e181, e182, e183, e184, e185, e186, e187, e188, e189, e190, e191, e192, e193, e194, e195, e196, e197, e198, e199, e200, e201, e202, e203, e204, e205, e206, e207, e208, e209, e210, e211, e212, e213, e214, e215, e216, e217, e218, e219], defers := [] } w := by
 have HX := Lib.hid hX; have HE := Lib.hid hE; have HW := Lib.hid hw; have HR2 := Lib.hid hr2; have HR12 := Lib.hid hr12
 obtain ⟨hK0, hKs⟩ := hK
 have ones : caseAc.all (·.oneCell') = true := by simp [caseAc, Value.oneCell']
 obtain ⟨V6, d6, g6, b6, s6⟩ := mk_blk w (.cells caseAc 35)
 obtain ⟨V7, d7, g7, o7, b7, s7⟩ := set_at g6 4 (.int .i64 9)
 obtain ⟨V8, d8, g8, o8, b8, s8⟩ := set_at g7 5 (.int .i64 1)
 have G8 : Hid (V8.heap[w.heap.size]? = some (.cells caseBc 35 (0, 0))) := Lib.hid g8
 have k4 : V6.cell? ⟨w.heap.size, 4, none⟩ = some (.int .i64 2) := cell_at g6 4 rfl
 have f4 : V6.frozen? ⟨w.heap.size, 4, none⟩ = false := by simp [World.frozen?, g6]
 have k5 : V7.cell? ⟨w.heap.size, 5, none⟩ = some (.int .i64 2) := cell_at g7 5 rfl
 have f5 : V7.frozen? ⟨w.heap.size, 5, none⟩ = false := by simp [World.frozen?, g7]
 have hB8 : Below w.heap.size w V8 := b8 _ _ (b7 _ _ b6 (by omega)) (by omega)
 have HG4 := Lib.hid ((hB8.block _ (by omega)).trans h4); have HG5 := Lib.hid ((hB8.block _ (by omega)).trans h5); have H5 := Lib.hid h5
 obtain ⟨V9, d9, g9, b9, s9⟩ := mk_blk V8 (.cells caseABc 35)
 have hB9 : Below w.heap.size w V9 := hB8.trans (b9.mono (by omega))
 have hw9 : Below w0.heap.size w0 V9 := hw.trans (hB9.mono hw.size)
 have hcc := costs_case K (K + 1) (K + 2) V8.heap.size V9 (Env.two hE hz hw9) (Nat.le_trans hz hw9.size) ((hB9.block _ (by omega)).trans h1) ((hB9.block _ (by omega)).trans h2) ((hB9.block _ (by omega)).trans h3) g9
 have HCC := Lib.hid hcc; have HB9 := Lib.hid hB9; have HW9 := Lib.hid hw9; have HO := Lib.hid ones
 have D9 := Lib.hid d9; have D7 := Lib.hid d7; have D8 := Lib.hid d8
 have D6 := Lib.hid d6
 clear hX hE hw hr2 hr12 d6 hKs hK0 g6 g7 g8 o7 o8 b6 b7 b8 s6 s7 s8 b9 s9 g9 hB8 hcc hB9 hw9 ones h1 h2 h3 h4 h5 d7 d8 d9
 unfold part30n12 part30n9 code30
 conv => arg 2; whnf
 go_wp2_with (first | (refine wpList_load_row rfl 35 _ rfl (K + 4) rfl 35 caseAc (0, 0) _ H5.out Tryz.underlying35 rfl (by kernel_rfl) ?_; simp only [Act.put, List.setIfInBounds_toArray, List.set_cons_zero, List.set_cons_succ]) | (refine wpList_store_row rfl 35 _ _ rfl w.heap.size caseAc rfl rfl 35 _ (heap_alloc_new w _) (by kernel_rfl) rfl HO.out ?_; rw [World.setRow_alloc_new]))
 have hd6 := D6.out
 unfold caseAc at hd6
 try rw [hd6]
 try rw [D6.out]
 have d7 := D7.out; have d8 := D8.out
 conv => arg 2; whnf
 go_wp2_with fail
 clear d7 d8 k4 f4 k5 f5
 have d9 := D9.out
 conv => arg 2; whnf
 go_wp2_with (first | (refine wpList_load_row rfl 32 _ rfl (K + 3) rfl 32 _ (0, 0) _ HG4.out Tryz.underlying32 rfl (by kernel_rfl) ?_; simp only [Act.put, List.setIfInBounds_toArray, List.set_cons_zero, List.set_cons_succ]) | (refine wpList_load_row rfl 35 _ rfl (K + 4) rfl 35 caseAc (0, 0) _ HG5.out Tryz.underlying35 rfl (by kernel_rfl) ?_; simp only [Act.put, List.setIfInBounds_toArray, List.set_cons_zero, List.set_cons_succ]) | (refine wpList_load_row rfl 35 _ rfl w.heap.size rfl 35 caseBc (0, 0) _ G8.out Tryz.underlying35 rfl (by kernel_rfl) ?_; simp only [Act.put, List.setIfInBounds_toArray, List.set_cons_zero, List.set_cons_succ]))
 refine HCC.out.mono ?_
 rintro e W' ⟨a29, c29, rfl, hm, hb⟩
 have hb0 := HW9.out.trans (hb.mono HW9.out.size)
 have hbw := HB9.out.trans (hb.mono HB9.out.size)
 have R2 := Lib.hid (HR2.out.below hbw (Nat.le_refl _)); have R12 := Lib.hid (HR12.out.below hbw (Nat.le_refl _)); have M := Lib.hid hm; have B0 := Lib.hid hb0
 clear hb hb0 hbw hm HCC d9 D9
 go_wp2_with fail
 exact HX.out W' a29 c29 _ _ _ _ _ _ _ _ _ _ _ _ B0.out R2.out R12.out M.out
end Go.Proofs.YtggcbblikgankaaGreatDoor
end
section
namespace Go.Proofs.YtggcbblikgankaaGreatDoor
open Go Go.RowKit Go.Deep
theorem make_rows (W : World) : (Instr.makeSlice 50 (.int .i64 17) (.int .i64 17)).run Tryz.prog W = .ok (.slice (some ⟨W.heap.size, 0, none⟩) 17 17) (W.alloc (.cells (Array.replicate 17 (.slice none 0 0)) 55)) := by
 obtain ⟨i, h1, h2, h3, h4⟩ := info_parts info79b
 have h := run_make (P := Tryz.prog) W 50 55 i (.slice none 0 0) Tryz.underlying50 h1 h2 .i64 .i64 17 17 (by omega) (Int.le_refl _) (by rw [h4]; omega) (by omega)
 rw [h, h3]
 simp [Value.cells, made_one]
 rfl
theorem mat_rows {W : World} {g : Nat} (h : W.heap[g]? = some (.cells (Array.replicate 17 (.slice none 0 0)) 55 (0, 0))) : IsMat W (.slice (some ⟨g, 0, none⟩) 17 17) (List.replicate 17 []) := by
 refine ⟨List.replicate 17 (.slice none 0 0), isRow_block (enc := encH) (k := 1) (fun _ => rfl) h rfl (by decide) (by rw [vals_flat]; simp), rfl, fun i x row hx hr => ?_⟩
 rw [List.getElem?_replicate] at hx hr
 split at hx
 ·cases hx
  rename_i hi
  rw [if_pos hi] at hr
  cases hr
  exact IsRow.nil
 ·cases hx
set_option maxRecDepth 100000 in
set_option maxHeartbeats 16000000 in
theorem sane_end (w0 w : World) (hw : Below w0.heap.size w0 w) (g : Nat) (a2 : Option Addr) (c2 : Nat) (a12 : Option Addr) (c12 U V : Nat) (a29 : Option Addr) (c29 : Nat) (hr2 : IsRow encI 1 w (.slice a2 2 c2) [1, 0]) (hr12 : IsRow encI 1 w (.slice a12 2 c12) [1, 2]) (hm : IsMat w (.slice a29 2 c29) [[16, -1], [0, 0]]) (e9 e15 e22 e23 e26 e27 e28 e31 e32 e33 e34 e35 e36 e37 e38 e39 e40 e41 e42 e43 e44 e45 e46 e47 e48 e49 e50 e51 e52 e53 e54 e55 e56 e57 e58 e59 e60 e61 e62 e63 e64 e65 e66 e67 e68 e69 e70 e71 e72 e73 e74 e75 e76 e77 e78 e79 e80 e81 e82 e83 e84 e85 e86 e87 e88 e89 e90 e91 e92 e93 e94 e95 e96 e97 e98 e99 e100 e101 e102 e103 e104 e105 e106 e107 e108 e109 e110 e111 e112 e113 e114 e115 e116 e117 e118 e119 e120 e121 e122 e123 e124 e125 e126 e127 e128 e129 e130 e131 e132 e133 e134 e135 e136 e137 e138 e139 e140 e141 e142 e143 e144 e145 e146 e147 e148 e149 e150 e151 e152 e153 e154 e155 e156 e157 e158 e159 e160 e161 e162 e163 e164 e165 e166 e167 e168 e169 e170 e171 e172 e173 e174 e175 e176 e177 e178 e179 e180 e181 e182 e183 e184 e185 e186 e187 e188 e189 e190 e191 e192 e193 e194 e195 e196 e197 e198 e199 e200 e201 e202 e203 e204 e205 e206 e207 e208 e209 e210 e211 e212 e213 e214 e215 e216 e217 e218 e219 : Value) :
  Code.wp Tryz.prog part30n15 (bodyPost Tryz.prog Tryz.f14 (trueP w0)) { tmps := #[.bool false, .slice (some ⟨g, 0, none⟩) 2 2, .slice a2 2 c2, .int .i64 3, .bool true, .int .i64 0, .int .i64 3, .bool true, .int .i64 0, e9, .bool false, .int .i64 0, .slice a12 2 c12, .bool true, .int .i64 0, e15, .bool false, .int .i64 0, .slice (some ⟨U, 0, none⟩) 2 2, .slice (some ⟨V, 0, none⟩) 2 2, .bool true, .int .i64 0, e22, e23, .bool false, .int .i64 0, e26, e27, e28, .slice a29 2 c29, .int .i64 0, e31, e32, e33, e34, e35, e36, e37, e38, e39, e40, e41, e42, e43, e44, e45, e46, e47, e48, e49, e50, e51, e52, e53, e54, e55, e56, e57, e58, e59, e60, e61, e62, e63, e64, e65, e66, e67, e68, e69, e70, e71, e72, e73, e74, e75, e76, e77, e78, e79, e80, e81, e82, e83, e84, e85, e86, e87, e88, e89, e90, e91, e92, e93, e94, e95, e96, e97, e98, e99, e100, e101, e102, e103, e104, e105, e106, e107, e108, e109, e110, e111, e112, e113, e114, e115, e116, e117, e118, e119, e120, e121, e122, e123, e124, e125, e126, e127, e128, e129, e130, e131, e132, e133, e134, e135, e136, e137, e138, e139, e140, e141, e142, e143, e144, e145, e146, e147, e148, e149, e150, e151, e152, e153, e154, e155, e156, e157, e158, e159, e160, e161, e162, e163, e164, e165, e166, e167, e168, e169, e170, e171, e172, e173, e174, e175, e176, e177, e178, e179, e180, e181, e182, e183, e184, e185, e186, e187, e188, e189, e190, e191, e192, e193, e194, e195, e196, e197, e198, e199, e200, e201, e202, e203, e204, e205, e206, e207, e208, e209, e210, e211, e212, e213, e214, e215, e216, e217, e218, e219], defers := [] } w := by
 have HW := Lib.hid hw; have HR2 := Lib.hid hr2; have HR12 := Lib.hid hr12
 obtain ⟨V1, d1, g1, b1, s1⟩ := mk_blk w (.cells #[.int .i64 16, .int .i64 (-1)] 3)
 obtain ⟨V2, d2, g2, b2, s2⟩ := mk_blk V1 (.cells #[.int .i64 0, .int .i64 0] 3)
 obtain ⟨V3, d3, g3, b3, s3⟩ := mk_blk V2 (.cells #[.slice (some ⟨w.heap.size, 0, none⟩) 2 2, .slice (some ⟨w.heap.size + 1, 0, none⟩) 2 2] 55)
 have t2 : V2.heap.size = w.heap.size + 1 + 1 := by omega
 rw [s1] at g2 b2
 rw [t2] at g3 b3
 have hB3 : Below w.heap.size w V3 := (b1.trans (b2.mono (by omega))).trans (b3.mono (by omega))
 have hM3 : IsMat V3 (.slice (some ⟨w.heap.size + 1 + 1, 0, none⟩) 2 2) [[16, -1], [0, 0]] := mat_two (vals_at g3 rfl (by omega)) (ints_at (n := 2) (l := [16, -1]) ((b3.block _ (by omega)).trans ((b2.block _ (by omega)).trans g1)) rfl rfl (by omega)) (ints_at (n := 2) (l := [0, 0]) ((b3.block _ (by omega)).trans g2) rfl rfl (by omega))
 have hsame := sameL_any a29 (some ⟨w.heap.size + 1 + 1, 0, none⟩) 2 2 c29 2 [[16, -1], [0, 0]] [[16, -1], [0, 0]] rfl rfl V3 (hm.below hB3 (Nat.le_refl _)) hM3
 rw [decide_eq_true rfl] at hsame
 have HS := Lib.hid hsame; have HB3 := Lib.hid hB3
 clear hw hr2 hr12 hm hsame hB3 hM3 g1 g2 g3 b1 b2 b3 s2 s3
 unfold part30n15 part30n12 part30n9 code30
 conv => arg 2; whnf
 go_wp2_with fail
 refine HS.out.mono ?_
 rintro e W2 ⟨rfl, hb2⟩
 have HB2 := Lib.hid (HB3.out.trans (hb2.mono HB3.out.size))
 clear hb2 HS HB3 d1 d2 d3 s1 t2
 go_wp2_with fail
 obtain ⟨P1, d1, g1, b1, s1⟩ := mk_blk W2 (.cells #[.int .i64 (-2)] 3)
 obtain ⟨P2, d2, g2, b2, s2⟩ := mk_blk P1 (.cells #[.slice (some ⟨W2.heap.size, 0, none⟩) 1 1] 55)
 rw [s1] at g2 b2
 have hBP : Below W2.heap.size W2 P2 := b1.trans (b2.mono (by omega))
 have hch := ccheck_any P2 (mat_one (vals_at (n := 1) g2 rfl (by omega)) (ints_at (n := 1) (l := [-2]) ((b2.block _ (by omega)).trans g1) rfl rfl (by omega)))
 rw [minus_odd] at hch
 have HCH := Lib.hid hch; have HBP := Lib.hid (HB2.out.trans (hBP.mono HB2.out.size))
 have hmk := make_rows
 clear hch hBP g1 g2 b1 b2 s2 HB2
 conv => arg 2; whnf
 go_wp2_with fail
 refine HCH.out.mono ?_
 rintro e W3 ⟨rfl, hb3⟩
 have HB3 := Lib.hid (HBP.out.trans (hb3.mono HBP.out.size))
 clear hb3 HCH HBP d1 d2 s1
 obtain ⟨P1, d1, g1, b1, s1⟩ := mk_blk W3 (.cells #[.int .i64 1, .int .i64 2] 3)
 obtain ⟨P2, d2, g2, b2, s2⟩ := mk_blk P1 (.cells #[.int .i64 1] 3)
 obtain ⟨P3, d3, g3, b3, s3⟩ := mk_blk P2 (.cells #[.slice (some ⟨W3.heap.size, 0, none⟩) 2 2, .slice (some ⟨W3.heap.size + 1, 0, none⟩) 1 1] 55)
 have t2 : P2.heap.size = W3.heap.size + 1 + 1 := by omega
 rw [s1] at g2 b2
 rw [t2] at g3 b3
 have hBP : Below W3.heap.size W3 P3 := (b1.trans (b2.mono (by omega))).trans (b3.mono (by omega))
 have hch := ccheck_any P3 (mat_two (vals_at (n := 2) g3 rfl (by omega)) (ints_at (n := 2) (l := [1, 2]) ((b3.block _ (by omega)).trans ((b2.block _ (by omega)).trans g1)) rfl rfl (by omega)) (ints_at (n := 1) (l := [1]) ((b3.block _ (by omega)).trans g2) rfl rfl (by omega)))
 rw [rag_odd] at hch
 have HCH := Lib.hid hch; have HBP := Lib.hid (HB3.out.trans (hBP.mono HB3.out.size))
 clear hch hBP g1 g2 g3 b1 b2 b3 s2 s3 HB3
 go_wp2_with fail
 refine HCH.out.mono ?_
 rintro e W4 ⟨rfl, hb4⟩
 have HB4 := Lib.hid (HBP.out.trans (hb4.mono HBP.out.size))
 clear hb4 HCH HBP d1 d2 d3 s1 t2
 have hch := ccheck_any (W4.alloc (.cells (Array.replicate 17 (.slice none 0 0)) 55)) (mat_rows (heap_alloc_new W4 _))
 rw [many_odd] at hch
 have HCH := Lib.hid hch; have HBP := Lib.hid (HB4.out.alloc HB4.out.size (.cells (Array.replicate 17 (.slice none 0 0)) 55))
 clear hch HB4
 go_wp2_with fail
 refine HCH.out.mono ?_
 rintro e W5 ⟨rfl, hb5⟩
 have HB5 := Lib.hid (HBP.out.trans (hb5.mono HBP.out.size))
 clear hb5 HCH HBP hmk
 go_wp2_with fail
 obtain ⟨P1, d1, g1, b1, s1⟩ := mk_blk W5 (.cells #[.int .i64 1, .int .i64 0] 3)
 have hsz5 := HB5.out.size
 have hsame := sameI_any a2 (some ⟨W5.heap.size, 0, none⟩) 2 2 c2 2 [1, 0] [1, 0] rfl rfl P1 (HR2.out.below (HB5.out.trans (b1.mono hsz5)) (Nat.le_refl _)) (ints_at (n := 2) (l := [1, 0]) g1 rfl rfl (by omega))
 rw [decide_eq_true rfl] at hsame
 have HS := Lib.hid hsame; have HBP := Lib.hid (HB5.out.trans (b1.mono hsz5))
 clear hsame g1 b1 s1 HB5 hsz5
 conv => arg 2; whnf
 go_wp2_with fail
 refine HS.out.mono ?_
 rintro e W6 ⟨rfl, k, hw6⟩
 have HB6 := Lib.hid (show Below w.heap.size w W6 by rw [hw6]; exact below_drewN HBP.out k)
 clear hw6 HS HBP d1
 obtain ⟨P1, d1, g1, b1, s1⟩ := mk_blk W6 (.cells #[.int .i64 1, .int .i64 2] 3)
 have hsz6 := HB6.out.size
 have hsame := sameI_any a12 (some ⟨W6.heap.size, 0, none⟩) 2 2 c12 2 [1, 2] [1, 2] rfl rfl P1 (HR12.out.below (HB6.out.trans (b1.mono hsz6)) (Nat.le_refl _)) (ints_at (n := 2) (l := [1, 2]) g1 rfl rfl (by omega))
 rw [decide_eq_true rfl] at hsame
 have HS := Lib.hid hsame; have HBP := Lib.hid (HB6.out.trans (b1.mono hsz6))
 clear hsame g1 b1 s1 HB6 hsz6
 go_wp2_with fail
 refine HS.out.mono ?_
 rintro e W7 ⟨rfl, k7, hw7⟩
 have HB7 := Lib.hid (show Below w.heap.size w W7 by rw [hw7]; exact below_drewN HBP.out k7)
 clear hw7 HS HBP d1
 go_wp2_with fail
 go_ret
 exact ⟨rfl, HW.out.trans (HB7.out.mono HW.out.size)⟩
set_option maxRecDepth 100000 in
set_option maxHeartbeats 16000000 in
theorem sane47_any (w : World) (hE : Env w) (hz : 2 ≤ w.heap.size) : Calls Tryz.prog 14 #[] w (trueP w) := by
 have HE := Lib.hid hE
 clear hE
 go_enter Tryz.func14, Tryz.ntmps14
 change Code.wp Tryz.prog (withLast 9 code30 (withLast 3 part30n9 (withLast 3 part30n12 part30n15))) _ _ _
 refine sane_calls w _ _ _ _ _ _ _ _ _ _ _ _ _ _ _ _ _ _ _ _ _ _ _ _ _ _ _ _ _ _ _ _ _ _ _ _ _ _ _ _ _ _ _ _ _ _ _ _ _ _ _ _ _ _ _ _ _ _ _ _ _ _ _ _ _ _ _ _ _ _ _ _ _ _ _ _ _ _ _ _ _ _ _ _ _ _ _ _ _ _ _ _ _ _ _ _ _ _ _ _ _ _ _ _ _ _ _ _ _ _ _ _ _ _ _ _ _ _ _ _ _ _ _ _ _ _ _ _ _ _ _ _ _ _ _ _ _ _ _ _ _ _ _ _ _ _ _ _ _ _ _ _ _ _ _ _ _ _ _ _ _ _ _ _ _ _ _ _ _ _ _ _ _ _ _ _ _ _ _ _ _ _ _ _ _ _ _ _ _ _ _ _ _ _ _ _ _ _ _ _ _ _ _ _ _ _ _ _ _ _ _ _ _ _ _ _ _ _ _ _ _ _ ?_
 intro W1 g a2 c2 a12 c12 U V _ _ _ _ _ _ _ _ _ _ _ _ _ _ _ _ _ _ _ _ _ _ _ _ _ _ _ _ _ _ _ _ _ _ _ _ _ _ _ _ _ _ _ _ _ _ _ _ _ _ _ _ _ _ _ _ _ _ _ _ hb1 hr2 hr12
 refine sane_build W1 g a2 c2 a12 c12 U V _ _ _ _ _ _ _ _ _ _ _ _ _ _ _ _ _ _ _ _ _ _ _ _ _ _ _ _ _ _ _ _ _ _ _ _ _ _ _ _ _ _ _ _ _ _ _ _ _ _ _ _ _ _ _ _ _ _ _ _ _ _ _ _ _ _ _ _ _ _ _ _ _ _ _ _ _ _ _ _ _ _ _ _ _ _ _ _ _ _ _ _ _ _ _ _ _ _ _ _ _ _ _ _ _ _ _ _ _ _ _ _ _ _ _ _ _ _ _ _ _ _ _ _ _ _ _ _ _ _ _ _ _ _ _ _ _ _ _ _ _ _ _ _ _ _ _ _ _ _ _ _ _ _ _ _ _ _ _ _ _ _ _ _ _ _ _ _ _ _ _ _ _ _ _ _ _ _ _ _ _ _ _ _ _ _ _ _ _ _ _ _ _ _ _ _ _ _ _ _ ?_
 intro W2 K _ _ _ _ _ _ _ _ _ _ _ _ _ _ _ _ _ _ _ _ _ _ _ _ _ _ _ _ _ _ _ _ _ _ _ _ _ _ _ _ _ _ _ _ _ _ _ _ _ _ _ _ _ _ _ _ _ _ _ _ _ _ _ _ _ _ _ _ _ _ hb2 hK h1 h2 h3 h4 h5
 refine sane_costs w W2 HE.out hz (hb1.trans (hb2.mono hb1.size)) K g a2 c2 a12 c12 U V ⟨Nat.le_trans hb1.size hK.1, hK.2⟩ h1 h2 h3 h4 h5 (hr2.below hb2 (Nat.le_refl _)) (hr12.below hb2 (Nat.le_refl _)) _ _ _ _ _ _ _ _ _ _ _ _ _ _ _ _ _ _ _ _ _ _ _ _ _ _ _ _ _ _ _ _ _ _ _ _ _ _ _ _ _ _ _ _ _ _ _ _ _ _ _ _ _ _ _ _ _ _ _ _ _ _ _ _ _ _ _ _ _ _ _ _ _ _ _ _ _ _ _ _ _ _ _ _ _ _ _ _ _ _ _ _ _ _ _ _ _ _ _ _ _ _ _ _ _ _ _ _ _ _ _ _ _ _ _ _ _ _ _ _ _ _ _ _ _ _ _ _ _ _ _ _ _ _ _ _ _ _ _ _ _ _ _ _ _ _ _ _ _ _ _ _ _ _ _ _ _ _ _ _ _ _ _ _ _ _ _ _ _ _ _ _ _ _ _ _ _ _ _ _ _ _ _ _ _ _ _ _ _ _ _ _ _ _ _ _ _ _ ?_
 intro W3 a29 c29 _ _ _ _ _ _ _ _ _ _ _ _ hb3 hr2 hr12 hm
 exact sane_end w W3 hb3 g a2 c2 a12 c12 U V a29 c29 hr2 hr12 hm _ _ _ _ _ _ _ _ _ _ _ _ _ _ _ _ _ _ _ _ _ _ _ _ _ _ _ _ _ _ _ _ _ _ _ _ _ _ _ _ _ _ _ _ _ _ _ _ _ _ _ _ _ _ _ _ _ _ _ _ _ _ _ _ _ _ _ _ _ _ _ _ _ _ _ _ _ _ _ _ _ _ _ _ _ _ _ _ _ _ _ _ _ _ _ _ _ _ _ _ _ _ _ _ _ _ _ _ _ _ _ _ _ _ _ _ _ _ _ _ _ _ _ _ _ _ _ _ _ _ _ _ _ _ _ _ _ _ _ _ _ _ _ _ _ _ _ _ _ _ _ _ _ _ _ _ _ _ _ _ _ _ _ _ _ _ _ _ _ _ _ _ _ _ _ _ _ _ _ _ _ _ _ _ _ _ _ _ _ _ _ _ _ _ _ _ 
end Go.Proofs.YtggcbblikgankaaGreatDoor
end
