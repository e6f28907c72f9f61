/- The walk of the statement: part 1. -/
import Derived.Test.YtggcbblikgankaaDoorZ33
import Derived.Test.YtggcbblikgankaaDoorZ35
import Derived.Test.YtggcbblikgankaaDoorZ4
set_option linter.unusedVariables false
set_option linter.unusedSimpArgs false
section
/- OptionsFirst: what the body can do, and how it reads. -/
namespace Go.Proofs.YtggcbblikgankaaDoor
open Go Go.RowKit

noncomputable def code4 : Code := (Tryd.f4.body).getD .skip
noncomputable def part4n6 : Code := lastPart 6 code4
noncomputable def part4n7 : Code := lastPart 7 code4
noncomputable def part4n8 : Code := lastPart 8 code4
noncomputable def part4n10 : Code := lastPart 10 code4
theorem new_block (w : World) (o : Obj) : (w.alloc o).drew.heap[w.heap.size]? = some o := by show (w.heap.push o)[w.heap.size]? = some o; simp
structure NK (w3 : World) (K : Nat) (w2 : World) : Prop where
  below : Below w3.heap.size w3 w2
  lt : K < w3.heap.size
theorem NK.keepS {s : Sgn} {w3 : World} {K : Nat} {w2 : World} (h : w2.cell? ⟨K, 0, none⟩ = some (.int .i64 s.id) ∧ w2.cell? ⟨K, 6, none⟩ = some (.int .i64 s.dir) ∧ w2.cell? ⟨K, 7, none⟩ = some (.int .i64 s.level) ∧ NK w3 K w2) (o : Obj) :
    (w2.alloc o).cell? ⟨K, 0, none⟩ = some (.int .i64 s.id) ∧ (w2.alloc o).cell? ⟨K, 6, none⟩ = some (.int .i64 s.dir) ∧ (w2.alloc o).cell? ⟨K, 7, none⟩ = some (.int .i64 s.level) ∧ NK w3 K (w2.alloc o) := by
  obtain ⟨c0, c6, c7, hb, hl⟩ := h
  have hl2 : K < w2.heap.size := Nat.lt_of_lt_of_le hl hb.size
  have h1 : Below w2.heap.size w2 (w2.alloc o) := (Below.refl _ w2).alloc (Nat.le_refl _) o
  exact ⟨(h1.cell (p := ⟨K, 0, none⟩) hl2).trans c0, (h1.cell (p := ⟨K, 6, none⟩) hl2).trans c6, (h1.cell (p := ⟨K, 7, none⟩) hl2).trans c7, hb.alloc hb.size o, hl⟩
set_option maxRecDepth 100000 in
set_option maxHeartbeats 8000000 in
theorem first_new (s : Sgn) (v : Value) (w3 : World) (A K : Nat) (hk : w3.heap[K]? = some (.cells (sgnA s) 41 (0, 0))) (e0 e1 e2 e4 e6 e8 e10 e11 e12 e13 e14 e15 e16 e17 e18 e19 e20 e21 e22 e23 e24 e25 e26 e27 e28 e29 e30 e31 e32 e33 e34 e35 e36 e37 e38 e39 e40 e41 e42 e43 e44 e45 e46 e47 e48 e49 e50 e51 e52 e53 e54 e55 e56 e57 e58 e59 e60 e61 e62 e63 e64 e65 e66 e67 e68 e69 e70 e71 e72 e73 e74 e75 e76 e77 e78 e79 e80 e81 e82 e83 e84 e85 e86 e87 e88 e89 e90 e91 e92 e93 e94 e95 e96 e97 e98 e99 e100 e101 e102 e103 e104 e105 e106 e107 e108 e109 e110 e111 e112 e113 e114 e115 e116 e117 e118 e119 e120 e121 e122 e123 e124 e125 e126 e127 e128 e129 e130 e131 e132 e133 e134 e135 e136 e137 e138 e139 e140 e141 e142 e143 e144 e145 e146 e147 e148 e149 e150 e151 e152 e153 e154 e155 e156 e157 e158 e159 e160 e161 e162 e163 e164 e165 e166 e167 e168 e169 e170 e171 e172 e173 e174 e175 e176 e177 e178 e179 e180 e181 e182 e183 e184 e185 e186 e187 e188 e189 e190 e191 e192 e193 e194 e195 e196 e197 e198 e199 e200 e201 e202 e203 e204 e205 e206 e207 e208 : Value) (R : Ending → World → Prop) (X : Code)
    (hX : ∀ (w4 : World) (F : Nat) (e0 e1 e2 e4 e6 e8 e10 e13 e14 e15 e16 e17 e18 e19 e20 e21 e22 e23 e24 e25 e26 e27 e28 e29 e30 e31 e32 e33 e34 e35 e36 e37 e38 e39 e40 e41 e42 e43 e44 e45 e46 e47 e48 e49 e50 e51 e52 e53 e54 e55 e56 e57 e58 e59 e60 e61 e62 e63 e64 e65 e66 e67 e68 e69 e70 e71 e72 e73 e74 e75 e76 e77 e78 e79 e80 e81 e82 e83 e84 e85 e86 e87 e88 e89 e90 e91 e92 e93 e94 e95 e96 e97 e98 e99 e100 e101 e102 e103 e104 e105 e106 e107 e108 e109 e110 e111 e112 e113 e114 e115 e116 e117 e118 e119 e120 e121 e122 e123 e124 e125 e126 e127 e128 e129 e130 e131 e132 e133 e134 e135 e136 e137 e138 e139 e140 e141 e142 e143 e144 e145 e146 e147 e148 e149 e150 e151 e152 e153 e154 e155 e156 e157 e158 e159 e160 e161 e162 e163 e164 e165 e166 e167 e168 e169 e170 e171 e172 e173 e174 e175 e176 e177 e178 e179 e180 e181 e182 e183 e184 e185 e186 e187 e188 e189 e190 e191 e192 e193 e194 e195 e196 e197 e198 e199 e200 e201 e202 e203 e204 e205 e206 e207 e208 : Value), w3.heap.size ≤ F → w4.heap[F]? = some (.cells (reaA ⟨s.id, s.dir, s.level, false⟩) 60 (0, 0)) → Below w3.heap.size w3 w4 → Code.wp Tryd.prog X (bodyPost Tryd.prog Tryd.f4 R) { tmps := #[e0, e1, e2, .pointer (some ⟨A, 0, none⟩), e4, .pointer (some ⟨A + 1, 0, none⟩), e6, .pointer (some ⟨K, 0, none⟩), e8, v, e10, .bool true, .pointer (some ⟨F, 0, none⟩), e13, e14, e15, e16, e17, e18, e19, e20, e21, e22, e23, e24, e25, e26, e27, e28, e29, e30, e31, e32, e33, e34, e35, e36, e37, e38, e39, e40, e41, e42, e43, e44, e45, e46, e47, e48, e49, e50, e51, e52, e53, e54, e55, e56, e57, e58, e59, e60, e61, e62, e63, e64, e65, e66, e67, e68, e69, e70, e71, e72, e73, e74, e75, e76, e77, e78, e79, e80, e81, e82, e83, e84, e85, e86, e87, e88, e89, e90, e91, e92, e93, e94, e95, e96, e97, e98, e99, e100, e101, e102, e103, e104, e105, e106, e107, e108, e109, e110, e111, e112, e113, e114, e115, e116, e117, e118, e119, e120, e121, e122, e123, e124, e125, e126, e127, e128, e129, e130, e131, e132, e133, e134, e135, e136, e137, e138, e139, e140, e141, e142, e143, e144, e145, e146, e147, e148, e149, e150, e151, e152, e153, e154, e155, e156, e157, e158, e159, e160, e161, e162, e163, e164, e165, e166, e167, e168, e169, e170, e171, e172, e173, e174, e175, e176, e177, e178, e179, e180, e181, e182, e183, e184, e185, e186, e187, e188, e189, e190, e191, e192, e193, e194, e195, e196, e197, e198, e199, e200, e201, e202, e203, e204, e205, e206, e207, e208], defers := [] } w4) :
    Code.wp Tryd.prog (withLast 1 part4n6 X) (bodyPost Tryd.prog Tryd.f4 R) { tmps := #[e0, e1, e2, .pointer (some ⟨A, 0, none⟩), e4, .pointer (some ⟨A + 1, 0, none⟩), e6, .pointer (some ⟨K, 0, none⟩), e8, v, e10, e11, e12, e13, e14, e15, e16, e17, e18, e19, e20, e21, e22, e23, e24, e25, e26, e27, e28, e29, e30, e31, e32, e33, e34, e35, e36, e37, e38, e39, e40, e41, e42, e43, e44, e45, e46, e47, e48, e49, e50, e51, e52, e53, e54, e55, e56, e57, e58, e59, e60, e61, e62, e63, e64, e65, e66, e67, e68, e69, e70, e71, e72, e73, e74, e75, e76, e77, e78, e79, e80, e81, e82, e83, e84, e85, e86, e87, e88, e89, e90, e91, e92, e93, e94, e95, e96, e97, e98, e99, e100, e101, e102, e103, e104, e105, e106, e107, e108, e109, e110, e111, e112, e113, e114, e115, e116, e117, e118, e119, e120, e121, e122, e123, e124, e125, e126, e127, e128, e129, e130, e131, e132, e133, e134, e135, e136, e137, e138, e139, e140, e141, e142, e143, e144, e145, e146, e147, e148, e149, e150, e151, e152, e153, e154, e155, e156, e157, e158, e159, e160, e161, e162, e163, e164, e165, e166, e167, e168, e169, e170, e171, e172, e173, e174, e175, e176, e177, e178, e179, e180, e181, e182, e183, e184, e185, e186, e187, e188, e189, e190, e191, e192, e193, e194, e195, e196, e197, e198, e199, e200, e201, e202, e203, e204, e205, e206, e207, e208], defers := [] } w3 := by
  have c0 : w3.cell? ⟨K, 0, none⟩ = some (.int .i64 s.id) := cell_at hk 0 rfl
  have c4 : w3.cell? ⟨K, 4, none⟩ = some (.int .i64 s.kind) := cell_at hk 4 rfl
  have c6 : w3.cell? ⟨K, 6, none⟩ = some (.int .i64 s.dir) := cell_at hk 6 rfl
  have c7 : w3.cell? ⟨K, 7, none⟩ = some (.int .i64 s.level) := cell_at hk 7 rfl
  have c8 : w3.cell? ⟨K, 8, none⟩ = some (.int .i64 s.size) := cell_at hk 8 rfl
  have hK : K < w3.heap.size := (Array.getElem?_eq_some_iff.1 hk).1
  have HX := Lib.hid hX
  clear hX hk
  unfold part4n6 code4
  conv => arg 2; whnf
  go_wp2_with fail
  have hs0 : w3.drew.cell? ⟨K, 0, none⟩ = some (.int .i64 s.id) ∧ w3.drew.cell? ⟨K, 6, none⟩ = some (.int .i64 s.dir) ∧ w3.drew.cell? ⟨K, 7, none⟩ = some (.int .i64 s.level) ∧ NK w3 K w3.drew := ⟨c0, c6, c7, (Below.refl _ w3).drew, hK⟩
  have HS0 := Lib.hid hs0
  clear hs0
  go_region_held3 (fun w2 => w2.cell? ⟨K, 0, none⟩ = some (.int .i64 s.id) ∧ w2.cell? ⟨K, 6, none⟩ = some (.int .i64 s.dir) ∧ w2.cell? ⟨K, 7, none⟩ = some (.int .i64 s.level) ∧ NK w3 K w2) (first | assumption | exact HS0.out | exact NK.keepS (by assumption) _ | exact NK.keepS HS0.out _) (fail)
  go_wp2_with fail
  exact HX.out _ w3.heap.size _ _ _ _ _ _ _ _ _ _ _ _ _ _ _ _ _ _ _ _ _ _ _ _ _ _ _ _ _ _ _ _ _ _ _ _ _ _ _ _ _ _ _ _ _ _ _ _ _ _ _ _ _ _ _ _ _ _ _ _ _ _ _ _ _ _ _ _ _ _ _ _ _ _ _ _ _ _ _ _ _ _ _ _ _ _ _ _ _ _ _ _ _ _ _ _ _ _ _ _ _ _ _ _ _ _ _ _ _ _ _ _ _ _ _ _ _ _ _ _ _ _ _ _ _ _ _ _ _ _ _ _ _ _ _ _ _ _ _ _ _ _ _ _ _ _ _ _ _ _ _ _ _ _ _ _ _ _ _ _ _ _ _ _ _ _ _ _ _ _ _ _ _ _ _ _ _ _ _ _ _ _ _ _ _ _ _ _ _ _ _ _ _ _ _ _ _ _ _ _ _ _ _ (Nat.le_refl _) (new_block _ _) (((Below.refl _ w3).alloc (Nat.le_refl _) _).drew)
set_option maxRecDepth 100000 in
set_option maxHeartbeats 8000000 in
theorem first_kinds (s : Sgn) (b : Bod) (v : Value) (w4 : World) (n A K F : Nat) (hnF : n ≤ F) (hb : w4.heap[A + 1]? = some (.cells (bodCells b) 36 (0, 0))) (hk : w4.heap[K]? = some (.cells (sgnA s) 41 (0, 0))) (hf : w4.heap[F]? = some (.cells (reaA ⟨s.id, s.dir, s.level, false⟩) 60 (0, 0))) (e0 e1 e2 e4 e6 e8 e10 e13 e14 e15 e16 e17 e18 e19 e20 e21 e22 e23 e24 e25 e26 e27 e28 e29 e30 e31 e32 e33 e34 e35 e36 e37 e38 e39 e40 e41 e42 e43 e44 e45 e46 e47 e48 e49 e50 e51 e52 e53 e54 e55 e56 e57 e58 e59 e60 e61 e62 e63 e64 e65 e66 e67 e68 e69 e70 e71 e72 e73 e74 e75 e76 e77 e78 e79 e80 e81 e82 e83 e84 e85 e86 e87 e88 e89 e90 e91 e92 e93 e94 e95 e96 e97 e98 e99 e100 e101 e102 e103 e104 e105 e106 e107 e108 e109 e110 e111 e112 e113 e114 e115 e116 e117 e118 e119 e120 e121 e122 e123 e124 e125 e126 e127 e128 e129 e130 e131 e132 e133 e134 e135 e136 e137 e138 e139 e140 e141 e142 e143 e144 e145 e146 e147 e148 e149 e150 e151 e152 e153 e154 e155 e156 e157 e158 e159 e160 e161 e162 e163 e164 e165 e166 e167 e168 e169 e170 e171 e172 e173 e174 e175 e176 e177 e178 e179 e180 e181 e182 e183 e184 e185 e186 e187 e188 e189 e190 e191 e192 e193 e194 e195 e196 e197 e198 e199 e200 e201 e202 e203 e204 e205 e206 e207 e208 : Value) (R : Ending → World → Prop) (X : Code)
    (hX : ∀ (w5 : World) (e0 e1 e2 e4 e6 e8 e10 e13 e14 e15 e16 e17 e18 e19 e20 e21 e22 e23 e24 e25 e26 e27 e28 e29 e30 e31 e32 e33 e34 e35 e36 e37 e38 e39 e40 e41 e42 e43 e44 e45 e46 e47 e48 e49 e50 e51 e52 e53 e54 e55 e56 e57 e58 e59 e60 e61 e62 e63 e64 e65 e66 e67 e68 e69 e70 e71 e72 e73 e74 e75 e76 e77 e78 e79 e80 e81 e82 e83 e84 e85 e86 e87 e88 e89 e90 e91 e92 e93 e94 e95 e96 e97 e98 e99 e100 e101 e102 e103 e104 e105 e106 e107 e108 e109 e110 e111 e112 e113 e114 e115 e116 e117 e118 e119 e120 e121 e122 e123 e124 e125 e126 e127 e128 e129 e130 e131 e132 e133 e134 e135 e136 e137 e138 e139 e140 e141 e142 e143 e144 e145 e146 e147 e148 e149 e150 e151 e152 e153 e154 e155 e156 e157 e158 e159 e160 e161 e162 e163 e164 e165 e166 e167 e168 e169 e170 e171 e172 e173 e174 e175 e176 e177 e178 e179 e180 e181 e182 e183 e184 e185 e186 e187 e188 e189 e190 e191 e192 e193 e194 e195 e196 e197 e198 e199 e200 e201 e202 e203 e204 e205 e206 e207 e208 : Value), w5.heap[F]? = some (.cells (reaA (firstR s b)) 60 (0, 0)) → Below n w4 w5 → Code.wp Tryd.prog X (bodyPost Tryd.prog Tryd.f4 R) { tmps := #[e0, e1, e2, .pointer (some ⟨A, 0, none⟩), e4, .pointer (some ⟨A + 1, 0, none⟩), e6, .pointer (some ⟨K, 0, none⟩), e8, v, e10, .bool (canB s b), .pointer (some ⟨F, 0, none⟩), e13, e14, e15, e16, e17, e18, e19, e20, e21, e22, e23, e24, e25, e26, e27, e28, e29, e30, e31, e32, e33, e34, e35, e36, e37, e38, e39, e40, e41, e42, e43, e44, e45, e46, e47, e48, e49, e50, e51, e52, e53, e54, e55, e56, e57, e58, e59, e60, e61, e62, e63, e64, e65, e66, e67, e68, e69, e70, e71, e72, e73, e74, e75, e76, e77, e78, e79, e80, e81, e82, e83, e84, e85, e86, e87, e88, e89, e90, e91, e92, e93, e94, e95, e96, e97, e98, e99, e100, e101, e102, e103, e104, e105, e106, e107, e108, e109, e110, e111, e112, e113, e114, e115, e116, e117, e118, e119, e120, e121, e122, e123, e124, e125, e126, e127, e128, e129, e130, e131, e132, e133, e134, e135, e136, e137, e138, e139, e140, e141, e142, e143, e144, e145, e146, e147, e148, e149, e150, e151, e152, e153, e154, e155, e156, e157, e158, e159, e160, e161, e162, e163, e164, e165, e166, e167, e168, e169, e170, e171, e172, e173, e174, e175, e176, e177, e178, e179, e180, e181, e182, e183, e184, e185, e186, e187, e188, e189, e190, e191, e192, e193, e194, e195, e196, e197, e198, e199, e200, e201, e202, e203, e204, e205, e206, e207, e208], defers := [] } w5) :
    Code.wp Tryd.prog (withLast 1 part4n7 X) (bodyPost Tryd.prog Tryd.f4 R) { tmps := #[e0, e1, e2, .pointer (some ⟨A, 0, none⟩), e4, .pointer (some ⟨A + 1, 0, none⟩), e6, .pointer (some ⟨K, 0, none⟩), e8, v, e10, .bool true, .pointer (some ⟨F, 0, none⟩), e13, e14, e15, e16, e17, e18, e19, e20, e21, e22, e23, e24, e25, e26, e27, e28, e29, e30, e31, e32, e33, e34, e35, e36, e37, e38, e39, e40, e41, e42, e43, e44, e45, e46, e47, e48, e49, e50, e51, e52, e53, e54, e55, e56, e57, e58, e59, e60, e61, e62, e63, e64, e65, e66, e67, e68, e69, e70, e71, e72, e73, e74, e75, e76, e77, e78, e79, e80, e81, e82, e83, e84, e85, e86, e87, e88, e89, e90, e91, e92, e93, e94, e95, e96, e97, e98, e99, e100, e101, e102, e103, e104, e105, e106, e107, e108, e109, e110, e111, e112, e113, e114, e115, e116, e117, e118, e119, e120, e121, e122, e123, e124, e125, e126, e127, e128, e129, e130, e131, e132, e133, e134, e135, e136, e137, e138, e139, e140, e141, e142, e143, e144, e145, e146, e147, e148, e149, e150, e151, e152, e153, e154, e155, e156, e157, e158, e159, e160, e161, e162, e163, e164, e165, e166, e167, e168, e169, e170, e171, e172, e173, e174, e175, e176, e177, e178, e179, e180, e181, e182, e183, e184, e185, e186, e187, e188, e189, e190, e191, e192, e193, e194, e195, e196, e197, e198, e199, e200, e201, e202, e203, e204, e205, e206, e207, e208], defers := [] } w4 := by
  have c0 : w4.cell? ⟨K, 0, none⟩ = some (.int .i64 s.id) := cell_at hk 0 rfl
  have c4 : w4.cell? ⟨K, 4, none⟩ = some (.int .i64 s.kind) := cell_at hk 4 rfl
  have c6 : w4.cell? ⟨K, 6, none⟩ = some (.int .i64 s.dir) := cell_at hk 6 rfl
  have c7 : w4.cell? ⟨K, 7, none⟩ = some (.int .i64 s.level) := cell_at hk 7 rfl
  have c8 : w4.cell? ⟨K, 8, none⟩ = some (.int .i64 s.size) := cell_at hk 8 rfl
  have b4 : w4.cell? ⟨A + 1, 4, none⟩ = some (.int .i64 b.step) := cell_at hb 4 rfl
  have b5 : w4.cell? ⟨A + 1, 5, none⟩ = some (.int .i64 b.jump) := cell_at hb 5 rfl
  have b12 : w4.cell? ⟨A + 1, 12, none⟩ = some (.int .i64 b.t0) := cell_at hb 12 rfl
  have b13 : w4.cell? ⟨A + 1, 13, none⟩ = some (.int .i64 b.t1) := cell_at hb 13 rfl
  have b14 : w4.cell? ⟨A + 1, 14, none⟩ = some (.int .i64 b.t2) := cell_at hb 14 rfl
  have hF : F < w4.heap.size := (Array.getElem?_eq_some_iff.1 hf).1
  have HX := Lib.hid hX
  have HF := Lib.hid hf
  clear hX hk hb hf
  unfold part4n7 code4
  conv => arg 2; whnf
  by_cases q1 : s.kind = 1
  · have hr : firstR s b = ⟨s.id, 0, 0, false⟩ := by unfold firstR; rw [if_pos (Or.inl q1)]
    have hc : canB s b = decide (s.size ≤ b.step) := by unfold canB; rw [if_pos q1]
    rw [hr, hc] at HX
    rw [q1] at c4
    clear hr hc q1
    go_wp2_with fail
    refine region_tail (fun w2 => w2 = w4.drew) 9 (by kernel_rfl) (by kernel_rfl) rfl ?_
    intro w2 hS2
    subst hS2
    simp only [List.take_succ_cons, List.take_zero, List.drop_succ_cons, List.drop_zero]
    repeat still_step
    refine wpStill_nil ?_
    go_wp2_with (refine wpList_store_row rfl 60 _ _ rfl F (reaA ⟨s.id, 0, 0, false⟩) rfl rfl 60 _ HF.out (by kernel_rfl) rfl (by simp [reaA, Value.oneCell']) ?_)
    exact HX.out _ _ _ _ _ _ _ _ _ _ _ _ _ _ _ _ _ _ _ _ _ _ _ _ _ _ _ _ _ _ _ _ _ _ _ _ _ _ _ _ _ _ _ _ _ _ _ _ _ _ _ _ _ _ _ _ _ _ _ _ _ _ _ _ _ _ _ _ _ _ _ _ _ _ _ _ _ _ _ _ _ _ _ _ _ _ _ _ _ _ _ _ _ _ _ _ _ _ _ _ _ _ _ _ _ _ _ _ _ _ _ _ _ _ _ _ _ _ _ _ _ _ _ _ _ _ _ _ _ _ _ _ _ _ _ _ _ _ _ _ _ _ _ _ _ _ _ _ _ _ _ _ _ _ _ _ _ _ _ _ _ _ _ _ _ _ _ _ _ _ _ _ _ _ _ _ _ _ _ _ _ _ _ _ _ _ _ _ _ _ _ _ _ _ _ _ _ _ _ _ _ _ _ _ (setRow_heap _ _ _ _ _ _ HF.out) (below_setRow (Below.refl _ w4).drew hnF _)
  by_cases q2 : s.kind = 2
  · have hr : firstR s b = ⟨s.id, 0, 0, false⟩ := by unfold firstR; rw [if_pos (Or.inr q2)]
    have hc : canB s b = decide (s.size ≤ b.jump) := by unfold canB; rw [if_neg q1, if_pos q2]
    rw [hr, hc] at HX
    rw [q2] at c4
    clear hr hc q1 q2
    go_wp2_with fail
    refine region_tail (fun w2 => w2 = w4.drew) 9 (by kernel_rfl) (by kernel_rfl) rfl ?_
    intro w2 hS2
    subst hS2
    simp only [List.take_succ_cons, List.take_zero, List.drop_succ_cons, List.drop_zero]
    repeat still_step
    refine wpStill_nil ?_
    go_wp2_with (refine wpList_store_row rfl 60 _ _ rfl F (reaA ⟨s.id, 0, 0, false⟩) rfl rfl 60 _ HF.out (by kernel_rfl) rfl (by simp [reaA, Value.oneCell']) ?_)
    exact HX.out _ _ _ _ _ _ _ _ _ _ _ _ _ _ _ _ _ _ _ _ _ _ _ _ _ _ _ _ _ _ _ _ _ _ _ _ _ _ _ _ _ _ _ _ _ _ _ _ _ _ _ _ _ _ _ _ _ _ _ _ _ _ _ _ _ _ _ _ _ _ _ _ _ _ _ _ _ _ _ _ _ _ _ _ _ _ _ _ _ _ _ _ _ _ _ _ _ _ _ _ _ _ _ _ _ _ _ _ _ _ _ _ _ _ _ _ _ _ _ _ _ _ _ _ _ _ _ _ _ _ _ _ _ _ _ _ _ _ _ _ _ _ _ _ _ _ _ _ _ _ _ _ _ _ _ _ _ _ _ _ _ _ _ _ _ _ _ _ _ _ _ _ _ _ _ _ _ _ _ _ _ _ _ _ _ _ _ _ _ _ _ _ _ _ _ _ _ _ _ _ _ _ _ _ (setRow_heap _ _ _ _ _ _ HF.out) (below_setRow (Below.refl _ w4).drew hnF _)
  by_cases q3 : s.kind = 3
  · have hr : firstR s b = ⟨s.id, s.dir, s.level, false⟩ := by unfold firstR; rw [if_neg (by omega), if_neg (by omega)]
    have hc : canB s b = decide (s.level ≤ b.t0) := by unfold canB; rw [if_neg q1, if_neg q2, if_pos q3]
    rw [hr, hc] at HX
    rw [q3] at c4
    clear hr hc q1 q2 q3
    go_wp2_with fail
    exact HX.out _ _ _ _ _ _ _ _ _ _ _ _ _ _ _ _ _ _ _ _ _ _ _ _ _ _ _ _ _ _ _ _ _ _ _ _ _ _ _ _ _ _ _ _ _ _ _ _ _ _ _ _ _ _ _ _ _ _ _ _ _ _ _ _ _ _ _ _ _ _ _ _ _ _ _ _ _ _ _ _ _ _ _ _ _ _ _ _ _ _ _ _ _ _ _ _ _ _ _ _ _ _ _ _ _ _ _ _ _ _ _ _ _ _ _ _ _ _ _ _ _ _ _ _ _ _ _ _ _ _ _ _ _ _ _ _ _ _ _ _ _ _ _ _ _ _ _ _ _ _ _ _ _ _ _ _ _ _ _ _ _ _ _ _ _ _ _ _ _ _ _ _ _ _ _ _ _ _ _ _ _ _ _ _ _ _ _ _ _ _ _ _ _ _ _ _ _ _ _ _ _ _ _ _ HF.out (Below.refl _ w4)
  by_cases q4 : s.kind = 4
  · have hr : firstR s b = ⟨s.id, s.dir, s.level, false⟩ := by unfold firstR; rw [if_neg (by omega), if_neg (by omega)]
    have hc : canB s b = decide (s.level ≤ b.t1) := by unfold canB; rw [if_neg q1, if_neg q2, if_neg q3, if_pos q4]
    rw [hr, hc] at HX
    rw [q4] at c4
    clear hr hc q1 q2 q3 q4
    go_wp2_with fail
    exact HX.out _ _ _ _ _ _ _ _ _ _ _ _ _ _ _ _ _ _ _ _ _ _ _ _ _ _ _ _ _ _ _ _ _ _ _ _ _ _ _ _ _ _ _ _ _ _ _ _ _ _ _ _ _ _ _ _ _ _ _ _ _ _ _ _ _ _ _ _ _ _ _ _ _ _ _ _ _ _ _ _ _ _ _ _ _ _ _ _ _ _ _ _ _ _ _ _ _ _ _ _ _ _ _ _ _ _ _ _ _ _ _ _ _ _ _ _ _ _ _ _ _ _ _ _ _ _ _ _ _ _ _ _ _ _ _ _ _ _ _ _ _ _ _ _ _ _ _ _ _ _ _ _ _ _ _ _ _ _ _ _ _ _ _ _ _ _ _ _ _ _ _ _ _ _ _ _ _ _ _ _ _ _ _ _ _ _ _ _ _ _ _ _ _ _ _ _ _ _ _ _ _ _ _ _ HF.out (Below.refl _ w4)
  by_cases q5 : s.kind = 5
  · have hr : firstR s b = ⟨s.id, s.dir, s.level, false⟩ := by unfold firstR; rw [if_neg (by omega), if_neg (by omega)]
    have hc : canB s b = decide (s.level ≤ b.t2) := by unfold canB; rw [if_neg q1, if_neg q2, if_neg q3, if_neg q4, if_pos q5]
    rw [hr, hc] at HX
    rw [q5] at c4
    clear hr hc q1 q2 q3 q4 q5
    go_wp2_with fail
    exact HX.out _ _ _ _ _ _ _ _ _ _ _ _ _ _ _ _ _ _ _ _ _ _ _ _ _ _ _ _ _ _ _ _ _ _ _ _ _ _ _ _ _ _ _ _ _ _ _ _ _ _ _ _ _ _ _ _ _ _ _ _ _ _ _ _ _ _ _ _ _ _ _ _ _ _ _ _ _ _ _ _ _ _ _ _ _ _ _ _ _ _ _ _ _ _ _ _ _ _ _ _ _ _ _ _ _ _ _ _ _ _ _ _ _ _ _ _ _ _ _ _ _ _ _ _ _ _ _ _ _ _ _ _ _ _ _ _ _ _ _ _ _ _ _ _ _ _ _ _ _ _ _ _ _ _ _ _ _ _ _ _ _ _ _ _ _ _ _ _ _ _ _ _ _ _ _ _ _ _ _ _ _ _ _ _ _ _ _ _ _ _ _ _ _ _ _ _ _ _ _ _ _ _ _ _ HF.out (Below.refl _ w4)
  have hc : canB s b = true := by unfold canB; rw [if_neg q1, if_neg q2, if_neg q3, if_neg q4, if_neg q5]
  rw [hc] at HX
  clear hc
  by_cases q9 : s.kind = 9
  · have hr : firstR s b = ⟨s.id, 0, min s.level b.t1, false⟩ := by unfold firstR; rw [if_neg (by omega), if_pos q9]
    rw [hr] at HX
    rw [q9] at c4
    clear hr q1 q2 q3 q4 q5 q9
    go_wp2_with (refine wpList_store_row rfl 60 _ _ rfl F (reaA ⟨s.id, 0, min s.level b.t1, false⟩) rfl rfl 60 _ HF.out (by kernel_rfl) rfl (by simp [reaA, Value.oneCell']) ?_)
    exact HX.out _ _ _ _ _ _ _ _ _ _ _ _ _ _ _ _ _ _ _ _ _ _ _ _ _ _ _ _ _ _ _ _ _ _ _ _ _ _ _ _ _ _ _ _ _ _ _ _ _ _ _ _ _ _ _ _ _ _ _ _ _ _ _ _ _ _ _ _ _ _ _ _ _ _ _ _ _ _ _ _ _ _ _ _ _ _ _ _ _ _ _ _ _ _ _ _ _ _ _ _ _ _ _ _ _ _ _ _ _ _ _ _ _ _ _ _ _ _ _ _ _ _ _ _ _ _ _ _ _ _ _ _ _ _ _ _ _ _ _ _ _ _ _ _ _ _ _ _ _ _ _ _ _ _ _ _ _ _ _ _ _ _ _ _ _ _ _ _ _ _ _ _ _ _ _ _ _ _ _ _ _ _ _ _ _ _ _ _ _ _ _ _ _ _ _ _ _ _ _ _ _ _ _ _ (setRow_heap _ _ _ _ _ _ HF.out) (below_setRow (Below.refl _ w4) hnF _)
  · have hr : firstR s b = ⟨s.id, s.dir, s.level, false⟩ := by unfold firstR; rw [if_neg (by omega), if_neg q9]
    rw [hr] at HX
    have z1 : (s.kind == 1) = false := by simpa using q1
    have z2 : (s.kind == 2) = false := by simpa using q2
    have z3 : (s.kind == 3) = false := by simpa using q3
    have z4 : (s.kind == 4) = false := by simpa using q4
    have z5 : (s.kind == 5) = false := by simpa using q5
    have z9 : (s.kind == 9) = false := by simpa using q9
    clear hr
    go_wp2_with fail
    exact HX.out _ _ _ _ _ _ _ _ _ _ _ _ _ _ _ _ _ _ _ _ _ _ _ _ _ _ _ _ _ _ _ _ _ _ _ _ _ _ _ _ _ _ _ _ _ _ _ _ _ _ _ _ _ _ _ _ _ _ _ _ _ _ _ _ _ _ _ _ _ _ _ _ _ _ _ _ _ _ _ _ _ _ _ _ _ _ _ _ _ _ _ _ _ _ _ _ _ _ _ _ _ _ _ _ _ _ _ _ _ _ _ _ _ _ _ _ _ _ _ _ _ _ _ _ _ _ _ _ _ _ _ _ _ _ _ _ _ _ _ _ _ _ _ _ _ _ _ _ _ _ _ _ _ _ _ _ _ _ _ _ _ _ _ _ _ _ _ _ _ _ _ _ _ _ _ _ _ _ _ _ _ _ _ _ _ _ _ _ _ _ _ _ _ _ _ _ _ _ _ _ _ _ _ _ HF.out (Below.refl _ w4)
end Go.Proofs.YtggcbblikgankaaDoor
end
section
/- The head of function 4: boxes, sane, pick, guards, Options. -/
namespace Go.Proofs.YtggcbblikgankaaDoor
open Go Go.RowKit

set_option maxRecDepth 100000 in
set_option maxHeartbeats 8000000 in
theorem pick_4 (k : Wrk) (b : Bod) (n : Nat) (hn : n < 65536) (ws : Array Value)  (w : World) (hE : Env w) (hz2 : 2 ≤ w.heap.size) (hW : WkAt k ws w) (R : Ending → World → Prop) (X : Code)
    (hX : ∀ (w3 : World) (K : Nat) (e0 e1 e2 e4 e6 e9 e10 e11 e12 e13 e14 e15 e16 e17 e18 e19 e20 e21 e22 e23 e24 e25 e26 e27 e28 e29 e30 e31 e32 e33 e34 e35 e36 e37 e38 e39 e40 e41 e42 e43 e44 e45 e46 e47 e48 e49 e50 e51 e52 e53 e54 e55 e56 e57 e58 e59 e60 e61 e62 e63 e64 e65 e66 e67 e68 e69 e70 e71 e72 e73 e74 e75 e76 e77 e78 e79 e80 e81 e82 e83 e84 e85 e86 e87 e88 e89 e90 e91 e92 e93 e94 e95 e96 e97 e98 e99 e100 e101 e102 e103 e104 e105 e106 e107 e108 e109 e110 e111 e112 e113 e114 e115 e116 e117 e118 e119 e120 e121 e122 e123 e124 e125 e126 e127 e128 e129 e130 e131 e132 e133 e134 e135 e136 e137 e138 e139 e140 e141 e142 e143 e144 e145 e146 e147 e148 e149 e150 e151 e152 e153 e154 e155 e156 e157 e158 e159 e160 e161 e162 e163 e164 e165 e166 e167 e168 e169 e170 e171 e172 e173 e174 e175 e176 e177 e178 e179 e180 e181 e182 e183 e184 e185 e186 e187 e188 e189 e190 e191 e192 e193 e194 e195 e196 e197 e198 e199 e200 e201 e202 e203 e204 e205 e206 e207 e208 : Value), Below w.heap.size w w3 → w3.heap[w.heap.size]? = some (.cells ws 32 (0, 0)) → w3.heap[w.heap.size + 1]? = some (.cells (bodCells b) 36 (0, 0)) → w3.heap[K]? = some (.cells (pickA k.signs n) 41 (0, 0)) → w.heap.size + 2 ≤ K → Code.wp Tryd.prog X (bodyPost Tryd.prog Tryd.f4 R) { tmps := #[e0, e1, e2, .pointer (some ⟨w.heap.size, 0, none⟩), e4, .pointer (some ⟨w.heap.size + 1, 0, none⟩), e6, .pointer (some ⟨K, 0, none⟩), .bool (decide (k.signs ≠ [])), e9, e10, e11, e12, e13, e14, e15, e16, e17, e18, e19, e20, e21, e22, e23, e24, e25, e26, e27, e28, e29, e30, e31, e32, e33, e34, e35, e36, e37, e38, e39, e40, e41, e42, e43, e44, e45, e46, e47, e48, e49, e50, e51, e52, e53, e54, e55, e56, e57, e58, e59, e60, e61, e62, e63, e64, e65, e66, e67, e68, e69, e70, e71, e72, e73, e74, e75, e76, e77, e78, e79, e80, e81, e82, e83, e84, e85, e86, e87, e88, e89, e90, e91, e92, e93, e94, e95, e96, e97, e98, e99, e100, e101, e102, e103, e104, e105, e106, e107, e108, e109, e110, e111, e112, e113, e114, e115, e116, e117, e118, e119, e120, e121, e122, e123, e124, e125, e126, e127, e128, e129, e130, e131, e132, e133, e134, e135, e136, e137, e138, e139, e140, e141, e142, e143, e144, e145, e146, e147, e148, e149, e150, e151, e152, e153, e154, e155, e156, e157, e158, e159, e160, e161, e162, e163, e164, e165, e166, e167, e168, e169, e170, e171, e172, e173, e174, e175, e176, e177, e178, e179, e180, e181, e182, e183, e184, e185, e186, e187, e188, e189, e190, e191, e192, e193, e194, e195, e196, e197, e198, e199, e200, e201, e202, e203, e204, e205, e206, e207, e208], defers := [] } w3) :
    Code.wp Tryd.prog (withLast 3 code4 X) (bodyPost Tryd.prog Tryd.f4 R) { tmps := #[.agg ws, .int .u16 n, bodV b, undef, undef, undef, undef, undef, undef, undef, undef, undef, undef, undef, undef, undef, undef, undef, undef, undef, undef, undef, undef, undef, undef, undef, undef, undef, undef, undef, undef, undef, undef, undef, undef, undef, undef, undef, undef, undef, undef, undef, undef, undef, undef, undef, undef, undef, undef, undef, undef, undef, undef, undef, undef, undef, undef, undef, undef, undef, undef, undef, undef, undef, undef, undef, undef, undef, undef, undef, undef, undef, undef, undef, undef, undef, undef, undef, undef, undef, undef, undef, undef, undef, undef, undef, undef, undef, undef, undef, undef, undef, undef, undef, undef, undef, undef, undef, undef, undef, undef, undef, undef, undef, undef, undef, undef, undef, undef, undef, undef, undef, undef, undef, undef, undef, undef, undef, undef, undef, undef, undef, undef, undef, undef, undef, undef, undef, undef, undef, undef, undef, undef, undef, undef, undef, undef, undef, undef, undef, undef, undef, undef, undef, undef, undef, undef, undef, undef, undef, undef, undef, undef, undef, undef, undef, undef, undef, undef, undef, undef, undef, undef, undef, undef, undef, undef, undef, undef, undef, undef, undef, undef, undef, undef, undef, undef, undef, undef, undef, undef, undef, undef, undef, undef, undef, undef, undef, undef, undef, undef, undef, undef, undef, undef, undef, undef, undef, undef, undef, undef, undef, undef, undef, undef, undef, undef, undef, undef], defers := [] } w := by
  have hs := hW.size
  obtain ⟨g0, g1, hz, hb⟩ := blocks2 w (.cells ws 32) (.cells (bodCells b) 36)
  have hbv : bodV b = .agg (bodCells b) := rfl
  rw [hbv]
  have hp := fun (W : World) (hB : Below w.heap.size w W) => (hW.below hB (Nat.le_refl _)).pick n hn
  have hsn := fun (W : World) (hB : Below w.heap.size w W) (h : 2 ≤ W.heap.size) => sane_any W (hE.below hB) h
  have HS := Lib.hid hs; have G0 := Lib.hid g0; have G1 := Lib.hid g1; have HZ := Lib.hid hz; have HB := Lib.hid hb; have HP := Lib.hid hp; have HSN := Lib.hid hsn; have HX := Lib.hid hX; have HZ2 := Lib.hid hz2
  have HSA := Lib.hid (pickA_one k.signs n); have HSZ := Lib.hid (pickA_size k.signs n)
  clear hs g0 g1 hz hb hbv hp hsn hX hz2 hW hE
  generalize decide (k.signs ≠ []) = ok at *
  generalize pickA k.signs n = cs at *
  unfold code4
  conv => arg 2; whnf
  simp only [withLast]
  go_wp2_with fail
  generalize (w.alloc (.cells ws 32)).alloc (.cells (bodCells b) 36) = w0 at *
  refine (HSN.out w0 HB.out (by have := HZ.out; omega)).mono ?_
  rintro e w1 ⟨rfl, hb1⟩
  have B1 := Lib.hid (HB.out.trans (hb1.mono (by have := HZ.out; omega)))
  have H0 := Lib.hid ((hb1.block w.heap.size (by have := HZ.out; omega)).trans G0.out)
  have H1 := Lib.hid ((hb1.block (w.heap.size + 1) (by have := HZ.out; omega)).trans G1.out)
  have Z1 := Lib.hid (show w.heap.size + 2 ≤ w1.heap.size by have := HZ.out; have := hb1.size; omega)
  clear hb1 HSN G0 G1 HB HZ
  go_wp2_with ((refine wpList_load_row rfl 32 _ rfl w.heap.size rfl 32 _ (0, 0) _ H0.out Tryd.underlying32 rfl HS.out ?_; simp only [Act.put, List.setIfInBounds_toArray, List.set_cons_zero, List.set_cons_succ]))
  refine (HP.out w1 B1.out).mono ?_
  rintro e w2 ⟨rfl, hb2⟩
  have B2 := Lib.hid (B1.out.trans (hb2.mono (by have := Z1.out; omega)))
  have I0 := Lib.hid ((hb2.block w.heap.size (by have := Z1.out; omega)).trans H0.out)
  have I1 := Lib.hid ((hb2.block (w.heap.size + 1) (by have := Z1.out; omega)).trans H1.out)
  have Z2 := Lib.hid (show w.heap.size + 2 ≤ w2.heap.size by have := Z1.out; have := hb2.size; omega)
  clear hb2 HP H0 H1 B1 Z1
  go_wp2_with (refine wpList_store_row rfl 41 _ _ rfl w2.heap.size cs rfl rfl 41 _ (heap_alloc_new w2 _) (by rw [HSZ.out]; kernel_rfl) (by rw [HSZ.out]; rfl) HSA.out ?_; rw [World.setRow_alloc_new])
  have hb5 : Below w2.heap.size w2 (w2.alloc (.cells cs 41)) := (Below.refl w2.heap.size w2).alloc (Nat.le_refl _) _
  exact HX.out _ w2.heap.size _ _ _ _ _ _ _ _ _ _ _ _ _ _ _ _ _ _ _ _ _ _ _ _ _ _ _ _ _ _ _ _ _ _ _ _ _ _ _ _ _ _ _ _ _ _ _ _ _ _ _ _ _ _ _ _ _ _ _ _ _ _ _ _ _ _ _ _ _ _ _ _ _ _ _ _ _ _ _ _ _ _ _ _ _ _ _ _ _ _ _ _ _ _ _ _ _ _ _ _ _ _ _ _ _ _ _ _ _ _ _ _ _ _ _ _ _ _ _ _ _ _ _ _ _ _ _ _ _ _ _ _ _ _ _ _ _ _ _ _ _ _ _ _ _ _ _ _ _ _ _ _ _ _ _ _ _ _ _ _ _ _ _ _ _ _ _ _ _ _ _ _ _ _ _ _ _ _ _ _ _ _ _ _ _ _ _ _ _ _ _ _ _ _ _ _ _ _ _ _ _ _ _ _ _ (B2.out.trans (hb5.mono B2.out.size)) ((hb5.block _ (by have := Z2.out; omega)).trans I0.out) ((hb5.block _ (by have := Z2.out; omega)).trans I1.out) (heap_alloc_new w2 _) Z2.out
noncomputable def part4n3 : Code := lastPart 3 code4
set_option maxRecDepth 100000 in
set_option maxHeartbeats 8000000 in
theorem guards_4 (k : Wrk) (b : Bod) (hbn : b.name.length ≤ maxLen) (ok : Bool) (ws : Array Value) (A K : Nat)  (w3 : World) (hE : Env w3) (hW : WkAt k ws w3) (g0 : w3.heap[A]? = some (.cells ws 32 (0, 0))) (g1 : w3.heap[A + 1]? = some (.cells (bodCells b) 36 (0, 0))) (e0 e1 e2 e4 e6 e9 e10 e11 e12 e13 e14 e15 e16 e17 e18 e19 e20 e21 e22 e23 e24 e25 e26 e27 e28 e29 e30 e31 e32 e33 e34 e35 e36 e37 e38 e39 e40 e41 e42 e43 e44 e45 e46 e47 e48 e49 e50 e51 e52 e53 e54 e55 e56 e57 e58 e59 e60 e61 e62 e63 e64 e65 e66 e67 e68 e69 e70 e71 e72 e73 e74 e75 e76 e77 e78 e79 e80 e81 e82 e83 e84 e85 e86 e87 e88 e89 e90 e91 e92 e93 e94 e95 e96 e97 e98 e99 e100 e101 e102 e103 e104 e105 e106 e107 e108 e109 e110 e111 e112 e113 e114 e115 e116 e117 e118 e119 e120 e121 e122 e123 e124 e125 e126 e127 e128 e129 e130 e131 e132 e133 e134 e135 e136 e137 e138 e139 e140 e141 e142 e143 e144 e145 e146 e147 e148 e149 e150 e151 e152 e153 e154 e155 e156 e157 e158 e159 e160 e161 e162 e163 e164 e165 e166 e167 e168 e169 e170 e171 e172 e173 e174 e175 e176 e177 e178 e179 e180 e181 e182 e183 e184 e185 e186 e187 e188 e189 e190 e191 e192 e193 e194 e195 e196 e197 e198 e199 e200 e201 e202 e203 e204 e205 e206 e207 e208 : Value) (R : Ending → World → Prop) (X : Code)
    (hT : ∀ w', Below w3.heap.size w3 w' → R (.returned (.bool true)) w')
    (hX : fewB k = true → ok = true → wrkE k = 0 → bodB b = true → ∀ (w4 : World) (e0 e1 e2 e4 e6 e9 e10 e11 e12 e13 e14 e15 e16 e17 e18 e19 e20 e21 e22 e23 e24 e25 e26 e27 e28 e29 e30 e31 e32 e33 e34 e35 e36 e37 e38 e39 e40 e41 e42 e43 e44 e45 e46 e47 e48 e49 e50 e51 e52 e53 e54 e55 e56 e57 e58 e59 e60 e61 e62 e63 e64 e65 e66 e67 e68 e69 e70 e71 e72 e73 e74 e75 e76 e77 e78 e79 e80 e81 e82 e83 e84 e85 e86 e87 e88 e89 e90 e91 e92 e93 e94 e95 e96 e97 e98 e99 e100 e101 e102 e103 e104 e105 e106 e107 e108 e109 e110 e111 e112 e113 e114 e115 e116 e117 e118 e119 e120 e121 e122 e123 e124 e125 e126 e127 e128 e129 e130 e131 e132 e133 e134 e135 e136 e137 e138 e139 e140 e141 e142 e143 e144 e145 e146 e147 e148 e149 e150 e151 e152 e153 e154 e155 e156 e157 e158 e159 e160 e161 e162 e163 e164 e165 e166 e167 e168 e169 e170 e171 e172 e173 e174 e175 e176 e177 e178 e179 e180 e181 e182 e183 e184 e185 e186 e187 e188 e189 e190 e191 e192 e193 e194 e195 e196 e197 e198 e199 e200 e201 e202 e203 e204 e205 e206 e207 e208 : Value), Below w3.heap.size w3 w4 → Code.wp Tryd.prog X (bodyPost Tryd.prog Tryd.f4 R) { tmps := #[e0, e1, e2, .pointer (some ⟨A, 0, none⟩), e4, .pointer (some ⟨A + 1, 0, none⟩), e6, .pointer (some ⟨K, 0, none⟩), .bool ok, e9, e10, e11, e12, e13, e14, e15, e16, e17, e18, e19, e20, e21, e22, e23, e24, e25, e26, e27, e28, e29, e30, e31, e32, e33, e34, e35, e36, e37, e38, e39, e40, e41, e42, e43, e44, e45, e46, e47, e48, e49, e50, e51, e52, e53, e54, e55, e56, e57, e58, e59, e60, e61, e62, e63, e64, e65, e66, e67, e68, e69, e70, e71, e72, e73, e74, e75, e76, e77, e78, e79, e80, e81, e82, e83, e84, e85, e86, e87, e88, e89, e90, e91, e92, e93, e94, e95, e96, e97, e98, e99, e100, e101, e102, e103, e104, e105, e106, e107, e108, e109, e110, e111, e112, e113, e114, e115, e116, e117, e118, e119, e120, e121, e122, e123, e124, e125, e126, e127, e128, e129, e130, e131, e132, e133, e134, e135, e136, e137, e138, e139, e140, e141, e142, e143, e144, e145, e146, e147, e148, e149, e150, e151, e152, e153, e154, e155, e156, e157, e158, e159, e160, e161, e162, e163, e164, e165, e166, e167, e168, e169, e170, e171, e172, e173, e174, e175, e176, e177, e178, e179, e180, e181, e182, e183, e184, e185, e186, e187, e188, e189, e190, e191, e192, e193, e194, e195, e196, e197, e198, e199, e200, e201, e202, e203, e204, e205, e206, e207, e208], defers := [] } w4) :
    Code.wp Tryd.prog (withLast 1 part4n3 X) (bodyPost Tryd.prog Tryd.f4 R) { tmps := #[e0, e1, e2, .pointer (some ⟨A, 0, none⟩), e4, .pointer (some ⟨A + 1, 0, none⟩), e6, .pointer (some ⟨K, 0, none⟩), .bool ok, e9, e10, e11, e12, e13, e14, e15, e16, e17, e18, e19, e20, e21, e22, e23, e24, e25, e26, e27, e28, e29, e30, e31, e32, e33, e34, e35, e36, e37, e38, e39, e40, e41, e42, e43, e44, e45, e46, e47, e48, e49, e50, e51, e52, e53, e54, e55, e56, e57, e58, e59, e60, e61, e62, e63, e64, e65, e66, e67, e68, e69, e70, e71, e72, e73, e74, e75, e76, e77, e78, e79, e80, e81, e82, e83, e84, e85, e86, e87, e88, e89, e90, e91, e92, e93, e94, e95, e96, e97, e98, e99, e100, e101, e102, e103, e104, e105, e106, e107, e108, e109, e110, e111, e112, e113, e114, e115, e116, e117, e118, e119, e120, e121, e122, e123, e124, e125, e126, e127, e128, e129, e130, e131, e132, e133, e134, e135, e136, e137, e138, e139, e140, e141, e142, e143, e144, e145, e146, e147, e148, e149, e150, e151, e152, e153, e154, e155, e156, e157, e158, e159, e160, e161, e162, e163, e164, e165, e166, e167, e168, e169, e170, e171, e172, e173, e174, e175, e176, e177, e178, e179, e180, e181, e182, e183, e184, e185, e186, e187, e188, e189, e190, e191, e192, e193, e194, e195, e196, e197, e198, e199, e200, e201, e202, e203, e204, e205, e206, e207, e208], defers := [] } w3 := by
  have hs := hW.size
  have hf := hW.few
  have hc := fun (W : World) (hB : Below w3.heap.size w3 W) => (hW.below hB (Nat.le_refl _)).check (hE.below hB)
  have hbc := fun (W : World) => bcheck_any b hbn W
  have HS := Lib.hid hs; have G0 := Lib.hid g0; have G1 := Lib.hid g1; have HF := Lib.hid hf; have HC := Lib.hid hc; have HBC := Lib.hid hbc; have HX := Lib.hid hX; have HT := Lib.hid hT
  have hA : A < w3.heap.size := (Array.getElem?_eq_some_iff.1 g0).1
  have hA1 : A + 1 < w3.heap.size := (Array.getElem?_eq_some_iff.1 g1).1
  have HA := Lib.hid hA; have HA1 := Lib.hid hA1
  clear hs g0 g1 hf hc hbc hX hT hW hE hA hA1
  generalize fewB k = fw at *
  generalize wrkE k = we at *
  unfold part4n3 code4
  conv => arg 2; whnf
  simp only [withLast]
  go_wp2_with ((refine wpList_load_row rfl 32 _ rfl A rfl 32 _ (0, 0) _ G0.out Tryd.underlying32 rfl HS.out ?_; simp only [Act.put, List.setIfInBounds_toArray, List.set_cons_zero, List.set_cons_succ]))
  refine (HF.out w3).mono ?_
  rintro e w4 ⟨rfl, b4⟩
  have B4 := Lib.hid b4
  have H0 := Lib.hid ((b4.block A HA.out).trans G0.out)
  clear b4 G0 HF
  cases fw with
  | false =>
    go_wp2_with fail
    first | exact HT.out _ B4.out | (go_ret; exact HT.out _ B4.out)
  | true =>
  cases ok with
  | false =>
    go_wp2_with fail
    first | exact HT.out _ B4.out | (go_ret; exact HT.out _ B4.out)
  | true =>
  go_wp2_with ((refine wpList_load_row_at rfl 32 _ rfl A rfl 32 _ (0, 0) _ H0.out Tryd.underlying32 rfl HS.out ?_; simp only [Act.put, List.setIfInBounds_toArray, List.set_cons_zero, List.set_cons_succ]))
  refine (HC.out w4 B4.out).mono ?_
  rintro e w5 ⟨rfl, b5⟩
  have B5 := Lib.hid (B4.out.trans (b5.mono B4.out.size))
  have H1 := Lib.hid ((B5.out.block (A + 1) HA1.out).trans G1.out)
  clear b5 B4 H0 HC G1
  by_cases hwe : we = 0
  · have hwz : (we != 0) = false := by simp [hwe]
    have HWE := Lib.hid hwe
    clear hwe
    go_wp2_with ((refine wpList_load_row_at rfl 36 _ rfl (A + 1) rfl 36 (bodCells b) (0, 0) _ H1.out Tryd.underlying36 rfl (by kernel_rfl) ?_; simp only [Act.put, List.setIfInBounds_toArray, List.set_cons_zero, List.set_cons_succ]))
    refine (HBC.out w5).mono ?_
    rintro e w6 ⟨rfl, b6⟩
    have B6 := Lib.hid (B5.out.trans (b6.mono B5.out.size))
    clear b6 B5 H1 HBC
    cases hbb : bodB b with
    | false =>
      have hq : (codeI false 250 != 0) = true := rfl
      go_wp2_with fail
      first | exact HT.out _ B6.out | (go_ret; exact HT.out _ B6.out)
    | true =>
      have hq : (codeI true 250 != 0) = false := rfl
      go_wp2_with fail
      exact HX.out (by first | rfl | trivial) (by first | rfl | trivial) (by first | exact HWE.out | trivial) (by first | exact hbb | rfl | trivial) _ _ _ _ _ _ _ _ _ _ _ _ _ _ _ _ _ _ _ _ _ _ _ _ _ _ _ _ _ _ _ _ _ _ _ _ _ _ _ _ _ _ _ _ _ _ _ _ _ _ _ _ _ _ _ _ _ _ _ _ _ _ _ _ _ _ _ _ _ _ _ _ _ _ _ _ _ _ _ _ _ _ _ _ _ _ _ _ _ _ _ _ _ _ _ _ _ _ _ _ _ _ _ _ _ _ _ _ _ _ _ _ _ _ _ _ _ _ _ _ _ _ _ _ _ _ _ _ _ _ _ _ _ _ _ _ _ _ _ _ _ _ _ _ _ _ _ _ _ _ _ _ _ _ _ _ _ _ _ _ _ _ _ _ _ _ _ _ _ _ _ _ _ _ _ _ _ _ _ _ _ _ _ _ _ _ _ _ _ _ _ _ _ _ _ _ _ _ _ _ _ _ _ _ _ _ B6.out
  · have hwz : (we != 0) = true := by simpa using hwe
    have HWE := Lib.hid hwe
    clear hwe
    go_wp2_with fail
    first | exact HT.out _ B5.out | (go_ret; exact HT.out _ B5.out)
noncomputable def part4n4 : Code := lastPart 4 code4
set_option maxRecDepth 100000 in
set_option maxHeartbeats 8000000 in
theorem opts_4 (k : Wrk) (s : Sgn) (b : Bod) (hbn : b.name.length ≤ maxLen) (ws : Array Value) (A K : Nat)  (w3 : World) (hE : Env w3) (hz2 : 2 ≤ w3.heap.size) (hW : WkAt k ws w3) (g0 : w3.heap[A]? = some (.cells ws 32 (0, 0))) (g1 : w3.heap[A + 1]? = some (.cells (bodCells b) 36 (0, 0))) (g2 : w3.heap[K]? = some (.cells (sgnA s) 41 (0, 0)))
    (hk : wrkE k = 0) (hs : s ∈ k.signs) (hb : bodB b = true) (e0 e1 e2 e4 e6 e8 e9 e10 e11 e12 e13 e14 e15 e16 e17 e18 e19 e20 e21 e22 e23 e24 e25 e26 e27 e28 e29 e30 e31 e32 e33 e34 e35 e36 e37 e38 e39 e40 e41 e42 e43 e44 e45 e46 e47 e48 e49 e50 e51 e52 e53 e54 e55 e56 e57 e58 e59 e60 e61 e62 e63 e64 e65 e66 e67 e68 e69 e70 e71 e72 e73 e74 e75 e76 e77 e78 e79 e80 e81 e82 e83 e84 e85 e86 e87 e88 e89 e90 e91 e92 e93 e94 e95 e96 e97 e98 e99 e100 e101 e102 e103 e104 e105 e106 e107 e108 e109 e110 e111 e112 e113 e114 e115 e116 e117 e118 e119 e120 e121 e122 e123 e124 e125 e126 e127 e128 e129 e130 e131 e132 e133 e134 e135 e136 e137 e138 e139 e140 e141 e142 e143 e144 e145 e146 e147 e148 e149 e150 e151 e152 e153 e154 e155 e156 e157 e158 e159 e160 e161 e162 e163 e164 e165 e166 e167 e168 e169 e170 e171 e172 e173 e174 e175 e176 e177 e178 e179 e180 e181 e182 e183 e184 e185 e186 e187 e188 e189 e190 e191 e192 e193 e194 e195 e196 e197 e198 e199 e200 e201 e202 e203 e204 e205 e206 e207 e208 : Value) (R : Ending → World → Prop) (X : Code)
    (hX : ∀ (w4 : World) (v : Value) (e0 e1 e2 e4 e6 e8 e11 e12 e13 e14 e15 e16 e17 e18 e19 e20 e21 e22 e23 e24 e25 e26 e27 e28 e29 e30 e31 e32 e33 e34 e35 e36 e37 e38 e39 e40 e41 e42 e43 e44 e45 e46 e47 e48 e49 e50 e51 e52 e53 e54 e55 e56 e57 e58 e59 e60 e61 e62 e63 e64 e65 e66 e67 e68 e69 e70 e71 e72 e73 e74 e75 e76 e77 e78 e79 e80 e81 e82 e83 e84 e85 e86 e87 e88 e89 e90 e91 e92 e93 e94 e95 e96 e97 e98 e99 e100 e101 e102 e103 e104 e105 e106 e107 e108 e109 e110 e111 e112 e113 e114 e115 e116 e117 e118 e119 e120 e121 e122 e123 e124 e125 e126 e127 e128 e129 e130 e131 e132 e133 e134 e135 e136 e137 e138 e139 e140 e141 e142 e143 e144 e145 e146 e147 e148 e149 e150 e151 e152 e153 e154 e155 e156 e157 e158 e159 e160 e161 e162 e163 e164 e165 e166 e167 e168 e169 e170 e171 e172 e173 e174 e175 e176 e177 e178 e179 e180 e181 e182 e183 e184 e185 e186 e187 e188 e189 e190 e191 e192 e193 e194 e195 e196 e197 e198 e199 e200 e201 e202 e203 e204 e205 e206 e207 e208 : Value), Below w3.heap.size w3 w4 → w4.ownsRow w3.heap.size 60 4 v (optL k s b).length ((optL k s b).flatMap encRea) → Code.wp Tryd.prog X (bodyPost Tryd.prog Tryd.f4 R) { tmps := #[e0, e1, e2, .pointer (some ⟨A, 0, none⟩), e4, .pointer (some ⟨A + 1, 0, none⟩), e6, .pointer (some ⟨K, 0, none⟩), e8, v, .int .i64 0, e11, e12, e13, e14, e15, e16, e17, e18, e19, e20, e21, e22, e23, e24, e25, e26, e27, e28, e29, e30, e31, e32, e33, e34, e35, e36, e37, e38, e39, e40, e41, e42, e43, e44, e45, e46, e47, e48, e49, e50, e51, e52, e53, e54, e55, e56, e57, e58, e59, e60, e61, e62, e63, e64, e65, e66, e67, e68, e69, e70, e71, e72, e73, e74, e75, e76, e77, e78, e79, e80, e81, e82, e83, e84, e85, e86, e87, e88, e89, e90, e91, e92, e93, e94, e95, e96, e97, e98, e99, e100, e101, e102, e103, e104, e105, e106, e107, e108, e109, e110, e111, e112, e113, e114, e115, e116, e117, e118, e119, e120, e121, e122, e123, e124, e125, e126, e127, e128, e129, e130, e131, e132, e133, e134, e135, e136, e137, e138, e139, e140, e141, e142, e143, e144, e145, e146, e147, e148, e149, e150, e151, e152, e153, e154, e155, e156, e157, e158, e159, e160, e161, e162, e163, e164, e165, e166, e167, e168, e169, e170, e171, e172, e173, e174, e175, e176, e177, e178, e179, e180, e181, e182, e183, e184, e185, e186, e187, e188, e189, e190, e191, e192, e193, e194, e195, e196, e197, e198, e199, e200, e201, e202, e203, e204, e205, e206, e207, e208], defers := [] } w4) :
    Code.wp Tryd.prog (withLast 2 part4n4 X) (bodyPost Tryd.prog Tryd.f4 R) { tmps := #[e0, e1, e2, .pointer (some ⟨A, 0, none⟩), e4, .pointer (some ⟨A + 1, 0, none⟩), e6, .pointer (some ⟨K, 0, none⟩), e8, e9, e10, e11, e12, e13, e14, e15, e16, e17, e18, e19, e20, e21, e22, e23, e24, e25, e26, e27, e28, e29, e30, e31, e32, e33, e34, e35, e36, e37, e38, e39, e40, e41, e42, e43, e44, e45, e46, e47, e48, e49, e50, e51, e52, e53, e54, e55, e56, e57, e58, e59, e60, e61, e62, e63, e64, e65, e66, e67, e68, e69, e70, e71, e72, e73, e74, e75, e76, e77, e78, e79, e80, e81, e82, e83, e84, e85, e86, e87, e88, e89, e90, e91, e92, e93, e94, e95, e96, e97, e98, e99, e100, e101, e102, e103, e104, e105, e106, e107, e108, e109, e110, e111, e112, e113, e114, e115, e116, e117, e118, e119, e120, e121, e122, e123, e124, e125, e126, e127, e128, e129, e130, e131, e132, e133, e134, e135, e136, e137, e138, e139, e140, e141, e142, e143, e144, e145, e146, e147, e148, e149, e150, e151, e152, e153, e154, e155, e156, e157, e158, e159, e160, e161, e162, e163, e164, e165, e166, e167, e168, e169, e170, e171, e172, e173, e174, e175, e176, e177, e178, e179, e180, e181, e182, e183, e184, e185, e186, e187, e188, e189, e190, e191, e192, e193, e194, e195, e196, e197, e198, e199, e200, e201, e202, e203, e204, e205, e206, e207, e208], defers := [] } w3 := by
  have hsz := hW.size
  have ho := hW.options hE hz2 s.id b hbn
  obtain ⟨he, hr⟩ := opt_own hk hs hb
  rw [he, hr] at ho
  have hbv : bodV b = .agg (bodCells b) := rfl
  rw [hbv] at ho
  have c0 : w3.cell? ⟨K, 0, none⟩ = some (.int .i64 s.id) := cell_at g2 0 rfl
  have HS := Lib.hid hsz; have G0 := Lib.hid g0; have G1 := Lib.hid g1; have HO := Lib.hid ho; have HX := Lib.hid hX
  clear hsz g0 g1 g2 ho he hr hbv hX hW hE hk hs hb
  unfold part4n4 code4
  conv => arg 2; whnf
  simp only [withLast]
  go_wp2_with (first | (refine wpList_load_row rfl 32 _ rfl A rfl 32 _ (0, 0) _ G0.out Tryd.underlying32 rfl HS.out ?_; simp only [Act.put, List.setIfInBounds_toArray, List.set_cons_zero, List.set_cons_succ]) | (refine wpList_load_row rfl 36 _ rfl (A + 1) rfl 36 (bodCells b) (0, 0) _ G1.out Tryd.underlying36 rfl (by kernel_rfl) ?_; simp only [Act.put, List.setIfInBounds_toArray, List.set_cons_zero, List.set_cons_succ]))
  refine HO.out.mono ?_
  rintro e w4 ⟨v, rfl, hown, b4⟩
  have HOW := Lib.hid hown; have B4 := Lib.hid b4
  clear hown b4 HO c0 G0 G1
  go_wp2_with fail
  exact HX.out _ v _ _ _ _ _ _ _ _ _ _ _ _ _ _ _ _ _ _ _ _ _ _ _ _ _ _ _ _ _ _ _ _ _ _ _ _ _ _ _ _ _ _ _ _ _ _ _ _ _ _ _ _ _ _ _ _ _ _ _ _ _ _ _ _ _ _ _ _ _ _ _ _ _ _ _ _ _ _ _ _ _ _ _ _ _ _ _ _ _ _ _ _ _ _ _ _ _ _ _ _ _ _ _ _ _ _ _ _ _ _ _ _ _ _ _ _ _ _ _ _ _ _ _ _ _ _ _ _ _ _ _ _ _ _ _ _ _ _ _ _ _ _ _ _ _ _ _ _ _ _ _ _ _ _ _ _ _ _ _ _ _ _ _ _ _ _ _ _ _ _ _ _ _ _ _ _ _ _ _ _ _ _ _ _ _ _ _ _ _ _ _ _ _ _ _ _ _ _ _ _ _ _ _ _ B4.out HOW.out
end Go.Proofs.YtggcbblikgankaaDoor
end
section
/- OptionsFirst: its end. -/
namespace Go.Proofs.YtggcbblikgankaaDoor
open Go Go.RowKit

set_option maxRecDepth 100000 in
set_option maxHeartbeats 8000000 in
theorem first_cannot (w w5 : World) (hB : Below w.heap.size w w5) (s : Sgn) (fr : Rea) (A K F n : Nat) (ao : Option Addr) (c : Nat) (cn : Bool) (hcn : cn = false) (hm : s.mark ≠ 1 → n ≠ 0) (hk : w5.heap[K]? = some (.cells (sgnA s) 41 (0, 0))) (hf : w5.heap[F]? = some (.cells (reaA fr) 60 (0, 0)))
    (l : List Rea) (hrow : IsRow encRea 4 w5 (.slice ao n c) l) (hl : l.length = n) (h0 : l[0]? ≠ some fr) (e0 e1 e2 e4 e5 e6 e8 e10 e13 e14 e15 e16 e17 e18 e19 e20 e21 e22 e23 e24 e25 e26 e27 e28 e29 e30 e31 e32 e33 e34 e35 e36 e37 e38 e39 e40 e41 e42 e43 e44 e45 e46 e47 e48 e49 e50 e51 e52 e53 e54 e55 e56 e57 e58 e59 e60 e61 e62 e63 e64 e65 e66 e67 e68 e69 e70 e71 e72 e73 e74 e75 e76 e77 e78 e79 e80 e81 e82 e83 e84 e85 e86 e87 e88 e89 e90 e91 e92 e93 e94 e95 e96 e97 e98 e99 e100 e101 e102 e103 e104 e105 e106 e107 e108 e109 e110 e111 e112 e113 e114 e115 e116 e117 e118 e119 e120 e121 e122 e123 e124 e125 e126 e127 e128 e129 e130 e131 e132 e133 e134 e135 e136 e137 e138 e139 e140 e141 e142 e143 e144 e145 e146 e147 e148 e149 e150 e151 e152 e153 e154 e155 e156 e157 e158 e159 e160 e161 e162 e163 e164 e165 e166 e167 e168 e169 e170 e171 e172 e173 e174 e175 e176 e177 e178 e179 e180 e181 e182 e183 e184 e185 e186 e187 e188 e189 e190 e191 e192 e193 e194 e195 e196 e197 e198 e199 e200 e201 e202 e203 e204 e205 e206 e207 e208 : Value) :
    Code.wp Tryd.prog part4n10 (bodyPost Tryd.prog Tryd.f4 (trueP w)) { tmps := #[e0, e1, e2, .pointer (some ⟨A, 0, none⟩), e4, e5, e6, .pointer (some ⟨K, 0, none⟩), e8, .slice ao n c, e10, .bool cn, .pointer (some ⟨F, 0, none⟩), e13, e14, e15, e16, e17, e18, e19, e20, e21, e22, e23, e24, e25, e26, e27, e28, e29, e30, e31, e32, e33, e34, e35, e36, e37, e38, e39, e40, e41, e42, e43, e44, e45, e46, e47, e48, e49, e50, e51, e52, e53, e54, e55, e56, e57, e58, e59, e60, e61, e62, e63, e64, e65, e66, e67, e68, e69, e70, e71, e72, e73, e74, e75, e76, e77, e78, e79, e80, e81, e82, e83, e84, e85, e86, e87, e88, e89, e90, e91, e92, e93, e94, e95, e96, e97, e98, e99, e100, e101, e102, e103, e104, e105, e106, e107, e108, e109, e110, e111, e112, e113, e114, e115, e116, e117, e118, e119, e120, e121, e122, e123, e124, e125, e126, e127, e128, e129, e130, e131, e132, e133, e134, e135, e136, e137, e138, e139, e140, e141, e142, e143, e144, e145, e146, e147, e148, e149, e150, e151, e152, e153, e154, e155, e156, e157, e158, e159, e160, e161, e162, e163, e164, e165, e166, e167, e168, e169, e170, e171, e172, e173, e174, e175, e176, e177, e178, e179, e180, e181, e182, e183, e184, e185, e186, e187, e188, e189, e190, e191, e192, e193, e194, e195, e196, e197, e198, e199, e200, e201, e202, e203, e204, e205, e206, e207, e208], defers := [] } w5 := by
  have c3 : w5.cell? ⟨K, 3, none⟩ = some (.int .i64 s.mark) := cell_at hk 3 rfl
  subst hcn
  have HB := Lib.hid hB; have HF := Lib.hid hf
  clear hB hk hf
  unfold trueP part4n10 code4
  conv => arg 2; whnf
  by_cases hn : n = 0
  · subst hn
    have hm1 : s.mark = 1 := by
      by_cases h : s.mark = 1
      · exact h
      · exact absurd rfl (hm h)
    rw [hm1] at c3
    clear hm h0 hrow
    go_wp2_with fail
    go_quiet (fail)
    go_wp2_with fail
    go_ret
    exact ⟨rfl, below_drewN HB.out _⟩
  · have hlen : 0 < l.length := by omega
    obtain ⟨x, hx⟩ : ∃ x, l[0]? = some x := ⟨_, List.getElem?_eq_getElem hlen⟩
    obtain ⟨b1, o1, hp1, hat1, _⟩ := hrow.block hx
    subst hp1
    obtain ⟨p0, p1, p2, p3⟩ := atRea hat1 hx
    simp only [Nat.zero_mul, Nat.add_zero] at p0 p1 p2 p3
    have hne : x ≠ fr := fun e => h0 (by rw [hx, e])
    have hq := fun w => neq_rea x fr false (decide_eq_false hne) w
    have q0 : w5.cell? ⟨F, 0, none⟩ = some (.int .i64 fr.sign) := cell_at HF.out 0 rfl
    have q1 : w5.cell? ⟨F, 1, none⟩ = some (.int .i64 fr.dir) := cell_at HF.out 1 rfl
    have q2 : w5.cell? ⟨F, 2, none⟩ = some (.int .i64 fr.level) := cell_at HF.out 2 rfl
    have q3 : w5.cell? ⟨F, 3, none⟩ = some (.bool fr.drop) := cell_at HF.out 3 rfl
    have z0 : ((n : Int) == 0) = false := by simp; exact hn
    have z1 : (0 : Int) < (n : Int) := by omega
    have z2 : ¬ (n : Int) = 0 := by omega
    clear hm h0 hrow hat1 hx hne hlen hl
    by_cases hmk : s.mark = 1
    · rw [hmk] at c3
      go_wp2_with fail
      go_quiet (fail)
      go_wp2_with fail
      go_ret
      exact ⟨rfl, below_drewN HB.out _⟩
    · have z3 : (s.mark != 1) = true := by simpa using hmk
      go_wp2_with fail
      go_quiet (fail)
      go_wp2_with fail
      go_ret
      exact ⟨rfl, below_drewN HB.out _⟩
set_option maxRecDepth 100000 in
set_option maxHeartbeats 8000000 in
theorem first_end (w w5 : World) (hB : Below w.heap.size w w5) (s : Sgn) (fr : Rea) (ws : Array Value) (hws : (Tryd.prog.info? 32).map (·.size) = some ws.size) (A K F n : Nat) (ao : Option Addr) (c : Nat) (cn : Bool) (hcn : cn = true) (hA : w5.heap[A]? = some (.cells ws 32 (0, 0))) (hk : w5.heap[K]? = some (.cells (sgnA s) 41 (0, 0))) (hf : w5.heap[F]? = some (.cells (reaA fr) 60 (0, 0)))
    (l : List Rea) (hrow : IsRow encRea 4 w5 (.slice ao n c) l) (hl : l.length = n) (h0 : l[0]? = some fr) (hc : ∀ m, Calls Tryd.prog 22 #[.agg ws, .int .i64 s.id, reaV fr] (w5.drewN m) (costR 0 0 (w5.drewN m))) (e0 e1 e2 e4 e5 e6 e8 e10 e13 e14 e15 e16 e17 e18 e19 e20 e21 e22 e23 e24 e25 e26 e27 e28 e29 e30 e31 e32 e33 e34 e35 e36 e37 e38 e39 e40 e41 e42 e43 e44 e45 e46 e47 e48 e49 e50 e51 e52 e53 e54 e55 e56 e57 e58 e59 e60 e61 e62 e63 e64 e65 e66 e67 e68 e69 e70 e71 e72 e73 e74 e75 e76 e77 e78 e79 e80 e81 e82 e83 e84 e85 e86 e87 e88 e89 e90 e91 e92 e93 e94 e95 e96 e97 e98 e99 e100 e101 e102 e103 e104 e105 e106 e107 e108 e109 e110 e111 e112 e113 e114 e115 e116 e117 e118 e119 e120 e121 e122 e123 e124 e125 e126 e127 e128 e129 e130 e131 e132 e133 e134 e135 e136 e137 e138 e139 e140 e141 e142 e143 e144 e145 e146 e147 e148 e149 e150 e151 e152 e153 e154 e155 e156 e157 e158 e159 e160 e161 e162 e163 e164 e165 e166 e167 e168 e169 e170 e171 e172 e173 e174 e175 e176 e177 e178 e179 e180 e181 e182 e183 e184 e185 e186 e187 e188 e189 e190 e191 e192 e193 e194 e195 e196 e197 e198 e199 e200 e201 e202 e203 e204 e205 e206 e207 e208 : Value) :
    Code.wp Tryd.prog part4n10 (bodyPost Tryd.prog Tryd.f4 (trueP w)) { tmps := #[e0, e1, e2, .pointer (some ⟨A, 0, none⟩), e4, e5, e6, .pointer (some ⟨K, 0, none⟩), e8, .slice ao n c, e10, .bool cn, .pointer (some ⟨F, 0, none⟩), e13, e14, e15, e16, e17, e18, e19, e20, e21, e22, e23, e24, e25, e26, e27, e28, e29, e30, e31, e32, e33, e34, e35, e36, e37, e38, e39, e40, e41, e42, e43, e44, e45, e46, e47, e48, e49, e50, e51, e52, e53, e54, e55, e56, e57, e58, e59, e60, e61, e62, e63, e64, e65, e66, e67, e68, e69, e70, e71, e72, e73, e74, e75, e76, e77, e78, e79, e80, e81, e82, e83, e84, e85, e86, e87, e88, e89, e90, e91, e92, e93, e94, e95, e96, e97, e98, e99, e100, e101, e102, e103, e104, e105, e106, e107, e108, e109, e110, e111, e112, e113, e114, e115, e116, e117, e118, e119, e120, e121, e122, e123, e124, e125, e126, e127, e128, e129, e130, e131, e132, e133, e134, e135, e136, e137, e138, e139, e140, e141, e142, e143, e144, e145, e146, e147, e148, e149, e150, e151, e152, e153, e154, e155, e156, e157, e158, e159, e160, e161, e162, e163, e164, e165, e166, e167, e168, e169, e170, e171, e172, e173, e174, e175, e176, e177, e178, e179, e180, e181, e182, e183, e184, e185, e186, e187, e188, e189, e190, e191, e192, e193, e194, e195, e196, e197, e198, e199, e200, e201, e202, e203, e204, e205, e206, e207, e208], defers := [] } w5 := by
  have c0 : w5.cell? ⟨K, 0, none⟩ = some (.int .i64 s.id) := cell_at hk 0 rfl
  have c3 : w5.cell? ⟨K, 3, none⟩ = some (.int .i64 s.mark) := cell_at hk 3 rfl
  subst hcn
  obtain ⟨b1, o1, hp1, hat1, _⟩ := hrow.block h0
  subst hp1
  obtain ⟨p0, p1, p2, p3⟩ := atRea hat1 h0
  simp only [Nat.zero_mul, Nat.add_zero] at p0 p1 p2 p3
  have hlen : 0 < n := by rw [← hl]; exact (List.getElem?_eq_some_iff.1 h0).1
  have hq := fun w => neq_rea fr fr true (decide_eq_true rfl) w
  have q0 : w5.cell? ⟨F, 0, none⟩ = some (.int .i64 fr.sign) := cell_at hf 0 rfl
  have q1 : w5.cell? ⟨F, 1, none⟩ = some (.int .i64 fr.dir) := cell_at hf 1 rfl
  have q2 : w5.cell? ⟨F, 2, none⟩ = some (.int .i64 fr.level) := cell_at hf 2 rfl
  have q3 : w5.cell? ⟨F, 3, none⟩ = some (.bool fr.drop) := cell_at hf 3 rfl
  have z0 : ((n : Int) == 0) = false := by simp; omega
  have z1 : (0 : Int) < (n : Int) := by omega
  have z2 : ¬ (n : Int) = 0 := by omega
  have HB := Lib.hid hB; have HA := Lib.hid hA; have HC := Lib.hid hc
  clear hrow hat1 hlen hl h0 hk hf hB hA hc
  unfold trueP part4n10 code4
  conv => arg 2; whnf
  generalize hmm : (s.mark != 1) = mk
  have HM := Lib.hid hmm
  have z3 := hmm
  clear hmm
  cases mk <;>
  · go_wp2_with fail
    go_quiet (fail)
    go_wp2_with (refine wpList_load_row rfl 32 _ rfl A rfl 32 _ (0, 0) _ HA.out Tryd.underlying32 rfl hws ?_; simp only [Act.put, List.setIfInBounds_toArray, List.set_cons_zero, List.set_cons_succ])
    refine (HC.out _).mono ?_
    rintro e w6 ⟨rfl, hb6⟩
    have HB6 := Lib.hid ((below_drewN HB.out _).trans (hb6.mono (below_drewN HB.out _).size))
    clear hb6 HC HA HB p0 p1 p2 p3 q0 q1 q2 q3 c0 c3
    go_wp2_with fail
    go_ret
    exact ⟨rfl, HB6.out⟩
end Go.Proofs.YtggcbblikgankaaDoor
end
section
/- OptionsFirst: the loop over the options. -/
namespace Go.Proofs.YtggcbblikgankaaDoor
open Go Go.RowKit

set_option maxRecDepth 100000 in
set_option maxHeartbeats 8000000 in
theorem first_loop (w5 : World) (s : Sgn) (ws : Array Value) (hws : (Tryd.prog.info? 32).map (·.size) = some ws.size) (A K F n : Nat) (ao : Option Addr) (c : Nat) (cn : Bool) (hA : w5.heap[A]? = some (.cells ws 32 (0, 0))) (hk : w5.heap[K]? = some (.cells (sgnA s) 41 (0, 0)))
    (l : List Rea) (hrow : IsRow encRea 4 w5 (.slice ao n c) l) (hl : l.length = n) (hln : n ≤ 2000) (hform : ∀ i r, l[i]? = some r → r.sign = s.id ∧ r.drop = (decide (i + 1 = l.length) && decide (s.mark ≠ 1))) (hsort : l.Pairwise fun r r' => priceI s r ≤ priceI s r') (hpos : ∀ r ∈ l, 0 ≤ priceI s r)
    (hc : ∀ r ∈ l, ∀ W, Below w5.heap.size w5 W → Calls Tryd.prog 22 #[.agg ws, .int .i64 s.id, reaV r] W (costR (priceI s r) 0 W)) (e0 e1 e2 e4 e5 e6 e8 e10 e13 e14 e15 e16 e17 e18 e19 e20 e21 e22 e23 e24 e25 e26 e27 e28 e29 e30 e31 e32 e33 e34 e35 e36 e37 e38 e39 e40 e41 e42 e43 e44 e45 e46 e47 e48 e49 e50 e51 e52 e53 e54 e55 e56 e57 e58 e59 e60 e61 e62 e63 e64 e65 e66 e67 e68 e69 e70 e71 e72 e73 e74 e75 e76 e77 e78 e79 e80 e81 e82 e83 e84 e85 e86 e87 e88 e89 e90 e91 e92 e93 e94 e95 e96 e97 e98 e99 e100 e101 e102 e103 e104 e105 e106 e107 e108 e109 e110 e111 e112 e113 e114 e115 e116 e117 e118 e119 e120 e121 e122 e123 e124 e125 e126 e127 e128 e129 e130 e131 e132 e133 e134 e135 e136 e137 e138 e139 e140 e141 e142 e143 e144 e145 e146 e147 e148 e149 e150 e151 e152 e153 e154 e155 e156 e157 e158 e159 e160 e161 e162 e163 e164 e165 e166 e167 e168 e169 e170 e171 e172 e173 e174 e175 e176 e177 e178 e179 e180 e181 e182 e183 e184 e185 e186 e187 e188 e189 e190 e191 e192 e193 e194 e195 e196 e197 e198 e199 e200 e201 e202 e203 e204 e205 e206 e207 e208 : Value) (R : Ending → World → Prop) (X : Code)
    (hX : ∀ (w6 : World) (e0 e1 e2 e4 e5 e6 e8 e10 e13 e14 e15 e16 e17 e18 e19 e20 e21 e22 e23 e24 e25 e26 e27 e28 e29 e30 e31 e32 e33 e34 e35 e36 e37 e38 e39 e40 e41 e42 e43 e44 e45 e46 e47 e48 e49 e50 e51 e52 e53 e54 e55 e56 e57 e58 e59 e60 e61 e62 e63 e64 e65 e66 e67 e68 e69 e70 e71 e72 e73 e74 e75 e76 e77 e78 e79 e80 e81 e82 e83 e84 e85 e86 e87 e88 e89 e90 e91 e92 e93 e94 e95 e96 e97 e98 e99 e100 e101 e102 e103 e104 e105 e106 e107 e108 e109 e110 e111 e112 e113 e114 e115 e116 e117 e118 e119 e120 e121 e122 e123 e124 e125 e126 e127 e128 e129 e130 e131 e132 e133 e134 e135 e136 e137 e138 e139 e140 e141 e142 e143 e144 e145 e146 e147 e148 e149 e150 e151 e152 e153 e154 e155 e156 e157 e158 e159 e160 e161 e162 e163 e164 e165 e166 e167 e168 e169 e170 e171 e172 e173 e174 e175 e176 e177 e178 e179 e180 e181 e182 e183 e184 e185 e186 e187 e188 e189 e190 e191 e192 e193 e194 e195 e196 e197 e198 e199 e200 e201 e202 e203 e204 e205 e206 e207 e208 : Value), Below w5.heap.size w5 w6 → Code.wp Tryd.prog X (bodyPost Tryd.prog Tryd.f4 R) { tmps := #[e0, e1, e2, .pointer (some ⟨A, 0, none⟩), e4, e5, e6, .pointer (some ⟨K, 0, none⟩), e8, .slice ao n c, e10, .bool cn, .pointer (some ⟨F, 0, none⟩), e13, e14, e15, e16, e17, e18, e19, e20, e21, e22, e23, e24, e25, e26, e27, e28, e29, e30, e31, e32, e33, e34, e35, e36, e37, e38, e39, e40, e41, e42, e43, e44, e45, e46, e47, e48, e49, e50, e51, e52, e53, e54, e55, e56, e57, e58, e59, e60, e61, e62, e63, e64, e65, e66, e67, e68, e69, e70, e71, e72, e73, e74, e75, e76, e77, e78, e79, e80, e81, e82, e83, e84, e85, e86, e87, e88, e89, e90, e91, e92, e93, e94, e95, e96, e97, e98, e99, e100, e101, e102, e103, e104, e105, e106, e107, e108, e109, e110, e111, e112, e113, e114, e115, e116, e117, e118, e119, e120, e121, e122, e123, e124, e125, e126, e127, e128, e129, e130, e131, e132, e133, e134, e135, e136, e137, e138, e139, e140, e141, e142, e143, e144, e145, e146, e147, e148, e149, e150, e151, e152, e153, e154, e155, e156, e157, e158, e159, e160, e161, e162, e163, e164, e165, e166, e167, e168, e169, e170, e171, e172, e173, e174, e175, e176, e177, e178, e179, e180, e181, e182, e183, e184, e185, e186, e187, e188, e189, e190, e191, e192, e193, e194, e195, e196, e197, e198, e199, e200, e201, e202, e203, e204, e205, e206, e207, e208], defers := [] } w6) :
    Code.wp Tryd.prog (withLast 2 part4n8 X) (bodyPost Tryd.prog Tryd.f4 R) { tmps := #[e0, e1, e2, .pointer (some ⟨A, 0, none⟩), e4, e5, e6, .pointer (some ⟨K, 0, none⟩), e8, .slice ao n c, e10, .bool cn, .pointer (some ⟨F, 0, none⟩), e13, e14, e15, e16, e17, e18, e19, e20, e21, e22, e23, e24, e25, e26, e27, e28, e29, e30, e31, e32, e33, e34, e35, e36, e37, e38, e39, e40, e41, e42, e43, e44, e45, e46, e47, e48, e49, e50, e51, e52, e53, e54, e55, e56, e57, e58, e59, e60, e61, e62, e63, e64, e65, e66, e67, e68, e69, e70, e71, e72, e73, e74, e75, e76, e77, e78, e79, e80, e81, e82, e83, e84, e85, e86, e87, e88, e89, e90, e91, e92, e93, e94, e95, e96, e97, e98, e99, e100, e101, e102, e103, e104, e105, e106, e107, e108, e109, e110, e111, e112, e113, e114, e115, e116, e117, e118, e119, e120, e121, e122, e123, e124, e125, e126, e127, e128, e129, e130, e131, e132, e133, e134, e135, e136, e137, e138, e139, e140, e141, e142, e143, e144, e145, e146, e147, e148, e149, e150, e151, e152, e153, e154, e155, e156, e157, e158, e159, e160, e161, e162, e163, e164, e165, e166, e167, e168, e169, e170, e171, e172, e173, e174, e175, e176, e177, e178, e179, e180, e181, e182, e183, e184, e185, e186, e187, e188, e189, e190, e191, e192, e193, e194, e195, e196, e197, e198, e199, e200, e201, e202, e203, e204, e205, e206, e207, e208], defers := [] } w5 := by
  have hK : K < w5.heap.size := (Array.getElem?_eq_some_iff.1 hk).1
  have hAl : A < w5.heap.size := (Array.getElem?_eq_some_iff.1 hA).1
  have HA := Lib.hid hA; have HK := Lib.hid hk; have HROW := Lib.hid hrow; have HL := Lib.hid hl; have HFORM := Lib.hid hform; have HSORT := Lib.hid hsort; have HPOS := Lib.hid hpos; have HC := Lib.hid hc; have HX := Lib.hid hX
  clear hA hk hrow hl hform hsort hpos hc hX
  unfold part4n8 code4
  conv => arg 2; whnf
  simp only [withLast]
  go_wp2_with fail
  go_loopw [13, 121] (fun lv iv wr => ∃ (k : Nat) (last : Int), k ≤ n ∧ iv = .int .i64 k ∧ lv = .int .i64 last ∧ Hid (∀ j r, k ≤ j → l[j]? = some r → last ≤ priceI s r) ∧ Hid (Below w5.heap.size w5 wr)) (fun _ iv _ => n - (intOf iv).toNat)
  case atStart => exact ⟨0, 0, Nat.zero_le _, rfl, rfl, Lib.hid (fun j r _ h => HPOS.out r (List.mem_of_getElem? h)), Lib.hid (Below.refl _ _)⟩
  case round =>
    obtain ⟨k, last, hkn0, rfl, rfl, hlast, hbw⟩ := hrel
    by_cases hkn : k < n
    · obtain ⟨r, hr⟩ : ∃ r, l[k]? = some r := ⟨_, List.getElem?_eq_getElem (by rw [HL.out]; exact hkn)⟩
      obtain ⟨b1, o1, hp1, hat1, hb1⟩ := (HROW.out.below hbw.out (Nat.le_refl _)).block hr
      subst hp1
      obtain ⟨p0, p1, p2, p3⟩ := atRea hat1 hr
      obtain ⟨hsg, hdr⟩ := HFORM.out k r hr
      have hle := hlast.out k r (Nat.le_refl _) hr
      have hcall := HC.out r (List.mem_of_getElem? hr)
      have hnext : ∀ j r', k + 1 ≤ j → l[j]? = some r' → priceI s r ≤ priceI s r' := by
        intro j r' hj hr'
        obtain ⟨h1, e1⟩ := List.getElem?_eq_some_iff.1 hr
        obtain ⟨h2, e2⟩ := List.getElem?_eq_some_iff.1 hr'
        have := List.pairwise_iff_getElem.1 HSORT.out k j h1 h2 (by omega)
        rw [e1, e2] at this; exact this
      rw [HL.out] at hdr
      have hkn' : (k : Int) < (n : Int) := by omega
      have hA2 := (hbw.out.block A hAl).trans HA.out
      have hK2 := (hbw.out.block K hK).trans HK.out
      have hbb : Below w5.heap.size w5 (wr.alloc (.cells (reaA r) 60)) := hbw.out.alloc hbw.out.size _
      have x1 := (Below.heap_alloc wr (.cells (reaA r) 60) A (Nat.lt_of_lt_of_le hAl hbw.out.size)).trans hA2
      have x2 := (Below.heap_alloc wr (.cells (reaA r) 60) K (Nat.lt_of_lt_of_le hK hbw.out.size)).trans hK2
      have x3 := heap_alloc_new wr (.cells (reaA r) 60)
      have X1 := Lib.hid x1; have X2 := Lib.hid x2; have X3 := Lib.hid x3; have HBB := Lib.hid hbb; have HCALL := Lib.hid hcall; have HNEXT := Lib.hid hnext; have HDR := Lib.hid hdr; have HSG := Lib.hid hsg; have HLE := Lib.hid hle
      clear x1 x2 x3 hbb hcall hnext hdr hsg hle hA2 hK2 hat1 hr hb1 hlast
      unfold reaA at X1 X2 X3 HBB
      have c0 : (wr.alloc (.cells #[.int .i64 r.sign, .int .i64 r.dir, .int .i64 r.level, .bool r.drop] 60)).cell? ⟨K, 0, none⟩ = some (.int .i64 s.id) := cell_at X2.out 0 rfl
      go_wp2_with (refine wpList_load_row rfl 32 _ rfl A rfl 32 _ (0, 0) _ X1.out Tryd.underlying32 rfl hws ?_; simp only [Act.put, List.setIfInBounds_toArray, List.set_cons_zero, List.set_cons_succ])
      refine (HCALL.out _ HBB.out).mono ?_
      rintro e w' ⟨rfl, hb6⟩
      have hw1 : (wr.alloc (.cells #[.int .i64 r.sign, .int .i64 r.dir, .int .i64 r.level, .bool r.drop] 60)).heap.size = wr.heap.size + 1 := by simp
      have y2 := (hb6.block K (by rw [hw1]; have := hbw.out.size; omega)).trans X2.out
      have y3 := (hb6.block wr.heap.size (by rw [hw1]; omega)).trans X3.out
      have HB6 := Lib.hid (HBB.out.trans (hb6.mono HBB.out.size))
      clear X1 X2 X3 HBB HCALL hb6 hw1 c0 p0 p1 p2 p3
      have c3 : w'.cell? ⟨K, 3, none⟩ = some (.int .i64 s.mark) := cell_at y2 3 rfl
      have q0 : w'.cell? ⟨wr.heap.size, 0, none⟩ = some (.int .i64 r.sign) := cell_at y3 0 rfl
      have q3 : w'.cell? ⟨wr.heap.size, 3, none⟩ = some (.bool r.drop) := cell_at y3 3 rfl
      have z3 : (r.sign != s.id) = false := by rw [HSG.out]; simp
      have c0 : w'.cell? ⟨K, 0, none⟩ = some (.int .i64 s.id) := cell_at y2 0 rfl
      clear y2 y3 HSG
      generalize wr.heap.size = gw at *
      generalize hpr : priceI s r = pr at *
      have hle := HLE.out
      have hnl : ¬ pr < last := by omega
      have HNX : Hid (∀ j r', k + 1 ≤ j → l[j]? = some r' → pr ≤ priceI s r') := HNEXT
      clear HLE HNEXT hpr hle
      have hd := HDR.out
      clear HDR
      by_cases ha : k + 1 = n
      · have z1 : ((k : Int) == (n : Int) - 1) = true := by simp; omega
        by_cases hb : s.mark = 1
        · rw [decide_eq_true ha, decide_eq_false (by simpa using hb), Bool.and_false] at hd
          rw [hd] at q3
          rw [hb] at c3
          go_wp2_with fail
          go_roundw
          case rel => exact ⟨k + 1, pr, by omega, by go_num, rfl, HNX, HB6⟩
          case measure => simp [intOf]; omega
        · have z2 : (s.mark != 1) = true := by simpa using hb
          rw [decide_eq_true ha, decide_eq_true hb, Bool.and_true] at hd
          rw [hd] at q3
          go_wp2_with fail
          go_roundw
          case rel => exact ⟨k + 1, pr, by omega, by go_num, rfl, HNX, HB6⟩
          case measure => simp [intOf]; omega
      · have z1 : ((k : Int) == (n : Int) - 1) = false := by simp; omega
        rw [decide_eq_false ha, Bool.false_and] at hd
        rw [hd] at q3
        go_wp2_with fail
        go_roundw
        case rel => exact ⟨k + 1, pr, by omega, by go_num, rfl, HNX, HB6⟩
        case measure => simp [intOf]; omega
    · obtain rfl : k = n := by omega
      have hkn' : ¬ (k : Int) < (k : Int) := by omega
      go_wp2_with fail
      exact HX.out _ _ _ _ _ _ _ _ _ _ _ _ _ _ _ _ _ _ _ _ _ _ _ _ _ _ _ _ _ _ _ _ _ _ _ _ _ _ _ _ _ _ _ _ _ _ _ _ _ _ _ _ _ _ _ _ _ _ _ _ _ _ _ _ _ _ _ _ _ _ _ _ _ _ _ _ _ _ _ _ _ _ _ _ _ _ _ _ _ _ _ _ _ _ _ _ _ _ _ _ _ _ _ _ _ _ _ _ _ _ _ _ _ _ _ _ _ _ _ _ _ _ _ _ _ _ _ _ _ _ _ _ _ _ _ _ _ _ _ _ _ _ _ _ _ _ _ _ _ _ _ _ _ _ _ _ _ _ _ _ _ _ _ _ _ _ _ _ _ _ _ _ _ _ _ _ _ _ _ _ _ _ _ _ _ _ _ _ _ _ _ _ _ _ _ _ _ _ _ _ _ _ _ _ _ hbw.out
end Go.Proofs.YtggcbblikgankaaDoor
end
section
/- OptionsFirst: the whole walk. -/
namespace Go.Proofs.YtggcbblikgankaaDoor
open Go Go.RowKit

set_option maxRecDepth 100000 in
set_option maxHeartbeats 8000000 in
theorem first_any (k : Wrk) (b : Bod) (hbn : b.name.length ≤ maxLen) (n : Nat) (hn : n < 65536) (ws : Array Value) (w : World) (hE : Env w) (hz2 : 2 ≤ w.heap.size) (hW : WkAt k ws w) :
    Calls Tryd.prog 4 #[.agg ws, .int .u16 n, bodV b] w (trueP w) := by
  go_enter Tryd.func4, Tryd.ntmps4
  refine pick_4 k b n hn ws w hE hz2 hW _ (withLast 1 part4n3 (withLast 2 part4n4 (withLast 1 part4n6 (withLast 1 part4n7 (withLast 2 part4n8 part4n10))))) ?_
  intro w3 K _ _ _ _ _ _ _ _ _ _ _ _ _ _ _ _ _ _ _ _ _ _ _ _ _ _ _ _ _ _ _ _ _ _ _ _ _ _ _ _ _ _ _ _ _ _ _ _ _ _ _ _ _ _ _ _ _ _ _ _ _ _ _ _ _ _ _ _ _ _ _ _ _ _ _ _ _ _ _ _ _ _ _ _ _ _ _ _ _ _ _ _ _ _ _ _ _ _ _ _ _ _ _ _ _ _ _ _ _ _ _ _ _ _ _ _ _ _ _ _ _ _ _ _ _ _ _ _ _ _ _ _ _ _ _ _ _ _ _ _ _ _ _ _ _ _ _ _ _ _ _ _ _ _ _ _ _ _ _ _ _ _ _ _ _ _ _ _ _ _ _ _ _ _ _ _ _ _ _ _ _ _ _ _ _ _ _ _ _ _ _ _ _ _ _ _ _ _ _ _ _ _ _ _ _ B3 g0 g1 g2 hKg
  refine guards_4 k b hbn _ ws w.heap.size K w3 (hE.below B3) (hW.below B3 (Nat.le_refl _)) g0 g1 _ _ _ _ _ _ _ _ _ _ _ _ _ _ _ _ _ _ _ _ _ _ _ _ _ _ _ _ _ _ _ _ _ _ _ _ _ _ _ _ _ _ _ _ _ _ _ _ _ _ _ _ _ _ _ _ _ _ _ _ _ _ _ _ _ _ _ _ _ _ _ _ _ _ _ _ _ _ _ _ _ _ _ _ _ _ _ _ _ _ _ _ _ _ _ _ _ _ _ _ _ _ _ _ _ _ _ _ _ _ _ _ _ _ _ _ _ _ _ _ _ _ _ _ _ _ _ _ _ _ _ _ _ _ _ _ _ _ _ _ _ _ _ _ _ _ _ _ _ _ _ _ _ _ _ _ _ _ _ _ _ _ _ _ _ _ _ _ _ _ _ _ _ _ _ _ _ _ _ _ _ _ _ _ _ _ _ _ _ _ _ _ _ _ _ _ _ _ _ _ _ _ _ _ _ _ (withLast 2 part4n4 (withLast 1 part4n6 (withLast 1 part4n7 (withLast 2 part4n8 part4n10)))) ?_ ?_
  · intro w' hb
    exact ⟨rfl, B3.trans (hb.mono B3.size)⟩
  intro hfew hok hk hbo w4 _ _ _ _ _ _ _ _ _ _ _ _ _ _ _ _ _ _ _ _ _ _ _ _ _ _ _ _ _ _ _ _ _ _ _ _ _ _ _ _ _ _ _ _ _ _ _ _ _ _ _ _ _ _ _ _ _ _ _ _ _ _ _ _ _ _ _ _ _ _ _ _ _ _ _ _ _ _ _ _ _ _ _ _ _ _ _ _ _ _ _ _ _ _ _ _ _ _ _ _ _ _ _ _ _ _ _ _ _ _ _ _ _ _ _ _ _ _ _ _ _ _ _ _ _ _ _ _ _ _ _ _ _ _ _ _ _ _ _ _ _ _ _ _ _ _ _ _ _ _ _ _ _ _ _ _ _ _ _ _ _ _ _ _ _ _ _ _ _ _ _ _ _ _ _ _ _ _ _ _ _ _ _ _ _ _ _ _ _ _ _ _ _ _ _ _ _ _ _ _ _ _ _ _ _ b4
  have hne : k.signs ≠ [] := of_decide_eq_true hok
  have hs := pick_mem hne n
  have g2 : w3.heap[K]? = some (.cells (sgnA (pickS k.signs n)) 41 (0, 0)) := by rw [g2]; unfold pickA; rw [if_neg hne]
  generalize pickS k.signs n = s at *
  have hA3 : w.heap.size < w3.heap.size := (Array.getElem?_eq_some_iff.1 g0).1
  have hA31 : w.heap.size + 1 < w3.heap.size := (Array.getElem?_eq_some_iff.1 g1).1
  have hK3 : K < w3.heap.size := (Array.getElem?_eq_some_iff.1 g2).1
  have B4 := B3.trans (b4.mono B3.size)
  have g0 := (b4.block _ hA3).trans g0
  have g1 := (b4.block _ hA31).trans g1
  have g2 := (b4.block _ hK3).trans g2
  have hA4 : w.heap.size < w4.heap.size := Nat.lt_of_lt_of_le hA3 b4.size
  have hA41 : w.heap.size + 1 < w4.heap.size := Nat.lt_of_lt_of_le hA31 b4.size
  have hK4 : K < w4.heap.size := Nat.lt_of_lt_of_le hK3 b4.size
  clear b4 B3 hA3 hA31 hK3 hfew hok hne
  refine opts_4 k s b hbn ws w.heap.size K w4 (hE.below B4) (Nat.le_trans hz2 B4.size) (hW.below B4 (Nat.le_refl _)) g0 g1 g2 hk hs hbo _ _ _ _ _ _ _ _ _ _ _ _ _ _ _ _ _ _ _ _ _ _ _ _ _ _ _ _ _ _ _ _ _ _ _ _ _ _ _ _ _ _ _ _ _ _ _ _ _ _ _ _ _ _ _ _ _ _ _ _ _ _ _ _ _ _ _ _ _ _ _ _ _ _ _ _ _ _ _ _ _ _ _ _ _ _ _ _ _ _ _ _ _ _ _ _ _ _ _ _ _ _ _ _ _ _ _ _ _ _ _ _ _ _ _ _ _ _ _ _ _ _ _ _ _ _ _ _ _ _ _ _ _ _ _ _ _ _ _ _ _ _ _ _ _ _ _ _ _ _ _ _ _ _ _ _ _ _ _ _ _ _ _ _ _ _ _ _ _ _ _ _ _ _ _ _ _ _ _ _ _ _ _ _ _ _ _ _ _ _ _ _ _ _ _ _ _ _ _ _ _ _ _ _ _ _ _ (withLast 1 part4n6 (withLast 1 part4n7 (withLast 2 part4n8 part4n10))) ?_
  intro w5 v _ _ _ _ _ _ _ _ _ _ _ _ _ _ _ _ _ _ _ _ _ _ _ _ _ _ _ _ _ _ _ _ _ _ _ _ _ _ _ _ _ _ _ _ _ _ _ _ _ _ _ _ _ _ _ _ _ _ _ _ _ _ _ _ _ _ _ _ _ _ _ _ _ _ _ _ _ _ _ _ _ _ _ _ _ _ _ _ _ _ _ _ _ _ _ _ _ _ _ _ _ _ _ _ _ _ _ _ _ _ _ _ _ _ _ _ _ _ _ _ _ _ _ _ _ _ _ _ _ _ _ _ _ _ _ _ _ _ _ _ _ _ _ _ _ _ _ _ _ _ _ _ _ _ _ _ _ _ _ _ _ _ _ _ _ _ _ _ _ _ _ _ _ _ _ _ _ _ _ _ _ _ _ _ _ _ _ _ _ _ _ _ _ _ _ _ _ _ _ _ _ _ _ _ b5 hown
  have B5 := B4.trans (b5.mono B4.size)
  have g0 := (b5.block _ hA4).trans g0
  have g1 := (b5.block _ hA41).trans g1
  have g2 := (b5.block _ hK4).trans g2
  have hA5 : w.heap.size < w5.heap.size := Nat.lt_of_lt_of_le hA4 b5.size
  have hA51 : w.heap.size + 1 < w5.heap.size := Nat.lt_of_lt_of_le hA41 b5.size
  have hK5 : K < w5.heap.size := Nat.lt_of_lt_of_le hK4 b5.size
  have hrow : IsRow encRea 4 w5 v (optL k s b) := owns_isRow encRea_len hown rfl
  clear b5 hown B4 hA4 hA41 hK4
  have hf := opt_facts hk hs hbo
  have hlen : (optL k s b).length ≤ 2000 := by
    have := doL_len k s hbo
    unfold optL dropL
    rw [List.length_append]
    split <;> simp <;> omega
  refine first_new s v w5 w.heap.size K g2 _ _ _ _ _ _ _ _ _ _ _ _ _ _ _ _ _ _ _ _ _ _ _ _ _ _ _ _ _ _ _ _ _ _ _ _ _ _ _ _ _ _ _ _ _ _ _ _ _ _ _ _ _ _ _ _ _ _ _ _ _ _ _ _ _ _ _ _ _ _ _ _ _ _ _ _ _ _ _ _ _ _ _ _ _ _ _ _ _ _ _ _ _ _ _ _ _ _ _ _ _ _ _ _ _ _ _ _ _ _ _ _ _ _ _ _ _ _ _ _ _ _ _ _ _ _ _ _ _ _ _ _ _ _ _ _ _ _ _ _ _ _ _ _ _ _ _ _ _ _ _ _ _ _ _ _ _ _ _ _ _ _ _ _ _ _ _ _ _ _ _ _ _ _ _ _ _ _ _ _ _ _ _ _ _ _ _ _ _ _ _ _ _ _ _ _ _ _ _ _ _ _ _ _ _ _ (withLast 1 part4n7 (withLast 2 part4n8 part4n10)) ?_
  intro w6 F _ _ _ _ _ _ _ _ _ _ _ _ _ _ _ _ _ _ _ _ _ _ _ _ _ _ _ _ _ _ _ _ _ _ _ _ _ _ _ _ _ _ _ _ _ _ _ _ _ _ _ _ _ _ _ _ _ _ _ _ _ _ _ _ _ _ _ _ _ _ _ _ _ _ _ _ _ _ _ _ _ _ _ _ _ _ _ _ _ _ _ _ _ _ _ _ _ _ _ _ _ _ _ _ _ _ _ _ _ _ _ _ _ _ _ _ _ _ _ _ _ _ _ _ _ _ _ _ _ _ _ _ _ _ _ _ _ _ _ _ _ _ _ _ _ _ _ _ _ _ _ _ _ _ _ _ _ _ _ _ _ _ _ _ _ _ _ _ _ _ _ _ _ _ _ _ _ _ _ _ _ _ _ _ _ _ _ _ _ _ _ _ _ _ _ _ _ _ _ _ _ _ _ hF f6 b6
  have g0 := (b6.block _ hA5).trans g0
  have g1 := (b6.block _ hA51).trans g1
  have g2 := (b6.block _ hK5).trans g2
  refine first_kinds s b v w6 w5.heap.size w.heap.size K F hF g1 g2 f6 _ _ _ _ _ _ _ _ _ _ _ _ _ _ _ _ _ _ _ _ _ _ _ _ _ _ _ _ _ _ _ _ _ _ _ _ _ _ _ _ _ _ _ _ _ _ _ _ _ _ _ _ _ _ _ _ _ _ _ _ _ _ _ _ _ _ _ _ _ _ _ _ _ _ _ _ _ _ _ _ _ _ _ _ _ _ _ _ _ _ _ _ _ _ _ _ _ _ _ _ _ _ _ _ _ _ _ _ _ _ _ _ _ _ _ _ _ _ _ _ _ _ _ _ _ _ _ _ _ _ _ _ _ _ _ _ _ _ _ _ _ _ _ _ _ _ _ _ _ _ _ _ _ _ _ _ _ _ _ _ _ _ _ _ _ _ _ _ _ _ _ _ _ _ _ _ _ _ _ _ _ _ _ _ _ _ _ _ _ _ _ _ _ _ _ _ _ _ _ _ _ _ _ _ (withLast 2 part4n8 part4n10) ?_
  intro w7 _ _ _ _ _ _ _ _ _ _ _ _ _ _ _ _ _ _ _ _ _ _ _ _ _ _ _ _ _ _ _ _ _ _ _ _ _ _ _ _ _ _ _ _ _ _ _ _ _ _ _ _ _ _ _ _ _ _ _ _ _ _ _ _ _ _ _ _ _ _ _ _ _ _ _ _ _ _ _ _ _ _ _ _ _ _ _ _ _ _ _ _ _ _ _ _ _ _ _ _ _ _ _ _ _ _ _ _ _ _ _ _ _ _ _ _ _ _ _ _ _ _ _ _ _ _ _ _ _ _ _ _ _ _ _ _ _ _ _ _ _ _ _ _ _ _ _ _ _ _ _ _ _ _ _ _ _ _ _ _ _ _ _ _ _ _ _ _ _ _ _ _ _ _ _ _ _ _ _ _ _ _ _ _ _ _ _ _ _ _ _ _ _ _ _ _ _ _ _ _ _ _ _ f7 b7
  have b57 := b6.trans b7
  have B7 := B5.trans (b57.mono B5.size)
  have g0 := (b7.block _ hA5).trans g0
  have g2 := (b7.block _ hK5).trans g2
  have hrow := hrow.below b57 (Nat.le_refl _)
  have hsz := hW.size
  have hA7 : w.heap.size < w7.heap.size := Nat.lt_of_lt_of_le hA5 b57.size
  have hK7 : K < w7.heap.size := Nat.lt_of_lt_of_le hK5 b57.size
  have hF7 : F < w7.heap.size := (Array.getElem?_eq_some_iff.1 f7).1
  clear b57 b6 b7 B5 hA5 hA51 hK5 f6 g1
  obtain ⟨ao, c, rfl, hml, hr2⟩ := hrow
  have hrow : IsRow encRea 4 w7 (.slice ao (optL k s b).length c) (optL k s b) := ⟨ao, c, rfl, hml, hr2⟩
  refine first_loop w7 s ws hsz w.heap.size K F (optL k s b).length ao c (canB s b) g0 g2 (optL k s b) hrow rfl hlen (fun i r h => ⟨(hf.form i r h).1, (hf.form i r h).2.2⟩) hf.price hf.pos ?_ _ _ _ _ _ _ _ _ _ _ _ _ _ _ _ _ _ _ _ _ _ _ _ _ _ _ _ _ _ _ _ _ _ _ _ _ _ _ _ _ _ _ _ _ _ _ _ _ _ _ _ _ _ _ _ _ _ _ _ _ _ _ _ _ _ _ _ _ _ _ _ _ _ _ _ _ _ _ _ _ _ _ _ _ _ _ _ _ _ _ _ _ _ _ _ _ _ _ _ _ _ _ _ _ _ _ _ _ _ _ _ _ _ _ _ _ _ _ _ _ _ _ _ _ _ _ _ _ _ _ _ _ _ _ _ _ _ _ _ _ _ _ _ _ _ _ _ _ _ _ _ _ _ _ _ _ _ _ _ _ _ _ _ _ _ _ _ _ _ _ _ _ _ _ _ _ _ _ _ _ _ _ _ _ _ _ _ _ _ _ _ _ _ _ _ _ _ _ _ _ _ _ _ _ _ part4n10 ?_
  · intro r hr W hb
    obtain ⟨i, hi⟩ := List.getElem?_of_mem hr
    obtain ⟨c1, c2⟩ := cost_own (s := s) (r := r) hk hs (hf.form i r hi).2.1 (hf.form i r hi).1
    have BW := B7.trans (hb.mono B7.size)
    have := (hW.below BW (Nat.le_refl _)).cost (hE.below BW) s.id r
    rw [c1, c2] at this
    exact this
  intro w8 _ _ _ _ _ _ _ _ _ _ _ _ _ _ _ _ _ _ _ _ _ _ _ _ _ _ _ _ _ _ _ _ _ _ _ _ _ _ _ _ _ _ _ _ _ _ _ _ _ _ _ _ _ _ _ _ _ _ _ _ _ _ _ _ _ _ _ _ _ _ _ _ _ _ _ _ _ _ _ _ _ _ _ _ _ _ _ _ _ _ _ _ _ _ _ _ _ _ _ _ _ _ _ _ _ _ _ _ _ _ _ _ _ _ _ _ _ _ _ _ _ _ _ _ _ _ _ _ _ _ _ _ _ _ _ _ _ _ _ _ _ _ _ _ _ _ _ _ _ _ _ _ _ _ _ _ _ _ _ _ _ _ _ _ _ _ _ _ _ _ _ _ _ _ _ _ _ _ _ _ _ _ _ _ _ _ _ _ _ _ _ _ _ _ _ _ _ _ _ _ _ _ _ _ b8
  have B8 := B7.trans (b8.mono B7.size)
  have g0 := (b8.block _ hA7).trans g0
  have g2 := (b8.block _ hK7).trans g2
  have f8 := (b8.block _ hF7).trans f7
  have hrow := hrow.below b8 (Nat.le_refl _)
  cases hcan : canB s b with
  | false =>
    exact first_cannot w w8 B8 s (firstR s b) w.heap.size K F (optL k s b).length ao c false rfl (fun hm h0 => hf.more hm (List.length_eq_zero_iff.1 h0)) g2 f8 (optL k s b) hrow rfl (hf.not hcan) _ _ _ _ _ _ _ _ _ _ _ _ _ _ _ _ _ _ _ _ _ _ _ _ _ _ _ _ _ _ _ _ _ _ _ _ _ _ _ _ _ _ _ _ _ _ _ _ _ _ _ _ _ _ _ _ _ _ _ _ _ _ _ _ _ _ _ _ _ _ _ _ _ _ _ _ _ _ _ _ _ _ _ _ _ _ _ _ _ _ _ _ _ _ _ _ _ _ _ _ _ _ _ _ _ _ _ _ _ _ _ _ _ _ _ _ _ _ _ _ _ _ _ _ _ _ _ _ _ _ _ _ _ _ _ _ _ _ _ _ _ _ _ _ _ _ _ _ _ _ _ _ _ _ _ _ _ _ _ _ _ _ _ _ _ _ _ _ _ _ _ _ _ _ _ _ _ _ _ _ _ _ _ _ _ _ _ _ _ _ _ _ _ _ _ _ _ _ _ _ _ _ _ _
  | true =>
    obtain ⟨h0, hp, hfm, hsg⟩ := hf.can hcan
    refine first_end w w8 B8 s (firstR s b) ws hsz w.heap.size K F (optL k s b).length ao c true rfl g0 g2 f8 (optL k s b) hrow rfl h0 ?_ _ _ _ _ _ _ _ _ _ _ _ _ _ _ _ _ _ _ _ _ _ _ _ _ _ _ _ _ _ _ _ _ _ _ _ _ _ _ _ _ _ _ _ _ _ _ _ _ _ _ _ _ _ _ _ _ _ _ _ _ _ _ _ _ _ _ _ _ _ _ _ _ _ _ _ _ _ _ _ _ _ _ _ _ _ _ _ _ _ _ _ _ _ _ _ _ _ _ _ _ _ _ _ _ _ _ _ _ _ _ _ _ _ _ _ _ _ _ _ _ _ _ _ _ _ _ _ _ _ _ _ _ _ _ _ _ _ _ _ _ _ _ _ _ _ _ _ _ _ _ _ _ _ _ _ _ _ _ _ _ _ _ _ _ _ _ _ _ _ _ _ _ _ _ _ _ _ _ _ _ _ _ _ _ _ _ _ _ _ _ _ _ _ _ _ _ _ _ _ _ _ _ _ _
    intro m
    obtain ⟨c1, c2⟩ := cost_own (s := s) (r := firstR s b) hk hs hfm hsg
    have BW := below_drewN B8 m
    have := (hW.below BW (Nat.le_refl _)).cost (hE.below BW) s.id (firstR s b)
    rw [c1, c2, hp] at this
    exact this
end Go.Proofs.YtggcbblikgankaaDoor
end
