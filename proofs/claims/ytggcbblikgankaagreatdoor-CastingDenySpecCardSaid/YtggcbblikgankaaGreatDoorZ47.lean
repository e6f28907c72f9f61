/- Contracts and plain laws on the way to the statement: part 47. -/
import Derived.Test.YtggcbblikgankaaGreatDoorZ46
set_option linter.unusedVariables false
set_option linter.unusedSimpArgs false
section
namespace Go.Proofs.YtggcbblikgankaaGreatDoor
open Go Go.RowKit Go.Deep
def caseWs (R T S : Nat) : Array Value := #[.int .i64 9, .int .i64 9, .int .i64 1, .int .i64 0, .int .i64 1, .slice (some ⟨R, 0, none⟩) 2 2, .int .i64 1, .slice (some ⟨T, 0, none⟩) 1 1, .slice none 0 0, .slice none 0 0, .slice (some ⟨S, 0, none⟩) 2 2]
abbrev caseRs : Array Value := #[.string ⟨#[]⟩, .int .i64 0, .int .i64 0, .int .i64 0, .string ⟨#[]⟩, .int .i64 0, .int .i64 0, .int .i64 0]
abbrev caseSs : Array Value := #[.int .i64 2, .int .i64 0, .int .i64 0, .int .i64 2, .int .i64 1, .int .i64 1, .int .i64 1, .int .i64 0, .int .i64 3, .int .i64 0, .int .i64 0, .int .i64 1, .int .i64 1, .int .i64 1, .int .i64 3, .int .i64 0, .int .i64 0, .int .i64 1, .int .i64 2, .int .i64 0, .int .i64 1, .int .i64 0, .int .i64 2, .int .i64 0, .int .i64 0, .int .i64 1, .int .i64 1, .int .i64 1]
abbrev caseAc : Array Value := #[.string ⟨#[97]⟩, .int .i64 50, .int .i64 0, .int .i64 1, .int .i64 2, .int .i64 2, .int .i64 1, .int .i64 1, .int .i64 1, .int .i64 9, .int .i64 9, .int .i64 9, .int .i64 3, .int .i64 3, .int .i64 3, .int .i64 0, .int .i64 0]
theorem case_at {W : World} {R T S : Nat} (hR : W.heap[R]? = some (.cells caseRs 86 (0, 0))) (hT : W.heap[T]? = some (.cells #[.int .i64 0, .int .i64 9, .int .i64 0] 88 (0, 0))) (hS : W.heap[S]? = some (.cells caseSs 72 (0, 0))) : WkAt caseW (caseWs R T S) W :=
 ⟨some ⟨R, 0, none⟩, some ⟨T, 0, none⟩, none, none, some ⟨S, 0, none⟩, 2, 1, 0, 0, 2, rfl,
  isRow_block (enc := encR) (k := 4) (xs := caseW.roles) encR_len hR rfl (by decide) rfl, isRow_block (enc := encT) (k := 3) (xs := caseW.clock.tempos) encT_len hT rfl (by decide) rfl, IsRow.nil, IsRow.nil, isRow_block (enc := encS) (k := 14) (xs := caseW.signs) encS_len hS rfl (by decide) rfl⟩
theorem set_at {w : World} {g : Nat} {cs : Array Value} {t : TypeId} (h : w.heap[g]? = some (.cells cs t (0, 0))) (i : Nat) (v : Value) : ∃ w', w.setCell ⟨g, i, none⟩ v = w' ∧ w'.heap[g]? = some (.cells (cs.setIfInBounds i v) t (0, 0)) ∧ (∀ q, q ≠ g → w'.heap[q]? = w.heap[q]?) ∧ (∀ B w0, Below B w0 w → B ≤ g → Below B w0 w') ∧ w'.heap.size = w.heap.size := by
 refine ⟨_, rfl, ?_, fun q hq => Below.heap_setCell _ _ _ _ hq, fun B w0 hb hg => hb.setCell (p := ⟨g, i, none⟩) hg v, ?_⟩
 ·simp only [World.setCell, Array.getElem?_modify, h, if_true, Option.map_some]
  simp
 ·simp [World.setCell]
theorem costs_case (R T S g : Nat) (W : World) (hE : Env W) (hz : 2 ≤ W.heap.size) (hR : W.heap[R]? = some (.cells caseRs 86 (0, 0))) (hT : W.heap[T]? = some (.cells #[.int .i64 0, .int .i64 9, .int .i64 0] 88 (0, 0))) (hS : W.heap[S]? = some (.cells caseSs 72 (0, 0))) (hg : W.heap[g]? = some (.cells (bodCells caseA ++ bodCells caseB) 35 (0, 0))) :
  Calls Tryz.prog 16 #[.agg (caseWs R T S), .slice (some ⟨g, 0, none⟩) 2 2] W fun e w' => ∃ ao c, e = .returned (.tuple #[.slice ao 2 c, .int .i64 0]) ∧ IsMat w' (.slice ao 2 c) [[16, -1], [0, 0]] ∧ Below W.heap.size W w' := by
 refine (costs_any caseW [caseA, caseB] 2 rfl (by intro b hb; simp at hb; rcases hb with rfl | rfl <;> decide) (caseWs R T S) _ 2 W hE hz (case_at hR hT hS) (isRow_block (enc := encB) (k := 17) (xs := [caseA, caseB]) encB_len hg rfl (by decide) rfl)).mono ?_
 rintro e w' ⟨hb, ⟨h1, _⟩ | ⟨_, v, hs, rfl, hr⟩⟩
 ·exact absurd case_right h1
 ·rw [case_costs] at hr
  have hm := hr.mat
  obtain ⟨ao, c, e3⟩ := hm.form
  have e4 : v = .slice ao 2 c := e3
  subst e4
  exact ⟨ao, c, rfl, hm, hb⟩
noncomputable def part30n12 : Code := lastPart 3 part30n9
noncomputable def part30n15 : Code := lastPart 3 part30n12
set_option maxRecDepth 100000 in
set_option maxHeartbeats 16000000 in
theorem sane_build (w : World) (g : Nat) (a2 : Option Addr) (c2 : Nat) (a12 : Option Addr) (c12 U V : Nat) (R : Ending → World → Prop) (X : Code) (e9 e15 e22 e23 e26 e27 e28 e29 e30 e31 e32 e33 e34 e35 e36 e37 e38 e39 e40 e41 e42 e43 e44 e45 e46 e47 e48 e49 e50 e51 e52 e53 e54 e55 e56 e57 e58 e59 e60 e61 e62 e63 e64 e65 e66 e67 e68 e69 e70 e71 e72 e73 e74 e75 e76 e77 e78 e79 e80 e81 e82 e83 e84 e85 e86 e87 e88 e89 e90 e91 e92 e93 e94 e95 e96 e97 e98 e99 e100 e101 e102 e103 e104 e105 e106 e107 e108 e109 e110 e111 e112 e113 e114 e115 e116 e117 e118 e119 e120 e121 e122 e123 e124 e125 e126 e127 e128 e129 e130 e131 e132 e133 e134 e135 e136 e137 e138 e139 e140 e141 e142 e143 e144 e145 e146 e147 e148 e149 e150 e151 e152 e153 e154 e155 e156 e157 e158 e159 e160 e161 e162 e163 e164 e165 e166 e167 e168 e169 e170 e171 e172 e173 e174 e175 e176 e177 e178 e179 e180 e181 e182 e183 e184 e185 e186 e187 e188 e189 e190 e191 e192 e193 e194 e195 e196 e197 e198 e199 e200 e201 e202 e203 e204 e205 e206 e207 e208 e209 e210 e211 e212 e213 e214 e215 e216 e217 e218 e219 : Value)
  (hX : ∀ (W : World) (K : Nat) (f87 f88 f89 f90 f91 f92 f93 f94 f95 f96 f97 f98 f99 f100 f101 f102 f103 f104 f105 f106 f107 f108 f109 f110 f111 f112 f113 f114 f115 f116 f117 f118 f119 f120 f121 f122 f123 f124 f125 f126 f127 f128 f129 f130 f131 f132 f133 f134 f135 f136 f137 f138 f139 f140 f141 f142 f143 f144 f145 f146 f147 f148 f149 f150 f151 f152 f153 f154 f155 f156 : Value), Below w.heap.size w W → (w.heap.size ≤ K ∧ W.heap.size = K + 5) → W.heap[K]? = some (.cells caseRs 86 (0, 0)) → W.heap[K + 1]? = some (.cells #[.int .i64 0, .int .i64 9, .int .i64 0] 88 (0, 0)) → W.heap[K + 2]? = some (.cells caseSs 72 (0, 0)) → W.heap[K + 3]? = some (.cells (caseWs K (K + 1) (K + 2)) 32 (0, 0)) → W.heap[K + 4]? = some (.cells caseAc 35 (0, 0)) → Code.wp Tryz.prog X (bodyPost Tryz.prog Tryz.f14 R) { tmps := #[.bool false, .slice (some ⟨g, 0, none⟩) 2 2, .slice a2 2 c2, .int .i64 3, .bool true, .int .i64 0, .int .i64 3, .bool true, .int .i64 0, e9, .bool false, .int .i64 0, .slice a12 2 c12, .bool true, .int .i64 0, e15, .bool false, .int .i64 0, .slice (some ⟨U, 0, none⟩) 2 2, .slice (some ⟨V, 0, none⟩) 2 2, .bool true, .int .i64 0, e22, e23, .bool false, .int .i64 0, .pointer (some ⟨K + 3, 0, none⟩), .pointer (some ⟨K + 4, 0, none⟩), e28, e29, e30, e31, e32, e33, e34, e35, e36, e37, e38, e39, e40, e41, e42, e43, e44, e45, e46, e47, e48, e49, e50, e51, e52, e53, e54, e55, e56, e57, e58, e59, e60, e61, e62, e63, e64, e65, e66, e67, e68, e69, e70, e71, e72, e73, e74, e75, e76, e77, e78, e79, e80, e81, e82, e83, e84, e85, e86, f87, f88, f89, f90, f91, f92, f93, f94, f95, f96, f97, f98, f99, f100, f101, f102, f103, f104, f105, f106, f107, f108, f109, f110, f111, f112, f113, f114, f115, f116, f117, f118, f119, f120, f121, f122, f123, f124, f125, f126, f127, f128, f129, f130, f131, f132, f133, f134, f135, f136, f137, f138, f139, f140, f141, f142, f143, f144, f145, f146, f147, f148, f149, f150, f151, f152, f153, f154, f155, f156, e157, e158, e159, e160, e161, e162, e163, e164, e165, e166, e167, e168, e169, e170, e171, e172, e173, e174, e175, e176, e177, e178, e179, e180, e181, e182, e183, e184, e185, e186, e187, e188, e189, e190, e191, e192, e193, e194, e195, e196, e197, e198, e199, e200, e201, e202, e203, e204, e205, e206, e207, e208, e209, e210, e211, e212, e213, e214, e215, e216, e217, e218, e219], defers := [] } W) :
  Code.wp Tryz.prog (withLast 3 part30n9 X) (bodyPost Tryz.prog Tryz.f14 R) { tmps := #[.bool false, .slice (some ⟨g, 0, none⟩) 2 2, .slice a2 2 c2, .int .i64 3, .bool true, .int .i64 0, .int .i64 3, .bool true, .int .i64 0, e9, .bool false, .int .i64 0, .slice a12 2 c12, .bool true, .int .i64 0, e15, .bool false, .int .i64 0, .slice (some ⟨U, 0, none⟩) 2 2, .slice (some ⟨V, 0, none⟩) 2 2, .bool true, .int .i64 0, e22, e23, .bool false, .int .i64 0, e26, e27, e28, e29, e30, e31, e32, e33, e34, e35, e36, e37, e38, e39, e40, e41, e42, e43, e44, e45, e46, e47, e48, e49, e50, e51, e52, e53, e54, e55, e56, e57, e58, e59, e60, e61, e62, e63, e64, e65, e66, e67, e68, e69, e70, e71, e72, e73, e74, e75, e76, e77, e78, e79, e80, e81, e82, e83, e84, e85, e86, e87, e88, e89, e90, e91, e92, e93, e94, e95, e96, e97, e98, e99, e100, e101, e102, e103, e104, e105, e106, e107, e108, e109, e110, e111, e112, e113, e114, e115, e116, e117, e118, e119, e120, e121, e122, e123, e124, e125, e126, e127, e128, e129, e130, e131, e132, e133, e134, e135, e136, e137, e138, e139, e140, e141, e142, e143, e144, e145, e146, e147, e148, e149, e150, e151, e152, e153, e154, e155, e156, e157, e158, e159, e160, e161, e162, e163, e164, e165, e166, e167, e168, e169, e170, e171, e172, e173, e174, e175, e176, e177, e178, e179, e180, e181, e182, e183, e184, e185, e186, e187, e188, e189, e190, e191, e192, e193, e194, e195, e196, e197, e198, e199, e200, e201, e202, e203, e204, e205, e206, e207, e208, e209, e210, e211, e212, e213, e214, e215, e216, e217, e218, e219], defers := [] } w := by
 have HX := Lib.hid hX
 clear hX
 unfold part30n9 code30
 conv => arg 2; whnf
 go_wp2_with fail
 obtain ⟨V1, d1, g1, b1, s1⟩ := mk_blk w (.cells caseRs 86)
 obtain ⟨V2, d2, g2, b2, s2⟩ := mk_blk V1 (.cells #[.int .i64 0, .int .i64 9, .int .i64 0] 88)
 obtain ⟨V3, d3, g3, b3, s3⟩ := mk_blk V2 (.cells caseSs 72)
 obtain ⟨V4, d4, g4, b4, s4⟩ := mk_blk V3 (.cells (caseWs w.heap.size (w.heap.size + 1) (w.heap.size + 1 + 1)) 32)
 obtain ⟨V5, d5, g5, b5, s5⟩ := mk_blk V4 (.cells caseAc 35)
 have t2 : V2.heap.size = w.heap.size + 1 + 1 := by omega
 have t3 : V3.heap.size = w.heap.size + 1 + 1 + 1 := by omega
 have t4 : V4.heap.size = w.heap.size + 1 + 1 + 1 + 1 := by omega
 rw [s1] at g2 b2
 rw [t2] at g3 b3
 rw [t3] at g4 b4
 rw [t4] at g5 b5
 have hB5 : Below w.heap.size w V5 := (((b1.trans (b2.mono (by omega))).trans (b3.mono (by omega))).trans (b4.mono (by omega))).trans (b5.mono (by omega))
 have G1 := Lib.hid ((b5.block _ (by omega)).trans ((b4.block _ (by omega)).trans ((b3.block _ (by omega)).trans ((b2.block _ (by omega)).trans g1)))); have G2 := Lib.hid ((b5.block _ (by omega)).trans ((b4.block _ (by omega)).trans ((b3.block _ (by omega)).trans g2))); have G3 := Lib.hid ((b5.block _ (by omega)).trans ((b4.block _ (by omega)).trans g3)); have G4 := Lib.hid ((b5.block _ (by omega)).trans g4); have G5 := Lib.hid g5; have HB5 := Lib.hid hB5
 have T5 := Lib.hid (show V5.heap.size = w.heap.size + 5 by omega)
 have D5 := Lib.hid d5
 clear g1 g2 g3 g4 g5 b1 b2 b3 b4 b5 s2 s3 s4 s5 hB5 d5
 unfold caseWs at d4
 conv => arg 2; whnf
 go_wp2_with fail
 conv => arg 2; whnf
 go_wp2_with fail
 have hd5 := D5.out
 unfold caseAc at hd5
 rw [hd5]
 exact HX.out V5 w.heap.size _ _ _ _ _ _ _ _ _ _ _ _ _ _ _ _ _ _ _ _ _ _ _ _ _ _ _ _ _ _ _ _ _ _ _ _ _ _ _ _ _ _ _ _ _ _ _ _ _ _ _ _ _ _ _ _ _ _ _ _ _ _ _ _ _ _ _ _ _ _ HB5.out ⟨Nat.le_refl _, T5.out⟩ G1.out G2.out G3.out G4.out G5.out
end Go.Proofs.YtggcbblikgankaaGreatDoor
end
