/- The walk of the statement: part 2. -/
import Derived.Test.YtggcbblikgankaaDoorYX22p1
import Derived.Test.YtggcbblikgankaaDoorZ33
set_option linter.unusedVariables false
set_option linter.unusedSimpArgs false
section
/- OptionsAll: the limb, and the parts of a round. -/
namespace Go.Proofs.YtggcbblikgankaaDoor
open Go Go.RowKit

def blkC : Code → Code | .block _ c => c | c => c
def lopC : Code → Code | .loop c => c | c => c
def fstC : Code → Code | .seq a _ => a | c => c
def sndC : Code → Code | .seq _ b => b | c => c
noncomputable def part3n6 : Code := lastPart 6 code3
noncomputable def part3n8 : Code := lastPart 8 code3
noncomputable def part3n10 : Code := lastPart 10 code3
/-- The round of the outer loop, of the inner loop. -/
noncomputable def loop3a : Code := lopC (blkC (sndC (fstC (lastPart 9 code3))))
noncomputable def loop3b : Code := lopC (blkC (sndC (blkC (fstC (sndC loop3a)))))
noncomputable def body3 : Code := blkC (fstC (sndC loop3b))
noncomputable def body3n4 : Code := lastPart 4 body3
noncomputable def body3n5 : Code := lastPart 5 body3
noncomputable def body3n7 : Code := lastPart 7 body3
noncomputable def body3n8 : Code := lastPart 8 body3

def limbI (k : Int) : Int := if k = 3 then 0 else if k = 4 then 1 else if k = 5 then 2 else -1
def limbKV : List (Int × Value) := [(3, .int .i64 1), (4, .int .i64 2), (5, .int .i64 3)]
theorem limbKV_get (m : Int) : (kvGet limbKV m).getD (.int .i64 0) = .int .i64 (limbI m + 1) := by
  unfold limbI
  by_cases h3 : m = 3
  · subst h3; rfl
  by_cases h2 : m = 4
  · subst h2; rfl
  by_cases h1 : m = 5
  · subst h1; rfl
  · rw [if_neg h3, if_neg h2, if_neg h1]
    have : kvGet limbKV m = none := by
      unfold kvGet limbKV
      have e3 : ((3 : Int) == m) = false := by simpa using fun e => h3 e.symm
      have e2 : ((4 : Int) == m) = false := by simpa using fun e => h2 e.symm
      have e1 : ((5 : Int) == m) = false := by simpa using fun e => h1 e.symm
      simp [e3, e2, e1]
    rw [this]; rfl
theorem limbI_vals (m : Int) : limbI m = -1 ∨ limbI m = 0 ∨ limbI m = 1 ∨ limbI m = 2 := by
  unfold limbI
  by_cases h3 : m = 3
  · rw [if_pos h3]; exact Or.inr (Or.inl rfl)
  rw [if_neg h3]
  by_cases h4 : m = 4
  · rw [if_pos h4]; exact Or.inr (Or.inr (Or.inl rfl))
  rw [if_neg h4]
  by_cases h5 : m = 5
  · rw [if_pos h5]; exact Or.inr (Or.inr (Or.inr rfl))
  rw [if_neg h5]; exact Or.inl rfl
set_option maxRecDepth 100000 in
set_option maxHeartbeats 8000000 in
theorem all_limb (s : Sgn) (vl : Value) (w3 : World) (A K : Nat) (hk : w3.heap[K]? = some (.cells (sgnA s) 41 (0, 0))) (e0 e1 e2 e4 e6 e8 e10 e11 e12 e13 e14 e15 e16 e17 e18 e19 e20 e21 e22 e23 e24 e25 e26 e27 e28 e29 e30 e31 e32 e33 e34 e35 e36 e37 e38 e39 e40 e41 e42 e43 e44 e45 e46 e47 e48 e49 e50 e51 e52 e53 e54 e55 e56 e57 e58 e59 e60 e61 e62 e63 e64 e65 e66 e67 e68 e69 e70 e71 e72 e73 e74 e75 e76 e77 e78 e79 e80 e81 e82 e83 e84 e85 e86 e87 e88 e89 e90 e91 e92 e93 e94 e95 e96 e97 e98 e99 e100 e101 e102 e103 e104 e105 e106 e107 e108 e109 e110 e111 e112 e113 e114 e115 e116 e117 e118 e119 e120 e121 e122 e123 e124 e125 e126 e127 e128 e129 e130 e131 e132 e133 e134 e135 e136 e137 e138 e139 e140 e141 e142 e143 e144 e145 e146 e147 e148 e149 e150 e151 e152 e153 e154 e155 e156 e157 e158 e159 e160 e161 e162 e163 e164 e165 e166 e167 e168 e169 e170 e171 e172 e173 e174 e175 e176 e177 e178 e179 e180 e181 e182 e183 e184 e185 e186 e187 e188 : Value) (R : Ending → World → Prop) (X : Code)
    (hT : ∀ w', Below w3.heap.size w3 w' → R (.returned (.bool true)) w')
    (hX : 0 ≤ limbI s.kind → ∀ (w4 : World) (e0 e1 e2 e4 e6 e8 e10 e12 e13 e14 e15 e16 e17 e18 e19 e20 e21 e22 e23 e24 e25 e26 e27 e28 e29 e30 e31 e32 e33 e34 e35 e36 e37 e38 e39 e40 e41 e42 e43 e44 e45 e46 e47 e48 e49 e50 e51 e52 e53 e54 e55 e56 e57 e58 e59 e60 e61 e62 e63 e64 e65 e66 e67 e68 e69 e70 e71 e72 e73 e74 e75 e76 e77 e78 e79 e80 e81 e82 e83 e84 e85 e86 e87 e88 e89 e90 e91 e92 e93 e94 e95 e96 e97 e98 e99 e100 e101 e102 e103 e104 e105 e106 e107 e108 e109 e110 e111 e112 e113 e114 e115 e116 e117 e118 e119 e120 e121 e122 e123 e124 e125 e126 e127 e128 e129 e130 e131 e132 e133 e134 e135 e136 e137 e138 e139 e140 e141 e142 e143 e144 e145 e146 e147 e148 e149 e150 e151 e152 e153 e154 e155 e156 e157 e158 e159 e160 e161 e162 e163 e164 e165 e166 e167 e168 e169 e170 e171 e172 e173 e174 e175 e176 e177 e178 e179 e180 e181 e182 e183 e184 e185 e186 e187 e188 : Value), Below w3.heap.size w3 w4 → Code.wp Tryd.prog X (bodyPost Tryd.prog Tryd.f3 R) { tmps := #[e0, e1, e2, .pointer (some ⟨A, 0, none⟩), e4, .pointer (some ⟨A + 1, 0, none⟩), e6, .pointer (some ⟨K, 0, none⟩), e8, vl, e10, .int .i64 (limbI s.kind), e12, e13, e14, e15, e16, e17, e18, e19, e20, e21, e22, e23, e24, e25, e26, e27, e28, e29, e30, e31, e32, e33, e34, e35, e36, e37, e38, e39, e40, e41, e42, e43, e44, e45, e46, e47, e48, e49, e50, e51, e52, e53, e54, e55, e56, e57, e58, e59, e60, e61, e62, e63, e64, e65, e66, e67, e68, e69, e70, e71, e72, e73, e74, e75, e76, e77, e78, e79, e80, e81, e82, e83, e84, e85, e86, e87, e88, e89, e90, e91, e92, e93, e94, e95, e96, e97, e98, e99, e100, e101, e102, e103, e104, e105, e106, e107, e108, e109, e110, e111, e112, e113, e114, e115, e116, e117, e118, e119, e120, e121, e122, e123, e124, e125, e126, e127, e128, e129, e130, e131, e132, e133, e134, e135, e136, e137, e138, e139, e140, e141, e142, e143, e144, e145, e146, e147, e148, e149, e150, e151, e152, e153, e154, e155, e156, e157, e158, e159, e160, e161, e162, e163, e164, e165, e166, e167, e168, e169, e170, e171, e172, e173, e174, e175, e176, e177, e178, e179, e180, e181, e182, e183, e184, e185, e186, e187, e188], defers := [] } w4) :
    Code.wp Tryd.prog (withLast 2 part3n6 X) (bodyPost Tryd.prog Tryd.f3 R) { tmps := #[e0, e1, e2, .pointer (some ⟨A, 0, none⟩), e4, .pointer (some ⟨A + 1, 0, none⟩), e6, .pointer (some ⟨K, 0, none⟩), e8, vl, e10, e11, e12, e13, e14, e15, e16, e17, e18, e19, e20, e21, e22, e23, e24, e25, e26, e27, e28, e29, e30, e31, e32, e33, e34, e35, e36, e37, e38, e39, e40, e41, e42, e43, e44, e45, e46, e47, e48, e49, e50, e51, e52, e53, e54, e55, e56, e57, e58, e59, e60, e61, e62, e63, e64, e65, e66, e67, e68, e69, e70, e71, e72, e73, e74, e75, e76, e77, e78, e79, e80, e81, e82, e83, e84, e85, e86, e87, e88, e89, e90, e91, e92, e93, e94, e95, e96, e97, e98, e99, e100, e101, e102, e103, e104, e105, e106, e107, e108, e109, e110, e111, e112, e113, e114, e115, e116, e117, e118, e119, e120, e121, e122, e123, e124, e125, e126, e127, e128, e129, e130, e131, e132, e133, e134, e135, e136, e137, e138, e139, e140, e141, e142, e143, e144, e145, e146, e147, e148, e149, e150, e151, e152, e153, e154, e155, e156, e157, e158, e159, e160, e161, e162, e163, e164, e165, e166, e167, e168, e169, e170, e171, e172, e173, e174, e175, e176, e177, e178, e179, e180, e181, e182, e183, e184, e185, e186, e187, e188], defers := [] } w3 := by
  have c4 : w3.cell? ⟨K, 4, none⟩ = some (.int .i64 s.kind) := cell_at hk 4 rfl
  have hK : K < w3.heap.size := (Array.getElem?_eq_some_iff.1 hk).1
  have HX := Lib.hid hX; have HT := Lib.hid hT
  clear hX hT hk
  unfold part3n6 code3
  conv => arg 2; whnf
  simp only [withLast]
  have hmm := @run_makeMap Tryd.prog
  have hm0 := MapAt.new w3
  have hbl : Below w3.heap.size w3 (w3.alloc (.map #[] 0)) := (Below.refl _ _).alloc (Nat.le_refl _) _
  obtain ⟨W1, u1, hm1, bb1, _, _⟩ := update_kv (P := Tryd.prog) (T := 51) Tryd.underlying51 Tryd.underlying3 hm0 List.nodup_nil 3 (.int .i64 1)
  rw [kvPut_new rfl] at hm1
  have hb1 := hbl.trans bb1
  obtain ⟨W2, u2, hm2, bb2, _, _⟩ := update_kv (P := Tryd.prog) (T := 51) Tryd.underlying51 Tryd.underlying3 hm1 (by unfold KeysApart; simp) 4 (.int .i64 2)
  rw [kvPut_new rfl] at hm2
  have hb2 := hb1.trans bb2
  obtain ⟨W3, u3, hm3, bb3, _, _⟩ := update_kv (P := Tryd.prog) (T := 51) Tryd.underlying51 Tryd.underlying3 hm2 (by unfold KeysApart; simp) 5 (.int .i64 3)
  rw [kvPut_new rfl] at hm3
  have hb3 := hb2.trans bb3
  have d4 := (hb3.cell (p := ⟨K, 4, none⟩) hK).trans c4
  have u4 := run_lookup_kv (P := Tryd.prog) (T := 51) Tryd.underlying51 Tryd.underlying3 hm3 s.kind (Tryd.zeroValue3 _) false
  have hg : (kvGet ([] ++ [(3, Value.int .i64 1)] ++ [(4, .int .i64 2)] ++ [(5, .int .i64 3)]) s.kind).getD (.int .i64 0) = .int .i64 (limbI s.kind + 1) := limbKV_get s.kind
  rw [hg] at u4
  have HB := Lib.hid hb3
  clear hm0 hm1 hm2 hm3 hbl hb1 hb2 hb3 hg bb1 bb2 bb3 c4
  rcases limbI_vals s.kind with h | h | h | h
  · rw [h] at u4 HX
    clear h
    go_wp2_with fail
    first | exact HT.out _ HB.out | (go_ret; exact HT.out _ HB.out)
  all_goals
    rw [h] at u4 HX
    clear h
    go_wp2_with fail
    exact HX.out (by decide) _ _ _ _ _ _ _ _ _ _ _ _ _ _ _ _ _ _ _ _ _ _ _ _ _ _ _ _ _ _ _ _ _ _ _ _ _ _ _ _ _ _ _ _ _ _ _ _ _ _ _ _ _ _ _ _ _ _ _ _ _ _ _ _ _ _ _ _ _ _ _ _ _ _ _ _ _ _ _ _ _ _ _ _ _ _ _ _ _ _ _ _ _ _ _ _ _ _ _ _ _ _ _ _ _ _ _ _ _ _ _ _ _ _ _ _ _ _ _ _ _ _ _ _ _ _ _ _ _ _ _ _ _ _ _ _ _ _ _ _ _ _ _ _ _ _ _ _ _ _ _ _ _ _ _ _ _ _ _ _ _ _ _ _ _ _ _ _ _ _ _ _ _ _ _ _ _ _ _ _ _ _ _ _ _ HB.out
set_option maxRecDepth 100000 in
set_option maxHeartbeats 8000000 in
theorem all_dot (s : Sgn) (d v : Nat) (hs : 0 ≤ s.dir ∧ s.dir ≤ 8) (hl : 1 ≤ s.level ∧ s.level ≤ 3) (hd : d ≤ 8) (hv : 1 ≤ v ∧ v ≤ 3) (vl : Value) (A K : Nat) (lm many : Int) (w : World) (hE : Env w) (hw : 2 ≤ w.heap.size) (hk : w.heap[K]? = some (.cells (sgnA s) 41 (0, 0))) (e0 e1 e2 e4 e6 e8 e10 e15 e16 e17 e18 e19 e20 e21 e22 e23 e24 e25 e26 e27 e28 e29 e30 e31 e32 e33 e34 e35 e36 e37 e38 e39 e40 e41 e42 e43 e44 e45 e46 e47 e48 e49 e50 e51 e52 e53 e54 e55 e56 e57 e58 e59 e60 e61 e62 e63 e64 e65 e66 e67 e68 e69 e70 e71 e72 e73 e74 e75 e76 e77 e78 e79 e80 e81 e82 e83 e84 e85 e86 e87 e88 e89 e90 e91 e92 e93 e94 e95 e96 e97 e98 e99 e100 e101 e102 e103 e104 e105 e106 e107 e108 e109 e110 e111 e112 e113 e114 e115 e116 e117 e118 e119 e120 e121 e122 e123 e124 e125 e126 e127 e128 e129 e130 e131 e132 e133 e134 e135 e136 e137 e138 e139 e140 e141 e142 e143 e144 e145 e146 e147 e148 e149 e150 e151 e152 e153 e154 e155 e156 e157 e158 e159 e160 e161 e162 e163 e164 e165 e166 e167 e168 e169 e170 e171 e172 e173 e174 e175 e176 e177 e178 e179 e180 e181 e182 e183 e184 e185 e186 e187 e188 : Value) (Q : Exit → Act → World → Prop) (X : Code)
    (hX : ∀ (w6 : World) (X1 Y1 : Nat) (u16 u18 u20 u21 u22 u75 u76 u77 u78 u79 u80 u81 u82 u83 u84 u85 u86 u87 u88 u89 u90 u91 u92 u93 u94 u95 u96 u97 u98 u99 u100 u101 u102 u103 u104 u105 u106 u107 u108 u109 u110 u111 u112 u113 u114 u115 u116 u117 u118 u119 u120 u121 u122 u123 u124 u125 u126 u127 u128 u129 u130 u131 u132 u133 u134 u135 u136 u137 u138 u139 u140 u141 u142 u143 u144 u145 u146 u147 u148 u149 u150 u151 u152 u153 u154 u155 u156 u157 u158 u159 u160 u161 u162 u163 u164 u165 : Value), Below w.heap.size w w6 → w6.heap[X1]? = some (.cells #[.int .i64 (vecX s.dir s.level), .int .i64 (vecY s.dir s.level), .int .i64 (vecZ s.dir s.level)] 53 (0, 0)) → w6.heap[Y1]? = some (.cells #[.int .i64 (vecX (d : Int) (v : Int)), .int .i64 (vecY (d : Int) (v : Int)), .int .i64 (vecZ (d : Int) (v : Int))] 53 (0, 0)) → Code.wp Tryd.prog X Q { tmps := #[e0, e1, e2, .pointer (some ⟨A, 0, none⟩), e4, .pointer (some ⟨A + 1, 0, none⟩), e6, .pointer (some ⟨K, 0, none⟩), e8, vl, e10, .int .i64 lm, .int .i64 many, .int .i64 (d : Nat), .int .i64 (v : Nat), .pointer (some ⟨X1, 0, none⟩), u16, .pointer (some ⟨Y1, 0, none⟩), u18, .int .i64 (dotI s.dir s.level d v), u20, u21, u22, e23, e24, e25, e26, e27, e28, e29, e30, e31, e32, e33, e34, e35, e36, e37, e38, e39, e40, e41, e42, e43, e44, e45, e46, e47, e48, e49, e50, e51, e52, e53, e54, e55, e56, e57, e58, e59, e60, e61, e62, e63, e64, e65, e66, e67, e68, e69, e70, e71, e72, e73, e74, u75, u76, u77, u78, u79, u80, u81, u82, u83, u84, u85, u86, u87, u88, u89, u90, u91, u92, u93, u94, u95, u96, u97, u98, u99, u100, u101, u102, u103, u104, u105, u106, u107, u108, u109, u110, u111, u112, u113, u114, u115, u116, u117, u118, u119, u120, u121, u122, u123, u124, u125, u126, u127, u128, u129, u130, u131, u132, u133, u134, u135, u136, u137, u138, u139, u140, u141, u142, u143, u144, u145, u146, u147, u148, u149, u150, u151, u152, u153, u154, u155, u156, u157, u158, u159, u160, u161, u162, u163, u164, u165, e166, e167, e168, e169, e170, e171, e172, e173, e174, e175, e176, e177, e178, e179, e180, e181, e182, e183, e184, e185, e186, e187, e188], defers := [] } w6) :
    Code.wp Tryd.prog (withLast 4 body3 X) Q { tmps := #[e0, e1, e2, .pointer (some ⟨A, 0, none⟩), e4, .pointer (some ⟨A + 1, 0, none⟩), e6, .pointer (some ⟨K, 0, none⟩), e8, vl, e10, .int .i64 lm, .int .i64 many, .int .i64 (d : Nat), .int .i64 (v : Nat), e15, e16, e17, e18, e19, e20, e21, e22, e23, e24, e25, e26, e27, e28, e29, e30, e31, e32, e33, e34, e35, e36, e37, e38, e39, e40, e41, e42, e43, e44, e45, e46, e47, e48, e49, e50, e51, e52, e53, e54, e55, e56, e57, e58, e59, e60, e61, e62, e63, e64, e65, e66, e67, e68, e69, e70, e71, e72, e73, e74, e75, e76, e77, e78, e79, e80, e81, e82, e83, e84, e85, e86, e87, e88, e89, e90, e91, e92, e93, e94, e95, e96, e97, e98, e99, e100, e101, e102, e103, e104, e105, e106, e107, e108, e109, e110, e111, e112, e113, e114, e115, e116, e117, e118, e119, e120, e121, e122, e123, e124, e125, e126, e127, e128, e129, e130, e131, e132, e133, e134, e135, e136, e137, e138, e139, e140, e141, e142, e143, e144, e145, e146, e147, e148, e149, e150, e151, e152, e153, e154, e155, e156, e157, e158, e159, e160, e161, e162, e163, e164, e165, e166, e167, e168, e169, e170, e171, e172, e173, e174, e175, e176, e177, e178, e179, e180, e181, e182, e183, e184, e185, e186, e187, e188], defers := [] } w := by
  have c6 : w.cell? ⟨K, 6, none⟩ = some (.int .i64 s.dir) := cell_at hk 6 rfl
  have c7 : w.cell? ⟨K, 7, none⟩ = some (.int .i64 s.level) := cell_at hk 7 rfl
  have h1 : vecB s.dir s.level = true := by unfold vecB; rw [inB_iff.2 hs, inB_iff.2 hl]; rfl
  have h2 : vecB d v = true := by unfold vecB; rw [inB_iff.2 (by omega), inB_iff.2 (by omega)]; rfl
  have hin := dot_in (a := s.dir) (l := s.level) (d := d) (v := v) hs hl (by omega) (by omega)
  have hv1 : vecV s.dir s.level = .tuple #[.agg #[.int .i64 (vecX s.dir s.level), .int .i64 (vecY s.dir s.level), .int .i64 (vecZ s.dir s.level)], .int .i64 0] := by unfold vecV; rw [h1]; rfl
  have hv2 : vecV d v = .tuple #[.agg #[.int .i64 (vecX (d : Int) (v : Int)), .int .i64 (vecY (d : Int) (v : Int)), .int .i64 (vecZ (d : Int) (v : Int))], .int .i64 0] := by unfold vecV; rw [h2]; rfl
  obtain ⟨x1, x2, x3⟩ := vec_bd h1
  obtain ⟨y1, y2, y3⟩ := vec_bd h2
  have hd := fun w => sdot_any (vecX s.dir s.level) (vecY s.dir s.level) (vecZ s.dir s.level) (vecX d v) (vecY d v) (vecZ d v) (by omega) (by omega) (by omega) (by omega) (by omega) (by omega) w
  have hdd : dotI s.dir s.level d v = vecX s.dir s.level * vecX d v + vecY s.dir s.level * vecY d v + vecZ s.dir s.level * vecZ d v := rfl
  rw [← hdd] at hd
  have hc1 := fun w (h : Env w) hw => vector_any s.dir s.level w h hw
  have hc2 := fun w (h : Env w) hw => vector_any d v w h hw
  rw [hv1] at hc1
  rw [hv2] at hc2
  clear hdd hv1 hv2 h1 h2 x1 x2 x3 y1 y2 y3 hk hs hl hv
  have HX := Lib.hid hX; clear hX
  generalize dotI s.dir s.level d v = n at *
  generalize vecX s.dir s.level = a at *
  generalize vecY s.dir s.level = b at *
  generalize vecZ s.dir s.level = c at *
  generalize vecX d v = a' at *
  generalize vecY d v = b' at *
  generalize vecZ d v = c' at *
  have HD := Lib.hid hd; have HC1 := Lib.hid hc1; have HC2 := Lib.hid hc2; have HE := Lib.hid hE; have HIN := Lib.hid hin
  clear hd hc1 hc2 hE hin
  unfold body3 loop3b loop3a code3
  conv => arg 2; whnf
  simp only [withLast]
  go_wp2_with fail
  refine (HC1.out w HE.out (by omega)).mono ?_
  rintro e w1 ⟨rfl, b1⟩
  have n1 := heap_alloc_new w1 (.cells #[.int .i64 a, .int .i64 b, .int .i64 c] 53)
  have m1 : Below w.heap.size w (w1.alloc (.cells #[.int .i64 a, .int .i64 b, .int .i64 c] 53)) := b1.alloc b1.size _
  have z1 : w1.heap.size < (w1.alloc (.cells #[.int .i64 a, .int .i64 b, .int .i64 c] 53)).heap.size := by simp
  have s1 := b1.size
  clear c6 c7
  go_wp2_with fail
  generalize w1.alloc (.cells #[.int .i64 a, .int .i64 b, .int .i64 c] 53) = wa at *
  generalize w1.heap.size = g1 at *
  refine (HC2.out wa (HE.out.below m1) (by omega)).mono ?_
  rintro e w2 ⟨rfl, b2⟩
  have s2 := b2.size
  have n2 := (Below.heap_alloc w2 (.cells #[.int .i64 a', .int .i64 b', .int .i64 c'] 53) g1 (by omega)).trans ((b2.block _ z1).trans n1)
  have n3 := heap_alloc_new w2 (.cells #[.int .i64 a', .int .i64 b', .int .i64 c'] 53)
  have m2 : Below w.heap.size w (w2.alloc (.cells #[.int .i64 a', .int .i64 b', .int .i64 c'] 53)) := (m1.trans (b2.mono (by omega))).alloc (by omega) _
  have z2 : w2.heap.size < (w2.alloc (.cells #[.int .i64 a', .int .i64 b', .int .i64 c'] 53)).heap.size := by simp
  have hg2 : g1 < w2.heap.size := by omega
  have N2 := Lib.hid n2; have N3 := Lib.hid n3; have M2 := Lib.hid m2
  clear n1 n2 n3 m1 m2 b1 b2
  go_wp2_with (first | (refine wpList_load_row rfl 53 _ rfl g1 rfl 53 _ (0, 0) _ N2.out Tryd.underlying53 rfl (by kernel_rfl) ?_; simp only [Act.put, List.setIfInBounds_toArray, List.set_cons_zero, List.set_cons_succ]) | (refine wpList_load_row rfl 53 _ rfl w2.heap.size rfl 53 _ (0, 0) _ N3.out Tryd.underlying53 rfl (by kernel_rfl) ?_; simp only [Act.put, List.setIfInBounds_toArray, List.set_cons_zero, List.set_cons_succ]))
  generalize w2.alloc (.cells #[.int .i64 a', .int .i64 b', .int .i64 c'] 53) = wb at *
  generalize w2.heap.size = g2 at *
  refine (HD.out wb).mono ?_
  rintro e w3 ⟨rfl, b3⟩
  have k2 := (b3.block _ (show g1 < wb.heap.size by omega)).trans N2.out
  have k3 := (b3.block _ z2).trans N3.out
  have K2 := Lib.hid k2; have K3 := Lib.hid k3
  have M3 := Lib.hid (M2.out.trans (b3.mono (by omega)))
  clear k2 k3 b3 N2 N3 M2 HC1 HC2 HD HE
  have hi := HIN.out
  have hneg : IntKind.i64.wrap (-n) = -n := IntWalk.i64_in _ (by omega)
  rcases Int.lt_trichotomy n 0 with h | h | h
  · have hmax : (if n < -n then -n else n) = -n := if_pos (by omega)
    have hf : decide (707281 < -n) = false := decide_eq_false (by omega)
    have hg : ¬ 707281 < -n := by omega
    go_wp2_with fail
    exact HX.out _ g1 g2 _ _ _ _ _ _ _ _ _ _ _ _ _ _ _ _ _ _ _ _ _ _ _ _ _ _ _ _ _ _ _ _ _ _ _ _ _ _ _ _ _ _ _ _ _ _ _ _ _ _ _ _ _ _ _ _ _ _ _ _ _ _ _ _ _ _ _ _ _ _ _ _ _ _ _ _ _ _ _ _ _ _ _ _ _ _ _ _ _ _ _ _ _ _ _ _ M3.out K2.out K3.out
  · subst h
    clear hi hneg
    go_wp2_with fail
    exact HX.out _ g1 g2 _ _ _ _ _ _ _ _ _ _ _ _ _ _ _ _ _ _ _ _ _ _ _ _ _ _ _ _ _ _ _ _ _ _ _ _ _ _ _ _ _ _ _ _ _ _ _ _ _ _ _ _ _ _ _ _ _ _ _ _ _ _ _ _ _ _ _ _ _ _ _ _ _ _ _ _ _ _ _ _ _ _ _ _ _ _ _ _ _ _ _ _ _ _ _ _ M3.out K2.out K3.out
  · have hmax : (if n < -n then -n else n) = n := if_neg (by omega)
    have hf : decide (707281 < n) = false := decide_eq_false (by omega)
    have hg : ¬ 707281 < n := by omega
    go_wp2_with fail
    exact HX.out _ g1 g2 _ _ _ _ _ _ _ _ _ _ _ _ _ _ _ _ _ _ _ _ _ _ _ _ _ _ _ _ _ _ _ _ _ _ _ _ _ _ _ _ _ _ _ _ _ _ _ _ _ _ _ _ _ _ _ _ _ _ _ _ _ _ _ _ _ _ _ _ _ _ _ _ _ _ _ _ _ _ _ _ _ _ _ _ _ _ _ _ _ _ _ _ _ _ _ _ M3.out K2.out K3.out
set_option maxRecDepth 100000 in
set_option maxHeartbeats 8000000 in
theorem all_fits (s : Sgn) (d v : Nat) (hs : 0 ≤ s.dir ∧ s.dir ≤ 8) (hl : 1 ≤ s.level ∧ s.level ≤ 3) (hd : d ≤ 8) (hv : 1 ≤ v ∧ v ≤ 3) (vl : Value) (A K X1 Y1 : Nat) (ta tc : Int) (hta : 0 ≤ ta ∧ ta ≤ 32768) (htc : 0 ≤ tc ∧ tc ≤ 32768) (lm many : Int) (w : World) (hk : w.heap[K]? = some (.cells (sgnA s) 41 (0, 0)))
    (c2 : w.cell? ⟨A, 2, none⟩ = some (.int .i64 ta)) (c4 : w.cell? ⟨A, 4, none⟩ = some (.int .i64 tc)) (hx : w.heap[X1]? = some (.cells #[.int .i64 (vecX s.dir s.level), .int .i64 (vecY s.dir s.level), .int .i64 (vecZ s.dir s.level)] 53 (0, 0))) (hy : w.heap[Y1]? = some (.cells #[.int .i64 (vecX (d : Int) (v : Int)), .int .i64 (vecY (d : Int) (v : Int)), .int .i64 (vecZ (d : Int) (v : Int))] 53 (0, 0))) (e0 e1 e2 e4 e6 e8 e10 e16 e18 e20 e21 e22 e23 e24 e25 e26 e27 e28 e29 e30 e31 e32 e33 e34 e35 e36 e37 e38 e39 e40 e41 e42 e43 e44 e45 e46 e47 e48 e49 e50 e51 e52 e53 e54 e55 e56 e57 e58 e59 e60 e61 e62 e63 e64 e65 e66 e67 e68 e69 e70 e71 e72 e73 e74 e75 e76 e77 e78 e79 e80 e81 e82 e83 e84 e85 e86 e87 e88 e89 e90 e91 e92 e93 e94 e95 e96 e97 e98 e99 e100 e101 e102 e103 e104 e105 e106 e107 e108 e109 e110 e111 e112 e113 e114 e115 e116 e117 e118 e119 e120 e121 e122 e123 e124 e125 e126 e127 e128 e129 e130 e131 e132 e133 e134 e135 e136 e137 e138 e139 e140 e141 e142 e143 e144 e145 e146 e147 e148 e149 e150 e151 e152 e153 e154 e155 e156 e157 e158 e159 e160 e161 e162 e163 e164 e165 e166 e167 e168 e169 e170 e171 e172 e173 e174 e175 e176 e177 e178 e179 e180 e181 e182 e183 e184 e185 e186 e187 e188 : Value) (Q : Exit → Act → World → Prop) (X : Code)
    (hX : ∀ (u15 u16 u17 u18 u19 u20 u22 u75 u76 u77 u78 u79 u80 u81 u82 u83 u84 u85 u86 u87 u88 u89 u90 u91 u92 u93 u94 u95 u96 u97 u98 u99 u100 u101 u102 u103 u104 u105 u106 u107 u108 u109 u110 u111 u112 u113 u114 u115 u116 u117 u118 u119 u120 u121 u122 u123 u124 u125 u126 u127 u128 u129 u130 u131 u132 u133 u134 u135 u136 u137 u138 u139 u140 u141 u142 u143 u144 u145 u146 u147 u148 u149 u150 u151 u152 u153 u154 u155 u156 u157 u158 u159 u160 u161 u162 u163 u164 u165 : Value), Code.wp Tryd.prog X Q { tmps := #[e0, e1, e2, .pointer (some ⟨A, 0, none⟩), e4, .pointer (some ⟨A + 1, 0, none⟩), e6, .pointer (some ⟨K, 0, none⟩), e8, vl, e10, .int .i64 lm, .int .i64 many, .int .i64 (d : Nat), .int .i64 (v : Nat), u15, u16, u17, u18, u19, u20, .bool (fitB ta tc s d v), u22, e23, e24, e25, e26, e27, e28, e29, e30, e31, e32, e33, e34, e35, e36, e37, e38, e39, e40, e41, e42, e43, e44, e45, e46, e47, e48, e49, e50, e51, e52, e53, e54, e55, e56, e57, e58, e59, e60, e61, e62, e63, e64, e65, e66, e67, e68, e69, e70, e71, e72, e73, e74, u75, u76, u77, u78, u79, u80, u81, u82, u83, u84, u85, u86, u87, u88, u89, u90, u91, u92, u93, u94, u95, u96, u97, u98, u99, u100, u101, u102, u103, u104, u105, u106, u107, u108, u109, u110, u111, u112, u113, u114, u115, u116, u117, u118, u119, u120, u121, u122, u123, u124, u125, u126, u127, u128, u129, u130, u131, u132, u133, u134, u135, u136, u137, u138, u139, u140, u141, u142, u143, u144, u145, u146, u147, u148, u149, u150, u151, u152, u153, u154, u155, u156, u157, u158, u159, u160, u161, u162, u163, u164, u165, e166, e167, e168, e169, e170, e171, e172, e173, e174, e175, e176, e177, e178, e179, e180, e181, e182, e183, e184, e185, e186, e187, e188], defers := [] } w) :
    Code.wp Tryd.prog (withLast 1 body3n4 X) Q { tmps := #[e0, e1, e2, .pointer (some ⟨A, 0, none⟩), e4, .pointer (some ⟨A + 1, 0, none⟩), e6, .pointer (some ⟨K, 0, none⟩), e8, vl, e10, .int .i64 lm, .int .i64 many, .int .i64 (d : Nat), .int .i64 (v : Nat), .pointer (some ⟨X1, 0, none⟩), e16, .pointer (some ⟨Y1, 0, none⟩), e18, .int .i64 (dotI s.dir s.level d v), e20, e21, e22, e23, e24, e25, e26, e27, e28, e29, e30, e31, e32, e33, e34, e35, e36, e37, e38, e39, e40, e41, e42, e43, e44, e45, e46, e47, e48, e49, e50, e51, e52, e53, e54, e55, e56, e57, e58, e59, e60, e61, e62, e63, e64, e65, e66, e67, e68, e69, e70, e71, e72, e73, e74, e75, e76, e77, e78, e79, e80, e81, e82, e83, e84, e85, e86, e87, e88, e89, e90, e91, e92, e93, e94, e95, e96, e97, e98, e99, e100, e101, e102, e103, e104, e105, e106, e107, e108, e109, e110, e111, e112, e113, e114, e115, e116, e117, e118, e119, e120, e121, e122, e123, e124, e125, e126, e127, e128, e129, e130, e131, e132, e133, e134, e135, e136, e137, e138, e139, e140, e141, e142, e143, e144, e145, e146, e147, e148, e149, e150, e151, e152, e153, e154, e155, e156, e157, e158, e159, e160, e161, e162, e163, e164, e165, e166, e167, e168, e169, e170, e171, e172, e173, e174, e175, e176, e177, e178, e179, e180, e181, e182, e183, e184, e185, e186, e187, e188], defers := [] } w := by
  have c6 : w.cell? ⟨K, 6, none⟩ = some (.int .i64 s.dir) := cell_at hk 6 rfl
  have c7 : w.cell? ⟨K, 7, none⟩ = some (.int .i64 s.level) := cell_at hk 7 rfl
  have hin := dot_in (a := s.dir) (l := s.level) (d := d) (v := v) hs hl (by omega) (by omega)
  obtain ⟨q1, q2⟩ := dotc_bd (a := dotI s.dir s.level d v) (b := tc) (by omega) htc
  have fitD : fitB ta tc s d v = (ownB s d v || (nzB s.dir s.level && nzB d v && decide (ta * 707281 ≤ dotI s.dir s.level d v * tc))) := rfl
  have ownD : ownB s d v = (decide ((d : Int) = s.dir) && decide ((v : Int) = s.level)) := rfl
  have hq1 := fun w => neq_vec (vecX s.dir s.level) (vecY s.dir s.level) (vecZ s.dir s.level) 0 0 0 w
  have hq2 := fun w => neq_vec (vecX d v) (vecY d v) (vecZ d v) 0 0 0 w
  have hn1 : (!(vecX s.dir s.level == 0 && vecY s.dir s.level == 0 && vecZ s.dir s.level == 0)) = nzB s.dir s.level := rfl
  have hn2 : (!(vecX d v == 0 && vecY d v == 0 && vecZ d v == 0)) = nzB d v := rfl
  simp only [hn1] at hq1
  simp only [hn2] at hq2
  clear hk hs hl hd hv hn1 hn2
  generalize dotI s.dir s.level d v = n at *
  generalize vecX s.dir s.level = a at *
  generalize vecY s.dir s.level = b at *
  generalize vecZ s.dir s.level = c at *
  generalize vecX d v = a' at *
  generalize vecY d v = b' at *
  generalize vecZ d v = c' at *
  have W1 : IntKind.i64.wrap (ta * 841) = ta * 841 := IntWalk.i64_in _ (by omega)
  have W2 : IntKind.i64.wrap (ta * 841 * 841) = ta * 841 * 841 := IntWalk.i64_in _ (by omega)
  have W3 : IntKind.i64.wrap (n * tc) = n * tc := IntWalk.i64_in _ (by omega)
  have HX := Lib.hid hX; have HXC := Lib.hid hx; have HYC := Lib.hid hy
  clear hX hx hy hin q1 q2
  generalize fitB ta tc s d v = fb at *
  have hass : ta * 707281 = ta * 841 * 841 := by omega
  rw [hass] at fitD
  clear hass
  unfold body3n4 body3 loop3b loop3a code3
  conv => arg 2; whnf
  simp only [withLast]
  by_cases ho : (d : Int) = s.dir ∧ (v : Int) = s.level
  · have f1 : ((d : Int) == s.dir) = true := by simpa using ho.1
    have f2 : ((v : Int) == s.level) = true := by simpa using ho.2
    have hF : fb = true := by rw [fitD, ownD, decide_eq_true ho.1, decide_eq_true ho.2]; rfl
    subst hF
    clear ho ownD fitD
    go_wp2_with fail
    exact HX.out _ _ _ _ _ _ _ _ _ _ _ _ _ _ _ _ _ _ _ _ _ _ _ _ _ _ _ _ _ _ _ _ _ _ _ _ _ _ _ _ _ _ _ _ _ _ _ _ _ _ _ _ _ _ _ _ _ _ _ _ _ _ _ _ _ _ _ _ _ _ _ _ _ _ _ _ _ _ _ _ _ _ _ _ _ _ _ _ _ _ _ _ _ _ _ _ _ _
  · have hoB : ownB s d v = false := by
      rw [ownD, Bool.and_eq_false_iff, decide_eq_false_iff_not, decide_eq_false_iff_not]
      by_cases h : (d : Int) = s.dir
      · exact Or.inr fun h2 => ho ⟨h, h2⟩
      · exact Or.inl h
    rw [hoB, Bool.false_or] at fitD
    have hcs : ((d : Int) == s.dir) = false ∨ (((d : Int) == s.dir) = true ∧ ((v : Int) == s.level) = false) := by
      by_cases h : (d : Int) = s.dir
      · exact Or.inr ⟨by simpa using h, by simpa using fun h2 => ho ⟨h, h2⟩⟩
      · exact Or.inl (by simpa using h)
    have FD := Lib.hid fitD
    clear ho ownD fitD hoB
    cases hnx : nzB s.dir s.level with
    | false =>
      have hF : fb = false := by rw [FD.out, hnx]; rfl
      subst hF
      rw [hnx] at hq1
      clear FD hnx
      rcases hcs with f1 | ⟨f1, f2⟩ <;>
      · go_wp2_with (first | (refine wpList_load_row_at rfl 53 _ rfl X1 rfl 53 _ (0, 0) _ HXC.out Tryd.underlying53 rfl (by kernel_rfl) ?_; simp only [Act.put, List.setIfInBounds_toArray, List.set_cons_zero, List.set_cons_succ]) | (refine wpList_load_row_at rfl 53 _ rfl Y1 rfl 53 _ (0, 0) _ HYC.out Tryd.underlying53 rfl (by kernel_rfl) ?_; simp only [Act.put, List.setIfInBounds_toArray, List.set_cons_zero, List.set_cons_succ]))
        exact HX.out _ _ _ _ _ _ _ _ _ _ _ _ _ _ _ _ _ _ _ _ _ _ _ _ _ _ _ _ _ _ _ _ _ _ _ _ _ _ _ _ _ _ _ _ _ _ _ _ _ _ _ _ _ _ _ _ _ _ _ _ _ _ _ _ _ _ _ _ _ _ _ _ _ _ _ _ _ _ _ _ _ _ _ _ _ _ _ _ _ _ _ _ _ _ _ _ _ _
    | true =>
    cases hny : nzB d v with
    | false =>
      have hF : fb = false := by rw [FD.out, hnx, hny]; rfl
      subst hF
      rw [hnx] at hq1
      rw [hny] at hq2
      clear FD hnx hny
      rcases hcs with f1 | ⟨f1, f2⟩ <;>
      · go_wp2_with (first | (refine wpList_load_row_at rfl 53 _ rfl X1 rfl 53 _ (0, 0) _ HXC.out Tryd.underlying53 rfl (by kernel_rfl) ?_; simp only [Act.put, List.setIfInBounds_toArray, List.set_cons_zero, List.set_cons_succ]) | (refine wpList_load_row_at rfl 53 _ rfl Y1 rfl 53 _ (0, 0) _ HYC.out Tryd.underlying53 rfl (by kernel_rfl) ?_; simp only [Act.put, List.setIfInBounds_toArray, List.set_cons_zero, List.set_cons_succ]))
        exact HX.out _ _ _ _ _ _ _ _ _ _ _ _ _ _ _ _ _ _ _ _ _ _ _ _ _ _ _ _ _ _ _ _ _ _ _ _ _ _ _ _ _ _ _ _ _ _ _ _ _ _ _ _ _ _ _ _ _ _ _ _ _ _ _ _ _ _ _ _ _ _ _ _ _ _ _ _ _ _ _ _ _ _ _ _ _ _ _ _ _ _ _ _ _ _ _ _ _ _
    | true =>
      have hF : fb = decide (ta * 841 * 841 ≤ n * tc) := by rw [FD.out, hnx, hny]; rfl
      rw [hnx] at hq1
      rw [hny] at hq2
      clear FD hnx hny
      generalize hdec : decide (ta * 841 * 841 ≤ n * tc) = dd at *
      subst hF
      rcases hcs with f1 | ⟨f1, f2⟩ <;>
      · go_wp2_with (first | (refine wpList_load_row_at rfl 53 _ rfl X1 rfl 53 _ (0, 0) _ HXC.out Tryd.underlying53 rfl (by kernel_rfl) ?_; simp only [Act.put, List.setIfInBounds_toArray, List.set_cons_zero, List.set_cons_succ]) | (refine wpList_load_row_at rfl 53 _ rfl Y1 rfl 53 _ (0, 0) _ HYC.out Tryd.underlying53 rfl (by kernel_rfl) ?_; simp only [Act.put, List.setIfInBounds_toArray, List.set_cons_zero, List.set_cons_succ]))
        exact HX.out _ _ _ _ _ _ _ _ _ _ _ _ _ _ _ _ _ _ _ _ _ _ _ _ _ _ _ _ _ _ _ _ _ _ _ _ _ _ _ _ _ _ _ _ _ _ _ _ _ _ _ _ _ _ _ _ _ _ _ _ _ _ _ _ _ _ _ _ _ _ _ _ _ _ _ _ _ _ _ _ _ _ _ _ _ _ _ _ _ _ _ _ _ _ _ _ _ _
set_option maxRecDepth 100000 in
set_option maxHeartbeats 8000000 in
theorem all_want (b : Bod) (d v i top : Nat) (hi : i < 3) (htop : topOf b i = top) (fb : Bool) (vl : Value) (A K : Nat) (many : Int) (w : World) (hb : w.heap[A + 1]? = some (.cells (bodCells b) 36 (0, 0))) (e0 e1 e2 e4 e6 e8 e10 e15 e16 e17 e18 e19 e20 e22 e23 e24 e25 e26 e27 e28 e29 e30 e31 e32 e33 e34 e35 e36 e37 e38 e39 e40 e41 e42 e43 e44 e45 e46 e47 e48 e49 e50 e51 e52 e53 e54 e55 e56 e57 e58 e59 e60 e61 e62 e63 e64 e65 e66 e67 e68 e69 e70 e71 e72 e73 e74 e75 e76 e77 e78 e79 e80 e81 e82 e83 e84 e85 e86 e87 e88 e89 e90 e91 e92 e93 e94 e95 e96 e97 e98 e99 e100 e101 e102 e103 e104 e105 e106 e107 e108 e109 e110 e111 e112 e113 e114 e115 e116 e117 e118 e119 e120 e121 e122 e123 e124 e125 e126 e127 e128 e129 e130 e131 e132 e133 e134 e135 e136 e137 e138 e139 e140 e141 e142 e143 e144 e145 e146 e147 e148 e149 e150 e151 e152 e153 e154 e155 e156 e157 e158 e159 e160 e161 e162 e163 e164 e165 e166 e167 e168 e169 e170 e171 e172 e173 e174 e175 e176 e177 e178 e179 e180 e181 e182 e183 e184 e185 e186 e187 e188 : Value) (Q : Exit → Act → World → Prop) (X : Code)
    (hX : ∀ (u15 u16 u17 u18 u19 u20 u21 u75 u76 u77 u78 u79 u80 u81 u82 u83 u84 u85 u86 u87 u88 u89 u90 u91 u92 u93 u94 u95 u96 u97 u98 u99 u100 u101 u102 u103 u104 u105 u106 u107 u108 u109 u110 u111 u112 u113 u114 u115 u116 u117 u118 u119 u120 u121 u122 u123 u124 u125 u126 u127 u128 u129 u130 u131 u132 u133 u134 u135 u136 u137 u138 u139 u140 u141 u142 u143 u144 u145 u146 u147 u148 u149 u150 u151 u152 u153 u154 u155 u156 u157 u158 u159 u160 u161 u162 u163 u164 u165 : Value), Code.wp Tryd.prog X Q { tmps := #[e0, e1, e2, .pointer (some ⟨A, 0, none⟩), e4, .pointer (some ⟨A + 1, 0, none⟩), e6, .pointer (some ⟨K, 0, none⟩), e8, vl, e10, .int .i64 (i : Nat), .int .i64 many, .int .i64 (d : Nat), .int .i64 (v : Nat), u15, u16, u17, u18, u19, u20, u21, .int .i64 ((if fb && decide (v ≤ top) then 1 else 0 : Nat) : Int), e23, e24, e25, e26, e27, e28, e29, e30, e31, e32, e33, e34, e35, e36, e37, e38, e39, e40, e41, e42, e43, e44, e45, e46, e47, e48, e49, e50, e51, e52, e53, e54, e55, e56, e57, e58, e59, e60, e61, e62, e63, e64, e65, e66, e67, e68, e69, e70, e71, e72, e73, e74, u75, u76, u77, u78, u79, u80, u81, u82, u83, u84, u85, u86, u87, u88, u89, u90, u91, u92, u93, u94, u95, u96, u97, u98, u99, u100, u101, u102, u103, u104, u105, u106, u107, u108, u109, u110, u111, u112, u113, u114, u115, u116, u117, u118, u119, u120, u121, u122, u123, u124, u125, u126, u127, u128, u129, u130, u131, u132, u133, u134, u135, u136, u137, u138, u139, u140, u141, u142, u143, u144, u145, u146, u147, u148, u149, u150, u151, u152, u153, u154, u155, u156, u157, u158, u159, u160, u161, u162, u163, u164, u165, e166, e167, e168, e169, e170, e171, e172, e173, e174, e175, e176, e177, e178, e179, e180, e181, e182, e183, e184, e185, e186, e187, e188], defers := [] } w) :
    Code.wp Tryd.prog (withLast 2 body3n5 X) Q { tmps := #[e0, e1, e2, .pointer (some ⟨A, 0, none⟩), e4, .pointer (some ⟨A + 1, 0, none⟩), e6, .pointer (some ⟨K, 0, none⟩), e8, vl, e10, .int .i64 (i : Nat), .int .i64 many, .int .i64 (d : Nat), .int .i64 (v : Nat), e15, e16, e17, e18, e19, e20, .bool fb, e22, e23, e24, e25, e26, e27, e28, e29, e30, e31, e32, e33, e34, e35, e36, e37, e38, e39, e40, e41, e42, e43, e44, e45, e46, e47, e48, e49, e50, e51, e52, e53, e54, e55, e56, e57, e58, e59, e60, e61, e62, e63, e64, e65, e66, e67, e68, e69, e70, e71, e72, e73, e74, e75, e76, e77, e78, e79, e80, e81, e82, e83, e84, e85, e86, e87, e88, e89, e90, e91, e92, e93, e94, e95, e96, e97, e98, e99, e100, e101, e102, e103, e104, e105, e106, e107, e108, e109, e110, e111, e112, e113, e114, e115, e116, e117, e118, e119, e120, e121, e122, e123, e124, e125, e126, e127, e128, e129, e130, e131, e132, e133, e134, e135, e136, e137, e138, e139, e140, e141, e142, e143, e144, e145, e146, e147, e148, e149, e150, e151, e152, e153, e154, e155, e156, e157, e158, e159, e160, e161, e162, e163, e164, e165, e166, e167, e168, e169, e170, e171, e172, e173, e174, e175, e176, e177, e178, e179, e180, e181, e182, e183, e184, e185, e186, e187, e188], defers := [] } w := by
  have ct : w.cell? ⟨A + 1, 12 + i, none⟩ = some (.int .i64 top) := by
    rw [← htop]
    refine cell_at hb (12 + i) ?_
    rcases i with _ | _ | _ | i
    · rfl
    · rfl
    · rfl
    · omega
  have hi1 : (i : Int) < 3 := by omega
  have HX := Lib.hid hX
  clear hX hb htop
  unfold body3n5 body3 loop3b loop3a code3
  conv => arg 2; whnf
  simp only [withLast]
  cases fb with
  | false =>
    go_wp2_with fail
    exact HX.out _ _ _ _ _ _ _ _ _ _ _ _ _ _ _ _ _ _ _ _ _ _ _ _ _ _ _ _ _ _ _ _ _ _ _ _ _ _ _ _ _ _ _ _ _ _ _ _ _ _ _ _ _ _ _ _ _ _ _ _ _ _ _ _ _ _ _ _ _ _ _ _ _ _ _ _ _ _ _ _ _ _ _ _ _ _ _ _ _ _ _ _ _ _ _ _ _ _
  | true =>
    by_cases h : v ≤ top
    · rw [decide_eq_true h] at HX
      go_wp2_with fail
      exact HX.out _ _ _ _ _ _ _ _ _ _ _ _ _ _ _ _ _ _ _ _ _ _ _ _ _ _ _ _ _ _ _ _ _ _ _ _ _ _ _ _ _ _ _ _ _ _ _ _ _ _ _ _ _ _ _ _ _ _ _ _ _ _ _ _ _ _ _ _ _ _ _ _ _ _ _ _ _ _ _ _ _ _ _ _ _ _ _ _ _ _ _ _ _ _ _ _ _ _
    · rw [decide_eq_false h] at HX
      go_wp2_with fail
      exact HX.out _ _ _ _ _ _ _ _ _ _ _ _ _ _ _ _ _ _ _ _ _ _ _ _ _ _ _ _ _ _ _ _ _ _ _ _ _ _ _ _ _ _ _ _ _ _ _ _ _ _ _ _ _ _ _ _ _ _ _ _ _ _ _ _ _ _ _ _ _ _ _ _ _ _ _ _ _ _ _ _ _ _ _ _ _ _ _ _ _ _ _ _ _ _ _ _ _ _
set_option maxRecDepth 100000 in
set_option maxHeartbeats 8000000 in
theorem all_has (s : Sgn) (d v want : Nat) (ao : Option Addr) (c : Nat) (xs : List Rea) (hw : hasN xs ⟨s.id, d, v, false⟩ = want) (A K : Nat) (lm many : Int) (hm : 0 ≤ many ∧ many + want ≤ 1000) (w : World) (hk : w.heap[K]? = some (.cells (sgnA s) 41 (0, 0))) (hx : IsRow encRea 4 w (.slice ao xs.length c) xs) (e0 e1 e2 e4 e6 e8 e10 e15 e16 e17 e18 e19 e20 e21 e23 e24 e25 e26 e27 e28 e29 e30 e31 e32 e33 e34 e35 e36 e37 e38 e39 e40 e41 e42 e43 e44 e45 e46 e47 e48 e49 e50 e51 e52 e53 e54 e55 e56 e57 e58 e59 e60 e61 e62 e63 e64 e65 e66 e67 e68 e69 e70 e71 e72 e73 e74 e75 e76 e77 e78 e79 e80 e81 e82 e83 e84 e85 e86 e87 e88 e89 e90 e91 e92 e93 e94 e95 e96 e97 e98 e99 e100 e101 e102 e103 e104 e105 e106 e107 e108 e109 e110 e111 e112 e113 e114 e115 e116 e117 e118 e119 e120 e121 e122 e123 e124 e125 e126 e127 e128 e129 e130 e131 e132 e133 e134 e135 e136 e137 e138 e139 e140 e141 e142 e143 e144 e145 e146 e147 e148 e149 e150 e151 e152 e153 e154 e155 e156 e157 e158 e159 e160 e161 e162 e163 e164 e165 e166 e167 e168 e169 e170 e171 e172 e173 e174 e175 e176 e177 e178 e179 e180 e181 e182 e183 e184 e185 e186 e187 e188 : Value) (Q : Exit → Act → World → Prop)
    (hQ : ∀ (w' : World) (u15 u16 u17 u18 u19 u20 u21 u75 u76 u77 u78 u79 u80 u81 u82 u83 u84 u85 u86 u87 u88 u89 u90 u91 u92 u93 u94 u95 u96 u97 u98 u99 u100 u101 u102 u103 u104 u105 u106 u107 u108 u109 u110 u111 u112 u113 u114 u115 u116 u117 u118 u119 u120 u121 u122 u123 u124 u125 u126 u127 u128 u129 u130 u131 u132 u133 u134 u135 u136 u137 u138 u139 u140 u141 u142 u143 u144 u145 u146 u147 u148 u149 u150 u151 u152 u153 u154 u155 u156 u157 u158 u159 u160 u161 u162 u163 u164 u165 : Value), Below w.heap.size w w' → Q .normal { tmps := #[e0, e1, e2, .pointer (some ⟨A, 0, none⟩), e4, .pointer (some ⟨A + 1, 0, none⟩), e6, .pointer (some ⟨K, 0, none⟩), e8, .slice ao xs.length c, e10, .int .i64 lm, .int .i64 (many + (want : Nat)), .int .i64 (d : Nat), .int .i64 (v : Nat), u15, u16, u17, u18, u19, u20, u21, .int .i64 (want : Nat), e23, e24, e25, e26, e27, e28, e29, e30, e31, e32, e33, e34, e35, e36, e37, e38, e39, e40, e41, e42, e43, e44, e45, e46, e47, e48, e49, e50, e51, e52, e53, e54, e55, e56, e57, e58, e59, e60, e61, e62, e63, e64, e65, e66, e67, e68, e69, e70, e71, e72, e73, e74, u75, u76, u77, u78, u79, u80, u81, u82, u83, u84, u85, u86, u87, u88, u89, u90, u91, u92, u93, u94, u95, u96, u97, u98, u99, u100, u101, u102, u103, u104, u105, u106, u107, u108, u109, u110, u111, u112, u113, u114, u115, u116, u117, u118, u119, u120, u121, u122, u123, u124, u125, u126, u127, u128, u129, u130, u131, u132, u133, u134, u135, u136, u137, u138, u139, u140, u141, u142, u143, u144, u145, u146, u147, u148, u149, u150, u151, u152, u153, u154, u155, u156, u157, u158, u159, u160, u161, u162, u163, u164, u165, e166, e167, e168, e169, e170, e171, e172, e173, e174, e175, e176, e177, e178, e179, e180, e181, e182, e183, e184, e185, e186, e187, e188], defers := [] } w') :
    Code.wp Tryd.prog body3n7 Q { tmps := #[e0, e1, e2, .pointer (some ⟨A, 0, none⟩), e4, .pointer (some ⟨A + 1, 0, none⟩), e6, .pointer (some ⟨K, 0, none⟩), e8, .slice ao xs.length c, e10, .int .i64 lm, .int .i64 many, .int .i64 (d : Nat), .int .i64 (v : Nat), e15, e16, e17, e18, e19, e20, e21, .int .i64 (want : Nat), e23, e24, e25, e26, e27, e28, e29, e30, e31, e32, e33, e34, e35, e36, e37, e38, e39, e40, e41, e42, e43, e44, e45, e46, e47, e48, e49, e50, e51, e52, e53, e54, e55, e56, e57, e58, e59, e60, e61, e62, e63, e64, e65, e66, e67, e68, e69, e70, e71, e72, e73, e74, e75, e76, e77, e78, e79, e80, e81, e82, e83, e84, e85, e86, e87, e88, e89, e90, e91, e92, e93, e94, e95, e96, e97, e98, e99, e100, e101, e102, e103, e104, e105, e106, e107, e108, e109, e110, e111, e112, e113, e114, e115, e116, e117, e118, e119, e120, e121, e122, e123, e124, e125, e126, e127, e128, e129, e130, e131, e132, e133, e134, e135, e136, e137, e138, e139, e140, e141, e142, e143, e144, e145, e146, e147, e148, e149, e150, e151, e152, e153, e154, e155, e156, e157, e158, e159, e160, e161, e162, e163, e164, e165, e166, e167, e168, e169, e170, e171, e172, e173, e174, e175, e176, e177, e178, e179, e180, e181, e182, e183, e184, e185, e186, e187, e188], defers := [] } w := by
  have c0 : w.cell? ⟨K, 0, none⟩ = some (.int .i64 s.id) := cell_at hk 0 rfl
  have hh := has_any ao c xs ⟨s.id, d, v, false⟩ w hx
  rw [hw] at hh
  unfold reaV at hh
  have W1 : IntKind.i64.wrap (many + (want : Nat)) = many + (want : Nat) := IntWalk.i64_in _ (by omega)
  have f0 : ((want : Int) != (want : Int)) = false := by simp
  have HX := Lib.hid hQ; have HH := Lib.hid hh
  clear hQ hk hx hw hh hm
  generalize xs.length = n at *
  generalize hwn : ((want : Nat) : Int) = wn at *
  clear hwn
  unfold body3n7 body3 loop3b loop3a code3
  conv => arg 2; whnf
  go_wp2_with fail
  refine HH.out.mono ?_
  rintro e w' ⟨rfl, hb⟩
  have HB := Lib.hid hb
  clear hb HH c0
  go_wp2_with fail
  exact HX.out _ _ _ _ _ _ _ _ _ _ _ _ _ _ _ _ _ _ _ _ _ _ _ _ _ _ _ _ _ _ _ _ _ _ _ _ _ _ _ _ _ _ _ _ _ _ _ _ _ _ _ _ _ _ _ _ _ _ _ _ _ _ _ _ _ _ _ _ _ _ _ _ _ _ _ _ _ _ _ _ _ _ _ _ _ _ _ _ _ _ _ _ _ _ _ _ _ _ _ HB.out
set_option maxRecDepth 100000 in
set_option maxHeartbeats 8000000 in
theorem all_round (k : Wrk) (s : Sgn) (b : Bod) (top i : Nat) (F : AllFacts k s b top) (hi : i < 3) (htop : topOf b i = top) (hta : 0 ≤ k.ta ∧ k.ta ≤ 32768) (htc : 0 ≤ k.tc ∧ k.tc ≤ 32768) (ws : Array Value) (hw2 : ws[2]? = some (.int .i64 k.ta)) (hw4 : ws[4]? = some (.int .i64 k.tc)) (d v : Nat) (hd : d ≤ 8) (hv : 1 ≤ v ∧ v ≤ 3) (ao : Option Addr) (c A K : Nat) (many : Int) (hm : 0 ≤ many ∧ many ≤ 100)
    (w : World) (hE : Env w) (hz : 2 ≤ w.heap.size) (g0 : w.heap[A]? = some (.cells ws 32 (0, 0))) (g1 : w.heap[A + 1]? = some (.cells (bodCells b) 36 (0, 0))) (g2 : w.heap[K]? = some (.cells (sgnA s) 41 (0, 0))) (hrow : IsRow encRea 4 w (.slice ao (optL k s b).length c) (optL k s b)) (e0 e1 e2 e4 e6 e8 e10 e15 e16 e17 e18 e19 e20 e21 e22 e23 e24 e25 e26 e27 e28 e29 e30 e31 e32 e33 e34 e35 e36 e37 e38 e39 e40 e41 e42 e43 e44 e45 e46 e47 e48 e49 e50 e51 e52 e53 e54 e55 e56 e57 e58 e59 e60 e61 e62 e63 e64 e65 e66 e67 e68 e69 e70 e71 e72 e73 e74 e75 e76 e77 e78 e79 e80 e81 e82 e83 e84 e85 e86 e87 e88 e89 e90 e91 e92 e93 e94 e95 e96 e97 e98 e99 e100 e101 e102 e103 e104 e105 e106 e107 e108 e109 e110 e111 e112 e113 e114 e115 e116 e117 e118 e119 e120 e121 e122 e123 e124 e125 e126 e127 e128 e129 e130 e131 e132 e133 e134 e135 e136 e137 e138 e139 e140 e141 e142 e143 e144 e145 e146 e147 e148 e149 e150 e151 e152 e153 e154 e155 e156 e157 e158 e159 e160 e161 e162 e163 e164 e165 e166 e167 e168 e169 e170 e171 e172 e173 e174 e175 e176 e177 e178 e179 e180 e181 e182 e183 e184 e185 e186 e187 e188 : Value) (Q : Exit → Act → World → Prop)
    (hQ : ∀ (w' : World) (m2 : Int) (u15 u16 u17 u18 u19 u20 u21 u22 u75 u76 u77 u78 u79 u80 u81 u82 u83 u84 u85 u86 u87 u88 u89 u90 u91 u92 u93 u94 u95 u96 u97 u98 u99 u100 u101 u102 u103 u104 u105 u106 u107 u108 u109 u110 u111 u112 u113 u114 u115 u116 u117 u118 u119 u120 u121 u122 u123 u124 u125 u126 u127 u128 u129 u130 u131 u132 u133 u134 u135 u136 u137 u138 u139 u140 u141 u142 u143 u144 u145 u146 u147 u148 u149 u150 u151 u152 u153 u154 u155 u156 u157 u158 u159 u160 u161 u162 u163 u164 u165 : Value), m2 = many + ((if fitB k.ta k.tc s d v && decide (v ≤ top) then 1 else 0 : Nat) : Int) → Below w.heap.size w w' → Q .normal { tmps := #[e0, e1, e2, .pointer (some ⟨A, 0, none⟩), e4, .pointer (some ⟨A + 1, 0, none⟩), e6, .pointer (some ⟨K, 0, none⟩), e8, .slice ao (optL k s b).length c, e10, .int .i64 (i : Nat), .int .i64 m2, .int .i64 (d : Nat), .int .i64 (v : Nat), u15, u16, u17, u18, u19, u20, u21, u22, e23, e24, e25, e26, e27, e28, e29, e30, e31, e32, e33, e34, e35, e36, e37, e38, e39, e40, e41, e42, e43, e44, e45, e46, e47, e48, e49, e50, e51, e52, e53, e54, e55, e56, e57, e58, e59, e60, e61, e62, e63, e64, e65, e66, e67, e68, e69, e70, e71, e72, e73, e74, u75, u76, u77, u78, u79, u80, u81, u82, u83, u84, u85, u86, u87, u88, u89, u90, u91, u92, u93, u94, u95, u96, u97, u98, u99, u100, u101, u102, u103, u104, u105, u106, u107, u108, u109, u110, u111, u112, u113, u114, u115, u116, u117, u118, u119, u120, u121, u122, u123, u124, u125, u126, u127, u128, u129, u130, u131, u132, u133, u134, u135, u136, u137, u138, u139, u140, u141, u142, u143, u144, u145, u146, u147, u148, u149, u150, u151, u152, u153, u154, u155, u156, u157, u158, u159, u160, u161, u162, u163, u164, u165, e166, e167, e168, e169, e170, e171, e172, e173, e174, e175, e176, e177, e178, e179, e180, e181, e182, e183, e184, e185, e186, e187, e188], defers := [] } w') :
    Code.wp Tryd.prog body3 Q { tmps := #[e0, e1, e2, .pointer (some ⟨A, 0, none⟩), e4, .pointer (some ⟨A + 1, 0, none⟩), e6, .pointer (some ⟨K, 0, none⟩), e8, .slice ao (optL k s b).length c, e10, .int .i64 (i : Nat), .int .i64 many, .int .i64 (d : Nat), .int .i64 (v : Nat), e15, e16, e17, e18, e19, e20, e21, e22, e23, e24, e25, e26, e27, e28, e29, e30, e31, e32, e33, e34, e35, e36, e37, e38, e39, e40, e41, e42, e43, e44, e45, e46, e47, e48, e49, e50, e51, e52, e53, e54, e55, e56, e57, e58, e59, e60, e61, e62, e63, e64, e65, e66, e67, e68, e69, e70, e71, e72, e73, e74, e75, e76, e77, e78, e79, e80, e81, e82, e83, e84, e85, e86, e87, e88, e89, e90, e91, e92, e93, e94, e95, e96, e97, e98, e99, e100, e101, e102, e103, e104, e105, e106, e107, e108, e109, e110, e111, e112, e113, e114, e115, e116, e117, e118, e119, e120, e121, e122, e123, e124, e125, e126, e127, e128, e129, e130, e131, e132, e133, e134, e135, e136, e137, e138, e139, e140, e141, e142, e143, e144, e145, e146, e147, e148, e149, e150, e151, e152, e153, e154, e155, e156, e157, e158, e159, e160, e161, e162, e163, e164, e165, e166, e167, e168, e169, e170, e171, e172, e173, e174, e175, e176, e177, e178, e179, e180, e181, e182, e183, e184, e185, e186, e187, e188], defers := [] } w := by
  refine all_dot s d v F.dir F.level hd hv _ A K _ many w hE hz g2 _ _ _ _ _ _ _ _ _ _ _ _ _ _ _ _ _ _ _ _ _ _ _ _ _ _ _ _ _ _ _ _ _ _ _ _ _ _ _ _ _ _ _ _ _ _ _ _ _ _ _ _ _ _ _ _ _ _ _ _ _ _ _ _ _ _ _ _ _ _ _ _ _ _ _ _ _ _ _ _ _ _ _ _ _ _ _ _ _ _ _ _ _ _ _ _ _ _ _ _ _ _ _ _ _ _ _ _ _ _ _ _ _ _ _ _ _ _ _ _ _ _ _ _ _ _ _ _ _ _ _ _ _ _ _ _ _ _ _ _ _ _ _ _ _ _ _ _ _ _ _ _ _ _ _ _ _ _ _ _ _ _ _ _ _ _ _ _ _ _ _ _ _ _ _ _ _ _ _ _ _ Q (withLast 1 body3n4 (withLast 2 body3n5 body3n7)) ?_
  intro w6 X1 Y1 _ _ _ _ _ _ _ _ _ _ _ _ _ _ _ _ _ _ _ _ _ _ _ _ _ _ _ _ _ _ _ _ _ _ _ _ _ _ _ _ _ _ _ _ _ _ _ _ _ _ _ _ _ _ _ _ _ _ _ _ _ _ _ _ _ _ _ _ _ _ _ _ _ _ _ _ _ _ _ _ _ _ _ _ _ _ _ _ _ _ _ _ _ _ _ _ b6 hx hy
  have hA : A < w.heap.size := (Array.getElem?_eq_some_iff.1 g0).1
  have hA1 : A + 1 < w.heap.size := (Array.getElem?_eq_some_iff.1 g1).1
  have hK : K < w.heap.size := (Array.getElem?_eq_some_iff.1 g2).1
  have g0 := (b6.block _ hA).trans g0
  have g1 := (b6.block _ hA1).trans g1
  have g2 := (b6.block _ hK).trans g2
  refine all_fits s d v F.dir F.level hd hv _ A K X1 Y1 k.ta k.tc hta htc _ many w6 g2 (cell_at g0 2 hw2) (cell_at g0 4 hw4) hx hy _ _ _ _ _ _ _ _ _ _ _ _ _ _ _ _ _ _ _ _ _ _ _ _ _ _ _ _ _ _ _ _ _ _ _ _ _ _ _ _ _ _ _ _ _ _ _ _ _ _ _ _ _ _ _ _ _ _ _ _ _ _ _ _ _ _ _ _ _ _ _ _ _ _ _ _ _ _ _ _ _ _ _ _ _ _ _ _ _ _ _ _ _ _ _ _ _ _ _ _ _ _ _ _ _ _ _ _ _ _ _ _ _ _ _ _ _ _ _ _ _ _ _ _ _ _ _ _ _ _ _ _ _ _ _ _ _ _ _ _ _ _ _ _ _ _ _ _ _ _ _ _ _ _ _ _ _ _ _ _ _ _ _ _ _ _ _ _ _ _ _ _ _ _ _ _ _ _ Q (withLast 2 body3n5 body3n7) ?_
  intro _ _ _ _ _ _ _ _ _ _ _ _ _ _ _ _ _ _ _ _ _ _ _ _ _ _ _ _ _ _ _ _ _ _ _ _ _ _ _ _ _ _ _ _ _ _ _ _ _ _ _ _ _ _ _ _ _ _ _ _ _ _ _ _ _ _ _ _ _ _ _ _ _ _ _ _ _ _ _ _ _ _ _ _ _ _ _ _ _ _ _ _ _ _ _ _ _ _
  refine all_want b d v i top hi htop (fitB k.ta k.tc s d v) _ A K many w6 g1 _ _ _ _ _ _ _ _ _ _ _ _ _ _ _ _ _ _ _ _ _ _ _ _ _ _ _ _ _ _ _ _ _ _ _ _ _ _ _ _ _ _ _ _ _ _ _ _ _ _ _ _ _ _ _ _ _ _ _ _ _ _ _ _ _ _ _ _ _ _ _ _ _ _ _ _ _ _ _ _ _ _ _ _ _ _ _ _ _ _ _ _ _ _ _ _ _ _ _ _ _ _ _ _ _ _ _ _ _ _ _ _ _ _ _ _ _ _ _ _ _ _ _ _ _ _ _ _ _ _ _ _ _ _ _ _ _ _ _ _ _ _ _ _ _ _ _ _ _ _ _ _ _ _ _ _ _ _ _ _ _ _ _ _ _ _ _ _ _ _ _ _ _ _ _ _ _ _ _ _ Q body3n7 ?_
  intro _ _ _ _ _ _ _ _ _ _ _ _ _ _ _ _ _ _ _ _ _ _ _ _ _ _ _ _ _ _ _ _ _ _ _ _ _ _ _ _ _ _ _ _ _ _ _ _ _ _ _ _ _ _ _ _ _ _ _ _ _ _ _ _ _ _ _ _ _ _ _ _ _ _ _ _ _ _ _ _ _ _ _ _ _ _ _ _ _ _ _ _ _ _ _ _ _ _
  have hat := F.at_ d v (by omega) hv.1
  have hat2 : hasN (optL k s b) ⟨s.id, d, v, false⟩ = if fitB k.ta k.tc s d v && decide (v ≤ top) then 1 else 0 := by
    rw [hat]
    by_cases h : v ≤ top <;> cases fitB k.ta k.tc s d v <;> simp [h]
  refine all_has s d v _ ao c (optL k s b) hat2 A K _ many ⟨hm.1, by split <;> omega⟩ w6 g2 (hrow.below b6 (Nat.le_refl _)) _ _ _ _ _ _ _ _ _ _ _ _ _ _ _ _ _ _ _ _ _ _ _ _ _ _ _ _ _ _ _ _ _ _ _ _ _ _ _ _ _ _ _ _ _ _ _ _ _ _ _ _ _ _ _ _ _ _ _ _ _ _ _ _ _ _ _ _ _ _ _ _ _ _ _ _ _ _ _ _ _ _ _ _ _ _ _ _ _ _ _ _ _ _ _ _ _ _ _ _ _ _ _ _ _ _ _ _ _ _ _ _ _ _ _ _ _ _ _ _ _ _ _ _ _ _ _ _ _ _ _ _ _ _ _ _ _ _ _ _ _ _ _ _ _ _ _ _ _ _ _ _ _ _ _ _ _ _ _ _ _ _ _ _ _ _ _ _ _ _ _ _ _ _ _ _ _ _ _ _ Q ?_
  intro w7 _ _ _ _ _ _ _ _ _ _ _ _ _ _ _ _ _ _ _ _ _ _ _ _ _ _ _ _ _ _ _ _ _ _ _ _ _ _ _ _ _ _ _ _ _ _ _ _ _ _ _ _ _ _ _ _ _ _ _ _ _ _ _ _ _ _ _ _ _ _ _ _ _ _ _ _ _ _ _ _ _ _ _ _ _ _ _ _ _ _ _ _ _ _ _ _ _ _ b7
  exact hQ _ _ _ _ _ _ _ _ _ _ _ _ _ _ _ _ _ _ _ _ _ _ _ _ _ _ _ _ _ _ _ _ _ _ _ _ _ _ _ _ _ _ _ _ _ _ _ _ _ _ _ _ _ _ _ _ _ _ _ _ _ _ _ _ _ _ _ _ _ _ _ _ _ _ _ _ _ _ _ _ _ _ _ _ _ _ _ _ _ _ _ _ _ _ _ _ _ _ _ _ _ rfl (b6.trans (b7.mono b6.size))
end Go.Proofs.YtggcbblikgankaaDoor
end
section
/- body.All: a cap lowers a field. -/
namespace Go.Proofs.YtggcbblikgankaaDoor
open Go Go.RowKit Go.Deep

noncomputable def code28 : Code := (Tryd.f28.body).getD .skip
noncomputable def loop28 : Code := lopC (blkC (sndC (fstC (lastPart 4 code28))))
noncomputable def body28 : Code := blkC (fstC (sndC (sndC loop28)))
noncomputable def body28n2 : Code := lastPart 2 body28
/-- No panic. -/
def noP (Q : Exit → Act → World → Prop) : Exit → Act → World → Prop
  | .panic _, _, _ => False
  | e, a, w => Q e a w
theorem noP_le (Q : Exit → Act → World → Prop) : ∀ e a w, noP Q e a w → Q e a w := by
  intro e a w h
  cases e <;> first | exact h | exact h.elim
set_option maxRecDepth 100000 in
set_option maxHeartbeats 8000000 in
theorem lower_step (c : Cap) (k : Nat) (hk : 1 ≤ k ∧ k ≤ 6) (hck : c.kind = k) (hl0 : 0 ≤ c.limb) (hl2 : c.limb ≤ 2) (C L : Nat) (w3 : World) (g0 : w3.heap[C]? = some (.cells (capA c) 136 (0, 0))) (e0 e1 e2 e3 e4 e5 e7 e9 e10 e11 e12 e13 e14 e15 e16 e17 e18 e19 e20 e21 e22 e23 e24 e25 e26 e27 e28 e29 e30 e31 e32 e33 e34 e35 e36 e37 e38 e39 e40 e41 e42 e43 e44 e45 e46 e47 e48 e49 e50 : Value) (Q : Exit → Act → World → Prop) (X : Code)
    (hX : ∀ (w4 : World) (u32 u33 u34 u35 u36 u37 u38 u39 u40 u41 u42 u43 u44 u45 u46 u47 : Value), Below w3.heap.size w3 w4 → Code.wp Tryd.prog X Q { tmps := #[e0, e1, e2, e3, e4, e5, .pointer (some ⟨L, 0, none⟩), e7, .pointer (some ⟨C, 0, none⟩), .pointer (some ⟨L, offOf k c.limb, none⟩), e10, e11, e12, e13, e14, e15, e16, e17, e18, e19, e20, e21, e22, e23, e24, e25, e26, e27, e28, e29, e30, e31, u32, u33, u34, u35, u36, u37, u38, u39, u40, u41, u42, u43, u44, u45, u46, u47, e48, e49, e50], defers := [] } w4) :
    Code.wp Tryd.prog (withLast 1 body28n2 X) Q { tmps := #[e0, e1, e2, e3, e4, e5, .pointer (some ⟨L, 0, none⟩), e7, .pointer (some ⟨C, 0, none⟩), e9, e10, e11, e12, e13, e14, e15, e16, e17, e18, e19, e20, e21, e22, e23, e24, e25, e26, e27, e28, e29, e30, e31, e32, e33, e34, e35, e36, e37, e38, e39, e40, e41, e42, e43, e44, e45, e46, e47, e48, e49, e50], defers := [] } w3 := by
  have hkk : k = 1 ∨ k = 2 ∨ k = 3 ∨ k = 4 ∨ k = 5 ∨ k = 6 := by omega
  have hA : C < w3.heap.size := (Array.getElem?_eq_some_iff.1 g0).1
  have HX := Lib.hid hX; have HA := Lib.hid hA
  have hB0 : Below w3.heap.size w3 w3.drew := (Below.refl _ w3).drew
  have gA0 : w3.drew.heap[C]? = some (.cells (capA c) 136 (0, 0)) := g0
  have hcell : ∀ w2 : World, w2.heap[C]? = some (.cells (capA c) 136 (0, 0)) → w2.cell? ⟨C, 0, none⟩ = some (.int .i64 (k : Int)) ∧ w2.cell? ⟨C, 1, none⟩ = some (.int .i64 c.limb) := fun w2 h => ⟨by rw [← hck]; exact cell_at h 0 rfl, cell_at h 1 rfl⟩
  have hfd : ∀ W : World, (Instr.field 117 (.agg (ruleK k)) 0).run Tryd.prog W = .ok (.func (.func (78 + k)) #[] #[]) W := by
    rcases hkk with rfl | rfl | rfl | rfl | rfl | rfl <;> exact fun _ => by kernel_rfl
  have hdoor := fun (W : World) => door_any k hk c.limb hl0 hl2 L W
  have HCL := Lib.hid hcell; have HD := Lib.hid hdoor
  clear hX g0 hA hcell hdoor hk hck hl0 hl2
  generalize c.limb = x at *
  unfold body28n2 body28 loop28 code28
  conv => arg 2; whnf
  simp only [withLast]
  refine wp_seq (wp_mono (Q := noP (Exit.then (Code.wp Tryd.prog X Q) Q)) ?_ (noP_le _))
  refine wp_region_held (S := fun w2 => w2.heap[C]? = some (.cells (capA c) 136 (0, 0))) (by kernel_rfl) ?_
  change wpAnyH _ _ _ _ _ _ _ _ w3.drew
  generalize w3.drew = W0 at *
  refine wpAnyH_take (i := 1) (oi := _) (v := .pointer (some ⟨C, 0, none⟩)) rfl (by kernel_rfl) (by kernel_rfl) (by kernel_rfl) (fun c a w h => h) (Or.inl ⟨by rfl, fun w _ => by go_simp⟩) gA0 ?_
  try (simp only [Act.put, List.setIfInBounds_toArray, List.set_cons_zero, List.set_cons_succ])
  refine wpAnyH_take (i := 2) (oi := _) (v := .int .i64 (k : Int)) rfl (by kernel_rfl) (by kernel_rfl) (by kernel_rfl) (fun c a w h => h) (Or.inl ⟨by rfl, fun w h => by have := (HCL.out w h).1; go_simp⟩) gA0 ?_
  try (simp only [Act.put, List.setIfInBounds_toArray, List.set_cons_zero, List.set_cons_succ])
  refine wpAnyH_take (i := 5) (oi := _) (v := .pointer (some ⟨C, 1, none⟩)) rfl (by kernel_rfl) (by kernel_rfl) (by kernel_rfl) (fun c a w h => h) (Or.inl ⟨by rfl, fun w _ => by go_simp⟩) gA0 ?_
  try (simp only [Act.put, List.setIfInBounds_toArray, List.set_cons_zero, List.set_cons_succ])
  refine wpAnyH_take (i := 6) (oi := _) (v := .int .i64 x) rfl (by kernel_rfl) (by kernel_rfl) (by kernel_rfl) (fun c a w h => h) (Or.inl ⟨by rfl, fun w h => by have := (HCL.out w h).2; go_simp⟩) gA0 ?_
  try (simp only [Act.put, List.setIfInBounds_toArray, List.set_cons_zero, List.set_cons_succ])
  refine wpAnyH_ready (rs := [0]) (by kernel_rfl) (by simp) ?_
  refine AllReadyH.cons (o := _) rfl (fun K1 hK => ?_) AllReadyH.nil
  go_simp
  go_at_call 51
  refine (rules_any W0).mono ?_
  rintro e W1 ⟨rfl, hb1⟩
  have gA1 := (hb1.block C (by have := HA.out; have := hB0.size; omega)).trans gA0
  have hB1 := hB0.trans (hb1.mono hB0.size)
  refine hK.out _ _ gA1 (fun _ => ?_)
  clear hK K1 hb1 gA0 hB0
  try (simp only [Act.put, List.setIfInBounds_toArray, List.set_cons_zero, List.set_cons_succ])
  refine wpAnyH_take (i := 3) (oi := _) (v := .agg (ruleK k)) rfl (by kernel_rfl) (by kernel_rfl) (by kernel_rfl) (fun c a w h => h) (Or.inl ⟨by rfl, fun w _ => by rcases hkk with rfl | rfl | rfl | rfl | rfl | rfl <;> (unfold rulesA ruleK; go_simp; first | done | rfl)⟩) gA1 ?_
  try (simp only [Act.put, List.setIfInBounds_toArray, List.set_cons_zero, List.set_cons_succ])
  refine wpAnyH_take (i := 4) (oi := _) (v := .func (.func (78 + k)) #[] #[]) rfl (by kernel_rfl) (by kernel_rfl) (by kernel_rfl) (fun c a w h => h) (Or.inl ⟨by rfl, fun w _ => by go_simp⟩) gA1 ?_
  try (simp only [Act.put, List.setIfInBounds_toArray, List.set_cons_zero, List.set_cons_succ])
  rcases hkk with rfl | rfl | rfl | rfl | rfl | rfl
  all_goals
    refine wpAnyH_ready (rs := [7]) (by kernel_rfl) (by simp) ?_
    refine AllReadyH.cons (o := _) rfl (fun K1 hK => ?_) AllReadyH.nil
    go_simp
    refine (HD.out W1).mono ?_
    rintro e W2 ⟨rfl, rfl⟩
    refine hK.out _ _ gA1 (fun _ => ?_)
    clear hK K1
    try (simp only [Act.put, List.setIfInBounds_toArray, List.set_cons_zero, List.set_cons_succ])
    refine wpAnyH_ready (rs := [8]) (by kernel_rfl) (by simp) ?_
    refine AllReadyH.cons (o := _) rfl (fun K1 hK => ?_) AllReadyH.nil
    go_simp
    refine hK.out _ _ gA1 (fun _ => ?_)
    clear hK K1
    try (simp only [Act.put, List.setIfInBounds_toArray, List.set_cons_zero, List.set_cons_succ])
    refine wpAnyH_done (by kernel_rfl) ?_ _
    exact HX.out _ _ _ _ _ _ _ _ _ _ _ _ _ _ _ _ _ hB1
end Go.Proofs.YtggcbblikgankaaDoor
end
section
/- body.All: the field is lowered. -/
namespace Go.Proofs.YtggcbblikgankaaDoor
open Go Go.RowKit Go.Deep

noncomputable def body28n3 : Code := lastPart 3 body28
set_option maxRecDepth 100000 in
set_option maxHeartbeats 8000000 in
theorem lower_store (c : Cap) (C L off : Nat) (old : Int) (w3 : World) (g0 : w3.heap[C]? = some (.cells (capA c) 136 (0, 0))) (hc : w3.cell? ⟨L, off, none⟩ = some (.int .i64 old)) (hf : w3.frozen? ⟨L, off, none⟩ = false) (e0 e1 e2 e3 e4 e5 e6 e7 e10 e11 e12 e13 e14 e15 e16 e17 e18 e19 e20 e21 e22 e23 e24 e25 e26 e27 e28 e29 e30 e31 e32 e33 e34 e35 e36 e37 e38 e39 e40 e41 e42 e43 e44 e45 e46 e47 e48 e49 e50 : Value) (Q : Exit → Act → World → Prop)
    (hX : ∀ (u40 u41 u42 u43 u44 u45 u46 u47 : Value), Q .normal { tmps := #[e0, e1, e2, e3, e4, e5, e6, e7, .pointer (some ⟨C, 0, none⟩), .pointer (some ⟨L, off, none⟩), e10, e11, e12, e13, e14, e15, e16, e17, e18, e19, e20, e21, e22, e23, e24, e25, e26, e27, e28, e29, e30, e31, e32, e33, e34, e35, e36, e37, e38, e39, u40, u41, u42, u43, u44, u45, u46, u47, e48, e49, e50], defers := [] } (w3.setCell ⟨L, off, none⟩ (.int .i64 (min old c.n))).drew) :
    Code.wp Tryd.prog body28n3 Q { tmps := #[e0, e1, e2, e3, e4, e5, e6, e7, .pointer (some ⟨C, 0, none⟩), .pointer (some ⟨L, off, none⟩), e10, e11, e12, e13, e14, e15, e16, e17, e18, e19, e20, e21, e22, e23, e24, e25, e26, e27, e28, e29, e30, e31, e32, e33, e34, e35, e36, e37, e38, e39, e40, e41, e42, e43, e44, e45, e46, e47, e48, e49, e50], defers := [] } w3 := by
  have c2 : w3.cell? ⟨C, 2, none⟩ = some (.int .i64 c.n) := cell_at g0 2 rfl
  have HX := Lib.hid hX
  clear hX g0
  generalize c.n = n at *
  unfold body28n3 body28 loop28 code28
  conv => arg 2; whnf
  refine region_tail (fun w2 => w2 = w3.drew) 8 (by kernel_rfl) (by kernel_rfl) rfl ?_
  intro w2 hS2
  subst hS2
  simp only [List.take_succ_cons, List.take_zero, List.drop_succ_cons, List.drop_zero]
  repeat still_step
  refine wpStill_nil ?_
  go_wp2_with fail
  exact HX.out _ _ _ _ _ _ _ _
end Go.Proofs.YtggcbblikgankaaDoor
end
section
/- body.All: its contract. -/
namespace Go.Proofs.YtggcbblikgankaaDoor
open Go Go.RowKit Go.Deep

def bodZ : Bod := ⟨[], 0, 0, 0, 0, 0, 0, 0, 0, 0, 0, 0, 0, 0, 0, 0, 0⟩
theorem results28 (tmps : Array Value) (w : World) (g : Nat) (cs : Array Value) (n : Value) (hz : cs.size = 17) (h4 : tmps.getD 4 undef = .pointer (some ⟨g, 0, none⟩)) (hg : w.heap[g]? = some (.cells cs 36 (0, 0))) (h5 : tmps.getD 5 undef = n) :
    (results Tryd.f28 tmps).run Tryd.prog w = .ok (.tuple #[.agg cs, n]) w := by
  rw [results_cell_tmp rfl, h4, h5]
  have hi : (Tryd.prog.info? 36).map (·.size) = some 17 := by kernel_rfl
  simp [asAddr, run_loadVar_row w g 36 36 cs (0, 0) _ hg Tryd.underlying36 rfl (by rw [hz]; exact hi), Result.andThen]
/-- What body.All answers. -/
def AllP (b : Bod) (w : World) (e : Ending) (w' : World) : Prop := ∃ (a : Bod) (er : Int), e = .returned (.tuple #[bodV a, .int .i64 er]) ∧ Below w.heap.size w w' ∧ (er = 0 → LeB a b ∧ bodB a = true ∧ bodB b = true ∧ a.name = b.name)
noncomputable def part28n4 : Code := lastPart 4 code28
noncomputable def part28n5 : Code := lastPart 5 code28
/-- The state of the loop. -/
structure LowAt (b : Bod) (w : World) (L Z : Nat) (wr : World) : Prop where
  below : Below w.heap.size w wr
  z : wr.heap[Z]? = some (.cells (bodCells bodZ) 36 (0, 0))
  l : ∃ a, wr.heap[L]? = some (.cells (bodCells a) 112 (0, 0)) ∧ LeB a b ∧ bodB a = true
theorem LowAt.keep {b : Bod} {w wr W : World} {L Z : Nat} (h : LowAt b w L Z wr) (hb : Below wr.heap.size wr W) : LowAt b w L Z W := by
  obtain ⟨h1, h2, a, h3, h4⟩ := h
  exact ⟨h1.trans (hb.mono h1.size), (hb.block _ (Array.getElem?_eq_some_iff.1 h2).1).trans h2, a, (hb.block _ (Array.getElem?_eq_some_iff.1 h3).1).trans h3, h4⟩
theorem LowAt.lower {b : Bod} {w wr : World} {L Z : Nat} (hL : w.heap.size ≤ L) (hLZ : L ≠ Z) {c : Cap} (hc : capB c = true) (h : LowAt b w L Z wr) : ∃ old, wr.cell? ⟨L, offOf c.kind.toNat c.limb, none⟩ = some (.int .i64 old) ∧ wr.frozen? ⟨L, offOf c.kind.toNat c.limb, none⟩ = false ∧ LowAt b w L Z (wr.setCell ⟨L, offOf c.kind.toNat c.limb, none⟩ (.int .i64 (min old c.n))).drew := by
  obtain ⟨h1, h2, a, h3, h4, h5⟩ := h
  have ho := (off_in hc).1
  refine ⟨bodGet a (offOf c.kind.toNat c.limb), cell_at h3 _ (bod_at a ho), free_at h3 _, ?_⟩
  refine ⟨(h1.setCell (p := ⟨L, offOf c.kind.toNat c.limb, none⟩) hL _).drew, ?_, bodSet a (min (bodGet a (offOf c.kind.toNat c.limb)) c.n) (offOf c.kind.toNat c.limb), ?_, h4.set ho (by omega), cap_lowers hc h5⟩
  · show (wr.setCell _ _).heap[Z]? = _
    refine Eq.trans ?_ h2
    simp only [World.setCell, Array.getElem?_modify]
    rw [if_neg hLZ]
  · show (wr.setCell _ _).heap[L]? = _
    rw [← bod_set a _ ho]
    simp [World.setCell, Array.getElem?_modify, h3]
set_option maxRecDepth 100000 in
set_option maxHeartbeats 8000000 in
theorem caps_loop (b : Bod) (hbo : bodB b = true) (cs : List Cap) (n : Nat) (hn : cs.length = n) (hn2 : n ≤ 64) (ao : Option Addr) (cc L Z : Nat) (w w3 : World) (hL : w.heap.size ≤ L) (hZ : w.heap.size ≤ Z) (hLZ : L ≠ Z) (hrow : ∀ W, Below w.heap.size w W → IsRow encCap 3 W (.slice ao n cc) cs) (hA : LowAt b w L Z w3) (e0 e2 e3 e7 e8 e9 e10 e11 e12 e13 e14 e15 e16 e17 e18 e19 e20 e21 e22 e23 e24 e25 e26 e27 e28 e29 e30 e31 e32 e33 e34 e35 e36 e37 e38 e39 e40 e41 e42 e43 e44 e45 e46 e47 e48 e49 e50 : Value) (X : Code)
    (hX : ∀ (w4 : World) (e0 e1 e2 e3 e5 e7 e8 e9 e10 e11 e12 e13 e14 e15 e16 e17 e18 e19 e20 e21 e22 e23 e24 e25 e26 e27 e28 e29 e30 e31 e32 e33 e34 e35 e36 e37 e38 e39 e40 e41 e42 e43 e44 e45 e46 e47 e48 e49 e50 : Value), LowAt b w L Z w4 → Code.wp Tryd.prog X (bodyPost Tryd.prog Tryd.f28 (AllP b w)) { tmps := #[e0, e1, e2, e3, .pointer (some ⟨Z, 0, none⟩), e5, .pointer (some ⟨L, 0, none⟩), e7, e8, e9, e10, e11, e12, e13, e14, e15, e16, e17, e18, e19, e20, e21, e22, e23, e24, e25, e26, e27, e28, e29, e30, e31, e32, e33, e34, e35, e36, e37, e38, e39, e40, e41, e42, e43, e44, e45, e46, e47, e48, e49, e50], defers := [] } w4) :
    Code.wp Tryd.prog (withLast 1 part28n4 X) (bodyPost Tryd.prog Tryd.f28 (AllP b w)) { tmps := #[e0, .slice ao n cc, e2, e3, .pointer (some ⟨Z, 0, none⟩), .int .i64 0, .pointer (some ⟨L, 0, none⟩), e7, e8, e9, e10, e11, e12, e13, e14, e15, e16, e17, e18, e19, e20, e21, e22, e23, e24, e25, e26, e27, e28, e29, e30, e31, e32, e33, e34, e35, e36, e37, e38, e39, e40, e41, e42, e43, e44, e45, e46, e47, e48, e49, e50], defers := [] } w3 := by
  have HX := Lib.hid hX; have HA := Lib.hid hA; have HR := Lib.hid hrow; have HN := Lib.hid hn; have HL := Lib.hid hL; have HZL := Lib.hid hZ; have HLZ := Lib.hid hLZ; have HBO := Lib.hid hbo
  clear hX hA hrow hn hL hZ hLZ hbo
  unfold part28n4 code28
  conv => arg 2; whnf
  simp only [withLast]
  go_wp2_with fail
  go_loopw [24] (fun iv wr => ∃ i : Nat, i ≤ n ∧ iv = .int .i64 i ∧ Hid (LowAt b w L Z wr)) (fun iv _ => n - (intOf iv).toNat)
  case atStart => exact ⟨0, Nat.zero_le _, rfl, HA⟩
  case round =>
    clear HA
    obtain ⟨i, hin, rfl, hM⟩ := hrel
    by_cases hi : i < n
    · obtain ⟨c, hc⟩ : ∃ c, cs[i]? = some c := ⟨_, List.getElem?_eq_getElem (by rw [HN.out]; exact hi)⟩
      have hi' : (i : Int) < (n : Int) := by omega
      obtain ⟨b1, o1, hp1, hat1, hb1⟩ := (HR.out wr hM.out.below).block hc
      subst hp1
      have p0 : wr.cell? ⟨b1, o1 + i * 3, none⟩ = some (.int .i64 c.kind) := hat1 i c hc 0 _ rfl
      have p1 : wr.cell? ⟨b1, o1 + i * 3 + 1, none⟩ = some (.int .i64 c.limb) := hat1 i c hc 1 _ rfl
      have p2 : wr.cell? ⟨b1, o1 + i * 3 + 2, none⟩ = some (.int .i64 c.n) := hat1 i c hc 2 _ rfl
      have hv := valid_any c
      unfold capA at hv
      have HV := Lib.hid hv
      clear hc hat1 hb1 hv
      change Code.wp Tryd.prog (.seq (fstC loop28) (.seq (fstC (sndC loop28)) (.seq (.block 1 (.seq (fstC body28) (.seq (fstC (sndC body28)) (withLast 1 body28n2 body28n3)))) (sndC (sndC (sndC loop28)))))) _ _ _
      go_wp2_with fail
      conv => arg 2; whnf
      go_wp2_with fail
      conv => arg 2; whnf
      go_wp2_with fail
      conv => arg 2; whnf
      go_wp2_with fail
      conv => arg 2; whnf
      go_wp2_with fail
      clear p0 p1 p2
      have hba : Below wr.heap.size wr (wr.alloc (.cells #[.int .i64 c.kind, .int .i64 c.limb, .int .i64 c.n] 136)) := (Below.refl _ wr).alloc (Nat.le_refl _) _
      have gC : (wr.alloc (.cells #[.int .i64 c.kind, .int .i64 c.limb, .int .i64 c.n] 136)).heap[wr.heap.size]? = some (.cells (capA c) 136 (0, 0)) := heap_alloc_new wr _
      have hMa := hM.out.keep hba
      have hsz : wr.heap.size < (wr.alloc (.cells #[.int .i64 c.kind, .int .i64 c.limb, .int .i64 c.n] 136)).heap.size := by simp
      refine (HV.out _).mono ?_
      rintro e W1 ⟨rfl, hbv⟩
      have gC1 := (hbv.block _ hsz).trans gC
      have hM1 := hMa.keep hbv
      have HM1 := Lib.hid hM1; have GC1 := Lib.hid gC1
      clear hba gC hMa hsz hbv gC1 hM1 HV
      cases hcb : capB c with
      | false =>
        have HZ := Lib.hid HM1.out.z
        clear hcb
        go_wp2_with (first | (refine wpList_load_row rfl 36 _ rfl Z rfl 36 (bodCells bodZ) (0, 0) _ HZ.out Tryd.underlying36 rfl (by kernel_rfl) ?_; simp only [Act.put, List.setIfInBounds_toArray, List.set_cons_zero, List.set_cons_succ]) | (refine wpList_store_row rfl 36 _ _ rfl Z (bodCells bodZ) rfl rfl 36 _ HZ.out (by kernel_rfl) rfl (by simp [bodCells, Value.oneCell']) ?_))
        refine bodyPost_ret (results28 _ _ Z (bodCells bodZ) _ rfl rfl (setRow_heap _ _ _ _ _ _ HZ.out) rfl) rfl ⟨bodZ, 1, rfl, below_setRow HM1.out.below HZL.out _, fun h => by cases h⟩
      | true =>
        have HCB := Lib.hid hcb
        clear hcb
        go_wp2_with fail
        obtain ⟨_, hk1, hk6, hkk, hl0, hl2⟩ := off_in HCB.out
        refine lower_step c c.kind.toNat ⟨hk1, hk6⟩ hkk hl0 hl2 wr.heap.size L W1 GC1.out _ _ _ _ _ _ _ _ _ _ _ _ _ _ _ _ _ _ _ _ _ _ _ _ _ _ _ _ _ _ _ _ _ _ _ _ _ _ _ _ _ _ _ _ _ _ _ _ _ _ body28n3 ?_
        intro _ _ _ _ _ _ _ _ _ _ _ _ _ _ _ _ _ b4
        obtain ⟨old, hc, hf, hlow⟩ := (HM1.out.keep b4).lower HL.out HLZ.out HCB.out
        refine lower_store c wr.heap.size L _ old _ ((b4.block _ (Array.getElem?_eq_some_iff.1 GC1.out).1).trans GC1.out) hc hf _ _ _ _ _ _ _ _ _ _ _ _ _ _ _ _ _ _ _ _ _ _ _ _ _ _ _ _ _ _ _ _ _ _ _ _ _ _ _ _ _ _ _ _ _ _ _ _ _ _ ?_
        intro _ _ _ _ _ _ _ _
        have HLOW := Lib.hid hlow
        clear hc hf hlow hk1 hk6 hkk hl0 hl2
        go_wp2_with fail
        conv => arg 2; whnf
        go_wp2_with fail
        go_roundw
        case rel => exact ⟨i + 1, by omega, by go_num, HLOW⟩
        case measure => simp [intOf]; omega
    · obtain rfl : i = n := by omega
      have hi' : ¬ (i : Int) < (i : Int) := by omega
      go_wp2_with fail
      exact HX.out _ _ _ _ _ _ _ _ _ _ _ _ _ _ _ _ _ _ _ _ _ _ _ _ _ _ _ _ _ _ _ _ _ _ _ _ _ _ _ _ _ _ _ _ _ _ _ _ _ _ hM.out
end Go.Proofs.YtggcbblikgankaaDoor
end
section
/- body.All: limits are made. -/
namespace Go.Proofs.YtggcbblikgankaaDoor
open Go Go.RowKit Go.Deep

noncomputable def part28n3 : Code := lastPart 3 code28
set_option maxRecDepth 100000 in
set_option maxHeartbeats 8000000 in
theorem limb_make (b : Bod) (B : Nat) (w3 : World) (g0 : w3.heap[B]? = some (.cells (bodCells b) 36 (0, 0))) (e0 e1 e3 e4 e5 e6 e7 e8 e9 e10 e11 e12 e13 e14 e15 e16 e17 e18 e19 e20 e21 e22 e23 e24 e25 e26 e27 e28 e29 e30 e31 e32 e33 e34 e35 e36 e37 e38 e39 e40 e41 e42 e43 e44 e45 e46 e47 e48 e49 e50 : Value) (R : Ending → World → Prop) (X : Code)
    (hX : ∀ (u20 u21 : Value), Code.wp Tryd.prog X (bodyPost Tryd.prog Tryd.f28 R) { tmps := #[e0, e1, .pointer (some ⟨B, 0, none⟩), e3, e4, e5, .pointer (some ⟨w3.heap.size, 0, none⟩), e7, e8, e9, e10, e11, e12, e13, e14, e15, e16, e17, e18, e19, u20, u21, e22, e23, e24, e25, e26, e27, e28, e29, e30, e31, e32, e33, e34, e35, e36, e37, e38, e39, e40, e41, e42, e43, e44, e45, e46, e47, e48, e49, e50], defers := [] } (w3.alloc (.cells (bodCells b) 112))) :
    Code.wp Tryd.prog (withLast 1 part28n3 X) (bodyPost Tryd.prog Tryd.f28 R) { tmps := #[e0, e1, .pointer (some ⟨B, 0, none⟩), e3, e4, e5, e6, e7, e8, e9, e10, e11, e12, e13, e14, e15, e16, e17, e18, e19, e20, e21, e22, e23, e24, e25, e26, e27, e28, e29, e30, e31, e32, e33, e34, e35, e36, e37, e38, e39, e40, e41, e42, e43, e44, e45, e46, e47, e48, e49, e50], defers := [] } w3 := by
  have hs1 : (w3.alloc (.cells #[.string ⟨#[]⟩, .int .i64 0, .int .i64 0, .int .i64 0, .int .i64 0, .int .i64 0, .int .i64 0, .int .i64 0, .int .i64 0, .int .i64 0, .int .i64 0, .int .i64 0, .int .i64 0, .int .i64 0, .int .i64 0, .int .i64 0, .int .i64 0] 112)).setRow w3.heap.size #[.string ⟨b.name.toArray⟩, .int .i64 b.weight, .int .i64 b.lift, .int .i64 b.girth, .int .i64 b.step, .int .i64 b.jump, .int .i64 b.r0, .int .i64 b.r1, .int .i64 b.r2, .int .i64 b.s0, .int .i64 b.s1, .int .i64 b.s2, .int .i64 b.t0, .int .i64 b.t1, .int .i64 b.t2, .int .i64 b.effort, .int .i64 b.recover] = w3.alloc (.cells #[.string ⟨b.name.toArray⟩, .int .i64 b.weight, .int .i64 b.lift, .int .i64 b.girth, .int .i64 b.step, .int .i64 b.jump, .int .i64 b.r0, .int .i64 b.r1, .int .i64 b.r2, .int .i64 b.s0, .int .i64 b.s1, .int .i64 b.s2, .int .i64 b.t0, .int .i64 b.t1, .int .i64 b.t2, .int .i64 b.effort, .int .i64 b.recover] 112) := World.setRow_alloc_new _ _ _ _
  have HS1 := Lib.hid hs1; clear hs1
  have HX := Lib.hid hX; have G0 := Lib.hid g0
  clear hX g0
  unfold part28n3 code28
  conv => arg 2; whnf
  simp only [withLast]
  iterate 9 (try first | (refine wpList_load_row_at rfl 36 _ rfl B rfl 36 #[.string ⟨b.name.toArray⟩, .int .i64 b.weight, .int .i64 b.lift, .int .i64 b.girth, .int .i64 b.step, .int .i64 b.jump, .int .i64 b.r0, .int .i64 b.r1, .int .i64 b.r2, .int .i64 b.s0, .int .i64 b.s1, .int .i64 b.s2, .int .i64 b.t0, .int .i64 b.t1, .int .i64 b.t2, .int .i64 b.effort, .int .i64 b.recover] (0, 0) _ G0.out Tryd.underlying36 rfl (by kernel_rfl) ?_; simp only [Act.put, List.setIfInBounds_toArray, List.set_cons_zero, List.set_cons_succ]) | go_step)
  refine wpList_store_row rfl 112 _ _ rfl w3.heap.size #[.string ⟨b.name.toArray⟩, .int .i64 b.weight, .int .i64 b.lift, .int .i64 b.girth, .int .i64 b.step, .int .i64 b.jump, .int .i64 b.r0, .int .i64 b.r1, .int .i64 b.r2, .int .i64 b.s0, .int .i64 b.s1, .int .i64 b.s2, .int .i64 b.t0, .int .i64 b.t1, .int .i64 b.t2, .int .i64 b.effort, .int .i64 b.recover] rfl rfl 112 #[.string ⟨#[]⟩, .int .i64 0, .int .i64 0, .int .i64 0, .int .i64 0, .int .i64 0, .int .i64 0, .int .i64 0, .int .i64 0, .int .i64 0, .int .i64 0, .int .i64 0, .int .i64 0, .int .i64 0, .int .i64 0, .int .i64 0, .int .i64 0] (heap_alloc_new w3 _) (by kernel_rfl) rfl (by simp [Value.oneCell']) ?_
  rw [HS1.out]
  go_wp2_with fail
  exact HX.out _ _
end Go.Proofs.YtggcbblikgankaaDoor
end
section
/- body.All: its contract. -/
namespace Go.Proofs.YtggcbblikgankaaDoor
open Go Go.RowKit Go.Deep

set_option maxRecDepth 100000 in
set_option maxHeartbeats 8000000 in
theorem all_head (b : Bod) (hbn : b.name.length ≤ maxLen) (n : Nat) (ao : Option Addr) (cc : Nat) (w : World) (X : Code)
    (hX : n ≤ 64 → bodB b = true → ∀ (w4 : World) (e0 e3 e6 e7 e8 e9 e10 e11 e12 e13 e14 e15 e16 e17 e18 e19 e20 e21 e22 e23 e24 e25 e26 e27 e28 e29 e30 e31 e32 e33 e34 e35 e36 e37 e38 e39 e40 e41 e42 e43 e44 e45 e46 e47 e48 e49 e50 : Value), Below w.heap.size w w4 → w4.heap[w.heap.size]? = some (.cells (bodCells b) 36 (0, 0)) → w4.heap[w.heap.size + 1]? = some (.cells (bodCells bodZ) 36 (0, 0)) → Code.wp Tryd.prog X (bodyPost Tryd.prog Tryd.f28 (AllP b w)) { tmps := #[e0, .slice ao n cc, .pointer (some ⟨w.heap.size, 0, none⟩), e3, .pointer (some ⟨(w.heap.size + 1), 0, none⟩), .int .i64 0, e6, e7, e8, e9, e10, e11, e12, e13, e14, e15, e16, e17, e18, e19, e20, e21, e22, e23, e24, e25, e26, e27, e28, e29, e30, e31, e32, e33, e34, e35, e36, e37, e38, e39, e40, e41, e42, e43, e44, e45, e46, e47, e48, e49, e50], defers := [] } w4) :
    Code.wp Tryd.prog (withLast 3 code28 X) (bodyPost Tryd.prog Tryd.f28 (AllP b w)) { tmps := #[bodV b, .slice ao n cc, undef, undef, undef, undef, undef, undef, undef, undef, undef, undef, undef, undef, undef, undef, undef, undef, undef, undef, undef, undef, undef, undef, undef, undef, undef, undef, undef, undef, undef, undef, undef, undef, undef, undef, undef, undef, undef, undef, undef, undef, undef, undef, undef, undef, undef, undef, undef, undef, undef], defers := [] } w := by
  have hbc := fun W => bcheck_any b hbn W
  obtain ⟨g0, g1, hz, hb⟩ := blocks2 w (.cells (bodCells b) 36) (.cells (bodCells bodZ) 36)
  have hbv : bodV b = .agg (bodCells b) := rfl
  rw [hbv]
  have G0 := Lib.hid g0; have G1 := Lib.hid g1; have HB := Lib.hid hb; have HZ := Lib.hid hz; have HBC := Lib.hid hbc; have HX := Lib.hid hX
  clear g0 g1 hz hb hbv hbc hX
  unfold code28
  conv => arg 2; whnf
  simp only [withLast]
  go_wp2_with (first | (refine wpList_load_row rfl 36 _ rfl w.heap.size rfl 36 (bodCells b) (0, 0) _ G0.out Tryd.underlying36 rfl (by kernel_rfl) ?_; simp only [Act.put, List.setIfInBounds_toArray, List.set_cons_zero, List.set_cons_succ]))
  generalize hw0 : (w.alloc (.cells (bodCells b) 36)).alloc (.cells (bodCells bodZ) 36) = w0 at *
  have hw0' : (w.alloc (.cells (bodCells b) 36)).alloc (.cells #[.string ⟨#[]⟩, .int .i64 0, .int .i64 0, .int .i64 0, .int .i64 0, .int .i64 0, .int .i64 0, .int .i64 0, .int .i64 0, .int .i64 0, .int .i64 0, .int .i64 0, .int .i64 0, .int .i64 0, .int .i64 0, .int .i64 0, .int .i64 0] 36) = w0 := hw0
  rw [hw0']
  clear hw0 hw0'
  refine (HBC.out w0).mono ?_
  rintro e w1 ⟨rfl, b1⟩
  have hz := HZ.out
  have hb1 := b1.size
  have B1 := Lib.hid (HB.out.trans (b1.mono (by omega)))
  have g0 := (b1.block w.heap.size (by omega)).trans G0.out
  have g1 := (b1.block (w.heap.size + 1) (by omega)).trans G1.out
  have hl : w.heap.size + 1 < w1.heap.size := by omega
  have H0 := Lib.hid g0; have H1 := Lib.hid g1; have HL := Lib.hid hl
  clear g0 g1 hz hb1 b1 hl G0 G1 HB HZ HBC
  cases hbb : bodB b with
  | false =>
    have hq : (codeI false 250 != 0) = true := rfl
    clear hbb
    go_wp2_with (first | (refine wpList_load_row_at rfl 36 _ rfl (w.heap.size + 1) rfl 36 (bodCells bodZ) (0, 0) _ H1.out Tryd.underlying36 rfl (by kernel_rfl) ?_; simp only [Act.put, List.setIfInBounds_toArray, List.set_cons_zero, List.set_cons_succ]) | (refine wpList_store_row rfl 36 _ _ rfl (w.heap.size + 1) (bodCells bodZ) rfl rfl 36 _ H1.out (by kernel_rfl) rfl (by simp [bodCells, Value.oneCell']) ?_))
    refine bodyPost_ret (results28 _ _ (w.heap.size + 1) (bodCells bodZ) _ rfl rfl (setRow_heap _ _ _ _ _ _ H1.out) rfl) rfl ⟨bodZ, codeI false 250, rfl, below_setRow B1.out (Nat.le_succ _) _, fun h => by cases h⟩
  | true =>
    have hq : (codeI true 250 != 0) = false := rfl
    have HBB := Lib.hid hbb
    clear hbb
    by_cases hn64 : n ≤ 64
    · have hi' : ¬ ((64 : Int) < (n : Int)) := by omega
      have h0 : codeI true 250 = 0 := rfl
      go_wp2_with fail
      exact HX.out hn64 (by first | exact HBB.out | trivial) _ _ _ _ _ _ _ _ _ _ _ _ _ _ _ _ _ _ _ _ _ _ _ _ _ _ _ _ _ _ _ _ _ _ _ _ _ _ _ _ _ _ _ _ _ _ _ _ B1.out H0.out H1.out
    · have hi' : ((64 : Int) < (n : Int)) := by omega
      go_wp2_with (first | (refine wpList_load_row_at rfl 36 _ rfl (w.heap.size + 1) rfl 36 (bodCells bodZ) (0, 0) _ H1.out Tryd.underlying36 rfl (by kernel_rfl) ?_; simp only [Act.put, List.setIfInBounds_toArray, List.set_cons_zero, List.set_cons_succ]) | (refine wpList_store_row rfl 36 _ _ rfl (w.heap.size + 1) (bodCells bodZ) rfl rfl 36 _ H1.out (by kernel_rfl) rfl (by simp [bodCells, Value.oneCell']) ?_))
      refine bodyPost_ret (results28 _ _ (w.heap.size + 1) (bodCells bodZ) _ rfl rfl (setRow_heap _ _ _ _ _ _ H1.out) rfl) rfl ⟨bodZ, 2, rfl, below_setRow B1.out (Nat.le_succ _) _, fun h => by cases h⟩
end Go.Proofs.YtggcbblikgankaaDoor
end
section
/- body.All: its contract. -/
namespace Go.Proofs.YtggcbblikgankaaDoor
open Go Go.RowKit Go.Deep

set_option maxRecDepth 100000 in
set_option maxHeartbeats 8000000 in
theorem all_tail (b : Bod) (hbb : bodB b = true) (L Z : Nat) (w w3 : World) (hZ : w.heap.size ≤ Z) (hA : LowAt b w L Z w3) (e0 e1 e2 e3 e5 e7 e8 e9 e10 e11 e12 e13 e14 e15 e16 e17 e18 e19 e20 e21 e22 e23 e24 e25 e26 e27 e28 e29 e30 e31 e32 e33 e34 e35 e36 e37 e38 e39 e40 e41 e42 e43 e44 e45 e46 e47 e48 e49 e50 : Value) :
    Code.wp Tryd.prog part28n5 (bodyPost Tryd.prog Tryd.f28 (AllP b w)) { tmps := #[e0, e1, e2, e3, .pointer (some ⟨Z, 0, none⟩), e5, .pointer (some ⟨L, 0, none⟩), e7, e8, e9, e10, e11, e12, e13, e14, e15, e16, e17, e18, e19, e20, e21, e22, e23, e24, e25, e26, e27, e28, e29, e30, e31, e32, e33, e34, e35, e36, e37, e38, e39, e40, e41, e42, e43, e44, e45, e46, e47, e48, e49, e50], defers := [] } w3 := by
  obtain ⟨h1, h2, a, h3, h4, h5⟩ := hA
  have H1 := Lib.hid h1; have H2 := Lib.hid h2; have H3 := Lib.hid h3; have H4 := Lib.hid h4; have H5 := Lib.hid h5; have HZ := Lib.hid hZ; have HBB := Lib.hid hbb
  clear h1 h2 h3 h4 h5 hZ hbb
  unfold part28n5 code28
  conv => arg 2; whnf
  go_wp2_with (first | (refine wpList_load_row_at rfl 36 _ rfl L rfl 112 (bodCells a) (0, 0) _ H3.out Tryd.underlying36 rfl (by kernel_rfl) ?_; simp only [Act.put, List.setIfInBounds_toArray, List.set_cons_zero, List.set_cons_succ]) | (refine wpList_store_row rfl 36 _ _ rfl Z (bodCells a) rfl rfl 36 _ H2.out (by kernel_rfl) rfl (by simp [bodCells, Value.oneCell']) ?_))
  refine bodyPost_ret (results28 _ _ Z (bodCells a) _ rfl rfl (setRow_heap _ _ _ _ _ _ H2.out) rfl) rfl ⟨a, 0, rfl, below_setRow H1.out HZ.out _, fun _ => ⟨H4.out, H5.out, HBB.out, H4.out.name⟩⟩
set_option maxRecDepth 100000 in
set_option maxHeartbeats 8000000 in
theorem all_any (b : Bod) (hbn : b.name.length ≤ maxLen) (cs : List Cap) (ao : Option Addr) (cc : Nat) (w : World) (hrow : IsRow encCap 3 w (.slice ao cs.length cc) cs) :
    Calls Tryd.prog 28 #[bodV b, .slice ao cs.length cc] w (AllP b w) := by
  go_enter Tryd.func28, Tryd.ntmps28
  change Code.wp Tryd.prog (withLast 3 code28 (withLast 1 part28n3 (withLast 1 part28n4 part28n5))) _ _ _
  refine all_head b hbn cs.length ao cc w _ ?_
  intro hn hbb w4 _ _ _ _ _ _ _ _ _ _ _ _ _ _ _ _ _ _ _ _ _ _ _ _ _ _ _ _ _ _ _ _ _ _ _ _ _ _ _ _ _ _ _ _ _ _ _ hb g0 g1
  refine limb_make b w.heap.size w4 g0 _ _ _ _ _ _ _ _ _ _ _ _ _ _ _ _ _ _ _ _ _ _ _ _ _ _ _ _ _ _ _ _ _ _ _ _ _ _ _ _ _ _ _ _ _ _ _ _ _ _ _ _ ?_
  intro _ _
  have hlt : w.heap.size + 1 < w4.heap.size := (Array.getElem?_eq_some_iff.1 g1).1
  refine caps_loop b hbb cs cs.length rfl hn ao cc w4.heap.size (w.heap.size + 1) w _ (by omega) (by omega) (by omega) (fun W h => hrow.below h (Nat.le_refl _)) ⟨hb.alloc hb.size _, (Below.heap_alloc w4 _ _ hlt).trans g1, b, heap_alloc_new w4 _, LeB.refl b, hbb⟩ _ _ _ _ _ _ _ _ _ _ _ _ _ _ _ _ _ _ _ _ _ _ _ _ _ _ _ _ _ _ _ _ _ _ _ _ _ _ _ _ _ _ _ _ _ _ _ _ ?_
  intro w5 _ _ _ _ _ _ _ _ _ _ _ _ _ _ _ _ _ _ _ _ _ _ _ _ _ _ _ _ _ _ _ _ _ _ _ _ _ _ _ _ _ _ _ _ _ _ _ _ _ hA
  exact all_tail b hbb w4.heap.size (w.heap.size + 1) w w5 (by omega) hA _ _ _ _ _ _ _ _ _ _ _ _ _ _ _ _ _ _ _ _ _ _ _ _ _ _ _ _ _ _ _ _ _ _ _ _ _ _ _ _ _ _ _ _ _ _ _ _ _
end Go.Proofs.YtggcbblikgankaaDoor
end
section
/- body.Weaker: the plain law. -/
namespace Go.Proofs.YtggcbblikgankaaDoor
open Go Go.RowKit

/-- The places in the order of the rules. -/
def offsAll : List Nat := [12, 13, 14, 9, 10, 11, 4, 5, 2, 15]
/-- What the closure writes, place for place. -/
def mostF (b a : Bod) (os : List Nat) : Bod := os.foldl (fun p o => bodSet p (bodGet b o) o) a
theorem LeB.get {a b : Bod} (h : LeB a b) {o : Nat} (ho : OffIn o) : bodGet a o ≤ bodGet b o := by
  rcases ho with rfl | rfl | rfl | rfl | rfl | rfl | rfl | rfl | rfl | rfl
  · exact h.lift
  · exact h.step
  · exact h.jump
  · exact h.s0
  · exact h.s1
  · exact h.s2
  · exact h.t0
  · exact h.t1
  · exact h.t2
  · exact h.effort
theorem LeB.raise {a b : Bod} (h : LeB a b) {o : Nat} (ho : OffIn o) : LeB (bodSet a (bodGet b o) o) b := by
  obtain ⟨h1, h2, h3, h4, h5, h6, h7, h8, h9, h10, h11, h12, h13, h14, h15, h16, h17⟩ := h
  rcases ho with rfl | rfl | rfl | rfl | rfl | rfl | rfl | rfl | rfl | rfl <;> refine ⟨h1, h2, h3, h4, h5, h6, h7, ?_, ?_, ?_, ?_, ?_, ?_, ?_, ?_, ?_, ?_⟩ <;> simp only [bodSet, bodGet] <;> first | assumption | exact Int.le_refl _
theorem most_all {a b : Bod} (h : LeB a b) : mostF b a offsAll = b := by
  obtain ⟨h1, h2, h3, h4, h5, h6, h7, _, _, _, _, _, _, _, _, _, _⟩ := h
  cases a
  cases b
  simp only at h1 h2 h3 h4 h5 h6 h7
  subst h1 h2 h3 h4 h5 h6 h7
  rfl
end Go.Proofs.YtggcbblikgankaaDoor
end
section
/- body.Weaker: the closure finds two fields. -/
namespace Go.Proofs.YtggcbblikgankaaDoor
open Go Go.RowKit Go.Deep

noncomputable def code59 : Code := (Tryd.f59.body).getD .skip
noncomputable def loop59 : Code := lopC (blkC (sndC (fstC (lastPart 1 code59))))
noncomputable def body59 : Code := blkC (fstC (sndC (sndC loop59)))
noncomputable def body59n1 : Code := lastPart 1 body59
noncomputable def body59n2 : Code := lastPart 2 body59
set_option maxRecDepth 100000 in
set_option maxHeartbeats 8000000 in
theorem most_doors (k : Nat) (hk : 1 ≤ k ∧ k ≤ 6) (x : Int) (hl0 : 0 ≤ x) (hl2 : x ≤ 2) (A B C : Nat) (w3 : World) (g0 : w3.heap[C]? = some (.cells (ruleK k) 117 (0, 0))) (e0 e4 e6 e7 e8 e9 e10 e11 e12 e13 e14 e15 e16 e17 e18 e19 e20 e21 e22 e23 e24 e25 e26 e27 e28 e29 e30 e31 e32 e33 e34 : Value) (Q : Exit → Act → World → Prop) (X : Code)
    (hX : ∀ (u14 u15 u16 u17 u18 u19 u20 u21 : Value), Code.wp Tryd.prog X Q { tmps := #[e0, .pointer (some ⟨A, 0, none⟩), .pointer (some ⟨B, 0, none⟩), .pointer (some ⟨C, 0, none⟩), e4, .int .i64 x, .pointer (some ⟨A, offOf k x, none⟩), .pointer (some ⟨B, offOf k x, none⟩), e8, e9, e10, e11, e12, e13, u14, u15, u16, u17, u18, u19, u20, u21, e22, e23, e24, e25, e26, e27, e28, e29, e30, e31, e32, e33, e34], defers := [] } w3.drew) :
    Code.wp Tryd.prog (withLast 1 body59n1 X) Q { tmps := #[e0, .pointer (some ⟨A, 0, none⟩), .pointer (some ⟨B, 0, none⟩), .pointer (some ⟨C, 0, none⟩), e4, .int .i64 x, e6, e7, e8, e9, e10, e11, e12, e13, e14, e15, e16, e17, e18, e19, e20, e21, e22, e23, e24, e25, e26, e27, e28, e29, e30, e31, e32, e33, e34], defers := [] } w3 := by
  have hkk : k = 1 ∨ k = 2 ∨ k = 3 ∨ k = 4 ∨ k = 5 ∨ k = 6 := by omega
  have HX := Lib.hid hX
  have gA0 : w3.drew.heap[C]? = some (.cells (ruleK k) 117 (0, 0)) := g0
  have hcell : ∀ w2 : World, w2.heap[C]? = some (.cells (ruleK k) 117 (0, 0)) → w2.cell? ⟨C, 0, none⟩ = some (.func (.func (78 + k)) #[] #[]) := fun w2 h => cell_at h 0 rfl
  have hd1 := fun (W : World) => door_any k hk x hl0 hl2 A W
  have hd2 := fun (W : World) => door_any k hk x hl0 hl2 B W
  have HCL := Lib.hid hcell; have HD1 := Lib.hid hd1; have HD2 := Lib.hid hd2
  clear hX g0 hcell hd1 hd2 hk hl0 hl2
  unfold body59n1 body59 loop59 code59
  conv => arg 2; whnf
  simp only [withLast]
  refine wp_seq (wp_mono (Q := noP (Exit.then (Code.wp Tryd.prog X Q) Q)) ?_ (noP_le _))
  refine wp_region_held (S := fun w2 => w2.heap[C]? = some (.cells (ruleK k) 117 (0, 0))) (by kernel_rfl) ?_
  change wpAnyH _ _ _ _ _ _ _ _ w3.drew
  generalize w3.drew = W0 at *
  refine wpAnyH_take (i := 0) (oi := _) (v := .pointer (some ⟨C, 0, none⟩)) rfl (by kernel_rfl) (by kernel_rfl) (by kernel_rfl) (fun c a w h => h) (Or.inl ⟨by rfl, fun w _ => by go_simp⟩) gA0 ?_
  try (simp only [Act.put, List.setIfInBounds_toArray, List.set_cons_zero, List.set_cons_succ])
  refine wpAnyH_take (i := 1) (oi := _) (v := .func (.func (78 + k)) #[] #[]) rfl (by kernel_rfl) (by kernel_rfl) (by kernel_rfl) (fun c a w h => h) (Or.inl ⟨by rfl, fun w h => by have := HCL.out w h; go_simp⟩) gA0 ?_
  try (simp only [Act.put, List.setIfInBounds_toArray, List.set_cons_zero, List.set_cons_succ])
  refine wpAnyH_take (i := 2) (oi := _) (v := .int .i64 x) rfl (by kernel_rfl) (by kernel_rfl) (by kernel_rfl) (fun c a w h => h) (Or.inl ⟨by rfl, fun w _ => by go_simp⟩) gA0 ?_
  try (simp only [Act.put, List.setIfInBounds_toArray, List.set_cons_zero, List.set_cons_succ])
  refine wpAnyH_take (i := 4) (oi := _) (v := .pointer (some ⟨C, 0, none⟩)) rfl (by kernel_rfl) (by kernel_rfl) (by kernel_rfl) (fun c a w h => h) (Or.inl ⟨by rfl, fun w _ => by go_simp⟩) gA0 ?_
  try (simp only [Act.put, List.setIfInBounds_toArray, List.set_cons_zero, List.set_cons_succ])
  refine wpAnyH_take (i := 5) (oi := _) (v := .func (.func (78 + k)) #[] #[]) rfl (by kernel_rfl) (by kernel_rfl) (by kernel_rfl) (fun c a w h => h) (Or.inl ⟨by rfl, fun w h => by have := HCL.out w h; go_simp⟩) gA0 ?_
  try (simp only [Act.put, List.setIfInBounds_toArray, List.set_cons_zero, List.set_cons_succ])
  refine wpAnyH_take (i := 6) (oi := _) (v := .int .i64 x) rfl (by kernel_rfl) (by kernel_rfl) (by kernel_rfl) (fun c a w h => h) (Or.inl ⟨by rfl, fun w _ => by go_simp⟩) gA0 ?_
  try (simp only [Act.put, List.setIfInBounds_toArray, List.set_cons_zero, List.set_cons_succ])
  rcases hkk with rfl | rfl | rfl | rfl | rfl | rfl
  all_goals
    refine wpAnyH_ready (rs := [3]) (by kernel_rfl) (by simp) ?_
    refine AllReadyH.cons (o := _) rfl (fun K1 hK => ?_) AllReadyH.nil
    go_simp
    refine (HD1.out W0).mono ?_
    rintro e W2 ⟨rfl, rfl⟩
    refine hK.out _ _ gA0 (fun _ => ?_)
    clear hK K1
    try (simp only [Act.put, List.setIfInBounds_toArray, List.set_cons_zero, List.set_cons_succ])
    refine wpAnyH_ready (rs := [7]) (by kernel_rfl) (by simp) ?_
    refine AllReadyH.cons (o := _) rfl (fun K1 hK => ?_) AllReadyH.nil
    go_simp
    refine (HD2.out W0).mono ?_
    rintro e W2 ⟨rfl, rfl⟩
    refine hK.out _ _ gA0 (fun _ => ?_)
    clear hK K1
    try (simp only [Act.put, List.setIfInBounds_toArray, List.set_cons_zero, List.set_cons_succ])
    refine wpAnyH_ready (rs := [8]) (by kernel_rfl) (by simp) ?_
    refine AllReadyH.cons (o := _) rfl (fun K1 hK => ?_) AllReadyH.nil
    go_simp
    refine hK.out _ _ gA0 (fun _ => ?_)
    clear hK K1
    try (simp only [Act.put, List.setIfInBounds_toArray, List.set_cons_zero, List.set_cons_succ])
    refine wpAnyH_ready (rs := [9]) (by kernel_rfl) (by simp) ?_
    refine AllReadyH.cons (o := _) rfl (fun K1 hK => ?_) AllReadyH.nil
    go_simp
    refine hK.out _ _ gA0 (fun _ => ?_)
    clear hK K1
    try (simp only [Act.put, List.setIfInBounds_toArray, List.set_cons_zero, List.set_cons_succ])
    refine wpAnyH_done (by kernel_rfl) ?_ _
    exact HX.out _ _ _ _ _ _ _ _
end Go.Proofs.YtggcbblikgankaaDoor
end
section
/- body.Weaker: what the closure's loop keeps. -/
namespace Go.Proofs.YtggcbblikgankaaDoor
open Go Go.RowKit

def placesK (k i : Nat) : List Nat := (List.range i).map (fun j : Nat => offOf k (j : Int))
theorem most_succ (b a : Bod) (k i : Nat) : mostF b a (placesK k (i + 1)) = bodSet (mostF b a (placesK k i)) (bodGet b (offOf k i)) (offOf k i) := by
  unfold mostF placesK
  rw [List.range_succ, List.map_append, List.foldl_append]
  rfl
theorem place_in {k i : Nat} (hk : 1 ≤ k ∧ k ≤ 6) (hi : (i : Int) ≤ lmaxOf k) : OffIn (offOf k i) := by
  have hkk : k = 1 ∨ k = 2 ∨ k = 3 ∨ k = 4 ∨ k = 5 ∨ k = 6 := by omega
  unfold lmaxOf at hi
  unfold offOf OffIn
  rcases hkk with rfl | rfl | rfl | rfl | rfl | rfl <;> simp at hi ⊢ <;> omega
theorem most_le {a b : Bod} (h : LeB a b) {k : Nat} (hk : 1 ≤ k ∧ k ≤ 6) : ∀ i : Nat, (i : Int) ≤ lmaxOf k + 1 → LeB (mostF b a (placesK k i)) b
  | 0, _ => h
  | i + 1, hi => by
    rw [most_succ]
    exact (most_le h hk i (by omega)).raise (place_in hk (by omega))
/-- The state of the closure's loop. -/
structure MostAt (a b : Bod) (k A B C n0 : Nat) (w : World) (i : Nat) (wr : World) : Prop where
  pa : wr.heap[A]? = some (.cells (bodCells (mostF b a (placesK k i))) 112 (0, 0))
  pb : wr.heap[B]? = some (.cells (bodCells b) 112 (0, 0))
  pc : wr.heap[C]? = some (.cells (ruleK k) 117 (0, 0))
  below : Below n0 w wr
  rest : ∀ (g : Nat) (c : Obj), g ≠ A → w.heap[g]? = some c → wr.heap[g]? = some c
theorem MostAt.drew {a b : Bod} {k A B C n0 i : Nat} {w wr : World} (h : MostAt a b k A B C n0 w i wr) : MostAt a b k A B C n0 w i wr.drew :=
  ⟨h.pa, h.pb, h.pc, h.below.drew, h.rest⟩
theorem MostAt.step {a b : Bod} {k A B C n0 i : Nat} {w wr : World} (hk : 1 ≤ k ∧ k ≤ 6) (hi : (i : Int) ≤ lmaxOf k) (hA : n0 ≤ A) (hAB : A ≠ B) (hAC : A ≠ C) (h : MostAt a b k A B C n0 w i wr) : MostAt a b k A B C n0 w (i + 1) (wr.setCell ⟨A, offOf k i, none⟩ (.int .i64 (bodGet b (offOf k i)))) := by
  have ho := place_in hk hi
  have other : ∀ g, g ≠ A → (wr.setCell ⟨A, offOf k i, none⟩ (.int .i64 (bodGet b (offOf k i)))).heap[g]? = wr.heap[g]? := fun g hg => by
    simp only [World.setCell, Array.getElem?_modify]
    rw [if_neg (fun e => hg e.symm)]
  refine ⟨?_, (other B (fun e => hAB e.symm)).trans h.pb, (other C (fun e => hAC e.symm)).trans h.pc, h.below.setCell (p := ⟨A, offOf k i, none⟩) hA _, fun g c hg hc => (other g hg).trans (h.rest g c hg hc)⟩
  rw [most_succ, ← bod_set _ _ ho]
  simp [World.setCell, Array.getElem?_modify, h.pa]
end Go.Proofs.YtggcbblikgankaaDoor
end
