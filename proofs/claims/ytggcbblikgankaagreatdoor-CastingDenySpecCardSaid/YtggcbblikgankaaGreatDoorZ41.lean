/- Contracts and plain laws on the way to the statement: part 41. -/
import Derived.Test.YtggcbblikgankaaGreatDoorZ40
set_option linter.unusedVariables false
set_option linter.unusedSimpArgs false
section
namespace Go.Proofs.YtggcbblikgankaaGreatDoor
open Go Go.RowKit Go.Deep
noncomputable def part65n1 : Code := lastPart 1 code65
noncomputable def part65n2 : Code := lastPart 2 code65
set_option maxRecDepth 100000 in
set_option maxHeartbeats 8000000 in
theorem start_make (aoC : Option Addr) (n m ccC : Nat) (hn0 : n ≤ 1000) (hm0 : m ≤ 1000) (w : World) (e2 e3 e4 e5 e6 e7 e8 e9 e10 e11 e12 e13 e14 e15 e16 e17 e18 e19 e20 e21 e22 e23 e24 e25 e26 e27 e28 e29 e30 e31 e32 e33 e34 e35 e36 e37 e38 e39 e40 e41 e42 e43 e44 e45 e46 e47 e48 e49 e50 e51 e52 e53 e54 e55 e56 e57 e58 e59 e60 e61 e62 e63 e64 e65 e66 e67 e68 e69 e70 e71 e72 e73 e74 e75 e76 e77 e78 e79 e80 e81 e82 e83 e84 e85 e86 e87 e88 e89 e90 e91 e92 e93 e94 e95 e96 e97 e98 e99 e100 e101 e102 e103 e104 e105 e106 e107 e108 e109 e110 e111 e112 e113 e114 e115 e116 e117 e118 e119 e120 e121 e122 e123 e124 e125 e126 e127 e128 e129 e130 e131 e132 e133 e134 e135 e136 e137 e138 e139 e140 e141 e142 e143 e144 e145 e146 e147 e148 e149 e150 e151 e152 e153 e154 e155 e156 e157 e158 e159 e160 e161 e162 e163 e164 e165 e166 e167 e168 e169 e170 e171 e172 e173 e174 e175 e176 e177 e178 e179 e180 e181 e182 e183 e184 e185 e186 e187 e188 e189 e190 e191 e192 e193 e194 e195 e196 e197 e198 e199 e200 e201 e202 e203 e204 e205 e206 e207 e208 e209 e210 e211 : Value) (Q : Exit → Act → World → Prop) (X : Code)
  (hX : ∀ (w' : World) (T U V : Nat) (f23 f24 f25 f26 f27 f28 f29 f30 : Value), Below w.heap.size w w' → BI w' T (List.replicate n 0) → BI w' U (List.replicate n 0) → BI w' V (List.replicate m 0) → (w.heap.size ≤ T ∧ w.heap.size ≤ U ∧ w.heap.size ≤ V) → (T ≠ U ∧ T ≠ V ∧ U ≠ V) → Code.wp Tryz.prog X Q { tmps := #[.slice aoC n ccC, .int .i64 m, e2, e3, .slice (some ⟨T, 0, none⟩) n n, .slice (some ⟨U, 0, none⟩) n n, .slice (some ⟨V, 0, none⟩) m m, e7, e8, e9, e10, e11, e12, e13, e14, e15, e16, e17, e18, e19, e20, e21, e22, f23, f24, f25, f26, f27, f28, f29, f30, e31, e32, e33, e34, e35, e36, e37, e38, e39, e40, e41, e42, e43, e44, e45, e46, e47, e48, e49, e50, e51, e52, e53, e54, e55, e56, e57, e58, e59, e60, e61, e62, e63, e64, e65, e66, e67, e68, e69, e70, e71, e72, e73, e74, e75, e76, e77, e78, e79, e80, e81, e82, e83, e84, e85, e86, e87, e88, e89, e90, e91, e92, e93, e94, e95, e96, e97, e98, e99, e100, e101, e102, e103, e104, e105, e106, e107, e108, e109, e110, e111, e112, e113, e114, e115, e116, e117, e118, e119, e120, e121, e122, e123, e124, e125, e126, e127, e128, e129, e130, e131, e132, e133, e134, e135, e136, e137, e138, e139, e140, e141, e142, e143, e144, e145, e146, e147, e148, e149, e150, e151, e152, e153, e154, e155, e156, e157, e158, e159, e160, e161, e162, e163, e164, e165, e166, e167, e168, e169, e170, e171, e172, e173, e174, e175, e176, e177, e178, e179, e180, e181, e182, e183, e184, e185, e186, e187, e188, e189, e190, e191, e192, e193, e194, e195, e196, e197, e198, e199, e200, e201, e202, e203, e204, e205, e206, e207, e208, e209, e210, e211], defers := [] } w') :
  Code.wp Tryz.prog (withLast 1 part65n1 X) Q { tmps := #[.slice aoC n ccC, .int .i64 m, e2, e3, e4, e5, e6, e7, e8, e9, e10, e11, e12, e13, e14, e15, e16, e17, e18, e19, e20, e21, e22, e23, e24, e25, e26, e27, e28, e29, e30, e31, e32, e33, e34, e35, e36, e37, e38, e39, e40, e41, e42, e43, e44, e45, e46, e47, e48, e49, e50, e51, e52, e53, e54, e55, e56, e57, e58, e59, e60, e61, e62, e63, e64, e65, e66, e67, e68, e69, e70, e71, e72, e73, e74, e75, e76, e77, e78, e79, e80, e81, e82, e83, e84, e85, e86, e87, e88, e89, e90, e91, e92, e93, e94, e95, e96, e97, e98, e99, e100, e101, e102, e103, e104, e105, e106, e107, e108, e109, e110, e111, e112, e113, e114, e115, e116, e117, e118, e119, e120, e121, e122, e123, e124, e125, e126, e127, e128, e129, e130, e131, e132, e133, e134, e135, e136, e137, e138, e139, e140, e141, e142, e143, e144, e145, e146, e147, e148, e149, e150, e151, e152, e153, e154, e155, e156, e157, e158, e159, e160, e161, e162, e163, e164, e165, e166, e167, e168, e169, e170, e171, e172, e173, e174, e175, e176, e177, e178, e179, e180, e181, e182, e183, e184, e185, e186, e187, e188, e189, e190, e191, e192, e193, e194, e195, e196, e197, e198, e199, e200, e201, e202, e203, e204, e205, e206, e207, e208, e209, e210, e211], defers := [] } w := by
 have HX := Lib.hid hX
 clear hX
 have hmk1 := fun (W : World) => make_ints n hn0 W
 have hmk2 := fun (W : World) => make_ints m hm0 W
 have hB : Below w.heap.size w w.drew := (Below.refl _ w).drew
 unfold part65n1 code65
 conv => arg 2; whnf
 simp only [withLast]
 refine wp_seq (wp_mono (Q := noP (Exit.then (Code.wp Tryz.prog X Q) Q)) ?_ (noP_le _))
 refine wp_region_held (S := fun _ => True) (by kernel_rfl) ?_
 change wpAnyH _ _ _ _ _ _ _ _ w.drew
 have hz0 : w.heap.size = w.drew.heap.size := rfl
 generalize w.drew = V0 at *
 refine wpAnyH_take (i := 0) (oi := _) (v := .slice aoC n ccC) rfl (by kernel_rfl) (by kernel_rfl) (by kernel_rfl) (fun _ _ _ h => h) (Or.inl ⟨by rfl, fun w _ => by go_simp⟩) trivial ?_
 try (simp only [Act.put, List.getElem_toArray, List.getElem_cons_zero, List.getElem_cons_succ, List.setIfInBounds_toArray, List.set_cons_zero, List.set_cons_succ])
 refine wpAnyH_take (i := 1) (oi := _) (v := .int .i64 n) rfl (by kernel_rfl) (by kernel_rfl) (by kernel_rfl) (fun _ _ _ h => h) (Or.inl ⟨by rfl, fun w _ => by go_simp⟩) trivial ?_
 try (simp only [Act.put, List.getElem_toArray, List.getElem_cons_zero, List.getElem_cons_succ, List.setIfInBounds_toArray, List.set_cons_zero, List.set_cons_succ])
 refine wpAnyH_take (i := 3) (oi := _) (v := .slice aoC n ccC) rfl (by kernel_rfl) (by kernel_rfl) (by kernel_rfl) (fun _ _ _ h => h) (Or.inl ⟨by rfl, fun w _ => by go_simp⟩) trivial ?_
 try (simp only [Act.put, List.getElem_toArray, List.getElem_cons_zero, List.getElem_cons_succ, List.setIfInBounds_toArray, List.set_cons_zero, List.set_cons_succ])
 refine wpAnyH_take (i := 4) (oi := _) (v := .int .i64 n) rfl (by kernel_rfl) (by kernel_rfl) (by kernel_rfl) (fun _ _ _ h => h) (Or.inl ⟨by rfl, fun w _ => by go_simp⟩) trivial ?_
 try (simp only [Act.put, List.getElem_toArray, List.getElem_cons_zero, List.getElem_cons_succ, List.setIfInBounds_toArray, List.set_cons_zero, List.set_cons_succ])
 refine wpAnyH_take (i := 6) (oi := _) (v := .int .i64 m) rfl (by kernel_rfl) (by kernel_rfl) (by kernel_rfl) (fun _ _ _ h => h) (Or.inl ⟨by rfl, fun w _ => by go_simp⟩) trivial ?_
 try (simp only [Act.put, List.getElem_toArray, List.getElem_cons_zero, List.getElem_cons_succ, List.setIfInBounds_toArray, List.set_cons_zero, List.set_cons_succ])
 refine wpAnyH_ready (rs := [2, 5, 7]) (by kernel_rfl) (by simp) ?_
 refine AllReadyH.cons (o := _) rfl (fun K1 hK => ?_) (AllReadyH.cons (o := _) rfl (fun K2 hK => ?_) (AllReadyH.cons (o := _) rfl (fun K3 hK => ?_) AllReadyH.nil))
 ·go_simp
  obtain ⟨V1, hV1, gV1, bV1⟩ := mk_step V0 (.cells (Array.replicate n (.int .i64 0)) 3)
  rw [hV1]
  clear hV1
  have hB := hB.trans (bV1.mono hB.size)
  have zV1 : V0.heap.size < V1.heap.size := (Array.getElem?_eq_some_iff.1 gV1).1
  have gT := made_ints gV1
  refine hK.out _ _ trivial (fun _ => ?_)
  clear hK K1
  try (simp only [Act.put, List.getElem_toArray, List.getElem_cons_zero, List.getElem_cons_succ, List.setIfInBounds_toArray, List.set_cons_zero, List.set_cons_succ])
  refine wpAnyH_ready (rs := [5, 7, 8]) (by kernel_rfl) (by simp) ?_
  refine AllReadyH.cons (o := _) rfl (fun K1 hK => ?_) (AllReadyH.cons (o := _) rfl (fun K2 hK => ?_) (AllReadyH.cons (o := _) rfl (fun K3 hK => ?_) AllReadyH.nil))
  ·go_simp
   obtain ⟨V2, hV2, gV2, bV2⟩ := mk_step V1 (.cells (Array.replicate n (.int .i64 0)) 3)
   rw [hV2]
   clear hV2
   have gT := gT.below bV2 (by have := gT.lt; omega)
   have hB := hB.trans (bV2.mono hB.size)
   have zV2 : V1.heap.size < V2.heap.size := (Array.getElem?_eq_some_iff.1 gV2).1
   have gU := made_ints gV2
   refine hK.out _ _ trivial (fun _ => ?_)
   clear hK K1
   try (simp only [Act.put, List.getElem_toArray, List.getElem_cons_zero, List.getElem_cons_succ, List.setIfInBounds_toArray, List.set_cons_zero, List.set_cons_succ])
   refine wpAnyH_ready (rs := [7, 8]) (by kernel_rfl) (by simp) ?_
   refine AllReadyH.cons (o := _) rfl (fun K1 hK => ?_) (AllReadyH.cons (o := _) rfl (fun K2 hK => ?_) AllReadyH.nil)
   ·go_simp
    obtain ⟨V3, hV3, gV3, bV3⟩ := mk_step V2 (.cells (Array.replicate m (.int .i64 0)) 3)
    rw [hV3]
    clear hV3
    have gT := gT.below bV3 (by have := gT.lt; omega)
    have gU := gU.below bV3 (by have := gU.lt; omega)
    have hB := hB.trans (bV3.mono hB.size)
    have zV3 : V2.heap.size < V3.heap.size := (Array.getElem?_eq_some_iff.1 gV3).1
    have gV := made_ints gV3
    refine hK.out _ _ trivial (fun _ => ?_)
    clear hK K1
    try (simp only [Act.put, List.getElem_toArray, List.getElem_cons_zero, List.getElem_cons_succ, List.setIfInBounds_toArray, List.set_cons_zero, List.set_cons_succ])
    refine wpAnyH_ready (rs := [8]) (by kernel_rfl) (by simp) ?_
    refine AllReadyH.cons (o := _) rfl (fun K1 hK => ?_) AllReadyH.nil
    go_simp
    refine hK.out _ _ trivial (fun _ => ?_)
    clear hK K1
    try (simp only [Act.put, List.getElem_toArray, List.getElem_cons_zero, List.getElem_cons_succ, List.setIfInBounds_toArray, List.set_cons_zero, List.set_cons_succ])
    refine wpAnyH_ready (rs := [9]) (by kernel_rfl) (by simp) ?_
    refine AllReadyH.cons (o := _) rfl (fun K1 hK => ?_) AllReadyH.nil
    go_simp
    refine hK.out _ _ trivial (fun _ => ?_)
    clear hK K1
    try (simp only [Act.put, List.getElem_toArray, List.getElem_cons_zero, List.getElem_cons_succ, List.setIfInBounds_toArray, List.set_cons_zero, List.set_cons_succ])
    refine wpAnyH_ready (rs := [10]) (by kernel_rfl) (by simp) ?_
    refine AllReadyH.cons (o := _) rfl (fun K1 hK => ?_) AllReadyH.nil
    go_simp
    refine hK.out _ _ trivial (fun _ => ?_)
    clear hK K1
    try (simp only [Act.put, List.getElem_toArray, List.getElem_cons_zero, List.getElem_cons_succ, List.setIfInBounds_toArray, List.set_cons_zero, List.set_cons_succ])
    refine wpAnyH_done (by kernel_rfl) ?_ _
    exact HX.out _ _ _ _ _ _ _ _ _ _ _ _ hB gT gU gV ⟨by omega, by omega, by omega⟩ ⟨by omega, by omega, by omega⟩
   ·go_simp
    refine hK.out _ _ trivial (fun _ => ?_)
    clear hK K2
    try (simp only [Act.put, List.getElem_toArray, List.getElem_cons_zero, List.getElem_cons_succ, List.setIfInBounds_toArray, List.set_cons_zero, List.set_cons_succ])
    refine wpAnyH_ready (rs := [7, 9]) (by kernel_rfl) (by simp) ?_
    refine AllReadyH.cons (o := _) rfl (fun K1 hK => ?_) (AllReadyH.cons (o := _) rfl (fun K2 hK => ?_) AllReadyH.nil)
    ·go_simp
     obtain ⟨V8, hV8, gV8, bV8⟩ := mk_step V2 (.cells (Array.replicate m (.int .i64 0)) 3)
     rw [hV8]
     clear hV8
     have gT := gT.below bV8 (by have := gT.lt; omega)
     have gU := gU.below bV8 (by have := gU.lt; omega)
     have hB := hB.trans (bV8.mono hB.size)
     have zV8 : V2.heap.size < V8.heap.size := (Array.getElem?_eq_some_iff.1 gV8).1
     have gV := made_ints gV8
     refine hK.out _ _ trivial (fun _ => ?_)
     clear hK K1
     try (simp only [Act.put, List.getElem_toArray, List.getElem_cons_zero, List.getElem_cons_succ, List.setIfInBounds_toArray, List.set_cons_zero, List.set_cons_succ])
     refine wpAnyH_ready (rs := [9]) (by kernel_rfl) (by simp) ?_
     refine AllReadyH.cons (o := _) rfl (fun K1 hK => ?_) AllReadyH.nil
     go_simp
     refine hK.out _ _ trivial (fun _ => ?_)
     clear hK K1
     try (simp only [Act.put, List.getElem_toArray, List.getElem_cons_zero, List.getElem_cons_succ, List.setIfInBounds_toArray, List.set_cons_zero, List.set_cons_succ])
     refine wpAnyH_ready (rs := [10]) (by kernel_rfl) (by simp) ?_
     refine AllReadyH.cons (o := _) rfl (fun K1 hK => ?_) AllReadyH.nil
     go_simp
     refine hK.out _ _ trivial (fun _ => ?_)
     clear hK K1
     try (simp only [Act.put, List.getElem_toArray, List.getElem_cons_zero, List.getElem_cons_succ, List.setIfInBounds_toArray, List.set_cons_zero, List.set_cons_succ])
     refine wpAnyH_done (by kernel_rfl) ?_ _
     exact HX.out _ _ _ _ _ _ _ _ _ _ _ _ hB gT gU gV ⟨by omega, by omega, by omega⟩ ⟨by omega, by omega, by omega⟩
    ·go_simp
     refine hK.out _ _ trivial (fun _ => ?_)
     clear hK K2
     try (simp only [Act.put, List.getElem_toArray, List.getElem_cons_zero, List.getElem_cons_succ, List.setIfInBounds_toArray, List.set_cons_zero, List.set_cons_succ])
     refine wpAnyH_ready (rs := [7]) (by kernel_rfl) (by simp) ?_
     refine AllReadyH.cons (o := _) rfl (fun K1 hK => ?_) AllReadyH.nil
     go_simp
     obtain ⟨V12, hV12, gV12, bV12⟩ := mk_step V2 (.cells (Array.replicate m (.int .i64 0)) 3)
     rw [hV12]
     clear hV12
     have gT := gT.below bV12 (by have := gT.lt; omega)
     have gU := gU.below bV12 (by have := gU.lt; omega)
     have hB := hB.trans (bV12.mono hB.size)
     have zV12 : V2.heap.size < V12.heap.size := (Array.getElem?_eq_some_iff.1 gV12).1
     have gV := made_ints gV12
     refine hK.out _ _ trivial (fun _ => ?_)
     clear hK K1
     try (simp only [Act.put, List.getElem_toArray, List.getElem_cons_zero, List.getElem_cons_succ, List.setIfInBounds_toArray, List.set_cons_zero, List.set_cons_succ])
     refine wpAnyH_ready (rs := [10]) (by kernel_rfl) (by simp) ?_
     refine AllReadyH.cons (o := _) rfl (fun K1 hK => ?_) AllReadyH.nil
     go_simp
     refine hK.out _ _ trivial (fun _ => ?_)
     clear hK K1
     try (simp only [Act.put, List.getElem_toArray, List.getElem_cons_zero, List.getElem_cons_succ, List.setIfInBounds_toArray, List.set_cons_zero, List.set_cons_succ])
     refine wpAnyH_done (by kernel_rfl) ?_ _
     exact HX.out _ _ _ _ _ _ _ _ _ _ _ _ hB gT gU gV ⟨by omega, by omega, by omega⟩ ⟨by omega, by omega, by omega⟩
  ·go_simp
   obtain ⟨V14, hV14, gV14, bV14⟩ := mk_step V1 (.cells (Array.replicate m (.int .i64 0)) 3)
   rw [hV14]
   clear hV14
   have gT := gT.below bV14 (by have := gT.lt; omega)
   have hB := hB.trans (bV14.mono hB.size)
   have zV14 : V1.heap.size < V14.heap.size := (Array.getElem?_eq_some_iff.1 gV14).1
   have gV := made_ints gV14
   refine hK.out _ _ trivial (fun _ => ?_)
   clear hK K2
   try (simp only [Act.put, List.getElem_toArray, List.getElem_cons_zero, List.getElem_cons_succ, List.setIfInBounds_toArray, List.set_cons_zero, List.set_cons_succ])
   refine wpAnyH_ready (rs := [5, 8]) (by kernel_rfl) (by simp) ?_
   refine AllReadyH.cons (o := _) rfl (fun K1 hK => ?_) (AllReadyH.cons (o := _) rfl (fun K2 hK => ?_) AllReadyH.nil)
   ·go_simp
    obtain ⟨V15, hV15, gV15, bV15⟩ := mk_step V14 (.cells (Array.replicate n (.int .i64 0)) 3)
    rw [hV15]
    clear hV15
    have gT := gT.below bV15 (by have := gT.lt; omega)
    have gV := gV.below bV15 (by have := gV.lt; omega)
    have hB := hB.trans (bV15.mono hB.size)
    have zV15 : V14.heap.size < V15.heap.size := (Array.getElem?_eq_some_iff.1 gV15).1
    have gU := made_ints gV15
    refine hK.out _ _ trivial (fun _ => ?_)
    clear hK K1
    try (simp only [Act.put, List.getElem_toArray, List.getElem_cons_zero, List.getElem_cons_succ, List.setIfInBounds_toArray, List.set_cons_zero, List.set_cons_succ])
    refine wpAnyH_ready (rs := [8]) (by kernel_rfl) (by simp) ?_
    refine AllReadyH.cons (o := _) rfl (fun K1 hK => ?_) AllReadyH.nil
    go_simp
    refine hK.out _ _ trivial (fun _ => ?_)
    clear hK K1
    try (simp only [Act.put, List.getElem_toArray, List.getElem_cons_zero, List.getElem_cons_succ, List.setIfInBounds_toArray, List.set_cons_zero, List.set_cons_succ])
    refine wpAnyH_ready (rs := [9]) (by kernel_rfl) (by simp) ?_
    refine AllReadyH.cons (o := _) rfl (fun K1 hK => ?_) AllReadyH.nil
    go_simp
    refine hK.out _ _ trivial (fun _ => ?_)
    clear hK K1
    try (simp only [Act.put, List.getElem_toArray, List.getElem_cons_zero, List.getElem_cons_succ, List.setIfInBounds_toArray, List.set_cons_zero, List.set_cons_succ])
    refine wpAnyH_ready (rs := [10]) (by kernel_rfl) (by simp) ?_
    refine AllReadyH.cons (o := _) rfl (fun K1 hK => ?_) AllReadyH.nil
    go_simp
    refine hK.out _ _ trivial (fun _ => ?_)
    clear hK K1
    try (simp only [Act.put, List.getElem_toArray, List.getElem_cons_zero, List.getElem_cons_succ, List.setIfInBounds_toArray, List.set_cons_zero, List.set_cons_succ])
    refine wpAnyH_done (by kernel_rfl) ?_ _
    exact HX.out _ _ _ _ _ _ _ _ _ _ _ _ hB gT gU gV ⟨by omega, by omega, by omega⟩ ⟨by omega, by omega, by omega⟩
   ·go_simp
    refine hK.out _ _ trivial (fun _ => ?_)
    clear hK K2
    try (simp only [Act.put, List.getElem_toArray, List.getElem_cons_zero, List.getElem_cons_succ, List.setIfInBounds_toArray, List.set_cons_zero, List.set_cons_succ])
    refine wpAnyH_ready (rs := [5]) (by kernel_rfl) (by simp) ?_
    refine AllReadyH.cons (o := _) rfl (fun K1 hK => ?_) AllReadyH.nil
    go_simp
    obtain ⟨V20, hV20, gV20, bV20⟩ := mk_step V14 (.cells (Array.replicate n (.int .i64 0)) 3)
    rw [hV20]
    clear hV20
    have gT := gT.below bV20 (by have := gT.lt; omega)
    have gV := gV.below bV20 (by have := gV.lt; omega)
    have hB := hB.trans (bV20.mono hB.size)
    have zV20 : V14.heap.size < V20.heap.size := (Array.getElem?_eq_some_iff.1 gV20).1
    have gU := made_ints gV20
    refine hK.out _ _ trivial (fun _ => ?_)
    clear hK K1
    try (simp only [Act.put, List.getElem_toArray, List.getElem_cons_zero, List.getElem_cons_succ, List.setIfInBounds_toArray, List.set_cons_zero, List.set_cons_succ])
    refine wpAnyH_ready (rs := [9]) (by kernel_rfl) (by simp) ?_
    refine AllReadyH.cons (o := _) rfl (fun K1 hK => ?_) AllReadyH.nil
    go_simp
    refine hK.out _ _ trivial (fun _ => ?_)
    clear hK K1
    try (simp only [Act.put, List.getElem_toArray, List.getElem_cons_zero, List.getElem_cons_succ, List.setIfInBounds_toArray, List.set_cons_zero, List.set_cons_succ])
    refine wpAnyH_ready (rs := [10]) (by kernel_rfl) (by simp) ?_
    refine AllReadyH.cons (o := _) rfl (fun K1 hK => ?_) AllReadyH.nil
    go_simp
    refine hK.out _ _ trivial (fun _ => ?_)
    clear hK K1
    try (simp only [Act.put, List.getElem_toArray, List.getElem_cons_zero, List.getElem_cons_succ, List.setIfInBounds_toArray, List.set_cons_zero, List.set_cons_succ])
    refine wpAnyH_done (by kernel_rfl) ?_ _
    exact HX.out _ _ _ _ _ _ _ _ _ _ _ _ hB gT gU gV ⟨by omega, by omega, by omega⟩ ⟨by omega, by omega, by omega⟩
  ·go_simp
   refine hK.out _ _ trivial (fun _ => ?_)
   clear hK K3
   try (simp only [Act.put, List.getElem_toArray, List.getElem_cons_zero, List.getElem_cons_succ, List.setIfInBounds_toArray, List.set_cons_zero, List.set_cons_succ])
   refine wpAnyH_ready (rs := [5, 7]) (by kernel_rfl) (by simp) ?_
   refine AllReadyH.cons (o := _) rfl (fun K1 hK => ?_) (AllReadyH.cons (o := _) rfl (fun K2 hK => ?_) AllReadyH.nil)
   ·go_simp
    obtain ⟨V24, hV24, gV24, bV24⟩ := mk_step V1 (.cells (Array.replicate n (.int .i64 0)) 3)
    rw [hV24]
    clear hV24
    have gT := gT.below bV24 (by have := gT.lt; omega)
    have hB := hB.trans (bV24.mono hB.size)
    have zV24 : V1.heap.size < V24.heap.size := (Array.getElem?_eq_some_iff.1 gV24).1
    have gU := made_ints gV24
    refine hK.out _ _ trivial (fun _ => ?_)
    clear hK K1
    try (simp only [Act.put, List.getElem_toArray, List.getElem_cons_zero, List.getElem_cons_succ, List.setIfInBounds_toArray, List.set_cons_zero, List.set_cons_succ])
    refine wpAnyH_ready (rs := [7, 9]) (by kernel_rfl) (by simp) ?_
    refine AllReadyH.cons (o := _) rfl (fun K1 hK => ?_) (AllReadyH.cons (o := _) rfl (fun K2 hK => ?_) AllReadyH.nil)
    ·go_simp
     obtain ⟨V25, hV25, gV25, bV25⟩ := mk_step V24 (.cells (Array.replicate m (.int .i64 0)) 3)
     rw [hV25]
     clear hV25
     have gT := gT.below bV25 (by have := gT.lt; omega)
     have gU := gU.below bV25 (by have := gU.lt; omega)
     have hB := hB.trans (bV25.mono hB.size)
     have zV25 : V24.heap.size < V25.heap.size := (Array.getElem?_eq_some_iff.1 gV25).1
     have gV := made_ints gV25
     refine hK.out _ _ trivial (fun _ => ?_)
     clear hK K1
     try (simp only [Act.put, List.getElem_toArray, List.getElem_cons_zero, List.getElem_cons_succ, List.setIfInBounds_toArray, List.set_cons_zero, List.set_cons_succ])
     refine wpAnyH_ready (rs := [9]) (by kernel_rfl) (by simp) ?_
     refine AllReadyH.cons (o := _) rfl (fun K1 hK => ?_) AllReadyH.nil
     go_simp
     refine hK.out _ _ trivial (fun _ => ?_)
     clear hK K1
     try (simp only [Act.put, List.getElem_toArray, List.getElem_cons_zero, List.getElem_cons_succ, List.setIfInBounds_toArray, List.set_cons_zero, List.set_cons_succ])
     refine wpAnyH_ready (rs := [10]) (by kernel_rfl) (by simp) ?_
     refine AllReadyH.cons (o := _) rfl (fun K1 hK => ?_) AllReadyH.nil
     go_simp
     refine hK.out _ _ trivial (fun _ => ?_)
     clear hK K1
     try (simp only [Act.put, List.getElem_toArray, List.getElem_cons_zero, List.getElem_cons_succ, List.setIfInBounds_toArray, List.set_cons_zero, List.set_cons_succ])
     refine wpAnyH_done (by kernel_rfl) ?_ _
     exact HX.out _ _ _ _ _ _ _ _ _ _ _ _ hB gT gU gV ⟨by omega, by omega, by omega⟩ ⟨by omega, by omega, by omega⟩
    ·go_simp
     refine hK.out _ _ trivial (fun _ => ?_)
     clear hK K2
     try (simp only [Act.put, List.getElem_toArray, List.getElem_cons_zero, List.getElem_cons_succ, List.setIfInBounds_toArray, List.set_cons_zero, List.set_cons_succ])
     refine wpAnyH_ready (rs := [7]) (by kernel_rfl) (by simp) ?_
     refine AllReadyH.cons (o := _) rfl (fun K1 hK => ?_) AllReadyH.nil
     go_simp
     obtain ⟨V29, hV29, gV29, bV29⟩ := mk_step V24 (.cells (Array.replicate m (.int .i64 0)) 3)
     rw [hV29]
     clear hV29
     have gT := gT.below bV29 (by have := gT.lt; omega)
     have gU := gU.below bV29 (by have := gU.lt; omega)
     have hB := hB.trans (bV29.mono hB.size)
     have zV29 : V24.heap.size < V29.heap.size := (Array.getElem?_eq_some_iff.1 gV29).1
     have gV := made_ints gV29
     refine hK.out _ _ trivial (fun _ => ?_)
     clear hK K1
     try (simp only [Act.put, List.getElem_toArray, List.getElem_cons_zero, List.getElem_cons_succ, List.setIfInBounds_toArray, List.set_cons_zero, List.set_cons_succ])
     refine wpAnyH_ready (rs := [10]) (by kernel_rfl) (by simp) ?_
     refine AllReadyH.cons (o := _) rfl (fun K1 hK => ?_) AllReadyH.nil
     go_simp
     refine hK.out _ _ trivial (fun _ => ?_)
     clear hK K1
     try (simp only [Act.put, List.getElem_toArray, List.getElem_cons_zero, List.getElem_cons_succ, List.setIfInBounds_toArray, List.set_cons_zero, List.set_cons_succ])
     refine wpAnyH_done (by kernel_rfl) ?_ _
     exact HX.out _ _ _ _ _ _ _ _ _ _ _ _ hB gT gU gV ⟨by omega, by omega, by omega⟩ ⟨by omega, by omega, by omega⟩
   ·go_simp
    obtain ⟨V31, hV31, gV31, bV31⟩ := mk_step V1 (.cells (Array.replicate m (.int .i64 0)) 3)
    rw [hV31]
    clear hV31
    have gT := gT.below bV31 (by have := gT.lt; omega)
    have hB := hB.trans (bV31.mono hB.size)
    have zV31 : V1.heap.size < V31.heap.size := (Array.getElem?_eq_some_iff.1 gV31).1
    have gV := made_ints gV31
    refine hK.out _ _ trivial (fun _ => ?_)
    clear hK K2
    try (simp only [Act.put, List.getElem_toArray, List.getElem_cons_zero, List.getElem_cons_succ, List.setIfInBounds_toArray, List.set_cons_zero, List.set_cons_succ])
    refine wpAnyH_ready (rs := [5]) (by kernel_rfl) (by simp) ?_
    refine AllReadyH.cons (o := _) rfl (fun K1 hK => ?_) AllReadyH.nil
    go_simp
    obtain ⟨V32, hV32, gV32, bV32⟩ := mk_step V31 (.cells (Array.replicate n (.int .i64 0)) 3)
    rw [hV32]
    clear hV32
    have gT := gT.below bV32 (by have := gT.lt; omega)
    have gV := gV.below bV32 (by have := gV.lt; omega)
    have hB := hB.trans (bV32.mono hB.size)
    have zV32 : V31.heap.size < V32.heap.size := (Array.getElem?_eq_some_iff.1 gV32).1
    have gU := made_ints gV32
    refine hK.out _ _ trivial (fun _ => ?_)
    clear hK K1
    try (simp only [Act.put, List.getElem_toArray, List.getElem_cons_zero, List.getElem_cons_succ, List.setIfInBounds_toArray, List.set_cons_zero, List.set_cons_succ])
    refine wpAnyH_ready (rs := [9]) (by kernel_rfl) (by simp) ?_
    refine AllReadyH.cons (o := _) rfl (fun K1 hK => ?_) AllReadyH.nil
    go_simp
    refine hK.out _ _ trivial (fun _ => ?_)
    clear hK K1
    try (simp only [Act.put, List.getElem_toArray, List.getElem_cons_zero, List.getElem_cons_succ, List.setIfInBounds_toArray, List.set_cons_zero, List.set_cons_succ])
    refine wpAnyH_ready (rs := [10]) (by kernel_rfl) (by simp) ?_
    refine AllReadyH.cons (o := _) rfl (fun K1 hK => ?_) AllReadyH.nil
    go_simp
    refine hK.out _ _ trivial (fun _ => ?_)
    clear hK K1
    try (simp only [Act.put, List.getElem_toArray, List.getElem_cons_zero, List.getElem_cons_succ, List.setIfInBounds_toArray, List.set_cons_zero, List.set_cons_succ])
    refine wpAnyH_done (by kernel_rfl) ?_ _
    exact HX.out _ _ _ _ _ _ _ _ _ _ _ _ hB gT gU gV ⟨by omega, by omega, by omega⟩ ⟨by omega, by omega, by omega⟩
 ·go_simp
  obtain ⟨V35, hV35, gV35, bV35⟩ := mk_step V0 (.cells (Array.replicate n (.int .i64 0)) 3)
  rw [hV35]
  clear hV35
  have hB := hB.trans (bV35.mono hB.size)
  have zV35 : V0.heap.size < V35.heap.size := (Array.getElem?_eq_some_iff.1 gV35).1
  have gU := made_ints gV35
  refine hK.out _ _ trivial (fun _ => ?_)
  clear hK K2
  try (simp only [Act.put, List.getElem_toArray, List.getElem_cons_zero, List.getElem_cons_succ, List.setIfInBounds_toArray, List.set_cons_zero, List.set_cons_succ])
  refine wpAnyH_ready (rs := [2, 7]) (by kernel_rfl) (by simp) ?_
  refine AllReadyH.cons (o := _) rfl (fun K1 hK => ?_) (AllReadyH.cons (o := _) rfl (fun K2 hK => ?_) AllReadyH.nil)
  ·go_simp
   obtain ⟨V36, hV36, gV36, bV36⟩ := mk_step V35 (.cells (Array.replicate n (.int .i64 0)) 3)
   rw [hV36]
   clear hV36
   have gU := gU.below bV36 (by have := gU.lt; omega)
   have hB := hB.trans (bV36.mono hB.size)
   have zV36 : V35.heap.size < V36.heap.size := (Array.getElem?_eq_some_iff.1 gV36).1
   have gT := made_ints gV36
   refine hK.out _ _ trivial (fun _ => ?_)
   clear hK K1
   try (simp only [Act.put, List.getElem_toArray, List.getElem_cons_zero, List.getElem_cons_succ, List.setIfInBounds_toArray, List.set_cons_zero, List.set_cons_succ])
   refine wpAnyH_ready (rs := [7, 8]) (by kernel_rfl) (by simp) ?_
   refine AllReadyH.cons (o := _) rfl (fun K1 hK => ?_) (AllReadyH.cons (o := _) rfl (fun K2 hK => ?_) AllReadyH.nil)
   ·go_simp
    obtain ⟨V37, hV37, gV37, bV37⟩ := mk_step V36 (.cells (Array.replicate m (.int .i64 0)) 3)
    rw [hV37]
    clear hV37
    have gU := gU.below bV37 (by have := gU.lt; omega)
    have gT := gT.below bV37 (by have := gT.lt; omega)
    have hB := hB.trans (bV37.mono hB.size)
    have zV37 : V36.heap.size < V37.heap.size := (Array.getElem?_eq_some_iff.1 gV37).1
    have gV := made_ints gV37
    refine hK.out _ _ trivial (fun _ => ?_)
    clear hK K1
    try (simp only [Act.put, List.getElem_toArray, List.getElem_cons_zero, List.getElem_cons_succ, List.setIfInBounds_toArray, List.set_cons_zero, List.set_cons_succ])
    refine wpAnyH_ready (rs := [8]) (by kernel_rfl) (by simp) ?_
    refine AllReadyH.cons (o := _) rfl (fun K1 hK => ?_) AllReadyH.nil
    go_simp
    refine hK.out _ _ trivial (fun _ => ?_)
    clear hK K1
    try (simp only [Act.put, List.getElem_toArray, List.getElem_cons_zero, List.getElem_cons_succ, List.setIfInBounds_toArray, List.set_cons_zero, List.set_cons_succ])
    refine wpAnyH_ready (rs := [9]) (by kernel_rfl) (by simp) ?_
    refine AllReadyH.cons (o := _) rfl (fun K1 hK => ?_) AllReadyH.nil
    go_simp
    refine hK.out _ _ trivial (fun _ => ?_)
    clear hK K1
    try (simp only [Act.put, List.getElem_toArray, List.getElem_cons_zero, List.getElem_cons_succ, List.setIfInBounds_toArray, List.set_cons_zero, List.set_cons_succ])
    refine wpAnyH_ready (rs := [10]) (by kernel_rfl) (by simp) ?_
    refine AllReadyH.cons (o := _) rfl (fun K1 hK => ?_) AllReadyH.nil
    go_simp
    refine hK.out _ _ trivial (fun _ => ?_)
    clear hK K1
    try (simp only [Act.put, List.getElem_toArray, List.getElem_cons_zero, List.getElem_cons_succ, List.setIfInBounds_toArray, List.set_cons_zero, List.set_cons_succ])
    refine wpAnyH_done (by kernel_rfl) ?_ _
    exact HX.out _ _ _ _ _ _ _ _ _ _ _ _ hB gT gU gV ⟨by omega, by omega, by omega⟩ ⟨by omega, by omega, by omega⟩
   ·go_simp
    refine hK.out _ _ trivial (fun _ => ?_)
    clear hK K2
    try (simp only [Act.put, List.getElem_toArray, List.getElem_cons_zero, List.getElem_cons_succ, List.setIfInBounds_toArray, List.set_cons_zero, List.set_cons_succ])
    refine wpAnyH_ready (rs := [7, 9]) (by kernel_rfl) (by simp) ?_
    refine AllReadyH.cons (o := _) rfl (fun K1 hK => ?_) (AllReadyH.cons (o := _) rfl (fun K2 hK => ?_) AllReadyH.nil)
    ·go_simp
     obtain ⟨V42, hV42, gV42, bV42⟩ := mk_step V36 (.cells (Array.replicate m (.int .i64 0)) 3)
     rw [hV42]
     clear hV42
     have gU := gU.below bV42 (by have := gU.lt; omega)
     have gT := gT.below bV42 (by have := gT.lt; omega)
     have hB := hB.trans (bV42.mono hB.size)
     have zV42 : V36.heap.size < V42.heap.size := (Array.getElem?_eq_some_iff.1 gV42).1
     have gV := made_ints gV42
     refine hK.out _ _ trivial (fun _ => ?_)
     clear hK K1
     try (simp only [Act.put, List.getElem_toArray, List.getElem_cons_zero, List.getElem_cons_succ, List.setIfInBounds_toArray, List.set_cons_zero, List.set_cons_succ])
     refine wpAnyH_ready (rs := [9]) (by kernel_rfl) (by simp) ?_
     refine AllReadyH.cons (o := _) rfl (fun K1 hK => ?_) AllReadyH.nil
     go_simp
     refine hK.out _ _ trivial (fun _ => ?_)
     clear hK K1
     try (simp only [Act.put, List.getElem_toArray, List.getElem_cons_zero, List.getElem_cons_succ, List.setIfInBounds_toArray, List.set_cons_zero, List.set_cons_succ])
     refine wpAnyH_ready (rs := [10]) (by kernel_rfl) (by simp) ?_
     refine AllReadyH.cons (o := _) rfl (fun K1 hK => ?_) AllReadyH.nil
     go_simp
     refine hK.out _ _ trivial (fun _ => ?_)
     clear hK K1
     try (simp only [Act.put, List.getElem_toArray, List.getElem_cons_zero, List.getElem_cons_succ, List.setIfInBounds_toArray, List.set_cons_zero, List.set_cons_succ])
     refine wpAnyH_done (by kernel_rfl) ?_ _
     exact HX.out _ _ _ _ _ _ _ _ _ _ _ _ hB gT gU gV ⟨by omega, by omega, by omega⟩ ⟨by omega, by omega, by omega⟩
    ·go_simp
     refine hK.out _ _ trivial (fun _ => ?_)
     clear hK K2
     try (simp only [Act.put, List.getElem_toArray, List.getElem_cons_zero, List.getElem_cons_succ, List.setIfInBounds_toArray, List.set_cons_zero, List.set_cons_succ])
     refine wpAnyH_ready (rs := [7]) (by kernel_rfl) (by simp) ?_
     refine AllReadyH.cons (o := _) rfl (fun K1 hK => ?_) AllReadyH.nil
     go_simp
     obtain ⟨V46, hV46, gV46, bV46⟩ := mk_step V36 (.cells (Array.replicate m (.int .i64 0)) 3)
     rw [hV46]
     clear hV46
     have gU := gU.below bV46 (by have := gU.lt; omega)
     have gT := gT.below bV46 (by have := gT.lt; omega)
     have hB := hB.trans (bV46.mono hB.size)
     have zV46 : V36.heap.size < V46.heap.size := (Array.getElem?_eq_some_iff.1 gV46).1
     have gV := made_ints gV46
     refine hK.out _ _ trivial (fun _ => ?_)
     clear hK K1
     try (simp only [Act.put, List.getElem_toArray, List.getElem_cons_zero, List.getElem_cons_succ, List.setIfInBounds_toArray, List.set_cons_zero, List.set_cons_succ])
     refine wpAnyH_ready (rs := [10]) (by kernel_rfl) (by simp) ?_
     refine AllReadyH.cons (o := _) rfl (fun K1 hK => ?_) AllReadyH.nil
     go_simp
     refine hK.out _ _ trivial (fun _ => ?_)
     clear hK K1
     try (simp only [Act.put, List.getElem_toArray, List.getElem_cons_zero, List.getElem_cons_succ, List.setIfInBounds_toArray, List.set_cons_zero, List.set_cons_succ])
     refine wpAnyH_done (by kernel_rfl) ?_ _
     exact HX.out _ _ _ _ _ _ _ _ _ _ _ _ hB gT gU gV ⟨by omega, by omega, by omega⟩ ⟨by omega, by omega, by omega⟩
  ·go_simp
   obtain ⟨V48, hV48, gV48, bV48⟩ := mk_step V35 (.cells (Array.replicate m (.int .i64 0)) 3)
   rw [hV48]
   clear hV48
   have gU := gU.below bV48 (by have := gU.lt; omega)
   have hB := hB.trans (bV48.mono hB.size)
   have zV48 : V35.heap.size < V48.heap.size := (Array.getElem?_eq_some_iff.1 gV48).1
   have gV := made_ints gV48
   refine hK.out _ _ trivial (fun _ => ?_)
   clear hK K2
   try (simp only [Act.put, List.getElem_toArray, List.getElem_cons_zero, List.getElem_cons_succ, List.setIfInBounds_toArray, List.set_cons_zero, List.set_cons_succ])
   refine wpAnyH_ready (rs := [2]) (by kernel_rfl) (by simp) ?_
   refine AllReadyH.cons (o := _) rfl (fun K1 hK => ?_) AllReadyH.nil
   go_simp
   obtain ⟨V49, hV49, gV49, bV49⟩ := mk_step V48 (.cells (Array.replicate n (.int .i64 0)) 3)
   rw [hV49]
   clear hV49
   have gU := gU.below bV49 (by have := gU.lt; omega)
   have gV := gV.below bV49 (by have := gV.lt; omega)
   have hB := hB.trans (bV49.mono hB.size)
   have zV49 : V48.heap.size < V49.heap.size := (Array.getElem?_eq_some_iff.1 gV49).1
   have gT := made_ints gV49
   refine hK.out _ _ trivial (fun _ => ?_)
   clear hK K1
   try (simp only [Act.put, List.getElem_toArray, List.getElem_cons_zero, List.getElem_cons_succ, List.setIfInBounds_toArray, List.set_cons_zero, List.set_cons_succ])
   refine wpAnyH_ready (rs := [8]) (by kernel_rfl) (by simp) ?_
   refine AllReadyH.cons (o := _) rfl (fun K1 hK => ?_) AllReadyH.nil
   go_simp
   refine hK.out _ _ trivial (fun _ => ?_)
   clear hK K1
   try (simp only [Act.put, List.getElem_toArray, List.getElem_cons_zero, List.getElem_cons_succ, List.setIfInBounds_toArray, List.set_cons_zero, List.set_cons_succ])
   refine wpAnyH_ready (rs := [9]) (by kernel_rfl) (by simp) ?_
   refine AllReadyH.cons (o := _) rfl (fun K1 hK => ?_) AllReadyH.nil
   go_simp
   refine hK.out _ _ trivial (fun _ => ?_)
   clear hK K1
   try (simp only [Act.put, List.getElem_toArray, List.getElem_cons_zero, List.getElem_cons_succ, List.setIfInBounds_toArray, List.set_cons_zero, List.set_cons_succ])
   refine wpAnyH_ready (rs := [10]) (by kernel_rfl) (by simp) ?_
   refine AllReadyH.cons (o := _) rfl (fun K1 hK => ?_) AllReadyH.nil
   go_simp
   refine hK.out _ _ trivial (fun _ => ?_)
   clear hK K1
   try (simp only [Act.put, List.getElem_toArray, List.getElem_cons_zero, List.getElem_cons_succ, List.setIfInBounds_toArray, List.set_cons_zero, List.set_cons_succ])
   refine wpAnyH_done (by kernel_rfl) ?_ _
   exact HX.out _ _ _ _ _ _ _ _ _ _ _ _ hB gT gU gV ⟨by omega, by omega, by omega⟩ ⟨by omega, by omega, by omega⟩
 ·go_simp
  obtain ⟨V53, hV53, gV53, bV53⟩ := mk_step V0 (.cells (Array.replicate m (.int .i64 0)) 3)
  rw [hV53]
  clear hV53
  have hB := hB.trans (bV53.mono hB.size)
  have zV53 : V0.heap.size < V53.heap.size := (Array.getElem?_eq_some_iff.1 gV53).1
  have gV := made_ints gV53
  refine hK.out _ _ trivial (fun _ => ?_)
  clear hK K3
  try (simp only [Act.put, List.getElem_toArray, List.getElem_cons_zero, List.getElem_cons_succ, List.setIfInBounds_toArray, List.set_cons_zero, List.set_cons_succ])
  refine wpAnyH_ready (rs := [2, 5]) (by kernel_rfl) (by simp) ?_
  refine AllReadyH.cons (o := _) rfl (fun K1 hK => ?_) (AllReadyH.cons (o := _) rfl (fun K2 hK => ?_) AllReadyH.nil)
  ·go_simp
   obtain ⟨V54, hV54, gV54, bV54⟩ := mk_step V53 (.cells (Array.replicate n (.int .i64 0)) 3)
   rw [hV54]
   clear hV54
   have gV := gV.below bV54 (by have := gV.lt; omega)
   have hB := hB.trans (bV54.mono hB.size)
   have zV54 : V53.heap.size < V54.heap.size := (Array.getElem?_eq_some_iff.1 gV54).1
   have gT := made_ints gV54
   refine hK.out _ _ trivial (fun _ => ?_)
   clear hK K1
   try (simp only [Act.put, List.getElem_toArray, List.getElem_cons_zero, List.getElem_cons_succ, List.setIfInBounds_toArray, List.set_cons_zero, List.set_cons_succ])
   refine wpAnyH_ready (rs := [5, 8]) (by kernel_rfl) (by simp) ?_
   refine AllReadyH.cons (o := _) rfl (fun K1 hK => ?_) (AllReadyH.cons (o := _) rfl (fun K2 hK => ?_) AllReadyH.nil)
   ·go_simp
    obtain ⟨V55, hV55, gV55, bV55⟩ := mk_step V54 (.cells (Array.replicate n (.int .i64 0)) 3)
    rw [hV55]
    clear hV55
    have gV := gV.below bV55 (by have := gV.lt; omega)
    have gT := gT.below bV55 (by have := gT.lt; omega)
    have hB := hB.trans (bV55.mono hB.size)
    have zV55 : V54.heap.size < V55.heap.size := (Array.getElem?_eq_some_iff.1 gV55).1
    have gU := made_ints gV55
    refine hK.out _ _ trivial (fun _ => ?_)
    clear hK K1
    try (simp only [Act.put, List.getElem_toArray, List.getElem_cons_zero, List.getElem_cons_succ, List.setIfInBounds_toArray, List.set_cons_zero, List.set_cons_succ])
    refine wpAnyH_ready (rs := [8]) (by kernel_rfl) (by simp) ?_
    refine AllReadyH.cons (o := _) rfl (fun K1 hK => ?_) AllReadyH.nil
    go_simp
    refine hK.out _ _ trivial (fun _ => ?_)
    clear hK K1
    try (simp only [Act.put, List.getElem_toArray, List.getElem_cons_zero, List.getElem_cons_succ, List.setIfInBounds_toArray, List.set_cons_zero, List.set_cons_succ])
    refine wpAnyH_ready (rs := [9]) (by kernel_rfl) (by simp) ?_
    refine AllReadyH.cons (o := _) rfl (fun K1 hK => ?_) AllReadyH.nil
    go_simp
    refine hK.out _ _ trivial (fun _ => ?_)
    clear hK K1
    try (simp only [Act.put, List.getElem_toArray, List.getElem_cons_zero, List.getElem_cons_succ, List.setIfInBounds_toArray, List.set_cons_zero, List.set_cons_succ])
    refine wpAnyH_ready (rs := [10]) (by kernel_rfl) (by simp) ?_
    refine AllReadyH.cons (o := _) rfl (fun K1 hK => ?_) AllReadyH.nil
    go_simp
    refine hK.out _ _ trivial (fun _ => ?_)
    clear hK K1
    try (simp only [Act.put, List.getElem_toArray, List.getElem_cons_zero, List.getElem_cons_succ, List.setIfInBounds_toArray, List.set_cons_zero, List.set_cons_succ])
    refine wpAnyH_done (by kernel_rfl) ?_ _
    exact HX.out _ _ _ _ _ _ _ _ _ _ _ _ hB gT gU gV ⟨by omega, by omega, by omega⟩ ⟨by omega, by omega, by omega⟩
   ·go_simp
    refine hK.out _ _ trivial (fun _ => ?_)
    clear hK K2
    try (simp only [Act.put, List.getElem_toArray, List.getElem_cons_zero, List.getElem_cons_succ, List.setIfInBounds_toArray, List.set_cons_zero, List.set_cons_succ])
    refine wpAnyH_ready (rs := [5]) (by kernel_rfl) (by simp) ?_
    refine AllReadyH.cons (o := _) rfl (fun K1 hK => ?_) AllReadyH.nil
    go_simp
    obtain ⟨V60, hV60, gV60, bV60⟩ := mk_step V54 (.cells (Array.replicate n (.int .i64 0)) 3)
    rw [hV60]
    clear hV60
    have gV := gV.below bV60 (by have := gV.lt; omega)
    have gT := gT.below bV60 (by have := gT.lt; omega)
    have hB := hB.trans (bV60.mono hB.size)
    have zV60 : V54.heap.size < V60.heap.size := (Array.getElem?_eq_some_iff.1 gV60).1
    have gU := made_ints gV60
    refine hK.out _ _ trivial (fun _ => ?_)
    clear hK K1
    try (simp only [Act.put, List.getElem_toArray, List.getElem_cons_zero, List.getElem_cons_succ, List.setIfInBounds_toArray, List.set_cons_zero, List.set_cons_succ])
    refine wpAnyH_ready (rs := [9]) (by kernel_rfl) (by simp) ?_
    refine AllReadyH.cons (o := _) rfl (fun K1 hK => ?_) AllReadyH.nil
    go_simp
    refine hK.out _ _ trivial (fun _ => ?_)
    clear hK K1
    try (simp only [Act.put, List.getElem_toArray, List.getElem_cons_zero, List.getElem_cons_succ, List.setIfInBounds_toArray, List.set_cons_zero, List.set_cons_succ])
    refine wpAnyH_ready (rs := [10]) (by kernel_rfl) (by simp) ?_
    refine AllReadyH.cons (o := _) rfl (fun K1 hK => ?_) AllReadyH.nil
    go_simp
    refine hK.out _ _ trivial (fun _ => ?_)
    clear hK K1
    try (simp only [Act.put, List.getElem_toArray, List.getElem_cons_zero, List.getElem_cons_succ, List.setIfInBounds_toArray, List.set_cons_zero, List.set_cons_succ])
    refine wpAnyH_done (by kernel_rfl) ?_ _
    exact HX.out _ _ _ _ _ _ _ _ _ _ _ _ hB gT gU gV ⟨by omega, by omega, by omega⟩ ⟨by omega, by omega, by omega⟩
  ·go_simp
   obtain ⟨V63, hV63, gV63, bV63⟩ := mk_step V53 (.cells (Array.replicate n (.int .i64 0)) 3)
   rw [hV63]
   clear hV63
   have gV := gV.below bV63 (by have := gV.lt; omega)
   have hB := hB.trans (bV63.mono hB.size)
   have zV63 : V53.heap.size < V63.heap.size := (Array.getElem?_eq_some_iff.1 gV63).1
   have gU := made_ints gV63
   refine hK.out _ _ trivial (fun _ => ?_)
   clear hK K2
   try (simp only [Act.put, List.getElem_toArray, List.getElem_cons_zero, List.getElem_cons_succ, List.setIfInBounds_toArray, List.set_cons_zero, List.set_cons_succ])
   refine wpAnyH_ready (rs := [2]) (by kernel_rfl) (by simp) ?_
   refine AllReadyH.cons (o := _) rfl (fun K1 hK => ?_) AllReadyH.nil
   go_simp
   obtain ⟨V64, hV64, gV64, bV64⟩ := mk_step V63 (.cells (Array.replicate n (.int .i64 0)) 3)
   rw [hV64]
   clear hV64
   have gV := gV.below bV64 (by have := gV.lt; omega)
   have gU := gU.below bV64 (by have := gU.lt; omega)
   have hB := hB.trans (bV64.mono hB.size)
   have zV64 : V63.heap.size < V64.heap.size := (Array.getElem?_eq_some_iff.1 gV64).1
   have gT := made_ints gV64
   refine hK.out _ _ trivial (fun _ => ?_)
   clear hK K1
   try (simp only [Act.put, List.getElem_toArray, List.getElem_cons_zero, List.getElem_cons_succ, List.setIfInBounds_toArray, List.set_cons_zero, List.set_cons_succ])
   refine wpAnyH_ready (rs := [8]) (by kernel_rfl) (by simp) ?_
   refine AllReadyH.cons (o := _) rfl (fun K1 hK => ?_) AllReadyH.nil
   go_simp
   refine hK.out _ _ trivial (fun _ => ?_)
   clear hK K1
   try (simp only [Act.put, List.getElem_toArray, List.getElem_cons_zero, List.getElem_cons_succ, List.setIfInBounds_toArray, List.set_cons_zero, List.set_cons_succ])
   refine wpAnyH_ready (rs := [9]) (by kernel_rfl) (by simp) ?_
   refine AllReadyH.cons (o := _) rfl (fun K1 hK => ?_) AllReadyH.nil
   go_simp
   refine hK.out _ _ trivial (fun _ => ?_)
   clear hK K1
   try (simp only [Act.put, List.getElem_toArray, List.getElem_cons_zero, List.getElem_cons_succ, List.setIfInBounds_toArray, List.set_cons_zero, List.set_cons_succ])
   refine wpAnyH_ready (rs := [10]) (by kernel_rfl) (by simp) ?_
   refine AllReadyH.cons (o := _) rfl (fun K1 hK => ?_) AllReadyH.nil
   go_simp
   refine hK.out _ _ trivial (fun _ => ?_)
   clear hK K1
   try (simp only [Act.put, List.getElem_toArray, List.getElem_cons_zero, List.getElem_cons_succ, List.setIfInBounds_toArray, List.set_cons_zero, List.set_cons_succ])
   refine wpAnyH_done (by kernel_rfl) ?_ _
   exact HX.out _ _ _ _ _ _ _ _ _ _ _ _ hB gT gU gV ⟨by omega, by omega, by omega⟩ ⟨by omega, by omega, by omega⟩
set_option maxRecDepth 100000 in
set_option maxHeartbeats 8000000 in
theorem start_owner (m : Nat) (hm0 : m ≤ 1000) (w : World) (e0 e2 e3 e4 e5 e6 e7 e8 e9 e10 e11 e12 e13 e14 e15 e16 e17 e18 e19 e20 e21 e22 e23 e24 e25 e26 e27 e28 e29 e30 e31 e32 e33 e34 e35 e36 e37 e38 e39 e40 e41 e42 e43 e44 e45 e46 e47 e48 e49 e50 e51 e52 e53 e54 e55 e56 e57 e58 e59 e60 e61 e62 e63 e64 e65 e66 e67 e68 e69 e70 e71 e72 e73 e74 e75 e76 e77 e78 e79 e80 e81 e82 e83 e84 e85 e86 e87 e88 e89 e90 e91 e92 e93 e94 e95 e96 e97 e98 e99 e100 e101 e102 e103 e104 e105 e106 e107 e108 e109 e110 e111 e112 e113 e114 e115 e116 e117 e118 e119 e120 e121 e122 e123 e124 e125 e126 e127 e128 e129 e130 e131 e132 e133 e134 e135 e136 e137 e138 e139 e140 e141 e142 e143 e144 e145 e146 e147 e148 e149 e150 e151 e152 e153 e154 e155 e156 e157 e158 e159 e160 e161 e162 e163 e164 e165 e166 e167 e168 e169 e170 e171 e172 e173 e174 e175 e176 e177 e178 e179 e180 e181 e182 e183 e184 e185 e186 e187 e188 e189 e190 e191 e192 e193 e194 e195 e196 e197 e198 e199 e200 e201 e202 e203 e204 e205 e206 e207 e208 e209 e210 e211 : Value) (Q : Exit → Act → World → Prop) (X : Code)
  (hX : ∀ (w' : World) (O : Nat) (f31 f32 f33 : Value), Below w.heap.size w w' → BI w' O (List.replicate m (-1)) → w.heap.size ≤ O → Code.wp Tryz.prog X Q { tmps := #[e0, .int .i64 m, e2, e3, e4, e5, e6, e7, .slice (some ⟨O, 0, none⟩) m m, e9, e10, e11, e12, e13, e14, e15, e16, e17, e18, e19, e20, e21, e22, e23, e24, e25, e26, e27, e28, e29, e30, f31, f32, f33, e34, e35, e36, e37, e38, e39, e40, e41, e42, e43, e44, e45, e46, e47, e48, e49, e50, e51, e52, e53, e54, e55, e56, e57, e58, e59, e60, e61, e62, e63, e64, e65, e66, e67, e68, e69, e70, e71, e72, e73, e74, e75, e76, e77, e78, e79, e80, e81, e82, e83, e84, e85, e86, e87, e88, e89, e90, e91, e92, e93, e94, e95, e96, e97, e98, e99, e100, e101, e102, e103, e104, e105, e106, e107, e108, e109, e110, e111, e112, e113, e114, e115, e116, e117, e118, e119, e120, e121, e122, e123, e124, e125, e126, e127, e128, e129, e130, e131, e132, e133, e134, e135, e136, e137, e138, e139, e140, e141, e142, e143, e144, e145, e146, e147, e148, e149, e150, e151, e152, e153, e154, e155, e156, e157, e158, e159, e160, e161, e162, e163, e164, e165, e166, e167, e168, e169, e170, e171, e172, e173, e174, e175, e176, e177, e178, e179, e180, e181, e182, e183, e184, e185, e186, e187, e188, e189, e190, e191, e192, e193, e194, e195, e196, e197, e198, e199, e200, e201, e202, e203, e204, e205, e206, e207, e208, e209, e210, e211], defers := [] } w') :
  Code.wp Tryz.prog (withLast 1 part65n2 X) Q { tmps := #[e0, .int .i64 m, e2, e3, e4, e5, e6, e7, e8, e9, e10, e11, e12, e13, e14, e15, e16, e17, e18, e19, e20, e21, e22, e23, e24, e25, e26, e27, e28, e29, e30, e31, e32, e33, e34, e35, e36, e37, e38, e39, e40, e41, e42, e43, e44, e45, e46, e47, e48, e49, e50, e51, e52, e53, e54, e55, e56, e57, e58, e59, e60, e61, e62, e63, e64, e65, e66, e67, e68, e69, e70, e71, e72, e73, e74, e75, e76, e77, e78, e79, e80, e81, e82, e83, e84, e85, e86, e87, e88, e89, e90, e91, e92, e93, e94, e95, e96, e97, e98, e99, e100, e101, e102, e103, e104, e105, e106, e107, e108, e109, e110, e111, e112, e113, e114, e115, e116, e117, e118, e119, e120, e121, e122, e123, e124, e125, e126, e127, e128, e129, e130, e131, e132, e133, e134, e135, e136, e137, e138, e139, e140, e141, e142, e143, e144, e145, e146, e147, e148, e149, e150, e151, e152, e153, e154, e155, e156, e157, e158, e159, e160, e161, e162, e163, e164, e165, e166, e167, e168, e169, e170, e171, e172, e173, e174, e175, e176, e177, e178, e179, e180, e181, e182, e183, e184, e185, e186, e187, e188, e189, e190, e191, e192, e193, e194, e195, e196, e197, e198, e199, e200, e201, e202, e203, e204, e205, e206, e207, e208, e209, e210, e211], defers := [] } w := by
 have HX := Lib.hid hX
 have hr := repeat_any (-1) m hm0 w.heap.size (w.alloc (.cells #[.int .i64 (-1)] 3)) (by simp) (cell_at (heap_alloc_new w _) 0 rfl)
 have HR := Lib.hid hr
 have HB := Lib.hid (show Below w.heap.size w (w.alloc (.cells #[.int .i64 (-1)] 3)) from (Below.refl _ w).alloc (Nat.le_refl _) _)
 clear hX hr
 unfold part65n2 code65
 conv => arg 2; whnf
 simp only [withLast]
 go_wp2_with fail
 refine HR.out.mono ?_
 rintro e w1 ⟨O, rfl, hO, hI, hb⟩
 have HI := Lib.hid hI; have HB2 := Lib.hid (HB.out.trans (hb.mono HB.out.size)); have HO := Lib.hid (Nat.le_trans HB.out.size hO)
 clear hI hb hO HR
 go_wp2_with fail
 exact HX.out _ O _ _ _ HB2.out HI.out HO.out
end Go.Proofs.YtggcbblikgankaaGreatDoor
end
