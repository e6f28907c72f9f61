/- The walk of the statement: part 15. -/
import Derived.Test.YtpnbpepkoekkoaaYRSCp14
import Derived.Test.YtpnbpepkoekkoaaYRSCp4
import Derived.Test.YtpnbpepkoekkoaaYRSCp7
import Derived.Test.YtpnbpepkoekkoaaYRSCp13
set_option linter.unusedVariables false
set_option linter.unusedSimpArgs false
section
namespace Go.Proofs.Ytpnbpepkoekkoaa
open Go Go.RowKit Go.Shelf Go.Deep
structure RK (W V : World) (F X : Nat) (xs cs : Array Value) : Prop where
 grow : W.grownBy V (some F)
 f : V.heap[F]? = some (.cells cs 57 (0, 0))
 x : V.heap[X]? = some (.cells xs 30 (0, 0))
theorem RK.below {W V V' : World} {F X : Nat} {xs cs : Array Value} (h : RK W V F X xs cs) (hb : Below V.heap.size V V') : RK W V' F X xs cs := ⟨grown_two h.grow (grown_below hb), keepO hb h.f, keepO hb h.x⟩
theorem RK.set {W V : World} {F X : Nat} {xs cs : Array Value} (h : RK W V F X xs cs) (hne : X ≠ F) (i : Nat) (v : Value) : RK W (V.setCell ⟨F, i, none⟩ v) F X xs (cs.setIfInBounds i v) :=
 ⟨grown_two h.grow ⟨rfl, rfl, rfl, by rw [setCell_size]; exact Nat.le_refl _, fun k _ hk => setCell_far _ (fun e => hk (by rw [e]))⟩, setCell_obj v h.f, by rw [setCell_far _ hne]; exact h.x⟩
theorem RK.start {W : World} {F X : Nat} {xs cs : Array Value} (h1 : W.heap[F]? = some (.cells cs 57 (0, 0))) (h2 : W.heap[X]? = some (.cells xs 30 (0, 0))) : RK W W F X xs cs := ⟨World.grownBy.refl _ _, h1, h2⟩
abbrev rX (X F : Nat) (V : World) : Prop := V.cell? ⟨X, 10, none⟩ = some (.slice (some ⟨F, 0, none⟩) 2 2)
theorem RK.s {W V : World} {R T M U I0 I1 F D X : Nat} {cs : Array Value} (h : RK W V F X (sm18 R T M U I0 I1 F D).cells cs) : rX X F V := cell_at h.x 10 rfl
set_option maxRecDepth 100000 in
set_option maxHeartbeats 16000000 in
theorem sn_e6 (R T M U I0 I1 F D X : Nat) (W : World) (hF : W.heap[F]? = some (.cells #[sv [112], .slice (some ⟨I0, 0, none⟩) 1 1, sv [113], .slice (some ⟨I1, 0, none⟩) 1 1] 57 (0, 0))) (hX : W.heap[X]? = some (.cells (sm18 R T M U I0 I1 F D).cells 30 (0, 0))) (hne : X ≠ F) (K : Act → World → Prop) (e0 e1 e2 e3 e4 e5 e6 e7 e8 e10 e11 e12 e13 e14 e15 e16 e17 e18 e19 e20 e21 e22 e23 e24 e25 e26 e27 e28 e29 e30 e31 e32 e33 e34 e35 e36 e37 e38 e39 e40 e41 e42 e43 e44 e45 e46 e47 e48 e49 e50 e51 e52 e53 e54 e55 e56 e57 e58 e59 e60 e61 e62 e63 e64 e65 e66 e67 e68 e69 e70 e71 e72 e73 e74 e75 e76 e77 e78 e79 e80 e81 e82 e83 e84 e85 e86 e87 e88 e89 e90 e91 e92 e93 e94 e95 e96 e97 e98 e99 e100 e101 e102 e103 e104 e105 e106 e107 e108 e109 e110 e111 e112 e113 e114 e115 e116 e117 e118 e119 e120 : Value)
  (hQ : ∀ (X0 X1 : Nat) (V : World), RK W V F X (sm18 R T M U I0 I1 F D).cells #[sv [112], .slice (some ⟨X0, 0, none⟩) 1 1, sv [113], .slice (some ⟨X1, 0, none⟩) 2 2] → V.heap[X0]? = some (.cells #[.int .i64 4, .int .i64 0, sv [113], .int .i64 1, .slice none 0 0, .slice none 0 0] 78 (0, 0)) → V.heap[X1]? = some (.cells #[.int .i64 4, .int .i64 0, sv [113], .int .i64 1, .slice none 0 0, .slice none 0 0, .int .i64 4, .int .i64 0, sv [112], .int .i64 0, .slice none 0 0, .slice none 0 0] 78 (0, 0)) → W.heap.size ≤ X0 → W.heap.size ≤ X1 → ∀ (x33 x34 x35 x36 x37 x38 x39 x40 x41 x42 x43 x44 x45 : Value), K { tmps := #[e0, e1, e2, e3, e4, e5, e6, e7, e8, .pointer (some ⟨X, 0, none⟩), e10, e11, e12, e13, e14, e15, e16, e17, e18, e19, e20, e21, e22, e23, e24, e25, e26, e27, e28, e29, e30, e31, e32, x33, x34, x35, x36, x37, x38, x39, x40, x41, x42, x43, x44, x45, e46, e47, e48, e49, e50, e51, e52, e53, e54, e55, e56, e57, e58, e59, e60, e61, e62, e63, e64, e65, e66, e67, e68, e69, e70, e71, e72, e73, e74, e75, e76, e77, e78, e79, e80, e81, e82, e83, e84, e85, e86, e87, e88, e89, e90, e91, e92, e93, e94, e95, e96, e97, e98, e99, e100, e101, e102, e103, e104, e105, e106, e107, e108, e109, e110, e111, e112, e113, e114, e115, e116, e117, e118, e119, e120], defers := [] } V) :
  elem25n6.wp Try.prog (Exit.then K (fun _ _ _ => False)) { tmps := #[e0, e1, e2, e3, e4, e5, e6, e7, e8, .pointer (some ⟨X, 0, none⟩), e10, e11, e12, e13, e14, e15, e16, e17, e18, e19, e20, e21, e22, e23, e24, e25, e26, e27, e28, e29, e30, e31, e32, e33, e34, e35, e36, e37, e38, e39, e40, e41, e42, e43, e44, e45, e46, e47, e48, e49, e50, e51, e52, e53, e54, e55, e56, e57, e58, e59, e60, e61, e62, e63, e64, e65, e66, e67, e68, e69, e70, e71, e72, e73, e74, e75, e76, e77, e78, e79, e80, e81, e82, e83, e84, e85, e86, e87, e88, e89, e90, e91, e92, e93, e94, e95, e96, e97, e98, e99, e100, e101, e102, e103, e104, e105, e106, e107, e108, e109, e110, e111, e112, e113, e114, e115, e116, e117, e118, e119, e120], defers := [] } W := by
 obtain ⟨wd, hwd⟩ : ∃ wd : World, { W with drawn := W.drawn + 1 } = wd := ⟨_, rfl⟩
 have hbd : Below W.heap.size W wd := by rw [← hwd]; exact (Below.refl _ _).drew
 have HK := Lib.hid ((RK.start hF hX).below hbd)
 have HFL : Hid (F < W.heap.size) := Lib.hid (Array.getElem?_eq_some_iff.1 hF).1
 have HQ := Lib.hid hQ; have HWD := Lib.hid hwd; have HNE := Lib.hid hne
 clear hQ hwd hF hX hne hbd
 conv => arg 2; whnf
 refine wp_region_held (S := rX X F) (by kernel_rfl) ?_
 rw [HWD.out]
 refine wpAnyH_take (i := 0) (oi := _) (v := .pointer (some ⟨X, 10, none⟩)) rfl (by kernel_rfl) (by kernel_rfl) (by kernel_rfl) (fun _ _ _ h => h) (Or.inl ⟨by kernel_rfl, fun V hb => by go_simp⟩) HK.out.s ?_
 try (simp only [Act.put, List.getElem_toArray, List.getElem_cons_zero, List.setIfInBounds_toArray, List.set_cons_zero, List.set_cons_succ])
 refine wpAnyH_take (i := 1) (oi := _) (v := .slice (some ⟨F, 0, none⟩) 2 2) rfl (by kernel_rfl) (by kernel_rfl) (by kernel_rfl) (fun _ _ _ h => h) (Or.inl ⟨by kernel_rfl, fun V hb => by have q0 := hb; go_simp⟩) HK.out.s ?_
 try (simp only [Act.put, List.getElem_toArray, List.getElem_cons_zero, List.getElem_cons_succ, List.setIfInBounds_toArray, List.set_cons_zero, List.set_cons_succ])
 refine wpAnyH_take (i := 2) (oi := _) (v := .pointer (some ⟨X, 10, none⟩)) rfl (by kernel_rfl) (by kernel_rfl) (by kernel_rfl) (fun _ _ _ h => h) (Or.inl ⟨by kernel_rfl, fun V hb => by go_simp⟩) HK.out.s ?_
 try (simp only [Act.put, List.getElem_toArray, List.getElem_cons_zero, List.getElem_cons_succ, List.setIfInBounds_toArray, List.set_cons_zero, List.set_cons_succ])
 refine wpAnyH_take (i := 3) (oi := _) (v := .slice (some ⟨F, 0, none⟩) 2 2) rfl (by kernel_rfl) (by kernel_rfl) (by kernel_rfl) (fun _ _ _ h => h) (Or.inl ⟨by kernel_rfl, fun V hb => by have q0 := hb; go_simp⟩) HK.out.s ?_
 try (simp only [Act.put, List.getElem_toArray, List.getElem_cons_zero, List.getElem_cons_succ, List.setIfInBounds_toArray, List.set_cons_zero, List.set_cons_succ])
 refine wpAnyH_ready (rs := [4]) (by kernel_rfl) (by simp) ?_
 refine AllReadyH.cons (o := _) rfl (fun K1 hK => ?_) AllReadyH.nil
 go_simp
 refine (use58_1 _).mono ?_
 rintro e V4_0 ⟨rfl, hb⟩
 have HN := Lib.hid (HK.out.below hb)
 clear HK hb
 refine hK.out _ _ HN.out.s (fun _ => ?_)
 clear hK K1
 have HK := HN
 clear HN
 try (simp only [Act.put, List.getElem_toArray, List.getElem_cons_zero, List.getElem_cons_succ, List.setIfInBounds_toArray, List.set_cons_zero, List.set_cons_succ])
 refine wpAnyH_ready (rs := [5, 6]) (by kernel_rfl) (by simp) ?_
 refine AllReadyH.cons (o := _) rfl (fun K1 hK => ?_) (AllReadyH.cons (o := _) rfl (fun K1 hK => ?_) AllReadyH.nil)
 ·obtain ⟨A5_1, xA, gA, bA, sA⟩ := mk_cells V4_0 #[.int .i64 4, .int .i64 0, sv [113], .int .i64 1, .slice none 0 0, .slice none 0 0] 78
  have HN := Lib.hid (HK.out.below bA)
  have H0 := Lib.hid gA
  have L0 : Hid (W.heap.size ≤ V4_0.heap.size) := Lib.hid HK.out.grow.size
  clear HK gA bA sA
  go_simp
  clear xA
  refine hK.out _ _ HN.out.s (fun _ => ?_)
  clear hK K1
  have HK := HN
  clear HN
  try (simp only [Act.put, List.getElem_toArray, List.getElem_cons_zero, List.getElem_cons_succ, List.setIfInBounds_toArray, List.set_cons_zero, List.set_cons_succ])
  refine wpAnyH_ready (rs := [6]) (by kernel_rfl) (by simp) ?_
  refine AllReadyH.cons (o := _) rfl (fun K1 hK => ?_) AllReadyH.nil
  go_simp
  refine (use58_1 _).mono ?_
  rintro e V6_2 ⟨rfl, hb⟩
  have HN := Lib.hid (HK.out.below hb)
  have HT := Lib.hid (keepO hb H0.out)
  clear H0
  have H0 := HT
  clear HT
  clear HK hb
  refine hK.out _ _ HN.out.s (fun _ => ?_)
  clear hK K1
  have HK := HN
  clear HN
  try (simp only [Act.put, List.getElem_toArray, List.getElem_cons_zero, List.getElem_cons_succ, List.setIfInBounds_toArray, List.set_cons_zero, List.set_cons_succ])
  refine wpAnyH_ready (rs := [7]) (by kernel_rfl) (by simp) ?_
  refine AllReadyH.cons (o := _) rfl (fun K1 hK => ?_) AllReadyH.nil
  go_simp
  refine (use58_0 _).mono ?_
  rintro e V7_3 ⟨rfl, hb⟩
  have HN := Lib.hid (HK.out.below hb)
  have HT := Lib.hid (keepO hb H0.out)
  clear H0
  have H0 := HT
  clear HT
  clear HK hb
  refine hK.out _ _ HN.out.s (fun _ => ?_)
  clear hK K1
  have HK := HN
  clear HN
  try (simp only [Act.put, List.getElem_toArray, List.getElem_cons_zero, List.getElem_cons_succ, List.setIfInBounds_toArray, List.set_cons_zero, List.set_cons_succ])
  refine wpAnyH_take (i := 9) (oi := _) (v := .pointer (some ⟨F, 0, none⟩)) rfl (by kernel_rfl) (by kernel_rfl) (by kernel_rfl) (fun _ _ _ h => h) (Or.inl ⟨by kernel_rfl, fun V hb => by go_simp⟩) HK.out.s ?_
  try (simp only [Act.put, List.getElem_toArray, List.getElem_cons_zero, List.getElem_cons_succ, List.setIfInBounds_toArray, List.set_cons_zero, List.set_cons_succ])
  refine wpAnyH_take (i := 10) (oi := _) (v := .pointer (some ⟨F, 1, none⟩)) rfl (by kernel_rfl) (by kernel_rfl) (by kernel_rfl) (fun _ _ _ h => h) (Or.inl ⟨by kernel_rfl, fun V hb => by go_simp⟩) HK.out.s ?_
  try (simp only [Act.put, List.getElem_toArray, List.getElem_cons_zero, List.getElem_cons_succ, List.setIfInBounds_toArray, List.set_cons_zero, List.set_cons_succ])
  refine wpAnyH_ready (rs := [8, 11]) (by kernel_rfl) (by simp) ?_
  refine AllReadyH.cons (o := _) rfl (fun K1 hK => ?_) (AllReadyH.cons (o := _) rfl (fun K1 hK => ?_) AllReadyH.nil)
  ·obtain ⟨A8_6, xA, gA, bA, sA⟩ := mk_cells V7_3 #[.int .i64 4, .int .i64 0, sv [113], .int .i64 1, .slice none 0 0, .slice none 0 0, .int .i64 4, .int .i64 0, sv [112], .int .i64 0, .slice none 0 0, .slice none 0 0] 78
   have HN := Lib.hid (HK.out.below bA)
   have HT := Lib.hid (keepO bA H0.out)
   clear H0
   have H0 := HT
   clear HT
   have H1 := Lib.hid gA
   have L1 : Hid (W.heap.size ≤ V7_3.heap.size) := Lib.hid HK.out.grow.size
   clear HK gA bA sA
   go_simp
   clear xA
   refine hK.out _ _ HN.out.s (fun _ => ?_)
   clear hK K1
   have HK := HN
   clear HN
   try (simp only [Act.put, List.getElem_toArray, List.getElem_cons_zero, List.getElem_cons_succ, List.setIfInBounds_toArray, List.set_cons_zero, List.set_cons_succ])
   refine wpAnyH_ready (rs := [11]) (by kernel_rfl) (by simp) ?_
   refine AllReadyH.cons (o := _) rfl (fun K1 hK => ?_) AllReadyH.nil
   obtain ⟨B11_7, xB⟩ : ∃ B, A8_6.setCell ⟨F, 1, none⟩ (.slice (some ⟨V4_0.heap.size, 0, none⟩) 1 1) = B := ⟨_, rfl⟩
   have cF : A8_6.cell? ⟨F, 1, none⟩ = some (.slice (some ⟨I0, 0, none⟩) 1 1) := (cell_at HK.out.f 1 rfl)
   have fF : A8_6.frozen? ⟨F, 1, none⟩ = false := (show FreeB A8_6 F from ⟨_, _, HK.out.f⟩).free 1
   have hn := HK.out.set HNE.out 1 (.slice (some ⟨V4_0.heap.size, 0, none⟩) 1 1)
   rw [xB] at hn
   have HN := Lib.hid hn
   have ht := setCell_far (i := 1) (.slice (some ⟨V4_0.heap.size, 0, none⟩) 1 1) (show V4_0.heap.size ≠ F by have := L0.out; have := HFL.out; omega) (W := A8_6)
   rw [xB] at ht
   have HT := Lib.hid (ht.trans H0.out)
   clear H0 ht
   have H0 := HT
   clear HT
   have ht := setCell_far (i := 1) (.slice (some ⟨V4_0.heap.size, 0, none⟩) 1 1) (show V7_3.heap.size ≠ F by have := L1.out; have := HFL.out; omega) (W := A8_6)
   rw [xB] at ht
   have HT := Lib.hid (ht.trans H1.out)
   clear H1 ht
   have H1 := HT
   clear HT
   clear HK hn
   go_simp
   clear xB cF fF
   refine hK.out _ _ HN.out.s (fun _ => ?_)
   clear hK K1
   have HK := HN
   clear HN
   try (simp only [Act.put, List.getElem_toArray, List.getElem_cons_zero, List.getElem_cons_succ, List.setIfInBounds_toArray, List.set_cons_zero, List.set_cons_succ])
   refine wpAnyH_take (i := 12) (oi := _) (v := .pointer (some ⟨F, 2, none⟩)) rfl (by kernel_rfl) (by kernel_rfl) (by kernel_rfl) (fun _ _ _ h => h) (Or.inl ⟨by kernel_rfl, fun V hb => by go_simp⟩) HK.out.s ?_
   try (simp only [Act.put, List.getElem_toArray, List.getElem_cons_zero, List.getElem_cons_succ, List.setIfInBounds_toArray, List.set_cons_zero, List.set_cons_succ])
   refine wpAnyH_take (i := 13) (oi := _) (v := .pointer (some ⟨F, 3, none⟩)) rfl (by kernel_rfl) (by kernel_rfl) (by kernel_rfl) (fun _ _ _ h => h) (Or.inl ⟨by kernel_rfl, fun V hb => by go_simp⟩) HK.out.s ?_
   try (simp only [Act.put, List.getElem_toArray, List.getElem_cons_zero, List.getElem_cons_succ, List.setIfInBounds_toArray, List.set_cons_zero, List.set_cons_succ])
   refine wpAnyH_ready (rs := [14]) (by kernel_rfl) (by simp) ?_
   refine AllReadyH.cons (o := _) rfl (fun K1 hK => ?_) AllReadyH.nil
   obtain ⟨B14_10, xB⟩ : ∃ B, B11_7.setCell ⟨F, 3, none⟩ (.slice (some ⟨V7_3.heap.size, 0, none⟩) 2 2) = B := ⟨_, rfl⟩
   have cF : B11_7.cell? ⟨F, 3, none⟩ = some (.slice (some ⟨I1, 0, none⟩) 1 1) := (cell_at HK.out.f 3 rfl)
   have fF : B11_7.frozen? ⟨F, 3, none⟩ = false := (show FreeB B11_7 F from ⟨_, _, HK.out.f⟩).free 3
   have hn := HK.out.set HNE.out 3 (.slice (some ⟨V7_3.heap.size, 0, none⟩) 2 2)
   rw [xB] at hn
   have HN := Lib.hid hn
   have ht := setCell_far (i := 3) (.slice (some ⟨V7_3.heap.size, 0, none⟩) 2 2) (show V4_0.heap.size ≠ F by have := L0.out; have := HFL.out; omega) (W := B11_7)
   rw [xB] at ht
   have HT := Lib.hid (ht.trans H0.out)
   clear H0 ht
   have H0 := HT
   clear HT
   have ht := setCell_far (i := 3) (.slice (some ⟨V7_3.heap.size, 0, none⟩) 2 2) (show V7_3.heap.size ≠ F by have := L1.out; have := HFL.out; omega) (W := B11_7)
   rw [xB] at ht
   have HT := Lib.hid (ht.trans H1.out)
   clear H1 ht
   have H1 := HT
   clear HT
   clear HK hn
   go_simp
   clear xB cF fF
   refine hK.out _ _ HN.out.s (fun _ => ?_)
   clear hK K1
   have HK := HN
   clear HN
   try (simp only [Act.put, List.getElem_toArray, List.getElem_cons_zero, List.getElem_cons_succ, List.setIfInBounds_toArray, List.set_cons_zero, List.set_cons_succ])
   refine wpAnyH_done (by kernel_rfl) ?_ _
   exact HQ.out _ _ _ HK.out H0.out H1.out L0.out L1.out _ _ _ _ _ _ _ _ _ _ _ _ _
  ·obtain ⟨B11_6, xB⟩ : ∃ B, V7_3.setCell ⟨F, 1, none⟩ (.slice (some ⟨V4_0.heap.size, 0, none⟩) 1 1) = B := ⟨_, rfl⟩
   have cF : V7_3.cell? ⟨F, 1, none⟩ = some (.slice (some ⟨I0, 0, none⟩) 1 1) := (cell_at HK.out.f 1 rfl)
   have fF : V7_3.frozen? ⟨F, 1, none⟩ = false := (show FreeB V7_3 F from ⟨_, _, HK.out.f⟩).free 1
   have hn := HK.out.set HNE.out 1 (.slice (some ⟨V4_0.heap.size, 0, none⟩) 1 1)
   rw [xB] at hn
   have HN := Lib.hid hn
   have ht := setCell_far (i := 1) (.slice (some ⟨V4_0.heap.size, 0, none⟩) 1 1) (show V4_0.heap.size ≠ F by have := L0.out; have := HFL.out; omega) (W := V7_3)
   rw [xB] at ht
   have HT := Lib.hid (ht.trans H0.out)
   clear H0 ht
   have H0 := HT
   clear HT
   clear HK hn
   go_simp
   clear xB cF fF
   refine hK.out _ _ HN.out.s (fun _ => ?_)
   clear hK K1
   have HK := HN
   clear HN
   try (simp only [Act.put, List.getElem_toArray, List.getElem_cons_zero, List.getElem_cons_succ, List.setIfInBounds_toArray, List.set_cons_zero, List.set_cons_succ])
   refine wpAnyH_ready (rs := [8]) (by kernel_rfl) (by simp) ?_
   refine AllReadyH.cons (o := _) rfl (fun K1 hK => ?_) AllReadyH.nil
   obtain ⟨A8_7, xA, gA, bA, sA⟩ := mk_cells B11_6 #[.int .i64 4, .int .i64 0, sv [113], .int .i64 1, .slice none 0 0, .slice none 0 0, .int .i64 4, .int .i64 0, sv [112], .int .i64 0, .slice none 0 0, .slice none 0 0] 78
   have HN := Lib.hid (HK.out.below bA)
   have HT := Lib.hid (keepO bA H0.out)
   clear H0
   have H0 := HT
   clear HT
   have H1 := Lib.hid gA
   have L1 : Hid (W.heap.size ≤ B11_6.heap.size) := Lib.hid HK.out.grow.size
   clear HK gA bA sA
   go_simp
   clear xA
   refine hK.out _ _ HN.out.s (fun _ => ?_)
   clear hK K1
   have HK := HN
   clear HN
   try (simp only [Act.put, List.getElem_toArray, List.getElem_cons_zero, List.getElem_cons_succ, List.setIfInBounds_toArray, List.set_cons_zero, List.set_cons_succ])
   refine wpAnyH_take (i := 12) (oi := _) (v := .pointer (some ⟨F, 2, none⟩)) rfl (by kernel_rfl) (by kernel_rfl) (by kernel_rfl) (fun _ _ _ h => h) (Or.inl ⟨by kernel_rfl, fun V hb => by go_simp⟩) HK.out.s ?_
   try (simp only [Act.put, List.getElem_toArray, List.getElem_cons_zero, List.getElem_cons_succ, List.setIfInBounds_toArray, List.set_cons_zero, List.set_cons_succ])
   refine wpAnyH_take (i := 13) (oi := _) (v := .pointer (some ⟨F, 3, none⟩)) rfl (by kernel_rfl) (by kernel_rfl) (by kernel_rfl) (fun _ _ _ h => h) (Or.inl ⟨by kernel_rfl, fun V hb => by go_simp⟩) HK.out.s ?_
   try (simp only [Act.put, List.getElem_toArray, List.getElem_cons_zero, List.getElem_cons_succ, List.setIfInBounds_toArray, List.set_cons_zero, List.set_cons_succ])
   refine wpAnyH_ready (rs := [14]) (by kernel_rfl) (by simp) ?_
   refine AllReadyH.cons (o := _) rfl (fun K1 hK => ?_) AllReadyH.nil
   obtain ⟨B14_10, xB⟩ : ∃ B, A8_7.setCell ⟨F, 3, none⟩ (.slice (some ⟨B11_6.heap.size, 0, none⟩) 2 2) = B := ⟨_, rfl⟩
   have cF : A8_7.cell? ⟨F, 3, none⟩ = some (.slice (some ⟨I1, 0, none⟩) 1 1) := (cell_at HK.out.f 3 rfl)
   have fF : A8_7.frozen? ⟨F, 3, none⟩ = false := (show FreeB A8_7 F from ⟨_, _, HK.out.f⟩).free 3
   have hn := HK.out.set HNE.out 3 (.slice (some ⟨B11_6.heap.size, 0, none⟩) 2 2)
   rw [xB] at hn
   have HN := Lib.hid hn
   have ht := setCell_far (i := 3) (.slice (some ⟨B11_6.heap.size, 0, none⟩) 2 2) (show V4_0.heap.size ≠ F by have := L0.out; have := HFL.out; omega) (W := A8_7)
   rw [xB] at ht
   have HT := Lib.hid (ht.trans H0.out)
   clear H0 ht
   have H0 := HT
   clear HT
   have ht := setCell_far (i := 3) (.slice (some ⟨B11_6.heap.size, 0, none⟩) 2 2) (show B11_6.heap.size ≠ F by have := L1.out; have := HFL.out; omega) (W := A8_7)
   rw [xB] at ht
   have HT := Lib.hid (ht.trans H1.out)
   clear H1 ht
   have H1 := HT
   clear HT
   clear HK hn
   go_simp
   clear xB cF fF
   refine hK.out _ _ HN.out.s (fun _ => ?_)
   clear hK K1
   have HK := HN
   clear HN
   try (simp only [Act.put, List.getElem_toArray, List.getElem_cons_zero, List.getElem_cons_succ, List.setIfInBounds_toArray, List.set_cons_zero, List.set_cons_succ])
   refine wpAnyH_done (by kernel_rfl) ?_ _
   exact HQ.out _ _ _ HK.out H0.out H1.out L0.out L1.out _ _ _ _ _ _ _ _ _ _ _ _ _
 ·go_simp
  refine (use58_1 _).mono ?_
  rintro e V6_1 ⟨rfl, hb⟩
  have HN := Lib.hid (HK.out.below hb)
  clear HK hb
  refine hK.out _ _ HN.out.s (fun _ => ?_)
  clear hK K1
  have HK := HN
  clear HN
  try (simp only [Act.put, List.getElem_toArray, List.getElem_cons_zero, List.getElem_cons_succ, List.setIfInBounds_toArray, List.set_cons_zero, List.set_cons_succ])
  refine wpAnyH_ready (rs := [5, 7]) (by kernel_rfl) (by simp) ?_
  refine AllReadyH.cons (o := _) rfl (fun K1 hK => ?_) (AllReadyH.cons (o := _) rfl (fun K1 hK => ?_) AllReadyH.nil)
  ·obtain ⟨A5_2, xA, gA, bA, sA⟩ := mk_cells V6_1 #[.int .i64 4, .int .i64 0, sv [113], .int .i64 1, .slice none 0 0, .slice none 0 0] 78
   have HN := Lib.hid (HK.out.below bA)
   have H0 := Lib.hid gA
   have L0 : Hid (W.heap.size ≤ V6_1.heap.size) := Lib.hid HK.out.grow.size
   clear HK gA bA sA
   go_simp
   clear xA
   refine hK.out _ _ HN.out.s (fun _ => ?_)
   clear hK K1
   have HK := HN
   clear HN
   try (simp only [Act.put, List.getElem_toArray, List.getElem_cons_zero, List.getElem_cons_succ, List.setIfInBounds_toArray, List.set_cons_zero, List.set_cons_succ])
   refine wpAnyH_ready (rs := [7]) (by kernel_rfl) (by simp) ?_
   refine AllReadyH.cons (o := _) rfl (fun K1 hK => ?_) AllReadyH.nil
   go_simp
   refine (use58_0 _).mono ?_
   rintro e V7_3 ⟨rfl, hb⟩
   have HN := Lib.hid (HK.out.below hb)
   have HT := Lib.hid (keepO hb H0.out)
   clear H0
   have H0 := HT
   clear HT
   clear HK hb
   refine hK.out _ _ HN.out.s (fun _ => ?_)
   clear hK K1
   have HK := HN
   clear HN
   try (simp only [Act.put, List.getElem_toArray, List.getElem_cons_zero, List.getElem_cons_succ, List.setIfInBounds_toArray, List.set_cons_zero, List.set_cons_succ])
   refine wpAnyH_take (i := 9) (oi := _) (v := .pointer (some ⟨F, 0, none⟩)) rfl (by kernel_rfl) (by kernel_rfl) (by kernel_rfl) (fun _ _ _ h => h) (Or.inl ⟨by kernel_rfl, fun V hb => by go_simp⟩) HK.out.s ?_
   try (simp only [Act.put, List.getElem_toArray, List.getElem_cons_zero, List.getElem_cons_succ, List.setIfInBounds_toArray, List.set_cons_zero, List.set_cons_succ])
   refine wpAnyH_take (i := 10) (oi := _) (v := .pointer (some ⟨F, 1, none⟩)) rfl (by kernel_rfl) (by kernel_rfl) (by kernel_rfl) (fun _ _ _ h => h) (Or.inl ⟨by kernel_rfl, fun V hb => by go_simp⟩) HK.out.s ?_
   try (simp only [Act.put, List.getElem_toArray, List.getElem_cons_zero, List.getElem_cons_succ, List.setIfInBounds_toArray, List.set_cons_zero, List.set_cons_succ])
   refine wpAnyH_ready (rs := [8, 11]) (by kernel_rfl) (by simp) ?_
   refine AllReadyH.cons (o := _) rfl (fun K1 hK => ?_) (AllReadyH.cons (o := _) rfl (fun K1 hK => ?_) AllReadyH.nil)
   ·obtain ⟨A8_6, xA, gA, bA, sA⟩ := mk_cells V7_3 #[.int .i64 4, .int .i64 0, sv [113], .int .i64 1, .slice none 0 0, .slice none 0 0, .int .i64 4, .int .i64 0, sv [112], .int .i64 0, .slice none 0 0, .slice none 0 0] 78
    have HN := Lib.hid (HK.out.below bA)
    have HT := Lib.hid (keepO bA H0.out)
    clear H0
    have H0 := HT
    clear HT
    have H1 := Lib.hid gA
    have L1 : Hid (W.heap.size ≤ V7_3.heap.size) := Lib.hid HK.out.grow.size
    clear HK gA bA sA
    go_simp
    clear xA
    refine hK.out _ _ HN.out.s (fun _ => ?_)
    clear hK K1
    have HK := HN
    clear HN
    try (simp only [Act.put, List.getElem_toArray, List.getElem_cons_zero, List.getElem_cons_succ, List.setIfInBounds_toArray, List.set_cons_zero, List.set_cons_succ])
    refine wpAnyH_ready (rs := [11]) (by kernel_rfl) (by simp) ?_
    refine AllReadyH.cons (o := _) rfl (fun K1 hK => ?_) AllReadyH.nil
    obtain ⟨B11_7, xB⟩ : ∃ B, A8_6.setCell ⟨F, 1, none⟩ (.slice (some ⟨V6_1.heap.size, 0, none⟩) 1 1) = B := ⟨_, rfl⟩
    have cF : A8_6.cell? ⟨F, 1, none⟩ = some (.slice (some ⟨I0, 0, none⟩) 1 1) := (cell_at HK.out.f 1 rfl)
    have fF : A8_6.frozen? ⟨F, 1, none⟩ = false := (show FreeB A8_6 F from ⟨_, _, HK.out.f⟩).free 1
    have hn := HK.out.set HNE.out 1 (.slice (some ⟨V6_1.heap.size, 0, none⟩) 1 1)
    rw [xB] at hn
    have HN := Lib.hid hn
    have ht := setCell_far (i := 1) (.slice (some ⟨V6_1.heap.size, 0, none⟩) 1 1) (show V6_1.heap.size ≠ F by have := L0.out; have := HFL.out; omega) (W := A8_6)
    rw [xB] at ht
    have HT := Lib.hid (ht.trans H0.out)
    clear H0 ht
    have H0 := HT
    clear HT
    have ht := setCell_far (i := 1) (.slice (some ⟨V6_1.heap.size, 0, none⟩) 1 1) (show V7_3.heap.size ≠ F by have := L1.out; have := HFL.out; omega) (W := A8_6)
    rw [xB] at ht
    have HT := Lib.hid (ht.trans H1.out)
    clear H1 ht
    have H1 := HT
    clear HT
    clear HK hn
    go_simp
    clear xB cF fF
    refine hK.out _ _ HN.out.s (fun _ => ?_)
    clear hK K1
    have HK := HN
    clear HN
    try (simp only [Act.put, List.getElem_toArray, List.getElem_cons_zero, List.getElem_cons_succ, List.setIfInBounds_toArray, List.set_cons_zero, List.set_cons_succ])
    refine wpAnyH_take (i := 12) (oi := _) (v := .pointer (some ⟨F, 2, none⟩)) rfl (by kernel_rfl) (by kernel_rfl) (by kernel_rfl) (fun _ _ _ h => h) (Or.inl ⟨by kernel_rfl, fun V hb => by go_simp⟩) HK.out.s ?_
    try (simp only [Act.put, List.getElem_toArray, List.getElem_cons_zero, List.getElem_cons_succ, List.setIfInBounds_toArray, List.set_cons_zero, List.set_cons_succ])
    refine wpAnyH_take (i := 13) (oi := _) (v := .pointer (some ⟨F, 3, none⟩)) rfl (by kernel_rfl) (by kernel_rfl) (by kernel_rfl) (fun _ _ _ h => h) (Or.inl ⟨by kernel_rfl, fun V hb => by go_simp⟩) HK.out.s ?_
    try (simp only [Act.put, List.getElem_toArray, List.getElem_cons_zero, List.getElem_cons_succ, List.setIfInBounds_toArray, List.set_cons_zero, List.set_cons_succ])
    refine wpAnyH_ready (rs := [14]) (by kernel_rfl) (by simp) ?_
    refine AllReadyH.cons (o := _) rfl (fun K1 hK => ?_) AllReadyH.nil
    obtain ⟨B14_10, xB⟩ : ∃ B, B11_7.setCell ⟨F, 3, none⟩ (.slice (some ⟨V7_3.heap.size, 0, none⟩) 2 2) = B := ⟨_, rfl⟩
    have cF : B11_7.cell? ⟨F, 3, none⟩ = some (.slice (some ⟨I1, 0, none⟩) 1 1) := (cell_at HK.out.f 3 rfl)
    have fF : B11_7.frozen? ⟨F, 3, none⟩ = false := (show FreeB B11_7 F from ⟨_, _, HK.out.f⟩).free 3
    have hn := HK.out.set HNE.out 3 (.slice (some ⟨V7_3.heap.size, 0, none⟩) 2 2)
    rw [xB] at hn
    have HN := Lib.hid hn
    have ht := setCell_far (i := 3) (.slice (some ⟨V7_3.heap.size, 0, none⟩) 2 2) (show V6_1.heap.size ≠ F by have := L0.out; have := HFL.out; omega) (W := B11_7)
    rw [xB] at ht
    have HT := Lib.hid (ht.trans H0.out)
    clear H0 ht
    have H0 := HT
    clear HT
    have ht := setCell_far (i := 3) (.slice (some ⟨V7_3.heap.size, 0, none⟩) 2 2) (show V7_3.heap.size ≠ F by have := L1.out; have := HFL.out; omega) (W := B11_7)
    rw [xB] at ht
    have HT := Lib.hid (ht.trans H1.out)
    clear H1 ht
    have H1 := HT
    clear HT
    clear HK hn
    go_simp
    clear xB cF fF
    refine hK.out _ _ HN.out.s (fun _ => ?_)
    clear hK K1
    have HK := HN
    clear HN
    try (simp only [Act.put, List.getElem_toArray, List.getElem_cons_zero, List.getElem_cons_succ, List.setIfInBounds_toArray, List.set_cons_zero, List.set_cons_succ])
    refine wpAnyH_done (by kernel_rfl) ?_ _
    exact HQ.out _ _ _ HK.out H0.out H1.out L0.out L1.out _ _ _ _ _ _ _ _ _ _ _ _ _
   ·obtain ⟨B11_6, xB⟩ : ∃ B, V7_3.setCell ⟨F, 1, none⟩ (.slice (some ⟨V6_1.heap.size, 0, none⟩) 1 1) = B := ⟨_, rfl⟩
    have cF : V7_3.cell? ⟨F, 1, none⟩ = some (.slice (some ⟨I0, 0, none⟩) 1 1) := (cell_at HK.out.f 1 rfl)
    have fF : V7_3.frozen? ⟨F, 1, none⟩ = false := (show FreeB V7_3 F from ⟨_, _, HK.out.f⟩).free 1
    have hn := HK.out.set HNE.out 1 (.slice (some ⟨V6_1.heap.size, 0, none⟩) 1 1)
    rw [xB] at hn
    have HN := Lib.hid hn
    have ht := setCell_far (i := 1) (.slice (some ⟨V6_1.heap.size, 0, none⟩) 1 1) (show V6_1.heap.size ≠ F by have := L0.out; have := HFL.out; omega) (W := V7_3)
    rw [xB] at ht
    have HT := Lib.hid (ht.trans H0.out)
    clear H0 ht
    have H0 := HT
    clear HT
    clear HK hn
    go_simp
    clear xB cF fF
    refine hK.out _ _ HN.out.s (fun _ => ?_)
    clear hK K1
    have HK := HN
    clear HN
    try (simp only [Act.put, List.getElem_toArray, List.getElem_cons_zero, List.getElem_cons_succ, List.setIfInBounds_toArray, List.set_cons_zero, List.set_cons_succ])
    refine wpAnyH_ready (rs := [8]) (by kernel_rfl) (by simp) ?_
    refine AllReadyH.cons (o := _) rfl (fun K1 hK => ?_) AllReadyH.nil
    obtain ⟨A8_7, xA, gA, bA, sA⟩ := mk_cells B11_6 #[.int .i64 4, .int .i64 0, sv [113], .int .i64 1, .slice none 0 0, .slice none 0 0, .int .i64 4, .int .i64 0, sv [112], .int .i64 0, .slice none 0 0, .slice none 0 0] 78
    have HN := Lib.hid (HK.out.below bA)
    have HT := Lib.hid (keepO bA H0.out)
    clear H0
    have H0 := HT
    clear HT
    have H1 := Lib.hid gA
    have L1 : Hid (W.heap.size ≤ B11_6.heap.size) := Lib.hid HK.out.grow.size
    clear HK gA bA sA
    go_simp
    clear xA
    refine hK.out _ _ HN.out.s (fun _ => ?_)
    clear hK K1
    have HK := HN
    clear HN
    try (simp only [Act.put, List.getElem_toArray, List.getElem_cons_zero, List.getElem_cons_succ, List.setIfInBounds_toArray, List.set_cons_zero, List.set_cons_succ])
    refine wpAnyH_take (i := 12) (oi := _) (v := .pointer (some ⟨F, 2, none⟩)) rfl (by kernel_rfl) (by kernel_rfl) (by kernel_rfl) (fun _ _ _ h => h) (Or.inl ⟨by kernel_rfl, fun V hb => by go_simp⟩) HK.out.s ?_
    try (simp only [Act.put, List.getElem_toArray, List.getElem_cons_zero, List.getElem_cons_succ, List.setIfInBounds_toArray, List.set_cons_zero, List.set_cons_succ])
    refine wpAnyH_take (i := 13) (oi := _) (v := .pointer (some ⟨F, 3, none⟩)) rfl (by kernel_rfl) (by kernel_rfl) (by kernel_rfl) (fun _ _ _ h => h) (Or.inl ⟨by kernel_rfl, fun V hb => by go_simp⟩) HK.out.s ?_
    try (simp only [Act.put, List.getElem_toArray, List.getElem_cons_zero, List.getElem_cons_succ, List.setIfInBounds_toArray, List.set_cons_zero, List.set_cons_succ])
    refine wpAnyH_ready (rs := [14]) (by kernel_rfl) (by simp) ?_
    refine AllReadyH.cons (o := _) rfl (fun K1 hK => ?_) AllReadyH.nil
    obtain ⟨B14_10, xB⟩ : ∃ B, A8_7.setCell ⟨F, 3, none⟩ (.slice (some ⟨B11_6.heap.size, 0, none⟩) 2 2) = B := ⟨_, rfl⟩
    have cF : A8_7.cell? ⟨F, 3, none⟩ = some (.slice (some ⟨I1, 0, none⟩) 1 1) := (cell_at HK.out.f 3 rfl)
    have fF : A8_7.frozen? ⟨F, 3, none⟩ = false := (show FreeB A8_7 F from ⟨_, _, HK.out.f⟩).free 3
    have hn := HK.out.set HNE.out 3 (.slice (some ⟨B11_6.heap.size, 0, none⟩) 2 2)
    rw [xB] at hn
    have HN := Lib.hid hn
    have ht := setCell_far (i := 3) (.slice (some ⟨B11_6.heap.size, 0, none⟩) 2 2) (show V6_1.heap.size ≠ F by have := L0.out; have := HFL.out; omega) (W := A8_7)
    rw [xB] at ht
    have HT := Lib.hid (ht.trans H0.out)
    clear H0 ht
    have H0 := HT
    clear HT
    have ht := setCell_far (i := 3) (.slice (some ⟨B11_6.heap.size, 0, none⟩) 2 2) (show B11_6.heap.size ≠ F by have := L1.out; have := HFL.out; omega) (W := A8_7)
    rw [xB] at ht
    have HT := Lib.hid (ht.trans H1.out)
    clear H1 ht
    have H1 := HT
    clear HT
    clear HK hn
    go_simp
    clear xB cF fF
    refine hK.out _ _ HN.out.s (fun _ => ?_)
    clear hK K1
    have HK := HN
    clear HN
    try (simp only [Act.put, List.getElem_toArray, List.getElem_cons_zero, List.getElem_cons_succ, List.setIfInBounds_toArray, List.set_cons_zero, List.set_cons_succ])
    refine wpAnyH_done (by kernel_rfl) ?_ _
    exact HQ.out _ _ _ HK.out H0.out H1.out L0.out L1.out _ _ _ _ _ _ _ _ _ _ _ _ _
  ·go_simp
   refine (use58_0 _).mono ?_
   rintro e V7_2 ⟨rfl, hb⟩
   have HN := Lib.hid (HK.out.below hb)
   clear HK hb
   refine hK.out _ _ HN.out.s (fun _ => ?_)
   clear hK K1
   have HK := HN
   clear HN
   try (simp only [Act.put, List.getElem_toArray, List.getElem_cons_zero, List.getElem_cons_succ, List.setIfInBounds_toArray, List.set_cons_zero, List.set_cons_succ])
   refine wpAnyH_ready (rs := [5, 8]) (by kernel_rfl) (by simp) ?_
   refine AllReadyH.cons (o := _) rfl (fun K1 hK => ?_) (AllReadyH.cons (o := _) rfl (fun K1 hK => ?_) AllReadyH.nil)
   ·obtain ⟨A5_3, xA, gA, bA, sA⟩ := mk_cells V7_2 #[.int .i64 4, .int .i64 0, sv [113], .int .i64 1, .slice none 0 0, .slice none 0 0] 78
    have HN := Lib.hid (HK.out.below bA)
    have H0 := Lib.hid gA
    have L0 : Hid (W.heap.size ≤ V7_2.heap.size) := Lib.hid HK.out.grow.size
    clear HK gA bA sA
    go_simp
    clear xA
    refine hK.out _ _ HN.out.s (fun _ => ?_)
    clear hK K1
    have HK := HN
    clear HN
    try (simp only [Act.put, List.getElem_toArray, List.getElem_cons_zero, List.getElem_cons_succ, List.setIfInBounds_toArray, List.set_cons_zero, List.set_cons_succ])
    refine wpAnyH_take (i := 9) (oi := _) (v := .pointer (some ⟨F, 0, none⟩)) rfl (by kernel_rfl) (by kernel_rfl) (by kernel_rfl) (fun _ _ _ h => h) (Or.inl ⟨by kernel_rfl, fun V hb => by go_simp⟩) HK.out.s ?_
    try (simp only [Act.put, List.getElem_toArray, List.getElem_cons_zero, List.getElem_cons_succ, List.setIfInBounds_toArray, List.set_cons_zero, List.set_cons_succ])
    refine wpAnyH_take (i := 10) (oi := _) (v := .pointer (some ⟨F, 1, none⟩)) rfl (by kernel_rfl) (by kernel_rfl) (by kernel_rfl) (fun _ _ _ h => h) (Or.inl ⟨by kernel_rfl, fun V hb => by go_simp⟩) HK.out.s ?_
    try (simp only [Act.put, List.getElem_toArray, List.getElem_cons_zero, List.getElem_cons_succ, List.setIfInBounds_toArray, List.set_cons_zero, List.set_cons_succ])
    refine wpAnyH_ready (rs := [8, 11]) (by kernel_rfl) (by simp) ?_
    refine AllReadyH.cons (o := _) rfl (fun K1 hK => ?_) (AllReadyH.cons (o := _) rfl (fun K1 hK => ?_) AllReadyH.nil)
    ·obtain ⟨A8_6, xA, gA, bA, sA⟩ := mk_cells A5_3 #[.int .i64 4, .int .i64 0, sv [113], .int .i64 1, .slice none 0 0, .slice none 0 0, .int .i64 4, .int .i64 0, sv [112], .int .i64 0, .slice none 0 0, .slice none 0 0] 78
     have HN := Lib.hid (HK.out.below bA)
     have HT := Lib.hid (keepO bA H0.out)
     clear H0
     have H0 := HT
     clear HT
     have H1 := Lib.hid gA
     have L1 : Hid (W.heap.size ≤ A5_3.heap.size) := Lib.hid HK.out.grow.size
     clear HK gA bA sA
     go_simp
     clear xA
     refine hK.out _ _ HN.out.s (fun _ => ?_)
     clear hK K1
     have HK := HN
     clear HN
     try (simp only [Act.put, List.getElem_toArray, List.getElem_cons_zero, List.getElem_cons_succ, List.setIfInBounds_toArray, List.set_cons_zero, List.set_cons_succ])
     refine wpAnyH_ready (rs := [11]) (by kernel_rfl) (by simp) ?_
     refine AllReadyH.cons (o := _) rfl (fun K1 hK => ?_) AllReadyH.nil
     obtain ⟨B11_7, xB⟩ : ∃ B, A8_6.setCell ⟨F, 1, none⟩ (.slice (some ⟨V7_2.heap.size, 0, none⟩) 1 1) = B := ⟨_, rfl⟩
     have cF : A8_6.cell? ⟨F, 1, none⟩ = some (.slice (some ⟨I0, 0, none⟩) 1 1) := (cell_at HK.out.f 1 rfl)
     have fF : A8_6.frozen? ⟨F, 1, none⟩ = false := (show FreeB A8_6 F from ⟨_, _, HK.out.f⟩).free 1
     have hn := HK.out.set HNE.out 1 (.slice (some ⟨V7_2.heap.size, 0, none⟩) 1 1)
     rw [xB] at hn
     have HN := Lib.hid hn
     have ht := setCell_far (i := 1) (.slice (some ⟨V7_2.heap.size, 0, none⟩) 1 1) (show V7_2.heap.size ≠ F by have := L0.out; have := HFL.out; omega) (W := A8_6)
     rw [xB] at ht
     have HT := Lib.hid (ht.trans H0.out)
     clear H0 ht
     have H0 := HT
     clear HT
     have ht := setCell_far (i := 1) (.slice (some ⟨V7_2.heap.size, 0, none⟩) 1 1) (show A5_3.heap.size ≠ F by have := L1.out; have := HFL.out; omega) (W := A8_6)
     rw [xB] at ht
     have HT := Lib.hid (ht.trans H1.out)
     clear H1 ht
     have H1 := HT
     clear HT
     clear HK hn
     go_simp
     clear xB cF fF
     refine hK.out _ _ HN.out.s (fun _ => ?_)
     clear hK K1
     have HK := HN
     clear HN
     try (simp only [Act.put, List.getElem_toArray, List.getElem_cons_zero, List.getElem_cons_succ, List.setIfInBounds_toArray, List.set_cons_zero, List.set_cons_succ])
     refine wpAnyH_take (i := 12) (oi := _) (v := .pointer (some ⟨F, 2, none⟩)) rfl (by kernel_rfl) (by kernel_rfl) (by kernel_rfl) (fun _ _ _ h => h) (Or.inl ⟨by kernel_rfl, fun V hb => by go_simp⟩) HK.out.s ?_
     try (simp only [Act.put, List.getElem_toArray, List.getElem_cons_zero, List.getElem_cons_succ, List.setIfInBounds_toArray, List.set_cons_zero, List.set_cons_succ])
     refine wpAnyH_take (i := 13) (oi := _) (v := .pointer (some ⟨F, 3, none⟩)) rfl (by kernel_rfl) (by kernel_rfl) (by kernel_rfl) (fun _ _ _ h => h) (Or.inl ⟨by kernel_rfl, fun V hb => by go_simp⟩) HK.out.s ?_
     try (simp only [Act.put, List.getElem_toArray, List.getElem_cons_zero, List.getElem_cons_succ, List.setIfInBounds_toArray, List.set_cons_zero, List.set_cons_succ])
     refine wpAnyH_ready (rs := [14]) (by kernel_rfl) (by simp) ?_
     refine AllReadyH.cons (o := _) rfl (fun K1 hK => ?_) AllReadyH.nil
     obtain ⟨B14_10, xB⟩ : ∃ B, B11_7.setCell ⟨F, 3, none⟩ (.slice (some ⟨A5_3.heap.size, 0, none⟩) 2 2) = B := ⟨_, rfl⟩
     have cF : B11_7.cell? ⟨F, 3, none⟩ = some (.slice (some ⟨I1, 0, none⟩) 1 1) := (cell_at HK.out.f 3 rfl)
     have fF : B11_7.frozen? ⟨F, 3, none⟩ = false := (show FreeB B11_7 F from ⟨_, _, HK.out.f⟩).free 3
     have hn := HK.out.set HNE.out 3 (.slice (some ⟨A5_3.heap.size, 0, none⟩) 2 2)
     rw [xB] at hn
     have HN := Lib.hid hn
     have ht := setCell_far (i := 3) (.slice (some ⟨A5_3.heap.size, 0, none⟩) 2 2) (show V7_2.heap.size ≠ F by have := L0.out; have := HFL.out; omega) (W := B11_7)
     rw [xB] at ht
     have HT := Lib.hid (ht.trans H0.out)
     clear H0 ht
     have H0 := HT
     clear HT
     have ht := setCell_far (i := 3) (.slice (some ⟨A5_3.heap.size, 0, none⟩) 2 2) (show A5_3.heap.size ≠ F by have := L1.out; have := HFL.out; omega) (W := B11_7)
     rw [xB] at ht
     have HT := Lib.hid (ht.trans H1.out)
     clear H1 ht
     have H1 := HT
     clear HT
     clear HK hn
     go_simp
     clear xB cF fF
     refine hK.out _ _ HN.out.s (fun _ => ?_)
     clear hK K1
     have HK := HN
     clear HN
     try (simp only [Act.put, List.getElem_toArray, List.getElem_cons_zero, List.getElem_cons_succ, List.setIfInBounds_toArray, List.set_cons_zero, List.set_cons_succ])
     refine wpAnyH_done (by kernel_rfl) ?_ _
     exact HQ.out _ _ _ HK.out H0.out H1.out L0.out L1.out _ _ _ _ _ _ _ _ _ _ _ _ _
    ·obtain ⟨B11_6, xB⟩ : ∃ B, A5_3.setCell ⟨F, 1, none⟩ (.slice (some ⟨V7_2.heap.size, 0, none⟩) 1 1) = B := ⟨_, rfl⟩
     have cF : A5_3.cell? ⟨F, 1, none⟩ = some (.slice (some ⟨I0, 0, none⟩) 1 1) := (cell_at HK.out.f 1 rfl)
     have fF : A5_3.frozen? ⟨F, 1, none⟩ = false := (show FreeB A5_3 F from ⟨_, _, HK.out.f⟩).free 1
     have hn := HK.out.set HNE.out 1 (.slice (some ⟨V7_2.heap.size, 0, none⟩) 1 1)
     rw [xB] at hn
     have HN := Lib.hid hn
     have ht := setCell_far (i := 1) (.slice (some ⟨V7_2.heap.size, 0, none⟩) 1 1) (show V7_2.heap.size ≠ F by have := L0.out; have := HFL.out; omega) (W := A5_3)
     rw [xB] at ht
     have HT := Lib.hid (ht.trans H0.out)
     clear H0 ht
     have H0 := HT
     clear HT
     clear HK hn
     go_simp
     clear xB cF fF
     refine hK.out _ _ HN.out.s (fun _ => ?_)
     clear hK K1
     have HK := HN
     clear HN
     try (simp only [Act.put, List.getElem_toArray, List.getElem_cons_zero, List.getElem_cons_succ, List.setIfInBounds_toArray, List.set_cons_zero, List.set_cons_succ])
     refine wpAnyH_ready (rs := [8]) (by kernel_rfl) (by simp) ?_
     refine AllReadyH.cons (o := _) rfl (fun K1 hK => ?_) AllReadyH.nil
     obtain ⟨A8_7, xA, gA, bA, sA⟩ := mk_cells B11_6 #[.int .i64 4, .int .i64 0, sv [113], .int .i64 1, .slice none 0 0, .slice none 0 0, .int .i64 4, .int .i64 0, sv [112], .int .i64 0, .slice none 0 0, .slice none 0 0] 78
     have HN := Lib.hid (HK.out.below bA)
     have HT := Lib.hid (keepO bA H0.out)
     clear H0
     have H0 := HT
     clear HT
     have H1 := Lib.hid gA
     have L1 : Hid (W.heap.size ≤ B11_6.heap.size) := Lib.hid HK.out.grow.size
     clear HK gA bA sA
     go_simp
     clear xA
     refine hK.out _ _ HN.out.s (fun _ => ?_)
     clear hK K1
     have HK := HN
     clear HN
     try (simp only [Act.put, List.getElem_toArray, List.getElem_cons_zero, List.getElem_cons_succ, List.setIfInBounds_toArray, List.set_cons_zero, List.set_cons_succ])
     refine wpAnyH_take (i := 12) (oi := _) (v := .pointer (some ⟨F, 2, none⟩)) rfl (by kernel_rfl) (by kernel_rfl) (by kernel_rfl) (fun _ _ _ h => h) (Or.inl ⟨by kernel_rfl, fun V hb => by go_simp⟩) HK.out.s ?_
     try (simp only [Act.put, List.getElem_toArray, List.getElem_cons_zero, List.getElem_cons_succ, List.setIfInBounds_toArray, List.set_cons_zero, List.set_cons_succ])
     refine wpAnyH_take (i := 13) (oi := _) (v := .pointer (some ⟨F, 3, none⟩)) rfl (by kernel_rfl) (by kernel_rfl) (by kernel_rfl) (fun _ _ _ h => h) (Or.inl ⟨by kernel_rfl, fun V hb => by go_simp⟩) HK.out.s ?_
     try (simp only [Act.put, List.getElem_toArray, List.getElem_cons_zero, List.getElem_cons_succ, List.setIfInBounds_toArray, List.set_cons_zero, List.set_cons_succ])
     refine wpAnyH_ready (rs := [14]) (by kernel_rfl) (by simp) ?_
     refine AllReadyH.cons (o := _) rfl (fun K1 hK => ?_) AllReadyH.nil
     obtain ⟨B14_10, xB⟩ : ∃ B, A8_7.setCell ⟨F, 3, none⟩ (.slice (some ⟨B11_6.heap.size, 0, none⟩) 2 2) = B := ⟨_, rfl⟩
     have cF : A8_7.cell? ⟨F, 3, none⟩ = some (.slice (some ⟨I1, 0, none⟩) 1 1) := (cell_at HK.out.f 3 rfl)
     have fF : A8_7.frozen? ⟨F, 3, none⟩ = false := (show FreeB A8_7 F from ⟨_, _, HK.out.f⟩).free 3
     have hn := HK.out.set HNE.out 3 (.slice (some ⟨B11_6.heap.size, 0, none⟩) 2 2)
     rw [xB] at hn
     have HN := Lib.hid hn
     have ht := setCell_far (i := 3) (.slice (some ⟨B11_6.heap.size, 0, none⟩) 2 2) (show V7_2.heap.size ≠ F by have := L0.out; have := HFL.out; omega) (W := A8_7)
     rw [xB] at ht
     have HT := Lib.hid (ht.trans H0.out)
     clear H0 ht
     have H0 := HT
     clear HT
     have ht := setCell_far (i := 3) (.slice (some ⟨B11_6.heap.size, 0, none⟩) 2 2) (show B11_6.heap.size ≠ F by have := L1.out; have := HFL.out; omega) (W := A8_7)
     rw [xB] at ht
     have HT := Lib.hid (ht.trans H1.out)
     clear H1 ht
     have H1 := HT
     clear HT
     clear HK hn
     go_simp
     clear xB cF fF
     refine hK.out _ _ HN.out.s (fun _ => ?_)
     clear hK K1
     have HK := HN
     clear HN
     try (simp only [Act.put, List.getElem_toArray, List.getElem_cons_zero, List.getElem_cons_succ, List.setIfInBounds_toArray, List.set_cons_zero, List.set_cons_succ])
     refine wpAnyH_done (by kernel_rfl) ?_ _
     exact HQ.out _ _ _ HK.out H0.out H1.out L0.out L1.out _ _ _ _ _ _ _ _ _ _ _ _ _
   ·obtain ⟨A8_3, xA, gA, bA, sA⟩ := mk_cells V7_2 #[.int .i64 4, .int .i64 0, sv [113], .int .i64 1, .slice none 0 0, .slice none 0 0, .int .i64 4, .int .i64 0, sv [112], .int .i64 0, .slice none 0 0, .slice none 0 0] 78
    have HN := Lib.hid (HK.out.below bA)
    have H1 := Lib.hid gA
    have L1 : Hid (W.heap.size ≤ V7_2.heap.size) := Lib.hid HK.out.grow.size
    clear HK gA bA sA
    go_simp
    clear xA
    refine hK.out _ _ HN.out.s (fun _ => ?_)
    clear hK K1
    have HK := HN
    clear HN
    try (simp only [Act.put, List.getElem_toArray, List.getElem_cons_zero, List.getElem_cons_succ, List.setIfInBounds_toArray, List.set_cons_zero, List.set_cons_succ])
    refine wpAnyH_ready (rs := [5]) (by kernel_rfl) (by simp) ?_
    refine AllReadyH.cons (o := _) rfl (fun K1 hK => ?_) AllReadyH.nil
    obtain ⟨A5_4, xA, gA, bA, sA⟩ := mk_cells A8_3 #[.int .i64 4, .int .i64 0, sv [113], .int .i64 1, .slice none 0 0, .slice none 0 0] 78
    have HN := Lib.hid (HK.out.below bA)
    have HT := Lib.hid (keepO bA H1.out)
    clear H1
    have H1 := HT
    clear HT
    have H0 := Lib.hid gA
    have L0 : Hid (W.heap.size ≤ A8_3.heap.size) := Lib.hid HK.out.grow.size
    clear HK gA bA sA
    go_simp
    clear xA
    refine hK.out _ _ HN.out.s (fun _ => ?_)
    clear hK K1
    have HK := HN
    clear HN
    try (simp only [Act.put, List.getElem_toArray, List.getElem_cons_zero, List.getElem_cons_succ, List.setIfInBounds_toArray, List.set_cons_zero, List.set_cons_succ])
    refine wpAnyH_take (i := 9) (oi := _) (v := .pointer (some ⟨F, 0, none⟩)) rfl (by kernel_rfl) (by kernel_rfl) (by kernel_rfl) (fun _ _ _ h => h) (Or.inl ⟨by kernel_rfl, fun V hb => by go_simp⟩) HK.out.s ?_
    try (simp only [Act.put, List.getElem_toArray, List.getElem_cons_zero, List.getElem_cons_succ, List.setIfInBounds_toArray, List.set_cons_zero, List.set_cons_succ])
    refine wpAnyH_take (i := 10) (oi := _) (v := .pointer (some ⟨F, 1, none⟩)) rfl (by kernel_rfl) (by kernel_rfl) (by kernel_rfl) (fun _ _ _ h => h) (Or.inl ⟨by kernel_rfl, fun V hb => by go_simp⟩) HK.out.s ?_
    try (simp only [Act.put, List.getElem_toArray, List.getElem_cons_zero, List.getElem_cons_succ, List.setIfInBounds_toArray, List.set_cons_zero, List.set_cons_succ])
    refine wpAnyH_ready (rs := [11]) (by kernel_rfl) (by simp) ?_
    refine AllReadyH.cons (o := _) rfl (fun K1 hK => ?_) AllReadyH.nil
    obtain ⟨B11_7, xB⟩ : ∃ B, A5_4.setCell ⟨F, 1, none⟩ (.slice (some ⟨A8_3.heap.size, 0, none⟩) 1 1) = B := ⟨_, rfl⟩
    have cF : A5_4.cell? ⟨F, 1, none⟩ = some (.slice (some ⟨I0, 0, none⟩) 1 1) := (cell_at HK.out.f 1 rfl)
    have fF : A5_4.frozen? ⟨F, 1, none⟩ = false := (show FreeB A5_4 F from ⟨_, _, HK.out.f⟩).free 1
    have hn := HK.out.set HNE.out 1 (.slice (some ⟨A8_3.heap.size, 0, none⟩) 1 1)
    rw [xB] at hn
    have HN := Lib.hid hn
    have ht := setCell_far (i := 1) (.slice (some ⟨A8_3.heap.size, 0, none⟩) 1 1) (show A8_3.heap.size ≠ F by have := L0.out; have := HFL.out; omega) (W := A5_4)
    rw [xB] at ht
    have HT := Lib.hid (ht.trans H0.out)
    clear H0 ht
    have H0 := HT
    clear HT
    have ht := setCell_far (i := 1) (.slice (some ⟨A8_3.heap.size, 0, none⟩) 1 1) (show V7_2.heap.size ≠ F by have := L1.out; have := HFL.out; omega) (W := A5_4)
    rw [xB] at ht
    have HT := Lib.hid (ht.trans H1.out)
    clear H1 ht
    have H1 := HT
    clear HT
    clear HK hn
    go_simp
    clear xB cF fF
    refine hK.out _ _ HN.out.s (fun _ => ?_)
    clear hK K1
    have HK := HN
    clear HN
    try (simp only [Act.put, List.getElem_toArray, List.getElem_cons_zero, List.getElem_cons_succ, List.setIfInBounds_toArray, List.set_cons_zero, List.set_cons_succ])
    refine wpAnyH_take (i := 12) (oi := _) (v := .pointer (some ⟨F, 2, none⟩)) rfl (by kernel_rfl) (by kernel_rfl) (by kernel_rfl) (fun _ _ _ h => h) (Or.inl ⟨by kernel_rfl, fun V hb => by go_simp⟩) HK.out.s ?_
    try (simp only [Act.put, List.getElem_toArray, List.getElem_cons_zero, List.getElem_cons_succ, List.setIfInBounds_toArray, List.set_cons_zero, List.set_cons_succ])
    refine wpAnyH_take (i := 13) (oi := _) (v := .pointer (some ⟨F, 3, none⟩)) rfl (by kernel_rfl) (by kernel_rfl) (by kernel_rfl) (fun _ _ _ h => h) (Or.inl ⟨by kernel_rfl, fun V hb => by go_simp⟩) HK.out.s ?_
    try (simp only [Act.put, List.getElem_toArray, List.getElem_cons_zero, List.getElem_cons_succ, List.setIfInBounds_toArray, List.set_cons_zero, List.set_cons_succ])
    refine wpAnyH_ready (rs := [14]) (by kernel_rfl) (by simp) ?_
    refine AllReadyH.cons (o := _) rfl (fun K1 hK => ?_) AllReadyH.nil
    obtain ⟨B14_10, xB⟩ : ∃ B, B11_7.setCell ⟨F, 3, none⟩ (.slice (some ⟨V7_2.heap.size, 0, none⟩) 2 2) = B := ⟨_, rfl⟩
    have cF : B11_7.cell? ⟨F, 3, none⟩ = some (.slice (some ⟨I1, 0, none⟩) 1 1) := (cell_at HK.out.f 3 rfl)
    have fF : B11_7.frozen? ⟨F, 3, none⟩ = false := (show FreeB B11_7 F from ⟨_, _, HK.out.f⟩).free 3
    have hn := HK.out.set HNE.out 3 (.slice (some ⟨V7_2.heap.size, 0, none⟩) 2 2)
    rw [xB] at hn
    have HN := Lib.hid hn
    have ht := setCell_far (i := 3) (.slice (some ⟨V7_2.heap.size, 0, none⟩) 2 2) (show A8_3.heap.size ≠ F by have := L0.out; have := HFL.out; omega) (W := B11_7)
    rw [xB] at ht
    have HT := Lib.hid (ht.trans H0.out)
    clear H0 ht
    have H0 := HT
    clear HT
    have ht := setCell_far (i := 3) (.slice (some ⟨V7_2.heap.size, 0, none⟩) 2 2) (show V7_2.heap.size ≠ F by have := L1.out; have := HFL.out; omega) (W := B11_7)
    rw [xB] at ht
    have HT := Lib.hid (ht.trans H1.out)
    clear H1 ht
    have H1 := HT
    clear HT
    clear HK hn
    go_simp
    clear xB cF fF
    refine hK.out _ _ HN.out.s (fun _ => ?_)
    clear hK K1
    have HK := HN
    clear HN
    try (simp only [Act.put, List.getElem_toArray, List.getElem_cons_zero, List.getElem_cons_succ, List.setIfInBounds_toArray, List.set_cons_zero, List.set_cons_succ])
    refine wpAnyH_done (by kernel_rfl) ?_ _
    exact HQ.out _ _ _ HK.out H0.out H1.out L0.out L1.out _ _ _ _ _ _ _ _ _ _ _ _ _
end Go.Proofs.Ytpnbpepkoekkoaa
end
section
namespace Go.Proofs.Ytpnbpepkoekkoaa
open Go Go.RowKit Go.Shelf
theorem sm_bx {R T M U I0 I1 F D X : Nat} {W : World} (h : Sm18 R T M U I0 I1 F D W) (hX : W.heap[X]? = some (.cells (sm18 R T M U I0 I1 F D).cells 30 (0, 0))) : Bx (sm18 R T M U I0 I1 F D) sm18N X W := ⟨hX, (sm18_at h).1, (sm18_at h).2⟩
theorem nar_bx {R T M U I0 I1 F D X : Nat} {W : World} (h : Sm18 R T M U I0 I1 F D W) (hX : W.heap[X]? = some (.cells (ex18 0 0 R T F D (phP I0 M) (phQ I1 U) 1).cells 30 (0, 0))) : Bx (ex18 0 0 R T F D (phP I0 M) (phQ I1 U) 1) sm18N X W :=
 ⟨hX, ex_at h.hR h.hT h.hF h.hD rfl rfl (phP_its h.hI0 h.hM).1 (phQ_its h.hI1 h.hU).1, (sm18_at h).2⟩
theorem late_bx {R T M U I0 I1 F D X : Nat} {W V : World} (h : Sm18 R T M U I0 I1 F D W) (hne : ∀ b ∈ [R, T, M, U, I0, I1, F], b ≠ D) (hD : V.heap[D]? = some (.cells #[sv [97], .int .i64 0, sv [113], .int .i64 1, .int .i64 2, .bool false] 73 (0, 0))) (hk : ∀ b, b ≠ D → V.heap[b]? = W.heap[b]?) (hX : V.heap[X]? = some (.cells (sm18 R T M U I0 I1 F D).cells 30 (0, 0))) : Bx (ex18 2 1 R T F D (phP I0 M) (phQ I1 U) 2) sm18N X V := by
 have k : ∀ b, b ∈ [R, T, M, U, I0, I1, F] → V.heap[b]? = W.heap[b]? := fun b hb => hk b (hne b hb)
 have hI0 := (k I0 (by simp)).trans h.hI0
 have hM := (k M (by simp)).trans h.hM
 have hI1 := (k I1 (by simp)).trans h.hI1
 have hU := (k U (by simp)).trans h.hU
 obtain ⟨a1, a2⟩ := phP_its hI0 hM
 obtain ⟨b1, b2⟩ := phQ_its hI1 hU
 refine ⟨hX, ex_at ((k R (by simp)).trans h.hR) ((k T (by simp)).trans h.hT) ((k F (by simp)).trans h.hF) hD rfl rfl a1 b1, ?_⟩
 obtain ⟨x1, x2, _⟩ := a2
 obtain ⟨y1, y2, _⟩ := b2
 exact ⟨x1, x2, y1, y2, cell_at hD 1 rfl, cell_at hD 3 rfl, trivial⟩
theorem rg_bx {R T F D X X0 X1 : Nat} {V : World} (hR : V.heap[R]? = some (.cells #[sv [97], .int .i64 20, .int .i64 10, .int .i64 7] 59 (0, 0))) (hT : V.heap[T]? = some (.cells #[.int .i64 0, .int .i64 1000, .int .i64 0] 135 (0, 0))) (hF : V.heap[F]? = some (.cells #[sv [112], .slice (some ⟨X0, 0, none⟩) 1 1, sv [113], .slice (some ⟨X1, 0, none⟩) 2 2] 57 (0, 0))) (hD : V.heap[D]? = some (.cells #[sv [97], .int .i64 0, sv [113], .int .i64 1, .int .i64 1, .bool false] 73 (0, 0)))
  (h0 : V.heap[X0]? = some (.cells #[.int .i64 4, .int .i64 0, sv [113], .int .i64 1, .slice none 0 0, .slice none 0 0] 78 (0, 0))) (h1 : V.heap[X1]? = some (.cells #[.int .i64 4, .int .i64 0, sv [113], .int .i64 1, .slice none 0 0, .slice none 0 0, .int .i64 4, .int .i64 0, sv [112], .int .i64 0, .slice none 0 0, .slice none 0 0] 78 (0, 0))) (hX : V.heap[X]? = some (.cells (ex18 2 1 R T F D (rgP X0) (rgQ X1) 1).cells 30 (0, 0))) : Bx (ex18 2 1 R T F D (rgP X0) (rgQ X1) 1) rg18N X V := by
 have m1 : (1 : Nat) ≤ maxLen := by decide
 have m2 : (2 : Nat) ≤ maxLen := by decide
 refine ⟨hX, ex_at hR hT hF hD rfl rfl ⟨Or.inr rfl, m1, ?_⟩ ⟨Or.inr rfl, m2, ?_⟩, ?_⟩
 ·exact ⟨⟨cell_at h0 0 rfl, cell_at h0 1 rfl, cell_at h0 2 rfl, cell_at h0 4 rfl, cell_at h0 5 rfl⟩, ⟨Or.inl rfl, Nat.zero_le _, trivial⟩, ⟨Or.inl rfl, Nat.zero_le _, trivial⟩, trivial⟩
 ·exact ⟨⟨cell_at h1 0 rfl, cell_at h1 1 rfl, cell_at h1 2 rfl, cell_at h1 4 rfl, cell_at h1 5 rfl⟩, ⟨Or.inl rfl, Nat.zero_le _, trivial⟩, ⟨Or.inl rfl, Nat.zero_le _, trivial⟩,
   ⟨cell_at h1 6 rfl, cell_at h1 7 rfl, cell_at h1 8 rfl, cell_at h1 10 rfl, cell_at h1 11 rfl⟩, ⟨Or.inl rfl, Nat.zero_le _, trivial⟩, ⟨Or.inl rfl, Nat.zero_le _, trivial⟩, trivial⟩
 ·exact ⟨cell_at h0 3 rfl, cell_at h1 3 rfl, cell_at h1 9 rfl, cell_at hD 1 rfl, cell_at hD 3 rfl, trivial⟩
theorem Sm18.keep {R T M U I0 I1 F D : Nat} {W V : World} (h : Sm18 R T M U I0 I1 F D W) (k : ∀ b ∈ [R, T, M, U, I0, I1, F, D], V.heap[b]? = W.heap[b]?) : Sm18 R T M U I0 I1 F D V :=
 ⟨(k R (by simp)).trans h.hR, (k T (by simp)).trans h.hT, (k M (by simp)).trans h.hM, (k U (by simp)).trans h.hU, (k I0 (by simp)).trans h.hI0, (k I1 (by simp)).trans h.hI1, (k F (by simp)).trans h.hF, (k D (by simp)).trans h.hD⟩
theorem ne_last {R T M U I0 I1 F D : Nat} (h : [R, T, M, U, I0, I1, F, D].Nodup) : ∀ b ∈ [R, T, M, U, I0, I1, F], b ≠ D := fun b hb e => (List.nodup_append.1 (show ([R, T, M, U, I0, I1, F] ++ [D]).Nodup from h)).2.2 b hb D (by simp) e
theorem ne_ring {R T M U I0 I1 F D : Nat} (h : [R, T, M, U, I0, I1, F, D].Nodup) : R ≠ F ∧ T ≠ F ∧ D ≠ F := by
 have g := List.nodup_append.1 (show ([R, T, M, U, I0, I1] ++ [F, D]).Nodup from h)
 refine ⟨fun e => g.2.2 R (by simp) F (by simp) e, fun e => g.2.2 T (by simp) F (by simp) e, fun e => ?_⟩
 have h2 := (List.nodup_cons.1 g.2.1).1
 exact h2 (by simp [e])
set_option maxRecDepth 100000 in
set_option maxHeartbeats 16000000 in
theorem sane_d (v : Value) (x1 x2 x3 : Ls) (n1 n2 n3 : List Int) (Xa Xb Xc : Nat) (w W : World) (HE : Hid (∀ V, Below w.heap.size w V → Env V)) (q : Below w.heap.size w W) (B1 : Bx x1 n1 Xa W) (B2 : Bx x2 n2 Xb W) (B3 : Bx x3 n3 Xc W) (s1 : soundE x1 n1 = 0) (s2 : soundE x2 n2 = 180) (s3 : soundE x3 n3 = 180) (hrow : IntRow W v [0, 1]) (e0 e4 e6 e14 e15 e16 e17 e18 e19 e20 e21 e22 e23 e24 e25 e26 e27 e28 e29 e30 e31 e32 e33 e34 e35 e36 e37 e38 e39 e40 e41 e42 e43 e44 e45 e46 e47 e48 e49 e50 e51 e52 e53 e54 e55 e56 e57 e58 e59 e60 e61 e62 e63 e64 e65 e66 e67 e68 e69 e70 e71 e72 e73 e74 e75 e76 e77 e78 e79 e80 e81 e82 e83 e84 e85 e86 e87 e88 e89 e90 e91 e92 e93 e94 e95 e96 e97 e98 e99 e100 e101 e102 e103 e104 e105 e106 e107 e108 e109 e110 e111 e112 e113 e114 e115 e116 e117 e118 e119 e120 : Value) :
  (lastPart 10 code25).wp Try.prog (bodyPost Try.prog Try.f25 (fun e w' => e = .returned (.bool true) ∧ Below w.heap.size w w')) { tmps := #[e0, .pointer (some ⟨Xa, 0, none⟩), .int .i64 2, .int .i64 0, e4, .int .i64 1, e6, .bool false, .int .i64 0, .pointer (some ⟨Xb, 0, none⟩), v, .bool true, .int .i64 0, .pointer (some ⟨Xc, 0, none⟩), e14, e15, e16, e17, e18, e19, e20, e21, e22, e23, e24, e25, e26, e27, e28, e29, e30, e31, e32, e33, e34, e35, e36, e37, e38, e39, e40, e41, e42, e43, e44, e45, e46, e47, e48, e49, e50, e51, e52, e53, e54, e55, e56, e57, e58, e59, e60, e61, e62, e63, e64, e65, e66, e67, e68, e69, e70, e71, e72, e73, e74, e75, e76, e77, e78, e79, e80, e81, e82, e83, e84, e85, e86, e87, e88, e89, e90, e91, e92, e93, e94, e95, e96, e97, e98, e99, e100, e101, e102, e103, e104, e105, e106, e107, e108, e109, e110, e111, e112, e113, e114, e115, e116, e117, e118, e119, e120], defers := [] } W := by
 rw [snstep10]
 refine wp_seq_thenQ (fun K hK => ?_)
 have HK := Lib.hid hK
 clear hK
 refine sn_e10 W _ _ _ _ _ _ _ _ _ _ _ _ _ _ _ _ _ _ _ _ _ _ _ _ _ _ _ _ _ _ _ _ _ _ _ _ _ _ _ _ _ _ _ _ _ _ _ _ _ _ _ _ _ _ _ _ _ _ _ _ _ _ _ _ _ _ _ _ _ _ _ _ _ _ _ _ _ _ _ _ _ _ _ _ _ _ _ _ _ _ _ _ _ _ _ _ _ _ _ _ _ _ _ _ _ _ _ _ _ _ _ _ _ _ _ _ _ _ _ _ _ _ ?_
 intro Rd Td Md Ud Id Jd Fd Dd Xd y Vd ad bd cd dd ld qd
 refine HK.out _ _ ?_
 clear HK K
 rw [snstep11]
 refine wp_seq_thenQ (fun K hK => ?_)
 have HK := Lib.hid hK
 clear hK
 refine sn_e11 Rd Td Fd Dd Xd (phP Id Md) (phQ Jd Ud) 2 1 1 Vd dd ad.hD _ _ _ _ _ _ _ _ _ _ _ _ _ _ _ _ _ _ _ _ _ _ _ _ _ _ _ _ _ _ _ _ _ _ _ _ _ _ _ _ _ _ _ _ _ _ _ _ _ _ _ _ _ _ _ _ _ _ _ _ _ _ _ _ _ _ _ _ _ _ _ _ _ _ _ _ _ _ _ _ _ _ _ _ _ _ _ _ _ _ _ _ _ _ _ _ _ _ _ _ _ _ _ _ _ _ _ _ _ _ _ _ _ _ _ _ _ _ _ _ _ ?_
 intro x56 x57 x58 x59 V11 e11 k11 n11
 refine HK.out _ _ ?_
 clear HK K
 have g11 : Below W.heap.size W V11 := qd.trans (n11 _ (bd Dd (by simp)).1)
 have hXD : Xd ≠ Dd := Nat.ne_of_gt (bd Dd (by simp)).2
 have B4 := late_bx ad (ne_last cd) e11 k11 ((k11 _ hXD).trans dd)
 have B1 := B1.next g11
 have B2 := B2.next g11
 have B3 := B3.next g11
 have q11 := thenB q g11
 have hrow := hrow.below g11
 rw [snstep12]
 refine wp_seq_thenQ (fun K hK => ?_)
 have HK := Lib.hid hK
 clear hK
 refine sn_e12 v V11 hrow _ _ _ _ _ _ _ _ _ _ _ _ _ _ _ _ _ _ _ _ _ _ _ _ _ _ _ _ _ _ _ _ _ _ _ _ _ _ _ _ _ _ _ _ _ _ _ _ _ _ _ _ _ _ _ _ _ _ _ _ _ _ _ _ _ _ _ _ _ _ _ _ _ _ _ _ _ _ _ _ _ _ _ _ _ _ _ _ _ _ _ _ _ _ _ _ _ _ _ _ _ _ _ _ _ _ _ _ _ _ _ _ _ _ ?_
 intro x60 x61 x62 x63 x64 x65 x66 x67 x68 x69 x70 x71 x72 x73 x74 x75 x76 x77 x78 x79 x80 x81 x82 x83 x84 x85 x86 x87 x88 x89 x90 V12 h12
 refine HK.out _ _ ?_
 clear HK K
 exact sn_e13 x1 x2 x3 _ n1 n2 n3 _ Xa Xb Xc Xd w V12 HE.out (thenB q11 h12) (B1.next h12) (B2.next h12) (B3.next h12) (B4.next h12) s1 s2 s3 (late18_sound _ _ _ _ _ _ _ _) _ _ _ _ _ _ _ _ _ _ _ _ _ _ _ _ _ _ _ _ _ _ _ _ _ _ _ _ _ _ _ _ _ _ _ _ _ _ _ _ _ _ _ _ _ _ _ _ _ _ _ _ _ _ _ _ _ _ _ _ _ _ _ _ _ _ _ _ _ _ _ _ _ _ _ _ _ _ _ _ _ _ _ _ _ _ _ _ _ _ _ _ _ _ _ _ _ _ _ _ _ _ _ _ _ _ _ _ _ _ _ _ _ _ _ _ _
set_option maxRecDepth 100000 in
set_option maxHeartbeats 16000000 in
theorem sane_c (v : Value) (x1 x2 : Ls) (n1 n2 : List Int) (Xa Xb : Nat) (w W : World) (HE : Hid (∀ V, Below w.heap.size w V → Env V)) (q : Below w.heap.size w W) (B1 : Bx x1 n1 Xa W) (B2 : Bx x2 n2 Xb W) (s1 : soundE x1 n1 = 0) (s2 : soundE x2 n2 = 180) (hrow : IntRow W v [0, 1]) (e0 e4 e6 e13 e14 e15 e16 e17 e18 e19 e20 e21 e22 e23 e24 e25 e26 e27 e28 e29 e30 e31 e32 e33 e34 e35 e36 e37 e38 e39 e40 e41 e42 e43 e44 e45 e46 e47 e48 e49 e50 e51 e52 e53 e54 e55 e56 e57 e58 e59 e60 e61 e62 e63 e64 e65 e66 e67 e68 e69 e70 e71 e72 e73 e74 e75 e76 e77 e78 e79 e80 e81 e82 e83 e84 e85 e86 e87 e88 e89 e90 e91 e92 e93 e94 e95 e96 e97 e98 e99 e100 e101 e102 e103 e104 e105 e106 e107 e108 e109 e110 e111 e112 e113 e114 e115 e116 e117 e118 e119 e120 : Value) :
  (lastPart 8 code25).wp Try.prog (bodyPost Try.prog Try.f25 (fun e w' => e = .returned (.bool true) ∧ Below w.heap.size w w')) { tmps := #[e0, .pointer (some ⟨Xa, 0, none⟩), .int .i64 2, .int .i64 0, e4, .int .i64 1, e6, .bool false, .int .i64 0, .pointer (some ⟨Xb, 0, none⟩), v, .bool true, .int .i64 0, e13, e14, e15, e16, e17, e18, e19, e20, e21, e22, e23, e24, e25, e26, e27, e28, e29, e30, e31, e32, e33, e34, e35, e36, e37, e38, e39, e40, e41, e42, e43, e44, e45, e46, e47, e48, e49, e50, e51, e52, e53, e54, e55, e56, e57, e58, e59, e60, e61, e62, e63, e64, e65, e66, e67, e68, e69, e70, e71, e72, e73, e74, e75, e76, e77, e78, e79, e80, e81, e82, e83, e84, e85, e86, e87, e88, e89, e90, e91, e92, e93, e94, e95, e96, e97, e98, e99, e100, e101, e102, e103, e104, e105, e106, e107, e108, e109, e110, e111, e112, e113, e114, e115, e116, e117, e118, e119, e120], defers := [] } W := by
 rw [snstep8]
 refine wp_seq_thenQ (fun K hK => ?_)
 have HK := Lib.hid hK
 clear hK
 refine sn_e8 W _ _ _ _ _ _ _ _ _ _ _ _ _ _ _ _ _ _ _ _ _ _ _ _ _ _ _ _ _ _ _ _ _ _ _ _ _ _ _ _ _ _ _ _ _ _ _ _ _ _ _ _ _ _ _ _ _ _ _ _ _ _ _ _ _ _ _ _ _ _ _ _ _ _ _ _ _ _ _ _ _ _ _ _ _ _ _ _ _ _ _ _ _ _ _ _ _ _ _ _ _ _ _ _ _ _ _ _ _ _ _ _ _ _ _ _ _ _ _ _ _ _ ?_
 intro Rc Tc Mc Uc Ic Jc Fc Dc Xc y Vc ac bc cc dc lc qc
 refine HK.out _ _ ?_
 clear HK K
 rw [snstep9]
 refine wp_seq_thenQ (fun K hK => ?_)
 have HK := Lib.hid hK
 clear hK
 refine sn_e9 Rc Tc Fc Dc Xc (phP Ic Mc) (phQ Jc Uc) 2 1 1 Vc dc _ _ _ _ _ _ _ _ _ _ _ _ _ _ _ _ _ _ _ _ _ _ _ _ _ _ _ _ _ _ _ _ _ _ _ _ _ _ _ _ _ _ _ _ _ _ _ _ _ _ _ _ _ _ _ _ _ _ _ _ _ _ _ _ _ _ _ _ _ _ _ _ _ _ _ _ _ _ _ _ _ _ _ _ _ _ _ _ _ _ _ _ _ _ _ _ _ _ _ _ _ _ _ _ _ _ _ _ _ _ _ _ _ _ _ _ _ _ _ _ _ ?_
 intro x53 x54 V9 e9 k9 n9
 refine HK.out _ _ ?_
 clear HK K
 have g9 : Below W.heap.size W V9 := qc.trans (n9 _ lc)
 have a9 := ac.keep (fun b hb => k9 b (Nat.ne_of_lt (bc b hb).2))
 exact sane_d v x1 x2 _ n1 n2 _ Xa Xb Xc w V9 HE (thenB q g9) (B1.next g9) (B2.next g9) (nar_bx a9 e9) s1 s2 (nar18_sound _ _ _ _ _ _ _ _) (hrow.below g9) _ _ _ _ _ _ _ _ _ _ _ _ _ _ _ _ _ _ _ _ _ _ _ _ _ _ _ _ _ _ _ _ _ _ _ _ _ _ _ _ _ _ _ _ _ _ _ _ _ _ _ _ _ _ _ _ _ _ _ _ _ _ _ _ _ _ _ _ _ _ _ _ _ _ _ _ _ _ _ _ _ _ _ _ _ _ _ _ _ _ _ _ _ _ _ _ _ _ _ _ _ _ _ _ _ _ _ _ _ _
set_option maxRecDepth 100000 in
set_option maxHeartbeats 16000000 in
theorem sane_b (x1 : Ls) (n1 : List Int) (Xa : Nat) (w W : World) (HE : Hid (∀ V, Below w.heap.size w V → Env V)) (q : Below w.heap.size w W) (B1 : Bx x1 n1 Xa W) (s1 : soundE x1 n1 = 0) (e0 e4 e6 e9 e10 e11 e12 e13 e14 e15 e16 e17 e18 e19 e20 e21 e22 e23 e24 e25 e26 e27 e28 e29 e30 e31 e32 e33 e34 e35 e36 e37 e38 e39 e40 e41 e42 e43 e44 e45 e46 e47 e48 e49 e50 e51 e52 e53 e54 e55 e56 e57 e58 e59 e60 e61 e62 e63 e64 e65 e66 e67 e68 e69 e70 e71 e72 e73 e74 e75 e76 e77 e78 e79 e80 e81 e82 e83 e84 e85 e86 e87 e88 e89 e90 e91 e92 e93 e94 e95 e96 e97 e98 e99 e100 e101 e102 e103 e104 e105 e106 e107 e108 e109 e110 e111 e112 e113 e114 e115 e116 e117 e118 e119 e120 : Value) :
  (lastPart 5 code25).wp Try.prog (bodyPost Try.prog Try.f25 (fun e w' => e = .returned (.bool true) ∧ Below w.heap.size w w')) { tmps := #[e0, .pointer (some ⟨Xa, 0, none⟩), .int .i64 2, .int .i64 0, e4, .int .i64 1, e6, .bool false, .int .i64 0, e9, e10, e11, e12, e13, e14, e15, e16, e17, e18, e19, e20, e21, e22, e23, e24, e25, e26, e27, e28, e29, e30, e31, e32, e33, e34, e35, e36, e37, e38, e39, e40, e41, e42, e43, e44, e45, e46, e47, e48, e49, e50, e51, e52, e53, e54, e55, e56, e57, e58, e59, e60, e61, e62, e63, e64, e65, e66, e67, e68, e69, e70, e71, e72, e73, e74, e75, e76, e77, e78, e79, e80, e81, e82, e83, e84, e85, e86, e87, e88, e89, e90, e91, e92, e93, e94, e95, e96, e97, e98, e99, e100, e101, e102, e103, e104, e105, e106, e107, e108, e109, e110, e111, e112, e113, e114, e115, e116, e117, e118, e119, e120], defers := [] } W := by
 rw [snstep5]
 refine wp_seq_thenQ (fun K hK => ?_)
 have HK := Lib.hid hK
 clear hK
 refine sn_e5 W _ _ _ _ _ _ _ _ _ _ _ _ _ _ _ _ _ _ _ _ _ _ _ _ _ _ _ _ _ _ _ _ _ _ _ _ _ _ _ _ _ _ _ _ _ _ _ _ _ _ _ _ _ _ _ _ _ _ _ _ _ _ _ _ _ _ _ _ _ _ _ _ _ _ _ _ _ _ _ _ _ _ _ _ _ _ _ _ _ _ _ _ _ _ _ _ _ _ _ _ _ _ _ _ _ _ _ _ _ _ _ _ _ _ _ _ _ _ _ _ _ _ ?_
 intro Rb Tb Mb Ub Ib Jb Fb Db Xb y Vb ab bb cb db lb qb
 refine HK.out _ _ ?_
 clear HK K
 rw [snstep6]
 refine wp_seq_thenQ (fun K hK => ?_)
 have HK := Lib.hid hK
 clear hK
 have hXF : Xb ≠ Fb := Nat.ne_of_gt (bb Fb (by simp)).2
 refine wp_mono (sn_e6 Rb Tb Mb Ub Ib Jb Fb Db Xb Vb ab.hF db hXF K _ _ _ _ _ _ _ _ _ _ _ _ _ _ _ _ _ _ _ _ _ _ _ _ _ _ _ _ _ _ _ _ _ _ _ _ _ _ _ _ _ _ _ _ _ _ _ _ _ _ _ _ _ _ _ _ _ _ _ _ _ _ _ _ _ _ _ _ _ _ _ _ _ _ _ _ _ _ _ _ _ _ _ _ _ _ _ _ _ _ _ _ _ _ _ _ _ _ _ _ _ _ _ _ _ _ _ _ _ _ _ _ _ _ _ _ _ _ _ _ ?_) then_mono
 intro X0 X1 V6 k6 o0 o1 _ _ x33 x34 x35 x36 x37 x38 x39 x40 x41 x42 x43 x44 x45
 refine HK.out _ _ ?_
 clear HK K
 have g6 : Below W.heap.size W V6 := qb.grown k6.grow qb.size (fun z hz => by cases hz; exact (bb Fb (by simp)).1)
 have kb : ∀ (b : Nat) (o : Obj), Vb.heap[b]? = some o → b ≠ Fb → V6.heap[b]? = some o := fun b o hb hne => (k6.grow.block b (Array.getElem?_eq_some_iff.1 hb).1 (fun e => hne (by cases e; rfl))).trans hb
 obtain ⟨r1, r2, r3⟩ := ne_ring cb
 have B2 := rg_bx (kb _ _ ab.hR r1) (kb _ _ ab.hT r2) k6.f (kb _ _ ab.hD r3) o0 o1 k6.x
 have B1 := B1.next g6
 have q6 := thenB q g6
 rw [snstep7]
 refine wp_seq_thenQ (fun K hK => ?_)
 have HK := Lib.hid hK
 clear hK
 refine sn_e7 Rb Tb Fb Db X0 X1 Xb V6 B2 (HE.out _ q6) _ _ _ _ _ _ _ _ _ _ _ _ _ _ _ _ _ _ _ _ _ _ _ _ _ _ _ _ _ _ _ _ _ _ _ _ _ _ _ _ _ _ _ _ _ _ _ _ _ _ _ _ _ _ _ _ _ _ _ _ _ _ _ _ _ _ _ _ _ _ _ _ _ _ _ _ _ _ _ _ _ _ _ _ _ _ _ _ _ _ _ _ _ _ _ _ _ _ _ _ _ _ _ _ _ _ _ _ _ _ _ _ _ _ _ _ _ _ _ _ _ ?_
 intro v x46 x47 x48 x49 x50 x51 V7 hrow h7
 refine HK.out _ _ ?_
 clear HK K
 exact sane_c v x1 _ n1 _ Xa Xb w V7 HE (thenB q6 h7) (B1.next h7) (B2.next h7) s1 (rg18_sound _ _ _ _ _ _) hrow _ _ _ _ _ _ _ _ _ _ _ _ _ _ _ _ _ _ _ _ _ _ _ _ _ _ _ _ _ _ _ _ _ _ _ _ _ _ _ _ _ _ _ _ _ _ _ _ _ _ _ _ _ _ _ _ _ _ _ _ _ _ _ _ _ _ _ _ _ _ _ _ _ _ _ _ _ _ _ _ _ _ _ _ _ _ _ _ _ _ _ _ _ _ _ _ _ _ _ _ _ _ _ _ _ _ _ _ _ _ _
set_option maxRecDepth 100000 in
set_option maxHeartbeats 16000000 in
theorem sane18_any (w : World) (hE : ∀ V, Below w.heap.size w V → Env V) : Calls Try.prog 25 #[] w (fun e w' => e = .returned (.bool true) ∧ Below w.heap.size w w') := by
 have HE := Lib.hid hE
 clear hE
 go_enter Try.func25, Try.ntmps25
 change Code.wp Try.prog code25 _ _ _
 rw [snstep0]
 refine wp_seq_thenQ (fun K hK => ?_)
 have HK := Lib.hid hK
 clear hK
 conv => arg 2; whnf
 go_wp2_with fail
 refine HK.out _ _ ?_
 clear HK K
 rw [snstep1]
 refine wp_seq_thenQ (fun K hK => ?_)
 have HK := Lib.hid hK
 clear hK
 refine sn_e1 w _ _ _ _ _ _ _ _ _ _ _ _ _ _ _ _ _ _ _ _ _ _ _ _ _ _ _ _ _ _ _ _ _ _ _ _ _ _ _ _ _ _ _ _ _ _ _ _ _ _ _ _ _ _ _ _ _ _ _ _ _ _ _ _ _ _ _ _ _ _ _ _ _ _ _ _ _ _ _ _ _ _ _ _ _ _ _ _ _ _ _ _ _ _ _ _ _ _ _ _ _ _ _ _ _ _ _ _ _ _ _ _ _ _ _ _ _ _ _ _ _ _ ?_
 intro Ra Ta Ma Ua Ia Ja Fa Da Xa y Va aa ba ca da la qa
 refine HK.out _ _ ?_
 clear HK K
 have B1 := sm_bx aa da
 rw [snstep2]
 refine wp_seq_thenQ (fun K hK => ?_)
 have HK := Lib.hid hK
 clear hK
 refine sn_e2 Ra Ta Ma Ua Ia Ja Fa Da Xa Va B1 (HE.out _ qa) _ _ _ _ _ _ _ _ _ _ _ _ _ _ _ _ _ _ _ _ _ _ _ _ _ _ _ _ _ _ _ _ _ _ _ _ _ _ _ _ _ _ _ _ _ _ _ _ _ _ _ _ _ _ _ _ _ _ _ _ _ _ _ _ _ _ _ _ _ _ _ _ _ _ _ _ _ _ _ _ _ _ _ _ _ _ _ _ _ _ _ _ _ _ _ _ _ _ _ _ _ _ _ _ _ _ _ _ _ _ _ _ _ _ _ _ _ _ _ _ _ ?_
 intro x16 x17 x18 x19 x20 V2 h2
 refine HK.out _ _ ?_
 clear HK K
 have B1 := B1.next h2
 have q2 := thenB qa h2
 rw [snstep3]
 refine wp_seq_thenQ (fun K hK => ?_)
 have HK := Lib.hid hK
 clear hK
 refine sn_e3 Ra Ta Ma Ua Ia Ja Fa Da Xa V2 B1 (HE.out _ q2) _ _ _ _ _ _ _ _ _ _ _ _ _ _ _ _ _ _ _ _ _ _ _ _ _ _ _ _ _ _ _ _ _ _ _ _ _ _ _ _ _ _ _ _ _ _ _ _ _ _ _ _ _ _ _ _ _ _ _ _ _ _ _ _ _ _ _ _ _ _ _ _ _ _ _ _ _ _ _ _ _ _ _ _ _ _ _ _ _ _ _ _ _ _ _ _ _ _ _ _ _ _ _ _ _ _ _ _ _ _ _ _ _ _ _ _ _ _ _ _ _ ?_
 intro x21 x22 x23 x24 x25 V3 h3
 refine HK.out _ _ ?_
 clear HK K
 have B1 := B1.next h3
 have q3 := thenB q2 h3
 rw [snstep4]
 refine wp_seq_thenQ (fun K hK => ?_)
 have HK := Lib.hid hK
 clear hK
 refine sn_e4 Ra Ta Ma Ua Ia Ja Fa Da Xa V3 B1 (HE.out _ q3) _ _ _ _ _ _ _ _ _ _ _ _ _ _ _ _ _ _ _ _ _ _ _ _ _ _ _ _ _ _ _ _ _ _ _ _ _ _ _ _ _ _ _ _ _ _ _ _ _ _ _ _ _ _ _ _ _ _ _ _ _ _ _ _ _ _ _ _ _ _ _ _ _ _ _ _ _ _ _ _ _ _ _ _ _ _ _ _ _ _ _ _ _ _ _ _ _ _ _ _ _ _ _ _ _ _ _ _ _ _ _ _ _ _ _ _ _ _ _ _ _ ?_
 intro x26 x27 x28 x29 x30 x31 V4 h4
 refine HK.out _ _ ?_
 clear HK K
 have B1 := B1.next h4
 have q4 := thenB q3 h4
 exact sane_b _ _ Xa w V4 HE q4 B1 (sm18_sound _ _ _ _ _ _ _ _) _ _ _ _ _ _ _ _ _ _ _ _ _ _ _ _ _ _ _ _ _ _ _ _ _ _ _ _ _ _ _ _ _ _ _ _ _ _ _ _ _ _ _ _ _ _ _ _ _ _ _ _ _ _ _ _ _ _ _ _ _ _ _ _ _ _ _ _ _ _ _ _ _ _ _ _ _ _ _ _ _ _ _ _ _ _ _ _ _ _ _ _ _ _ _ _ _ _ _ _ _ _ _ _ _ _ _ _ _ _ _ _ _ _ _
end Go.Proofs.Ytpnbpepkoekkoaa
end
section
namespace Go.Proofs.Ytpnbpepkoekkoaa
open Go Go.RowKit Go.Deep
noncomputable def code9 : Code := (Try.f9.body).getD .skip
noncomputable def elem9n0 : Code := match lastPart 0 code9 with
 | .seq a _ => a
 | c => c
noncomputable def elem9n1 : Code := match lastPart 1 code9 with
 | .seq a _ => a
 | c => c
noncomputable def elem9n2 : Code := match lastPart 2 code9 with
 | .seq a _ => a
 | c => c
noncomputable def elem9n3 : Code := match lastPart 3 code9 with
 | .seq a _ => a
 | c => c
theorem r9step1 : lastPart 1 code9 = .seq elem9n1 (lastPart 2 code9) := rfl
theorem r9step2 : lastPart 2 code9 = .seq elem9n2 (lastPart 3 code9) := rfl
theorem r9step3 : lastPart 3 code9 = .seq elem9n3 (lastPart 4 code9) := rfl
set_option maxRecDepth 100000 in
set_option maxHeartbeats 16000000 in
theorem r9_e2 (s : Ls) (ns : List Int) (w W : World) (h : LawIn s ns w) (hW : LawW s w W) (hrest : ∀ (V : World) (e0 e2 e3 e4 e5 e6 e7 e8 e9 e10 e11 e12 e13 e14 e15 e16 e17 e18 e19 e20 e21 e22 e23 e24 e25 e26 e27 e28 e29 e30 e31 e32 e33 e34 e35 e36 e37 e38 e39 e40 e41 e42 e43 e44 e45 e46 e47 e48 e49 e50 e51 e52 e53 e54 e55 e56 e57 e58 e59 e60 e61 e62 e63 e64 e65 e66 e67 e68 e69 e70 : Value), LawW s w V → soundE s ns = 0 → s.phrases.length ≤ 12 ∧ s.roles.length ≤ 70 ∧ s.dances.length ≤ 300 → (lastPart 3 code9).wp Try.prog (bodyPost Try.prog Try.f9 (fun e w' => e = .returned (.bool true) ∧ Below w.heap.size w w')) { tmps := #[e0, .pointer (some ⟨w.heap.size, 0, none⟩), e2, e3, e4, e5, e6, e7, e8, e9, e10, e11, e12, e13, e14, e15, e16, e17, e18, e19, e20, e21, e22, e23, e24, e25, e26, e27, e28, e29, e30, e31, e32, e33, e34, e35, e36, e37, e38, e39, e40, e41, e42, e43, e44, e45, e46, e47, e48, e49, e50, e51, e52, e53, e54, e55, e56, e57, e58, e59, e60, e61, e62, e63, e64, e65, e66, e67, e68, e69, e70], defers := [] } V) (e0 e2 e3 e4 e5 e6 e7 e8 e9 e10 e11 e12 e13 e14 e15 e16 e17 e18 e19 e20 e21 e22 e23 e24 e25 e26 e27 e28 e29 e30 e31 e32 e33 e34 e35 e36 e37 e38 e39 e40 e41 e42 e43 e44 e45 e46 e47 e48 e49 e50 e51 e52 e53 e54 e55 e56 e57 e58 e59 e60 e61 e62 e63 e64 e65 e66 e67 e68 e69 e70 : Value) :
  (lastPart 2 code9).wp Try.prog (bodyPost Try.prog Try.f9 (fun e w' => e = .returned (.bool true) ∧ Below w.heap.size w w')) { tmps := #[e0, .pointer (some ⟨w.heap.size, 0, none⟩), e2, e3, e4, e5, e6, e7, e8, e9, e10, e11, e12, e13, e14, e15, e16, e17, e18, e19, e20, e21, e22, e23, e24, e25, e26, e27, e28, e29, e30, e31, e32, e33, e34, e35, e36, e37, e38, e39, e40, e41, e42, e43, e44, e45, e46, e47, e48, e49, e50, e51, e52, e53, e54, e55, e56, e57, e58, e59, e60, e61, e62, e63, e64, e65, e66, e67, e68, e69, e70], defers := [] } W := by
 have C := few18_any s W (h.at_.below hW.below) h.fit
 unfold Ls.val at C
 have HC := Lib.hid C; have HL := Lib.hid hW.box; have HW := Lib.hid hW; have HH := Lib.hid h; have HR := Lib.hid hrest
 clear C h hW hrest
 rw [r9step2]
 refine wp_seq_thenQ (fun K hK => ?_)
 have HK := Lib.hid hK
 clear hK
 conv => arg 2; whnf
 go_wp2_with (refine wpList_load_row rfl 30 _ rfl w.heap.size rfl 30 s.cells (0, 0) _ HL.out Try.underlying30 rfl (by kernel_rfl) ?_; simp only [Act.put, List.setIfInBounds_toArray, List.set_cons_zero, List.set_cons_succ])
 refine HC.out.mono ?_
 rintro e V ⟨b, rfl, hf, hv⟩
 have H3 := Lib.hid (HW.out.next hv)
 have HF := Lib.hid hf
 clear HC HL hv hf HW
 cases b with
 | false =>
  go_wp2_with fail
  try simp only [Exit.then]
  go_ret
  exact ⟨rfl, H3.out.below⟩
 | true =>
 have C := sound_any s ns V (HH.out.at_.below H3.out.below) (HH.out.ns.below H3.out.below) (HH.out.env _ H3.out.below)
 obtain ⟨c, hc⟩ : ∃ c, soundE s ns = c := ⟨_, rfl⟩
 unfold SndP at C
 rw [hc] at C
 unfold Ls.val at C
 have HC := Lib.hid C; have HL := Lib.hid H3.out.box; have HCE := Lib.hid hc
 clear C hc
 go_wp2_with (refine wpList_load_row_at (by kernel_rfl) 30 _ rfl w.heap.size rfl 30 s.cells (0, 0) _ HL.out Try.underlying30 rfl (by kernel_rfl) ?_; simp only [Act.put, List.setIfInBounds_toArray, List.set_cons_zero, List.set_cons_succ])
 refine HC.out.mono ?_
 rintro e V2 ⟨rfl, hv⟩
 have H4 := Lib.hid (H3.out.next hv)
 clear HC HL hv H3
 by_cases hz : c = 0
 ·subst hz
  go_wp2_with fail
  refine HK.out _ _ ?_
  exact HR.out _ _ _ _ _ _ _ _ _ _ _ _ _ _ _ _ _ _ _ _ _ _ _ _ _ _ _ _ _ _ _ _ _ _ _ _ _ _ _ _ _ _ _ _ _ _ _ _ _ _ _ _ _ _ _ _ _ _ _ _ _ _ _ _ _ _ _ _ _ _ _ H4.out HCE.out (HF.out trivial)
 ·have hne : (c != 0) = true := by simpa using hz
  have hne2 : (c == 0) = false := by simpa using hz
  go_wp2_with fail
  try simp only [Exit.then]
  go_ret
  exact ⟨rfl, H4.out.below⟩
set_option maxRecDepth 100000 in
set_option maxHeartbeats 16000000 in
theorem r9_head (s : Ls) (ns : List Int) (w : World) (h : LawIn s ns w) (hrest : ∀ (V : World) (e0 e2 e3 e4 e5 e6 e7 e8 e9 e10 e11 e12 e13 e14 e15 e16 e17 e18 e19 e20 e21 e22 e23 e24 e25 e26 e27 e28 e29 e30 e31 e32 e33 e34 e35 e36 e37 e38 e39 e40 e41 e42 e43 e44 e45 e46 e47 e48 e49 e50 e51 e52 e53 e54 e55 e56 e57 e58 e59 e60 e61 e62 e63 e64 e65 e66 e67 e68 e69 e70 : Value), LawW s w V → soundE s ns = 0 → s.phrases.length ≤ 12 ∧ s.roles.length ≤ 70 ∧ s.dances.length ≤ 300 → (lastPart 3 code9).wp Try.prog (bodyPost Try.prog Try.f9 (fun e w' => e = .returned (.bool true) ∧ Below w.heap.size w w')) { tmps := #[e0, .pointer (some ⟨w.heap.size, 0, none⟩), e2, e3, e4, e5, e6, e7, e8, e9, e10, e11, e12, e13, e14, e15, e16, e17, e18, e19, e20, e21, e22, e23, e24, e25, e26, e27, e28, e29, e30, e31, e32, e33, e34, e35, e36, e37, e38, e39, e40, e41, e42, e43, e44, e45, e46, e47, e48, e49, e50, e51, e52, e53, e54, e55, e56, e57, e58, e59, e60, e61, e62, e63, e64, e65, e66, e67, e68, e69, e70], defers := [] } V) : Calls Try.prog 9 #[s.val] w (fun e w' => e = .returned (.bool true) ∧ Below w.heap.size w w') := by
 obtain ⟨W1, hW1, h1⟩ : ∃ W1, w.alloc (.cells s.cells 30) = W1 ∧ LawW s w W1 := ⟨_, rfl, (Below.refl _ w).alloc (Nat.le_refl _) _, heap_alloc_new w _⟩
 obtain ⟨cs, hcs⟩ : ∃ cs, s.cells = cs := ⟨_, rfl⟩
 have hsv : s.val = .agg cs := by rw [← hcs]; rfl
 have hW1' : w.alloc (.cells cs 30) = W1 := by rw [← hcs]; exact hW1
 rw [hsv]
 have HW1 := Lib.hid hW1'; have HCS := Lib.hid hcs; have HH := Lib.hid h; have HR := Lib.hid hrest
 have H1 := Lib.hid h1
 clear hcs hW1 hW1' hsv h1 h hrest
 go_enter Try.func9, Try.ntmps9
 change Code.wp Try.prog (.seq elem9n0 (lastPart 1 code9)) _ _ _
 refine wp_seq_thenQ (fun K hK => ?_)
 have HK := Lib.hid hK
 clear hK
 conv => arg 2; whnf
 go_wp2_with fail
 refine HK.out _ _ ?_
 clear HK K
 rw [HW1.out]
 rw [r9step1]
 refine wp_seq_thenQ (fun K hK => ?_)
 have HK := Lib.hid hK
 clear hK
 conv => arg 2; whnf
 have C := sane18_any W1 (fun V hV => HH.out.env _ (thenB H1.out.below hV))
 have HC := Lib.hid C
 clear C
 go_wp2_with (go_at_call 25; refine HC.out.mono ?_; rintro e V ⟨rfl, hv⟩)
 refine HK.out _ _ ?_
 have H2 := Lib.hid (H1.out.next hv)
 clear HK K HC H1 HW1 hv
 exact r9_e2 s ns w V HH.out H2.out HR.out _ _ _ _ _ _ _ _ _ _ _ _ _ _ _ _ _ _ _ _ _ _ _ _ _ _ _ _ _ _ _ _ _ _ _ _ _ _ _ _ _ _ _ _ _ _ _ _ _ _ _ _ _ _ _ _ _ _ _ _ _ _ _ _ _ _ _ _ _ _
end Go.Proofs.Ytpnbpepkoekkoaa
end
section
namespace Go.Proofs.Ytpnbpepkoekkoaa
open Go Go.RowKit
theorem Its.sumF_ge (f : Nm → Int) (F : Int → Int) : ∀ (T : Its) (n : Int), T.exB = true → (∀ u ∈ T.uses f, 0 ≤ F u ∧ F u ≤ 4097) → 0 ≤ n → n ≤ 4097 → n ≤ T.sumF f F n
 | .nil, n, _, _, _, _ => Int.le_refl n
 | .cons k nn un its ms r, n, hx, hu, h0, h1 => by
  obtain ⟨hn, hi, hr⟩ := Its.exB_parts hx
  have hbi := its.sumF_bound f F 0 hi (fun u h => hu u (by simp [Its.uses, h])) (by omega) (by omega)
  have hF : k = 4 → 0 ≤ F (f un) := fun hk => (hu (f un) (by simp [Its.uses, hk])).1
  unfold Its.sumF
  have hv : 0 ≤ (if k = 1 then 1 else if k = 2 then nn * its.sumF f F 0 else if k = 3 then its.sumF f F 0 else if k = 4 then F (f un) else 0) := by
   split
   ·omega
   ·split
    ·rename_i h2
     subst h2
     exact Int.mul_nonneg (by have := num_two hn; omega) hbi.1
    ·split
     ·exact hbi.1
     ·split
      ·rename_i h4; exact hF h4
      ·omega
  have := r.sumF_ge f F (min (n + (if k = 1 then 1 else if k = 2 then nn * its.sumF f F 0 else if k = 3 then its.sumF f F 0 else if k = 4 then F (f un) else 0)) 4097) hr (fun u h => hu u (by simp [Its.uses, h])) (by omega) (by omega)
  omega
theorem Its.sumF_sat (f : Nm → Int) (F : Int → Int) (T : Its) (hx : T.exB = true) (hu : ∀ u ∈ T.uses f, 0 ≤ F u ∧ F u ≤ 4097) : T.sumF f F 4097 = 4097 := by
 have h1 := T.sumF_ge f F 4097 hx hu (by omega) (by omega)
 have h2 := T.sumF_bound f F 4097 hx hu (by omega) (by omega)
 omega
def SumOk (t : Its) (f : Nm → Int) (len : Int → Int) (n : Int) (ok : Bool) : Prop := (ok = true → 0 ≤ n ∧ n ≤ 1048576 ∧ t.sumF f len 0 = min n 4097) ∧ (ok = false → t.sumF f len 0 = 4097)
def SumR (t : Its) (f : Nm → Int) (len : Int → Int) (w : World) (e : Ending) (w' : World) : Prop := ∃ (n : Int) (ok : Bool), e = .returned (.tuple #[.int .i64 n, .bool ok]) ∧ SumOk t f len n ok ∧ Below w.heap.size w w'
def LnC (s : Ls) (len : Int → Int) (w0 : World) (us : List Int) : Prop := ∀ u ∈ us, ∀ V, Below w0.heap.size w0 V → Calls Try.prog 30 #[s.val, .int .i64 u] V (fun e V' => e = .returned (.tuple #[.int .i64 (if len u ≤ 4096 then len u else 0), .int .i64 (if len u ≤ 4096 then 0 else 2)]) ∧ Below V.heap.size V V')
def SumAt (T R : Its) (f : Nm → Int) (len : Int → Int) (n : Int) (ok : Bool) : Prop := (ok = true → 0 ≤ n ∧ n ≤ 1048576 ∧ T.sumF f len 0 = R.sumF f len (min n 4097)) ∧ (ok = false → T.sumF f len 0 = 4097)
def itemV (k nn : Int) (un : Nm) (si : Int) (f : Nm → Int) (len : Int → Int) : Int := if k = 1 then 1 else if k = 2 then nn * si else if k = 3 then si else if k = 4 then len (f un) else 0
theorem SumAt.step {T r its : Its} {f : Nm → Int} {len : Int → Int} {k nn : Int} {un : Nm} {ms : List Mov} {a m a2 : Int} {ok fine : Bool} (h : SumAt T (.cons k nn un its ms r) f len a ok) (hr : r.exB = true) (hu : ∀ u ∈ r.uses f, 0 ≤ len u ∧ len u ≤ 4097)
  (h1 : fine = true → 0 ≤ m ∧ m ≤ 67108864 ∧ min (itemV k nn un (its.sumF f len 0) f len) 4097 = min m 4097 ∧ 0 ≤ itemV k nn un (its.sumF f len 0) f len) (h2 : fine = false → 4097 ≤ itemV k nn un (its.sumF f len 0) f len) (ha : a2 = wrap64 (a + m)) :
  (a2 ≤ 1048576 → SumAt T r f len a2 (ok && fine)) ∧ (1048576 < a2 → T.sumF f len 0 = 4097) := by
 have hs := r.sumF_sat f len hr hu
 cases ok with
 | false => exact ⟨fun _ => ⟨fun h => (by cases h), fun _ => h.2 rfl⟩, fun _ => h.2 rfl⟩
 | true =>
  obtain ⟨b1, b2, b3⟩ := h.1 rfl
  have hq : ∀ x y : Int, min x 4097 = min y 4097 → 0 ≤ x → 0 ≤ y → min (min a 4097 + x) 4097 = min (min a 4097 + y) 4097 := by omega
  have b4 : T.sumF f len 0 = r.sumF f len (min (min a 4097 + itemV k nn un (its.sumF f len 0) f len) 4097) := by rw [b3]; rfl
  cases fine with
  | false =>
   have h3 := h2 rfl
   rw [show min (min a 4097 + itemV k nn un (its.sumF f len 0) f len) 4097 = 4097 by omega, hs] at b4
   exact ⟨fun _ => ⟨fun h => (by cases h), fun _ => b4⟩, fun _ => b4⟩
  | true =>
   obtain ⟨c1, c2, c3, c4⟩ := h1 rfl
   have hw : a2 = a + m := by rw [ha, ← IntWalk.i64_left]; exact IntWalk.i64_in _ (by omega)
   rw [hq _ m c3 c4 c1] at b4
   refine ⟨fun h => ⟨fun _ => ⟨by omega, h, ?_⟩, fun h => (by cases h)⟩, fun h => ?_⟩
   ·rw [b4, hw]
    congr 1
    omega
   ·rw [b4, show min (min a 4097 + m) 4097 = 4097 by omega, hs]
theorem rep_true {nn m0 si : Int} (h1 : 1 ≤ nn) (h2 : nn ≤ 64) (h3 : 0 ≤ m0) (h4 : m0 ≤ 1048576) (h5 : si = min m0 4097) : 0 ≤ m0 * nn ∧ m0 * nn ≤ 67108864 ∧ min (nn * si) 4097 = min (m0 * nn) 4097 ∧ 0 ≤ nn * si := by
 have a0 : 0 ≤ m0 * nn := Int.mul_nonneg h3 (by omega)
 have a1 : m0 * nn ≤ 1048576 * 64 := Int.mul_le_mul h4 h2 (by omega) (by omega)
 refine ⟨a0, by omega, ?_, by subst h5; exact Int.mul_nonneg (by omega) (by omega)⟩
 by_cases h : m0 ≤ 4097
 ·rw [h5, show min m0 4097 = m0 by omega, Int.mul_comm]
 ·rw [h5, show min m0 4097 = 4097 by omega]
  have b1 : 1 * 4097 ≤ nn * 4097 := Int.mul_le_mul_of_nonneg_right h1 (by omega)
  have b2 : m0 * 1 ≤ m0 * nn := Int.mul_le_mul_of_nonneg_left h1 h3
  omega
theorem rep_false {nn si : Int} (h1 : 1 ≤ nn) (h5 : si = 4097) : 4097 ≤ nn * si := by
 subst h5
 have b1 : 1 * 4097 ≤ nn * 4097 := Int.mul_le_mul_of_nonneg_right h1 (by omega)
 omega
theorem rep_step {t : Its} {f : Nm → Int} {len : Int → Int} {nn m0 : Int} {un : Nm} {ok0 : Bool} (h1 : 1 ≤ nn) (h2 : nn ≤ 64) (h : SumOk t f len m0 ok0) :
  (ok0 = true → 0 ≤ wrap64 (m0 * max 1 nn) ∧ wrap64 (m0 * max 1 nn) ≤ 67108864 ∧ min (itemV 2 nn un (t.sumF f len 0) f len) 4097 = min (wrap64 (m0 * max 1 nn)) 4097 ∧ 0 ≤ itemV 2 nn un (t.sumF f len 0) f len) ∧ (ok0 = false → 4097 ≤ itemV 2 nn un (t.sumF f len 0) f len) := by
 have e : itemV 2 nn un (t.sumF f len 0) f len = nn * t.sumF f len 0 := by unfold itemV; simp
 rw [e, show max 1 nn = nn by omega]
 refine ⟨fun hk => ?_, fun hk => rep_false h1 (h.2 hk)⟩
 obtain ⟨a, b, c⟩ := h.1 hk
 obtain ⟨d1, d2, d3, d4⟩ := rep_true h1 h2 a b c
 rw [show wrap64 (m0 * nn) = m0 * nn by rw [← IntWalk.i64_left]; exact IntWalk.i64_in _ (by omega)]
 exact ⟨d1, d2, d3, d4⟩
theorem mir_step {t : Its} {f : Nm → Int} {len : Int → Int} {nn m0 : Int} {un : Nm} {ok0 : Bool} (h : SumOk t f len m0 ok0) :
  (ok0 = true → 0 ≤ wrap64 (m0 * max 1 0) ∧ wrap64 (m0 * max 1 0) ≤ 67108864 ∧ min (itemV 3 nn un (t.sumF f len 0) f len) 4097 = min (wrap64 (m0 * max 1 0)) 4097 ∧ 0 ≤ itemV 3 nn un (t.sumF f len 0) f len) ∧ (ok0 = false → 4097 ≤ itemV 3 nn un (t.sumF f len 0) f len) := by
 have e : itemV 3 nn un (t.sumF f len 0) f len = t.sumF f len 0 := by unfold itemV; simp
 rw [e]
 refine ⟨fun hk => ?_, fun hk => by rw [h.2 hk]; omega⟩
 obtain ⟨a, b, c⟩ := h.1 hk
 rw [show m0 * max 1 0 = m0 from Int.mul_one m0, show wrap64 m0 = m0 by rw [← IntWalk.i64_left]; exact IntWalk.i64_in _ (by omega)]
 omega
theorem use_step {si nn lu : Int} {f : Nm → Int} {len : Int → Int} {un : Nm} (h : len (f un) = lu) (h0 : 0 ≤ lu) :
  (lu ≤ 4096 → 0 ≤ lu ∧ lu ≤ 67108864 ∧ min (itemV 4 nn un si f len) 4097 = min lu 4097 ∧ 0 ≤ itemV 4 nn un si f len) ∧ (4096 < lu → 4097 ≤ itemV 4 nn un si f len) := by
 have e : itemV 4 nn un si f len = lu := by unfold itemV; simp [h]
 rw [e]
 exact ⟨fun _ => by omega, fun _ => by omega⟩
theorem sum_right {t : Its} {f : Nm → Int} {len : Int → Int} {m l : Int} {ok : Bool} (h : SumOk t f len m ok) (hl : l = t.sumF f len 0) (h4 : l ≤ 4096) : ok = true ∧ m = l := by
 cases ok with
 | false => have := h.2 rfl; omega
 | true => obtain ⟨a, b, c⟩ := h.1 rfl; exact ⟨rfl, by omega⟩
theorem sum_wrong {t : Its} {f : Nm → Int} {len : Int → Int} {m l : Int} {ok : Bool} (h : SumOk t f len m ok) (hl : l = t.sumF f len 0) (h4 : ¬ l ≤ 4096) (_h5 : l ≤ 4097) : ok = false ∨ (ok = true ∧ 4096 < m) := by
 cases ok with
 | false => exact Or.inl rfl
 | true => obtain ⟨a, b, c⟩ := h.1 rfl; exact Or.inr ⟨rfl, by omega⟩
end Go.Proofs.Ytpnbpepkoekkoaa
end
