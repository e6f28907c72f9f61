/- The walk of the statement: part 6. -/
import Derived.Test.YtpnbpepkoekkoaaYYM5p5
set_option linter.unusedVariables false
set_option linter.unusedSimpArgs false
section
namespace Go.Proofs.Ytpnbpepkoekkoaa
open Go Go.RowKit Go.Deep
set_option maxRecDepth 100000 in
set_option maxHeartbeats 16000000 in
theorem mis_e10t (l : Ls) (kl : List Int) (w W : World) (Z : Nat) (he : ∀ V, Below w.heap.size w V → Env V) (hb : Below w.heap.size w W) (hl : Bx l kl Z W) (hres : resE l.strip kl = 170) (e0 e1 e2 e3 e4 e5 e6 e7 e8 e9 e10 e13 e14 e15 e16 e17 e18 e19 e20 e21 e22 e23 e24 e25 e26 e27 e28 e29 e30 e31 e32 e33 e34 e35 e36 e37 e38 e39 e40 e41 e42 e43 e44 e45 e46 e47 e48 e49 e50 e51 e52 e53 e54 e55 e56 e57 e58 e59 e60 e61 e62 e63 e64 e65 e66 e67 e68 e69 e70 e71 e72 e73 e74 e75 e76 e77 e78 e79 e80 e81 e82 e83 e84 e85 e86 e87 e88 e89 e90 e91 e92 e93 e94 e95 e96 e97 e98 e99 e100 e101 e102 e103 e104 e105 e106 e107 e108 e109 e110 e111 : Value) :
  (lastPart 10 code6).wp Try.prog (bodyPost Try.prog Try.f6 (fun e w' => e = .returned (.bool true) ∧ Below w.heap.size w w')) { tmps := #[e0, e1, e2, e3, e4, e5, e6, e7, e8, e9, e10, .pointer (some ⟨Z, 0, none⟩), .bool true, e13, e14, e15, e16, e17, e18, e19, e20, e21, e22, e23, e24, e25, e26, e27, e28, e29, e30, e31, e32, e33, e34, e35, e36, e37, e38, e39, e40, e41, e42, e43, e44, e45, e46, e47, e48, e49, e50, e51, e52, e53, e54, e55, e56, e57, e58, e59, e60, e61, e62, e63, e64, e65, e66, e67, e68, e69, e70, e71, e72, e73, e74, e75, e76, e77, e78, e79, e80, e81, e82, e83, e84, e85, e86, e87, e88, e89, e90, e91, e92, e93, e94, e95, e96, e97, e98, e99, e100, e101, e102, e103, e104, e105, e106, e107, e108, e109, e110, e111], defers := [] } W := by
 have C := res_code l kl W hl.at_ hl.ns (he _ hb) _ hres
 unfold Ls.val at C
 have HC := Lib.hid C; have HL := Lib.hid hl.box; have HB := Lib.hid hb
 clear C hb hl hres he
 unfold CodeP at HC
 rw [msstep10]
 refine wp_seq_thenQ (fun K hK => ?_)
 have HK := Lib.hid hK
 clear hK
 conv => arg 2; whnf
 go_wp2_with (refine wpList_load_row rfl 30 _ rfl Z rfl 30 l.cells (0, 0) _ HL.out Try.underlying30 rfl (by kernel_rfl) ?_; simp only [Act.put, List.setIfInBounds_toArray, List.set_cons_zero, List.set_cons_succ])
 refine HC.out.mono ?_
 rintro e V ⟨n, i1, i2, i3, i4, i5, a6, a7, a8, a9, a10, a11, n6, n7, n8, n9, n10, n11, q6, q7, q8, q9, q10, q11, rfl, hv⟩
 dsimp only
 have HV := Lib.hid (thenB hv ((Below.refl V.heap.size V).alloc (Nat.le_refl _) (.cells #[sv n, .int .i64 i1, .int .i64 i2, .int .i64 i3, .int .i64 i4, .int .i64 i5, .slice a6 n6 q6, .slice a7 n7 q7, .slice a8 n8 q8, .slice a9 n9 q9, .slice a10 n10 q10, .slice a11 n11 q11] 30)))
 clear HC HL hv
 go_wp2_with fail
 refine HK.out _ _ ?_
 clear HK K
 generalize V.alloc (.cells #[sv n, .int .i64 i1, .int .i64 i2, .int .i64 i3, .int .i64 i4, .int .i64 i5, .slice a6 n6 q6, .slice a7 n7 q7, .slice a8 n8 q8, .slice a9 n9 q9, .slice a10 n10 q10, .slice a11 n11 q11] 30) = W6 at *
 rw [msstep11]
 refine wp_seq_thenQ (fun K hK => ?_)
 clear hK
 conv => arg 2; whnf
 go_wp2_with fail
 try simp only [Exit.then]
 go_ret
 exact ⟨rfl, thenB HB.out HV.out⟩
set_option maxRecDepth 100000 in
set_option maxHeartbeats 16000000 in
theorem mis_e10f (l : Ls) (kl : List Int) (w W : World) (Z : Nat) (he : ∀ V, Below w.heap.size w V → Env V) (hb : Below w.heap.size w W) (hl : Bx l kl Z W) (hml : l.refs.length ≤ 200000) (hl1 : l.roles.length ≤ 300) (hl2 : l.phrases.length ≤ 300) (hres : resE l.strip kl = 0) (e0 e1 e2 e3 e4 e5 e6 e7 e8 e9 e10 e13 e14 e15 e16 e17 e18 e19 e20 e21 e22 e23 e24 e25 e26 e27 e28 e29 e30 e31 e32 e33 e34 e35 e36 e37 e38 e39 e40 e41 e42 e43 e44 e45 e46 e47 e48 e49 e50 e51 e52 e53 e54 e55 e56 e57 e58 e59 e60 e61 e62 e63 e64 e65 e66 e67 e68 e69 e70 e71 e72 e73 e74 e75 e76 e77 e78 e79 e80 e81 e82 e83 e84 e85 e86 e87 e88 e89 e90 e91 e92 e93 e94 e95 e96 e97 e98 e99 e100 e101 e102 e103 e104 e105 e106 e107 e108 e109 e110 e111 : Value) :
  (lastPart 10 code6).wp Try.prog (bodyPost Try.prog Try.f6 (fun e w' => e = .returned (.bool true) ∧ Below w.heap.size w w')) { tmps := #[e0, e1, e2, e3, e4, e5, e6, e7, e8, e9, e10, .pointer (some ⟨Z, 0, none⟩), .bool false, e13, e14, e15, e16, e17, e18, e19, e20, e21, e22, e23, e24, e25, e26, e27, e28, e29, e30, e31, e32, e33, e34, e35, e36, e37, e38, e39, e40, e41, e42, e43, e44, e45, e46, e47, e48, e49, e50, e51, e52, e53, e54, e55, e56, e57, e58, e59, e60, e61, e62, e63, e64, e65, e66, e67, e68, e69, e70, e71, e72, e73, e74, e75, e76, e77, e78, e79, e80, e81, e82, e83, e84, e85, e86, e87, e88, e89, e90, e91, e92, e93, e94, e95, e96, e97, e98, e99, e100, e101, e102, e103, e104, e105, e106, e107, e108, e109, e110, e111], defers := [] } W := by
 have C := res_ok l kl W hl.at_ hl.ns (he _ hb) hres
 unfold Ls.val at C
 have HC := Lib.hid C; have HL := Lib.hid hl.box
 have HS := Lib.hid (And.intro he (And.intro hb (And.intro hl (And.intro hml (And.intro hl1 (And.intro hl2 hres))))))
 clear C he hb hl hml hl1 hl2 hres
 rw [msstep10]
 refine wp_seq_thenQ (fun K hK => ?_)
 have HK := Lib.hid hK
 clear hK
 conv => arg 2; whnf
 go_wp2_with (refine wpList_load_row rfl 30 _ rfl Z rfl 30 l.cells (0, 0) _ HL.out Try.underlying30 rfl (by kernel_rfl) ?_; simp only [Act.put, List.setIfInBounds_toArray, List.set_cons_zero, List.set_cons_succ])
 refine HC.out.mono ?_
 rintro e V ⟨yy, ks, rfl, q1, q2, q3, q4, q5⟩
 unfold Ls.val
 obtain ⟨W6, hW6, hX6, hb6⟩ : ∃ W6, V.alloc (.cells yy.cells 30) = W6 ∧ W6.heap[V.heap.size]? = some (.cells yy.cells 30 (0, 0)) ∧ Below V.heap.size V W6 := ⟨_, rfl, heap_alloc_new V _, (Below.refl _ _).alloc (Nat.le_refl _) _⟩
 have HQ := Lib.hid (And.intro q1 (And.intro q2 (And.intro q3 (And.intro q4 (And.intro q5 (And.intro hX6 hb6))))))
 unfold Ls.cells at hW6 ⊢
 have HW6 := Lib.hid hW6
 clear HC q1 q2 q3 q4 q5 hX6 hb6 hW6 HL
 dsimp only
 go_wp2_with fail
 have e5 := HW6.out
 simp only [sv] at e5 ⊢
 refine HK.out _ _ ?_
 rw [e5]
 clear HK K e5 HW6
 obtain ⟨he, hb, hl, hml, hl1, hl2, hres⟩ := HS.out
 obtain ⟨q1, q2, q3, q4, q5, hX6, hb6⟩ := HQ.out
 have b6 : Below W.heap.size W W6 := thenB q5 hb6
 have hrz := res_zero hres
 have hcl := Ls.lims_cp (s := l) hrz.1
 have hcy := Ls.lims_cp (s := yy) (by rw [q1]; exact hrz.1)
 have hml2 : yy.refs.length ≤ 200000 := by rw [Ls.refs_same (x := yy) (y := l) (by rw [q1])]; exact hml
 have er : yy.roles = l.roles := by
  have : yy.strip.roles = l.strip.roles := by rw [q1]
  exact this
 have ep : yy.phrases.length = l.phrases.length := by
  have : yy.strip.phrases.length = l.strip.phrases.length := by rw [q1]
  simpa [Ls.strip] using this
 have hl6 := hl.next b6
 have hy6 : Bx yy ks V.heap.size W6 := ⟨hX6, q2.below hb6, q3.below hb6⟩
 have C2 := alike_any yy l ks kl W6 hy6.at_ hl6.at_ hy6.ns hl6.ns hcy hcl q1 (by rw [q1]; exact idx_zero q4) hml2 hml
 have C3 : ∀ V', Below W6.heap.size W6 V' → Calls Try.prog 19 #[yy.val] V' fun e w' => e = .returned (.bool true) ∧ Below V'.heap.size V' w' := fun V' hv =>
  right_any yy ks V' (hy6.next hv).at_ (hy6.next hv).ns (by have := ptrs_le yy.refs; omega) (by rw [er]; omega) (by rw [ep]; omega) fun pre r rest kp k kr h1 h2 h3 h4 => idx_right (ns := kl) (by rw [q1]; exact q4) pre r rest kp k kr h1 h2 h3 h4
 unfold Ls.val at C2 C3
 have HC2 := Lib.hid C2; have HC3 := Lib.hid C3; have HL := Lib.hid hl6.box; have HY := Lib.hid hy6.box; have HB := Lib.hid (thenB hb b6)
 clear he hb hl hml hl1 hl2 hres q1 q2 q3 q4 q5 hX6 hb6 b6 hrz hcl hcy hml2 er ep hl6 hy6 C2 C3 HS HQ
 generalize V.heap.size = Y at *
 rw [msstep11]
 refine wp_seq_thenQ (fun K hK => ?_)
 have HK := Lib.hid hK
 clear hK
 conv => arg 2; whnf
 go_wp2_with fail
 refine HK.out _ _ ?_
 clear HK K
 conv => arg 2; whnf
 go_wp2_with (first | (refine wpList_load_row_at (by kernel_rfl) 30 _ rfl Y rfl 30 yy.cells (0, 0) _ HY.out Try.underlying30 rfl (by kernel_rfl) ?_; simp only [Act.put, List.setIfInBounds_toArray, List.set_cons_zero, List.set_cons_succ]) | (refine wpList_load_row_at (by kernel_rfl) 30 _ rfl Z rfl 30 l.cells (0, 0) _ HL.out Try.underlying30 rfl (by kernel_rfl) ?_; simp only [Act.put, List.setIfInBounds_toArray, List.set_cons_zero, List.set_cons_succ]))
 refine HC2.out.mono ?_
 rintro e V2 ⟨rfl, hv2⟩
 have HV2 := Lib.hid hv2
 have HY2 := Lib.hid (keepO hv2 HY.out)
 have HC4 := Lib.hid (HC3.out _ hv2)
 clear HC2 HC3 HL HY hv2
 go_wp2_with (refine wpList_load_row_at (by kernel_rfl) 30 _ rfl Y rfl 30 yy.cells (0, 0) _ HY2.out Try.underlying30 rfl (by kernel_rfl) ?_; simp only [Act.put, List.setIfInBounds_toArray, List.set_cons_zero, List.set_cons_succ])
 refine HC4.out.mono ?_
 rintro e V3 ⟨rfl, hv3⟩
 have HV3 := Lib.hid hv3
 clear HC4 HY2 hv3
 go_wp2_with fail
 try simp only [Exit.then]
 go_ret
 exact ⟨rfl, thenB HB.out (thenB HV2.out HV3.out)⟩
set_option maxRecDepth 100000 in
set_option maxHeartbeats 16000000 in
theorem mis_e8 (l : Ls) (kl : List Int) (w W : World) (Z gN nN cN j : Nat) (phrase : Bool) (nm : Nm) (he : ∀ V, Below w.heap.size w V → Env V) (hb : Below w.heap.size w W) (hl : Bx l kl Z W) (hml : l.refs.length ≤ 200000) (hl1 : l.roles.length ≤ 300) (hl2 : l.phrases.length ≤ 300) (hnm : W.cell? ⟨gN, j, none⟩ = some (sv nm)) (hj : j < nN) (hres : resE l.strip kl = if (ptrs l.refs).any (hitB phrase nm) = true then 170 else 0) (e0 e2 e3 e4 e5 e6 e8 e9 e12 e13 e14 e15 e16 e17 e18 e19 e20 e21 e22 e23 e24 e25 e26 e27 e28 e29 e30 e31 e32 e33 e34 e35 e36 e37 e38 e39 e40 e41 e42 e43 e44 e45 e46 e47 e48 e49 e50 e51 e52 e53 e54 e55 e56 e57 e58 e59 e60 e61 e62 e63 e64 e65 e66 e67 e68 e69 e70 e71 e72 e73 e74 e75 e76 e77 e78 e79 e80 e81 e82 e83 e84 e85 e86 e87 e88 e89 e90 e91 e92 e93 e94 e95 e96 e97 e98 e99 e100 e101 e102 e103 e104 e105 e106 e107 e108 e109 e110 e111 : Value) :
  (lastPart 8 code6).wp Try.prog (bodyPost Try.prog Try.f6 (fun e w' => e = .returned (.bool true) ∧ Below w.heap.size w w')) { tmps := #[e0, .bool phrase, e2, e3, e4, e5, e6, .slice (some ⟨gN, 0, none⟩) nN cN, e8, e9, .int .i64 (j : Nat), .pointer (some ⟨Z, 0, none⟩), e12, e13, e14, e15, e16, e17, e18, e19, e20, e21, e22, e23, e24, e25, e26, e27, e28, e29, e30, e31, e32, e33, e34, e35, e36, e37, e38, e39, e40, e41, e42, e43, e44, e45, e46, e47, e48, e49, e50, e51, e52, e53, e54, e55, e56, e57, e58, e59, e60, e61, e62, e63, e64, e65, e66, e67, e68, e69, e70, e71, e72, e73, e74, e75, e76, e77, e78, e79, e80, e81, e82, e83, e84, e85, e86, e87, e88, e89, e90, e91, e92, e93, e94, e95, e96, e97, e98, e99, e100, e101, e102, e103, e104, e105, e106, e107, e108, e109, e110, e111], defers := [] } W := by
 rw [msstep8]
 refine wp_seq_thenQ (fun K hK => ?_)
 have HK := Lib.hid hK
 clear hK
 conv => arg 2; whnf
 go_wp2_with fail
 refine HK.out _ _ ?_
 clear HK K
 rw [msstep9]
 refine wp_seq_then (fun K hK => mis_e9 l kl Z gN nN cN j phrase nm W hl (by have := ptrs_le l.refs; omega) hnm hj _ _ _ _ _ _ _ _ _ _ _ _ _ _ _ _ _ _ _ _ _ _ _ _ _ _ _ _ _ _ _ _ _ _ _ _ _ _ _ _ _ _ _ _ _ _ _ _ _ _ _ _ _ _ _ _ _ _ _ _ _ _ _ _ _ _ _ _ _ _ _ _ _ _ _ _ _ _ _ _ _ _ _ _ _ _ _ _ _ _ _ _ _ _ _ _ _ _ _ _ _ _ _ _ _ _ _ K ?_)
 intro W' hb'
 intros
 refine hK _ _ ?_
 clear hK K
 have hbw := thenB hb hb'
 have hl' := hl.next hb'
 generalize (ptrs l.refs).any (hitB phrase nm) = u at *
 cases u with
 | true => exact mis_e10t l kl w W' Z he hbw hl' (by simpa using hres) _ _ _ _ _ _ _ _ _ _ _ _ _ _ _ _ _ _ _ _ _ _ _ _ _ _ _ _ _ _ _ _ _ _ _ _ _ _ _ _ _ _ _ _ _ _ _ _ _ _ _ _ _ _ _ _ _ _ _ _ _ _ _ _ _ _ _ _ _ _ _ _ _ _ _ _ _ _ _ _ _ _ _ _ _ _ _ _ _ _ _ _ _ _ _ _ _ _ _ _ _ _ _ _ _ _ _ _ _ _
 | false => exact mis_e10f l kl w W' Z he hbw hl' hml hl1 hl2 (by simpa using hres) _ _ _ _ _ _ _ _ _ _ _ _ _ _ _ _ _ _ _ _ _ _ _ _ _ _ _ _ _ _ _ _ _ _ _ _ _ _ _ _ _ _ _ _ _ _ _ _ _ _ _ _ _ _ _ _ _ _ _ _ _ _ _ _ _ _ _ _ _ _ _ _ _ _ _ _ _ _ _ _ _ _ _ _ _ _ _ _ _ _ _ _ _ _ _ _ _ _ _ _ _ _ _ _ _ _ _ _ _ _
set_option maxRecDepth 100000 in
set_option maxHeartbeats 16000000 in
theorem mis_e7f (s z : Ls) (ns : List Int) (w W0 V W : World) (Z gN nN cN j : Nat) (nm : Nm) (he : ∀ V, Below w.heap.size w V → Env V) (hb : Below w.heap.size w W0) (hs : s.At W0) (hsm : s.small) (hcp : CpW s ns W0 z V) (hbV : Below V.heap.size V W) (hz : Bx z ns Z W) (hZ : V.heap.size ≤ Z) (hnm : W0.cell? ⟨gN, j, none⟩ = some (sv nm)) (hj : j < nN) (h0 : resE s.strip ns = 0) (hjn : s.strip.rnames[j]? = some nm) (e0 e2 e3 e4 e5 e6 e8 e9 e12 e13 e14 e15 e16 e17 e18 e19 e20 e21 e22 e23 e24 e25 e26 e27 e28 e29 e30 e31 e32 e33 e34 e35 e36 e37 e38 e39 e40 e41 e42 e43 e44 e45 e46 e47 e48 e49 e50 e51 e52 e53 e54 e55 e56 e57 e58 e59 e60 e61 e62 e63 e64 e65 e66 e67 e68 e69 e70 e71 e72 e73 e74 e75 e76 e77 e78 e79 e80 e81 e82 e83 e84 e85 e86 e87 e88 e89 e90 e91 e92 e93 e94 e95 e96 e97 e98 e99 e100 e101 e102 e103 e104 e105 e106 e107 e108 e109 e110 e111 : Value) :
  (lastPart 7 code6).wp Try.prog (bodyPost Try.prog Try.f6 (fun e w' => e = .returned (.bool true) ∧ Below w.heap.size w w')) { tmps := #[e0, .bool false, e2, e3, e4, e5, e6, .slice (some ⟨gN, 0, none⟩) nN cN, e8, e9, .int .i64 (j : Nat), .pointer (some ⟨Z, 0, none⟩), e12, e13, e14, e15, e16, e17, e18, e19, e20, e21, e22, e23, e24, e25, e26, e27, e28, e29, e30, e31, e32, e33, e34, e35, e36, e37, e38, e39, e40, e41, e42, e43, e44, e45, e46, e47, e48, e49, e50, e51, e52, e53, e54, e55, e56, e57, e58, e59, e60, e61, e62, e63, e64, e65, e66, e67, e68, e69, e70, e71, e72, e73, e74, e75, e76, e77, e78, e79, e80, e81, e82, e83, e84, e85, e86, e87, e88, e89, e90, e91, e92, e93, e94, e95, e96, e97, e98, e99, e100, e101, e102, e103, e104, e105, e106, e107, e108, e109, e110, e111], defers := [] } W := by
 have hw0 := hb.size
 have hv0 := hcp.below.size
 have hvw := hbV.size
 have bW : Below W0.heap.size W0 W := hcp.below.trans (hbV.mono hv0)
 obtain ⟨⟨l1, l2⟩, ⟨l3, l4⟩⟩ := hcp.own.lt
 have hzr : z.roles = s.roles := by
  have : z.strip.roles = s.strip.roles := by rw [hcp.strip]
  exact this
 obtain ⟨n, hn⟩ : ∃ n, z.roles.length = n := ⟨_, rfl⟩
 have hn3 : n ≤ 300 := by rw [← hn, hzr]; exact hsm.roles
 have hjl : j < n := by
  have := (List.getElem?_eq_some_iff.1 hjn).1
  unfold Sc.rnames at this
  rw [List.length_map] at this
  rw [← hn, hzr]; exact this
 have hown := own_below hcp.own.roles hbV
 obtain ⟨cap, ecap, hsh, hle, hmx, hBg⟩ := shape_of_own hown (g := blk z.ra) (by rw [hcp.own.raf]; rfl)
 have hcc : z.rc = cap := by injection ecap
 rw [hcp.own.raf, hn] at hown
 have hrv := own_rowV hown
 have hc6 : z.cells[6]? = some (.slice (some ⟨blk z.ra, 0, none⟩) n z.rc) := by
  have : z.cells[6]? = some (.slice z.ra z.roles.length z.rc) := rfl
  rw [this, ← hcp.own.raf, hn]
 subst hcc
 rw [hn] at hle
 have hZl : Z < W.heap.size := (Array.getElem?_eq_some_iff.1 hz.box).1
 have H := Lib.hid (mis_r13 Z (blk z.ra) n z.rc j W0.heap.size z.cells z.roles W hz.box hc6 hrv hsh hn hle hmx hjl (by omega) (by omega) hBg (by omega))
 have HS := Lib.hid (And.intro he (And.intro hb (And.intro hs (And.intro hsm (And.intro hcp (And.intro hbV (And.intro hz (And.intro hZ (And.intro hnm (And.intro hj (And.intro h0 (And.intro hjn (And.intro hw0 (And.intro hv0 (And.intro hvw (And.intro bW (And.intro l1 (And.intro l2 (And.intro hzr (And.intro hn (And.intro hn3 (And.intro hjl hZl))))))))))))))))))))))
 clear he hb hs hsm hcp hbV hz hZ hnm hj h0 hjn hw0 hv0 hvw bW l1 l2 l3 l4 hzr hn hn3 hjl hown ecap hsh hle hmx hBg hrv hc6 hZl
 rw [msstep7]
 refine wp_seq_thenQ (fun K hK => ?_)
 have HK := Lib.hid hK
 clear hK
 change Code.wp Try.prog (.seq (fstM elem6n7) (.cond (.tmp 44) reg6n12 reg6n13)) _ _ _
 refine wp_seq_thenQ (fun K2 hK2 => ?_)
 have HK2 := Lib.hid hK2
 clear hK2
 conv => arg 2; whnf
 go_wp2_with fail
 refine HK2.out _ _ ?_
 clear HK2 K2
 go_wp2_with fail
 obtain ⟨he, hb, hs, hsm, hcp, hbV, hz, hZ, hnm, hj, h0, hjn, hw0, hv0, hvw, bW, l1, l2, hzr, hn, hn3, hjl, hZl⟩ := HS.out
 refine wp_mono (Q := Exit.then K (fun _ _ _ => False)) (H.out _ _ _ _ _ _ _ _ _ _ _ _ _ _ _ _ _ _ _ _ _ _ _ _ _ _ _ _ _ _ _ _ _ _ _ _ _ _ _ _ _ _ _ _ _ _ _ _ _ _ _ _ _ _ _ _ _ _ _ _ _ _ _ _ _ _ _ _ _ _ _ _ _ _ _ _ _ _ _ _ _ _ _ _ _ _ _ _ _ _ _ _ _ _ _ _ _ _ _ _ _ _ _ _ _ _ _ _ _ _ K ?_) then_mono
 intro g1 c1 W' hrow hg1 hbox hkeep hor hbel
 intros
 refine HK.out _ _ ?_
 clear HK H
 have hlen : (z.roles.eraseIdx j).length = n - 1 := by rw [List.length_eraseIdx_of_lt (by omega), hn]
 have b1 : Below W0.heap.size W W' := hbel _ (by omega) (by omega) (by omega)
 have hk : Kept s ns W0 z V W' (blk z.ra) := ⟨hcp, bW.trans b1, fun b h1 h2 => (hkeep b (by omega) (by omega) h2).trans (hbV.block b h1)⟩
 obtain ⟨hat, hns⟩ := drop_role (c1 := c1) hk hs hrow hg1 (by rw [hlen]; unfold maxLen; omega)
 obtain ⟨l, hl⟩ : ∃ l : Ls, ({ z with ra := some ⟨g1, 0, none⟩, rc := c1, roles := z.roles.eraseIdx j } : Ls) = l := ⟨_, rfl⟩
 rw [hl] at hat
 have hcells : l.cells = z.cells.setIfInBounds 6 (.slice (some ⟨g1, 0, none⟩) (n - 1) c1) := by
  rw [← hl, ← hlen]; rfl
 have hrefs : l.refs = z.refs := by rw [← hl]; rfl
 have hstr : l.strip = s.strip.dropRole j := by
  rw [← hl]
  show ({ z.strip with roles := z.roles.eraseIdx j } : Sc) = _
  rw [hcp.strip, hzr]; rfl
 have hrs : l.strip.refs = s.strip.refs := by rw [hstr]; rfl
 have hres : resE l.strip ns = if (ptrs l.refs).any (hitB false nm) = true then 170 else 0 := by
  rw [hstr, missing_role h0 hjn]
  have : (∃ r ∈ s.strip.refs, r.1 = 1 ∧ r.2 = nm) ↔ (ptrs l.refs).any (hitB false nm) = true := by
   rw [hit_iff, hrs]; simp
  by_cases hu : (ptrs l.refs).any (hitB false nm) = true
  ·rw [if_pos hu, if_pos (this.2 hu)]
  ·rw [if_neg hu, if_neg (fun h => hu (this.1 h))]
 have bW' : Below W0.heap.size W0 W' := bW.trans b1
 refine mis_e8 l ns w W' Z gN nN cN j false nm he (thenB hb bW') ⟨by rw [hcells]; exact hbox, hat, by rw [hrefs]; exact hns⟩ (by rw [hrefs, Ls.refs_same (x := z) (y := s) (by rw [hcp.strip])]; exact hsm.refs) (by rw [← hl]; show (z.roles.eraseIdx j).length ≤ 300; omega) (by
  rw [← hl]
  show z.phrases.length ≤ 300
  have : z.strip.phrases.length = s.strip.phrases.length := by rw [hcp.strip]
  have e : z.phrases.length = s.phrases.length := by simpa [Ls.strip] using this
  rw [e]; exact hsm.phrases) (keep_cell bW' hnm) hj hres _ _ _ _ _ _ _ _ _ _ _ _ _ _ _ _ _ _ _ _ _ _ _ _ _ _ _ _ _ _ _ _ _ _ _ _ _ _ _ _ _ _ _ _ _ _ _ _ _ _ _ _ _ _ _ _ _ _ _ _ _ _ _ _ _ _ _ _ _ _ _ _ _ _ _ _ _ _ _ _ _ _ _ _ _ _ _ _ _ _ _ _ _ _ _ _ _ _ _ _ _ _ _ _ _ _ _ _
set_option maxRecDepth 100000 in
set_option maxHeartbeats 16000000 in
theorem mis_e7t (s z : Ls) (ns : List Int) (w W0 V W : World) (Z gN nN cN j : Nat) (nm : Nm) (he : ∀ V, Below w.heap.size w V → Env V) (hb : Below w.heap.size w W0) (hs : s.At W0) (hsm : s.small) (hcp : CpW s ns W0 z V) (hbV : Below V.heap.size V W) (hz : Bx z ns Z W) (hZ : V.heap.size ≤ Z) (hnm : W0.cell? ⟨gN, j, none⟩ = some (sv nm)) (hj : j < nN) (h0 : resE s.strip ns = 0) (hjn : s.strip.pnames[j]? = some nm) (e0 e2 e3 e4 e5 e6 e8 e9 e12 e13 e14 e15 e16 e17 e18 e19 e20 e21 e22 e23 e24 e25 e26 e27 e28 e29 e30 e31 e32 e33 e34 e35 e36 e37 e38 e39 e40 e41 e42 e43 e44 e45 e46 e47 e48 e49 e50 e51 e52 e53 e54 e55 e56 e57 e58 e59 e60 e61 e62 e63 e64 e65 e66 e67 e68 e69 e70 e71 e72 e73 e74 e75 e76 e77 e78 e79 e80 e81 e82 e83 e84 e85 e86 e87 e88 e89 e90 e91 e92 e93 e94 e95 e96 e97 e98 e99 e100 e101 e102 e103 e104 e105 e106 e107 e108 e109 e110 e111 : Value) :
  (lastPart 7 code6).wp Try.prog (bodyPost Try.prog Try.f6 (fun e w' => e = .returned (.bool true) ∧ Below w.heap.size w w')) { tmps := #[e0, .bool true, e2, e3, e4, e5, e6, .slice (some ⟨gN, 0, none⟩) nN cN, e8, e9, .int .i64 (j : Nat), .pointer (some ⟨Z, 0, none⟩), e12, e13, e14, e15, e16, e17, e18, e19, e20, e21, e22, e23, e24, e25, e26, e27, e28, e29, e30, e31, e32, e33, e34, e35, e36, e37, e38, e39, e40, e41, e42, e43, e44, e45, e46, e47, e48, e49, e50, e51, e52, e53, e54, e55, e56, e57, e58, e59, e60, e61, e62, e63, e64, e65, e66, e67, e68, e69, e70, e71, e72, e73, e74, e75, e76, e77, e78, e79, e80, e81, e82, e83, e84, e85, e86, e87, e88, e89, e90, e91, e92, e93, e94, e95, e96, e97, e98, e99, e100, e101, e102, e103, e104, e105, e106, e107, e108, e109, e110, e111], defers := [] } W := by
 have hw0 := hb.size
 have hv0 := hcp.below.size
 have hvw := hbV.size
 have bW : Below W0.heap.size W0 W := hcp.below.trans (hbV.mono hv0)
 obtain ⟨⟨l1, l2⟩, ⟨l3, l4⟩⟩ := hcp.own.lt
 have hzl : z.phrases.length = s.phrases.length := by
  have : z.strip.phrases.length = s.strip.phrases.length := by rw [hcp.strip]
  simpa [Ls.strip] using this
 obtain ⟨n, hn⟩ : ∃ n, z.phrases.length = n := ⟨_, rfl⟩
 have hn3 : n ≤ 300 := by rw [← hn, hzl]; exact hsm.phrases
 have hjl : j < n := by
  have := (List.getElem?_eq_some_iff.1 hjn).1
  unfold Sc.pnames Ls.strip at this
  simp only [List.length_map] at this
  rw [← hn, hzl]; exact this
 have hown := own_below hcp.own.phrases hbV
 obtain ⟨cap, ecap, hsh, hle, hmx, hBg⟩ := shape_of_own hown (g := blk z.fa) (by rw [hcp.own.faf]; rfl)
 have hcc : z.fc = cap := by injection ecap
 rw [hcp.own.faf, hn] at hown
 have hrv := own_rowV hown
 have hc10 : z.cells[10]? = some (.slice (some ⟨blk z.fa, 0, none⟩) n z.fc) := by
  have : z.cells[10]? = some (.slice z.fa z.phrases.length z.fc) := rfl
  rw [this, ← hcp.own.faf, hn]
 subst hcc
 rw [hn] at hle
 have hZl : Z < W.heap.size := (Array.getElem?_eq_some_iff.1 hz.box).1
 have H := Lib.hid (mis_r12 Z (blk z.fa) n z.fc j W0.heap.size z.cells z.phrases W hz.box hc10 hrv hsh hn hle hmx hjl (by omega) (by omega) hBg (by omega))
 have HS := Lib.hid (And.intro he (And.intro hb (And.intro hs (And.intro hsm (And.intro hcp (And.intro hbV (And.intro hz (And.intro hZ (And.intro hnm (And.intro hj (And.intro h0 (And.intro hjn (And.intro hw0 (And.intro hv0 (And.intro hvw (And.intro bW (And.intro l3 (And.intro l4 (And.intro hzl (And.intro hn (And.intro hn3 (And.intro hjl hZl))))))))))))))))))))))
 clear he hb hs hsm hcp hbV hz hZ hnm hj h0 hjn hw0 hv0 hvw bW l1 l2 l3 l4 hzl hn hn3 hjl hown ecap hsh hle hmx hBg hrv hc10 hZl
 rw [msstep7]
 refine wp_seq_thenQ (fun K hK => ?_)
 have HK := Lib.hid hK
 clear hK
 change Code.wp Try.prog (.seq (fstM elem6n7) (.cond (.tmp 44) reg6n12 reg6n13)) _ _ _
 refine wp_seq_thenQ (fun K2 hK2 => ?_)
 have HK2 := Lib.hid hK2
 clear hK2
 conv => arg 2; whnf
 go_wp2_with fail
 refine HK2.out _ _ ?_
 clear HK2 K2
 go_wp2_with fail
 obtain ⟨he, hb, hs, hsm, hcp, hbV, hz, hZ, hnm, hj, h0, hjn, hw0, hv0, hvw, bW, l3, l4, hzl, hn, hn3, hjl, hZl⟩ := HS.out
 refine wp_mono (Q := Exit.then K (fun _ _ _ => False)) (H.out _ _ _ _ _ _ _ _ _ _ _ _ _ _ _ _ _ _ _ _ _ _ _ _ _ _ _ _ _ _ _ _ _ _ _ _ _ _ _ _ _ _ _ _ _ _ _ _ _ _ _ _ _ _ _ _ _ _ _ _ _ _ _ _ _ _ _ _ _ _ _ _ _ _ _ _ _ _ _ _ _ _ _ _ _ _ _ _ _ _ _ _ _ _ _ _ _ _ _ _ _ _ _ _ _ _ _ _ _ _ K ?_) then_mono
 intro g1 c1 W' hrow hg1 hbox hkeep hor hbel
 intros
 refine HK.out _ _ ?_
 clear HK H
 obtain ⟨p, hp⟩ : ∃ p, z.phrases[j]? = some p := ⟨_, List.getElem?_eq_getElem (by omega)⟩
 have hsp : z.phrases = z.phrases.take j ++ p :: z.phrases.drop (j + 1) := by
  rw [← drop_at hp, List.take_append_drop]
 obtain ⟨a, ha⟩ : ∃ a, z.phrases.take j = a := ⟨_, rfl⟩
 obtain ⟨c, hc⟩ : ∃ c, z.phrases.drop (j + 1) = c := ⟨_, rfl⟩
 have hal : a.length = j := by rw [← ha, List.length_take]; omega
 have he2 : z.phrases.eraseIdx j = a ++ c := by rw [List.eraseIdx_eq_take_drop_succ, ha, hc]
 rw [ha, hc] at hsp
 rw [he2] at hrow
 have hlen : (a ++ c).length = n - 1 := by rw [← he2, List.length_eraseIdx_of_lt (by omega), hn]
 have b1 : Below W0.heap.size W W' := hbel _ (by omega) (by omega) (by omega)
 have hk : Kept s ns W0 z V W' (blk z.fa) := ⟨hcp, bW.trans b1, fun b h1 h2 => (hkeep b (by omega) (by omega) h2).trans (hbV.block b h1)⟩
 have hzr : z.roles = s.roles := by
  have : z.strip.roles = s.strip.roles := by rw [hcp.strip]
  exact this
 have hrl : z.roles.length ≤ 300 := by rw [hzr]; exact hsm.roles
 obtain ⟨hat, nA, nB, nC, hnse, hA, hB, hns⟩ := drop_phr (g1 := g1) (c1 := c1) hk hs (by unfold maxLen; omega) hsp hrow (by rw [hlen]; unfold maxLen; omega)
 obtain ⟨l, hl⟩ : ∃ l : Ls, ({ z with fa := some ⟨g1, 0, none⟩, fc := c1, phrases := a ++ c } : Ls) = l := ⟨_, rfl⟩
 rw [hl] at hat hns
 have hcells : l.cells = z.cells.setIfInBounds 10 (.slice (some ⟨g1, 0, none⟩) (n - 1) c1) := by
  rw [← hl, ← hlen]; rfl
 have hssp : s.strip.phrases = a.map Ph.strip ++ p.strip :: c.map Ph.strip := by
  have : z.strip.phrases = s.strip.phrases := by rw [hcp.strip]
  rw [← this]
  show z.phrases.map Ph.strip = _
  rw [hsp, List.map_append, List.map_cons]
 have hstr : l.strip = s.strip.dropPhr (a.map Ph.strip).length := by
  rw [← hl]
  show ({ z.strip with phrases := (a ++ c).map Ph.strip } : Sc) = _
  rw [hcp.strip]
  unfold Sc.dropPhr
  rw [hssp, List.eraseIdx_append_of_length_le (Nat.le_refl _)]
  simp
 have hpn : p.strip.name = nm := by
  unfold Sc.pnames at hjn
  rw [hssp, List.map_append, List.getElem?_append_right (by simp [hal])] at hjn
  simpa [hal] using hjn
 rw [hnse] at h0
 have hm := missing_phr (nA := nA) (nB := nB) (nC := nC) hssp h0 (by rw [hA, ← phRefs_key, List.length_map]) (by rw [hB]; show _ = p.its.strip.refs.length; rw [← Lt.refsL_key p.its (blk p.ia) (off p.ia), List.length_map]; rfl)
 have hres : resE l.strip (nA ++ nC) = if (ptrs l.refs).any (hitB true nm) = true then 170 else 0 := by
  rw [hpn, ← hstr] at hm
  rw [hm]
  have : (∃ r ∈ l.strip.refs, r.1 ≠ 0 ∧ r.1 ≠ 1 ∧ r.2 = nm) ↔ (ptrs l.refs).any (hitB true nm) = true := by
   rw [hit_iff]; simp [and_assoc]
  by_cases hu : (ptrs l.refs).any (hitB true nm) = true
  ·rw [if_pos hu, if_pos (this.2 hu)]
  ·rw [if_neg hu, if_neg (fun h => hu (this.1 h))]
 have bW' : Below W0.heap.size W0 W' := bW.trans b1
 have hrle : l.refs.length ≤ 200000 := by
  have h1 : l.refs.length ≤ z.refs.length := by
   rw [← hl]
   unfold Ls.refs
   show (phRefs (a ++ c) ++ _).length ≤ _
   rw [hsp, phRefs_app, phRefs_app]
   show ((phRefs a ++ phRefs c) ++ danRefs (blk z.da) (off z.da) z.dances).length ≤ ((phRefs a ++ (p.refsL ++ phRefs c)) ++ danRefs (blk z.da) (off z.da) z.dances).length
   have e1 : ((phRefs a ++ phRefs c) ++ danRefs (blk z.da) (off z.da) z.dances).length = (phRefs a).length + (phRefs c).length + (danRefs (blk z.da) (off z.da) z.dances).length := by rw [List.length_append, List.length_append]
   have e2 : ((phRefs a ++ (p.refsL ++ phRefs c)) ++ danRefs (blk z.da) (off z.da) z.dances).length = (phRefs a).length + (p.refsL.length + (phRefs c).length) + (danRefs (blk z.da) (off z.da) z.dances).length := by rw [List.length_append, List.length_append, List.length_append]
   rw [e1, e2]
   exact Nat.add_le_add_right (Nat.add_le_add_left (Nat.le_add_left _ _) _) _
  have h2 := Ls.refs_same (x := z) (y := s) (by rw [hcp.strip])
  exact Nat.le_trans h1 (by rw [h2]; exact hsm.refs)
 refine mis_e8 l (nA ++ nC) w W' Z gN nN cN j true nm he (thenB hb bW') ⟨by rw [hcells]; exact hbox, hat, hns⟩ hrle (by rw [← hl]; exact hrl) (by
  rw [← hl]
  show (a ++ c).length ≤ 300
  rw [hlen]
  exact Nat.le_trans (Nat.sub_le _ _) hn3) (keep_cell bW' hnm) hj hres _ _ _ _ _ _ _ _ _ _ _ _ _ _ _ _ _ _ _ _ _ _ _ _ _ _ _ _ _ _ _ _ _ _ _ _ _ _ _ _ _ _ _ _ _ _ _ _ _ _ _ _ _ _ _ _ _ _ _ _ _ _ _ _ _ _ _ _ _ _ _ _ _ _ _ _ _ _ _ _ _ _ _ _ _ _ _ _ _ _ _ _ _ _ _ _ _ _ _ _ _ _ _ _ _ _ _ _
end Go.Proofs.Ytpnbpepkoekkoaa
end
section
namespace Go.Proofs.Ytpnbpepkoekkoaa
open Go Go.RowKit Go.Deep
set_option maxRecDepth 100000 in
set_option maxHeartbeats 16000000 in
theorem mis_e6 (s : Ls) (ns : List Int) (w W : World) (gN nN cN j : Nat) (phrase : Bool) (nm : Nm) (he : ∀ V, Below w.heap.size w V → Env V) (hW : LawW s w W) (hs : s.At w) (hsn : NsAt w s.refs ns) (hsm : s.small) (hnm : W.cell? ⟨gN, j, none⟩ = some (sv nm)) (hj : j < nN) (h0 : resE s.strip ns = 0) (hjn : (s.namesOf phrase)[j]? = some nm) (e0 e2 e4 e5 e6 e8 e9 e11 e12 e13 e14 e15 e16 e17 e18 e19 e20 e21 e22 e23 e24 e25 e26 e27 e28 e29 e30 e31 e32 e33 e34 e35 e36 e37 e38 e39 e40 e41 e42 e43 e44 e45 e46 e47 e48 e49 e50 e51 e52 e53 e54 e55 e56 e57 e58 e59 e60 e61 e62 e63 e64 e65 e66 e67 e68 e69 e70 e71 e72 e73 e74 e75 e76 e77 e78 e79 e80 e81 e82 e83 e84 e85 e86 e87 e88 e89 e90 e91 e92 e93 e94 e95 e96 e97 e98 e99 e100 e101 e102 e103 e104 e105 e106 e107 e108 e109 e110 e111 : Value) :
  (lastPart 6 code6).wp Try.prog (bodyPost Try.prog Try.f6 (fun e w' => e = .returned (.bool true) ∧ Below w.heap.size w w')) { tmps := #[e0, .bool phrase, e2, .pointer (some ⟨w.heap.size, 0, none⟩), e4, e5, e6, .slice (some ⟨gN, 0, none⟩) nN cN, e8, e9, .int .i64 (j : Nat), e11, e12, e13, e14, e15, e16, e17, e18, e19, e20, e21, e22, e23, e24, e25, e26, e27, e28, e29, e30, e31, e32, e33, e34, e35, e36, e37, e38, e39, e40, e41, e42, e43, e44, e45, e46, e47, e48, e49, e50, e51, e52, e53, e54, e55, e56, e57, e58, e59, e60, e61, e62, e63, e64, e65, e66, e67, e68, e69, e70, e71, e72, e73, e74, e75, e76, e77, e78, e79, e80, e81, e82, e83, e84, e85, e86, e87, e88, e89, e90, e91, e92, e93, e94, e95, e96, e97, e98, e99, e100, e101, e102, e103, e104, e105, e106, e107, e108, e109, e110, e111], defers := [] } W := by
 have C := copied_any s ns W (hs.below hW.below) (hsn.below hW.below) hsm.cp
 have HC := Lib.hid C; have HL := Lib.hid hW.box
 have HS := Lib.hid (And.intro he (And.intro hW (And.intro hs (And.intro hsn (And.intro hsm (And.intro hnm (And.intro hj (And.intro h0 hjn))))))))
 clear C he hW hs hsn hsm hnm hj h0 hjn
 unfold Ls.val at HC
 rw [msstep6]
 refine wp_seq_thenQ (fun K hK => ?_)
 have HK := Lib.hid hK
 clear hK
 conv => arg 2; whnf
 go_wp2_with (refine wpList_load_row rfl 30 _ rfl w.heap.size rfl 30 s.cells (0, 0) _ HL.out Try.underlying30 rfl (by kernel_rfl) ?_; simp only [Act.put, List.setIfInBounds_toArray, List.set_cons_zero, List.set_cons_succ])
 refine HC.out.mono ?_
 intro e V hv
 obtain ⟨z, rfl, hcp⟩ := CpW.of hv
 unfold Ls.val
 obtain ⟨W4, hW4, hX4, hb4⟩ : ∃ W4, V.alloc (.cells z.cells 30) = W4 ∧ W4.heap[V.heap.size]? = some (.cells z.cells 30 (0, 0)) ∧ Below V.heap.size V W4 := ⟨_, rfl, heap_alloc_new V _, (Below.refl _ _).alloc (Nat.le_refl _) _⟩
 have HX4 := Lib.hid hX4; have HB4 := Lib.hid hb4
 unfold Ls.cells at hW4 ⊢
 have HW4 := Lib.hid hW4
 dsimp only
 have HCP := Lib.hid hcp
 clear HC HL hv hcp hX4 hb4 hW4
 go_wp2_with fail
 have e5 := HW4.out
 simp only [sv] at e5 ⊢
 refine HK.out _ _ ?_
 rw [e5]
 clear HK K e5 HW4
 obtain ⟨he, hW, hs, hsn, hsm, hnm, hj, h0, hjn⟩ := HS.out
 have hcp := HCP.out
 cases phrase with
 | false =>
  have hjn2 : s.strip.rnames[j]? = some nm := hjn
  exact mis_e7f s z ns w W V W4 V.heap.size gN nN cN j nm he hW.below (hs.below hW.below) hsm hcp HB4.out ⟨HX4.out, hcp.at_.below HB4.out, hcp.ns.below HB4.out⟩ (Nat.le_refl _) hnm hj h0 hjn2 _ _ _ _ _ _ _ _ _ _ _ _ _ _ _ _ _ _ _ _ _ _ _ _ _ _ _ _ _ _ _ _ _ _ _ _ _ _ _ _ _ _ _ _ _ _ _ _ _ _ _ _ _ _ _ _ _ _ _ _ _ _ _ _ _ _ _ _ _ _ _ _ _ _ _ _ _ _ _ _ _ _ _ _ _ _ _ _ _ _ _ _ _ _ _ _ _ _ _ _ _ _ _ _ _ _ _ _
 | true =>
  have hjn2 : s.strip.pnames[j]? = some nm := by
   have e : s.strip.pnames = s.phrases.map fun p => p.name := by simp [Sc.pnames, Ls.strip, Ph.strip]
   rw [e]; exact hjn
  exact mis_e7t s z ns w W V W4 V.heap.size gN nN cN j nm he hW.below (hs.below hW.below) hsm hcp HB4.out ⟨HX4.out, hcp.at_.below HB4.out, hcp.ns.below HB4.out⟩ (Nat.le_refl _) hnm hj h0 hjn2 _ _ _ _ _ _ _ _ _ _ _ _ _ _ _ _ _ _ _ _ _ _ _ _ _ _ _ _ _ _ _ _ _ _ _ _ _ _ _ _ _ _ _ _ _ _ _ _ _ _ _ _ _ _ _ _ _ _ _ _ _ _ _ _ _ _ _ _ _ _ _ _ _ _ _ _ _ _ _ _ _ _ _ _ _ _ _ _ _ _ _ _ _ _ _ _ _ _ _ _ _ _ _ _ _ _ _ _
set_option maxRecDepth 100000 in
set_option maxHeartbeats 16000000 in
theorem mis_e4 (s : Ls) (ns : List Int) (w W : World) (gN nN cN at_ : Nat) (phrase : Bool) (he : ∀ V, Below w.heap.size w V → Env V) (hW : LawW s w W) (hs : s.At w) (hsn : NsAt w s.refs ns) (hsm : s.small) (hnm : ∀ j nm, (s.namesOf phrase)[j]? = some nm → W.cell? ⟨gN, j, none⟩ = some (sv nm)) (hn : (s.namesOf phrase).length = nN) (hn0 : 0 < nN) (ha : at_ < 256) (e0 e4 e5 e6 e8 e9 e10 e11 e12 e13 e14 e15 e16 e17 e18 e19 e20 e21 e22 e23 e24 e25 e26 e27 e28 e29 e30 e31 e32 e33 e34 e35 e36 e37 e38 e39 e40 e41 e42 e43 e44 e45 e46 e47 e48 e49 e50 e51 e52 e53 e54 e55 e56 e57 e58 e59 e60 e61 e62 e63 e64 e65 e66 e67 e68 e69 e70 e71 e72 e73 e74 e75 e76 e77 e78 e79 e80 e81 e82 e83 e84 e85 e86 e87 e88 e89 e90 e91 e92 e93 e94 e95 e96 e97 e98 e99 e100 e101 e102 e103 e104 e105 e106 e107 e108 e109 e110 e111 : Value) :
  (lastPart 4 code6).wp Try.prog (bodyPost Try.prog Try.f6 (fun e w' => e = .returned (.bool true) ∧ Below w.heap.size w w')) { tmps := #[e0, .bool phrase, .int .u8 (at_ : Nat), .pointer (some ⟨w.heap.size, 0, none⟩), e4, e5, e6, .slice (some ⟨gN, 0, none⟩) nN cN, e8, e9, e10, e11, e12, e13, e14, e15, e16, e17, e18, e19, e20, e21, e22, e23, e24, e25, e26, e27, e28, e29, e30, e31, e32, e33, e34, e35, e36, e37, e38, e39, e40, e41, e42, e43, e44, e45, e46, e47, e48, e49, e50, e51, e52, e53, e54, e55, e56, e57, e58, e59, e60, e61, e62, e63, e64, e65, e66, e67, e68, e69, e70, e71, e72, e73, e74, e75, e76, e77, e78, e79, e80, e81, e82, e83, e84, e85, e86, e87, e88, e89, e90, e91, e92, e93, e94, e95, e96, e97, e98, e99, e100, e101, e102, e103, e104, e105, e106, e107, e108, e109, e110, e111], defers := [] } W := by
 have hb := hW.below
 obtain ⟨c, hc⟩ : ∃ c, resE s.strip ns = c := ⟨_, rfl⟩
 have C := res_code s ns W (hs.below hb) (hsn.below hb) (he _ hb) c hc
 unfold Ls.val at C
 have HC := Lib.hid C; have HL := Lib.hid hW.box
 have HS := Lib.hid (And.intro he (And.intro hW (And.intro hs (And.intro hsn (And.intro hsm (And.intro hnm (And.intro hn hc)))))))
 have HH := Lib.hid (And.intro hn0 ha)
 clear C hb he hW hs hsn hsm hnm hn hc hn0 ha
 unfold CodeP at HC
 rw [msstep4]
 refine wp_seq_thenQ (fun K hK => ?_)
 have HK := Lib.hid hK
 clear hK
 conv => arg 2; whnf
 go_wp2_with (refine wpList_load_row rfl 30 _ rfl w.heap.size rfl 30 s.cells (0, 0) _ HL.out Try.underlying30 rfl (by kernel_rfl) ?_; simp only [Act.put, List.setIfInBounds_toArray, List.set_cons_zero, List.set_cons_succ])
 refine HC.out.mono ?_
 rintro e V ⟨n, i1, i2, i3, i4, i5, a6, a7, a8, a9, a10, a11, n6, n7, n8, n9, n10, n11, q6, q7, q8, q9, q10, q11, rfl, hv⟩
 dsimp only
 have HV := Lib.hid (thenB hv ((Below.refl V.heap.size V).alloc (Nat.le_refl _) (.cells #[sv n, .int .i64 i1, .int .i64 i2, .int .i64 i3, .int .i64 i4, .int .i64 i5, .slice a6 n6 q6, .slice a7 n7 q7, .slice a8 n8 q8, .slice a9 n9 q9, .slice a10 n10 q10, .slice a11 n11 q11] 30)))
 clear HC HL hv
 by_cases h0 : c = 0
 ·subst h0
  go_wp2_with fail
  refine HK.out _ _ ?_
  clear HK K
  generalize V.alloc (.cells #[sv n, .int .i64 i1, .int .i64 i2, .int .i64 i3, .int .i64 i4, .int .i64 i5, .slice a6 n6 q6, .slice a7 n7 q7, .slice a8 n8 q8, .slice a9 n9 q9, .slice a10 n10 q10, .slice a11 n11 q11] 30) = W6 at *
  obtain ⟨hn0, ha⟩ := HH.out
  obtain ⟨j, hj⟩ : ∃ j, at_ % nN = j := ⟨_, rfl⟩
  have hmod : (at_ : Int).tmod (nN : Int) = (j : Int) := by
   rw [← hj]; exact Int.ofNat_tmod at_ nN
  have hjl : j < nN := by rw [← hj]; exact Nat.mod_lt _ hn0
  have hmz : ¬ (nN : Int) = 0 := by omega
  have hmz2 : ¬ nN = 0 := by omega
  have hwa : IntKind.i64.wrap (at_ : Int) = (at_ : Int) := IntWalk.i64_in _ (by omega)
  have HJ := Lib.hid (And.intro hj hjl)
  clear hj hjl hn0 ha
  rw [msstep5]
  refine wp_seq_thenQ (fun K hK => ?_)
  have HK := Lib.hid hK
  clear hK
  conv => arg 2; whnf
  go_wp2_with fail
  refine HK.out _ _ ?_
  clear HK K
  obtain ⟨he, hW, hs, hsn, hsm, hnm, hn, hc⟩ := HS.out
  obtain ⟨nm, hq⟩ : ∃ nm, (s.namesOf phrase)[j]? = some nm := ⟨_, List.getElem?_eq_getElem (by rw [hn]; exact HJ.out.2)⟩
  exact mis_e6 s ns w W6 gN nN cN j phrase nm he (hW.next HV.out) hs hsn hsm (keep_cell HV.out (hnm j nm hq)) HJ.out.2 hc hq _ _ _ _ _ _ _ _ _ _ _ _ _ _ _ _ _ _ _ _ _ _ _ _ _ _ _ _ _ _ _ _ _ _ _ _ _ _ _ _ _ _ _ _ _ _ _ _ _ _ _ _ _ _ _ _ _ _ _ _ _ _ _ _ _ _ _ _ _ _ _ _ _ _ _ _ _ _ _ _ _ _ _ _ _ _ _ _ _ _ _ _ _ _ _ _ _ _ _ _ _ _ _ _ _ _ _ _
 ·have hne : (c != 0) = true := by simpa using h0
  have HB := Lib.hid HS.out.2.1.below
  clear HS HH h0
  go_wp2_with fail
  try simp only [Exit.then]
  go_ret
  exact ⟨rfl, thenB HB.out HV.out⟩
set_option maxRecDepth 100000 in
set_option maxHeartbeats 16000000 in
theorem mis_e2 (s : Ls) (ns : List Int) (w W : World) (at_ : Nat) (phrase : Bool) (he : ∀ V, Below w.heap.size w V → Env V) (hW : LawW s w W) (hs : s.At w) (hsn : NsAt w s.refs ns) (hm : s.mfit) (hl1 : s.roles.length ≤ 4000000000000) (hl2 : s.phrases.length ≤ 4000000000000) (ha : at_ < 256) (e0 e4 e5 e6 e7 e8 e9 e10 e11 e12 e13 e14 e15 e16 e17 e18 e19 e20 e21 e22 e23 e24 e25 e26 e27 e28 e29 e30 e31 e32 e33 e34 e35 e36 e37 e38 e39 e40 e41 e42 e43 e44 e45 e46 e47 e48 e49 e50 e51 e52 e53 e54 e55 e56 e57 e58 e59 e60 e61 e62 e63 e64 e65 e66 e67 e68 e69 e70 e71 e72 e73 e74 e75 e76 e77 e78 e79 e80 e81 e82 e83 e84 e85 e86 e87 e88 e89 e90 e91 e92 e93 e94 e95 e96 e97 e98 e99 e100 e101 e102 e103 e104 e105 e106 e107 e108 e109 e110 e111 : Value) :
  (lastPart 2 code6).wp Try.prog (bodyPost Try.prog Try.f6 (fun e w' => e = .returned (.bool true) ∧ Below w.heap.size w w')) { tmps := #[e0, .bool phrase, .int .u8 (at_ : Nat), .pointer (some ⟨w.heap.size, 0, none⟩), e4, e5, e6, e7, e8, e9, e10, e11, e12, e13, e14, e15, e16, e17, e18, e19, e20, e21, e22, e23, e24, e25, e26, e27, e28, e29, e30, e31, e32, e33, e34, e35, e36, e37, e38, e39, e40, e41, e42, e43, e44, e45, e46, e47, e48, e49, e50, e51, e52, e53, e54, e55, e56, e57, e58, e59, e60, e61, e62, e63, e64, e65, e66, e67, e68, e69, e70, e71, e72, e73, e74, e75, e76, e77, e78, e79, e80, e81, e82, e83, e84, e85, e86, e87, e88, e89, e90, e91, e92, e93, e94, e95, e96, e97, e98, e99, e100, e101, e102, e103, e104, e105, e106, e107, e108, e109, e110, e111], defers := [] } W := by
 have C := list_any s phrase W (hs.below hW.below) hl1 hl2
 have hnl : (if phrase then s.phrases.map (fun p => p.name) else s.roles.map fun p => p.name) = s.namesOf phrase := rfl
 rw [hnl] at C
 unfold Ls.val at C
 have HC := Lib.hid C; have HL := Lib.hid hW.box
 have HS := Lib.hid (And.intro he (And.intro hW (And.intro hs (And.intro hsn (And.intro hm (And.intro hl1 (And.intro hl2 ha)))))))
 clear C he hW hs hsn hm hl1 hl2 hnl ha
 unfold NamesP at HC
 obtain ⟨nN, hn⟩ : ∃ nN, (s.namesOf phrase).length = nN := ⟨_, rfl⟩
 have HN := Lib.hid hn
 rw [hn] at HC
 clear hn
 rw [msstep2]
 refine wp_seq_thenQ (fun K hK => ?_)
 have HK := Lib.hid hK
 clear hK
 conv => arg 2; whnf
 go_wp2_with (refine wpList_load_row rfl 30 _ rfl w.heap.size rfl 30 s.cells (0, 0) _ HL.out Try.underlying30 rfl (by kernel_rfl) ?_; simp only [Act.put, List.setIfInBounds_toArray, List.set_cons_zero, List.set_cons_succ])
 refine HC.out.mono ?_
 rintro e V ⟨v, rfl, ho, hv⟩
 obtain ⟨ao, cN, rfl, hform, _, _, _, hcl⟩ := own_new (by omega) ho
 have HV := Lib.hid hv
 have HF := Lib.hid (And.intro hform hcl)
 clear HC HL hv ho hform hcl
 go_wp2_with fail
 refine HK.out _ _ ?_
 clear HK K
 obtain ⟨he, hW, hs, hsn, hm, hl1, hl2, ha⟩ := HS.out
 have hW2 := hW.next HV.out
 have C := few_any s V (hs.below hW2.below) hm
 unfold Ls.val at C
 have HC := Lib.hid C
 have HL := Lib.hid hW2.box
 have HW2 := Lib.hid hW2
 clear he hW hs hsn hm hl1 hl2 ha hW2 C
 rw [msstep3]
 refine wp_seq_thenQ (fun K hK => ?_)
 have HK := Lib.hid hK
 clear hK
 conv => arg 2; whnf
 go_wp2_with (refine wpList_load_row rfl 30 _ rfl w.heap.size rfl 30 s.cells (0, 0) _ HL.out Try.underlying30 rfl (by kernel_rfl) ?_; simp only [Act.put, List.setIfInBounds_toArray, List.set_cons_zero, List.set_cons_succ])
 refine HC.out.mono ?_
 rintro e V3 ⟨b, rfl, hsm, hv⟩
 have H3 := Lib.hid (HW2.out.next hv)
 have HSM := Lib.hid hsm
 have HV3 := Lib.hid hv
 clear HC HL hv hsm
 cases b with
 | false =>
  go_wp2_with fail
  try simp only [Exit.then]
  go_ret
  exact ⟨rfl, H3.out.below⟩
 | true =>
 by_cases h0 : nN = 0
 ·subst h0
  go_wp2_with fail
  try simp only [Exit.then]
  go_ret
  exact ⟨rfl, H3.out.below⟩
 ·have hmz : ¬ (nN : Int) = 0 := by omega
  go_wp2_with fail
  refine HK.out _ _ ?_
  clear HK K
  obtain ⟨he, hW, hs, hsn, hm, hl1, hl2, ha⟩ := HS.out
  obtain ⟨hform, hcl⟩ := HF.out
  obtain ⟨ea, _, _⟩ := hform.resolve_left h0
  rw [ea]
  exact mis_e4 s ns w V3 (blk ao) nN cN at_ phrase he H3.out hs hsn (HSM.out (by trivial)) (fun j nm h => by
   have := hcl j (sv nm) (by rw [List.getElem?_map, h]; rfl)
   rw [Nat.zero_add] at this
   exact keep_cell HV3.out this) HN.out (by omega) ha _ _ _ _ _ _ _ _ _ _ _ _ _ _ _ _ _ _ _ _ _ _ _ _ _ _ _ _ _ _ _ _ _ _ _ _ _ _ _ _ _ _ _ _ _ _ _ _ _ _ _ _ _ _ _ _ _ _ _ _ _ _ _ _ _ _ _ _ _ _ _ _ _ _ _ _ _ _ _ _ _ _ _ _ _ _ _ _ _ _ _ _ _ _ _ _ _ _ _ _ _ _ _ _ _ _ _ _
set_option maxRecDepth 100000 in
set_option maxHeartbeats 16000000 in
theorem missing_any (s : Ls) (ns : List Int) (w : World) (phrase : Bool) (at_ : Nat) (h : LawIn s ns w) (hl : s.roles.length ≤ 4000000000000 ∧ s.phrases.length ≤ 4000000000000) (ha : at_ < 256) : Calls Try.prog 6 #[s.val, .bool phrase, .int .u8 (at_ : Nat)] w (fun e w' => e = .returned (.bool true) ∧ Below w.heap.size w w') := by
 obtain ⟨hA, hN, he, hm⟩ := h
 obtain ⟨W1, hW1, h1⟩ : ∃ W1, w.alloc (.cells s.cells 30) = W1 ∧ LawW s w W1 := ⟨_, rfl, (Below.refl _ w).alloc (Nat.le_refl _) _, heap_alloc_new w _⟩
 obtain ⟨cs, hcs⟩ : ∃ cs, s.cells = cs := ⟨_, rfl⟩
 have hsv : s.val = .agg cs := by rw [← hcs]; rfl
 have hW1' : w.alloc (.cells cs 30) = W1 := by rw [← hcs]; exact hW1
 rw [hsv]
 have HW1 := Lib.hid hW1'; have HCS := Lib.hid hcs; have HA := Lib.hid hA; have HN := Lib.hid hN; have HE := Lib.hid he; have HM := Lib.hid hm
 have H1 := Lib.hid h1
 have HAB := Lib.hid (And.intro ha hl)
 clear hA hN he hm hcs hW1 hW1' hsv h1 ha hl
 go_enter Try.func6, Try.ntmps6
 change Code.wp Try.prog (.seq elem6n0 (lastPart 1 code6)) _ _ _
 refine wp_seq_thenQ (fun K hK => ?_)
 have HK := Lib.hid hK
 clear hK
 conv => arg 2; whnf
 go_wp2_with fail
 refine HK.out _ _ ?_
 clear HK K
 rw [HW1.out]
 rw [msstep1]
 refine wp_seq_thenQ (fun K hK => ?_)
 have HK := Lib.hid hK
 clear hK
 conv => arg 2; whnf
 have C := sane_any W1 (HE.out _ H1.out.below)
 have HC := Lib.hid C
 clear C
 go_wp2_with (go_at_call 13; refine HC.out.mono ?_; rintro e V ⟨rfl, hv⟩)
 refine HK.out _ _ ?_
 have H2 := Lib.hid (H1.out.next hv)
 clear HK K HC H1 HW1 hv
 exact mis_e2 s ns w V at_ phrase HE.out H2.out HA.out HN.out HM.out HAB.out.2.1 HAB.out.2.2 HAB.out.1 _ _ _ _ _ _ _ _ _ _ _ _ _ _ _ _ _ _ _ _ _ _ _ _ _ _ _ _ _ _ _ _ _ _ _ _ _ _ _ _ _ _ _ _ _ _ _ _ _ _ _ _ _ _ _ _ _ _ _ _ _ _ _ _ _ _ _ _ _ _ _ _ _ _ _ _ _ _ _ _ _ _ _ _ _ _ _ _ _ _ _ _ _ _ _ _ _ _ _ _ _ _ _ _ _ _ _ _ _
end Go.Proofs.Ytpnbpepkoekkoaa
end
