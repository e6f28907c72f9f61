/- The walk of the statement: part 14. -/
import Derived.Test.YtpnbpepkoekkoaaYRSCp13
import Derived.Test.YtpnbpepkoekkoaaYRSCp7
import Derived.Deep.QuietTactic
import Derived.BigQuiet
set_option linter.unusedVariables false
set_option linter.unusedSimpArgs false
section
namespace Go.Proofs.Ytpnbpepkoekkoaa
open Go Go.RowKit
theorem IntRow.parts {W : World} {v : Value} {l : List Int} (h : IntRow W v l) : ∃ g ao cap, v = .slice ao l.length cap ∧ (l = [] ∨ ao = some ⟨g, 0, none⟩) ∧ l.length ≤ maxLen ∧ ∀ (j : Nat) (x : Int), l[j]? = some x → W.cell? ⟨g, j, none⟩ = some (.int .i64 x) := by
 rcases h with ⟨rfl, rfl⟩ | ⟨g, cap, rfl, _, h3, h4, h5⟩
 ·exact ⟨0, none, 0, rfl, Or.inl rfl, Nat.zero_le _, fun j x hj => by simp at hj⟩
 ·exact ⟨g, _, cap, rfl, Or.inr rfl, Nat.le_trans h3 h4, h5⟩
theorem IntRow.below {W V : World} {v : Value} {l : List Int} (h : IntRow W v l) (hb : Below W.heap.size W V) : IntRow V v l := by
 rcases h with h | ⟨g, cap, h1, h2, h3, h4, h5⟩
 ·exact Or.inl h
 ·exact Or.inr ⟨g, cap, h1, h2, h3, h4, fun j x hj => keep_cell hb (h5 j x hj)⟩
def SamP (l1 l2 : List Int) (w : World) (e : Ending) (w' : World) : Prop := e = .returned (.bool (decide (l1 = l2))) ∧ Below w.heap.size w w'
set_option maxRecDepth 100000 in
set_option maxHeartbeats 4000000 in
theorem same59_any (v1 v2 : Value) (l1 l2 : List Int) (W : World) (h1 : IntRow W v1 l1) (h2 : IntRow W v2 l2) : Calls Try.prog 59 #[v1, v2] W (SamP l1 l2 W) := by
 obtain ⟨g1, a1, c1, rfl, f1, m1, k1⟩ := h1.parts
 obtain ⟨g2, a2, c2, rfl, f2, m2, k2⟩ := h2.parts
 clear h1 h2
 have HF1 := Lib.hid f1; have HF2 := Lib.hid f2; have HK1 := Lib.hid k1; have HK2 := Lib.hid k2
 clear f1 f2 k1 k2
 unfold maxLen at m1 m2
 generalize hn1 : l1.length = n1 at *
 generalize hn2 : l2.length = n2 at *
 have HN1 := Lib.hid hn1; have HN2 := Lib.hid hn2
 clear hn1 hn2
 by_cases hne : (n1 : Int) = (n2 : Int)
 ·obtain rfl : n1 = n2 := by omega
  clear hne
  go_enter Try.func59, Try.ntmps59
  go_wp2_with fail
  go_loopw [13] (fun iv wr => ∃ (i q : Nat), iv = .int .i64 i ∧ i ≤ n1 ∧ wr = W.drewN q ∧ Hid (∀ j, j < i → l1[j]? = l2[j]?)) (fun iv _ => n1 + 1 - (intOf iv).toNat)
  case atStart => exact ⟨0, 0, rfl, Nat.zero_le _, rfl, Lib.hid (fun j hj => by omega)⟩
  case round =>
   obtain ⟨i, q, rfl, hin, rfl, hal⟩ := hrel
   by_cases hlt : i < n1
   ·have hi : (i : Int) < (n1 : Int) := by omega
    obtain ⟨x, hx⟩ : ∃ x, l1[i]? = some x := ⟨_, List.getElem?_eq_getElem (by rw [HN1.out]; exact hlt)⟩
    obtain ⟨y, hy⟩ : ∃ y, l2[i]? = some y := ⟨_, List.getElem?_eq_getElem (by rw [HN2.out]; exact hlt)⟩
    have e1 := HF1.out.resolve_left (fun e => by rw [e] at hx; simp at hx)
    have e2 := HF2.out.resolve_left (fun e => by rw [e] at hy; simp at hy)
    have z1 := HK1.out i x hx
    have z2 := HK2.out i y hy
    have HX := Lib.hid hx; have HY := Lib.hid hy
    clear hx hy
    subst e1 e2
    by_cases hxy : x = y
    ·subst hxy
     go_wp2_with fail
     go_quiet (fail)
     go_wp2_with fail
     go_roundw
     case rel => exact ⟨i + 1, _, by go_num, by omega, rfl, Lib.hid (fun j hj => by rcases Nat.lt_or_ge j i with h | h; exact hal.out j h; rw [show j = i by omega, HX.out, HY.out])⟩
     case measure => simp [intOf]; omega
    ·have hno : ¬ l1 = l2 := fun e => by have := HX.out; rw [e, HY.out] at this; cases this; exact hxy rfl
     have HNO := Lib.hid hno
     clear hno
     go_wp2_with fail
     go_quiet (fail)
     go_wp2_with fail
     go_ret
     exact ⟨by rw [decide_eq_false HNO.out]; rfl, below_drewN (below_drewN (Below.refl _ _) _) _⟩
   ·have : i = n1 := by omega
    subst this
    have hz : ¬ (i : Int) < (i : Int) := by omega
    have hye : l1 = l2 := by
     apply List.ext_getElem?
     intro j
     rcases Nat.lt_or_ge j i with h | h
     ·exact hal.out j h
     ·rw [List.getElem?_eq_none (by rw [HN1.out]; exact h), List.getElem?_eq_none (by rw [HN2.out]; exact h)]
    have HYE := Lib.hid hye
    clear hye
    go_wp2_with fail
    go_ret
    exact ⟨by rw [decide_eq_true HYE.out]; rfl, below_drewN (Below.refl _ _) _⟩
 ·have hno : ¬ l1 = l2 := fun e => hne (by rw [← HN1.out, ← HN2.out, e])
  have HNO := Lib.hid hno
  clear hno
  go_enter Try.func59, Try.ntmps59
  go_wp2_with fail
  go_ret
  exact ⟨by rw [decide_eq_false HNO.out]; rfl, Below.refl _ _⟩
end Go.Proofs.Ytpnbpepkoekkoaa
end
section
namespace Go.Proofs.Ytpnbpepkoekkoaa
open Go Go.RowKit Go.Shelf
noncomputable def code25 : Code := (Try.f25.body).getD .skip
noncomputable def elem25n0 : Code := match lastPart 0 code25 with
 | .seq a _ => a
 | c => c
noncomputable def elem25n1 : Code := match lastPart 1 code25 with
 | .seq a _ => a
 | c => c
noncomputable def elem25n2 : Code := match lastPart 2 code25 with
 | .seq a _ => a
 | c => c
noncomputable def elem25n3 : Code := match lastPart 3 code25 with
 | .seq a _ => a
 | c => c
noncomputable def elem25n4 : Code := match lastPart 4 code25 with
 | .seq a _ => a
 | c => c
noncomputable def elem25n5 : Code := match lastPart 5 code25 with
 | .seq a _ => a
 | c => c
noncomputable def elem25n6 : Code := match lastPart 6 code25 with
 | .seq a _ => a
 | c => c
noncomputable def elem25n7 : Code := match lastPart 7 code25 with
 | .seq a _ => a
 | c => c
noncomputable def elem25n8 : Code := match lastPart 8 code25 with
 | .seq a _ => a
 | c => c
noncomputable def elem25n9 : Code := match lastPart 9 code25 with
 | .seq a _ => a
 | c => c
noncomputable def elem25n10 : Code := match lastPart 10 code25 with
 | .seq a _ => a
 | c => c
noncomputable def elem25n11 : Code := match lastPart 11 code25 with
 | .seq a _ => a
 | c => c
noncomputable def elem25n12 : Code := match lastPart 12 code25 with
 | .seq a _ => a
 | c => c
theorem snstep0 : code25 = .seq elem25n0 (lastPart 1 code25) := rfl
theorem snstep1 : lastPart 1 code25 = .seq elem25n1 (lastPart 2 code25) := rfl
theorem snstep2 : lastPart 2 code25 = .seq elem25n2 (lastPart 3 code25) := rfl
theorem snstep3 : lastPart 3 code25 = .seq elem25n3 (lastPart 4 code25) := rfl
theorem snstep4 : lastPart 4 code25 = .seq elem25n4 (lastPart 5 code25) := rfl
theorem snstep5 : lastPart 5 code25 = .seq elem25n5 (lastPart 6 code25) := rfl
theorem snstep6 : lastPart 6 code25 = .seq elem25n6 (lastPart 7 code25) := rfl
theorem snstep7 : lastPart 7 code25 = .seq elem25n7 (lastPart 8 code25) := rfl
theorem snstep8 : lastPart 8 code25 = .seq elem25n8 (lastPart 9 code25) := rfl
theorem snstep9 : lastPart 9 code25 = .seq elem25n9 (lastPart 10 code25) := rfl
theorem snstep10 : lastPart 10 code25 = .seq elem25n10 (lastPart 11 code25) := rfl
theorem snstep11 : lastPart 11 code25 = .seq elem25n11 (lastPart 12 code25) := rfl
theorem snstep12 : lastPart 12 code25 = .seq elem25n12 (lastPart 13 code25) := rfl
set_option maxRecDepth 100000 in
set_option maxHeartbeats 16000000 in
theorem sn_e1 (W : World) (Q : Exit → Act → World → Prop) (e0 e1 e2 e3 e4 e5 e6 e7 e8 e9 e10 e11 e12 e13 e14 e15 e16 e17 e18 e19 e20 e21 e22 e23 e24 e25 e26 e27 e28 e29 e30 e31 e32 e33 e34 e35 e36 e37 e38 e39 e40 e41 e42 e43 e44 e45 e46 e47 e48 e49 e50 e51 e52 e53 e54 e55 e56 e57 e58 e59 e60 e61 e62 e63 e64 e65 e66 e67 e68 e69 e70 e71 e72 e73 e74 e75 e76 e77 e78 e79 e80 e81 e82 e83 e84 e85 e86 e87 e88 e89 e90 e91 e92 e93 e94 e95 e96 e97 e98 e99 e100 e101 e102 e103 e104 e105 e106 e107 e108 e109 e110 e111 e112 e113 e114 e115 e116 e117 e118 e119 e120 : Value)
  (hQ : ∀ (R T M U I0 I1 F D X : Nat) (x15 : Value) (V : World), Sm18 R T M U I0 I1 F D V → (∀ b ∈ [R, T, M, U, I0, I1, F, D], W.heap.size ≤ b ∧ b < X) → [R, T, M, U, I0, I1, F, D].Nodup → V.heap[X]? = some (.cells (sm18 R T M U I0 I1 F D).cells 30 (0, 0)) → W.heap.size ≤ X → Below W.heap.size W V → Q .normal { tmps := #[e0, .pointer (some ⟨X, 0, none⟩), e2, e3, e4, e5, e6, e7, e8, e9, e10, e11, e12, e13, e14, x15, e16, e17, e18, e19, e20, e21, e22, e23, e24, e25, e26, e27, e28, e29, e30, e31, e32, e33, e34, e35, e36, e37, e38, e39, e40, e41, e42, e43, e44, e45, e46, e47, e48, e49, e50, e51, e52, e53, e54, e55, e56, e57, e58, e59, e60, e61, e62, e63, e64, e65, e66, e67, e68, e69, e70, e71, e72, e73, e74, e75, e76, e77, e78, e79, e80, e81, e82, e83, e84, e85, e86, e87, e88, e89, e90, e91, e92, e93, e94, e95, e96, e97, e98, e99, e100, e101, e102, e103, e104, e105, e106, e107, e108, e109, e110, e111, e112, e113, e114, e115, e116, e117, e118, e119, e120], defers := [] } V) :
  elem25n1.wp Try.prog Q { tmps := #[e0, e1, e2, e3, e4, e5, e6, e7, e8, e9, e10, e11, e12, e13, e14, e15, e16, e17, e18, e19, e20, e21, e22, e23, e24, e25, e26, e27, e28, e29, e30, e31, e32, e33, e34, e35, e36, e37, e38, e39, e40, e41, e42, e43, e44, e45, e46, e47, e48, e49, e50, e51, e52, e53, e54, e55, e56, e57, e58, e59, e60, e61, e62, e63, e64, e65, e66, e67, e68, e69, e70, e71, e72, e73, e74, e75, e76, e77, e78, e79, e80, e81, e82, e83, e84, e85, e86, e87, e88, e89, e90, e91, e92, e93, e94, e95, e96, e97, e98, e99, e100, e101, e102, e103, e104, e105, e106, e107, e108, e109, e110, e111, e112, e113, e114, e115, e116, e117, e118, e119, e120], defers := [] } W := by
 have HQ := Lib.hid hQ
 clear hQ
 have C := small57_any W
 have HC := Lib.hid C
 clear C
 conv => arg 2; whnf
 go_wp2_with (go_at_call 57; refine HC.out.mono ?_; rintro e V ⟨R, T, M, U, I0, I1, F, D, rfl, h1, h2, h3, h4⟩; obtain ⟨V2, xV, gV, bV, sV⟩ := mk_cells V #[sv [119], .int .i64 20, .int .i64 10, .int .i64 3, .int .i64 2, .int .i64 1, .slice (some ⟨R, 0, none⟩) 1 1, .slice (some ⟨T, 0, none⟩) 1 1, .slice none 0 0, .slice none 0 0, .slice (some ⟨F, 0, none⟩) 2 2, .slice (some ⟨D, 0, none⟩) 1 1] 30; have HH := Lib.hid (And.intro h1 (And.intro h2 (And.intro h3 h4))); have HG := Lib.hid (And.intro gV bV); have HXV := Lib.hid xV; clear h1 h2 h3 h4 gV bV sV xV)
 obtain ⟨h1, h2, h3, h4⟩ := HH.out
 obtain ⟨gV, bV⟩ := HG.out
 rw [HXV.out]
 have hl : ∀ {b : Nat} {o : Obj}, V.heap[b]? = some o → b < V.heap.size := fun h => (Array.getElem?_eq_some_iff.1 h).1
 refine HQ.out R T M U I0 I1 F D V.heap.size _ V2 ⟨keepO bV h1.hR, keepO bV h1.hT, keepO bV h1.hM, keepO bV h1.hU, keepO bV h1.hI0, keepO bV h1.hI1, keepO bV h1.hF, keepO bV h1.hD⟩ (fun b hb => ⟨h2 b hb, ?_⟩) h3 gV h4.size (thenB h4 bV)
 simp only [List.mem_cons, List.mem_nil_iff, or_false] at hb
 rcases hb with rfl | rfl | rfl | rfl | rfl | rfl | rfl | rfl
 ·exact hl h1.hR
 ·exact hl h1.hT
 ·exact hl h1.hM
 ·exact hl h1.hU
 ·exact hl h1.hI0
 ·exact hl h1.hI1
 ·exact hl h1.hF
 ·exact hl h1.hD
set_option maxRecDepth 100000 in
set_option maxHeartbeats 16000000 in
theorem sn_e5 (W : World) (Q : Exit → Act → World → Prop) (e0 e1 e2 e3 e4 e5 e6 e7 e8 e9 e10 e11 e12 e13 e14 e15 e16 e17 e18 e19 e20 e21 e22 e23 e24 e25 e26 e27 e28 e29 e30 e31 e32 e33 e34 e35 e36 e37 e38 e39 e40 e41 e42 e43 e44 e45 e46 e47 e48 e49 e50 e51 e52 e53 e54 e55 e56 e57 e58 e59 e60 e61 e62 e63 e64 e65 e66 e67 e68 e69 e70 e71 e72 e73 e74 e75 e76 e77 e78 e79 e80 e81 e82 e83 e84 e85 e86 e87 e88 e89 e90 e91 e92 e93 e94 e95 e96 e97 e98 e99 e100 e101 e102 e103 e104 e105 e106 e107 e108 e109 e110 e111 e112 e113 e114 e115 e116 e117 e118 e119 e120 : Value)
  (hQ : ∀ (R T M U I0 I1 F D X : Nat) (x32 : Value) (V : World), Sm18 R T M U I0 I1 F D V → (∀ b ∈ [R, T, M, U, I0, I1, F, D], W.heap.size ≤ b ∧ b < X) → [R, T, M, U, I0, I1, F, D].Nodup → V.heap[X]? = some (.cells (sm18 R T M U I0 I1 F D).cells 30 (0, 0)) → W.heap.size ≤ X → Below W.heap.size W V → Q .normal { tmps := #[e0, e1, e2, e3, e4, e5, e6, e7, e8, .pointer (some ⟨X, 0, none⟩), e10, e11, e12, e13, e14, e15, e16, e17, e18, e19, e20, e21, e22, e23, e24, e25, e26, e27, e28, e29, e30, e31, x32, e33, e34, e35, e36, e37, e38, e39, e40, e41, e42, e43, e44, e45, e46, e47, e48, e49, e50, e51, e52, e53, e54, e55, e56, e57, e58, e59, e60, e61, e62, e63, e64, e65, e66, e67, e68, e69, e70, e71, e72, e73, e74, e75, e76, e77, e78, e79, e80, e81, e82, e83, e84, e85, e86, e87, e88, e89, e90, e91, e92, e93, e94, e95, e96, e97, e98, e99, e100, e101, e102, e103, e104, e105, e106, e107, e108, e109, e110, e111, e112, e113, e114, e115, e116, e117, e118, e119, e120], defers := [] } V) :
  elem25n5.wp Try.prog Q { tmps := #[e0, e1, e2, e3, e4, e5, e6, e7, e8, e9, e10, e11, e12, e13, e14, e15, e16, e17, e18, e19, e20, e21, e22, e23, e24, e25, e26, e27, e28, e29, e30, e31, e32, e33, e34, e35, e36, e37, e38, e39, e40, e41, e42, e43, e44, e45, e46, e47, e48, e49, e50, e51, e52, e53, e54, e55, e56, e57, e58, e59, e60, e61, e62, e63, e64, e65, e66, e67, e68, e69, e70, e71, e72, e73, e74, e75, e76, e77, e78, e79, e80, e81, e82, e83, e84, e85, e86, e87, e88, e89, e90, e91, e92, e93, e94, e95, e96, e97, e98, e99, e100, e101, e102, e103, e104, e105, e106, e107, e108, e109, e110, e111, e112, e113, e114, e115, e116, e117, e118, e119, e120], defers := [] } W := by
 have HQ := Lib.hid hQ
 clear hQ
 have C := small57_any W
 have HC := Lib.hid C
 clear C
 conv => arg 2; whnf
 go_wp2_with (go_at_call 57; refine HC.out.mono ?_; rintro e V ⟨R, T, M, U, I0, I1, F, D, rfl, h1, h2, h3, h4⟩; obtain ⟨V2, xV, gV, bV, sV⟩ := mk_cells V #[sv [119], .int .i64 20, .int .i64 10, .int .i64 3, .int .i64 2, .int .i64 1, .slice (some ⟨R, 0, none⟩) 1 1, .slice (some ⟨T, 0, none⟩) 1 1, .slice none 0 0, .slice none 0 0, .slice (some ⟨F, 0, none⟩) 2 2, .slice (some ⟨D, 0, none⟩) 1 1] 30; have HH := Lib.hid (And.intro h1 (And.intro h2 (And.intro h3 h4))); have HG := Lib.hid (And.intro gV bV); have HXV := Lib.hid xV; clear h1 h2 h3 h4 gV bV sV xV)
 obtain ⟨h1, h2, h3, h4⟩ := HH.out
 obtain ⟨gV, bV⟩ := HG.out
 rw [HXV.out]
 have hl : ∀ {b : Nat} {o : Obj}, V.heap[b]? = some o → b < V.heap.size := fun h => (Array.getElem?_eq_some_iff.1 h).1
 refine HQ.out R T M U I0 I1 F D V.heap.size _ V2 ⟨keepO bV h1.hR, keepO bV h1.hT, keepO bV h1.hM, keepO bV h1.hU, keepO bV h1.hI0, keepO bV h1.hI1, keepO bV h1.hF, keepO bV h1.hD⟩ (fun b hb => ⟨h2 b hb, ?_⟩) h3 gV h4.size (thenB h4 bV)
 simp only [List.mem_cons, List.mem_nil_iff, or_false] at hb
 rcases hb with rfl | rfl | rfl | rfl | rfl | rfl | rfl | rfl
 ·exact hl h1.hR
 ·exact hl h1.hT
 ·exact hl h1.hM
 ·exact hl h1.hU
 ·exact hl h1.hI0
 ·exact hl h1.hI1
 ·exact hl h1.hF
 ·exact hl h1.hD
set_option maxRecDepth 100000 in
set_option maxHeartbeats 16000000 in
theorem sn_e8 (W : World) (Q : Exit → Act → World → Prop) (e0 e1 e2 e3 e4 e5 e6 e7 e8 e9 e10 e11 e12 e13 e14 e15 e16 e17 e18 e19 e20 e21 e22 e23 e24 e25 e26 e27 e28 e29 e30 e31 e32 e33 e34 e35 e36 e37 e38 e39 e40 e41 e42 e43 e44 e45 e46 e47 e48 e49 e50 e51 e52 e53 e54 e55 e56 e57 e58 e59 e60 e61 e62 e63 e64 e65 e66 e67 e68 e69 e70 e71 e72 e73 e74 e75 e76 e77 e78 e79 e80 e81 e82 e83 e84 e85 e86 e87 e88 e89 e90 e91 e92 e93 e94 e95 e96 e97 e98 e99 e100 e101 e102 e103 e104 e105 e106 e107 e108 e109 e110 e111 e112 e113 e114 e115 e116 e117 e118 e119 e120 : Value)
  (hQ : ∀ (R T M U I0 I1 F D X : Nat) (x52 : Value) (V : World), Sm18 R T M U I0 I1 F D V → (∀ b ∈ [R, T, M, U, I0, I1, F, D], W.heap.size ≤ b ∧ b < X) → [R, T, M, U, I0, I1, F, D].Nodup → V.heap[X]? = some (.cells (sm18 R T M U I0 I1 F D).cells 30 (0, 0)) → W.heap.size ≤ X → Below W.heap.size W V → Q .normal { tmps := #[e0, e1, e2, e3, e4, e5, e6, e7, e8, e9, e10, e11, e12, .pointer (some ⟨X, 0, none⟩), e14, e15, e16, e17, e18, e19, e20, e21, e22, e23, e24, e25, e26, e27, e28, e29, e30, e31, e32, e33, e34, e35, e36, e37, e38, e39, e40, e41, e42, e43, e44, e45, e46, e47, e48, e49, e50, e51, x52, e53, e54, e55, e56, e57, e58, e59, e60, e61, e62, e63, e64, e65, e66, e67, e68, e69, e70, e71, e72, e73, e74, e75, e76, e77, e78, e79, e80, e81, e82, e83, e84, e85, e86, e87, e88, e89, e90, e91, e92, e93, e94, e95, e96, e97, e98, e99, e100, e101, e102, e103, e104, e105, e106, e107, e108, e109, e110, e111, e112, e113, e114, e115, e116, e117, e118, e119, e120], defers := [] } V) :
  elem25n8.wp Try.prog Q { tmps := #[e0, e1, e2, e3, e4, e5, e6, e7, e8, e9, e10, e11, e12, e13, e14, e15, e16, e17, e18, e19, e20, e21, e22, e23, e24, e25, e26, e27, e28, e29, e30, e31, e32, e33, e34, e35, e36, e37, e38, e39, e40, e41, e42, e43, e44, e45, e46, e47, e48, e49, e50, e51, e52, e53, e54, e55, e56, e57, e58, e59, e60, e61, e62, e63, e64, e65, e66, e67, e68, e69, e70, e71, e72, e73, e74, e75, e76, e77, e78, e79, e80, e81, e82, e83, e84, e85, e86, e87, e88, e89, e90, e91, e92, e93, e94, e95, e96, e97, e98, e99, e100, e101, e102, e103, e104, e105, e106, e107, e108, e109, e110, e111, e112, e113, e114, e115, e116, e117, e118, e119, e120], defers := [] } W := by
 have HQ := Lib.hid hQ
 clear hQ
 have C := small57_any W
 have HC := Lib.hid C
 clear C
 conv => arg 2; whnf
 go_wp2_with (go_at_call 57; refine HC.out.mono ?_; rintro e V ⟨R, T, M, U, I0, I1, F, D, rfl, h1, h2, h3, h4⟩; obtain ⟨V2, xV, gV, bV, sV⟩ := mk_cells V #[sv [119], .int .i64 20, .int .i64 10, .int .i64 3, .int .i64 2, .int .i64 1, .slice (some ⟨R, 0, none⟩) 1 1, .slice (some ⟨T, 0, none⟩) 1 1, .slice none 0 0, .slice none 0 0, .slice (some ⟨F, 0, none⟩) 2 2, .slice (some ⟨D, 0, none⟩) 1 1] 30; have HH := Lib.hid (And.intro h1 (And.intro h2 (And.intro h3 h4))); have HG := Lib.hid (And.intro gV bV); have HXV := Lib.hid xV; clear h1 h2 h3 h4 gV bV sV xV)
 obtain ⟨h1, h2, h3, h4⟩ := HH.out
 obtain ⟨gV, bV⟩ := HG.out
 rw [HXV.out]
 have hl : ∀ {b : Nat} {o : Obj}, V.heap[b]? = some o → b < V.heap.size := fun h => (Array.getElem?_eq_some_iff.1 h).1
 refine HQ.out R T M U I0 I1 F D V.heap.size _ V2 ⟨keepO bV h1.hR, keepO bV h1.hT, keepO bV h1.hM, keepO bV h1.hU, keepO bV h1.hI0, keepO bV h1.hI1, keepO bV h1.hF, keepO bV h1.hD⟩ (fun b hb => ⟨h2 b hb, ?_⟩) h3 gV h4.size (thenB h4 bV)
 simp only [List.mem_cons, List.mem_nil_iff, or_false] at hb
 rcases hb with rfl | rfl | rfl | rfl | rfl | rfl | rfl | rfl
 ·exact hl h1.hR
 ·exact hl h1.hT
 ·exact hl h1.hM
 ·exact hl h1.hU
 ·exact hl h1.hI0
 ·exact hl h1.hI1
 ·exact hl h1.hF
 ·exact hl h1.hD
set_option maxRecDepth 100000 in
set_option maxHeartbeats 16000000 in
theorem sn_e10 (W : World) (Q : Exit → Act → World → Prop) (e0 e1 e2 e3 e4 e5 e6 e7 e8 e9 e10 e11 e12 e13 e14 e15 e16 e17 e18 e19 e20 e21 e22 e23 e24 e25 e26 e27 e28 e29 e30 e31 e32 e33 e34 e35 e36 e37 e38 e39 e40 e41 e42 e43 e44 e45 e46 e47 e48 e49 e50 e51 e52 e53 e54 e55 e56 e57 e58 e59 e60 e61 e62 e63 e64 e65 e66 e67 e68 e69 e70 e71 e72 e73 e74 e75 e76 e77 e78 e79 e80 e81 e82 e83 e84 e85 e86 e87 e88 e89 e90 e91 e92 e93 e94 e95 e96 e97 e98 e99 e100 e101 e102 e103 e104 e105 e106 e107 e108 e109 e110 e111 e112 e113 e114 e115 e116 e117 e118 e119 e120 : Value)
  (hQ : ∀ (R T M U I0 I1 F D X : Nat) (x55 : Value) (V : World), Sm18 R T M U I0 I1 F D V → (∀ b ∈ [R, T, M, U, I0, I1, F, D], W.heap.size ≤ b ∧ b < X) → [R, T, M, U, I0, I1, F, D].Nodup → V.heap[X]? = some (.cells (sm18 R T M U I0 I1 F D).cells 30 (0, 0)) → W.heap.size ≤ X → Below W.heap.size W V → Q .normal { tmps := #[e0, e1, e2, e3, e4, e5, e6, e7, e8, e9, e10, e11, e12, e13, .pointer (some ⟨X, 0, none⟩), e15, e16, e17, e18, e19, e20, e21, e22, e23, e24, e25, e26, e27, e28, e29, e30, e31, e32, e33, e34, e35, e36, e37, e38, e39, e40, e41, e42, e43, e44, e45, e46, e47, e48, e49, e50, e51, e52, e53, e54, x55, e56, e57, e58, e59, e60, e61, e62, e63, e64, e65, e66, e67, e68, e69, e70, e71, e72, e73, e74, e75, e76, e77, e78, e79, e80, e81, e82, e83, e84, e85, e86, e87, e88, e89, e90, e91, e92, e93, e94, e95, e96, e97, e98, e99, e100, e101, e102, e103, e104, e105, e106, e107, e108, e109, e110, e111, e112, e113, e114, e115, e116, e117, e118, e119, e120], defers := [] } V) :
  elem25n10.wp Try.prog Q { tmps := #[e0, e1, e2, e3, e4, e5, e6, e7, e8, e9, e10, e11, e12, e13, e14, e15, e16, e17, e18, e19, e20, e21, e22, e23, e24, e25, e26, e27, e28, e29, e30, e31, e32, e33, e34, e35, e36, e37, e38, e39, e40, e41, e42, e43, e44, e45, e46, e47, e48, e49, e50, e51, e52, e53, e54, e55, e56, e57, e58, e59, e60, e61, e62, e63, e64, e65, e66, e67, e68, e69, e70, e71, e72, e73, e74, e75, e76, e77, e78, e79, e80, e81, e82, e83, e84, e85, e86, e87, e88, e89, e90, e91, e92, e93, e94, e95, e96, e97, e98, e99, e100, e101, e102, e103, e104, e105, e106, e107, e108, e109, e110, e111, e112, e113, e114, e115, e116, e117, e118, e119, e120], defers := [] } W := by
 have HQ := Lib.hid hQ
 clear hQ
 have C := small57_any W
 have HC := Lib.hid C
 clear C
 conv => arg 2; whnf
 go_wp2_with (go_at_call 57; refine HC.out.mono ?_; rintro e V ⟨R, T, M, U, I0, I1, F, D, rfl, h1, h2, h3, h4⟩; obtain ⟨V2, xV, gV, bV, sV⟩ := mk_cells V #[sv [119], .int .i64 20, .int .i64 10, .int .i64 3, .int .i64 2, .int .i64 1, .slice (some ⟨R, 0, none⟩) 1 1, .slice (some ⟨T, 0, none⟩) 1 1, .slice none 0 0, .slice none 0 0, .slice (some ⟨F, 0, none⟩) 2 2, .slice (some ⟨D, 0, none⟩) 1 1] 30; have HH := Lib.hid (And.intro h1 (And.intro h2 (And.intro h3 h4))); have HG := Lib.hid (And.intro gV bV); have HXV := Lib.hid xV; clear h1 h2 h3 h4 gV bV sV xV)
 obtain ⟨h1, h2, h3, h4⟩ := HH.out
 obtain ⟨gV, bV⟩ := HG.out
 rw [HXV.out]
 have hl : ∀ {b : Nat} {o : Obj}, V.heap[b]? = some o → b < V.heap.size := fun h => (Array.getElem?_eq_some_iff.1 h).1
 refine HQ.out R T M U I0 I1 F D V.heap.size _ V2 ⟨keepO bV h1.hR, keepO bV h1.hT, keepO bV h1.hM, keepO bV h1.hU, keepO bV h1.hI0, keepO bV h1.hI1, keepO bV h1.hF, keepO bV h1.hD⟩ (fun b hb => ⟨h2 b hb, ?_⟩) h3 gV h4.size (thenB h4 bV)
 simp only [List.mem_cons, List.mem_nil_iff, or_false] at hb
 rcases hb with rfl | rfl | rfl | rfl | rfl | rfl | rfl | rfl
 ·exact hl h1.hR
 ·exact hl h1.hT
 ·exact hl h1.hM
 ·exact hl h1.hU
 ·exact hl h1.hI0
 ·exact hl h1.hI1
 ·exact hl h1.hF
 ·exact hl h1.hD
set_option maxRecDepth 100000 in
set_option maxHeartbeats 16000000 in
theorem sn_e2 (R T M U I0 I1 F D X : Nat) (W : World) (hX : Bx (sm18 R T M U I0 I1 F D) sm18N X W) (he : Env W) (Q : Exit → Act → World → Prop) (e0 e2 e3 e4 e5 e6 e7 e8 e9 e10 e11 e12 e13 e14 e15 e16 e17 e18 e19 e20 e21 e22 e23 e24 e25 e26 e27 e28 e29 e30 e31 e32 e33 e34 e35 e36 e37 e38 e39 e40 e41 e42 e43 e44 e45 e46 e47 e48 e49 e50 e51 e52 e53 e54 e55 e56 e57 e58 e59 e60 e61 e62 e63 e64 e65 e66 e67 e68 e69 e70 e71 e72 e73 e74 e75 e76 e77 e78 e79 e80 e81 e82 e83 e84 e85 e86 e87 e88 e89 e90 e91 e92 e93 e94 e95 e96 e97 e98 e99 e100 e101 e102 e103 e104 e105 e106 e107 e108 e109 e110 e111 e112 e113 e114 e115 e116 e117 e118 e119 e120 : Value)
  (hQ : ∀ (x16 x17 x18 x19 x20 : Value) (V : World), Below W.heap.size W V → Q .normal { tmps := #[e0, .pointer (some ⟨X, 0, none⟩), .int .i64 2, .int .i64 0, e4, e5, e6, e7, e8, e9, e10, e11, e12, e13, e14, e15, x16, x17, x18, x19, x20, e21, e22, e23, e24, e25, e26, e27, e28, e29, e30, e31, e32, e33, e34, e35, e36, e37, e38, e39, e40, e41, e42, e43, e44, e45, e46, e47, e48, e49, e50, e51, e52, e53, e54, e55, e56, e57, e58, e59, e60, e61, e62, e63, e64, e65, e66, e67, e68, e69, e70, e71, e72, e73, e74, e75, e76, e77, e78, e79, e80, e81, e82, e83, e84, e85, e86, e87, e88, e89, e90, e91, e92, e93, e94, e95, e96, e97, e98, e99, e100, e101, e102, e103, e104, e105, e106, e107, e108, e109, e110, e111, e112, e113, e114, e115, e116, e117, e118, e119, e120], defers := [] } V) :
  elem25n2.wp Try.prog Q { tmps := #[e0, .pointer (some ⟨X, 0, none⟩), e2, e3, e4, e5, e6, e7, e8, e9, e10, e11, e12, e13, e14, e15, e16, e17, e18, e19, e20, e21, e22, e23, e24, e25, e26, e27, e28, e29, e30, e31, e32, e33, e34, e35, e36, e37, e38, e39, e40, e41, e42, e43, e44, e45, e46, e47, e48, e49, e50, e51, e52, e53, e54, e55, e56, e57, e58, e59, e60, e61, e62, e63, e64, e65, e66, e67, e68, e69, e70, e71, e72, e73, e74, e75, e76, e77, e78, e79, e80, e81, e82, e83, e84, e85, e86, e87, e88, e89, e90, e91, e92, e93, e94, e95, e96, e97, e98, e99, e100, e101, e102, e103, e104, e105, e106, e107, e108, e109, e110, e111, e112, e113, e114, e115, e116, e117, e118, e119, e120], defers := [] } W := by
 have C := length_any (sm18 R T M U I0 I1 F D) sm18N (1) W hX.at_ hX.ns he
 unfold LgtP at C
 rw [sm18_len1] at C
 have HQ := Lib.hid hQ; have HC := Lib.hid C; have HX := Lib.hid hX.box
 clear hQ C hX he
 conv => arg 2; whnf
 have st0 : True := trivial
 go_wp2_with (first | (have q := st0; clear q st0; (refine wpList_load_row rfl 30 _ rfl X rfl 30 (sm18 R T M U I0 I1 F D).cells (0, 0) _ HX.out Try.underlying30 rfl (by kernel_rfl) ?_; simp only [Act.put, List.setIfInBounds_toArray, List.set_cons_zero, List.set_cons_succ])) | (go_at_call 30; refine HC.out.mono ?_; rintro e V ⟨rfl, hv⟩; have HV := Lib.hid hv; clear hv))
 exact HQ.out _ _ _ _ _ _ HV.out
set_option maxRecDepth 100000 in
set_option maxHeartbeats 16000000 in
theorem sn_e3 (R T M U I0 I1 F D X : Nat) (W : World) (hX : Bx (sm18 R T M U I0 I1 F D) sm18N X W) (he : Env W) (Q : Exit → Act → World → Prop) (e0 e2 e3 e4 e5 e6 e7 e8 e9 e10 e11 e12 e13 e14 e15 e16 e17 e18 e19 e20 e21 e22 e23 e24 e25 e26 e27 e28 e29 e30 e31 e32 e33 e34 e35 e36 e37 e38 e39 e40 e41 e42 e43 e44 e45 e46 e47 e48 e49 e50 e51 e52 e53 e54 e55 e56 e57 e58 e59 e60 e61 e62 e63 e64 e65 e66 e67 e68 e69 e70 e71 e72 e73 e74 e75 e76 e77 e78 e79 e80 e81 e82 e83 e84 e85 e86 e87 e88 e89 e90 e91 e92 e93 e94 e95 e96 e97 e98 e99 e100 e101 e102 e103 e104 e105 e106 e107 e108 e109 e110 e111 e112 e113 e114 e115 e116 e117 e118 e119 e120 : Value)
  (hQ : ∀ (x21 x22 x23 x24 x25 : Value) (V : World), Below W.heap.size W V → Q .normal { tmps := #[e0, .pointer (some ⟨X, 0, none⟩), e2, e3, .int .i64 0, .int .i64 1, e6, e7, e8, e9, e10, e11, e12, e13, e14, e15, e16, e17, e18, e19, e20, x21, x22, x23, x24, x25, e26, e27, e28, e29, e30, e31, e32, e33, e34, e35, e36, e37, e38, e39, e40, e41, e42, e43, e44, e45, e46, e47, e48, e49, e50, e51, e52, e53, e54, e55, e56, e57, e58, e59, e60, e61, e62, e63, e64, e65, e66, e67, e68, e69, e70, e71, e72, e73, e74, e75, e76, e77, e78, e79, e80, e81, e82, e83, e84, e85, e86, e87, e88, e89, e90, e91, e92, e93, e94, e95, e96, e97, e98, e99, e100, e101, e102, e103, e104, e105, e106, e107, e108, e109, e110, e111, e112, e113, e114, e115, e116, e117, e118, e119, e120], defers := [] } V) :
  elem25n3.wp Try.prog Q { tmps := #[e0, .pointer (some ⟨X, 0, none⟩), e2, e3, e4, e5, e6, e7, e8, e9, e10, e11, e12, e13, e14, e15, e16, e17, e18, e19, e20, e21, e22, e23, e24, e25, e26, e27, e28, e29, e30, e31, e32, e33, e34, e35, e36, e37, e38, e39, e40, e41, e42, e43, e44, e45, e46, e47, e48, e49, e50, e51, e52, e53, e54, e55, e56, e57, e58, e59, e60, e61, e62, e63, e64, e65, e66, e67, e68, e69, e70, e71, e72, e73, e74, e75, e76, e77, e78, e79, e80, e81, e82, e83, e84, e85, e86, e87, e88, e89, e90, e91, e92, e93, e94, e95, e96, e97, e98, e99, e100, e101, e102, e103, e104, e105, e106, e107, e108, e109, e110, e111, e112, e113, e114, e115, e116, e117, e118, e119, e120], defers := [] } W := by
 have C := length_any (sm18 R T M U I0 I1 F D) sm18N (-1) W hX.at_ hX.ns he
 unfold LgtP at C
 rw [sm18_lenm] at C
 have HQ := Lib.hid hQ; have HC := Lib.hid C; have HX := Lib.hid hX.box
 clear hQ C hX he
 conv => arg 2; whnf
 have st0 : True := trivial
 go_wp2_with (first | (have q := st0; clear q st0; (refine wpList_load_row rfl 30 _ rfl X rfl 30 (sm18 R T M U I0 I1 F D).cells (0, 0) _ HX.out Try.underlying30 rfl (by kernel_rfl) ?_; simp only [Act.put, List.setIfInBounds_toArray, List.set_cons_zero, List.set_cons_succ])) | (go_at_call 30; refine HC.out.mono ?_; rintro e V ⟨rfl, hv⟩; have HV := Lib.hid hv; clear hv))
 exact HQ.out _ _ _ _ _ _ HV.out
end Go.Proofs.Ytpnbpepkoekkoaa
end
section
namespace Go.Proofs.Ytpnbpepkoekkoaa
open Go Go.RowKit Go.Shelf
set_option maxRecDepth 100000 in
set_option maxHeartbeats 16000000 in
theorem sn_e4 (R T M U I0 I1 F D X : Nat) (W : World) (hX : Bx (sm18 R T M U I0 I1 F D) sm18N X W) (he : Env W) (Q : Exit → Act → World → Prop) (e0 e2 e3 e4 e5 e6 e7 e8 e9 e10 e11 e12 e13 e14 e15 e16 e17 e18 e19 e20 e21 e22 e23 e24 e25 e26 e27 e28 e29 e30 e31 e32 e33 e34 e35 e36 e37 e38 e39 e40 e41 e42 e43 e44 e45 e46 e47 e48 e49 e50 e51 e52 e53 e54 e55 e56 e57 e58 e59 e60 e61 e62 e63 e64 e65 e66 e67 e68 e69 e70 e71 e72 e73 e74 e75 e76 e77 e78 e79 e80 e81 e82 e83 e84 e85 e86 e87 e88 e89 e90 e91 e92 e93 e94 e95 e96 e97 e98 e99 e100 e101 e102 e103 e104 e105 e106 e107 e108 e109 e110 e111 e112 e113 e114 e115 e116 e117 e118 e119 e120 : Value)
  (hQ : ∀ (x26 x27 x28 x29 x30 x31 : Value) (V : World), Below W.heap.size W V → Q .normal { tmps := #[e0, .pointer (some ⟨X, 0, none⟩), e2, e3, e4, e5, .slice none 0 0, .bool false, .int .i64 0, e9, e10, e11, e12, e13, e14, e15, e16, e17, e18, e19, e20, e21, e22, e23, e24, e25, x26, x27, x28, x29, x30, x31, e32, e33, e34, e35, e36, e37, e38, e39, e40, e41, e42, e43, e44, e45, e46, e47, e48, e49, e50, e51, e52, e53, e54, e55, e56, e57, e58, e59, e60, e61, e62, e63, e64, e65, e66, e67, e68, e69, e70, e71, e72, e73, e74, e75, e76, e77, e78, e79, e80, e81, e82, e83, e84, e85, e86, e87, e88, e89, e90, e91, e92, e93, e94, e95, e96, e97, e98, e99, e100, e101, e102, e103, e104, e105, e106, e107, e108, e109, e110, e111, e112, e113, e114, e115, e116, e117, e118, e119, e120], defers := [] } V) :
  elem25n4.wp Try.prog Q { tmps := #[e0, .pointer (some ⟨X, 0, none⟩), e2, e3, e4, e5, e6, e7, e8, e9, e10, e11, e12, e13, e14, e15, e16, e17, e18, e19, e20, e21, e22, e23, e24, e25, e26, e27, e28, e29, e30, e31, e32, e33, e34, e35, e36, e37, e38, e39, e40, e41, e42, e43, e44, e45, e46, e47, e48, e49, e50, e51, e52, e53, e54, e55, e56, e57, e58, e59, e60, e61, e62, e63, e64, e65, e66, e67, e68, e69, e70, e71, e72, e73, e74, e75, e76, e77, e78, e79, e80, e81, e82, e83, e84, e85, e86, e87, e88, e89, e90, e91, e92, e93, e94, e95, e96, e97, e98, e99, e100, e101, e102, e103, e104, e105, e106, e107, e108, e109, e110, e111, e112, e113, e114, e115, e116, e117, e118, e119, e120], defers := [] } W := by
 have C := loop_any (sm18 R T M U I0 I1 F D) sm18N W hX.at_ hX.ns he
 unfold LopP at C
 rw [sm18_loop, sm18_chk] at C
 have HQ := Lib.hid hQ; have HC := Lib.hid C; have HX := Lib.hid hX.box
 clear hQ C hX he
 conv => arg 2; whnf
 have st0 : True := trivial
 go_wp2_with (first | (have q := st0; clear q st0; (refine wpList_load_row rfl 30 _ rfl X rfl 30 (sm18 R T M U I0 I1 F D).cells (0, 0) _ HX.out Try.underlying30 rfl (by kernel_rfl) ?_; simp only [Act.put, List.setIfInBounds_toArray, List.set_cons_zero, List.set_cons_succ])) | (go_at_call 27; refine HC.out.mono ?_; rintro e V ⟨v, rfl, hr, hv⟩; rcases hr with ⟨_, rfl⟩ | ⟨g, cap, rfl, hne, _⟩; rotate_left; exact absurd rfl hne; have HV := Lib.hid hv; clear hv))
 exact HQ.out _ _ _ _ _ _ _ HV.out
set_option maxRecDepth 100000 in
set_option maxHeartbeats 16000000 in
theorem sn_e7 (R T F D X0 X1 X : Nat) (W : World) (hX : Bx (ex18 2 1 R T F D (rgP X0) (rgQ X1) 1) rg18N X W) (he : Env W) (Q : Exit → Act → World → Prop) (e0 e1 e2 e3 e4 e5 e6 e7 e8 e10 e11 e12 e13 e14 e15 e16 e17 e18 e19 e20 e21 e22 e23 e24 e25 e26 e27 e28 e29 e30 e31 e32 e33 e34 e35 e36 e37 e38 e39 e40 e41 e42 e43 e44 e45 e46 e47 e48 e49 e50 e51 e52 e53 e54 e55 e56 e57 e58 e59 e60 e61 e62 e63 e64 e65 e66 e67 e68 e69 e70 e71 e72 e73 e74 e75 e76 e77 e78 e79 e80 e81 e82 e83 e84 e85 e86 e87 e88 e89 e90 e91 e92 e93 e94 e95 e96 e97 e98 e99 e100 e101 e102 e103 e104 e105 e106 e107 e108 e109 e110 e111 e112 e113 e114 e115 e116 e117 e118 e119 e120 : Value)
  (hQ : ∀ (v : Value) (x46 x47 x48 x49 x50 x51 : Value) (V : World), IntRow V v [0, 1] → Below W.heap.size W V → Q .normal { tmps := #[e0, e1, e2, e3, e4, e5, e6, e7, e8, .pointer (some ⟨X, 0, none⟩), v, .bool true, .int .i64 0, e13, e14, e15, e16, e17, e18, e19, e20, e21, e22, e23, e24, e25, e26, e27, e28, e29, e30, e31, e32, e33, e34, e35, e36, e37, e38, e39, e40, e41, e42, e43, e44, e45, x46, x47, x48, x49, x50, x51, e52, e53, e54, e55, e56, e57, e58, e59, e60, e61, e62, e63, e64, e65, e66, e67, e68, e69, e70, e71, e72, e73, e74, e75, e76, e77, e78, e79, e80, e81, e82, e83, e84, e85, e86, e87, e88, e89, e90, e91, e92, e93, e94, e95, e96, e97, e98, e99, e100, e101, e102, e103, e104, e105, e106, e107, e108, e109, e110, e111, e112, e113, e114, e115, e116, e117, e118, e119, e120], defers := [] } V) :
  elem25n7.wp Try.prog Q { tmps := #[e0, e1, e2, e3, e4, e5, e6, e7, e8, .pointer (some ⟨X, 0, none⟩), e10, e11, e12, e13, e14, e15, e16, e17, e18, e19, e20, e21, e22, e23, e24, e25, e26, e27, e28, e29, e30, e31, e32, e33, e34, e35, e36, e37, e38, e39, e40, e41, e42, e43, e44, e45, e46, e47, e48, e49, e50, e51, e52, e53, e54, e55, e56, e57, e58, e59, e60, e61, e62, e63, e64, e65, e66, e67, e68, e69, e70, e71, e72, e73, e74, e75, e76, e77, e78, e79, e80, e81, e82, e83, e84, e85, e86, e87, e88, e89, e90, e91, e92, e93, e94, e95, e96, e97, e98, e99, e100, e101, e102, e103, e104, e105, e106, e107, e108, e109, e110, e111, e112, e113, e114, e115, e116, e117, e118, e119, e120], defers := [] } W := by
 have C := loop_any (ex18 2 1 R T F D (rgP X0) (rgQ X1) 1) rg18N W hX.at_ hX.ns he
 unfold LopP at C
 rw [rg18_loop, rg18_chk] at C
 have HQ := Lib.hid hQ; have HC := Lib.hid C; have HX := Lib.hid hX.box
 clear hQ C hX he
 conv => arg 2; whnf
 have st0 : True := trivial
 go_wp2_with (first | (have q := st0; clear q st0; (refine wpList_load_row rfl 30 _ rfl X rfl 30 (ex18 2 1 R T F D (rgP X0) (rgQ X1) 1).cells (0, 0) _ HX.out Try.underlying30 rfl (by kernel_rfl) ?_; simp only [Act.put, List.setIfInBounds_toArray, List.set_cons_zero, List.set_cons_succ])) | (go_at_call 27; refine HC.out.mono ?_; rintro e V ⟨v, rfl, hr, hv⟩; have HV := Lib.hid (And.intro hr hv); clear hv hr))
 exact HQ.out _ _ _ _ _ _ _ _ HV.out.1 HV.out.2
set_option maxRecDepth 100000 in
set_option maxHeartbeats 16000000 in
theorem sn_e9 (R T F D X : Nat) (p0 p1 : Ph) (t0 t1 bar : Int) (W : World) (hX : W.heap[X]? = some (.cells (ex18 t0 t1 R T F D p0 p1 bar).cells 30 (0, 0))) (Q : Exit → Act → World → Prop) (e0 e1 e2 e3 e4 e5 e6 e7 e8 e9 e10 e11 e12 e14 e15 e16 e17 e18 e19 e20 e21 e22 e23 e24 e25 e26 e27 e28 e29 e30 e31 e32 e33 e34 e35 e36 e37 e38 e39 e40 e41 e42 e43 e44 e45 e46 e47 e48 e49 e50 e51 e52 e53 e54 e55 e56 e57 e58 e59 e60 e61 e62 e63 e64 e65 e66 e67 e68 e69 e70 e71 e72 e73 e74 e75 e76 e77 e78 e79 e80 e81 e82 e83 e84 e85 e86 e87 e88 e89 e90 e91 e92 e93 e94 e95 e96 e97 e98 e99 e100 e101 e102 e103 e104 e105 e106 e107 e108 e109 e110 e111 e112 e113 e114 e115 e116 e117 e118 e119 e120 : Value)
  (hQ : ∀ (x53 x54 : Value) (V : World), V.heap[X]? = some (.cells (ex18 0 0 R T F D p0 p1 bar).cells 30 (0, 0)) → (∀ b, b ≠ X → V.heap[b]? = W.heap[b]?) → (∀ n, n ≤ X → Below n W V) → Q .normal { tmps := #[e0, e1, e2, e3, e4, e5, e6, e7, e8, e9, e10, e11, e12, .pointer (some ⟨X, 0, none⟩), e14, e15, e16, e17, e18, e19, e20, e21, e22, e23, e24, e25, e26, e27, e28, e29, e30, e31, e32, e33, e34, e35, e36, e37, e38, e39, e40, e41, e42, e43, e44, e45, e46, e47, e48, e49, e50, e51, e52, x53, x54, e55, e56, e57, e58, e59, e60, e61, e62, e63, e64, e65, e66, e67, e68, e69, e70, e71, e72, e73, e74, e75, e76, e77, e78, e79, e80, e81, e82, e83, e84, e85, e86, e87, e88, e89, e90, e91, e92, e93, e94, e95, e96, e97, e98, e99, e100, e101, e102, e103, e104, e105, e106, e107, e108, e109, e110, e111, e112, e113, e114, e115, e116, e117, e118, e119, e120], defers := [] } V) :
  elem25n9.wp Try.prog Q { tmps := #[e0, e1, e2, e3, e4, e5, e6, e7, e8, e9, e10, e11, e12, .pointer (some ⟨X, 0, none⟩), e14, e15, e16, e17, e18, e19, e20, e21, e22, e23, e24, e25, e26, e27, e28, e29, e30, e31, e32, e33, e34, e35, e36, e37, e38, e39, e40, e41, e42, e43, e44, e45, e46, e47, e48, e49, e50, e51, e52, e53, e54, e55, e56, e57, e58, e59, e60, e61, e62, e63, e64, e65, e66, e67, e68, e69, e70, e71, e72, e73, e74, e75, e76, e77, e78, e79, e80, e81, e82, e83, e84, e85, e86, e87, e88, e89, e90, e91, e92, e93, e94, e95, e96, e97, e98, e99, e100, e101, e102, e103, e104, e105, e106, e107, e108, e109, e110, e111, e112, e113, e114, e115, e116, e117, e118, e119, e120], defers := [] } W := by
 have y4 : W.cell? ⟨X, 4, none⟩ = some (.int .i64 t0) := cell_at hX 4 rfl
 have y5 : W.cell? ⟨X, 5, none⟩ = some (.int .i64 t1) := cell_at hX 5 rfl
 have fz : ∀ q, W.frozen? ⟨X, q, none⟩ = false := fun q => (show FreeB W X from ⟨_, _, hX⟩).free q
 have hq := hQ
 have g1 := setCell_obj (i := 4) (.int .i64 0) hX
 have g2 := setCell_obj (i := 5) (.int .i64 0) g1
 have HE : Hid (∃ V, (W.setCell ⟨X, 4, none⟩ (.int .i64 0)).setCell ⟨X, 5, none⟩ (.int .i64 0) = V ∧ V.heap[X]? = some (.cells (ex18 0 0 R T F D p0 p1 bar).cells 30 (0, 0)) ∧ (∀ b, b ≠ X → V.heap[b]? = W.heap[b]?) ∧ (∀ n, n ≤ X → Below n W V)) := Lib.hid ⟨_, rfl, g2, fun b hb => by rw [setCell_far _ hb, setCell_far _ hb], fun n hn => ((Below.refl n W).setCell (p := ⟨X, 4, none⟩) hn _).setCell (p := ⟨X, 5, none⟩) hn _⟩
 have HQ := Lib.hid hQ
 obtain ⟨V, hV, h1, h2, h3⟩ := HE.out
 have HV := Lib.hid (And.intro h1 (And.intro h2 h3))
 clear hQ hq hX g1 g2 HE h1 h2 h3
 conv => arg 2; whnf
 go_wp2_with fail
 exact HQ.out _ _ _ HV.out.1 HV.out.2.1 HV.out.2.2
set_option maxRecDepth 100000 in
set_option maxHeartbeats 16000000 in
theorem sn_e11 (R T F D X : Nat) (p0 p1 : Ph) (t0 t1 bar : Int) (W : World) (hX : W.heap[X]? = some (.cells (ex18 t0 t1 R T F D p0 p1 bar).cells 30 (0, 0))) (hD : W.heap[D]? = some (.cells #[sv [97], .int .i64 0, sv [113], .int .i64 1, .int .i64 1, .bool false] 73 (0, 0))) (Q : Exit → Act → World → Prop) (e0 e1 e2 e3 e4 e5 e6 e7 e8 e9 e10 e11 e12 e13 e15 e16 e17 e18 e19 e20 e21 e22 e23 e24 e25 e26 e27 e28 e29 e30 e31 e32 e33 e34 e35 e36 e37 e38 e39 e40 e41 e42 e43 e44 e45 e46 e47 e48 e49 e50 e51 e52 e53 e54 e55 e56 e57 e58 e59 e60 e61 e62 e63 e64 e65 e66 e67 e68 e69 e70 e71 e72 e73 e74 e75 e76 e77 e78 e79 e80 e81 e82 e83 e84 e85 e86 e87 e88 e89 e90 e91 e92 e93 e94 e95 e96 e97 e98 e99 e100 e101 e102 e103 e104 e105 e106 e107 e108 e109 e110 e111 e112 e113 e114 e115 e116 e117 e118 e119 e120 : Value)
  (hQ : ∀ (x56 x57 x58 x59 : Value) (V : World), V.heap[D]? = some (.cells #[sv [97], .int .i64 0, sv [113], .int .i64 1, .int .i64 2, .bool false] 73 (0, 0)) → (∀ b, b ≠ D → V.heap[b]? = W.heap[b]?) → (∀ n, n ≤ D → Below n W V) → Q .normal { tmps := #[e0, e1, e2, e3, e4, e5, e6, e7, e8, e9, e10, e11, e12, e13, .pointer (some ⟨X, 0, none⟩), e15, e16, e17, e18, e19, e20, e21, e22, e23, e24, e25, e26, e27, e28, e29, e30, e31, e32, e33, e34, e35, e36, e37, e38, e39, e40, e41, e42, e43, e44, e45, e46, e47, e48, e49, e50, e51, e52, e53, e54, e55, x56, x57, x58, x59, e60, e61, e62, e63, e64, e65, e66, e67, e68, e69, e70, e71, e72, e73, e74, e75, e76, e77, e78, e79, e80, e81, e82, e83, e84, e85, e86, e87, e88, e89, e90, e91, e92, e93, e94, e95, e96, e97, e98, e99, e100, e101, e102, e103, e104, e105, e106, e107, e108, e109, e110, e111, e112, e113, e114, e115, e116, e117, e118, e119, e120], defers := [] } V) :
  elem25n11.wp Try.prog Q { tmps := #[e0, e1, e2, e3, e4, e5, e6, e7, e8, e9, e10, e11, e12, e13, .pointer (some ⟨X, 0, none⟩), e15, e16, e17, e18, e19, e20, e21, e22, e23, e24, e25, e26, e27, e28, e29, e30, e31, e32, e33, e34, e35, e36, e37, e38, e39, e40, e41, e42, e43, e44, e45, e46, e47, e48, e49, e50, e51, e52, e53, e54, e55, e56, e57, e58, e59, e60, e61, e62, e63, e64, e65, e66, e67, e68, e69, e70, e71, e72, e73, e74, e75, e76, e77, e78, e79, e80, e81, e82, e83, e84, e85, e86, e87, e88, e89, e90, e91, e92, e93, e94, e95, e96, e97, e98, e99, e100, e101, e102, e103, e104, e105, e106, e107, e108, e109, e110, e111, e112, e113, e114, e115, e116, e117, e118, e119, e120], defers := [] } W := by
 have y11 : W.cell? ⟨X, 11, none⟩ = some (.slice (some ⟨D, 0, none⟩) 1 1) := cell_at hX 11 rfl
 have z4 : W.cell? ⟨D, 4, none⟩ = some (.int .i64 1) := cell_at hD 4 rfl
 have fz : W.frozen? ⟨D, 4, none⟩ = false := (show FreeB W D from ⟨_, _, hD⟩).free 4
 have HE : Hid (∃ V, W.setCell ⟨D, 4, none⟩ (.int .i64 2) = V ∧ V.heap[D]? = some (.cells #[sv [97], .int .i64 0, sv [113], .int .i64 1, .int .i64 2, .bool false] 73 (0, 0)) ∧ (∀ b, b ≠ D → V.heap[b]? = W.heap[b]?) ∧ (∀ n, n ≤ D → Below n W V)) := Lib.hid ⟨_, rfl, setCell_obj (i := 4) (.int .i64 2) hD, fun b hb => setCell_far _ hb, fun n hn => (Below.refl n W).setCell (p := ⟨D, 4, none⟩) hn _⟩
 have HQ := Lib.hid hQ
 obtain ⟨V, hV, h1, h2, h3⟩ := HE.out
 have HV := Lib.hid (And.intro h1 (And.intro h2 h3))
 clear hQ hX hD HE h1 h2 h3
 conv => arg 2; whnf
 go_wp2_with fail
 exact HQ.out _ _ _ _ _ HV.out.1 HV.out.2.1 HV.out.2.2
end Go.Proofs.Ytpnbpepkoekkoaa
end
section
namespace Go.Proofs.Ytpnbpepkoekkoaa
open Go Go.RowKit Go.Shelf
set_option maxRecDepth 100000 in
set_option maxHeartbeats 16000000 in
theorem sn_e12 (v : Value) (W : World) (hv : IntRow W v [0, 1]) (Q : Exit → Act → World → Prop) (e0 e1 e4 e6 e9 e13 e14 e15 e16 e17 e18 e19 e20 e21 e22 e23 e24 e25 e26 e27 e28 e29 e30 e31 e32 e33 e34 e35 e36 e37 e38 e39 e40 e41 e42 e43 e44 e45 e46 e47 e48 e49 e50 e51 e52 e53 e54 e55 e56 e57 e58 e59 e60 e61 e62 e63 e64 e65 e66 e67 e68 e69 e70 e71 e72 e73 e74 e75 e76 e77 e78 e79 e80 e81 e82 e83 e84 e85 e86 e87 e88 e89 e90 e91 e92 e93 e94 e95 e96 e97 e98 e99 e100 e101 e102 e103 e104 e105 e106 e107 e108 e109 e110 e111 e112 e113 e114 e115 e116 e117 e118 e119 e120 : Value)
  (hQ : ∀ (x60 x61 x62 x63 x64 x65 x66 x67 x68 x69 x70 x71 x72 x73 x74 x75 x76 x77 x78 x79 x80 x81 x82 x83 x84 x85 x86 x87 x88 x89 x90 : Value) (V : World), Below W.heap.size W V → Q .normal { tmps := #[e0, e1, .int .i64 2, .int .i64 0, e4, .int .i64 1, e6, .bool false, .int .i64 0, e9, v, .bool true, .int .i64 0, e13, e14, e15, e16, e17, e18, e19, e20, e21, e22, e23, e24, e25, e26, e27, e28, e29, e30, e31, e32, e33, e34, e35, e36, e37, e38, e39, e40, e41, e42, e43, e44, e45, e46, e47, e48, e49, e50, e51, e52, e53, e54, e55, e56, e57, e58, e59, x60, x61, x62, x63, x64, x65, x66, x67, x68, x69, x70, x71, x72, x73, x74, x75, x76, x77, x78, x79, x80, x81, x82, x83, x84, x85, x86, x87, x88, x89, x90, e91, e92, e93, e94, e95, e96, e97, e98, e99, e100, e101, e102, e103, e104, e105, e106, e107, e108, e109, e110, e111, e112, e113, e114, e115, e116, e117, e118, e119, e120], defers := [] } V) :
  elem25n12.wp Try.prog Q { tmps := #[e0, e1, .int .i64 2, .int .i64 0, e4, .int .i64 1, e6, .bool false, .int .i64 0, e9, v, .bool true, .int .i64 0, e13, e14, e15, e16, e17, e18, e19, e20, e21, e22, e23, e24, e25, e26, e27, e28, e29, e30, e31, e32, e33, e34, e35, e36, e37, e38, e39, e40, e41, e42, e43, e44, e45, e46, e47, e48, e49, e50, e51, e52, e53, e54, e55, e56, e57, e58, e59, e60, e61, e62, e63, e64, e65, e66, e67, e68, e69, e70, e71, e72, e73, e74, e75, e76, e77, e78, e79, e80, e81, e82, e83, e84, e85, e86, e87, e88, e89, e90, e91, e92, e93, e94, e95, e96, e97, e98, e99, e100, e101, e102, e103, e104, e105, e106, e107, e108, e109, e110, e111, e112, e113, e114, e115, e116, e117, e118, e119, e120], defers := [] } W := by
 obtain ⟨V1, xV, gV, bV, sV⟩ := mk_cells W #[.int .i64 0, .int .i64 1] 3
 have hl : IntRow V1 (.slice (some ⟨W.heap.size, 0, none⟩) 2 2) [0, 1] := Or.inr ⟨W.heap.size, 2, rfl, by simp, by simp, by decide, fun j x hj => by
  match j, hj with
  | 0, hj => cases hj; exact cell_at gV 0 rfl
  | 1, hj => cases hj; exact cell_at gV 1 rfl⟩
 have C := same59_any v _ [0, 1] [0, 1] V1 (hv.below bV) hl
 have HQ := Lib.hid hQ; have HC := Lib.hid C; have HB := Lib.hid bV
 clear hQ C hl hv gV bV sV
 conv => arg 2; whnf
 go_wp2_with (go_at_call 59; refine HC.out.mono ?_; rintro e V ⟨rfl, hb⟩; have HV := Lib.hid (thenB HB.out hb); clear hb)
 exact HQ.out _ _ _ _ _ _ _ _ _ _ _ _ _ _ _ _ _ _ _ _ _ _ _ _ _ _ _ _ _ _ _ _ HV.out
def zeroL : Ls := ⟨[], 0, 0, 0, 0, 0, none, 0, [], none, 0, [], none, 0, [], none, 0, [], none, 0, [], none, 0, []⟩
theorem zeroL_at (W : World) : zeroL.At W := ⟨IsRow.nil, IsRow.nil, IsRow.nil, IsRow.nil, Or.inl rfl, Nat.zero_le _, trivial, Or.inl rfl, Nat.zero_le _, trivial⟩
theorem zeroL_sound : soundE zeroL [] = 170 := by kernel_rfl
theorem zeroL_chk : chkE zeroL.strip [] = 170 := by kernel_rfl
set_option maxRecDepth 100000 in
set_option maxHeartbeats 16000000 in
theorem sn_e13 (x1 x2 x3 x4 : Ls) (n1 n2 n3 n4 : List Int) (X1 X2 X3 X4 : Nat) (w W : World) (hE : ∀ V, Below w.heap.size w V → Env V) (hb : Below w.heap.size w W) (b1 : Bx x1 n1 X1 W) (b2 : Bx x2 n2 X2 W) (b3 : Bx x3 n3 X3 W) (b4 : Bx x4 n4 X4 W) (s1 : soundE x1 n1 = 0) (s2 : soundE x2 n2 = 180) (s3 : soundE x3 n3 = 180) (s4 : soundE x4 n4 = 180) (e0 e2 e3 e4 e5 e6 e7 e8 e10 e11 e12 e15 e16 e17 e18 e19 e20 e21 e22 e23 e24 e25 e26 e27 e28 e29 e30 e31 e32 e33 e34 e35 e36 e37 e38 e39 e40 e41 e42 e43 e44 e45 e46 e47 e48 e49 e50 e51 e52 e53 e54 e55 e56 e57 e58 e59 e60 e61 e62 e63 e64 e65 e66 e67 e68 e69 e70 e71 e72 e73 e74 e75 e76 e77 e78 e79 e80 e81 e82 e83 e84 e85 e86 e87 e88 e89 e90 e91 e92 e93 e94 e95 e96 e97 e98 e99 e100 e101 e102 e103 e104 e105 e106 e107 e108 e109 e110 e111 e112 e113 e114 e115 e116 e117 e118 e119 e120 : Value) :
  (lastPart 13 code25).wp Try.prog (bodyPost Try.prog Try.f25 (fun e w' => e = .returned (.bool true) ∧ Below w.heap.size w w')) { tmps := #[e0, .pointer (some ⟨X1, 0, none⟩), e2, e3, e4, e5, e6, e7, e8, .pointer (some ⟨X2, 0, none⟩), e10, e11, e12, .pointer (some ⟨X3, 0, none⟩), .pointer (some ⟨X4, 0, none⟩), e15, e16, e17, e18, e19, e20, e21, e22, e23, e24, e25, e26, e27, e28, e29, e30, e31, e32, e33, e34, e35, e36, e37, e38, e39, e40, e41, e42, e43, e44, e45, e46, e47, e48, e49, e50, e51, e52, e53, e54, e55, e56, e57, e58, e59, e60, e61, e62, e63, e64, e65, e66, e67, e68, e69, e70, e71, e72, e73, e74, e75, e76, e77, e78, e79, e80, e81, e82, e83, e84, e85, e86, e87, e88, e89, e90, e91, e92, e93, e94, e95, e96, e97, e98, e99, e100, e101, e102, e103, e104, e105, e106, e107, e108, e109, e110, e111, e112, e113, e114, e115, e116, e117, e118, e119, e120], defers := [] } W := by
 have HE := Lib.hid hE; have HBL := Lib.hid hb; have HB1 := Lib.hid b1; have HB2 := Lib.hid b2; have HB3 := Lib.hid b3; have HB4 := Lib.hid b4; have HS1 := Lib.hid s1; have HS2 := Lib.hid s2; have HS3 := Lib.hid s3; have HS4 := Lib.hid s4
 clear hE hb b1 b2 b3 b4 s1 s2 s3 s4
 conv => arg 2; whnf
 have st0 : True := trivial
 go_wp2_with (first
  | (have q := st0; clear q; (refine wpList_load_row rfl 30 _ rfl X1 rfl 30 x1.cells (0, 0) _ HB1.out.box Try.underlying30 rfl (by kernel_rfl) ?_; simp only [Act.put, List.setIfInBounds_toArray, List.set_cons_zero, List.set_cons_succ]); clear st0; have st1 : True := trivial)
  | (have q := st1; clear q; go_at_call 29; refine (sound_any x1 n1 _ HB1.out.at_ HB1.out.ns (HE.out _ HBL.out)).mono ?_; unfold SndP; rw [HS1.out]; rintro e U1 ⟨rfl, hv⟩; have C2 := Lib.hid (HB2.out.next hv); clear HB2; have HB2 := C2; clear C2; have C3 := Lib.hid (HB3.out.next hv); clear HB3; have HB3 := C3; clear C3; have C4 := Lib.hid (HB4.out.next hv); clear HB4; have HB4 := C4; clear C4; have CBL := Lib.hid (thenB HBL.out hv); clear HBL; have HBL := CBL; clear CBL hv; clear st1; have st2 : True := trivial)
  | (have q := st2; clear q; (refine wpList_load_row_at (by kernel_rfl) 30 _ rfl X2 rfl 30 x2.cells (0, 0) _ HB2.out.box Try.underlying30 rfl (by kernel_rfl) ?_; simp only [Act.put, List.setIfInBounds_toArray, List.set_cons_zero, List.set_cons_succ]); clear st2; have st3 : True := trivial)
  | (have q := st3; clear q; go_at_call 29; refine (sound_any x2 n2 _ HB2.out.at_ HB2.out.ns (HE.out _ HBL.out)).mono ?_; unfold SndP; rw [HS2.out]; rintro e U2 ⟨rfl, hv⟩; have C3 := Lib.hid (HB3.out.next hv); clear HB3; have HB3 := C3; clear C3; have C4 := Lib.hid (HB4.out.next hv); clear HB4; have HB4 := C4; clear C4; have CBL := Lib.hid (thenB HBL.out hv); clear HBL; have HBL := CBL; clear CBL hv; clear st3; have st4 : True := trivial)
  | (have q := st4; clear q; (refine wpList_load_row_at (by kernel_rfl) 30 _ rfl X3 rfl 30 x3.cells (0, 0) _ HB3.out.box Try.underlying30 rfl (by kernel_rfl) ?_; simp only [Act.put, List.setIfInBounds_toArray, List.set_cons_zero, List.set_cons_succ]); clear st4; have st5 : True := trivial)
  | (have q := st5; clear q; go_at_call 29; refine (sound_any x3 n3 _ HB3.out.at_ HB3.out.ns (HE.out _ HBL.out)).mono ?_; unfold SndP; rw [HS3.out]; rintro e U3 ⟨rfl, hv⟩; have C4 := Lib.hid (HB4.out.next hv); clear HB4; have HB4 := C4; clear C4; have CBL := Lib.hid (thenB HBL.out hv); clear HBL; have HBL := CBL; clear CBL hv; clear st5; have st6 : True := trivial)
  | (have q := st6; clear q; (refine wpList_load_row_at (by kernel_rfl) 30 _ rfl X4 rfl 30 x4.cells (0, 0) _ HB4.out.box Try.underlying30 rfl (by kernel_rfl) ?_; simp only [Act.put, List.setIfInBounds_toArray, List.set_cons_zero, List.set_cons_succ]); clear st6; have st7 : True := trivial)
  | (have q := st7; clear q; go_at_call 29; refine (sound_any x4 n4 _ HB4.out.at_ HB4.out.ns (HE.out _ HBL.out)).mono ?_; unfold SndP; rw [HS4.out]; rintro e U4 ⟨rfl, hv⟩; have CBL := Lib.hid (thenB HBL.out hv); clear HBL; have HBL := CBL; clear CBL hv; clear st7; have st8 : True := trivial)
  | (have q := st8; clear q; go_at_call 29; refine (sound_any zeroL [] _ (zeroL_at _) trivial (HE.out _ HBL.out)).mono ?_; unfold SndP; rw [zeroL_sound]; rintro e U5 ⟨rfl, hv⟩; have CBL := Lib.hid (thenB HBL.out hv); clear HBL; have HBL := CBL; clear CBL hv; clear st8; have st9 : True := trivial)
  | (have q := st9; clear q; go_at_call 16; refine (chk_any zeroL [] _ (zeroL_at _) trivial (HE.out _ HBL.out)).mono ?_; unfold ChkP; rw [zeroL_chk]; rintro e U6 ⟨rfl, hv⟩; have CBL := Lib.hid (thenB HBL.out hv); clear HBL; have HBL := CBL; clear CBL hv; clear st9; have st10 : True := trivial)
  | (have q := st10; clear q; go_at_call 16; refine (chk_any zeroL [] _ (zeroL_at _) trivial (HE.out _ HBL.out)).mono ?_; unfold ChkP; rw [zeroL_chk]; rintro e U7 ⟨rfl, hv⟩; have CBL := Lib.hid (thenB HBL.out hv); clear HBL; have HBL := CBL; clear CBL hv; clear st10; have st11 : True := trivial))
 go_ret
 exact ⟨rfl, HBL.out⟩
end Go.Proofs.Ytpnbpepkoekkoaa
end
