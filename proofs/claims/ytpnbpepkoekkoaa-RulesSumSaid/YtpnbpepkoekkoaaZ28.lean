/- Contracts and plain laws on the way to the statement: part 28. -/
import Derived.Test.YtpnbpepkoekkoaaZ27
import Derived.Test.YtpnbpepkoekkoaaZ10
import Derived.Test.YtpnbpepkoekkoaaZ16
set_option linter.unusedVariables false
set_option linter.unusedSimpArgs false
section
namespace Go.Proofs.Ytpnbpepkoekkoaa
open Go Go.RowKit Go.Shelf
noncomputable def elem15n5 : Code := match lastPart 5 code15 with
 | .seq a _ => a
 | c => c
noncomputable def elem15n6 : Code := match lastPart 6 code15 with
 | .seq a _ => a
 | c => c
set_option maxRecDepth 100000 in
set_option maxHeartbeats 8000000 in
theorem res_e5 (s : Ls) (lR lP B1 X E TB MT mR mP : Nat) (kR kP : List (Nm × Value)) (hlR : kR.length = lR) (hlP : kP.length = lP) (ds : List Deferred) (W : World) (hB : W.heap[B1]? = some (.cells s.cells 30 (0, 0))) (hT : W.heap[TB]? = some (.cells #[.map (some MT)] 98 (0, 0))) (hM : ∃ kvs : List (Int × Value), MapAt kI W MT kvs ∧ kvGet kvs 1 = some (.map (some mR)) ∧ kvGet kvs 2 = some (.map (some mP))) (hR : MapAt sv W mR kR) (hP : MapAt sv W mP kP) (K : Act → World → Prop) (Q : Exit → Act → World → Prop)
  (hK : lR = s.roles.length → lP = s.phrases.length → ∀ (f0 f5 f6 f7 f8 f9 f10 f11 f12 f13 f14 f15 f16 f17 f18 f19 f20 f21 f22 f23 f24 f25 f26 f27 f28 f29 f30 f31 f32 f33 f34 f35 f36 f37 f38 f39 f40 f41 f42 f43 f44 f45 f46 f47 f48 f49 f50 f51 f52 f53 f54 f55 f56 f57 f58 f59 f60 f61 f62 f63 f64 f65 f66 f67 f68 f69 f70 f71 f72 f73 f74 f75 f76 f77 f78 f79 f80 f81 f82 f83 f84 f85 f86 f87 f88 f89 f90 f91 f92 f93 f94 f95 f96 f97 f98 : Value), K { tmps := #[f0, .pointer (some ⟨B1, 0, none⟩), .pointer (some ⟨X, 0, none⟩), .pointer (some ⟨E, 0, none⟩), .pointer (some ⟨TB, 0, none⟩), f5, f6, f7, f8, f9, f10, f11, f12, f13, f14, f15, f16, f17, f18, f19, f20, f21, f22, f23, f24, f25, f26, f27, f28, f29, f30, f31, f32, f33, f34, f35, f36, f37, f38, f39, f40, f41, f42, f43, f44, f45, f46, f47, f48, f49, f50, f51, f52, f53, f54, f55, f56, f57, f58, f59, f60, f61, f62, f63, f64, f65, f66, f67, f68, f69, f70, f71, f72, f73, f74, f75, f76, f77, f78, f79, f80, f81, f82, f83, f84, f85, f86, f87, f88, f89, f90, f91, f92, f93, f94, f95, f96, f97, f98], defers := ds } W)
  (hbad : ¬ (lR = s.roles.length ∧ lP = s.phrases.length) → ∀ (f0 f5 f6 f7 f8 f9 f10 f11 f12 f13 f14 f15 f16 f17 f18 f19 f20 f21 f22 f23 f24 f25 f26 f27 f28 f29 f30 f31 f32 f33 f34 f35 f36 f37 f38 f39 f40 f41 f42 f43 f44 f45 f46 f47 f48 f49 f50 f51 f52 f53 f54 f55 f56 f57 f58 f59 f60 f61 f62 f63 f64 f65 f66 f67 f68 f69 f70 f71 f72 f73 f74 f75 f76 f77 f78 f79 f80 f81 f82 f83 f84 f85 f86 f87 f88 f89 f90 f91 f92 f93 f94 f95 f96 f97 f98 : Value), Q (.panic (errChain 171)) { tmps := #[f0, .pointer (some ⟨B1, 0, none⟩), .pointer (some ⟨X, 0, none⟩), .pointer (some ⟨E, 0, none⟩), .pointer (some ⟨TB, 0, none⟩), f5, f6, f7, f8, f9, f10, f11, f12, f13, f14, f15, f16, f17, f18, f19, f20, f21, f22, f23, f24, f25, f26, f27, f28, f29, f30, f31, f32, f33, f34, f35, f36, f37, f38, f39, f40, f41, f42, f43, f44, f45, f46, f47, f48, f49, f50, f51, f52, f53, f54, f55, f56, f57, f58, f59, f60, f61, f62, f63, f64, f65, f66, f67, f68, f69, f70, f71, f72, f73, f74, f75, f76, f77, f78, f79, f80, f81, f82, f83, f84, f85, f86, f87, f88, f89, f90, f91, f92, f93, f94, f95, f96, f97, f98], defers := ds } W)
  (e0 e5 e6 e7 e8 e9 e10 e11 e12 e13 e14 e15 e16 e17 e18 e19 e20 e21 e22 e23 e24 e25 e26 e27 e28 e29 e30 e31 e32 e33 e34 e35 e36 e37 e38 e39 e40 e41 e42 e43 e44 e45 e46 e47 e48 e49 e50 e51 e52 e53 e54 e55 e56 e57 e58 e59 e60 e61 e62 e63 e64 e65 e66 e67 e68 e69 e70 e71 e72 e73 e74 e75 e76 e77 e78 e79 e80 e81 e82 e83 e84 e85 e86 e87 e88 e89 e90 e91 e92 e93 e94 e95 e96 e97 e98 : Value) :
  elem15n5.wp Try.prog (Exit.then K Q) { tmps := #[e0, .pointer (some ⟨B1, 0, none⟩), .pointer (some ⟨X, 0, none⟩), .pointer (some ⟨E, 0, none⟩), .pointer (some ⟨TB, 0, none⟩), e5, e6, e7, e8, e9, e10, e11, e12, e13, e14, e15, e16, e17, e18, e19, e20, e21, e22, e23, e24, e25, e26, e27, e28, e29, e30, e31, e32, e33, e34, e35, e36, e37, e38, e39, e40, e41, e42, e43, e44, e45, e46, e47, e48, e49, e50, e51, e52, e53, e54, e55, e56, e57, e58, e59, e60, e61, e62, e63, e64, e65, e66, e67, e68, e69, e70, e71, e72, e73, e74, e75, e76, e77, e78, e79, e80, e81, e82, e83, e84, e85, e86, e87, e88, e89, e90, e91, e92, e93, e94, e95, e96, e97, e98], defers := ds } W := by
 obtain ⟨kvs, m1, m2, m3⟩ := hM
 have hl1 : (Instr.lookup 98 (.map (some MT)) (.int .i64 1) false).run Try.prog W = .ok (.map (some mR)) W := by
  have := run_lookup_kv (P := Try.prog) kI_key Try.underlying98 Try.underlying93 m1 1 (Try.zeroValue90 _) false
  unfold kI at this
  simpa [m2] using this
 have hl2 : (Instr.lookup 98 (.map (some MT)) (.int .i64 2) false).run Try.prog W = .ok (.map (some mP)) W := by
  have := run_lookup_kv (P := Try.prog) kI_key Try.underlying98 Try.underlying93 m1 2 (Try.zeroValue90 _) false
  unfold kI at this
  simpa [m3] using this
 have hn1 := fun ty => run_len_kv (P := Try.prog) (T := 90) Try.underlying90 hR ty
 have hn2 := fun ty => run_len_kv (P := Try.prog) (T := 90) Try.underlying90 hP ty
 rw [hlR] at hn1
 rw [hlP] at hn2
 unfold Ls.cells at hB
 have c6 := cell_at hB 6 rfl; have c10 := cell_at hB 10 rfl; have cT := cell_at hT 0 rfl
 have HK := Lib.hid hK; have HBAD := Lib.hid hbad
 clear hK hbad hB hT hR hP m1 m2 m3 hlR hlP
 generalize s.roles.length = nR at *
 generalize s.phrases.length = nP at *
 by_cases e1 : lR = nR
 ·have d1 : ((lR : Int) == (nR : Int)) = true := by rw [e1]; simp
  by_cases e2 : lP = nP
  ·have d2 : ((lP : Int) == (nP : Int)) = true := by rw [e2]; simp
   have HF := Lib.hid (HK.out e1 e2)
   clear e1 e2 HK HBAD
   dsimp only
   unfold elem15n5 code15
   conv => arg 2; whnf
   go_wp2_with (go_at_call 45; refine (need_ok _ _).mono ?_; rintro e w' ⟨rfl, rfl⟩)
   exact HF.out _ _ _ _ _ _ _ _ _ _ _ _ _ _ _ _ _ _ _ _ _ _ _ _ _ _ _ _ _ _ _ _ _ _ _ _ _ _ _ _ _ _ _ _ _ _ _ _ _ _ _ _ _ _ _ _ _ _ _ _ _ _ _ _ _ _ _ _ _ _ _ _ _ _ _ _ _ _ _ _ _ _ _ _ _ _ _ _ _ _ _ _ _ _ _
  ·have d2 : ((lP : Int) == (nP : Int)) = false := by simp; omega
   have HF := Lib.hid (HBAD.out (fun h => e2 h.2))
   clear e1 e2 HK HBAD
   dsimp only
   unfold elem15n5 code15
   conv => arg 2; whnf
   go_wp2_with (go_at_call 45; refine (need_bad _ _).mono ?_; unfold errPanic; rintro e w' ⟨rfl, rfl⟩)
   exact HF.out _ _ _ _ _ _ _ _ _ _ _ _ _ _ _ _ _ _ _ _ _ _ _ _ _ _ _ _ _ _ _ _ _ _ _ _ _ _ _ _ _ _ _ _ _ _ _ _ _ _ _ _ _ _ _ _ _ _ _ _ _ _ _ _ _ _ _ _ _ _ _ _ _ _ _ _ _ _ _ _ _ _ _ _ _ _ _ _ _ _ _ _ _ _ _
 ·have d1 : ((lR : Int) == (nR : Int)) = false := by simp; omega
  have HF := Lib.hid (HBAD.out (fun h => e1 h.1))
  clear e1 HK HBAD
  dsimp only
  unfold elem15n5 code15
  conv => arg 2; whnf
  go_wp2_with (go_at_call 45; refine (need_bad _ _).mono ?_; unfold errPanic; rintro e w' ⟨rfl, rfl⟩)
  exact HF.out _ _ _ _ _ _ _ _ _ _ _ _ _ _ _ _ _ _ _ _ _ _ _ _ _ _ _ _ _ _ _ _ _ _ _ _ _ _ _ _ _ _ _ _ _ _ _ _ _ _ _ _ _ _ _ _ _ _ _ _ _ _ _ _ _ _ _ _ _ _ _ _ _ _ _ _ _ _ _ _ _ _ _ _ _ _ _ _ _ _ _ _ _ _ _
set_option maxRecDepth 100000 in
set_option maxHeartbeats 8000000 in
theorem res_e6 (s : Ls) (B1 X E TB : Nat) (xs : Array Value) (hxs : xs.size = 12) (ds : List Deferred) (W : World) (hB : W.heap[B1]? = some (.cells s.cells 30 (0, 0))) (hX : W.heap[X]? = some (.cells xs 30 (0, 0))) (K : Act → World → Prop)
  (hK : ∀ W', W'.heap[X]? = some (.cells s.cells 30 (0, 0)) → (∀ b, b ≠ X → W'.heap[b]? = W.heap[b]?) → (∀ B w0, Below B w0 W → B ≤ X → Below B w0 W') → W'.heap.size = W.heap.size → ∀ (f0 f5 f6 f7 f8 f9 f10 f11 f12 f13 f14 f15 f16 f17 f18 f19 f20 f21 f22 f23 f24 f25 f26 f27 f28 f29 f30 f31 f32 f33 f34 f35 f36 f37 f38 f39 f40 f41 f42 f43 f44 f45 f46 f47 f48 f49 f50 f51 f52 f53 f54 f55 f56 f57 f58 f59 f60 f61 f62 f63 f64 f65 f66 f67 f68 f69 f70 f71 f72 f73 f74 f75 f76 f77 f78 f79 f80 f81 f82 f83 f84 f85 f86 f87 f88 f89 f90 f91 f92 f93 f94 f95 f96 f97 f98 : Value), K { tmps := #[f0, .pointer (some ⟨B1, 0, none⟩), .pointer (some ⟨X, 0, none⟩), .pointer (some ⟨E, 0, none⟩), .pointer (some ⟨TB, 0, none⟩), f5, f6, f7, f8, f9, f10, f11, f12, f13, f14, f15, f16, f17, f18, f19, f20, f21, f22, f23, f24, f25, f26, f27, f28, f29, f30, f31, f32, f33, f34, f35, f36, f37, f38, f39, f40, f41, f42, f43, f44, f45, f46, f47, f48, f49, f50, f51, f52, f53, f54, f55, f56, f57, f58, f59, f60, f61, f62, f63, f64, f65, f66, f67, f68, f69, f70, f71, f72, f73, f74, f75, f76, f77, f78, f79, f80, f81, f82, f83, f84, f85, f86, f87, f88, f89, f90, f91, f92, f93, f94, f95, f96, f97, f98], defers := ds } W')
  (e0 e5 e6 e7 e8 e9 e10 e11 e12 e13 e14 e15 e16 e17 e18 e19 e20 e21 e22 e23 e24 e25 e26 e27 e28 e29 e30 e31 e32 e33 e34 e35 e36 e37 e38 e39 e40 e41 e42 e43 e44 e45 e46 e47 e48 e49 e50 e51 e52 e53 e54 e55 e56 e57 e58 e59 e60 e61 e62 e63 e64 e65 e66 e67 e68 e69 e70 e71 e72 e73 e74 e75 e76 e77 e78 e79 e80 e81 e82 e83 e84 e85 e86 e87 e88 e89 e90 e91 e92 e93 e94 e95 e96 e97 e98 : Value) :
  elem15n6.wp Try.prog (Exit.then K (fun _ _ _ => False)) { tmps := #[e0, .pointer (some ⟨B1, 0, none⟩), .pointer (some ⟨X, 0, none⟩), .pointer (some ⟨E, 0, none⟩), .pointer (some ⟨TB, 0, none⟩), e5, e6, e7, e8, e9, e10, e11, e12, e13, e14, e15, e16, e17, e18, e19, e20, e21, e22, e23, e24, e25, e26, e27, e28, e29, e30, e31, e32, e33, e34, e35, e36, e37, e38, e39, e40, e41, e42, e43, e44, e45, e46, e47, e48, e49, e50, e51, e52, e53, e54, e55, e56, e57, e58, e59, e60, e61, e62, e63, e64, e65, e66, e67, e68, e69, e70, e71, e72, e73, e74, e75, e76, e77, e78, e79, e80, e81, e82, e83, e84, e85, e86, e87, e88, e89, e90, e91, e92, e93, e94, e95, e96, e97, e98], defers := ds } W := by
 unfold Ls.cells at hB hK
 obtain ⟨W', x', g', o', b', s'⟩ := set_score hX hxs (sv s.name) (.int .i64 s.wd) (.int .i64 s.dp) (.int .i64 s.bars) (.int .i64 s.t0) (.int .i64 s.t1) (.slice s.ra s.roles.length s.rc) (.slice s.ta s.tempos.length s.tc) (.slice s.ua s.pauses.length s.uc) (.slice s.sa s.spans.length s.sc) (.slice s.fa s.phrases.length s.fc) (.slice s.da s.dances.length s.dc)
 have y0 := cell_at hB 0 rfl; have y1 := cell_at hB 1 rfl; have y2 := cell_at hB 2 rfl; have y3 := cell_at hB 3 rfl; have y4 := cell_at hB 4 rfl; have y5 := cell_at hB 5 rfl; have y6 := cell_at hB 6 rfl; have y7 := cell_at hB 7 rfl; have y8 := cell_at hB 8 rfl; have y9 := cell_at hB 9 rfl; have y10 := cell_at hB 10 rfl; have y11 := cell_at hB 11 rfl
 obtain ⟨x0, x1, x2, x3, x4, x5, x6, x7, x8, x9, x10, x11, rfl⟩ : ∃ x0 x1 x2 x3 x4 x5 x6 x7 x8 x9 x10 x11, xs = #[x0, x1, x2, x3, x4, x5, x6, x7, x8, x9, x10, x11] := by
  obtain ⟨l⟩ := xs
  match l, hxs with
  | [a, b, c, d, e, f, g, h, i, j, k, l], _ => exact ⟨a, b, c, d, e, f, g, h, i, j, k, l, rfl⟩
 have z0 := cell_at hX 0 rfl; have z1 := cell_at hX 1 rfl; have z2 := cell_at hX 2 rfl; have z3 := cell_at hX 3 rfl; have z4 := cell_at hX 4 rfl; have z5 := cell_at hX 5 rfl; have z6 := cell_at hX 6 rfl; have z7 := cell_at hX 7 rfl; have z8 := cell_at hX 8 rfl; have z9 := cell_at hX 9 rfl; have z10 := cell_at hX 10 rfl; have z11 := cell_at hX 11 rfl
 have hfz : ∀ q, W.frozen? ⟨X, q, none⟩ = false := fun q => (show FreeB W X from ⟨_, _, hX⟩).free q
 have h0 := hfz 0
 have HF := Lib.hid (hK W' g' o' b' s')
 clear hK g' o' b' s' hB hX hxs
 dsimp only
 unfold elem15n6 code15
 conv => arg 2; whnf
 go_wp2_with fail
 exact HF.out _ _ _ _ _ _ _ _ _ _ _ _ _ _ _ _ _ _ _ _ _ _ _ _ _ _ _ _ _ _ _ _ _ _ _ _ _ _ _ _ _ _ _ _ _ _ _ _ _ _ _ _ _ _ _ _ _ _ _ _ _ _ _ _ _ _ _ _ _ _ _ _ _ _ _ _ _ _ _ _ _ _ _ _ _ _ _ _ _ _ _ _ _ _ _
theorem count_small : ∀ (T : Lt) (d : Nat) (left l : Int), left ≤ 4096 → T.strip.count d left = some l → l ≤ left ∧ T.small
 | .nil, d, left, l, h, e => by
  simp only [Lt.strip, Its.count, Option.some.injEq] at e
  exact ⟨by omega, trivial⟩
 | .cons k n un ia ic its ma mc ms r, d, left, l, h, e => by
  simp only [Lt.strip, Its.count] at e
  split at e
  ·rename_i hc
   obtain ⟨c1, c2, _⟩ := hc
   rw [Lt.strip_len] at c2
   split at e
   ·cases e
   ·rename_i l1 e1
    obtain ⟨a1, a2⟩ := count_small its _ _ _ (by omega) e1
    obtain ⟨b1, b2⟩ := count_small r _ _ _ (by omega) e
    exact ⟨by omega, ⟨by omega, by omega, a2, b2⟩⟩
  ·cases e
theorem countP_small : ∀ (ps : List Ph) (left l : Int), left ≤ 4096 → countP (ps.map Ph.strip) left = some l → ∀ p ∈ ps, p.its.len ≤ 100000 ∧ p.its.small
 | [], _, _, _, _, p, hp => by cases hp
 | q :: r, left, l, h, e, p, hp => by
  simp only [List.map_cons, countP] at e
  split at e
  ·cases e
  ·rename_i l1 e1
   unfold Its.countL at e1
   split at e1
   ·rename_i hc
    obtain ⟨c1, _⟩ := hc
    simp only [Ph.strip, Lt.strip_len] at c1 e1
    obtain ⟨a1, a2⟩ := count_small q.its _ _ _ (by omega) e1
    rcases List.mem_cons.1 hp with rfl | hp
    ·exact ⟨by omega, a2⟩
    ·exact countP_small r _ _ (by omega) e p hp
   ·cases e1
theorem lims_small {s : Ls} (h : s.strip.lims = true) : s.phrases.length ≤ 64 ∧ s.dances.length ≤ 256 ∧ s.roles.length ≤ 64 ∧ ∀ p ∈ s.phrases, p.its.len ≤ 100000 ∧ p.its.small := by
 unfold Sc.lims at h
 simp only [Bool.and_eq_true] at h
 have hf := fit_iff.1 h.1
 simp only [Ls.strip, List.length_map] at hf
 obtain ⟨l, hl⟩ := Option.isSome_iff_exists.1 h.2
 exact ⟨hf.2.2.2.2.1, hf.2.2.2.2.2, hf.1, countP_small s.phrases 4096 l (by omega) hl⟩
end Go.Proofs.Ytpnbpepkoekkoaa
end
section
namespace Go.Proofs.Ytpnbpepkoekkoaa
open Go Go.RowKit Go.Shelf
def ResP (s : Ls) (ns : List Int) (w : World) (e : Ending) (w' : World) : Prop :=
 ((resE s.strip ns = 0 ∧ ∃ (x : Ls) (ks : List Int), e = .returned (.tuple #[x.val, .int .i64 0]) ∧ x.strip = s.strip ∧ x.At w' ∧ NsAt w' x.refs ks ∧ s.strip.idx ns = some ks ∧ x.Sep ∧ (∀ r ∈ x.refs, w.heap.size ≤ r.b ∧ FreeB w' r.b)) ∨
  (resE s.strip ns ≠ 0 ∧ e = .returned (.tuple #[.agg zeroSc, .int .i64 (resE s.strip ns)]))) ∧ Below w.heap.size w w'
theorem then_mono {K : Act → World → Prop} {Q : Exit → Act → World → Prop} : ∀ e a w, Exit.then K (fun _ _ _ => False) e a w → Exit.then K Q e a w
 | .normal, _, _, h => h
 | .ret, _, _, h => h.elim
 | .panic _, _, _, h => h.elim
 | .outgrown, _, _, h => h.elim
 | .exit _, _, _, h => h.elim
 | .goto _, _, _, h => h.elim
structure R5 (s : Ls) (w0 : World) (B1 X E TB MT mR mP : Nat) (W : World) : Prop where
 b1 : W.heap[B1]? = some (.cells s.cells 30 (0, 0))
 x : W.heap[X]? = some (.cells zeroSc 30 (0, 0))
 e : W.heap[E]? = some (.cells #[.int .i64 0] 35 (0, 0))
 tb : W.heap[TB]? = some (.cells #[.map (some MT)] 98 (0, 0))
 mt : ∃ kvs : List (Int × Value), MapAt kI W MT kvs ∧ kvGet kvs 1 = some (.map (some mR)) ∧ kvGet kvs 2 = some (.map (some mP))
 mr : MapAt sv W mR (tabOf (s.roles.map Rol.name))
 mp : MapAt sv W mP (tabOf (s.phrases.map Ph.name))
 base : Below w0.heap.size w0 W
 ge : w0.heap.size ≤ X ∧ w0.heap.size ≤ E ∧ w0.heap.size ≤ TB
 ne : B1 ≠ X
theorem step5 : lastPart 5 code15 = .seq elem15n5 (lastPart 6 code15) := rfl
theorem step6 : lastPart 6 code15 = .seq elem15n6 (lastPart 7 code15) := rfl
theorem step7 : lastPart 7 code15 = .seq elem15n7 (lastPart 8 code15) := rfl
theorem step8 : lastPart 8 code15 = .seq elem15n8 part15n9 := rfl
theorem rnames_strip (s : Ls) : s.strip.rnames = s.roles.map Rol.name := rfl
theorem pnames_strip (s : Ls) : s.strip.pnames = s.phrases.map Ph.name := by
 unfold Sc.pnames Ls.strip
 simp [Ph.strip, Function.comp]
theorem phs_names {A : List Ph} {ps : List Ph} (h : A.map Ph.strip = ps.map Ph.strip) : A.map Ph.name = ps.map Ph.name := by
 have := congrArg (List.map Phr.name) h
 rw [List.map_map, List.map_map] at this
 exact this
theorem phOwn_lt {w : World} {b : Nat} : ∀ {o : Nat} {ps : List Ph}, phAt w b o ps → ∀ c ∈ phOwn ps, c < w.heap.size
 | _, [], _, c, h => by cases h
 | o, p :: r, ⟨⟨_, _, h3⟩, h⟩, c, hc => by
  unfold phOwn at hc
  rw [List.flatMap_cons, List.mem_append] at hc
  rcases hc with hc | hc
  ·unfold Lt.own at hc
   rw [List.mem_append] at hc
   rcases hc with hc | hc
   ·split at hc
    ·cases hc
    ·rename_i hl
     rw [List.mem_singleton.1 hc]; exact h3.2.2.lt hl
   ·exact h3.2.2.blocks_lt c hc
  ·exact phOwn_lt h c hc
theorem ButOne.blocks {R : Nat} {W W' : World} (h : ButOne R W W') {b : Nat} {o : Obj} (hb : W.heap[b]? = some o) (hr : b ≠ R) : W'.heap[b]? = some o :=
 (h.block b (Array.getElem?_eq_some_iff.1 hb).1 hr).trans hb
set_option maxHeartbeats 1000000 in
theorem res_tail9 (s : Ls) (ns n1 n1' n2 : List Int) (w0 : World) (hA : s.At w0) (hns : ns = n1 ++ n2) (hlims : s.strip.lims = true) (hnamed : s.strip.named = true) (hap : s.strip.apart = true)
  (x : Ls) (hstrip : x.strip = s.strip) (hpf : x.phrases = [] ∨ x.fa = some ⟨blk x.fa, 0, none⟩) (hdf : x.dances = [] ∨ x.da = some ⟨blk x.da, 0, none⟩) (hpl : x.phrases.length ≤ maxLen) (hdl : x.dances.length ≤ maxLen)
  (hrows : x.ra = s.ra ∧ x.rc = s.rc ∧ x.ta = s.ta ∧ x.tc = s.tc ∧ x.ua = s.ua ∧ x.uc = s.uc ∧ x.sa = s.sa ∧ x.sc = s.sc)
  (B1 X E TB MT mR mP : Nat) (W : World) (hW : W.heap[X]? = some (.cells x.cells 30 (0, 0)) ∧ W.heap[E]? = some (.cells #[.int .i64 0] 35 (0, 0)) ∧ W.heap[TB]? = some (.cells #[.map (some MT)] 98 (0, 0)))
  (hmt : ∃ kvs : List (Int × Value), MapAt kI W MT kvs ∧ kvGet kvs 1 = some (.map (some mR)) ∧ kvGet kvs 2 = some (.map (some mP))) (hmr : MapAt sv W mR (tabOf (s.roles.map Rol.name))) (hmp : MapAt sv W mP (tabOf (s.phrases.map Ph.name)))
  (hbase : Below w0.heap.size w0 W) (hge : w0.heap.size ≤ X ∧ w0.heap.size ≤ E ∧ w0.heap.size ≤ TB)
  (hph : phAt W (blk x.fa) (off x.fa) x.phrases) (hda : danAt W (blk x.da) (off x.da) x.dances) (hN1 : NsAt W (phRefs x.phrases) n1) (hN2 : NsAt W (danRefs (blk x.da) (off x.da) x.dances) n2) (hsep : x.Sep) (hfree : ∀ r ∈ x.refs, FreeB W r.b) (hown : ∀ r ∈ x.refs, w0.heap.size ≤ r.b ∧ r.b ≠ X ∧ r.b ≠ E ∧ r.b ≠ TB) (hown2 : ∀ c ∈ phOwn x.phrases, c ≠ X ∧ c ≠ E) (hfX : x.phrases ≠ [] → blk x.fa ≠ X ∧ blk x.fa ≠ E)
  (e0 e5 e6 e7 e8 e9 e10 e11 e12 e13 e14 e15 e16 e17 e18 e19 e20 e21 e22 e23 e24 e25 e26 e27 e28 e29 e30 e31 e32 e33 e34 e35 e36 e37 e38 e39 e40 e41 e42 e43 e44 e45 e46 e47 e48 e49 e50 e51 e52 e53 e54 e55 e56 e57 e58 e59 e60 e61 e62 e63 e64 e65 e66 e67 e68 e69 e70 e71 e72 e73 e74 e75 e76 e77 e78 e79 e80 e81 e82 e83 e84 e85 e86 e87 e88 e89 e90 e91 e92 e93 e94 e95 e96 e97 e98 : Value) :
  wpAt 15 Try.prog part15n9 (bodyPostM Fence.wide 0 Try.prog Try.f15 (ResP s ns w0)) { tmps := #[e0, .pointer (some ⟨B1, 0, none⟩), .pointer (some ⟨X, 0, none⟩), .pointer (some ⟨E, 0, none⟩), .pointer (some ⟨TB, 0, none⟩), e5, e6, e7, e8, e9, e10, e11, e12, e13, e14, e15, e16, e17, e18, e19, e20, e21, e22, e23, e24, e25, e26, e27, e28, e29, e30, e31, e32, e33, e34, e35, e36, e37, e38, e39, e40, e41, e42, e43, e44, e45, e46, e47, e48, e49, e50, e51, e52, e53, e54, e55, e56, e57, e58, e59, e60, e61, e62, e63, e64, e65, e66, e67, e68, e69, e70, e71, e72, e73, e74, e75, e76, e77, e78, e79, e80, e81, e82, e83, e84, e85, e86, e87, e88, e89, e90, e91, e92, e93, e94, e95, e96, e97, e98], defers := [dfr X E] } W := by
 obtain ⟨hX, hE, hT⟩ := hW
 have hXE : X ≠ E := fun e => by rw [e, hE] at hX; cases hX
 have hap2 : (s.roles.map Rol.name).Nodup ∧ (s.phrases.map Ph.name).Nodup := by
  unfold Sc.apart at hap
  rw [rnames_strip, pnames_strip] at hap
  simpa using hap
 have hkey : x.refs.map RefL.key = s.strip.refs := by rw [Ls.refs_key, hstrip]
 have hEn : resE s.strip ns = if (s.strip.idx ns).isSome then 0 else 170 := by
  unfold resE; rw [hlims, hnamed, hap]; rfl
 have hlt : ∀ r ∈ x.refs, r.b < W.heap.size := fun r hr => (hfree r hr).lt
 have hdfr := dfr X E
 refine res_range ⟨x, ns, w0, X, E, W.heap.size, TB, MT, mR, mP, s.roles.map Rol.name, s.phrases.map Ph.name, W.heap.size + 1⟩ ⟨hsep, fun r hr => ⟨(hown r hr).2.1, (hown r hr).2.2.1, fun e => by have := hlt r hr; simp only at e; omega, (hown r hr).2.2.2, (hown r hr).1⟩, hap2.1, hap2.2⟩
  (hpf.imp_right fun h => by rw [h]; rfl) hpl (hdf.imp_right fun h => by rw [h]; rfl) hdl hXE ⟨hge.1, hge.2.1⟩ B1 W rfl rfl ?_ _ ?_ ?_ _ _ _ _ _ _ _ _ _ _ _ _ _ _ _ _ _ _ _ _ _ _ _ _ _ _ _ _ _ _ _ _ _ _ _ _ _ _ _ _ _ _ _ _ _ _ _ _ _ _ _ _ _ _ _ _ _ _ _ _ _ _ _ _ _ _ _ _ _ _ _ _ _ _ _ _ _ _ _ _ _ _ _ _ _ _ _ _ _ _ _ _ _ _ _
 ·intro W1 hb hk
  obtain ⟨kvs, m1, m2, m3⟩ := hmt
  have ho : ∀ {b : Nat} {o : Obj}, W.heap[b]? = some o → W1.heap[b]? = some o := fun h => (hb.block _ (Array.getElem?_eq_some_iff.1 h).1).trans h
  exact ⟨ho hX, ho hE, hk, keep_cell hb (cell_at hT 0 rfl), ⟨kvs, m1.below hb m1.lt, m2, m3⟩, hmr.below hb hmr.lt, hmp.below hb hmp.lt, phAt_below hb hph, danAt_below hb hda, ⟨[], x.refs, [], ns, rfl, rfl, rfl, trivial, by rw [hns]; exact (hN1.append hN2).below hb⟩, fun r hr => (hfree r hr).below hb, hbase.trans (hb.mono hbase.size)⟩
 ·intro ks V W' hks hkinds hN hp hd hfr hbV hsz hos htp hout hbl
  have hidx : s.strip.idx ns = some ks := by
   unfold Sc.idx
   rw [if_pos (by rw [← hstrip]; exact hkinds), rnames_strip, pnames_strip, ← hkey]; exact hks
  dsimp only at hbV hbl hN hp hd hfr
  have hb' : Below w0.heap.size w0 W' := hbV.trans ⟨hos, htp, hout, hsz, fun b hb => hbl b (Nat.lt_of_lt_of_le hb hbV.size) (by have := hge.1; omega) (by have := hge.2.1; omega)⟩
  have kc : ∀ {b q : Nat} {v : Value}, b ≠ X → b ≠ E → V.cell? ⟨b, q, none⟩ = some v → W'.cell? ⟨b, q, none⟩ = some v := fun h1 h2 h => (World.cell?_of_block (hbl _ (cell_lt h) h1 h2)).trans h
  obtain ⟨w1, w2, w3, w4, w5, w6, w7, w8⟩ := hrows
  have q1 : x.roles = s.roles := congrArg Sc.roles hstrip
  have q2 : x.tempos = s.tempos := congrArg Sc.tempos hstrip
  have q3 : x.pauses = s.pauses := congrArg Sc.pauses hstrip
  have q4 : x.spans = s.spans := congrArg Sc.spans hstrip
  have hdE : x.dances ≠ [] → blk x.da ≠ X ∧ blk x.da ≠ E := fun hz => by
   obtain ⟨d, r, hdr⟩ : ∃ d r, x.dances = d :: r := by
    cases hx : x.dances with
    | nil => exact absurd hx hz
    | cons d r => exact ⟨d, r, rfl⟩
   have hm : (⟨blk x.da, off x.da, 1, d.rn⟩ : RefL) ∈ x.refs := by unfold Ls.refs; rw [hdr]; simp [danRefs]
   exact ⟨(hown _ hm).2.1, (hown _ hm).2.2.1⟩
  refine ⟨Or.inl ⟨by rw [hEn, hidx]; rfl, x, ks, rfl, hstrip, ⟨?_, ?_, ?_, ?_, hpf.imp_right fun h => by rw [h]; rfl, hpl, ?_, hdf.imp_right fun h => by rw [h]; rfl, hdl, ?_⟩, ?_, hidx, hsep, fun r hr => ⟨(hown r hr).1, ?_⟩⟩, hb'⟩
  ·rw [w1, w2, q1]; exact hA.roles.below hb' (Nat.le_refl _)
  ·rw [w3, w4, q2]; exact hA.tempos.below hb' (Nat.le_refl _)
  ·rw [w5, w6, q3]; exact hA.pauses.below hb' (Nat.le_refl _)
  ·rw [w7, w8, q4]; exact hA.spans.below hb' (Nat.le_refl _)
  ·by_cases hz : x.phrases = []
   ·rw [hz]; trivial
   ·exact phAt_kept hp (fun q v _ hc => kc (hfX hz).1 (hfX hz).2 hc) (fun c hc q v h => kc (hown2 c hc).1 (hown2 c hc).2 h)
  ·by_cases hz : x.dances = []
   ·rw [hz]; trivial
   ·exact danAt_kept hd (fun q v _ hc => kc (hdE hz).1 (hdE hz).2 hc)
  ·exact hN.kept fun r hr v hc => kc (hown r hr).2.1 (hown r hr).2.2.1 hc
  ·obtain ⟨cur, t, hc⟩ := hfr r hr
   exact ⟨cur, t, (hbl _ (Array.getElem?_eq_some_iff.1 hc).1 (hown r hr).2.1 (hown r hr).2.2.1).trans hc⟩
 ·intro W' hf hb
  have hidx : s.strip.idx ns = none := by
   unfold Sc.idx
   rw [rnames_strip, pnames_strip, ← hkey, ← hstrip]
   rcases hf with h | h
   ·rw [if_neg (by rw [h]; simp)]
   ·split
    ·exact h
    ·rfl
  refine ⟨Or.inr ?_, hb⟩
  rw [hEn, hidx]
  exact ⟨by decide, rfl⟩
end Go.Proofs.Ytpnbpepkoekkoaa
end
section
namespace Go.Proofs.Ytpnbpepkoekkoaa
open Go Go.RowKit Go.Shelf
theorem MapAt.but {κ : Type} [DecidableEq κ] {f : κ → Value} {R : Nat} {W W' : World} {b : Nat} {kvs : List (κ × Value)} (h : MapAt f W b kvs) (hb : ButOne R W W') (hr : b ≠ R) : MapAt f W' b kvs := h.of_block (hb.block _ h.lt hr)
theorem MapAt.ne {κ : Type} [DecidableEq κ] {f : κ → Value} {W : World} {b X : Nat} {kvs : List (κ × Value)} {cs : Array Value} {t : TypeId} {z : Nat × Nat} (h : MapAt f W b kvs) (hX : W.heap[X]? = some (.cells cs t z)) : b ≠ X := fun e => by
 obtain ⟨es, cl, h1, _⟩ := h
 rw [e, hX] at h1; cases h1
theorem RowNew.form {W W' : World} {ao : Option Addr} {n : Nat} (h : RowNew W W' ao n) (hn : n ≠ 0) : ao = some ⟨blk ao, 0, none⟩ ∧ W.heap.size ≤ blk ao ∧ FreeB W' (blk ao) := h.resolve_left hn
theorem FreeB.but {R : Nat} {W W' : World} {c : Nat} (h : FreeB W c) (hb : ButOne R W W') (hr : c ≠ R) : FreeB W' c := by
 obtain ⟨cur, t, h⟩ := h
 exact ⟨cur, t, hb.blocks h hr⟩
theorem ButOne.cellk {R : Nat} {W W' : World} (h : ButOne R W W') {b q : Nat} {v : Value} (hr : b ≠ R) (hc : W.cell? ⟨b, q, none⟩ = some v) : W'.cell? ⟨b, q, none⟩ = some v := h.cell hc hr
theorem res_tail8 (s : Ls) (ns n1 n2 : List Int) (w0 : World) (hA : s.At w0) (hns : ns = n1 ++ n2) (hlims : s.strip.lims = true) (hnamed : s.strip.named = true) (hap : s.strip.apart = true)
  (B1 X E TB MT mR mP : Nat) (W6 W7 : World) (hE : W6.heap[E]? = some (.cells #[.int .i64 0] 35 (0, 0))) (hT : W6.heap[TB]? = some (.cells #[.map (some MT)] 98 (0, 0))) (hXX : W6.heap[X]? = some (.cells s.cells 30 (0, 0)))
  (hmt : ∃ kvs : List (Int × Value), MapAt kI W6 MT kvs ∧ kvGet kvs 1 = some (.map (some mR)) ∧ kvGet kvs 2 = some (.map (some mP))) (hmr : MapAt sv W6 mR (tabOf (s.roles.map Rol.name))) (hmp : MapAt sv W6 mP (tabOf (s.phrases.map Ph.name)))
  (hbase : Below w0.heap.size w0 W6) (hge : w0.heap.size ≤ X ∧ w0.heap.size ≤ E ∧ w0.heap.size ≤ TB) (hN1 : NsAt w0 (phRefs s.phrases) n1)
  (fa da : Option Addr) (fc dc : Nat) (h7 : R7 s n2 X W6 fa fc da dc W7)
  (e0 e5 e6 e7 e8 e9 e10 e11 e12 e13 e14 e15 e16 e17 e18 e19 e20 e21 e22 e23 e24 e25 e26 e27 e28 e29 e30 e31 e32 e33 e34 e35 e36 e37 e38 e39 e40 e41 e42 e43 e44 e45 e46 e47 e48 e49 e50 e51 e52 e53 e54 e55 e56 e57 e58 e59 e60 e61 e62 e63 e64 e65 e66 e67 e68 e69 e70 e71 e72 e73 e74 e75 e76 e77 e78 e79 e80 e81 e82 e83 e84 e85 e86 e87 e88 e89 e90 e91 e92 e93 e94 e95 e96 e97 e98 : Value) :
  wpAt 15 Try.prog (lastPart 8 code15) (bodyPostM Fence.wide 0 Try.prog Try.f15 (ResP s ns w0)) { tmps := #[e0, .pointer (some ⟨B1, 0, none⟩), .pointer (some ⟨X, 0, none⟩), .pointer (some ⟨E, 0, none⟩), .pointer (some ⟨TB, 0, none⟩), e5, e6, e7, e8, e9, e10, e11, e12, e13, e14, e15, e16, e17, e18, e19, e20, e21, e22, e23, e24, e25, e26, e27, e28, e29, e30, e31, e32, e33, e34, e35, e36, e37, e38, e39, e40, e41, e42, e43, e44, e45, e46, e47, e48, e49, e50, e51, e52, e53, e54, e55, e56, e57, e58, e59, e60, e61, e62, e63, e64, e65, e66, e67, e68, e69, e70, e71, e72, e73, e74, e75, e76, e77, e78, e79, e80, e81, e82, e83, e84, e85, e86, e87, e88, e89, e90, e91, e92, e93, e94, e95, e96, e97, e98], defers := [dfr X E] } W7 := by
 obtain ⟨lp, ld, _, lsm⟩ := lims_small hlims
 have hXl := (Array.getElem?_eq_some_iff.1 hXX).1
 have hEl := (Array.getElem?_eq_some_iff.1 hE).1
 have hTl := (Array.getElem?_eq_some_iff.1 hT).1
 have hXE : X ≠ E := fun e => by rw [e, hE] at hXX; cases hXX
 have hXT : X ≠ TB := fun e => by rw [e, hT] at hXX; simp at hXX
 have hsz := h7.but.size
 have hbase7 : Below w0.heap.size w0 W7 := hbase.trans (h7.but.below hge.1 hbase.size)
 have hmt7 : ∃ kvs : List (Int × Value), MapAt kI W7 MT kvs ∧ kvGet kvs 1 = some (.map (some mR)) ∧ kvGet kvs 2 = some (.map (some mP)) := by
  obtain ⟨kvs, m1, m2, m3⟩ := hmt
  exact ⟨kvs, m1.but h7.but (m1.ne hXX), m2, m3⟩
 have hmr7 := hmr.but h7.but (hmr.ne hXX)
 have hmp7 := hmp.but h7.but (hmp.ne hXX)
 have hMTl : MT < W6.heap.size := by obtain ⟨kvs, m1, _⟩ := hmt; exact m1.lt
 have hmRl := hmr.lt; have hmPl := hmp.lt
 have hE7 := h7.but.blocks hE hXE.symm
 have hT7 := h7.but.blocks hT hXT.symm
 have hdz : s.dances ≠ [] → da = some ⟨blk da, 0, none⟩ ∧ W6.heap.size ≤ blk da ∧ FreeB W7 (blk da) := fun hz => h7.dnn.form (fun e => hz (List.length_eq_zero_iff.1 e))
 have hoff : s.dances ≠ [] → off da = 0 := fun hz => by rw [(hdz hz).1]; rfl
 have hda7 : danAt W7 (blk da) (off da) s.dances := by
  by_cases hz : s.dances = []
  ·rw [hz]; trivial
  ·rw [hoff hz]; exact h7.dan
 have hdn7 : NsAt W7 (danRefs (blk da) (off da) s.dances) n2 := by
  by_cases hz : s.dances = []
  ·have := h7.dn
   rw [hz] at this ⊢
   exact this
  ·rw [hoff hz]; exact h7.dn
 have hdm : s.dances.length ≤ maxLen := by unfold maxLen; omega
 have hpm : s.phrases.length ≤ maxLen := by unfold maxLen; omega
 rw [step8]
 refine wpAt_seq_wp (fun K hK => ?_)
 by_cases hpz : s.phrases = []
 ·have hl0 : s.phrases.length = 0 := by rw [hpz]; rfl
  have hn1 : n1 = [] := by
   rw [hpz] at hN1
   cases n1 with
   | nil => rfl
   | cons => exact hN1.elim
  refine wp_mono (res_clone0 B1 X E TB _ fa fc _ W7 h7.x (by show some (Value.slice fa s.phrases.length fc) = _; rw [hl0]) K ?_ _ _ _ _ _ _ _ _ _ _ _ _ _ _ _ _ _ _ _ _ _ _ _ _ _ _ _ _ _ _ _ _ _ _ _ _ _ _ _ _ _ _ _ _ _ _ _ _ _ _ _ _ _ _ _ _ _ _ _ _ _ _ _ _ _ _ _ _ _ _ _ _ _ _ _ _ _ _ _ _ _ _ _ _ _ _ _ _ _ _ _ _ _ _ _) then_mono
  intros
  refine hK _ _ ?_
  refine res_tail9 s ns [] [] n2 w0 hA (by rw [hns, hn1]) hlims hnamed hap { s with fa := fa, fc := fc, da := da, dc := dc } rfl (Or.inl hpz) ?_ hpm hdm ⟨rfl, rfl, rfl, rfl, rfl, rfl, rfl, rfl⟩ B1 X E TB MT mR mP W7 ⟨h7.x, hE7, hT7⟩ hmt7 hmr7 hmp7 hbase7 hge ?_ hda7 (by simp only [hpz]; trivial) hdn7 ⟨by simp only [hpz]; exact List.nodup_nil, by simp only [hpz]; exact List.not_mem_nil, fun _ => by simp only [hpz]; exact List.not_mem_nil, fun _ h => absurd hpz h⟩ ?_ ?_ (by simp only [hpz]; intro c hc; cases hc) (fun h => absurd hpz h) _ _ _ _ _ _ _ _ _ _ _ _ _ _ _ _ _ _ _ _ _ _ _ _ _ _ _ _ _ _ _ _ _ _ _ _ _ _ _ _ _ _ _ _ _ _ _ _ _ _ _ _ _ _ _ _ _ _ _ _ _ _ _ _ _ _ _ _ _ _ _ _ _ _ _ _ _ _ _ _ _ _ _ _ _ _ _ _ _ _ _ _ _ _ _
  ·by_cases hz : s.dances = []
   ·exact Or.inl hz
   ·exact Or.inr (hdz hz).1
  ·simp only [hpz]; trivial
  ·intro r hr
   unfold Ls.refs at hr
   simp only [hpz, phRefs, List.nil_append] at hr
   obtain ⟨e1, _, e3, _⟩ := danRefs_mem hr
   rw [e1]; exact (hdz e3).2.2
  ·intro r hr
   unfold Ls.refs at hr
   simp only [hpz, phRefs, List.nil_append] at hr
   obtain ⟨e1, _, e3, _⟩ := danRefs_mem hr
   rw [e1]
   have := (hdz e3).2.1
   have := hbase.size
   omega
 ·have hn0 : s.phrases.length ≠ 0 := fun e => hpz (List.length_eq_zero_iff.1 e)
  obtain ⟨f1, f2, f3⟩ := h7.phn.form hn0
  have hg := f3.lt
  generalize hgb : blk fa = g at *
  have hS : PhS s.phrases n1 w0.heap.size g 0 W7 [] s.phrases [] n1 W7 := by
   refine ⟨rfl, rfl, rfl, trivial, trivial, ?_, ?_, by simp [phOwn], (fun b hb => by cases hb), ⟨by have := hbase.size; omega, f3⟩, phOwn_lt hA.phrases, lsm, ButOne.refl _ _⟩
   ·have := h7.ph; rw [hgb] at this; exact this
   ·exact hN1.below hbase7
  refine wp_mono (res_clone1 s.phrases n1 w0.heap.size g s.phrases.length fc B1 X E TB _ _ W7 rfl (by omega) h7.x (by show some (Value.slice fa s.phrases.length fc) = _; rw [f1]) (by omega) hg hS K ?_ _ _ _ _ _ _ _ _ _ _ _ _ _ _ _ _ _ _ _ _ _ _ _ _ _ _ _ _ _ _ _ _ _ _ _ _ _ _ _ _ _ _ _ _ _ _ _ _ _ _ _ _ _ _ _ _ _ _ _ _ _ _ _ _ _ _ _ _ _ _ _ _ _ _ _ _ _ _ _ _ _ _ _ _ _ _ _ _ _ _ _ _ _ _ _) then_mono
  intro A n1' W8 hAl h8
  intros
  refine hK _ _ ?_
  have hstr : A.map Ph.strip = s.phrases.map Ph.strip := by have := h8.strip; simpa using this
  have hnn : n1' = n1 := by have := h8.nseq; simpa using this
  subst hnn
  have hAn : A ≠ [] := fun e => by rw [e] at hAl; exact hn0 hAl.symm
  have hnames := phs_names hstr
  have hsz8 := h8.but.size
  have hoA : ∀ b ∈ phOwn A, W7.heap.size ≤ b ∧ FreeB W8 b := h8.own
  have hapA := List.nodup_cons.1 h8.apart
  have hdg : s.dances ≠ [] → blk da ≠ g := fun hz e => h7.fd hz hpz (by rw [hgb]; exact e.symm)
  have hdl7 : s.dances ≠ [] → blk da < W7.heap.size := fun hz => (hdz hz).2.2.lt
  refine res_tail9 s ns n1' [] n2 w0 hA hns hlims hnamed hap { s with fa := fa, fc := fc, da := da, dc := dc, phrases := A } ?_ (Or.inr (by rw [hgb]; exact f1)) ?_ (by show A.length ≤ _; rw [hAl]; exact hpm) hdm ⟨rfl, rfl, rfl, rfl, rfl, rfl, rfl, rfl⟩ B1 X E TB MT mR mP W8 ⟨?_, h8.but.blocks hE7 (by omega), h8.but.blocks hT7 (by omega)⟩ ?_ (hmr7.but h8.but (by omega)) (hmp7.but h8.but (by omega)) (hbase7.trans (h8.but.below (by have := hbase.size; omega) hbase7.size)) hge ?_ ?_ h8.nsA ?_ ⟨hapA.2, by rw [hgb]; exact hapA.1, fun hz hm => ?_, fun hz _ e => hdg hz (by rw [← e]; exact hgb)⟩ ?_ ?_ ?_ (fun _ => by rw [hgb]; omega) _ _ _ _ _ _ _ _ _ _ _ _ _ _ _ _ _ _ _ _ _ _ _ _ _ _ _ _ _ _ _ _ _ _ _ _ _ _ _ _ _ _ _ _ _ _ _ _ _ _ _ _ _ _ _ _ _ _ _ _ _ _ _ _ _ _ _ _ _ _ _ _ _ _ _ _ _ _ _ _ _ _ _ _ _ _ _ _ _ _ _ _ _ _ _
  ·show ({ s with fa := fa, fc := fc, da := da, dc := dc, phrases := A } : Ls).strip = s.strip
   unfold Ls.strip
   simp only [hstr]
  ·by_cases hz : s.dances = []
   ·exact Or.inl hz
   ·exact Or.inr (hdz hz).1
  ·have := h8.but.blocks h7.x (by omega)
   rw [this]
   unfold cells7 Ls.cells
   rw [← hAl]
  ·obtain ⟨kvs, m1, m2, m3⟩ := hmt7
   exact ⟨kvs, m1.but h8.but (by omega), m2, m3⟩
  ·show phAt W8 (blk fa) (off fa) A
   rw [hgb, f1]; exact h8.atA
  ·show danAt W8 (blk da) (off da) s.dances
   by_cases hz : s.dances = []
   ·rw [hz]; trivial
   ·exact danAt_kept hda7 (fun q v _ hc => h8.but.cellk (hdg hz) hc)
  ·show NsAt W8 (danRefs (blk da) (off da) s.dances) n2
   by_cases hz : s.dances = []
   ·rw [hz] at hdn7 ⊢
    cases n2 with
    | nil => trivial
    | cons => exact hdn7.elim
   ·exact hdn7.kept fun x hx v hc => h8.but.cellk (by rw [(danRefs_mem hx).1]; exact hdg hz) hc
  ·have := (hoA _ hm).1
   have := hdl7 hz
   simp only at *
   omega
  ·intro r hr
   rcases List.mem_append.1 hr with hr | hr
   ·exact (hoA _ (phRefs_own hr)).2
   ·obtain ⟨e1, _, e3, _⟩ := danRefs_mem hr
    rw [e1]; exact (hdz e3).2.2.but h8.but (hdg e3)
  ·intro r hr
   rcases List.mem_append.1 hr with hr | hr
   ·have := (hoA _ (phRefs_own hr)).1
    have := hbase7.size
    exact ⟨by omega, by omega, by omega, by omega⟩
   ·obtain ⟨e1, _, e3, _⟩ := danRefs_mem hr
    rw [e1]
    have h1 := (hdz e3).2.1
    have h2 := hbase.size
    simp only
    exact ⟨by omega, by omega, by omega, by omega⟩
  ·intro c hc
   have := (hoA _ hc).1
   omega
theorem res_tail5 (s : Ls) (ns : List Int) (w0 : World) (hA : s.At w0) (hN : NsAt w0 s.refs ns) (hlims : s.strip.lims = true) (hnamed : s.strip.named = true)
  (B1 X E TB MT mR mP : Nat) (W : World) (h : R5 s w0 B1 X E TB MT mR mP W)
  (e0 e5 e6 e7 e8 e9 e10 e11 e12 e13 e14 e15 e16 e17 e18 e19 e20 e21 e22 e23 e24 e25 e26 e27 e28 e29 e30 e31 e32 e33 e34 e35 e36 e37 e38 e39 e40 e41 e42 e43 e44 e45 e46 e47 e48 e49 e50 e51 e52 e53 e54 e55 e56 e57 e58 e59 e60 e61 e62 e63 e64 e65 e66 e67 e68 e69 e70 e71 e72 e73 e74 e75 e76 e77 e78 e79 e80 e81 e82 e83 e84 e85 e86 e87 e88 e89 e90 e91 e92 e93 e94 e95 e96 e97 e98 : Value) :
  wpAt 15 Try.prog (lastPart 5 code15) (bodyPostM Fence.wide 0 Try.prog Try.f15 (ResP s ns w0)) { tmps := #[e0, .pointer (some ⟨B1, 0, none⟩), .pointer (some ⟨X, 0, none⟩), .pointer (some ⟨E, 0, none⟩), .pointer (some ⟨TB, 0, none⟩), e5, e6, e7, e8, e9, e10, e11, e12, e13, e14, e15, e16, e17, e18, e19, e20, e21, e22, e23, e24, e25, e26, e27, e28, e29, e30, e31, e32, e33, e34, e35, e36, e37, e38, e39, e40, e41, e42, e43, e44, e45, e46, e47, e48, e49, e50, e51, e52, e53, e54, e55, e56, e57, e58, e59, e60, e61, e62, e63, e64, e65, e66, e67, e68, e69, e70, e71, e72, e73, e74, e75, e76, e77, e78, e79, e80, e81, e82, e83, e84, e85, e86, e87, e88, e89, e90, e91, e92, e93, e94, e95, e96, e97, e98], defers := [dfr X E] } W := by
 obtain ⟨n1, n2, hns, hN1, hN2⟩ := NsAt.split (xs := phRefs s.phrases) hN
 obtain ⟨lp, ld, _, lsm⟩ := lims_small hlims
 have hXE : X ≠ E := fun e => by have := h.x; rw [e, h.e] at this; cases this
 have hXT : TB ≠ X := fun e => by have := h.x; rw [← e, h.tb] at this; simp at this
 have hapI : s.strip.apart = true ↔ (s.roles.map Rol.name).Nodup ∧ (s.phrases.map Ph.name).Nodup := by
  unfold Sc.apart
  rw [rnames_strip, pnames_strip]
  simp
 rw [step5]
 refine wpAt_seq_wp (fun K hK => ?_)
 refine res_e5 s _ _ B1 X E TB MT mR mP _ _ rfl rfl _ W h.b1 h.tb h.mt h.mr h.mp K _ ?_ ?_ _ _ _ _ _ _ _ _ _ _ _ _ _ _ _ _ _ _ _ _ _ _ _ _ _ _ _ _ _ _ _ _ _ _ _ _ _ _ _ _ _ _ _ _ _ _ _ _ _ _ _ _ _ _ _ _ _ _ _ _ _ _ _ _ _ _ _ _ _ _ _ _ _ _ _ _ _ _ _ _ _ _ _ _ _ _ _ _ _ _ _ _ _ _ _
 ·intro lR lP
  have hap : s.strip.apart = true := hapI.2 ⟨tabOf_len.1 (by rw [lR]; simp), tabOf_len.1 (by rw [lP]; simp)⟩
  intros
  refine hK _ _ ?_
  rw [step6]
  refine wpAt_seq_wp (fun K hK => ?_)
  refine wp_mono (res_e6 s B1 X E TB zeroSc rfl _ W h.b1 h.x K ?_ _ _ _ _ _ _ _ _ _ _ _ _ _ _ _ _ _ _ _ _ _ _ _ _ _ _ _ _ _ _ _ _ _ _ _ _ _ _ _ _ _ _ _ _ _ _ _ _ _ _ _ _ _ _ _ _ _ _ _ _ _ _ _ _ _ _ _ _ _ _ _ _ _ _ _ _ _ _ _ _ _ _ _ _ _ _ _ _ _ _ _ _ _ _ _) then_mono
  intro W6 g6 o6 b6 s6
  intros
  refine hK _ _ ?_
  rw [step7]
  refine wpAt_seq_wp (fun K hK => ?_)
  have hb6 : Below w0.heap.size w0 W6 := b6 _ _ h.base h.ge.1
  refine wp_mono (res_r7 s n2 B1 X E TB _ W6 ((o6 _ h.ne).trans h.b1) g6 (fun b hb e => by have := phOwn_lt hA.phrases b hb; have := h.ge.1; omega) (hA.below hb6) (hN2.below hb6) (by omega) (by omega) K ?_ _ _ _ _ _ _ _ _ _ _ _ _ _ _ _ _ _ _ _ _ _ _ _ _ _ _ _ _ _ _ _ _ _ _ _ _ _ _ _ _ _ _ _ _ _ _ _ _ _ _ _ _ _ _ _ _ _ _ _ _ _ _ _ _ _ _ _ _ _ _ _ _ _ _ _ _ _ _ _ _ _ _ _ _ _ _ _ _ _ _ _ _ _ _ _) then_mono
  intro fa fc da dc W7 h7
  intros
  refine hK _ _ ?_
  have hmm : ∀ {κ : Type} [DecidableEq κ] {f : κ → Value} {b : Nat} {kvs : List (κ × Value)}, MapAt f W b kvs → MapAt f W6 b kvs := fun hm => hm.of_block (o6 _ (hm.ne h.x))
  refine res_tail8 s ns n1 n2 w0 hA hns hlims hnamed hap B1 X E TB MT mR mP W6 W7 ((o6 _ hXE.symm).trans h.e) ((o6 _ hXT).trans h.tb) g6 ?_ (hmm h.mr) (hmm h.mp) hb6 h.ge hN1 fa da fc dc h7 _ _ _ _ _ _ _ _ _ _ _ _ _ _ _ _ _ _ _ _ _ _ _ _ _ _ _ _ _ _ _ _ _ _ _ _ _ _ _ _ _ _ _ _ _ _ _ _ _ _ _ _ _ _ _ _ _ _ _ _ _ _ _ _ _ _ _ _ _ _ _ _ _ _ _ _ _ _ _ _ _ _ _ _ _ _ _ _ _ _ _ _ _ _ _
  obtain ⟨kvs, m1, m2, m3⟩ := h.mt
  exact ⟨kvs, hmm m1, m2, m3⟩
 ·intro hbad
  have hap : s.strip.apart = false := by
   cases hc : s.strip.apart with
   | false => rfl
   | true =>
    obtain ⟨a1, a2⟩ := hapI.1 hc
    exact absurd ⟨by simpa using tabOf_len.2 a1, by simpa using tabOf_len.2 a2⟩ hbad
  have hE : resE s.strip ns = 171 := by unfold resE; rw [hlims, hnamed, hap]; rfl
  intros
  refine leave_err _ X E 171 _ _ _ W rfl rfl h.x rfl h.e hXE fun W' hB => ⟨Or.inr ?_, h.base.trans (hB _ h.ge.1 h.ge.2.1)⟩
  rw [hE]
  exact ⟨by decide, rfl⟩
end Go.Proofs.Ytpnbpepkoekkoaa
end
section
namespace Go.Proofs.Ytpnbpepkoekkoaa
open Go Go.RowKit Go.Shelf Go.Deep
noncomputable def elem15n4 : Code := match lastPart 4 code15 with
 | .seq a _ => a
 | c => c
def Err4 (s : Ls) (X E : Nat) (ds : List Deferred) (wb : World) : Exit → Act → World → Prop := fun e a W =>
 e = .panic (errChain 170) ∧ a.tmps.getD 2 undef = .pointer (some ⟨X, 0, none⟩) ∧ a.tmps.getD 3 undef = .pointer (some ⟨E, 0, none⟩) ∧ a.defers = ds ∧ Below wb.heap.size wb W ∧ ((s.roles.map Rol.name).all nameB = false ∨ (s.phrases.map Ph.name).all nameB = false)
theorem err4_put {s : Ls} {X E : Nat} {ds : List Deferred} {wb : World} {K : Act → World → Prop} {k : Nat} {v : Value} (h2 : k ≠ 2) (h3 : k ≠ 3) (c : List PanicEntry) (a : Act) (w : World) (h : Exit.then K (Err4 s X E ds wb) (.panic c) (a.put (some k) v) w) : Exit.then K (Err4 s X E ds wb) (.panic c) a w := by
 obtain ⟨h1, h4, h5, h6, h7, h8⟩ := h
 refine ⟨h1, ?_, ?_, h6, h7, h8⟩
 ·rw [← h4]; simp [Act.put, Array.getD_eq_getD_getElem?, Array.getElem?_setIfInBounds_ne h2]
 ·rw [← h5]; simp [Act.put, Array.getD_eq_getD_getElem?, Array.getElem?_setIfInBounds_ne h3]
set_option maxRecDepth 100000 in
set_option maxHeartbeats 8000000 in
theorem res_e4 (s : Ls) (B1 X E : Nat) (ds : List Deferred) (Wb : World) (hB : Wb.heap[B1]? = some (.cells s.cells 30 (0, 0))) (hA : s.At Wb) (he : Env Wb) (K : Act → World → Prop)
  (hK : ∀ (MT mR mP TB : Nat) (W : World), Below Wb.heap.size Wb W → Wb.heap.size ≤ TB → (s.roles.map Rol.name).all nameB = true → (s.phrases.map Ph.name).all nameB = true → W.heap[TB]? = some (.cells #[.map (some MT)] 98 (0, 0)) → (∃ kvs : List (Int × Value), MapAt kI W MT kvs ∧ kvGet kvs 1 = some (.map (some mR)) ∧ kvGet kvs 2 = some (.map (some mP))) → MapAt sv W mR (tabOf (s.roles.map Rol.name)) → MapAt sv W mP (tabOf (s.phrases.map Ph.name)) →
   ∀ (f0 f5 f6 f7 f8 f9 f10 f11 f12 f13 f14 f15 f16 f17 f18 f19 f20 f21 f22 f23 f24 f25 f26 f27 f28 f29 f30 f31 f32 f33 f34 f35 f36 f37 f38 f39 f40 f41 f42 f43 f44 f45 f46 f47 f48 f49 f50 f51 f52 f53 f54 f55 f56 f57 f58 f59 f60 f61 f62 f63 f64 f65 f66 f67 f68 f69 f70 f71 f72 f73 f74 f75 f76 f77 f78 f79 f80 f81 f82 f83 f84 f85 f86 f87 f88 f89 f90 f91 f92 f93 f94 f95 f96 f97 f98 : Value), K { tmps := #[f0, .pointer (some ⟨B1, 0, none⟩), .pointer (some ⟨X, 0, none⟩), .pointer (some ⟨E, 0, none⟩), .pointer (some ⟨TB, 0, none⟩), f5, f6, f7, f8, f9, f10, f11, f12, f13, f14, f15, f16, f17, f18, f19, f20, f21, f22, f23, f24, f25, f26, f27, f28, f29, f30, f31, f32, f33, f34, f35, f36, f37, f38, f39, f40, f41, f42, f43, f44, f45, f46, f47, f48, f49, f50, f51, f52, f53, f54, f55, f56, f57, f58, f59, f60, f61, f62, f63, f64, f65, f66, f67, f68, f69, f70, f71, f72, f73, f74, f75, f76, f77, f78, f79, f80, f81, f82, f83, f84, f85, f86, f87, f88, f89, f90, f91, f92, f93, f94, f95, f96, f97, f98], defers := ds } W)
  (e0 e4 e5 e6 e7 e8 e9 e10 e11 e12 e13 e14 e15 e16 e17 e18 e19 e20 e21 e22 e23 e24 e25 e26 e27 e28 e29 e30 e31 e32 e33 e34 e35 e36 e37 e38 e39 e40 e41 e42 e43 e44 e45 e46 e47 e48 e49 e50 e51 e52 e53 e54 e55 e56 e57 e58 e59 e60 e61 e62 e63 e64 e65 e66 e67 e68 e69 e70 e71 e72 e73 e74 e75 e76 e77 e78 e79 e80 e81 e82 e83 e84 e85 e86 e87 e88 e89 e90 e91 e92 e93 e94 e95 e96 e97 e98 : Value) :
  elem15n4.wp Try.prog (Exit.then K (Err4 s X E ds Wb)) { tmps := #[e0, .pointer (some ⟨B1, 0, none⟩), .pointer (some ⟨X, 0, none⟩), .pointer (some ⟨E, 0, none⟩), e4, e5, e6, e7, e8, e9, e10, e11, e12, e13, e14, e15, e16, e17, e18, e19, e20, e21, e22, e23, e24, e25, e26, e27, e28, e29, e30, e31, e32, e33, e34, e35, e36, e37, e38, e39, e40, e41, e42, e43, e44, e45, e46, e47, e48, e49, e50, e51, e52, e53, e54, e55, e56, e57, e58, e59, e60, e61, e62, e63, e64, e65, e66, e67, e68, e69, e70, e71, e72, e73, e74, e75, e76, e77, e78, e79, e80, e81, e82, e83, e84, e85, e86, e87, e88, e89, e90, e91, e92, e93, e94, e95, e96, e97, e98], defers := ds } Wb := by
 have hB' := hB
 unfold Ls.cells at hB'
 have c6 := cell_at hB' 6 rfl; have c10 := cell_at hB' 10 rfl
 have hG : R4G B1 X E s.ra s.fa s.rc s.fc s.roles s.phrases ds Wb (Exit.then K (Err4 s X E ds Wb)) := by
  refine ⟨fun hb => ⟨keep_cell hb c6, keep_cell hb c10⟩, fun W hb => ?_, fun W hb => ?_, fun t d W hb hbad h2 h3 hd => ⟨rfl, h2, h3, hd, hb, hbad⟩, ?_⟩
  ·exact table41 s.roles s.ra s.rc W (he.below hb) (hA.roles.below hb (Nat.le_refl _))
  ·exact table43 s.phrases s.fa s.fc W (he.below hb) ⟨hA.pform, hA.plen, phAt_below hb hA.phrases⟩
  ·intro W hb MT mR mP TB kvs _ _ _ gT hM h1 h2 hR hP okR okP hT g0 g5 g6 g7 g8 g9 g10 g11 g12 g13 g14 g15 g16 g25 g26 g27 g28 g29 g30 g31 g32 g33 g34 g35 g36 g37 g38 g39 g40 g41 g42 g43 g44 g45 g46 g47 g48 g49 g50 g51 g52 g53 g54 g55 g56 g57 g58 g59 g60 g61 g62 g63 g64 g65 g66 g67 g68 g69 g70 g71 g72 g73 g74 g75 g76 g77 g78 g79 g80 g81 g82 g83 g84 g85 g86 g87 g88 g89 g90 g91 g92 g93 g94 g95 g96 g97 g98
   exact hK MT mR mP TB W hb gT okR okP hT ⟨kvs, hM, h1, h2⟩ hR hP _ _ _ _ _ _ _ _ _ _ _ _ _ _ _ _ _ _ _ _ _ _ _ _ _ _ _ _ _ _ _ _ _ _ _ _ _ _ _ _ _ _ _ _ _ _ _ _ _ _ _ _ _ _ _ _ _ _ _ _ _ _ _ _ _ _ _ _ _ _ _ _ _ _ _ _ _ _ _ _ _ _ _ _ _ _ _ _ _ _ _ _ _ _ _
 have hS : R4S B1 s.ra s.fa s.rc s.fc s.roles.length s.phrases.length Wb := hG.s (Below.refl _ _)
 have HN := r4_none B1 X E s.ra s.fa s.rc s.fc s.roles s.phrases Wb hG (Wb.drew) (below_drewN (Below.refl _ _) 1)
 have HNN := Lib.hid HN
 clear HN hG hK hB hB' hA he c6 c10
 unfold elem15n4 code15
 conv => arg 2; whnf
 refine wp_region_held (S := R4S B1 s.ra s.fa s.rc s.fc s.roles.length s.phrases.length) (by kernel_rfl) ?_
 change wpAnyH _ _ _ _ _ _ _ _ Wb.drew
 refine wpAnyH_take (i := 1) (oi := _) (v := .pointer (some ⟨B1, 6, none⟩)) rfl (by kernel_rfl) (by kernel_rfl) (by kernel_rfl) (err4_put (k := 18) (by omega) (by omega)) (Or.inl ⟨by kernel_rfl, fun w hw => by go_simp⟩) hS ?_
 simp only [Act.put, List.getElem_toArray, List.getElem_cons_zero, List.getElem_cons_succ, List.setIfInBounds_toArray, List.set_cons_zero, List.set_cons_succ]
 refine wpAnyH_take (i := 2) (oi := _) (v := .slice s.ra s.roles.length s.rc) rfl (by kernel_rfl) (by kernel_rfl) (by kernel_rfl) (err4_put (k := 19) (by omega) (by omega)) (Or.inl ⟨by kernel_rfl, fun w hw => by have h6 := hw.1; go_simp⟩) hS ?_
 simp only [Act.put, List.getElem_toArray, List.getElem_cons_zero, List.getElem_cons_succ, List.setIfInBounds_toArray, List.set_cons_zero, List.set_cons_succ]
 refine wpAnyH_take (i := 5) (oi := _) (v := .pointer (some ⟨B1, 10, none⟩)) rfl (by kernel_rfl) (by kernel_rfl) (by kernel_rfl) (err4_put (k := 21) (by omega) (by omega)) (Or.inl ⟨by kernel_rfl, fun w hw => by go_simp⟩) hS ?_
 simp only [Act.put, List.getElem_toArray, List.getElem_cons_zero, List.getElem_cons_succ, List.setIfInBounds_toArray, List.set_cons_zero, List.set_cons_succ]
 refine wpAnyH_take (i := 6) (oi := _) (v := .slice s.fa s.phrases.length s.fc) rfl (by kernel_rfl) (by kernel_rfl) (by kernel_rfl) (err4_put (k := 22) (by omega) (by omega)) (Or.inl ⟨by kernel_rfl, fun w hw => by have h10 := hw.2; go_simp⟩) hS ?_
 simp only [Act.put, List.getElem_toArray, List.getElem_cons_zero, List.getElem_cons_succ, List.setIfInBounds_toArray, List.set_cons_zero, List.set_cons_succ]
 exact HNN.out _ _ _ _ _ _ _ _ _ _ _ _ _ _ _ _ _ _ _ _ _ _ _ _ _ _ _ _ _ _ _ _ _ _ _ _ _ _ _ _ _ _ _ _ _ _ _ _ _ _ _ _ _ _ _ _ _ _ _ _ _ _ _ _ _ _ _ _ _ _ _ _ _ _ _ _ _ _ _ _ _ _ _ _ _ _ _ _ _ _ _ _
end Go.Proofs.Ytpnbpepkoekkoaa
end
section
namespace Go.Proofs.Ytpnbpepkoekkoaa
open Go Go.RowKit Go.Shelf
noncomputable def elem15n0 : Code := match lastPart 0 code15 with
 | .seq a _ => a
 | c => c
noncomputable def elem15n1 : Code := match lastPart 1 code15 with
 | .seq a _ => a
 | c => c
noncomputable def elem15n2 : Code := match lastPart 2 code15 with
 | .seq a _ => a
 | c => c
noncomputable def elem15n3 : Code := match lastPart 3 code15 with
 | .seq a _ => a
 | c => c
theorem step0 : code15 = .seq elem15n0 (lastPart 1 code15) := rfl
theorem step1 : lastPart 1 code15 = .seq elem15n1 (lastPart 2 code15) := rfl
theorem step2 : lastPart 2 code15 = .seq elem15n2 (lastPart 3 code15) := rfl
theorem step3 : lastPart 3 code15 = .seq elem15n3 (lastPart 4 code15) := rfl
theorem step4 : lastPart 4 code15 = .seq elem15n4 (lastPart 5 code15) := rfl
theorem mk_cells (w : World) (xs : Array Value) (t : TypeId) : ∃ w', w.alloc (.cells xs t) = w' ∧ w'.heap[w.heap.size]? = some (.cells xs t (0, 0)) ∧ Below w.heap.size w w' ∧ w'.heap.size = w.heap.size + 1 :=
 ⟨_, rfl, heap_alloc_new w _, (Below.refl w.heap.size w).alloc (Nat.le_refl _) _, by simp⟩
set_option maxRecDepth 100000 in
set_option maxHeartbeats 8000000 in
theorem res_e0 (s : Ls) (W : World) (K : Act → World → Prop)
  (hK : ∀ (W' : World) (B1 X E : Nat), Below W.heap.size W W' → W.heap.size ≤ X → W.heap.size ≤ E → B1 ≠ X → W'.heap[B1]? = some (.cells s.cells 30 (0, 0)) → W'.heap[X]? = some (.cells zeroSc 30 (0, 0)) → W'.heap[E]? = some (.cells #[.int .i64 0] 35 (0, 0)) →
   ∀ (e0 e4 e5 e6 e7 e8 e9 e10 e11 e12 e13 e14 e15 e16 e17 e18 e19 e20 e21 e22 e23 e24 e25 e26 e27 e28 e29 e30 e31 e32 e33 e34 e35 e36 e37 e38 e39 e40 e41 e42 e43 e44 e45 e46 e47 e48 e49 e50 e51 e52 e53 e54 e55 e56 e57 e58 e59 e60 e61 e62 e63 e64 e65 e66 e67 e68 e69 e70 e71 e72 e73 e74 e75 e76 e77 e78 e79 e80 e81 e82 e83 e84 e85 e86 e87 e88 e89 e90 e91 e92 e93 e94 e95 e96 e97 e98 : Value), K { tmps := #[e0, .pointer (some ⟨B1, 0, none⟩), .pointer (some ⟨X, 0, none⟩), .pointer (some ⟨E, 0, none⟩), e4, e5, e6, e7, e8, e9, e10, e11, e12, e13, e14, e15, e16, e17, e18, e19, e20, e21, e22, e23, e24, e25, e26, e27, e28, e29, e30, e31, e32, e33, e34, e35, e36, e37, e38, e39, e40, e41, e42, e43, e44, e45, e46, e47, e48, e49, e50, e51, e52, e53, e54, e55, e56, e57, e58, e59, e60, e61, e62, e63, e64, e65, e66, e67, e68, e69, e70, e71, e72, e73, e74, e75, e76, e77, e78, e79, e80, e81, e82, e83, e84, e85, e86, e87, e88, e89, e90, e91, e92, e93, e94, e95, e96, e97, e98], defers := [] } W') :
  elem15n0.wp Try.prog (Exit.then K (fun _ _ _ => False)) { tmps := #[s.val] ++ Array.replicate 98 undef, defers := [] } W := by
 unfold Ls.val
 unfold Ls.cells at hK ⊢
 obtain ⟨W1, x1, g1, b1, s1⟩ := mk_cells W #[sv s.name, .int .i64 s.wd, .int .i64 s.dp, .int .i64 s.bars, .int .i64 s.t0, .int .i64 s.t1, .slice s.ra s.roles.length s.rc, .slice s.ta s.tempos.length s.tc, .slice s.ua s.pauses.length s.uc, .slice s.sa s.spans.length s.sc, .slice s.fa s.phrases.length s.fc, .slice s.da s.dances.length s.dc] 30
 obtain ⟨W2, x2, g2, b2, s2⟩ := mk_cells W1 zeroSc 30
 obtain ⟨W3, x3, g3, b3, s3⟩ := mk_cells W2 #[.int .i64 0] 35
 unfold zeroSc at x2
 have HF := Lib.hid (hK W3 W.heap.size W1.heap.size W2.heap.size (b1.trans ((b2.trans (b3.mono (by omega))).mono (by omega))) (by omega) (by omega) (by omega) (((b2.trans (b3.mono (by omega))).block _ (by omega)).trans g1) ((b3.block _ (by omega)).trans g2) g3)
 clear hK g1 g2 g3 b1 b2 b3 s1 s2 s3
 simp only [Array.replicate]
 unfold elem15n0 code15
 conv => arg 2; whnf
 go_wp2_with fail
 exact HF.out _ _ _ _ _ _ _ _ _ _ _ _ _ _ _ _ _ _ _ _ _ _ _ _ _ _ _ _ _ _ _ _ _ _ _ _ _ _ _ _ _ _ _ _ _ _ _ _ _ _ _ _ _ _ _ _ _ _ _ _ _ _ _ _ _ _ _ _ _ _ _ _ _ _ _ _ _ _ _ _ _ _ _ _ _ _ _ _ _ _ _ _ _ _ _ _
set_option maxRecDepth 100000 in
set_option maxHeartbeats 8000000 in
theorem res_e1 (B1 X E : Nat) (W : World) (K : Act → World → Prop) (hK : ∀ (e0 e4 e5 e6 e7 e8 e9 e10 e11 e12 e13 e14 e15 e16 e17 e18 e19 e20 e21 e22 e23 e24 e25 e26 e27 e28 e29 e30 e31 e32 e33 e34 e35 e36 e37 e38 e39 e40 e41 e42 e43 e44 e45 e46 e47 e48 e49 e50 e51 e52 e53 e54 e55 e56 e57 e58 e59 e60 e61 e62 e63 e64 e65 e66 e67 e68 e69 e70 e71 e72 e73 e74 e75 e76 e77 e78 e79 e80 e81 e82 e83 e84 e85 e86 e87 e88 e89 e90 e91 e92 e93 e94 e95 e96 e97 e98 : Value), K { tmps := #[e0, .pointer (some ⟨B1, 0, none⟩), .pointer (some ⟨X, 0, none⟩), .pointer (some ⟨E, 0, none⟩), e4, e5, e6, e7, e8, e9, e10, e11, e12, e13, e14, e15, e16, e17, e18, e19, e20, e21, e22, e23, e24, e25, e26, e27, e28, e29, e30, e31, e32, e33, e34, e35, e36, e37, e38, e39, e40, e41, e42, e43, e44, e45, e46, e47, e48, e49, e50, e51, e52, e53, e54, e55, e56, e57, e58, e59, e60, e61, e62, e63, e64, e65, e66, e67, e68, e69, e70, e71, e72, e73, e74, e75, e76, e77, e78, e79, e80, e81, e82, e83, e84, e85, e86, e87, e88, e89, e90, e91, e92, e93, e94, e95, e96, e97, e98], defers := [dfr X E] } W) (e0 e4 e5 e6 e7 e8 e9 e10 e11 e12 e13 e14 e15 e16 e17 e18 e19 e20 e21 e22 e23 e24 e25 e26 e27 e28 e29 e30 e31 e32 e33 e34 e35 e36 e37 e38 e39 e40 e41 e42 e43 e44 e45 e46 e47 e48 e49 e50 e51 e52 e53 e54 e55 e56 e57 e58 e59 e60 e61 e62 e63 e64 e65 e66 e67 e68 e69 e70 e71 e72 e73 e74 e75 e76 e77 e78 e79 e80 e81 e82 e83 e84 e85 e86 e87 e88 e89 e90 e91 e92 e93 e94 e95 e96 e97 e98 : Value) :
  elem15n1.wp Try.prog (Exit.then K (fun _ _ _ => False)) { tmps := #[e0, .pointer (some ⟨B1, 0, none⟩), .pointer (some ⟨X, 0, none⟩), .pointer (some ⟨E, 0, none⟩), e4, e5, e6, e7, e8, e9, e10, e11, e12, e13, e14, e15, e16, e17, e18, e19, e20, e21, e22, e23, e24, e25, e26, e27, e28, e29, e30, e31, e32, e33, e34, e35, e36, e37, e38, e39, e40, e41, e42, e43, e44, e45, e46, e47, e48, e49, e50, e51, e52, e53, e54, e55, e56, e57, e58, e59, e60, e61, e62, e63, e64, e65, e66, e67, e68, e69, e70, e71, e72, e73, e74, e75, e76, e77, e78, e79, e80, e81, e82, e83, e84, e85, e86, e87, e88, e89, e90, e91, e92, e93, e94, e95, e96, e97, e98], defers := [] } W := by
 have HF := Lib.hid hK
 clear hK
 dsimp only
 unfold elem15n1 code15
 conv => arg 2; whnf
 go_wp2_with fail
 exact HF.out _ _ _ _ _ _ _ _ _ _ _ _ _ _ _ _ _ _ _ _ _ _ _ _ _ _ _ _ _ _ _ _ _ _ _ _ _ _ _ _ _ _ _ _ _ _ _ _ _ _ _ _ _ _ _ _ _ _ _ _ _ _ _ _ _ _ _ _ _ _ _ _ _ _ _ _ _ _ _ _ _ _ _ _ _ _ _ _ _ _ _ _ _ _ _ _
set_option maxRecDepth 100000 in
set_option maxHeartbeats 8000000 in
theorem res_e2 (s : Ls) (ks : List Int) (B1 X E : Nat) (ds : List Deferred) (W : World) (hB : W.heap[B1]? = some (.cells s.cells 30 (0, 0))) (hA : s.At W) (hN : NsAt W s.refs ks) (K : Act → World → Prop) (Q : Exit → Act → World → Prop)
  (hK : s.strip.lims = true → ∀ W', Below W.heap.size W W' → ∀ (e0 e4 e5 e6 e7 e8 e9 e10 e11 e12 e13 e14 e15 e16 e17 e18 e19 e20 e21 e22 e23 e24 e25 e26 e27 e28 e29 e30 e31 e32 e33 e34 e35 e36 e37 e38 e39 e40 e41 e42 e43 e44 e45 e46 e47 e48 e49 e50 e51 e52 e53 e54 e55 e56 e57 e58 e59 e60 e61 e62 e63 e64 e65 e66 e67 e68 e69 e70 e71 e72 e73 e74 e75 e76 e77 e78 e79 e80 e81 e82 e83 e84 e85 e86 e87 e88 e89 e90 e91 e92 e93 e94 e95 e96 e97 e98 : Value), K { tmps := #[e0, .pointer (some ⟨B1, 0, none⟩), .pointer (some ⟨X, 0, none⟩), .pointer (some ⟨E, 0, none⟩), e4, e5, e6, e7, e8, e9, e10, e11, e12, e13, e14, e15, e16, e17, e18, e19, e20, e21, e22, e23, e24, e25, e26, e27, e28, e29, e30, e31, e32, e33, e34, e35, e36, e37, e38, e39, e40, e41, e42, e43, e44, e45, e46, e47, e48, e49, e50, e51, e52, e53, e54, e55, e56, e57, e58, e59, e60, e61, e62, e63, e64, e65, e66, e67, e68, e69, e70, e71, e72, e73, e74, e75, e76, e77, e78, e79, e80, e81, e82, e83, e84, e85, e86, e87, e88, e89, e90, e91, e92, e93, e94, e95, e96, e97, e98], defers := ds } W')
  (hbad : s.strip.lims = false → ∀ W', Below W.heap.size W W' → ∀ (e0 e4 e5 e6 e7 e8 e9 e10 e11 e12 e13 e14 e15 e16 e17 e18 e19 e20 e21 e22 e23 e24 e25 e26 e27 e28 e29 e30 e31 e32 e33 e34 e35 e36 e37 e38 e39 e40 e41 e42 e43 e44 e45 e46 e47 e48 e49 e50 e51 e52 e53 e54 e55 e56 e57 e58 e59 e60 e61 e62 e63 e64 e65 e66 e67 e68 e69 e70 e71 e72 e73 e74 e75 e76 e77 e78 e79 e80 e81 e82 e83 e84 e85 e86 e87 e88 e89 e90 e91 e92 e93 e94 e95 e96 e97 e98 : Value), Q (.panic (errChain 2)) { tmps := #[e0, .pointer (some ⟨B1, 0, none⟩), .pointer (some ⟨X, 0, none⟩), .pointer (some ⟨E, 0, none⟩), e4, e5, e6, e7, e8, e9, e10, e11, e12, e13, e14, e15, e16, e17, e18, e19, e20, e21, e22, e23, e24, e25, e26, e27, e28, e29, e30, e31, e32, e33, e34, e35, e36, e37, e38, e39, e40, e41, e42, e43, e44, e45, e46, e47, e48, e49, e50, e51, e52, e53, e54, e55, e56, e57, e58, e59, e60, e61, e62, e63, e64, e65, e66, e67, e68, e69, e70, e71, e72, e73, e74, e75, e76, e77, e78, e79, e80, e81, e82, e83, e84, e85, e86, e87, e88, e89, e90, e91, e92, e93, e94, e95, e96, e97, e98], defers := ds } W')
  (e0 e4 e5 e6 e7 e8 e9 e10 e11 e12 e13 e14 e15 e16 e17 e18 e19 e20 e21 e22 e23 e24 e25 e26 e27 e28 e29 e30 e31 e32 e33 e34 e35 e36 e37 e38 e39 e40 e41 e42 e43 e44 e45 e46 e47 e48 e49 e50 e51 e52 e53 e54 e55 e56 e57 e58 e59 e60 e61 e62 e63 e64 e65 e66 e67 e68 e69 e70 e71 e72 e73 e74 e75 e76 e77 e78 e79 e80 e81 e82 e83 e84 e85 e86 e87 e88 e89 e90 e91 e92 e93 e94 e95 e96 e97 e98 : Value) :
  elem15n2.wp Try.prog (Exit.then K Q) { tmps := #[e0, .pointer (some ⟨B1, 0, none⟩), .pointer (some ⟨X, 0, none⟩), .pointer (some ⟨E, 0, none⟩), e4, e5, e6, e7, e8, e9, e10, e11, e12, e13, e14, e15, e16, e17, e18, e19, e20, e21, e22, e23, e24, e25, e26, e27, e28, e29, e30, e31, e32, e33, e34, e35, e36, e37, e38, e39, e40, e41, e42, e43, e44, e45, e46, e47, e48, e49, e50, e51, e52, e53, e54, e55, e56, e57, e58, e59, e60, e61, e62, e63, e64, e65, e66, e67, e68, e69, e70, e71, e72, e73, e74, e75, e76, e77, e78, e79, e80, e81, e82, e83, e84, e85, e86, e87, e88, e89, e90, e91, e92, e93, e94, e95, e96, e97, e98], defers := ds } W := by
 have C := len_any s ks W hA hN
 unfold Ls.val at C
 unfold Ls.cells at hB C
 have y0 := cell_at hB 0 rfl; have y1 := cell_at hB 1 rfl; have y2 := cell_at hB 2 rfl; have y3 := cell_at hB 3 rfl; have y4 := cell_at hB 4 rfl; have y5 := cell_at hB 5 rfl; have y6 := cell_at hB 6 rfl; have y7 := cell_at hB 7 rfl; have y8 := cell_at hB 8 rfl; have y9 := cell_at hB 9 rfl; have y10 := cell_at hB 10 rfl; have y11 := cell_at hB 11 rfl
 have HK := Lib.hid hK; have HBAD := Lib.hid hbad; have HC := Lib.hid C
 clear hK hbad C hB hA hN
 dsimp only
 unfold elem15n2 code15
 conv => arg 2; whnf
 go_wp2_with (go_at_call 38; refine HC.out.mono ?_; unfold LensP errPanic; rintro e w' ⟨(⟨hl, rfl⟩ | ⟨hl, rfl⟩), hb⟩)
 ·exact HK.out hl _ hb _ _ _ _ _ _ _ _ _ _ _ _ _ _ _ _ _ _ _ _ _ _ _ _ _ _ _ _ _ _ _ _ _ _ _ _ _ _ _ _ _ _ _ _ _ _ _ _ _ _ _ _ _ _ _ _ _ _ _ _ _ _ _ _ _ _ _ _ _ _ _ _ _ _ _ _ _ _ _ _ _ _ _ _ _ _ _ _ _ _ _ _ _ _ _ _
 ·exact HBAD.out hl _ hb _ _ _ _ _ _ _ _ _ _ _ _ _ _ _ _ _ _ _ _ _ _ _ _ _ _ _ _ _ _ _ _ _ _ _ _ _ _ _ _ _ _ _ _ _ _ _ _ _ _ _ _ _ _ _ _ _ _ _ _ _ _ _ _ _ _ _ _ _ _ _ _ _ _ _ _ _ _ _ _ _ _ _ _ _ _ _ _ _ _ _ _ _ _ _ _
set_option maxRecDepth 100000 in
set_option maxHeartbeats 8000000 in
theorem res_e3 (s : Ls) (B1 X E : Nat) (ds : List Deferred) (W : World) (hB : W.heap[B1]? = some (.cells s.cells 30 (0, 0))) (he : Env W) (K : Act → World → Prop) (Q : Exit → Act → World → Prop)
  (hK : nameB s.name = true → ∀ W', Below W.heap.size W W' → ∀ (e0 e4 e5 e6 e7 e8 e9 e10 e11 e12 e13 e14 e15 e16 e17 e18 e19 e20 e21 e22 e23 e24 e25 e26 e27 e28 e29 e30 e31 e32 e33 e34 e35 e36 e37 e38 e39 e40 e41 e42 e43 e44 e45 e46 e47 e48 e49 e50 e51 e52 e53 e54 e55 e56 e57 e58 e59 e60 e61 e62 e63 e64 e65 e66 e67 e68 e69 e70 e71 e72 e73 e74 e75 e76 e77 e78 e79 e80 e81 e82 e83 e84 e85 e86 e87 e88 e89 e90 e91 e92 e93 e94 e95 e96 e97 e98 : Value), K { tmps := #[e0, .pointer (some ⟨B1, 0, none⟩), .pointer (some ⟨X, 0, none⟩), .pointer (some ⟨E, 0, none⟩), e4, e5, e6, e7, e8, e9, e10, e11, e12, e13, e14, e15, e16, e17, e18, e19, e20, e21, e22, e23, e24, e25, e26, e27, e28, e29, e30, e31, e32, e33, e34, e35, e36, e37, e38, e39, e40, e41, e42, e43, e44, e45, e46, e47, e48, e49, e50, e51, e52, e53, e54, e55, e56, e57, e58, e59, e60, e61, e62, e63, e64, e65, e66, e67, e68, e69, e70, e71, e72, e73, e74, e75, e76, e77, e78, e79, e80, e81, e82, e83, e84, e85, e86, e87, e88, e89, e90, e91, e92, e93, e94, e95, e96, e97, e98], defers := ds } W')
  (hbad : nameB s.name = false → ∀ W', Below W.heap.size W W' → ∀ (e0 e4 e5 e6 e7 e8 e9 e10 e11 e12 e13 e14 e15 e16 e17 e18 e19 e20 e21 e22 e23 e24 e25 e26 e27 e28 e29 e30 e31 e32 e33 e34 e35 e36 e37 e38 e39 e40 e41 e42 e43 e44 e45 e46 e47 e48 e49 e50 e51 e52 e53 e54 e55 e56 e57 e58 e59 e60 e61 e62 e63 e64 e65 e66 e67 e68 e69 e70 e71 e72 e73 e74 e75 e76 e77 e78 e79 e80 e81 e82 e83 e84 e85 e86 e87 e88 e89 e90 e91 e92 e93 e94 e95 e96 e97 e98 : Value), Q (.panic (errChain 170)) { tmps := #[e0, .pointer (some ⟨B1, 0, none⟩), .pointer (some ⟨X, 0, none⟩), .pointer (some ⟨E, 0, none⟩), e4, e5, e6, e7, e8, e9, e10, e11, e12, e13, e14, e15, e16, e17, e18, e19, e20, e21, e22, e23, e24, e25, e26, e27, e28, e29, e30, e31, e32, e33, e34, e35, e36, e37, e38, e39, e40, e41, e42, e43, e44, e45, e46, e47, e48, e49, e50, e51, e52, e53, e54, e55, e56, e57, e58, e59, e60, e61, e62, e63, e64, e65, e66, e67, e68, e69, e70, e71, e72, e73, e74, e75, e76, e77, e78, e79, e80, e81, e82, e83, e84, e85, e86, e87, e88, e89, e90, e91, e92, e93, e94, e95, e96, e97, e98], defers := ds } W')
  (e0 e4 e5 e6 e7 e8 e9 e10 e11 e12 e13 e14 e15 e16 e17 e18 e19 e20 e21 e22 e23 e24 e25 e26 e27 e28 e29 e30 e31 e32 e33 e34 e35 e36 e37 e38 e39 e40 e41 e42 e43 e44 e45 e46 e47 e48 e49 e50 e51 e52 e53 e54 e55 e56 e57 e58 e59 e60 e61 e62 e63 e64 e65 e66 e67 e68 e69 e70 e71 e72 e73 e74 e75 e76 e77 e78 e79 e80 e81 e82 e83 e84 e85 e86 e87 e88 e89 e90 e91 e92 e93 e94 e95 e96 e97 e98 : Value) :
  elem15n3.wp Try.prog (Exit.then K Q) { tmps := #[e0, .pointer (some ⟨B1, 0, none⟩), .pointer (some ⟨X, 0, none⟩), .pointer (some ⟨E, 0, none⟩), e4, e5, e6, e7, e8, e9, e10, e11, e12, e13, e14, e15, e16, e17, e18, e19, e20, e21, e22, e23, e24, e25, e26, e27, e28, e29, e30, e31, e32, e33, e34, e35, e36, e37, e38, e39, e40, e41, e42, e43, e44, e45, e46, e47, e48, e49, e50, e51, e52, e53, e54, e55, e56, e57, e58, e59, e60, e61, e62, e63, e64, e65, e66, e67, e68, e69, e70, e71, e72, e73, e74, e75, e76, e77, e78, e79, e80, e81, e82, e83, e84, e85, e86, e87, e88, e89, e90, e91, e92, e93, e94, e95, e96, e97, e98], defers := ds } W := by
 unfold Ls.cells at hB
 have y0 := cell_at hB 0 rfl
 obtain ⟨W1, x1, g1, b1, s1⟩ := mk_cells W #[sv s.name] 9
 have C := table39 [s.name] (some ⟨W.heap.size, 0, none⟩) 1 W1 (he.below b1) ⟨W.heap.size, 0, rfl, by simp [maxLen], fun i x hi => by
  match i, hi with
  | 0, hi => simp at hi; subst hi; exact cell_at g1 0 rfl⟩
 have C2 : Calls Try.prog 39 #[.slice (some ⟨W.heap.size, 0, none⟩) 1 1, .func (.func 40) #[] #[]] W1 fun e w' => ((nameB s.name = true ∧ ∃ b, e = .returned (.map (some b))) ∨ (nameB s.name = false ∧ e = errPanic 170)) ∧ Below W.heap.size W w' := by
  refine C.mono ?_
  rintro e w' ⟨h, hb⟩
  refine ⟨?_, b1.trans (hb.mono b1.size)⟩
  rcases h with ⟨h1, b, _, h2, _⟩ | ⟨h1, h2⟩
  ·exact Or.inl ⟨by simpa using h1, b, h2⟩
  ·exact Or.inr ⟨by simpa using h1, h2⟩
 have HK := Lib.hid hK; have HBAD := Lib.hid hbad; have HC := Lib.hid C2
 clear hK hbad C C2 hB he g1 b1 s1
 dsimp only
 unfold elem15n3 code15
 conv => arg 2; whnf
 go_wp2_with (go_at_call 39; refine HC.out.mono ?_; unfold errPanic; rintro e w' ⟨(⟨hl, b, rfl⟩ | ⟨hl, rfl⟩), hb⟩)
 ·exact HK.out hl _ hb _ _ _ _ _ _ _ _ _ _ _ _ _ _ _ _ _ _ _ _ _ _ _ _ _ _ _ _ _ _ _ _ _ _ _ _ _ _ _ _ _ _ _ _ _ _ _ _ _ _ _ _ _ _ _ _ _ _ _ _ _ _ _ _ _ _ _ _ _ _ _ _ _ _ _ _ _ _ _ _ _ _ _ _ _ _ _ _ _ _ _ _ _ _ _ _
 ·exact HBAD.out hl _ hb _ _ _ _ _ _ _ _ _ _ _ _ _ _ _ _ _ _ _ _ _ _ _ _ _ _ _ _ _ _ _ _ _ _ _ _ _ _ _ _ _ _ _ _ _ _ _ _ _ _ _ _ _ _ _ _ _ _ _ _ _ _ _ _ _ _ _ _ _ _ _ _ _ _ _ _ _ _ _ _ _ _ _ _ _ _ _ _ _ _ _ _ _ _ _ _
theorem res_any (s : Ls) (ns : List Int) (w : World) (hA : s.At w) (hN : NsAt w s.refs ns) (he : Env w) : Calls Try.prog 15 #[s.val] w (ResP s ns w) := by
 refine calls_of_wpAt Try.func15 (c := code15) rfl ?_
 have fit1 : ∀ c : Int, resE s.strip ns = c → c ≠ 0 → ∀ (B1 X E : Nat) (W : World) (v : Value) (t : Array Value) (xs : Array Value), t.getD 2 undef = .pointer (some ⟨X, 0, none⟩) → t.getD 3 undef = .pointer (some ⟨E, 0, none⟩) → W.heap[X]? = some (.cells xs 30 (0, 0)) → xs.size = 12 → W.heap[E]? = some (.cells #[v] 35 (0, 0)) → w.heap.size ≤ X → w.heap.size ≤ E → Below w.heap.size w W →
   bodyPostM Fence.wide 0 Try.prog Try.f15 (ResP s ns w) (.panic (errChain c)) { tmps := t, defers := [dfr X E] } W := by
  intro c hc h0 B1 X E W v t xs h2 h3 hX hs hE gX gE hb
  refine leave_err t X E c v xs _ W h2 h3 hX hs hE (fun e => by rw [e, hE] at hX; simp at hX) fun W' hB => ⟨Or.inr ?_, hb.trans (hB _ gX gE)⟩
  rw [hc]
  exact ⟨h0, rfl⟩
 rw [step0]
 refine wpAt_seq_wp (fun K hK => ?_)
 refine wp_mono (res_e0 s w K ?_) then_mono
 intro W0 B1 X E hb0 gX gE hne hB hX hE
 intros
 refine hK _ _ ?_
 rw [step1]
 refine wpAt_seq_wp (fun K hK => ?_)
 refine wp_mono (res_e1 B1 X E W0 K ?_ _ _ _ _ _ _ _ _ _ _ _ _ _ _ _ _ _ _ _ _ _ _ _ _ _ _ _ _ _ _ _ _ _ _ _ _ _ _ _ _ _ _ _ _ _ _ _ _ _ _ _ _ _ _ _ _ _ _ _ _ _ _ _ _ _ _ _ _ _ _ _ _ _ _ _ _ _ _ _ _ _ _ _ _ _ _ _ _ _ _ _ _ _ _ _ _) then_mono
 intros
 refine hK _ _ ?_
 rw [step2]
 refine wpAt_seq_wp (fun K hK => ?_)
 refine res_e2 s ns B1 X E _ W0 hB (hA.below hb0) (hN.below hb0) K _ ?_ ?_ _ _ _ _ _ _ _ _ _ _ _ _ _ _ _ _ _ _ _ _ _ _ _ _ _ _ _ _ _ _ _ _ _ _ _ _ _ _ _ _ _ _ _ _ _ _ _ _ _ _ _ _ _ _ _ _ _ _ _ _ _ _ _ _ _ _ _ _ _ _ _ _ _ _ _ _ _ _ _ _ _ _ _ _ _ _ _ _ _ _ _ _ _ _ _ _
 ·intro hlims W2 hb2
  intros
  refine hK _ _ ?_
  have o2 : ∀ {b : Nat} {o : Obj}, W0.heap[b]? = some o → W2.heap[b]? = some o := fun h => (hb2.block _ (Array.getElem?_eq_some_iff.1 h).1).trans h
  have hb02 := hb0.trans (hb2.mono hb0.size)
  rw [step3]
  refine wpAt_seq_wp (fun K hK => ?_)
  refine res_e3 s B1 X E _ W2 (o2 hB) (he.below hb02) K _ ?_ ?_ _ _ _ _ _ _ _ _ _ _ _ _ _ _ _ _ _ _ _ _ _ _ _ _ _ _ _ _ _ _ _ _ _ _ _ _ _ _ _ _ _ _ _ _ _ _ _ _ _ _ _ _ _ _ _ _ _ _ _ _ _ _ _ _ _ _ _ _ _ _ _ _ _ _ _ _ _ _ _ _ _ _ _ _ _ _ _ _ _ _ _ _ _ _ _ _
  ·intro hnm W3 hb3
   intros
   refine hK _ _ ?_
   have o3 : ∀ {b : Nat} {o : Obj}, W2.heap[b]? = some o → W3.heap[b]? = some o := fun h => (hb3.block _ (Array.getElem?_eq_some_iff.1 h).1).trans h
   have hb03 := hb02.trans (hb3.mono hb02.size)
   rw [step4]
   refine wpAt_seq_wp (fun K hK => ?_)
   refine wp_mono (res_e4 s B1 X E _ W3 (o3 (o2 hB)) (hA.below hb03) (he.below hb03) K ?_ _ _ _ _ _ _ _ _ _ _ _ _ _ _ _ _ _ _ _ _ _ _ _ _ _ _ _ _ _ _ _ _ _ _ _ _ _ _ _ _ _ _ _ _ _ _ _ _ _ _ _ _ _ _ _ _ _ _ _ _ _ _ _ _ _ _ _ _ _ _ _ _ _ _ _ _ _ _ _ _ _ _ _ _ _ _ _ _ _ _ _ _ _ _ _ _) ?_
   ·intro MT mR mP TB W4 hb4 gT okR okP hT hmt hmr hmp
    intros
    refine hK _ _ ?_
    have o4 : ∀ {b : Nat} {o : Obj}, W3.heap[b]? = some o → W4.heap[b]? = some o := fun h => (hb4.block _ (Array.getElem?_eq_some_iff.1 h).1).trans h
    have hnamed : s.strip.named = true := by
     unfold Sc.named
     rw [rnames_strip, pnames_strip, okR, okP]
     show (nameB s.name && (true && true)) = true
     rw [hnm]; rfl
    exact res_tail5 s ns w hA hN hlims hnamed B1 X E TB MT mR mP W4 ⟨o4 (o3 (o2 hB)), o4 (o3 (o2 hX)), o4 (o3 (o2 hE)), hT, hmt, hmr, hmp, hb03.trans (hb4.mono hb03.size), ⟨gX, gE, Nat.le_trans hb03.size gT⟩, hne⟩ _ _ _ _ _ _ _ _ _ _ _ _ _ _ _ _ _ _ _ _ _ _ _ _ _ _ _ _ _ _ _ _ _ _ _ _ _ _ _ _ _ _ _ _ _ _ _ _ _ _ _ _ _ _ _ _ _ _ _ _ _ _ _ _ _ _ _ _ _ _ _ _ _ _ _ _ _ _ _ _ _ _ _ _ _ _ _ _ _ _ _ _ _ _ _
   ·intro e a W h
    cases e with
    | normal => exact h
    | panic c =>
     obtain ⟨h1, h2, h3, h4, h5, h6⟩ := h
     cases h1
     obtain ⟨t, d⟩ := a
     dsimp only at h4 h2 h3
     subst h4
     have o5 : ∀ {b : Nat} {o : Obj}, W3.heap[b]? = some o → W.heap[b]? = some o := fun h => (h5.block _ (Array.getElem?_eq_some_iff.1 h).1).trans h
     refine fit1 170 ?_ (by decide) B1 X E W _ t _ h2 h3 (o5 (o3 (o2 hX))) rfl (o5 (o3 (o2 hE))) gX gE (hb03.trans (h5.mono hb03.size))
     have hnamed : s.strip.named = false := by
      unfold Sc.named
      rw [rnames_strip, pnames_strip]
      rcases h6 with h | h <;> rw [h] <;> simp
     unfold resE
     rw [hlims, hnamed]; rfl
    | ret => exact absurd h.1 (by simp)
    | outgrown => exact absurd h.1 (by simp)
    | exit _ => exact absurd h.1 (by simp)
    | goto _ => exact absurd h.1 (by simp)
  ·intro hnm W3 hb3
   intros
   have o3 : ∀ {b : Nat} {o : Obj}, W2.heap[b]? = some o → W3.heap[b]? = some o := fun h => (hb3.block _ (Array.getElem?_eq_some_iff.1 h).1).trans h
   refine fit1 170 ?_ (by decide) B1 X E W3 _ _ _ rfl rfl (o3 (o2 hX)) rfl (o3 (o2 hE)) gX gE (hb02.trans (hb3.mono hb02.size))
   have hnamed : s.strip.named = false := by
    unfold Sc.named
    show (nameB s.name && _) = false
    rw [hnm]; rfl
   unfold resE
   rw [hlims, hnamed]; rfl
 ·intro hlims W2 hb2
  intros
  have o2 : ∀ {b : Nat} {o : Obj}, W0.heap[b]? = some o → W2.heap[b]? = some o := fun h => (hb2.block _ (Array.getElem?_eq_some_iff.1 h).1).trans h
  refine fit1 2 ?_ (by decide) B1 X E W2 _ _ _ rfl rfl (o2 hX) rfl (o2 hE) gX gE (hb0.trans (hb2.mono hb0.size))
  unfold resE
  rw [hlims]; rfl
end Go.Proofs.Ytpnbpepkoekkoaa
end
section
namespace Go.Proofs.Ytpnbpepkoekkoaa
open Go Go.RowKit Go.Shelf Go.Deep
theorem info3 : ∃ i, Try.prog.info? 3 = some i ∧ i.zero = some (.int .i64 0) ∧ i.size = 1 ∧ i.bytes = 8 := by
 have h1 : (Try.prog.info? 3).map (·.zero) = some (some (.int .i64 0)) := by kernel_rfl
 have h2 : (Try.prog.info? 3).map (·.size) = some 1 := by kernel_rfl
 have h3 : (Try.prog.info? 3).map (·.bytes) = some 8 := by kernel_rfl
 obtain ⟨i, hi⟩ : ∃ i, Try.prog.info? 3 = some i := by
  cases h : Try.prog.info? 3 with
  | none => rw [h] at h1; cases h1
  | some i => exact ⟨i, rfl⟩
 rw [hi] at h1 h2 h3
 simp only [Option.map_some, Option.some.injEq] at h1 h2 h3
 exact ⟨i, hi, h1, h2, h3⟩
noncomputable def code16 : Code := (Try.f16.body).getD .skip
noncomputable def body16a : Code := match lastPart 4 code16 with
 | .seq (.seq _ (.block _ (.rangeFunc _ _ _ b))) _ => b
 | _ => .skip
def intsV (ns : List Int) : List Value := ns.map fun n => .int .i64 n
structure Chk1 (TB : Nat) (W1 : World) (ns : List Int) (pre : List RefL) (W : World) : Prop where
 but : ButOne TB W1 W
 row : ∃ ao c, W.heap[TB]? = some (.cells #[.slice ao pre.length c] 63 (0, 0)) ∧ W.ownsRow W1.heap.size 3 1 (.slice ao pre.length c) pre.length (intsV (ns.take pre.length))
theorem ButOne.grown {R : Nat} {A B C : World} {row : Option Nat} (h : ButOne R A B) (hg : B.grownBy C row) (hr : ∀ k, row = some k → A.heap.size ≤ k) : ButOne R A C :=
 ⟨hg.os.trans h.os, hg.tape.trans h.tape, hg.output.trans h.output, Nat.le_trans h.size hg.size, fun b hb hR => (hg.block b (Nat.lt_of_lt_of_le hb h.size) (fun e => by have := hr b e.symm; omega)).trans (h.block b hb hR)⟩
theorem ownsRow_slice {W : World} {B e k n : Nat} {v : Value} {xs : List Value} (h : W.ownsRow B e k v n xs) : ∃ ao c, v = .slice ao n c := by
 rcases h.2 with ⟨rfl, rfl⟩ | ⟨g, c, _, rfl, _⟩
 ·exact ⟨_, _, rfl⟩
 ·exact ⟨_, _, rfl⟩
theorem ownsRow_int {W : World} {B k n : Nat} {v : Value} {xs : List Value} (h : W.ownsRow B 3 k v n xs) {b : Nat} (hb : v.ownBlock = some b) : RowInt W b ∧ B ≤ b := by
 rcases h.2 with ⟨rfl, _⟩ | ⟨g, c, cur, rfl, h1, h2, _⟩
 ·cases hb
 ·cases hb; exact ⟨⟨cur, _, h2⟩, h1⟩
theorem grownBy_setCell (W : World) (p : Addr) (v : Value) : W.grownBy (W.setCell p v) (some p.block) :=
 ⟨rfl, rfl, rfl, by simp [World.setCell], fun k _ hr => Below.heap_setCell _ _ _ _ (fun e => hr (by rw [e]))⟩
theorem Chk1.step {TB : Nat} {W1 : World} {ns n1 js : List Int} {n : Int} {pre : List RefL} {r : RefL} {W W2 : World} {v' : Value} {ao : Option Addr} {c : Nat} (h : Chk1 TB W1 ns pre W) (hTl : TB < W1.heap.size)
  (ht : W.heap[TB]? = some (.cells #[.slice ao pre.length c] 63 (0, 0))) (hown : W.ownsRow W1.heap.size 3 1 (.slice ao pre.length c) pre.length (intsV (ns.take pre.length))) (hns : ns = n1 ++ n :: js) (hl : n1.length = pre.length)
  (ho : W2.ownsRow W1.heap.size 3 1 v' (pre.length + 1) (intsV (ns.take pre.length) ++ [.int .i64 n])) (hg : (W.drew.alloc (.cells #[.int .i64 n] 3)).grownBy W2 (Value.slice ao pre.length c).ownBlock) :
  Beyond W1.heap.size W (W2.setCell ⟨TB, 0, none⟩ v') ∧ Chk1 TB W1 ns (pre ++ [r]) (W2.setCell ⟨TB, 0, none⟩ v') := by
 have hsz : (W.drew.alloc (.cells #[.int .i64 n] 3)).heap.size = W.heap.size + 1 := by simp
 have hs2 := hg.size
 have hTW := (Array.getElem?_eq_some_iff.1 ht).1
 have hTn : some TB ≠ (Value.slice ao pre.length c).ownBlock := fun e => by have := (ownsRow_int hown e.symm).2; omega
 have ht2 : W2.heap[TB]? = some (.cells #[.slice ao pre.length c] 63 (0, 0)) := (hg.block TB (by omega) hTn).trans ((Below.heap_alloc _ _ _ (by show TB < W.drew.heap.size; exact hTW)).trans ht)
 obtain ⟨W3, x3, g3, o3, b3, s3⟩ := set_box ht2 v'
 rw [x3]
 have hb1 : ButOne TB W1 (W.drew.alloc (.cells #[.int .i64 n] 3)) := h.but.trans (ButOne.of_below ((Below.refl W.heap.size W).drew.alloc (Nat.le_refl _) _))
 have hb2 : ButOne TB W1 W2 := hb1.grown hg (fun k e => (ownsRow_int hown e).2)
 obtain ⟨ao', c', rfl⟩ := ownsRow_slice ho
 have ho3 : W3.ownsRow W1.heap.size 3 1 (.slice ao' (pre.length + 1) c') (pre.length + 1) (intsV (ns.take pre.length) ++ [.int .i64 n]) := by
  rw [← x3]
  exact ho.kept (grownBy_setCell W2 ⟨TB, 0, none⟩ _) (Or.inr fun e => by have := (ownsRow_int ho e).2; simp only at this; omega)
 refine ⟨⟨by omega, fun b h1 h2 h3 => ?_⟩, by rw [← x3]; exact hb2.trans (ButOne.setCell (p := ⟨TB, 0, none⟩) _), ao', c', by simpa using g3, ?_⟩
 ·rw [o3 b (by omega), hg.block b (by omega) (fun e => h3 (ownsRow_int hown e.symm).1)]
  exact Below.heap_alloc _ _ _ h2
 ·have e : ns.take (pre ++ [r]).length = ns.take pre.length ++ [n] := by
   rw [hns, List.length_append, ← hl]
   simp [List.take_append, List.take_succ_cons, List.take_of_length_le (show n1.length ≤ n1.length + 1 by omega)]
  rw [e]
  unfold intsV at ho3 ⊢
  rw [List.map_append]
  simpa using ho3
set_option maxRecDepth 100000 in
set_option maxHeartbeats 4000000 in
theorem chk_body1 (l : Nat) (B1 E X TB : Nat) (W1 : World) (ns : List Int) (rs : List RefL) (hN : NsAt W1 rs ns) (hrT : ∀ r ∈ rs, r.b ≠ TB) (hTl : TB < W1.heap.size) (hlen : rs.length ≤ 1000000)
  (pre rest : List RefL) (r : RefL) (W : World) (hs : rs = pre ++ r :: rest) (hI : Chk1 TB W1 ns pre W) (e0 e6 e7 e8 e9 e10 e11 e12 e13 e14 e15 e16 e17 e18 e19 e20 e21 e22 e23 e24 e25 e26 e27 e28 e29 e30 e31 e32 e33 e34 e35 e36 e37 : Value) :
  body16a.wpIn (Fence.wide.inRound l) 10 Try.prog (allPost W1.heap.size (Chk1 TB W1 ns) (fun _ => False) (fun _ => False) (errChain 170) (pre ++ [r]) W) { tmps := #[e0, .pointer (some ⟨B1, 0, none⟩), .pointer (some ⟨E, 0, none⟩), .pointer (some ⟨X, 0, none⟩), .pointer (some ⟨TB, 0, none⟩), .pointer (some ⟨r.b, r.o, none⟩), e6, e7, e8, e9, e10, e11, e12, e13, e14, e15, e16, e17, e18, e19, e20, e21, e22, e23, e24, e25, e26, e27, e28, e29, e30, e31, e32, e33, e34, e35, e36, e37], defers := [] } W := by
 obtain ⟨ao, c, ht, hown⟩ := hI.row
 subst hs
 obtain ⟨n1, n2, rfl, k1, k2⟩ := NsAt.split (xs := pre) hN
 obtain ⟨n, js, rfl⟩ : ∃ n js, n2 = n :: js := by
  cases n2 with
  | nil => exact k2.elim
  | cons n js => exact ⟨n, js, rfl⟩
 have hl := k1.len
 have hrb : r.b ≠ TB := hrT r (by simp)
 have hcn : W.cell? ⟨r.b, r.o + 1, none⟩ = some (.int .i64 n) := hI.but.cell k2.1 hrb
 have hcT : W.cell? ⟨TB, 0, none⟩ = some (.slice ao pre.length c) := cell_at ht 0 rfl
 have hpl : pre.length ≤ 1000000 := by simp at hlen; omega
 have hstep := fun v' W2 ho hg => Chk1.step (r := r) (v' := v') (W2 := W2) hI hTl ht hown rfl hl ho hg
 have hTn : some TB ≠ (Value.slice ao pre.length c).ownBlock := fun e => by have := (ownsRow_int hown e.symm).2; omega
 have hTW := (Array.getElem?_eq_some_iff.1 ht).1
 have hsz := hI.but.size
 have mixed : Try.prog.follows .mixedOrders = true := by kernel_rfl
 obtain ⟨i3, hi3, hz3, hs3, hb3⟩ := info3
 have HST := Lib.hid hstep; have HT := Lib.hid ht
 have hSk : ∀ V, ButOne TB W1 V → V.cell? ⟨r.b, r.o + 1, none⟩ = some (.int .i64 n) := fun V hb => hb.cell k2.1 hrb
 have HSK := Lib.hid hSk; have HBS := Lib.hid hI.but
 generalize hxs : intsV ((n1 ++ n :: js).take pre.length) = xs at *
 generalize hP : Exit.inBlock 1 (allPost W1.heap.size (Chk1 TB W1 (n1 ++ n :: js)) (fun _ => False) (fun _ => False) (errChain 170) (pre ++ [r]) W) = PQ
 have hQn : ∀ (a : Act) (W' : World), (Beyond W1.heap.size W W' ∧ Chk1 TB W1 (n1 ++ n :: js) (pre ++ [r]) W') → PQ .normal a W' := fun a W' h => by rw [← hP]; exact h
 have hQl : ¬ LetsOut PQ := by rw [← hP]; exact fun ⟨_, _, h⟩ => h
 have hQp : ∀ (ch : List PanicEntry) (a : Act) (d : Option Go.Tmp) (v : Value) (W' : World), PQ (.panic ch) (a.put d v) W' → PQ (.panic ch) a W' := fun ch a d v W' h => by rw [← hP] at h ⊢; cases d <;> exact h
 generalize pre.length = m at *
 have HQN := Lib.hid hQn
 clear hQn hN hI k1 k2 hstep ht hxs hSk
 dsimp only
 unfold body16a code16
 conv => arg 4; whnf
 refine wpIn_block ?_
 rw [hP]
 clear hP
 refine region_round_held (S := fun V => V.cell? ⟨r.b, r.o + 1, none⟩ = some (.int .i64 n)) mixed (by kernel_rfl) hQl ?_
 change wpAnyH _ _ _ _ _ _ _ _ W.drew
 have hS : W.drew.cell? ⟨r.b, r.o + 1, none⟩ = some (.int .i64 n) := hcn
 refine wpAnyH_take (i := 1) (oi := _) (v := .pointer (some ⟨r.b, r.o, none⟩)) rfl (by kernel_rfl) (by kernel_rfl) (by kernel_rfl) (fun _ _ _ h => hQp _ _ _ _ _ h) (Or.inl ⟨by kernel_rfl, fun w hw => by go_simp⟩) hS ?_
 try simp only [Act.put, List.getElem_toArray, List.getElem_cons_zero, List.getElem_cons_succ, List.setIfInBounds_toArray, List.set_cons_zero, List.set_cons_succ]
 refine wpAnyH_take (i := 2) (oi := _) (v := .pointer (some ⟨r.b, r.o, none⟩)) rfl (by kernel_rfl) (by kernel_rfl) (by kernel_rfl) (fun _ _ _ h => hQp _ _ _ _ _ h) (Or.inl ⟨by kernel_rfl, fun w hw => by go_simp⟩) hS ?_
 try simp only [Act.put, List.getElem_toArray, List.getElem_cons_zero, List.getElem_cons_succ, List.setIfInBounds_toArray, List.set_cons_zero, List.set_cons_succ]
 refine wpAnyH_take (i := 3) (oi := _) (v := .pointer (some ⟨r.b, r.o + 1, none⟩)) rfl (by kernel_rfl) (by kernel_rfl) (by kernel_rfl) (fun _ _ _ h => hQp _ _ _ _ _ h) (Or.inl ⟨by kernel_rfl, fun w hw => by go_simp⟩) hS ?_
 try simp only [Act.put, List.getElem_toArray, List.getElem_cons_zero, List.getElem_cons_succ, List.setIfInBounds_toArray, List.set_cons_zero, List.set_cons_succ]
 refine wpAnyH_take (i := 4) (oi := _) (v := .int .i64 n) rfl (by kernel_rfl) (by kernel_rfl) (by kernel_rfl) (fun _ _ _ h => hQp _ _ _ _ _ h) (Or.inl ⟨by kernel_rfl, fun w hw => by go_simp⟩) hS ?_
 try simp only [Act.put, List.getElem_toArray, List.getElem_cons_zero, List.getElem_cons_succ, List.setIfInBounds_toArray, List.set_cons_zero, List.set_cons_succ]
 have bA : ButOne TB W1 (W.drew.alloc (.cells #[.int .i64 n] 3)) := HBS.out.trans (ButOne.of_below ((Below.refl W.heap.size W).drew.alloc (Nat.le_refl _) _))
 have cTA : (W.drew.alloc (.cells #[.int .i64 n] 3)).cell? ⟨TB, 0, none⟩ = some (.slice ao m c) := keep_cell ((Below.refl W.drew.heap.size W.drew).alloc (Nat.le_refl _) _) hcT
 have hSA := HSK.out _ bA
 refine wpAnyH_ready (rs := [0, 5]) (by kernel_rfl) (by simp) ?_
 refine AllReadyH.cons (o := _) rfl (fun K1 hK => ?_) (AllReadyH.cons (o := _) rfl (fun K1 hK => ?_) AllReadyH.nil)
 ·have HK := Lib.hid hK
  clear hK
  go_simp
  refine HK.out _ _ hS (fun _ => ?_)
  try simp only [Act.put, List.getElem_toArray, List.getElem_cons_zero, List.getElem_cons_succ, List.setIfInBounds_toArray, List.set_cons_zero, List.set_cons_succ]
  clear HK K1
  refine wpAnyH_ready (rs := [5]) (by kernel_rfl) (by simp) ?_
  refine AllReadyH.cons (o := _) rfl (fun K1 hK => ?_) AllReadyH.nil
  have HK := Lib.hid hK
  clear hK
  go_simp
  refine HK.out _ _ hSA (fun _ => ?_)
  try simp only [Act.put, List.getElem_toArray, List.getElem_cons_zero, List.getElem_cons_succ, List.setIfInBounds_toArray, List.set_cons_zero, List.set_cons_succ]
  clear HK K1
  refine wpAnyH_ready (rs := [6]) (by kernel_rfl) (by simp) ?_
  refine AllReadyH.cons (o := _) rfl (fun K1 hK => ?_) AllReadyH.nil
  rw [if_pos (by kernel_rfl)]
  have hownA : (W.drew.alloc (.cells #[.int .i64 n] 3)).ownsRow W1.heap.size 3 1 (.slice ao m c) m xs := World.ownsRow.alloc (w := W.drew) hown _
  refine wp_append_own _ _ _ 63 rfl W1.heap.size 3 i3 (.int .i64 0) 1 8 Try.underlying63 hi3 hz3 hs3 hb3 rfl (by decide) (.slice ao m c) m xs rfl hownA ⟨W.drew.heap.size, 0, none⟩ 1 1 [.int .i64 n] rfl rfl (cell_one_new _ _ _) (by intro u hu; simp at hu; subst hu; rfl) (by simp only [maxLen]; omega) (by omega) (by simp; omega) ?_
  intro v' W2 ho hg _
  have hT2 : W2.heap[TB]? = some (.cells #[.slice ao m c] 63 (0, 0)) := (hg.block TB (by simp; omega) hTn).trans ((Below.heap_alloc _ _ _ (by show TB < W.drew.heap.size; exact hTW)).trans HT.out)
  have hb2 : ButOne TB W1 W2 := bA.grown hg (fun k e => (ownsRow_int hownA e).2)
  have hfin := HST.out v' W2 ho hg
  have hf2 : W2.frozen? ⟨TB, 0, none⟩ = false := (show FreeB W2 TB from ⟨_, _, hT2⟩).free 0
  have hc2 : W2.cell? ⟨TB, 0, none⟩ = some (.slice ao m c) := cell_at hT2 0 rfl
  obtain ⟨ao', c', rfl⟩ := ownsRow_slice ho
  refine hK _ _ (HSK.out _ hb2) (fun _ => ?_)
  clear hK K1
  try simp only [Act.put, List.getElem_toArray, List.getElem_cons_zero, List.getElem_cons_succ, List.setIfInBounds_toArray, List.set_cons_zero, List.set_cons_succ]
  refine wpAnyH_ready (rs := [7]) (by kernel_rfl) (by simp) ?_
  refine AllReadyH.cons (o := _) rfl (fun K1 hK => ?_) AllReadyH.nil
  have HK := Lib.hid hK
  clear hK
  go_simp
  refine HK.out _ _ (HSK.out _ hfin.2.but) (fun _ => ?_)
  refine wpAnyH_done (by kernel_rfl) ?_ _
  exact HQN.out _ _ hfin
 ·have HK := Lib.hid hK
  clear hK
  go_simp
  refine HK.out _ _ hSA (fun _ => ?_)
  try simp only [Act.put, List.getElem_toArray, List.getElem_cons_zero, List.getElem_cons_succ, List.setIfInBounds_toArray, List.set_cons_zero, List.set_cons_succ]
  clear HK K1
  refine wpAnyH_ready (rs := [0]) (by kernel_rfl) (by simp) ?_
  refine AllReadyH.cons (o := _) rfl (fun K1 hK => ?_) AllReadyH.nil
  have HK := Lib.hid hK
  clear hK
  go_simp
  refine HK.out _ _ hSA (fun _ => ?_)
  try simp only [Act.put, List.getElem_toArray, List.getElem_cons_zero, List.getElem_cons_succ, List.setIfInBounds_toArray, List.set_cons_zero, List.set_cons_succ]
  clear HK K1
  refine wpAnyH_ready (rs := [6]) (by kernel_rfl) (by simp) ?_
  refine AllReadyH.cons (o := _) rfl (fun K1 hK => ?_) AllReadyH.nil
  rw [if_pos (by kernel_rfl)]
  have hownA : (W.drew.alloc (.cells #[.int .i64 n] 3)).ownsRow W1.heap.size 3 1 (.slice ao m c) m xs := World.ownsRow.alloc (w := W.drew) hown _
  refine wp_append_own _ _ _ 63 rfl W1.heap.size 3 i3 (.int .i64 0) 1 8 Try.underlying63 hi3 hz3 hs3 hb3 rfl (by decide) (.slice ao m c) m xs rfl hownA ⟨W.drew.heap.size, 0, none⟩ 1 1 [.int .i64 n] rfl rfl (cell_one_new _ _ _) (by intro u hu; simp at hu; subst hu; rfl) (by simp only [maxLen]; omega) (by omega) (by simp; omega) ?_
  intro v' W2 ho hg _
  have hT2 : W2.heap[TB]? = some (.cells #[.slice ao m c] 63 (0, 0)) := (hg.block TB (by simp; omega) hTn).trans ((Below.heap_alloc _ _ _ (by show TB < W.drew.heap.size; exact hTW)).trans HT.out)
  have hb2 : ButOne TB W1 W2 := bA.grown hg (fun k e => (ownsRow_int hownA e).2)
  have hfin := HST.out v' W2 ho hg
  have hf2 : W2.frozen? ⟨TB, 0, none⟩ = false := (show FreeB W2 TB from ⟨_, _, hT2⟩).free 0
  have hc2 : W2.cell? ⟨TB, 0, none⟩ = some (.slice ao m c) := cell_at hT2 0 rfl
  obtain ⟨ao', c', rfl⟩ := ownsRow_slice ho
  refine hK _ _ (HSK.out _ hb2) (fun _ => ?_)
  clear hK K1
  try simp only [Act.put, List.getElem_toArray, List.getElem_cons_zero, List.getElem_cons_succ, List.setIfInBounds_toArray, List.set_cons_zero, List.set_cons_succ]
  refine wpAnyH_ready (rs := [7]) (by kernel_rfl) (by simp) ?_
  refine AllReadyH.cons (o := _) rfl (fun K1 hK => ?_) AllReadyH.nil
  have HK := Lib.hid hK
  clear hK
  go_simp
  refine HK.out _ _ (HSK.out _ hfin.2.but) (fun _ => ?_)
  refine wpAnyH_done (by kernel_rfl) ?_ _
  exact HQN.out _ _ hfin
end Go.Proofs.Ytpnbpepkoekkoaa
end
