/- Contracts and plain laws on the way to the statement: part 25. -/
import Derived.Test.YtpnbpepkoekkoaaZ13
import Derived.Test.YtpnbpepkoekkoaaZ24
set_option linter.unusedVariables false
set_option linter.unusedSimpArgs false
section
namespace Go.Proofs.Ytpnbpepkoekkoaa
open Go Go.RowKit Go.Shelf
noncomputable def elem15n8 : Code := match lastPart 8 code15 with
 | .seq a _ => a
 | c => c
set_option maxRecDepth 100000 in
set_option maxHeartbeats 8000000 in
theorem res_clone0 (B1 X E TB : Nat) (cs : Array Value) (ao : Option Addr) (cc : Nat) (ds : List Deferred) (W0 : World) (hX : W0.heap[X]? = some (.cells cs 30 (0, 0))) (h10 : cs[10]? = some (.slice ao 0 cc)) (Q : Act → World → Prop)
  (hQ : ∀ (f0 f5 f6 f7 f8 f9 f10 f11 f12 f13 f14 f15 f16 f17 f18 f19 f20 f21 f22 f23 f24 f25 f26 f27 f28 f29 f30 f31 f32 f33 f34 f35 f36 f37 f38 f39 f40 f41 f42 f43 f44 f45 f46 f47 f48 f49 f50 f51 f52 f53 f54 f55 f56 f57 f58 f59 f60 f61 f62 f63 f64 f65 f66 f67 f68 f69 f70 f71 f72 f73 f74 f75 f76 f77 f78 f79 f80 f81 f82 f83 f84 f85 f86 f87 f88 f89 f90 f91 f92 f93 f94 f95 f96 f97 f98 : Value), Q { tmps := #[f0, .pointer (some ⟨B1, 0, none⟩), .pointer (some ⟨X, 0, none⟩), .pointer (some ⟨E, 0, none⟩), .pointer (some ⟨TB, 0, none⟩), f5, f6, f7, f8, f9, f10, f11, f12, f13, f14, f15, f16, f17, f18, f19, f20, f21, f22, f23, f24, f25, f26, f27, f28, f29, f30, f31, f32, f33, f34, f35, f36, f37, f38, f39, f40, f41, f42, f43, f44, f45, f46, f47, f48, f49, f50, f51, f52, f53, f54, f55, f56, f57, f58, f59, f60, f61, f62, f63, f64, f65, f66, f67, f68, f69, f70, f71, f72, f73, f74, f75, f76, f77, f78, f79, f80, f81, f82, f83, f84, f85, f86, f87, f88, f89, f90, f91, f92, f93, f94, f95, f96, f97, f98], defers := ds } W0)
  (e0 e5 e6 e7 e8 e9 e10 e11 e12 e13 e14 e15 e16 e17 e18 e19 e20 e21 e22 e23 e24 e25 e26 e27 e28 e29 e30 e31 e32 e33 e34 e35 e36 e37 e38 e39 e40 e41 e42 e43 e44 e45 e46 e47 e48 e49 e50 e51 e52 e53 e54 e55 e56 e57 e58 e59 e60 e61 e62 e63 e64 e65 e66 e67 e68 e69 e70 e71 e72 e73 e74 e75 e76 e77 e78 e79 e80 e81 e82 e83 e84 e85 e86 e87 e88 e89 e90 e91 e92 e93 e94 e95 e96 e97 e98 : Value) :
  elem15n8.wp Try.prog (Exit.then Q (fun _ _ _ => False)) { tmps := #[e0, .pointer (some ⟨B1, 0, none⟩), .pointer (some ⟨X, 0, none⟩), .pointer (some ⟨E, 0, none⟩), .pointer (some ⟨TB, 0, none⟩), e5, e6, e7, e8, e9, e10, e11, e12, e13, e14, e15, e16, e17, e18, e19, e20, e21, e22, e23, e24, e25, e26, e27, e28, e29, e30, e31, e32, e33, e34, e35, e36, e37, e38, e39, e40, e41, e42, e43, e44, e45, e46, e47, e48, e49, e50, e51, e52, e53, e54, e55, e56, e57, e58, e59, e60, e61, e62, e63, e64, e65, e66, e67, e68, e69, e70, e71, e72, e73, e74, e75, e76, e77, e78, e79, e80, e81, e82, e83, e84, e85, e86, e87, e88, e89, e90, e91, e92, e93, e94, e95, e96, e97, e98], defers := ds } W0 := by
 have c10 := cell_at hX 10 h10
 have HQ := Lib.hid hQ
 clear hQ hX h10
 dsimp only
 unfold elem15n8 code15
 conv => arg 2; whnf
 go_wp2_with fail
 go_loopw [54] (fun iv wr => iv = .int .i64 0 ∧ wr = W0) (fun _ _ => 0)
 case atStart => exact ⟨rfl, rfl⟩
 case round =>
  obtain ⟨rfl, rfl⟩ := hrel
  go_wp2_with fail
  exact HQ.out _ _ _ _ _ _ _ _ _ _ _ _ _ _ _ _ _ _ _ _ _ _ _ _ _ _ _ _ _ _ _ _ _ _ _ _ _ _ _ _ _ _ _ _ _ _ _ _ _ _ _ _ _ _ _ _ _ _ _ _ _ _ _ _ _ _ _ _ _ _ _ _ _ _ _ _ _ _ _ _ _ _ _ _ _ _ _ _ _ _ _ _ _ _ _
set_option maxRecDepth 100000 in
set_option maxHeartbeats 8000000 in
theorem res_clone1 (ps : List Ph) (ns : List Int) (lo g n cc B1 X E TB : Nat) (cs : Array Value) (ds : List Deferred) (W0 : World) (hn : ps.length = n) (hmax : n ≤ 100000) (hX : W0.heap[X]? = some (.cells cs 30 (0, 0))) (h10 : cs[10]? = some (.slice (some ⟨g, 0, none⟩) n cc)) (hgX : X ≠ g) (hg0 : g < W0.heap.size) (hS : PhS ps ns lo g 0 W0 [] ps [] ns W0) (Q : Act → World → Prop)
  (hQ : ∀ (A : List Ph) (n1 : List Int) (W : World), A.length = n → PhS ps ns lo g n W0 A [] n1 [] W → ∀ (f0 f5 f6 f7 f8 f9 f10 f11 f12 f13 f14 f15 f16 f17 f18 f19 f20 f21 f22 f23 f24 f25 f26 f27 f28 f29 f30 f31 f32 f33 f34 f35 f36 f37 f38 f39 f40 f41 f42 f43 f44 f45 f46 f47 f48 f49 f50 f51 f52 f53 f54 f55 f56 f57 f58 f59 f60 f61 f62 f63 f64 f65 f66 f67 f68 f69 f70 f71 f72 f73 f74 f75 f76 f77 f78 f79 f80 f81 f82 f83 f84 f85 f86 f87 f88 f89 f90 f91 f92 f93 f94 f95 f96 f97 f98 : Value), Q { tmps := #[f0, .pointer (some ⟨B1, 0, none⟩), .pointer (some ⟨X, 0, none⟩), .pointer (some ⟨E, 0, none⟩), .pointer (some ⟨TB, 0, none⟩), f5, f6, f7, f8, f9, f10, f11, f12, f13, f14, f15, f16, f17, f18, f19, f20, f21, f22, f23, f24, f25, f26, f27, f28, f29, f30, f31, f32, f33, f34, f35, f36, f37, f38, f39, f40, f41, f42, f43, f44, f45, f46, f47, f48, f49, f50, f51, f52, f53, f54, f55, f56, f57, f58, f59, f60, f61, f62, f63, f64, f65, f66, f67, f68, f69, f70, f71, f72, f73, f74, f75, f76, f77, f78, f79, f80, f81, f82, f83, f84, f85, f86, f87, f88, f89, f90, f91, f92, f93, f94, f95, f96, f97, f98], defers := ds } W)
  (e0 e5 e6 e7 e8 e9 e10 e11 e12 e13 e14 e15 e16 e17 e18 e19 e20 e21 e22 e23 e24 e25 e26 e27 e28 e29 e30 e31 e32 e33 e34 e35 e36 e37 e38 e39 e40 e41 e42 e43 e44 e45 e46 e47 e48 e49 e50 e51 e52 e53 e54 e55 e56 e57 e58 e59 e60 e61 e62 e63 e64 e65 e66 e67 e68 e69 e70 e71 e72 e73 e74 e75 e76 e77 e78 e79 e80 e81 e82 e83 e84 e85 e86 e87 e88 e89 e90 e91 e92 e93 e94 e95 e96 e97 e98 : Value) :
  elem15n8.wp Try.prog (Exit.then Q (fun _ _ _ => False)) { tmps := #[e0, .pointer (some ⟨B1, 0, none⟩), .pointer (some ⟨X, 0, none⟩), .pointer (some ⟨E, 0, none⟩), .pointer (some ⟨TB, 0, none⟩), e5, e6, e7, e8, e9, e10, e11, e12, e13, e14, e15, e16, e17, e18, e19, e20, e21, e22, e23, e24, e25, e26, e27, e28, e29, e30, e31, e32, e33, e34, e35, e36, e37, e38, e39, e40, e41, e42, e43, e44, e45, e46, e47, e48, e49, e50, e51, e52, e53, e54, e55, e56, e57, e58, e59, e60, e61, e62, e63, e64, e65, e66, e67, e68, e69, e70, e71, e72, e73, e74, e75, e76, e77, e78, e79, e80, e81, e82, e83, e84, e85, e86, e87, e88, e89, e90, e91, e92, e93, e94, e95, e96, e97, e98], defers := ds } W0 := by
 have c10 := cell_at hX 10 h10
 have hXl := (Array.getElem?_eq_some_iff.1 hX).1
 have HQ := Lib.hid hQ; have HS := Lib.hid hS; have HN := Lib.hid hn; have HC10 := Lib.hid c10
 clear hQ hX h10 hS hn
 dsimp only
 unfold elem15n8 code15
 conv => arg 2; whnf
 go_wp2_with fail
 clear c10
 go_loopw [54] (fun iv wr => ∃ (i : Nat) (A R : List Ph) (n1 n2 : List Int), iv = .int .i64 i ∧ i + R.length = n ∧ Hid (PhS ps ns lo g i W0 A R n1 n2 wr)) (fun iv _ => n + 1 - (intOf iv).toNat)
 case atStart => exact ⟨0, [], ps, [], ns, rfl, by rw [HN.out]; omega, HS⟩
 case round =>
  obtain ⟨i, A, R, n1, n2, rfl, hin, hS⟩ := hrel
  cases R with
  | nil =>
   simp only [List.length_nil] at hin
   obtain rfl : i = n := by omega
   have h := hS.out
   have hn2 : n2 = [] := by
    have := h.nsR
    cases n2 with
    | nil => rfl
    | cons => exact this.elim
   subst hn2
   go_wp2_with fail
   exact HQ.out A n1 _ h.len h _ _ _ _ _ _ _ _ _ _ _ _ _ _ _ _ _ _ _ _ _ _ _ _ _ _ _ _ _ _ _ _ _ _ _ _ _ _ _ _ _ _ _ _ _ _ _ _ _ _ _ _ _ _ _ _ _ _ _ _ _ _ _ _ _ _ _ _ _ _ _ _ _ _ _ _ _ _ _ _ _ _ _ _ _ _ _ _ _ _ _ _ _ _ _
  | cons p r =>
   simp only [List.length_cons] at hin
   have hi : (i : Int) < (n : Int) := by omega
   have h := hS.out
   obtain ⟨⟨q0, q1, qf, ql, qA⟩, hr⟩ := h.atR
   unfold Ph.val at q1
   obtain ⟨m1, m2, hn2, k1, k2⟩ := NsAt.split (xs := p.refsL) h.nsR
   obtain ⟨sm1, sm2⟩ := h.small p (by simp)
   have CI : ∀ W, Below wr.heap.size wr W → Calls Try.prog 48 #[.slice p.ia p.its.len p.ic] W fun e W' => ∃ ao co, e = .returned (.slice ao p.its.len co) ∧ Hid (Below wr.heap.size wr W ∧ ClP p.its m1 W e W') ∧ Below wr.heap.size wr W' := fun W hb =>
    (cloned_any _ p.its (Nat.le_refl _) p.ia p.ic m1 W sm1 qf (qA.below hb) (k1.below hb) sm2).mono fun e W' hp => by
     obtain ⟨a, co, T', h1, h2⟩ := id hp
     exact ⟨a, co, h1, Lib.hid ⟨hb, hp⟩, hb.trans (h2.2.2.2.2.2.2.mono hb.size)⟩
   have HCI := Lib.hid CI; have HK2 := Lib.hid k2; have HN2 := Lib.hid hn2
   have cX := h.but.cell HC10.out hgX
   have hXr : X < wr.heap.size := cell_lt cX
   have fr := h.gf.2
   have hkeep : ∀ W, Below wr.heap.size wr W → W.cell? ⟨X, 10, none⟩ = some (.slice (some ⟨g, 0, none⟩) n cc) ∧ W.cell? ⟨g, i * 2 + 1, none⟩ = some (.slice p.ia p.its.len p.ic) ∧ W.frozen? ⟨g, i * 2 + 1, none⟩ = false := fun W hb => ⟨keep_cell hb cX, keep_cell hb q1, (fr.below hb).free _⟩
   have HKP := Lib.hid hkeep
   have hB0 : Below wr.heap.size wr wr := Below.refl _ _
   clear CI h qf ql qA hr k1 k2 sm1 sm2 hkeep fr q0 hn2
   go_wp2_with fail
   go_region_with (go_at_call 48; refine (HCI.out _ (by first | assumption | exact Below.drew (by assumption) | exact below_drewN (by assumption) _)).mono ?_; rintro e w6 ⟨ao', co', rfl, hi6, hb6⟩; have c6X := (HKP.out _ hb6).1; have c61 := (HKP.out _ hb6).2.1; have f61 := (HKP.out _ hb6).2.2)
   all_goals
    go_wp2_with fail
    go_roundw
    case rel =>
     obtain ⟨A', hA'⟩ := ph_step hS.out HN2.out HK2.out hg0 hi6.out.1 hi6.out.2
     exact ⟨i + 1, A', r, _, _, by go_num, by omega, Lib.hid hA'⟩
    case measure => simp [intOf]; omega
end Go.Proofs.Ytpnbpepkoekkoaa
end
