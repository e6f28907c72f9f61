/- Contracts and plain laws on the way to the statement: part 37. -/
import Derived.Test.YtpnbpepkoekkoaaZ14
import Derived.Test.YtpnbpepkoekkoaaZ35
import Derived.Test.YtpnbpepkoekkoaaZ36
import Derived.Test.YtpnbpepkoekkoaaZ2
set_option linter.unusedVariables false
set_option linter.unusedSimpArgs false
section
namespace Go.Proofs.Ytpnbpepkoekkoaa
open Go Go.RowKit Go.Deep
set_option maxRecDepth 100000 in
set_option maxHeartbeats 8000000 in
theorem cp_nil (ia : Option Addr) (ic : Nat) (W : World) : Calls Try.prog 51 #[.slice ia 0 ic] W (ClP .nil [] W) := by
 go_enter Try.func51, Try.ntmps51
 go_wp2_with fail
 go_loopw [2, 7] (fun ov iv wr => iv = .int .i64 0 ∧ ov = .slice none 0 0 ∧ wr = W) (fun _ _ _ => 0)
 case atStart => exact ⟨rfl, rfl, rfl⟩
 case round =>
  obtain ⟨rfl, rfl, rfl⟩ := hrel
  go_wp2_with fail
  go_ret
  exact ⟨none, 0, .nil, rfl, rfl, Or.inl rfl, trivial, trivial, fun b hb => by simp [Lt.own, Lt.len, Lt.blocks] at hb, by simp [Lt.own, Lt.len, Lt.blocks], Below.refl _ _⟩
theorem copyItems_any : ∀ (s : Nat) (T : Lt), T.size ≤ s → ∀ (ia : Option Addr) (ic : Nat) (ns : List Int) (W : World), T.len ≤ 100000 → (T.len = 0 ∨ ia = some ⟨blk ia, off ia, none⟩) → T.At W (blk ia) (off ia) → NsAt W (T.refsL (blk ia) (off ia)) ns → T.small → Calls Try.prog 51 #[.slice ia T.len ic] W (ClP T ns W) := by
 intro s
 induction s with
 | zero =>
  intro T hs ia ic ns W hl hf hA hN hsm
  cases T with
  | cons => simp [Lt.size] at hs
  | nil =>
   cases ns with
   | nil => exact cp_nil ia ic W
   | cons => exact hN.elim
 | succ s ih =>
  intro T hs ia ic ns W hl hf hA hN hsm
  by_cases h0 : T.len = 0
  ·obtain rfl := Lt.len_zero h0
   cases ns with
   | nil => exact cp_nil ia ic W
   | cons => exact hN.elim
  ·have e := hf.resolve_left h0
   rw [e]
   refine cp_loop T ns W (blk ia) (off ia) ic T.len rfl hl (fun T' hlt => ih T' (by omega)) ⟨rfl, rfl, Nat.le_refl _, rfl, World.ownsRow_nil _ _ _ _, ⟨rfl, rfl⟩, by simpa using hA, by simpa using hN, List.nodup_nil, fun c hc => (by cases hc), fun k hk => (by cases hk), hsm, Below.refl _ _⟩
def Shape (W : World) (g : Nat) (t : TypeId) (sz : Nat) : Prop := ∃ cur, W.heap[g]? = some (.cells cur t (0, 0)) ∧ cur.size = sz
theorem Shape.same {W W' : World} {g : Nat} {t : TypeId} {sz : Nat} (h : Shape W g t sz) (hb : W'.heap[g]? = W.heap[g]?) : Shape W' g t sz := by
 obtain ⟨cur, h1, h2⟩ := h; exact ⟨cur, hb.trans h1, h2⟩
theorem Shape.lt {W : World} {g : Nat} {t : TypeId} {sz : Nat} (h : Shape W g t sz) : g < W.heap.size := by
 obtain ⟨cur, h1, h2⟩ := h; exact (Array.getElem?_eq_some_iff.1 h1).1
theorem Shape.below {W W' : World} {g : Nat} {t : TypeId} {sz : Nat} (h : Shape W g t sz) (hb : Below W.heap.size W W') : Shape W' g t sz := h.same (hb.block _ h.lt)
theorem Shape.but {W W' : World} {g X : Nat} {t : TypeId} {sz : Nat} (h : Shape W g t sz) (hb : ButOne X W W') (hX : g ≠ X) : Shape W' g t sz := h.same (hb.block _ h.lt hX)
theorem Shape.set {W : World} {g : Nat} {t : TypeId} {sz : Nat} (h : Shape W g t sz) (b j : Nat) (v : Value) : Shape (W.setCell ⟨b, j, none⟩ v) g t sz := by
 obtain ⟨cur, h1, h2⟩ := h
 by_cases e : b = g
 ·subst e
  refine ⟨cur.setIfInBounds j v, ?_, by simpa using h2⟩
  simp only [World.setCell, Array.getElem?_modify, h1, if_true, Option.map_some]; rfl
 ·exact ⟨cur, (Below.heap_setCell _ _ _ _ (fun e2 => e e2.symm)).trans h1, h2⟩
theorem Shape.free {W : World} {g : Nat} {t : TypeId} {sz : Nat} (h : Shape W g t sz) : FreeB W g := by
 obtain ⟨cur, h1, h2⟩ := h; exact ⟨cur, t, h1⟩
theorem own_of_shape {W : World} {B g cap n k : Nat} {e : TypeId} {xs : List Value} (h : Shape W g e (cap * k)) (hn : n ≤ cap) (hc : cap ≤ maxLen) (hB : B ≤ g) (hl : xs.length = n * k) (hx : ∀ j u, xs[j]? = some u → W.cell? ⟨g, j, none⟩ = some u) :
  W.ownsRow B e k (.slice (some ⟨g, 0, none⟩) n cap) n xs := by
 obtain ⟨cur, h1, h2⟩ := h
 refine ⟨hl, Or.inr ⟨g, cap, cur, rfl, hB, h1, hn, hc, h2, ?_⟩⟩
 apply List.ext_getElem?
 intro j
 rw [List.getElem?_take]
 have hm : n * k ≤ cap * k := Nat.mul_le_mul_right _ hn
 split
 ·rename_i hj
  obtain ⟨u, hu⟩ : ∃ u, xs[j]? = some u := ⟨_, List.getElem?_eq_getElem (by omega)⟩
  have := hx j u hu
  rw [hu, ← this]
  simp [World.cell?, h1]
 ·rename_i hj
  rw [List.getElem?_eq_none (by omega)]
theorem shape_of_own {W : World} {B k n : Nat} {e : TypeId} {v : Value} {xs : List Value} (h : W.ownsRow B e k v n xs) {g : Nat} (hg : v.ownBlock = some g) : ∃ cap, v = .slice (some ⟨g, 0, none⟩) n cap ∧ Shape W g e (cap * k) ∧ n ≤ cap ∧ cap ≤ maxLen ∧ B ≤ g := by
 rcases h.2 with ⟨rfl, _⟩ | ⟨g', cap, cur, rfl, hb, hh, hn, hm, hs, _⟩
 ·cases hg
 ·cases hg
  exact ⟨cap, rfl, ⟨cur, hh, hs⟩, hn, hm, hb⟩
theorem set_blk {W : World} {B : Nat} {cs : Array Value} {t : TypeId} (h : W.heap[B]? = some (.cells cs t (0, 0))) (j : Nat) (v : Value) : (W.setCell ⟨B, j, none⟩ v).heap[B]? = some (.cells (cs.setIfInBounds j v) t (0, 0)) := by
 simp only [World.setCell, Array.getElem?_modify, h, if_true, Option.map_some]; rfl
noncomputable def code20 : Code := (Try.f20.body).getD .skip
noncomputable def elem20n0 : Code := match lastPart 0 code20 with
 | .seq a _ => a
 | c => c
noncomputable def elem20n1 : Code := match lastPart 1 code20 with
 | .seq a _ => a
 | c => c
noncomputable def elem20n2 : Code := match lastPart 2 code20 with
 | .seq a _ => a
 | c => c
noncomputable def elem20n3 : Code := match lastPart 3 code20 with
 | .seq a _ => a
 | c => c
noncomputable def elem20n4 : Code := match lastPart 4 code20 with
 | .seq a _ => a
 | c => c
set_option maxRecDepth 100000 in
set_option maxHeartbeats 8000000 in
theorem cop_e1 (B1 B2 : Nat) (cs : Array Value) (ra : Option Addr) (n rc : Nat) (news : List Value) (W : World) (hB : W.heap[B1]? = some (.cells cs 30 (0, 0))) (h6 : cs[6]? = some (.slice ra n rc)) (hl : news.length = n * 4) (hn : n ≤ 100000) (hno : ra = none → n = 0)
  (hsrc : ∀ ad, ra = some ad → ∀ j u, news[j]? = some u → W.cell? (ad.add j) = some u) (h1 : ∀ u ∈ news, u.oneCell' = true) (K : Act → World → Prop)
  (hK : ∀ (ao : Option Addr) (c : Nat) (W' : World), W'.ownsRow W.heap.size 59 4 (.slice ao n c) n news → ao = some ⟨blk ao, 0, none⟩ → ButOne B1 W W' → W'.heap[B1]? = some (.cells (cs.setIfInBounds 6 (.slice ao n c)) 30 (0, 0)) → ∀ (f0 f3 f4 f5 f6 f7 f8 f9 f10 f11 f12 f13 f14 f15 f16 f17 f18 f19 f20 f21 f22 f23 f24 f25 f26 f27 f28 f29 f30 f31 f32 f33 f34 f35 f36 f37 f38 : Value), K { tmps := #[f0, .pointer (some ⟨B1, 0, none⟩), .pointer (some ⟨B2, 0, none⟩), f3, f4, f5, f6, f7, f8, f9, f10, f11, f12, f13, f14, f15, f16, f17, f18, f19, f20, f21, f22, f23, f24, f25, f26, f27, f28, f29, f30, f31, f32, f33, f34, f35, f36, f37, f38], defers := [] } W') (e0 e3 e4 e5 e6 e7 e8 e9 e10 e11 e12 e13 e14 e15 e16 e17 e18 e19 e20 e21 e22 e23 e24 e25 e26 e27 e28 e29 e30 e31 e32 e33 e34 e35 e36 e37 e38 : Value) :
  elem20n1.wp Try.prog (Exit.then K (fun _ _ _ => False)) { tmps := #[e0, .pointer (some ⟨B1, 0, none⟩), .pointer (some ⟨B2, 0, none⟩), e3, e4, e5, e6, e7, e8, e9, e10, e11, e12, e13, e14, e15, e16, e17, e18, e19, e20, e21, e22, e23, e24, e25, e26, e27, e28, e29, e30, e31, e32, e33, e34, e35, e36, e37, e38], defers := [] } W := by
 obtain ⟨i0, hi85, hz0, hz1, hz2⟩ := info_parts info59
 have I85 := Lib.hid (And.intro hi85 (And.intro hz0 (And.intro hz1 hz2)))
 have hBl : B1 < W.heap.size := (Array.getElem?_eq_some_iff.1 hB).1
 obtain ⟨W2, hW2, bW2, sW2⟩ : ∃ W2, W.alloc (.cells #[] 59) = W2 ∧ Below W.heap.size W W2 ∧ W2.heap.size = W.heap.size + 1 := ⟨_, rfl, (Below.refl _ _).alloc (Nat.le_refl _) _, by simp⟩
 have hB2 := keepO' bW2 hB
 have c6 := cell_at hB 6 h6
 have hEmp : W2.ownsRow W.heap.size 59 4 (.slice (some ⟨W.heap.size, 0, none⟩) 0 0) 0 [] := by rw [← hW2]; exact own_empty W _ 59 4 (Nat.le_refl _)
 have hsrc2 : ∀ ad, ra = some ad → ∀ j u, news[j]? = some u → W2.cell? (ad.add j) = some u := fun ad ha j u hj => keep_cell bW2 (hsrc ad ha j u hj)
 have hA5 : ∀ v5 W5, W5.ownsRow W.heap.size 59 4 v5 (0 + n) ([] ++ news) → W2.grownBy W5 (some W.heap.size) → (v5.ownBlock = some W.heap.size ∨ v5.ownBlock = some W2.heap.size) → ∃ ao c, v5 = .slice ao n c ∧ Hid (∀ (f0 f3 f4 f5 f6 f7 f8 f9 f10 f11 f12 f13 f14 f15 f16 f17 f18 f19 f20 f21 f22 f23 f24 f25 f26 f27 f28 f29 f30 f31 f32 f33 f34 f35 f36 f37 f38 : Value), K { tmps := #[f0, .pointer (some ⟨B1, 0, none⟩), .pointer (some ⟨B2, 0, none⟩), f3, f4, f5, f6, f7, f8, f9, f10, f11, f12, f13, f14, f15, f16, f17, f18, f19, f20, f21, f22, f23, f24, f25, f26, f27, f28, f29, f30, f31, f32, f33, f34, f35, f36, f37, f38], defers := [] } (W5.setCell ⟨B1, 6, none⟩ (.slice ao n c))) ∧ W5.heap[B1]? = some (.cells cs 30 (0, 0)) := fun v5 W5 ho hg ha => by
  have ho' : W5.ownsRow W.heap.size 59 4 v5 n news := by simpa using ho
  obtain ⟨ao, c, rfl, _, _, hform, hob, _⟩ := own_new (by omega) ho'
  have hao : ao = some ⟨blk ao, 0, none⟩ := by
   rcases hform with e | e
   ·rw [e] at ha; rcases ha with ha | ha <;> cases ha
   ·exact e
  have hgb : W.heap.size ≤ blk ao := by
   rcases ho'.2 with ⟨e, _⟩ | ⟨g, cap, cur, e, hg2, _⟩
   ·cases e; cases hao
   ·cases e; exact hg2
  have hb5 : Below W.heap.size W W5 := bW2.grown hg (by omega) (fun k hk => by cases hk; omega)
  have hB5 := keepO' hb5 hB
  refine ⟨ao, c, rfl, Lib.hid (hK ao c _ ?_ hao ((ButOne.of_below hb5).trans (ButOne.setCell (p := ⟨B1, 6, none⟩) _)) (set_blk hB5 6 _)), hB5⟩
  rcases ho'.2 with ⟨e, _⟩ | ⟨g, cap, cur, e, hg2, hg3, hr⟩
  ·cases e; cases hao
  ·cases e
   have hne : g ≠ B1 := by have := hg2; omega
   exact ⟨ho'.1, Or.inr ⟨_, _, cur, rfl, hg2, by rw [Below.heap_setCell _ _ _ _ hne]; exact hg3, hr⟩⟩
 have HO := Lib.hid hEmp; have HS := Lib.hid hsrc2; have HL := Lib.hid hl; have HNO := Lib.hid hno; have H1 := Lib.hid h1; have HA := Lib.hid hA5; have HW2 := Lib.hid hW2; have HSW2 := Lib.hid sW2
 have HF := Lib.hid h6
 clear hi85 hz0 hz1 hz2 hK hB h6 hl hno hsrc h1 hW2 bW2 sW2 hB2 hEmp hsrc2 hA5
 dsimp only
 unfold elem20n1 code20
 conv => arg 2; whnf
 go_wp2_with (at_builtin; rw [HW2.out]; refine wpList_append_row rfl _ _ 23 rfl W.heap.size 59 i0 _ 4 40 Try.underlying23 I85.out.1 I85.out.2.1 I85.out.2.2.1 I85.out.2.2.2 rfl (by decide) _ 0 [] rfl HO.out ra n rc news rfl HL.out HNO.out HS.out H1.out (by unfold maxLen; omega) (by omega) (by rw [HSW2.out]; omega) ?_; intro v5 W5 ho5 hg5 ha5; obtain ⟨ao, c, rfl, hk5, hB5⟩ := HA.out v5 W5 ho5 hg5 ha5; have q6 := cell_at hB5 6 HF.out; have z6 : W5.frozen? ⟨B1, 6, none⟩ = false := (show FreeB W5 B1 from ⟨_, _, hB5⟩).free _; clear hB5; clear ho5 hg5 ha5)
 exact hk5.out _ _ _ _ _ _ _ _ _ _ _ _ _ _ _ _ _ _ _ _ _ _ _ _ _ _ _ _ _ _ _ _ _ _ _ _ _
set_option maxRecDepth 100000 in
set_option maxHeartbeats 8000000 in
theorem cop_e2 (B1 B2 : Nat) (cs : Array Value) (ra : Option Addr) (n rc : Nat) (news : List Value) (W : World) (hB : W.heap[B1]? = some (.cells cs 30 (0, 0))) (h6 : cs[11]? = some (.slice ra n rc)) (hl : news.length = n * 6) (hn : n ≤ 100000) (hno : ra = none → n = 0)
  (hsrc : ∀ ad, ra = some ad → ∀ j u, news[j]? = some u → W.cell? (ad.add j) = some u) (h1 : ∀ u ∈ news, u.oneCell' = true) (K : Act → World → Prop)
  (hK : ∀ (ao : Option Addr) (c : Nat) (W' : World), W'.ownsRow W.heap.size 73 6 (.slice ao n c) n news → ao = some ⟨blk ao, 0, none⟩ → ButOne B1 W W' → W'.heap[B1]? = some (.cells (cs.setIfInBounds 11 (.slice ao n c)) 30 (0, 0)) → ∀ (f0 f3 f4 f5 f6 f7 f8 f9 f10 f11 f12 f13 f14 f15 f16 f17 f18 f19 f20 f21 f22 f23 f24 f25 f26 f27 f28 f29 f30 f31 f32 f33 f34 f35 f36 f37 f38 : Value), K { tmps := #[f0, .pointer (some ⟨B1, 0, none⟩), .pointer (some ⟨B2, 0, none⟩), f3, f4, f5, f6, f7, f8, f9, f10, f11, f12, f13, f14, f15, f16, f17, f18, f19, f20, f21, f22, f23, f24, f25, f26, f27, f28, f29, f30, f31, f32, f33, f34, f35, f36, f37, f38], defers := [] } W') (e0 e3 e4 e5 e6 e7 e8 e9 e10 e11 e12 e13 e14 e15 e16 e17 e18 e19 e20 e21 e22 e23 e24 e25 e26 e27 e28 e29 e30 e31 e32 e33 e34 e35 e36 e37 e38 : Value) :
  elem20n2.wp Try.prog (Exit.then K (fun _ _ _ => False)) { tmps := #[e0, .pointer (some ⟨B1, 0, none⟩), .pointer (some ⟨B2, 0, none⟩), e3, e4, e5, e6, e7, e8, e9, e10, e11, e12, e13, e14, e15, e16, e17, e18, e19, e20, e21, e22, e23, e24, e25, e26, e27, e28, e29, e30, e31, e32, e33, e34, e35, e36, e37, e38], defers := [] } W := by
 obtain ⟨i0, hi85, hz0, hz1, hz2⟩ := info_parts info73
 have I85 := Lib.hid (And.intro hi85 (And.intro hz0 (And.intro hz1 hz2)))
 have hBl : B1 < W.heap.size := (Array.getElem?_eq_some_iff.1 hB).1
 obtain ⟨W2, hW2, bW2, sW2⟩ : ∃ W2, W.alloc (.cells #[] 73) = W2 ∧ Below W.heap.size W W2 ∧ W2.heap.size = W.heap.size + 1 := ⟨_, rfl, (Below.refl _ _).alloc (Nat.le_refl _) _, by simp⟩
 have hB2 := keepO' bW2 hB
 have c6 := cell_at hB 11 h6
 have hEmp : W2.ownsRow W.heap.size 73 6 (.slice (some ⟨W.heap.size, 0, none⟩) 0 0) 0 [] := by rw [← hW2]; exact own_empty W _ 73 6 (Nat.le_refl _)
 have hsrc2 : ∀ ad, ra = some ad → ∀ j u, news[j]? = some u → W2.cell? (ad.add j) = some u := fun ad ha j u hj => keep_cell bW2 (hsrc ad ha j u hj)
 have hA5 : ∀ v5 W5, W5.ownsRow W.heap.size 73 6 v5 (0 + n) ([] ++ news) → W2.grownBy W5 (some W.heap.size) → (v5.ownBlock = some W.heap.size ∨ v5.ownBlock = some W2.heap.size) → ∃ ao c, v5 = .slice ao n c ∧ Hid (∀ (f0 f3 f4 f5 f6 f7 f8 f9 f10 f11 f12 f13 f14 f15 f16 f17 f18 f19 f20 f21 f22 f23 f24 f25 f26 f27 f28 f29 f30 f31 f32 f33 f34 f35 f36 f37 f38 : Value), K { tmps := #[f0, .pointer (some ⟨B1, 0, none⟩), .pointer (some ⟨B2, 0, none⟩), f3, f4, f5, f6, f7, f8, f9, f10, f11, f12, f13, f14, f15, f16, f17, f18, f19, f20, f21, f22, f23, f24, f25, f26, f27, f28, f29, f30, f31, f32, f33, f34, f35, f36, f37, f38], defers := [] } (W5.setCell ⟨B1, 11, none⟩ (.slice ao n c))) ∧ W5.heap[B1]? = some (.cells cs 30 (0, 0)) := fun v5 W5 ho hg ha => by
  have ho' : W5.ownsRow W.heap.size 73 6 v5 n news := by simpa using ho
  obtain ⟨ao, c, rfl, _, _, hform, hob, _⟩ := own_new (by omega) ho'
  have hao : ao = some ⟨blk ao, 0, none⟩ := by
   rcases hform with e | e
   ·rw [e] at ha; rcases ha with ha | ha <;> cases ha
   ·exact e
  have hgb : W.heap.size ≤ blk ao := by
   rcases ho'.2 with ⟨e, _⟩ | ⟨g, cap, cur, e, hg2, _⟩
   ·cases e; cases hao
   ·cases e; exact hg2
  have hb5 : Below W.heap.size W W5 := bW2.grown hg (by omega) (fun k hk => by cases hk; omega)
  have hB5 := keepO' hb5 hB
  refine ⟨ao, c, rfl, Lib.hid (hK ao c _ ?_ hao ((ButOne.of_below hb5).trans (ButOne.setCell (p := ⟨B1, 11, none⟩) _)) (set_blk hB5 11 _)), hB5⟩
  rcases ho'.2 with ⟨e, _⟩ | ⟨g, cap, cur, e, hg2, hg3, hr⟩
  ·cases e; cases hao
  ·cases e
   have hne : g ≠ B1 := by have := hg2; omega
   exact ⟨ho'.1, Or.inr ⟨_, _, cur, rfl, hg2, by rw [Below.heap_setCell _ _ _ _ hne]; exact hg3, hr⟩⟩
 have HO := Lib.hid hEmp; have HS := Lib.hid hsrc2; have HL := Lib.hid hl; have HNO := Lib.hid hno; have H1 := Lib.hid h1; have HA := Lib.hid hA5; have HW2 := Lib.hid hW2; have HSW2 := Lib.hid sW2
 have HF := Lib.hid h6
 clear hi85 hz0 hz1 hz2 hK hB h6 hl hno hsrc h1 hW2 bW2 sW2 hB2 hEmp hsrc2 hA5
 dsimp only
 unfold elem20n2 code20
 conv => arg 2; whnf
 go_wp2_with (at_builtin; rw [HW2.out]; refine wpList_append_row rfl _ _ 28 rfl W.heap.size 73 i0 _ 6 64 Try.underlying28 I85.out.1 I85.out.2.1 I85.out.2.2.1 I85.out.2.2.2 rfl (by decide) _ 0 [] rfl HO.out ra n rc news rfl HL.out HNO.out HS.out H1.out (by unfold maxLen; omega) (by omega) (by rw [HSW2.out]; omega) ?_; intro v5 W5 ho5 hg5 ha5; obtain ⟨ao, c, rfl, hk5, hB5⟩ := HA.out v5 W5 ho5 hg5 ha5; have q6 := cell_at hB5 11 HF.out; have z6 : W5.frozen? ⟨B1, 11, none⟩ = false := (show FreeB W5 B1 from ⟨_, _, hB5⟩).free _; clear hB5; clear ho5 hg5 ha5)
 exact hk5.out _ _ _ _ _ _ _ _ _ _ _ _ _ _ _ _ _ _ _ _ _ _ _ _ _ _ _ _ _ _ _ _ _ _ _ _ _
set_option maxRecDepth 100000 in
set_option maxHeartbeats 8000000 in
theorem cop_e3 (B1 B2 : Nat) (cs : Array Value) (ra : Option Addr) (n rc : Nat) (news : List Value) (W : World) (hB : W.heap[B1]? = some (.cells cs 30 (0, 0))) (h6 : cs[10]? = some (.slice ra n rc)) (hl : news.length = n * 2) (hn : n ≤ 100000) (hno : ra = none → n = 0)
  (hsrc : ∀ ad, ra = some ad → ∀ j u, news[j]? = some u → W.cell? (ad.add j) = some u) (h1 : ∀ u ∈ news, u.oneCell' = true) (K : Act → World → Prop)
  (hK : ∀ (ao : Option Addr) (c : Nat) (W' : World), W'.ownsRow W.heap.size 57 2 (.slice ao n c) n news → ao = some ⟨blk ao, 0, none⟩ → ButOne B1 W W' → W'.heap[B1]? = some (.cells (cs.setIfInBounds 10 (.slice ao n c)) 30 (0, 0)) → ∀ (f0 f3 f4 f5 f6 f7 f8 f9 f10 f11 f12 f13 f14 f15 f16 f17 f18 f19 f20 f21 f22 f23 f24 f25 f26 f27 f28 f29 f30 f31 f32 f33 f34 f35 f36 f37 f38 : Value), K { tmps := #[f0, .pointer (some ⟨B1, 0, none⟩), .pointer (some ⟨B2, 0, none⟩), f3, f4, f5, f6, f7, f8, f9, f10, f11, f12, f13, f14, f15, f16, f17, f18, f19, f20, f21, f22, f23, f24, f25, f26, f27, f28, f29, f30, f31, f32, f33, f34, f35, f36, f37, f38], defers := [] } W') (e0 e3 e4 e5 e6 e7 e8 e9 e10 e11 e12 e13 e14 e15 e16 e17 e18 e19 e20 e21 e22 e23 e24 e25 e26 e27 e28 e29 e30 e31 e32 e33 e34 e35 e36 e37 e38 : Value) :
  elem20n3.wp Try.prog (Exit.then K (fun _ _ _ => False)) { tmps := #[e0, .pointer (some ⟨B1, 0, none⟩), .pointer (some ⟨B2, 0, none⟩), e3, e4, e5, e6, e7, e8, e9, e10, e11, e12, e13, e14, e15, e16, e17, e18, e19, e20, e21, e22, e23, e24, e25, e26, e27, e28, e29, e30, e31, e32, e33, e34, e35, e36, e37, e38], defers := [] } W := by
 obtain ⟨i0, hi85, hz0, hz1, hz2⟩ := info_parts info57
 have I85 := Lib.hid (And.intro hi85 (And.intro hz0 (And.intro hz1 hz2)))
 have hBl : B1 < W.heap.size := (Array.getElem?_eq_some_iff.1 hB).1
 obtain ⟨W2, hW2, bW2, sW2⟩ : ∃ W2, W.alloc (.cells #[] 57) = W2 ∧ Below W.heap.size W W2 ∧ W2.heap.size = W.heap.size + 1 := ⟨_, rfl, (Below.refl _ _).alloc (Nat.le_refl _) _, by simp⟩
 have hB2 := keepO' bW2 hB
 have c6 := cell_at hB 10 h6
 have hEmp : W2.ownsRow W.heap.size 57 2 (.slice (some ⟨W.heap.size, 0, none⟩) 0 0) 0 [] := by rw [← hW2]; exact own_empty W _ 57 2 (Nat.le_refl _)
 have hsrc2 : ∀ ad, ra = some ad → ∀ j u, news[j]? = some u → W2.cell? (ad.add j) = some u := fun ad ha j u hj => keep_cell bW2 (hsrc ad ha j u hj)
 have hA5 : ∀ v5 W5, W5.ownsRow W.heap.size 57 2 v5 (0 + n) ([] ++ news) → W2.grownBy W5 (some W.heap.size) → (v5.ownBlock = some W.heap.size ∨ v5.ownBlock = some W2.heap.size) → ∃ ao c, v5 = .slice ao n c ∧ Hid (∀ (f0 f3 f4 f5 f6 f7 f8 f9 f10 f11 f12 f13 f14 f15 f16 f17 f18 f19 f20 f21 f22 f23 f24 f25 f26 f27 f28 f29 f30 f31 f32 f33 f34 f35 f36 f37 f38 : Value), K { tmps := #[f0, .pointer (some ⟨B1, 0, none⟩), .pointer (some ⟨B2, 0, none⟩), f3, f4, f5, f6, f7, f8, f9, f10, f11, f12, f13, f14, f15, f16, f17, f18, f19, f20, f21, f22, f23, f24, f25, f26, f27, f28, f29, f30, f31, f32, f33, f34, f35, f36, f37, f38], defers := [] } (W5.setCell ⟨B1, 10, none⟩ (.slice ao n c))) ∧ W5.heap[B1]? = some (.cells cs 30 (0, 0)) := fun v5 W5 ho hg ha => by
  have ho' : W5.ownsRow W.heap.size 57 2 v5 n news := by simpa using ho
  obtain ⟨ao, c, rfl, _, _, hform, hob, _⟩ := own_new (by omega) ho'
  have hao : ao = some ⟨blk ao, 0, none⟩ := by
   rcases hform with e | e
   ·rw [e] at ha; rcases ha with ha | ha <;> cases ha
   ·exact e
  have hgb : W.heap.size ≤ blk ao := by
   rcases ho'.2 with ⟨e, _⟩ | ⟨g, cap, cur, e, hg2, _⟩
   ·cases e; cases hao
   ·cases e; exact hg2
  have hb5 : Below W.heap.size W W5 := bW2.grown hg (by omega) (fun k hk => by cases hk; omega)
  have hB5 := keepO' hb5 hB
  refine ⟨ao, c, rfl, Lib.hid (hK ao c _ ?_ hao ((ButOne.of_below hb5).trans (ButOne.setCell (p := ⟨B1, 10, none⟩) _)) (set_blk hB5 10 _)), hB5⟩
  rcases ho'.2 with ⟨e, _⟩ | ⟨g, cap, cur, e, hg2, hg3, hr⟩
  ·cases e; cases hao
  ·cases e
   have hne : g ≠ B1 := by have := hg2; omega
   exact ⟨ho'.1, Or.inr ⟨_, _, cur, rfl, hg2, by rw [Below.heap_setCell _ _ _ _ hne]; exact hg3, hr⟩⟩
 have HO := Lib.hid hEmp; have HS := Lib.hid hsrc2; have HL := Lib.hid hl; have HNO := Lib.hid hno; have H1 := Lib.hid h1; have HA := Lib.hid hA5; have HW2 := Lib.hid hW2; have HSW2 := Lib.hid sW2
 have HF := Lib.hid h6
 clear hi85 hz0 hz1 hz2 hK hB h6 hl hno hsrc h1 hW2 bW2 sW2 hB2 hEmp hsrc2 hA5
 dsimp only
 unfold elem20n3 code20
 conv => arg 2; whnf
 go_wp2_with (at_builtin; rw [HW2.out]; refine wpList_append_row rfl _ _ 27 rfl W.heap.size 57 i0 _ 2 40 Try.underlying27 I85.out.1 I85.out.2.1 I85.out.2.2.1 I85.out.2.2.2 rfl (by decide) _ 0 [] rfl HO.out ra n rc news rfl HL.out HNO.out HS.out H1.out (by unfold maxLen; omega) (by omega) (by rw [HSW2.out]; omega) ?_; intro v5 W5 ho5 hg5 ha5; obtain ⟨ao, c, rfl, hk5, hB5⟩ := HA.out v5 W5 ho5 hg5 ha5; have q6 := cell_at hB5 10 HF.out; have z6 : W5.frozen? ⟨B1, 10, none⟩ = false := (show FreeB W5 B1 from ⟨_, _, hB5⟩).free _; clear hB5; clear ho5 hg5 ha5)
 exact hk5.out _ _ _ _ _ _ _ _ _ _ _ _ _ _ _ _ _ _ _ _ _ _ _ _ _ _ _ _ _ _ _ _ _ _ _ _ _
set_option maxRecDepth 100000 in
set_option maxHeartbeats 8000000 in
theorem cop_e4z (B1 B2 : Nat) (cs : Array Value) (ao : Option Addr) (cc : Nat) (W0 : World) (hX : W0.heap[B1]? = some (.cells cs 30 (0, 0))) (h10 : cs[10]? = some (.slice ao 0 cc)) (K : Act → World → Prop)
  (hK : ∀ (f0 f3 f4 f5 f6 f7 f8 f9 f10 f11 f12 f13 f14 f15 f16 f17 f18 f19 f20 f21 f22 f23 f24 f25 f26 f27 f28 f29 f30 f31 f32 f33 f34 f35 f36 f37 f38 : Value), K { tmps := #[f0, .pointer (some ⟨B1, 0, none⟩), .pointer (some ⟨B2, 0, none⟩), f3, f4, f5, f6, f7, f8, f9, f10, f11, f12, f13, f14, f15, f16, f17, f18, f19, f20, f21, f22, f23, f24, f25, f26, f27, f28, f29, f30, f31, f32, f33, f34, f35, f36, f37, f38], defers := [] } W0) (e0 e3 e4 e5 e6 e7 e8 e9 e10 e11 e12 e13 e14 e15 e16 e17 e18 e19 e20 e21 e22 e23 e24 e25 e26 e27 e28 e29 e30 e31 e32 e33 e34 e35 e36 e37 e38 : Value) :
  elem20n4.wp Try.prog (Exit.then K (fun _ _ _ => False)) { tmps := #[e0, .pointer (some ⟨B1, 0, none⟩), .pointer (some ⟨B2, 0, none⟩), e3, e4, e5, e6, e7, e8, e9, e10, e11, e12, e13, e14, e15, e16, e17, e18, e19, e20, e21, e22, e23, e24, e25, e26, e27, e28, e29, e30, e31, e32, e33, e34, e35, e36, e37, e38], defers := [] } W0 := by
 have c10 := cell_at hX 10 h10
 have HK := Lib.hid hK
 clear hK hX h10
 dsimp only
 unfold elem20n4 code20
 conv => arg 2; whnf
 go_wp2_with fail
 go_loopw [22] (fun iv wr => iv = .int .i64 0 ∧ wr = W0) (fun _ _ => 0)
 case atStart => exact ⟨rfl, rfl⟩
 case round =>
  obtain ⟨rfl, rfl⟩ := hrel
  go_wp2_with fail
  exact HK.out _ _ _ _ _ _ _ _ _ _ _ _ _ _ _ _ _ _ _ _ _ _ _ _ _ _ _ _ _ _ _ _ _ _ _ _ _
set_option maxRecDepth 100000 in
set_option maxHeartbeats 8000000 in
theorem cop_e4 (ps : List Ph) (ns : List Int) (lo g n cc sz B1 B2 : Nat) (cs : Array Value) (W0 : World) (hn : ps.length = n) (hmax : n ≤ 100000) (hX : W0.heap[B1]? = some (.cells cs 30 (0, 0))) (h10 : cs[10]? = some (.slice (some ⟨g, 0, none⟩) n cc)) (hgX : B1 ≠ g) (hg0 : g < W0.heap.size) (hS : PhS ps ns lo g 0 W0 [] ps [] ns W0) (hsh : Shape W0 g 57 sz) (K : Act → World → Prop)
  (hK : ∀ (A : List Ph) (n1 : List Int) (W : World), A.length = n → PhS ps ns lo g n W0 A [] n1 [] W → Shape W g 57 sz → ∀ (f0 f3 f4 f5 f6 f7 f8 f9 f10 f11 f12 f13 f14 f15 f16 f17 f18 f19 f20 f21 f22 f23 f24 f25 f26 f27 f28 f29 f30 f31 f32 f33 f34 f35 f36 f37 f38 : Value), K { tmps := #[f0, .pointer (some ⟨B1, 0, none⟩), .pointer (some ⟨B2, 0, none⟩), f3, f4, f5, f6, f7, f8, f9, f10, f11, f12, f13, f14, f15, f16, f17, f18, f19, f20, f21, f22, f23, f24, f25, f26, f27, f28, f29, f30, f31, f32, f33, f34, f35, f36, f37, f38], defers := [] } W) (e0 e3 e4 e5 e6 e7 e8 e9 e10 e11 e12 e13 e14 e15 e16 e17 e18 e19 e20 e21 e22 e23 e24 e25 e26 e27 e28 e29 e30 e31 e32 e33 e34 e35 e36 e37 e38 : Value) :
  elem20n4.wp Try.prog (Exit.then K (fun _ _ _ => False)) { tmps := #[e0, .pointer (some ⟨B1, 0, none⟩), .pointer (some ⟨B2, 0, none⟩), e3, e4, e5, e6, e7, e8, e9, e10, e11, e12, e13, e14, e15, e16, e17, e18, e19, e20, e21, e22, e23, e24, e25, e26, e27, e28, e29, e30, e31, e32, e33, e34, e35, e36, e37, e38], defers := [] } W0 := by
 have c10 := cell_at hX 10 h10
 have HK := Lib.hid hK; have HS := Lib.hid hS; have HN := Lib.hid hn; have HC10 := Lib.hid c10; have HSH := Lib.hid hsh
 clear hK hX h10 hS hn hsh
 dsimp only
 unfold elem20n4 code20
 conv => arg 2; whnf
 go_wp2_with fail
 clear c10
 go_loopw [22] (fun iv wr => ∃ (i : Nat) (A R : List Ph) (n1 n2 : List Int), iv = .int .i64 i ∧ i + R.length = n ∧ Hid (PhS ps ns lo g i W0 A R n1 n2 wr) ∧ Hid (Shape wr g 57 sz)) (fun iv _ => n + 1 - (intOf iv).toNat)
 case atStart => exact ⟨0, [], ps, [], ns, rfl, by rw [HN.out]; omega, HS, HSH⟩
 case round =>
  obtain ⟨i, A, R, n1, n2, rfl, hin, hS, hSh⟩ := hrel
  cases R with
  | nil =>
   simp only [List.length_nil] at hin
   obtain rfl : i = n := by omega
   have h := hS.out
   have hn2 : n2 = [] := by
    have := h.nsR
    cases n2 with
    | nil => rfl
    | cons => exact this.elim
   subst hn2
   go_wp2_with fail
   exact HK.out A n1 _ h.len h hSh.out _ _ _ _ _ _ _ _ _ _ _ _ _ _ _ _ _ _ _ _ _ _ _ _ _ _ _ _ _ _ _ _ _ _ _ _ _
  | cons p r =>
   simp only [List.length_cons] at hin
   have hi : (i : Int) < (n : Int) := by omega
   have h := hS.out
   obtain ⟨⟨q0, q1, qf, ql, qA⟩, hr⟩ := h.atR
   unfold Ph.val at q1
   obtain ⟨m1, m2, hn2, k1, k2⟩ := NsAt.split (xs := p.refsL) h.nsR
   obtain ⟨sm1, sm2⟩ := h.small p (by simp)
   have CI : ∀ W, Below wr.heap.size wr W → Calls Try.prog 51 #[.slice p.ia p.its.len p.ic] W fun e W' => ∃ ao co, e = .returned (.slice ao p.its.len co) ∧ Hid (Below wr.heap.size wr W ∧ ClP p.its m1 W e W') ∧ Below wr.heap.size wr W' := fun W hb =>
    (copyItems_any _ p.its (Nat.le_refl _) p.ia p.ic m1 W sm1 qf (qA.below hb) (k1.below hb) sm2).mono fun e W' hp => by
     obtain ⟨a, co, T', h1, h2⟩ := id hp
     exact ⟨a, co, h1, Lib.hid ⟨hb, hp⟩, hb.trans (h2.2.2.2.2.2.2.mono hb.size)⟩
   have HCI := Lib.hid CI; have HK2 := Lib.hid k2; have HN2 := Lib.hid hn2
   have cX := h.but.cell HC10.out hgX
   have hXr : B1 < wr.heap.size := cell_lt cX
   have fr := h.gf.2
   have hkeep : ∀ W, Below wr.heap.size wr W → W.cell? ⟨B1, 10, none⟩ = some (.slice (some ⟨g, 0, none⟩) n cc) ∧ W.cell? ⟨g, i * 2 + 1, none⟩ = some (.slice p.ia p.its.len p.ic) ∧ W.frozen? ⟨g, i * 2 + 1, none⟩ = false := fun W hb => ⟨keep_cell hb cX, keep_cell hb q1, (fr.below hb).free _⟩
   have HKP := Lib.hid hkeep
   have hB0 : Below wr.heap.size wr wr := Below.refl _ _
   clear CI h qf ql qA hr k1 k2 sm1 sm2 hkeep fr q0 hn2
   go_wp2_with fail
   go_region_with (go_at_call 51; refine (HCI.out _ (by first | assumption | exact Below.drew (by assumption) | exact below_drewN (by assumption) _)).mono ?_; rintro e w6 ⟨ao', co', rfl, hi6, hb6⟩; have c6X := (HKP.out _ hb6).1; have c61 := (HKP.out _ hb6).2.1; have f61 := (HKP.out _ hb6).2.2; have HB6 := Lib.hid hb6)
   all_goals
    go_wp2_with fail
    go_roundw
    case rel =>
     obtain ⟨A', hA'⟩ := ph_step hS.out HN2.out HK2.out hg0 hi6.out.1 hi6.out.2
     exact ⟨i + 1, A', r, _, _, by go_num, by omega, Lib.hid hA', Lib.hid ((hSh.out.below HB6.out).set _ _ _)⟩
    case measure => simp [intOf]; omega
end Go.Proofs.Ytpnbpepkoekkoaa
end
section
namespace Go.Proofs.Ytpnbpepkoekkoaa
open Go Go.RowKit Go.Deep
section
variable {α : Type} {enc : α → List Value} {k : Nat}
theorem flat_len (hk : ∀ x, (enc x).length = k) : ∀ xs : List α, (xs.flatMap enc).length = xs.length * k
 | [] => by simp
 | x :: xs => by
  have := flat_len hk xs
  simp only [List.flatMap_cons, List.length_append, hk, List.length_cons, Nat.add_mul]; omega
theorem flat_get (hk : ∀ x, (enc x).length = k) : ∀ {xs : List α} {j : Nat} {u : Value}, (xs.flatMap enc)[j]? = some u → ∃ i x r, xs[i]? = some x ∧ (enc x)[r]? = some u ∧ j = i * k + r ∧ r < k
 | [], j, u, h => by simp at h
 | x :: xs, j, u, h => by
  simp only [List.flatMap_cons] at h
  rcases Nat.lt_or_ge j k with hj | hj
  ·rw [List.getElem?_append_left (by rw [hk]; exact hj)] at h
   exact ⟨0, x, j, rfl, h, by omega, hj⟩
  ·rw [List.getElem?_append_right (by rw [hk]; exact hj), hk] at h
   obtain ⟨i, y, r, h1, h2, h3, h4⟩ := flat_get hk h
   exact ⟨i + 1, y, r, by simpa using h1, h2, by rw [Nat.add_mul]; omega, h4⟩
theorem get_flat (hk : ∀ x, (enc x).length = k) : ∀ {xs : List α} {i r : Nat} {x : α} {u : Value}, xs[i]? = some x → (enc x)[r]? = some u → (xs.flatMap enc)[i * k + r]? = some u
 | [], i, r, x, u, h, _ => by cases h
 | y :: xs, 0, r, x, u, h, h2 => by
  cases h
  have hr := (List.getElem?_eq_some_iff.1 h2).1
  simp only [List.flatMap_cons, Nat.zero_mul, Nat.zero_add]
  rw [List.getElem?_append_left hr]; exact h2
 | y :: xs, i + 1, r, x, u, h, h2 => by
  have := get_flat hk (xs := xs) (i := i) (by simpa using h) h2
  simp only [List.flatMap_cons]
  rw [List.getElem?_append_right (by rw [hk, Nat.add_mul]; omega), hk]
  rw [show (i + 1) * k + r - k = i * k + r by rw [Nat.add_mul]; omega]; exact this
theorem row_flat (hk : ∀ x, (enc x).length = k) {w : World} {b o : Nat} {xs : List α} : AtRow enc k w b o xs ↔ ∀ j u, (xs.flatMap enc)[j]? = some u → w.cell? ⟨b, o + j, none⟩ = some u := by
 constructor
 ·intro h j u hj
  obtain ⟨i, x, r, h1, h2, rfl, _⟩ := flat_get hk hj
  have := h i x h1 r u h2
  rw [← Nat.add_assoc]; exact this
 ·intro h i x hi r u hr
  have := h _ _ (get_flat hk hi hr)
  rw [← Nat.add_assoc] at this; exact this
end
theorem encR_len (x : Rol) : (encR x).length = 4 := rfl
def phCell (p : Ph) : List Value := [sv p.name, p.val]
theorem phCell_len (p : Ph) : (phCell p).length = 2 := rfl
theorem encR_one (xs : List Rol) : ∀ u ∈ xs.flatMap encR, u.oneCell' = true := by
 intro u hu
 obtain ⟨x, _, h⟩ := List.mem_flatMap.1 hu
 simp only [encR, List.mem_cons, List.mem_nil_iff, or_false] at h
 rcases h with rfl | rfl | rfl | rfl <;> rfl
theorem phCell_one (xs : List Ph) : ∀ u ∈ xs.flatMap phCell, u.oneCell' = true := by
 intro u hu
 obtain ⟨x, _, h⟩ := List.mem_flatMap.1 hu
 simp only [phCell, List.mem_cons, List.mem_nil_iff, or_false] at h
 rcases h with rfl | rfl <;> rfl
theorem phAt_cells {w : World} {b : Nat} : ∀ {o : Nat} {ps : List Ph}, phAt w b o ps ↔ (∀ j u, (ps.flatMap phCell)[j]? = some u → w.cell? ⟨b, o + j, none⟩ = some u) ∧ ∀ p ∈ ps, p.Its w
 | o, [] => by simp [phAt]
 | o, p :: r => by
  simp only [phAt, phAt_cells (ps := r) (o := o + 2), List.flatMap_cons, List.mem_cons]
  constructor
  ·rintro ⟨⟨h1, h2, h3⟩, h4, h5⟩
   refine ⟨fun j u hj => ?_, fun q hq => ?_⟩
   ·match j, hj with
    | 0, hj => simp [phCell] at hj; subst hj; exact h1
    | 1, hj => simp [phCell] at hj; subst hj; exact h2
    | j + 2, hj =>
     have := h4 j u (by simpa [phCell] using hj)
     rw [show o + (j + 2) = o + 2 + j by omega]; exact this
   ·rcases hq with rfl | hq
    ·exact h3
    ·exact h5 q hq
  ·rintro ⟨h1, h2⟩
   refine ⟨⟨h1 0 _ (by simp [phCell]), h1 1 _ (by simp [phCell]), h2 p (Or.inl rfl)⟩, fun j u hj => ?_, fun q hq => h2 q (Or.inr hq)⟩
   have := h1 (j + 2) u (by simpa [phCell] using hj)
   rw [show o + 2 + j = o + (j + 2) by omega]; exact this
structure Ls.cpOk (s : Ls) : Prop where
 roles : s.roles.length ≤ 100000
 phrases : s.phrases.length ≤ 100000
 dances : s.dances.length ≤ 100000
 items : ∀ p ∈ s.phrases, p.its.len ≤ 100000 ∧ p.its.small
theorem Ls.small.cp {s : Ls} (h : s.small) : s.cpOk := by
 refine ⟨by have := h.roles; omega, by have := h.phrases; omega, by have := h.dances; omega, fun p hp => ?_⟩
 obtain ⟨h1, h2⟩ := h.items p hp
 have h3 := p.its.strip.len_le_size
 rw [p.its.strip_len, p.its.strip_size] at h3
 exact ⟨by omega, p.its.small_of (by omega) (by omega)⟩
structure Ls.Own (x : Ls) (B : Nat) (W : World) : Prop where
 roles : W.ownsRow B 59 4 (.slice x.ra x.roles.length x.rc) x.roles.length (x.roles.flatMap encR)
 phrases : W.ownsRow B 57 2 (.slice x.fa x.phrases.length x.fc) x.phrases.length (x.phrases.flatMap phCell)
 raf : x.ra = some ⟨blk x.ra, 0, none⟩
 faf : x.fa = some ⟨blk x.fa, 0, none⟩
 daf : x.da = some ⟨blk x.da, 0, none⟩
 ra : blk x.ra ∉ phOwn x.phrases
 rf : blk x.ra ≠ blk x.fa
 rd : blk x.ra ≠ blk x.da
 fd : blk x.fa ≠ blk x.da
def Ls.tup (s : Ls) : List (Option Addr) × List Nat × List Tmp × List Pau × List Con := ([s.ta, s.ua, s.sa], [s.tc, s.uc, s.sc], s.tempos, s.pauses, s.spans)
def CopP (s : Ls) (ns : List Int) (w : World) (e : Ending) (w' : World) : Prop :=
 ∃ x : Ls, e = .returned x.val ∧ x.strip = s.strip ∧ x.At w' ∧ NsAt w' x.refs ns ∧ x.Sep ∧ (∀ r ∈ x.refs, w.heap.size ≤ r.b ∧ FreeB w' r.b) ∧ x.Own w.heap.size w' ∧ (∀ b ∈ phOwn x.phrases, w.heap.size ≤ b) ∧ Below w.heap.size w w' ∧ x.tup = s.tup
theorem lsCells_one (x : Ls) : x.cells.all (·.oneCell') = true := by
 unfold Ls.cells
 simp only [Array.all_eq_true', Array.mem_def, List.mem_cons, List.mem_nil_iff, or_false]
 rintro z (rfl | rfl | rfl | rfl | rfl | rfl | rfl | rfl | rfl | rfl | rfl | rfl) <;> rfl
theorem row_src {α : Type} {enc : α → List Value} {k : Nat} (hk : ∀ x, (enc x).length = k) {w : World} {ao : Option Addr} {n c : Nat} {xs : List α} (h : IsRow enc k w (.slice ao n c) xs) : n = xs.length ∧ (ao = none → n = 0) ∧ ∀ ad, ao = some ad → ∀ j u, (xs.flatMap enc)[j]? = some u → w.cell? (ad.add j) = some u := by
 obtain ⟨ao', c', e, _, h⟩ := h
 injection e with e1 e2 e3
 subst e1 e2
 refine ⟨rfl, fun e => ?_, fun ad ha j u hj => ?_⟩
 ·rcases h with h | ⟨b, o, h1, _⟩
  ·rw [h]; rfl
  ·rw [e] at h1; cases h1
 ·rcases h with h | ⟨b, o, h1, h2, _⟩
  ·rw [h] at hj; simp at hj
  ·rw [h1] at ha; cases ha
   rw [addr_plain]
   exact (row_flat hk).1 h2 j u hj
theorem own_but {w w' : World} {B e s n X : Nat} {v : Value} {xs : List Value} (h : w.ownsRow B e s v n xs) (hb : ButOne X w w') (hX : ∀ g, v.ownBlock = some g → g ≠ X) : w'.ownsRow B e s v n xs :=
 h.kept (row := some X) ⟨hb.os, hb.tape, hb.output, hb.size, fun k hk hne => hb.block k hk fun e => hne (by rw [e])⟩ (by
  cases hv : v.ownBlock with
  | none => exact Or.inl rfl
  | some g => exact Or.inr fun e => hX g hv (by simpa using e))
theorem own_base {w : World} {B B' e s n : Nat} {v : Value} {xs : List Value} (h : w.ownsRow B e s v n xs) (hB : B' ≤ B) : w.ownsRow B' e s v n xs := by
 refine ⟨h.1, ?_⟩
 rcases h.2 with h1 | ⟨g, c, cur, h1, h2, h3⟩
 ·exact Or.inl h1
 ·exact Or.inr ⟨g, c, cur, h1, Nat.le_trans hB h2, h3⟩
theorem own_lt {w : World} {B e s n : Nat} {v : Value} {xs : List Value} (h : w.ownsRow B e s v n xs) {g : Nat} (hg : v.ownBlock = some g) : B ≤ g ∧ g < w.heap.size := World.ownsRow.lt h g hg
theorem own_isRow {w : World} {B e k : Nat} {α : Type} {enc : α → List Value} (hk : ∀ x, (enc x).length = k) {ao : Option Addr} {c : Nat} {xs : List α} (hm : xs.length ≤ maxLen) (h : w.ownsRow B e k (.slice ao xs.length c) xs.length (xs.flatMap enc)) : IsRow enc k w (.slice ao xs.length c) xs := by
 refine ⟨ao, c, rfl, hm, ?_⟩
 rcases h.2 with ⟨e, e2⟩ | ⟨g, cap, cur, e, h2, h3, _⟩
 ·exact Or.inl (List.length_eq_zero_iff.1 e2)
 ·cases e
  refine Or.inr ⟨g, 0, rfl, (row_flat hk).2 fun j u hj => ?_, (Array.getElem?_eq_some_iff.1 h3).1⟩
  have := h.cells (g := g) rfl j u hj
  rw [addr_plain] at this; exact this
theorem cop_join {s : Ls} {ns n1 n2 : List Int} {w W4 W5 : World} {ao1 ao2 ao3 : Option Addr} {c1 c2 c3 : Nat} {A : List Ph} {news2 : List Value} (hA : s.At w) (hns : ns = n1 ++ n2) (hc : s.cpOk) (b4 : Below w.heap.size w W4)
  (h1 : W4.ownsRow w.heap.size 59 4 (.slice ao1 s.roles.length c1) s.roles.length (s.roles.flatMap encR)) (a1 : ao1 = some ⟨blk ao1, 0, none⟩)
  (h2 : W4.ownsRow w.heap.size 73 6 (.slice ao2 s.dances.length c2) s.dances.length news2) (a2 : ao2 = some ⟨blk ao2, 0, none⟩) (hd : danAt W4 (blk ao2) 0 s.dances) (hdn : NsAt W4 (danRefs (blk ao2) 0 s.dances) n2)
  (a3 : ao3 = some ⟨blk ao3, 0, none⟩) (hF : w.heap.size ≤ blk ao3 ∧ s.phrases.length ≤ c3 ∧ c3 ≤ maxLen) (o12 : blk ao1 < blk ao2) (o23 : blk ao2 < blk ao3) (o3 : blk ao3 < W4.heap.size)
  (hst : A.map Ph.strip = s.phrases.map Ph.strip) (hat : phAt W5 (blk ao3) 0 A) (hnA : NsAt W5 (phRefs A) n1) (hnd : (blk ao3 :: phOwn A).Nodup) (hown : ∀ b ∈ phOwn A, W4.heap.size ≤ b ∧ FreeB W5 b) (hsh : Shape W5 (blk ao3) 57 (c3 * 2)) (b45 : ButOne (blk ao3) W4 W5) :
  ∃ x : Ls, x.cells = ((s.cells.setIfInBounds 6 (.slice ao1 s.roles.length c1)).setIfInBounds 11 (.slice ao2 s.dances.length c2)).setIfInBounds 10 (.slice ao3 s.phrases.length c3) ∧ x.strip = s.strip ∧
   ∀ W6, ButOne (w.heap.size + 1) W5 W6 → w.heap.size + 1 < blk ao1 → x.At W6 ∧ NsAt W6 x.refs ns ∧ x.Sep ∧ (∀ r ∈ x.refs, w.heap.size ≤ r.b ∧ FreeB W6 r.b) ∧ x.Own w.heap.size W6 ∧ (∀ b ∈ phOwn x.phrases, w.heap.size ≤ b) ∧ Below w.heap.size w W6 ∧ x.tup = s.tup := by
 have hlA : A.length = s.phrases.length := by simpa using congrArg List.length hst
 obtain ⟨hnd1, hnd2⟩ := List.nodup_cons.1 hnd
 refine ⟨{ s with ra := ao1, rc := c1, da := ao2, dc := c2, fa := ao3, fc := c3, phrases := A }, ?_, ?_, fun W6 hb6 hlo => ?_⟩
 ·unfold Ls.cells
  simp [hlA]
 ·unfold Ls.strip
  simp only [hst]
 ·have hs4 := b4.size
  have hs5 := b45.size
  have e1 : off ao1 = 0 := by rw [a1]; rfl
  have e2 : off ao2 = 0 := by rw [a2]; rfl
  have e3 : off ao3 = 0 := by rw [a3]; rfl
  have b5 : Below w.heap.size w W5 := b4.trans (b45.below hF.1 hs4)
  have b6 : Below w.heap.size w W6 := b5.trans (hb6.below (by omega) (by omega))
  have ob : ∀ {ao : Option Addr} {n c : Nat} {g : Nat}, ao = some ⟨blk ao, 0, none⟩ → (Value.slice ao n c).ownBlock = some g → g = blk ao := fun h1 h2 => by
   rw [h1] at h2; exact (Option.some.inj h2).symm
  have ro : W6.ownsRow w.heap.size 59 4 (.slice ao1 s.roles.length c1) s.roles.length (s.roles.flatMap encR) :=
   own_but (own_but h1 b45 fun g hg => by rw [ob a1 hg]; omega) hb6 fun g hg => by rw [ob a1 hg]; omega
  have k6 : ∀ b, b < W4.heap.size → b ≠ blk ao3 → b ≠ w.heap.size + 1 → W6.heap[b]? = W4.heap[b]? := fun b h1 h2 h3 => (hb6.block b (by omega) h3).trans (b45.block b h1 h2)
  have cellOf : ∀ {W W' : World} {c : Nat}, W'.heap[c]? = W.heap[c]? → ∀ q v, W.cell? ⟨c, q, none⟩ = some v → W'.cell? ⟨c, q, none⟩ = some v := fun hb q v hc => (World.cell?_of_block hb).trans hc
  have kd : ∀ q v, W4.cell? ⟨blk ao2, q, none⟩ = some v → W6.cell? ⟨blk ao2, q, none⟩ = some v := cellOf (k6 _ (by omega) (by omega) (by omega))
  have kf : ∀ q v, W5.cell? ⟨blk ao3, q, none⟩ = some v → W6.cell? ⟨blk ao3, q, none⟩ = some v := cellOf (hb6.block _ (by omega) (by omega))
  have ko : ∀ b ∈ phOwn A, W6.heap[b]? = W5.heap[b]? := fun b hb => hb6.block b (hown b hb).2.lt (by have := (hown b hb).1; omega)
  have at6 : phAt W6 (blk ao3) 0 A := phAt_kept hat (fun q v _ => kf q v) fun c hc => cellOf (ko c hc)
  have hdan : danAt W6 (blk ao2) 0 s.dances := danAt_kept hd fun q v _ => kd q v
  have hdns : NsAt W6 (danRefs (blk ao2) 0 s.dances) n2 := hdn.kept fun x hx v hv => by
   rw [(danRefs_mem hx).1] at hv ⊢; exact kd _ _ hv
  have hpns : NsAt W6 (phRefs A) n1 := hnA.kept fun x hx v hv => cellOf (ko _ (phRefs_own hx)) _ _ hv
  have hph : W6.ownsRow w.heap.size 57 2 (.slice ao3 A.length c3) A.length (A.flatMap phCell) := by
   rw [a3]
   refine own_of_shape (hsh.but hb6 (by omega)) (by omega) hF.2.2 hF.1 (flat_len phCell_len A) fun j u hj => ?_
   have := (phAt_cells.1 at6).1 j u hj
   rw [Nat.zero_add] at this; exact this
  have dfree : s.dances ≠ [] → FreeB W6 (blk ao2) := fun hz => by
   rcases h2.2 with ⟨e, _⟩ | ⟨g, c, cur, e, _, hg, _⟩
   ·injection e with e
    rw [e] at a2; cases a2
   ·injection e with e _ _
    subst e
    exact ⟨cur, 73, (k6 _ (by omega) (by omega) (by omega)).trans hg⟩
  have hml : ∀ m, m ≤ 100000 → m ≤ maxLen := fun m h => by unfold maxLen; omega
  refine ⟨⟨own_isRow encR_len (hml _ hc.roles) ro, hA.tempos.below b6 (Nat.le_refl _), hA.pauses.below b6 (Nat.le_refl _), hA.spans.below b6 (Nat.le_refl _), Or.inr (by show ao3 = some ⟨blk ao3, off ao3, none⟩; rw [e3]; exact a3), by show A.length ≤ _; rw [hlA]; exact hml _ hc.phrases, by show phAt W6 (blk ao3) (off ao3) A; rw [e3]; exact at6, Or.inr (by show ao2 = some ⟨blk ao2, off ao2, none⟩; rw [e2]; exact a2), hml _ hc.dances, by show danAt W6 (blk ao2) (off ao2) s.dances; rw [e2]; exact hdan⟩, ?_, ⟨hnd2, hnd1, ?_, ?_⟩, ?_, ⟨ro, hph, a1, a3, a2, ?_, ?_, ?_, ?_⟩, ?_, b6, rfl⟩
  ·rw [hns]
   refine NsAt.append hpns ?_
   show NsAt W6 (danRefs (blk ao2) (off ao2) s.dances) n2
   rw [e2]; exact hdns
  ·intro _ hm
   have := (hown _ hm).1
   simp only at this; omega
  ·intro _ _ e
   simp only at e; omega
  ·intro r hr
   unfold Ls.refs at hr
   rcases List.mem_append.1 hr with hr | hr
   ·have hm := phRefs_own hr
    obtain ⟨h5, h6⟩ := hown _ hm
    obtain ⟨cur, t, h7⟩ := h6
    exact ⟨by omega, cur, t, (ko _ hm).trans h7⟩
   ·obtain ⟨q1, _, q3, _⟩ := danRefs_mem hr
    rw [q1]
    exact ⟨by show _ ≤ blk ao2; omega, dfree q3⟩
  ·intro hm
   have := (hown _ hm).1
   simp only at this; omega
  ·show blk ao1 ≠ blk ao3; omega
  ·show blk ao1 ≠ blk ao2; omega
  ·show blk ao3 ≠ blk ao2; omega
  ·intro b hb
   have := (hown b hb).1; omega
noncomputable def part20n5 : Code := lastPart 5 code20
set_option maxRecDepth 100000 in
set_option maxHeartbeats 8000000 in
theorem cop_e5 (B1 B2 : Nat) (x : Ls) (z : Array Value) (R : Ending → World → Prop) (W : World) (h1 : W.heap[B1]? = some (.cells x.cells 30 (0, 0))) (h2 : W.heap[B2]? = some (.cells z 30 (0, 0))) (hz : z.size = 12)
  (hR : ∀ W', ButOne B2 W W' → R (.returned x.val) W') (e0 e3 e4 e5 e6 e7 e8 e9 e10 e11 e12 e13 e14 e15 e16 e17 e18 e19 e20 e21 e22 e23 e24 e25 e26 e27 e28 e29 e30 e31 e32 e33 e34 e35 e36 e37 e38 : Value) :
  part20n5.wp Try.prog (bodyPost Try.prog Try.f20 R) { tmps := #[e0, .pointer (some ⟨B1, 0, none⟩), .pointer (some ⟨B2, 0, none⟩), e3, e4, e5, e6, e7, e8, e9, e10, e11, e12, e13, e14, e15, e16, e17, e18, e19, e20, e21, e22, e23, e24, e25, e26, e27, e28, e29, e30, e31, e32, e33, e34, e35, e36, e37, e38], defers := [] } W := by
 obtain ⟨W', hW', hb, hg⟩ : ∃ W', W.setRow B2 x.cells = W' ∧ ButOne B2 W W' ∧ W'.heap[B2]? = some (.cells x.cells 30 (0, 0)) := by
  refine ⟨_, rfl, ⟨rfl, rfl, rfl, by simp [World.setRow], fun b hb hne => ?_⟩, ?_⟩
  ·simp only [World.setRow]
   rw [Array.getElem?_modify, if_neg (fun e => hne e.symm)]
  ·simp only [World.setRow]
   rw [Array.getElem?_modify, if_pos rfl, h2]; rfl
 have hr := hR W' hb
 unfold Ls.val at hr
 have H1 := Lib.hid h1; have H2 := Lib.hid h2; have HZ := Lib.hid hz; have HW := Lib.hid hW'; have HG := Lib.hid hg; have HR := Lib.hid hr; have HO := Lib.hid (lsCells_one x)
 clear h1 h2 hz hR hW' hb hg hr
 dsimp only
 unfold part20n5 code20
 conv => arg 2; whnf
 go_wp2_with (first
  | (refine wpList_load_row rfl 30 _ rfl B1 rfl 30 x.cells (0, 0) _ H1.out Try.underlying30 rfl (by kernel_rfl) ?_; simp only [Act.put, List.setIfInBounds_toArray, List.set_cons_zero, List.set_cons_succ])
  | (refine wpList_store_row rfl 30 _ _ rfl B2 x.cells rfl rfl 30 z H2.out (by kernel_rfl) (by rw [HZ.out]; rfl) HO.out ?_; rw [HW.out]))
 have hX := HG.out
 unfold Ls.cells at hX HR
 refine bodyPost_ret (v := .agg x.cells) ?_ rfl HR.out
 have y0 := cell_at hX 0 rfl; have y1 := cell_at hX 1 rfl; have y2 := cell_at hX 2 rfl; have y3 := cell_at hX 3 rfl; have y4 := cell_at hX 4 rfl; have y5 := cell_at hX 5 rfl; have y6 := cell_at hX 6 rfl; have y7 := cell_at hX 7 rfl; have y8 := cell_at hX 8 rfl; have y9 := cell_at hX 9 rfl; have y10 := cell_at hX 10 rfl; have y11 := cell_at hX 11 rfl
 clear hX
 simp [results, Try.results20, go_sem, y0, y1, y2, y3, y4, y5, y6, y7, y8, y9, y10, y11, Ls.cells]
theorem costep1 : lastPart 1 code20 = .seq elem20n1 (lastPart 2 code20) := rfl
theorem costep2 : lastPart 2 code20 = .seq elem20n2 (lastPart 3 code20) := rfl
theorem costep3 : lastPart 3 code20 = .seq elem20n3 (lastPart 4 code20) := rfl
theorem costep4 : lastPart 4 code20 = .seq elem20n4 (part20n5) := rfl
set_option maxRecDepth 100000 in
set_option maxHeartbeats 8000000 in
theorem copied_any (s : Ls) (ns : List Int) (w : World) (hA : s.At w) (hN : NsAt w s.refs ns) (hc : s.cpOk) : Calls Try.prog 20 #[s.val] w (CopP s ns w) := by
 obtain ⟨n1, n2, hns, hN1, hN2⟩ := NsAt.split (xs := phRefs s.phrases) hN
 obtain ⟨W1, hW1, gW1, hW1z, bW1, sW1⟩ : ∃ W1, (w.alloc (.cells s.cells 30)).alloc (.cells zeroSc 30) = W1 ∧ W1.heap[w.heap.size]? = some (.cells s.cells 30 (0, 0)) ∧ W1.heap[w.heap.size + 1]? = some (.cells zeroSc 30 (0, 0)) ∧ Below w.heap.size w W1 ∧ W1.heap.size = w.heap.size + 2 := by
  refine ⟨_, rfl, (heap_alloc_old _ _ (by simp)).trans (heap_alloc_new w _), ?_, ((Below.refl _ w).alloc (Nat.le_refl _) _).alloc (by simp) _, by simp⟩
  have := heap_alloc_new (w.alloc (.cells s.cells 30)) (.cells zeroSc 30)
  simpa using this
 have HG := Lib.hid gW1; have HGz := Lib.hid hW1z; have HB := Lib.hid bW1; have HS := Lib.hid sW1; have HW := Lib.hid hW1
 have HA := Lib.hid hA; have HN1 := Lib.hid hN1; have HN2 := Lib.hid hN2; have HC := Lib.hid hc; have HNS := Lib.hid hns
 have hsv : s.val = .agg s.cells := rfl
 rw [hsv]
 clear gW1 hW1z bW1 sW1 hW1 hA hN hN1 hN2 hc hns hsv
 obtain ⟨cs, hcs⟩ : ∃ cs, s.cells = cs := ⟨_, rfl⟩
 have HCS := Lib.hid hcs
 have hw1 := HW.out
 rw [hcs] at hw1 ⊢
 have HW1 := Lib.hid hw1
 clear hcs hw1 HW
 go_enter Try.func20, Try.ntmps20
 change Code.wp Try.prog (.seq elem20n0 (lastPart 1 code20)) _ _ _
 refine wp_seq_then (fun K hK => ?_)
 have HK := Lib.hid hK
 clear hK
 unfold elem20n0
 conv => arg 2; whnf
 go_wp2_with fail
 have e0 : ((w.alloc (.cells cs 30)).alloc (.cells #[.string ⟨#[]⟩, .int .i64 0, .int .i64 0, .int .i64 0, .int .i64 0, .int .i64 0, .slice none 0 0, .slice none 0 0, .slice none 0 0, .slice none 0 0, .slice none 0 0, .slice none 0 0] 30)) = W1 := HW1.out
 rw [e0]
 refine HK.out _ _ ?_
 clear HK K e0
 have hA := HA.out; have hc := HC.out; have hb1 := HB.out; have hs1 := HS.out
 rw [costep1]
 obtain ⟨_, hno, hsrc⟩ := row_src encR_len (hA.roles.below hb1 (Nat.le_refl _))
 refine wp_seq_then (fun K hK => cop_e1 w.heap.size (w.heap.size + 1) s.cells s.ra s.roles.length s.rc (s.roles.flatMap encR) W1 HG.out rfl (flat_len encR_len _) hc.roles hno hsrc (encR_one _) K ?_ _ _ _ _ _ _ _ _ _ _ _ _ _ _ _ _ _ _ _ _ _ _ _ _ _ _ _ _ _ _ _ _ _ _ _ _ _)
 intro ao1 c1 W2 ho1 ha1 hb2 hg2
 intros
 refine hK _ _ ?_
 clear hK K hno hsrc
 have hs2 := hb2.size
 have b02 : Below w.heap.size w W2 := hb1.trans (hb2.below (Nat.le_refl _) (by omega))
 have hdl : s.dances.length = s.dances.length := rfl
 obtain ⟨news2, l1, l2, l3⟩ := read_row (danRow (danAt_below b02 hA.dances) (HN2.out.below b02))
 have hdno : s.da = none → s.dances.length = 0 := fun e => by
  rcases hA.dform with h | h
  ·rw [h]; rfl
  ·rw [e] at h; cases h
 have hdsrc : ∀ ad, s.da = some ad → ∀ j u, news2[j]? = some u → W2.cell? (ad.add j) = some u := fun ad ha j u hj => by
  rcases hA.dform with h | h
  ·have := (List.getElem?_eq_some_iff.1 hj).1; rw [l1, h] at this; simp at this
  ·rw [h] at ha; cases ha
   rw [addr_plain]; exact l2 j u hj
 rw [costep2]
 refine wp_seq_then (fun K hK => cop_e2 w.heap.size (w.heap.size + 1) _ s.da s.dances.length s.dc news2 W2 hg2 rfl (by omega) hc.dances hdno hdsrc l3 K ?_ _ _ _ _ _ _ _ _ _ _ _ _ _ _ _ _ _ _ _ _ _ _ _ _ _ _ _ _ _ _ _ _ _ _ _ _ _)
 intro ao2 c2 W3 ho2 ha2 hb3 hg3
 intros
 refine hK _ _ ?_
 clear hK K hdno hdsrc hdl
 have hs3 := hb3.size
 have b03 : Below w.heap.size w W3 := b02.trans (hb3.below (Nat.le_refl _) (by omega))
 have hp3 := phAt_below b03 hA.phrases
 have hpno : s.fa = none → s.phrases.length = 0 := fun e => by
  rcases hA.pform with h | h
  ·rw [h]; rfl
  ·rw [e] at h; cases h
 have hpsrc : ∀ ad, s.fa = some ad → ∀ j u, (s.phrases.flatMap phCell)[j]? = some u → W3.cell? (ad.add j) = some u := fun ad ha j u hj => by
  rcases hA.pform with h | h
  ·rw [h] at hj; simp at hj
  ·rw [h] at ha; cases ha
   rw [addr_plain]; exact (phAt_cells.1 hp3).1 j u hj
 rw [costep3]
 refine wp_seq_then (fun K hK => cop_e3 w.heap.size (w.heap.size + 1) _ s.fa s.phrases.length s.fc (s.phrases.flatMap phCell) W3 hg3 rfl (flat_len phCell_len _) hc.phrases hpno hpsrc (phCell_one _) K ?_ _ _ _ _ _ _ _ _ _ _ _ _ _ _ _ _ _ _ _ _ _ _ _ _ _ _ _ _ _ _ _ _ _ _ _ _ _)
 intro ao3 c3 W4 ho3 ha3 hb4 hg4
 intros
 refine hK _ _ ?_
 clear hK K hpno hpsrc
 have hs4 := hb4.size
 have b04 : Below w.heap.size w W4 := b03.trans (hb4.below (Nat.le_refl _) (by omega))
 have obk : ∀ {ao : Option Addr} {n c : Nat}, ao = some ⟨blk ao, 0, none⟩ → (Value.slice ao n c).ownBlock = some (blk ao) := fun h => by rw [h]; rfl
 have ob : ∀ {ao : Option Addr} {n c : Nat} {g : Nat}, ao = some ⟨blk ao, 0, none⟩ → (Value.slice ao n c).ownBlock = some g → g = blk ao := fun h1 h2 => by
  rw [h1] at h2; exact (Option.some.inj h2).symm
 have r1 := own_lt ho1 (obk ha1)
 have r2 := own_lt ho2 (obk ha2)
 have r3 := own_lt ho3 (obk ha3)
 have ro4 := own_base (B' := w.heap.size) (own_but (own_but ho1 hb3 fun g hg => by rw [ob ha1 hg]; omega) hb4 fun g hg => by rw [ob ha1 hg]; omega) (by omega)
 have do4 := own_base (B' := w.heap.size) (own_but ho2 hb4 fun g hg => by rw [ob ha2 hg]; omega) (by omega)
 have hnews4 : ∀ j u, news2[j]? = some u → W4.cell? ⟨blk ao2, 0 + j, none⟩ = some u := fun j u hj => by
  have := do4.cells (g := blk ao2) (obk ha2) j u hj
  rw [addr_plain] at this; exact this
 have hcp2 : s.dances ≠ [] → Cp W2 (blk s.da) (off s.da) W4 (blk ao2) 0 (6 * s.dances.length) := fun hz q v hq hc => by
  obtain ⟨u, hu⟩ : ∃ u, news2[q]? = some u := ⟨_, List.getElem?_eq_getElem (by omega)⟩
  have := l2 q u hu
  rw [hc] at this; cases this
  exact hnews4 q v hu
 have hd4 : danAt W4 (blk ao2) 0 s.dances ∧ NsAt W4 (danRefs (blk ao2) 0 s.dances) n2 := by
  by_cases hz : s.dances = []
  ·have h2 := HN2.out
   rw [hz] at h2 ⊢
   exact ⟨trivial, by cases n2 with | nil => trivial | cons => exact h2.elim⟩
  ·exact ⟨danAt_cp (danAt_below b02 hA.dances) (hcp2 hz), danNs_cp (HN2.out.below b02) (hcp2 hz)⟩
 obtain ⟨cap3, ecap, hsh4, hle4, hmx4, hbb4⟩ := shape_of_own ho3 (obk ha3)
 have hc3 : cap3 = c3 := by injection ecap with _ _ e; exact e.symm
 subst hc3
 have ph4 : phAt W4 (blk ao3) 0 s.phrases := phAt_cells.2 ⟨fun j u hj => by
  have := ho3.cells (g := blk ao3) (obk ha3) j u hj
  rw [addr_plain] at this; exact this, fun p hp => ((phAt_cells.1 hA.phrases).2 p hp).below b04⟩
 have hJ := fun (A : List Ph) (W5 : World) hst hat hnA hnd hown hsh b45 => cop_join (A := A) (W5 := W5) hA HNS.out hc b04 ro4 ha1 do4 ha2 hd4.1 hd4.2 ha3 ⟨by omega, hle4, hmx4⟩ (by omega) (by omega) r3.2 hst hat hnA hnd hown hsh b45
 have hgz5 : ∀ W5, ButOne (blk ao3) W4 W5 → W5.heap[w.heap.size]? = some (.cells (((s.cells.setIfInBounds 6 (.slice ao1 s.roles.length c1)).setIfInBounds 11 (.slice ao2 s.dances.length c2)).setIfInBounds 10 (.slice ao3 s.phrases.length cap3)) 30 (0, 0)) ∧ W5.heap[w.heap.size + 1]? = some (.cells zeroSc 30 (0, 0)) := fun W5 hb => by
  refine ⟨(hb.block _ (by omega) (by omega)).trans hg4, ?_⟩
  rw [hb.block _ (by omega) (by omega), hb4.block _ (by omega) (by omega), hb3.block _ (by omega) (by omega), hb2.block _ (by omega) (by omega)]
  exact HGz.out
 have hfin : ∀ (A : List Ph) (W5 : World), A.map Ph.strip = s.phrases.map Ph.strip → phAt W5 (blk ao3) 0 A → NsAt W5 (phRefs A) n1 → (blk ao3 :: phOwn A).Nodup → (∀ b ∈ phOwn A, W4.heap.size ≤ b ∧ FreeB W5 b) → Shape W5 (blk ao3) 57 (cap3 * 2) → ButOne (blk ao3) W4 W5 → ∀ (e0 e3 e4 e5 e6 e7 e8 e9 e10 e11 e12 e13 e14 e15 e16 e17 e18 e19 e20 e21 e22 e23 e24 e25 e26 e27 e28 e29 e30 e31 e32 e33 e34 e35 e36 e37 e38 : Value), part20n5.wp Try.prog (bodyPost Try.prog Try.f20 (CopP s ns w)) { tmps := #[e0, .pointer (some ⟨w.heap.size, 0, none⟩), .pointer (some ⟨(w.heap.size + 1), 0, none⟩), e3, e4, e5, e6, e7, e8, e9, e10, e11, e12, e13, e14, e15, e16, e17, e18, e19, e20, e21, e22, e23, e24, e25, e26, e27, e28, e29, e30, e31, e32, e33, e34, e35, e36, e37, e38], defers := [] } W5 := by
  intro A W5 k1 k2 k3 k4 k5 k6 k7 e0 e3 e4 e5 e6 e7 e8 e9 e10 e11 e12 e13 e14 e15 e16 e17 e18 e19 e20 e21 e22 e23 e24 e25 e26 e27 e28 e29 e30 e31 e32 e33 e34 e35 e36 e37 e38
  obtain ⟨x, x1, x2, x3⟩ := hJ A W5 k1 k2 k3 k4 k5 k6 k7
  obtain ⟨g1, g2⟩ := hgz5 W5 k7
  rw [← x1] at g1
  refine cop_e5 w.heap.size (w.heap.size + 1) x zeroSc (CopP s ns w) W5 g1 g2 rfl (fun W6 hb6 => ?_) _ _ _ _ _ _ _ _ _ _ _ _ _ _ _ _ _ _ _ _ _ _ _ _ _ _ _ _ _ _ _ _ _ _ _ _ _
  exact ⟨x, rfl, x2, x3 W6 hb6 (by omega)⟩
 rw [costep4]
 by_cases hpz : s.phrases = []
 ·have hn1 : n1 = [] := by
   have := HN1.out
   rw [hpz] at this
   cases n1 with
   | nil => rfl
   | cons => exact this.elim
  refine wp_seq_then (fun K hK => cop_e4z w.heap.size (w.heap.size + 1) _ ao3 cap3 W4 hg4 (by rw [hpz]; rfl) K ?_ _ _ _ _ _ _ _ _ _ _ _ _ _ _ _ _ _ _ _ _ _ _ _ _ _ _ _ _ _ _ _ _ _ _ _ _ _)
  intros
  refine hK _ _ ?_
  exact hfin [] W4 (by rw [hpz]) trivial (by rw [hn1]; trivial) (by simp [phOwn]) (fun b hb => by cases hb) hsh4 (ButOne.refl _ _) _ _ _ _ _ _ _ _ _ _ _ _ _ _ _ _ _ _ _ _ _ _ _ _ _ _ _ _ _ _ _ _ _ _ _ _ _
 ·have hg5 : (((s.cells.setIfInBounds 6 (.slice ao1 s.roles.length c1)).setIfInBounds 11 (.slice ao2 s.dances.length c2)).setIfInBounds 10 (.slice ao3 s.phrases.length cap3))[10]? = some (.slice (some ⟨blk ao3, 0, none⟩) s.phrases.length cap3) := by
   have : (((s.cells.setIfInBounds 6 (.slice ao1 s.roles.length c1)).setIfInBounds 11 (.slice ao2 s.dances.length c2)).setIfInBounds 10 (.slice ao3 s.phrases.length cap3))[10]? = some (.slice ao3 s.phrases.length cap3) := rfl
   rw [this, ← ha3]
  refine wp_seq_then (fun K hK => cop_e4 s.phrases n1 w.heap.size (blk ao3) s.phrases.length cap3 (cap3 * 2) w.heap.size (w.heap.size + 1) _ W4 rfl hc.phrases hg4 hg5 (by omega) r3.2 ⟨rfl, rfl, rfl, trivial, trivial, by simpa using ph4, HN1.out.below b04, by simp [phOwn], (fun b hb => by cases hb), ⟨by omega, hsh4.free⟩, phOwn_lt hA.phrases, hc.items, ButOne.refl _ _⟩ hsh4 K ?_ _ _ _ _ _ _ _ _ _ _ _ _ _ _ _ _ _ _ _ _ _ _ _ _ _ _ _ _ _ _ _ _ _ _ _ _ _)
  intro A n1' W5 hl5 h5 hsh5
  intros
  refine hK _ _ ?_
  have hnn : n1' = n1 := by have := h5.nseq; simpa using this
  exact hfin A W5 (by have := h5.strip; simpa using this) h5.atA (by rw [← hnn]; exact h5.nsA) h5.apart h5.own hsh5 h5.but _ _ _ _ _ _ _ _ _ _ _ _ _ _ _ _ _ _ _ _ _ _ _ _ _ _ _ _ _ _ _ _ _ _ _ _ _
end Go.Proofs.Ytpnbpepkoekkoaa
end
section
namespace Go.Proofs.Ytpnbpepkoekkoaa
open Go Go.RowKit Go.Deep
set_option maxRecDepth 100000 in
theorem wp_append_at {o : Oper} {a : Act} {K : Act → World → Prop} {Q : Exit → Act → World → Prop} {w : World} (s x : Operand) (t : TypeId)
  (ho : o.op = .call { callee := .builtin .append, args := #[s, x], argTypes := #[t, t] })
  (base : Nat) (e : TypeId) (i : TypeInfo) (z : Value) (size bytes : Nat) (ht : Try.prog.underlying t = some (.slice e)) (hi : Try.prog.info? e = some i) (hz : i.zero = some z)
  (hsize : i.size = size) (hby : i.bytes = bytes) (hzs : z.cells.size = size) (hsz : 0 < size)
  (v : Value) (n : Nat) (xs : List Value) (hs : a.eval s = v) (hown : w.ownsRow base e size v n xs)
  (ad : Addr) (m c : Nat) (news : List Value) (hx : a.eval x = .slice (some ad) m c) (hl : news.length = m * size) (hnews : ∀ j u, news[j]? = some u → w.cell? (ad.add j) = some u) (h1 : ∀ u ∈ news, u.oneCell' = true)
  (h63 : n + m ≤ maxLen) (hbytes : (n + m) * bytes ≤ 140737488355328) (hbase : base ≤ w.heap.size)
  (h : ∀ v' w', w'.ownsRow base e size v' (n + m) (xs ++ news) → w.grownBy w' v.ownBlock → (v'.ownBlock = v.ownBlock ∨ v'.ownBlock = some w.heap.size) → K (a.put o.dst v') w') : o.wp Try.prog a w K Q := by
 obtain ⟨v', w', hr, h2, h3, _, h4⟩ := run_append_own_at (P := Try.prog) w base t o.type e i z size bytes ht hi hz hsize hby hzs hsz v n xs hown ad m c news hl hnews h1 h63 hbytes hbase
 unfold Oper.wp execOp
 simp only [ho, resolve, invoke, builtin, Sem.run_bind, Sem.run_pure, Result.andThen_ok, List.map_toArray, List.map_cons, List.map_nil, hs, hx, hr]
 exact h v' w' h2 h3 h4
def RowV {α : Type} (enc : α → List Value) (W : World) (g : Nat) (xs : List α) : Prop := ∀ j u, (xs.flatMap enc)[j]? = some u → W.cell? ⟨g, j, none⟩ = some u
section
variable {α : Type} {enc : α → List Value} {k : Nat}
theorem RowV.get (hk : ∀ x, (enc x).length = k) {W : World} {g : Nat} {xs : List α} (h : RowV enc W g xs) {i r : Nat} {x : α} {u : Value} (hx : xs[i]? = some x) (hr : (enc x)[r]? = some u) : W.cell? ⟨g, i * k + r, none⟩ = some u := h _ _ (get_flat hk hx hr)
theorem RowV.same {W W' : World} {g : Nat} {xs : List α} (h : RowV enc W g xs) (hb : W'.heap[g]? = W.heap[g]?) : RowV enc W' g xs := fun j u hj => (World.cell?_of_block hb).trans (h j u hj)
theorem RowV.set (hk : ∀ x, (enc x).length = k) {W W' : World} {g i : Nat} {xs : List α} {p : α} (h : RowV enc W g xs) (hi : i < xs.length) (h1 : ∀ r u, (enc p)[r]? = some u → W'.cell? ⟨g, i * k + r, none⟩ = some u)
  (h2 : ∀ q v, (q < i * k ∨ i * k + k ≤ q) → W.cell? ⟨g, q, none⟩ = some v → W'.cell? ⟨g, q, none⟩ = some v) : RowV enc W' g (xs.set i p) := by
 intro j u hj
 obtain ⟨i', x, r, h3, h4, rfl, h5⟩ := flat_get hk hj
 rw [List.getElem?_set] at h3
 by_cases e : i = i'
 ·subst e
  rw [if_pos rfl, if_pos hi] at h3
  cases h3
  exact h1 r u h4
 ·rw [if_neg e] at h3
  refine h2 _ _ ?_ (h.get hk h3 h4)
  rcases Nat.lt_or_gt_of_ne e with h6 | h6
  ·right
   have := Nat.mul_le_mul_right k (show i + 1 ≤ i' by omega)
   rw [Nat.add_mul] at this; omega
  ·left
   have := Nat.mul_le_mul_right k (show i' + 1 ≤ i by omega)
   rw [Nat.add_mul] at this; omega
theorem own_rowV {W : World} {B e n g c : Nat} {xs : List α} (h : W.ownsRow B e k (.slice (some ⟨g, 0, none⟩) n c) n (xs.flatMap enc)) : RowV enc W g xs := fun j u hj => by
 have := h.cells (g := g) rfl j u hj
 rw [addr_plain, Nat.zero_add] at this; exact this
end
structure CpW (s : Ls) (ns : List Int) (w : World) (x : Ls) (W : World) : Prop where
 strip : x.strip = s.strip
 at_ : x.At W
 ns : NsAt W x.refs ns
 sep : x.Sep
 refs : ∀ r ∈ x.refs, w.heap.size ≤ r.b ∧ FreeB W r.b
 own : x.Own w.heap.size W
 pown : ∀ b ∈ phOwn x.phrases, w.heap.size ≤ b
 below : Below w.heap.size w W
 tup : x.tup = s.tup
theorem CpW.of {s : Ls} {ns : List Int} {w : World} {e : Ending} {w' : World} (h : CopP s ns w e w') : ∃ x, e = .returned x.val ∧ CpW s ns w x w' := by
 obtain ⟨x, h0, h1, h2, h3, h4, h5, h6, h7, h8, h9⟩ := h
 exact ⟨x, h0, h1, h2, h3, h4, h5, h6, h7, h8, h9⟩
theorem own_same {w w' : World} {B e s n : Nat} {v : Value} {xs : List Value} (h : w.ownsRow B e s v n xs) (hb : ∀ g, v.ownBlock = some g → w'.heap[g]? = w.heap[g]?) : w'.ownsRow B e s v n xs := by
 refine ⟨h.1, ?_⟩
 rcases h.2 with h1 | ⟨g, c, cur, rfl, h2, h3, h4⟩
 ·exact Or.inl h1
 ·exact Or.inr ⟨g, c, cur, rfl, h2, (hb g rfl).trans h3, h4⟩
theorem Ls.Own.lt {x : Ls} {B : Nat} {W : World} (h : x.Own B W) : (B ≤ blk x.ra ∧ blk x.ra < W.heap.size) ∧ (B ≤ blk x.fa ∧ blk x.fa < W.heap.size) := by
 have h1 := own_lt h.roles (show (Value.slice x.ra x.roles.length x.rc).ownBlock = some (blk x.ra) by rw [h.raf]; rfl)
 have h2 := own_lt h.phrases (show (Value.slice x.fa x.phrases.length x.fc).ownBlock = some (blk x.fa) by rw [h.faf]; rfl)
 exact ⟨h1, h2⟩
theorem phNs_each {W : World} : ∀ {ps : List Ph} {ns : List Int}, NsAt W (phRefs ps) ns → ∀ p ∈ ps, ∃ m, NsAt W p.refsL m
 | [], _, _, _, h => by cases h
 | p :: r, ns, h, q, hq => by
  obtain ⟨a, b, _, h1, h2⟩ := NsAt.split (xs := p.refsL) h
  rcases List.mem_cons.1 hq with rfl | hq
  ·exact ⟨a, h1⟩
  ·exact phNs_each h2 q hq
theorem phOwn_mem {ps : List Ph} {p : Ph} (h : p ∈ ps) {c : Nat} (hc : c ∈ p.its.own p.ia) : c ∈ phOwn ps := List.mem_flatMap.2 ⟨p, h, hc⟩
structure Kept (s : Ls) (ns : List Int) (w : World) (x : Ls) (W W' : World) (f : Nat) : Prop where
 cp : CpW s ns w x W
 below : Below w.heap.size w W'
 keep : ∀ b, b < W.heap.size → b ≠ f → W'.heap[b]? = W.heap[b]?
theorem Kept.tempos {s : Ls} {ns : List Int} {w : World} {x : Ls} {W W' : World} {f : Nat} (h : Kept s ns w x W W' f) (hs : s.At w) :
  IsRow encT 3 W' (.slice x.ta x.tempos.length x.tc) x.tempos ∧ IsRow encP 4 W' (.slice x.ua x.pauses.length x.uc) x.pauses ∧ IsRow encC 4 W' (.slice x.sa x.spans.length x.sc) x.spans := by
 have e := h.cp.tup
 unfold Ls.tup at e
 simp only [Prod.mk.injEq, List.cons.injEq, and_true] at e
 obtain ⟨⟨e1, e2, e3⟩, ⟨e4, e5, e6⟩, e7, e8, e9⟩ := e
 rw [e1, e2, e3, e4, e5, e6, e7, e8, e9]
 exact ⟨hs.tempos.below h.below (Nat.le_refl _), hs.pauses.below h.below (Nat.le_refl _), hs.spans.below h.below (Nat.le_refl _)⟩
theorem cell_blk {W W' : World} {c : Nat} (hb : W'.heap[c]? = W.heap[c]?) (q : Nat) (v : Value) (hc : W.cell? ⟨c, q, none⟩ = some v) : W'.cell? ⟨c, q, none⟩ = some v := (World.cell?_of_block hb).trans hc
theorem Kept.dances {s : Ls} {ns : List Int} {w : World} {x : Ls} {W W' : World} {f : Nat} (h : Kept s ns w x W W' f) (hf : f ≠ blk x.da) :
  danAt W' (blk x.da) (off x.da) x.dances ∧ ∃ m, NsAt W' (danRefs (blk x.da) (off x.da) x.dances) m := by
 obtain ⟨n1, n2, _, _, h2⟩ := NsAt.split (xs := phRefs x.phrases) h.cp.ns
 by_cases hz : x.dances = []
 ·rw [hz]
  exact ⟨trivial, [], trivial⟩
 ·have hlt : blk x.da < W.heap.size := by
   have := h.cp.at_.dances
   cases hd : x.dances with
   | nil => exact absurd hd hz
   | cons d r => rw [hd] at this; exact cell_lt this.1.1
  have hk := cell_blk (h.keep _ hlt (Ne.symm hf))
  exact ⟨danAt_kept h.cp.at_.dances fun q v _ => hk q v, n2, h2.kept fun r hr v hv => by rw [(danRefs_mem hr).1] at hv ⊢; exact hk _ _ hv⟩
theorem Kept.its {s : Ls} {ns : List Int} {w : World} {x : Ls} {W W' : World} {f : Nat} (h : Kept s ns w x W W' f) (hf : f ∉ phOwn x.phrases) {p : Ph} (hp : p ∈ x.phrases) : p.Its W' ∧ ∃ m, NsAt W' p.refsL m := by
 obtain ⟨n1, n2, _, h1, _⟩ := NsAt.split (xs := phRefs x.phrases) h.cp.ns
 obtain ⟨m, hm⟩ := phNs_each h1 p hp
 have hk : ∀ c ∈ p.its.own p.ia, ∀ q v, W.cell? ⟨c, q, none⟩ = some v → W'.cell? ⟨c, q, none⟩ = some v := fun c hc q v hv =>
  cell_blk (h.keep c (cell_lt hv) (fun e => hf (e ▸ phOwn_mem hp hc))) q v hv
 exact ⟨((phAt_cells.1 h.cp.at_.phrases).2 p hp).kept hk, m, hm.kept fun r hr v hv => hk _ (Lt.own_mem hr) _ _ hv⟩
theorem Kept.roles {s : Ls} {ns : List Int} {w : World} {x : Ls} {W W' : World} {f : Nat} (h : Kept s ns w x W W' f) (hf : f ≠ blk x.ra) (hm : x.roles.length ≤ maxLen) : IsRow encR 4 W' (.slice x.ra x.roles.length x.rc) x.roles := by
 refine own_isRow encR_len hm (own_same h.cp.own.roles fun g hg => ?_)
 have hg' : g = blk x.ra := by rw [h.cp.own.raf] at hg; exact (Option.some.inj hg).symm
 rw [hg']
 exact h.keep _ h.cp.own.lt.1.2 (Ne.symm hf)
end Go.Proofs.Ytpnbpepkoekkoaa
end
