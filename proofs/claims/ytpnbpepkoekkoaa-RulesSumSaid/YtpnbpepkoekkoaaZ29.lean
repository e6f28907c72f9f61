/- Contracts and plain laws on the way to the statement: part 29. -/
import Derived.Test.YtpnbpepkoekkoaaZ28
set_option linter.unusedVariables false
set_option linter.unusedSimpArgs false
section
namespace Go.Proofs.Ytpnbpepkoekkoaa
open Go Go.RowKit Go.Shelf
noncomputable def body16b : Code := match lastPart 5 code16 with
 | .seq (.seq _ (.block _ (.rangeFunc _ _ _ b))) _ => b
 | _ => .skip
theorem elem63 : Try.prog.underlying 63 = some (.slice (Try.prog.elem 63)) := by kernel_rfl
theorem slice_one (aC : Option Addr) (n cC : Nat) (hn : 1 ≤ n) (hc : n ≤ cC) : ∃ ao' : Option Addr, (0 < n - 1 → ∀ b o, aC = some ⟨b, o, none⟩ → ao' = some ⟨b, o + 1, none⟩) ∧ ∀ W, (Instr.slice 63 (.slice aC n cC) (some (.int .i64 1)) none none).run Try.prog W = .ok (.slice ao' (n - 1) (cC - 1)) W := by
 have hsz : ∀ W, (sizeOf (Try.prog.elem 63)).run Try.prog W = .ok 1 W := by
  intro W
  have h1 : Try.prog.elem 63 = 3 := by kernel_rfl
  obtain ⟨i3, hi3, hz3, hs3, hb3⟩ := info3
  rw [h1]
  simp [sizeOf, typeInfo, hi3, hs3]
 refine ⟨if cC = 1 then aC else aC.map (·.add (1 * 1)), fun h1 b o h3 => ?_, fun W => ?_⟩
 ·rw [if_neg (by omega), h3]
  simp [addr_plain]
 ·rw [run_slice_l W 63 aC n cC elem63 .i64 1 (by omega) (by omega), hsz]
  simp only [Result.andThen, sliced]
  rfl
structure Chk2 (TB : Nat) (W1 : World) (g m : Nat) (ks ns : List Int) (pre : List RefL) (W : World) : Prop where
 but : ButOne TB W1 W
 row : ∃ ao c, W.heap[TB]? = some (.cells #[.slice ao (m - pre.length) c] 63 (0, 0)) ∧ (0 < m - pre.length → ao = some ⟨g, pre.length, none⟩) ∧ m - pre.length ≤ c
 same : ks.take pre.length = ns.take pre.length
structure Chk2X (TB E : Nat) (w0 W1 : World) (ks ns : List Int) (W : World) : Prop where
 size : W1.heap.size ≤ W.heap.size
 rest : ∀ b, b < W1.heap.size → b ≠ TB → b ≠ E → W.heap[b]? = W1.heap[b]?
 err : W.heap[E]? = some (.cells #[.int .i64 170] 35 (0, 0))
 base : Below w0.heap.size w0 W
 ne : ks ≠ ns
theorem take_snoc {l : List Int} {i : Nat} {x : Int} (h : l[i]? = some x) : l.take (i + 1) = l.take i ++ [x] := by
 rw [List.take_add_one, h]; rfl
section
attribute [local go_sem] Oper.semAt_some
set_option maxRecDepth 100000 in
set_option maxHeartbeats 4000000 in
theorem chk_body2 (l : Nat) (B1 E X TB g : Nat) (w0 W1 : World) (ks ns : List Int) (rs : List RefL) (hN : NsAt W1 rs ks) (hrT : ∀ r ∈ rs, r.b ≠ TB) (hge : w0.heap.size ≤ TB ∧ w0.heap.size ≤ E) (hl1 : TB < W1.heap.size ∧ E < W1.heap.size) (hET : E ≠ TB) (hgT : g ≠ TB)
  (hE : W1.heap[E]? = some (.cells #[.int .i64 0] 35 (0, 0))) (hns : ns.length = rs.length) (hG : ∀ (i : Nat) (n : Int), ns[i]? = some n → W1.cell? ⟨g, i, none⟩ = some (.int .i64 n)) (hw0 : Below w0.heap.size w0 W1)
  (pre rest : List RefL) (r : RefL) (W : World) (hs : rs = pre ++ r :: rest) (hI : Chk2 TB W1 g rs.length ks ns pre W) (e0 e5 e7 e8 e9 e10 e11 e12 e13 e14 e15 e16 e17 e18 e19 e20 e21 e22 e23 e24 e25 e26 e27 e28 e29 e30 e31 e32 e33 e34 e35 e36 e37 : Value) :
  body16b.wpIn (Fence.wide.inRound l) 10 Try.prog (allPost W1.heap.size (Chk2 TB W1 g rs.length ks ns) (Chk2X TB E w0 W1 ks ns) (fun _ => False) (errChain 170) (pre ++ [r]) W) { tmps := #[e0, .pointer (some ⟨B1, 0, none⟩), .pointer (some ⟨E, 0, none⟩), .pointer (some ⟨X, 0, none⟩), .pointer (some ⟨TB, 0, none⟩), e5, .pointer (some ⟨r.b, r.o, none⟩), e7, e8, e9, e10, e11, e12, e13, e14, e15, e16, e17, e18, e19, e20, e21, e22, e23, e24, e25, e26, e27, e28, e29, e30, e31, e32, e33, e34, e35, e36, e37], defers := [] } W := by
 obtain ⟨ao, c, ht, hao, hc⟩ := hI.row
 have hml : rs.length = pre.length + (rest.length + 1) := by rw [hs]; simp
 obtain ⟨k1, k2, hks, q1, q2⟩ := NsAt.split (xs := pre) (hs ▸ hN)
 obtain ⟨k, js, rfl⟩ : ∃ k js, k2 = k :: js := by
  cases k2 with
  | nil => exact q2.elim
  | cons k js => exact ⟨k, js, rfl⟩
 have hkl := q1.len
 have hki : ks[pre.length]? = some k := by rw [hks, ← hkl]; simp
 obtain ⟨n, hni⟩ : ∃ n, ns[pre.length]? = some n := ⟨_, List.getElem?_eq_getElem (by omega)⟩
 have hao' := hao (by omega)
 subst hao'
 have hr : r ∈ rs := by rw [hs]; simp
 have d1 : W.cell? ⟨r.b, r.o + 1, none⟩ = some (.int .i64 k) := hI.but.cell q2.1 (hrT r hr)
 have d2 : W.cell? ⟨g, pre.length, none⟩ = some (.int .i64 n) := hI.but.cell (hG _ _ hni) hgT
 have d3 : W.cell? ⟨TB, 0, none⟩ = some (.slice (some ⟨g, pre.length, none⟩) (rs.length - pre.length) c) := cell_at ht 0 rfl
 have fT : W.frozen? ⟨TB, 0, none⟩ = false := (show FreeB W TB from ⟨_, _, ht⟩).free 0
 have hEW : W.heap[E]? = some (.cells #[.int .i64 0] 35 (0, 0)) := hI.but.blocks hE hET
 have fE : W.frozen? ⟨E, 0, none⟩ = false := (show FreeB W E from ⟨_, _, hEW⟩).free 0
 have dE : W.cell? ⟨E, 0, none⟩ = some (.int .i64 0) := cell_at hEW 0 rfl
 have mixed : Try.prog.follows .mixedOrders = true := by kernel_rfl
 have hmp : 1 ≤ rs.length - pre.length := by omega
 obtain ⟨ao2, ha2, hsl⟩ := slice_one (some ⟨g, pre.length, none⟩) (rs.length - pre.length) c hmp hc
 have hA2 := fun h => ha2 h _ _ rfl
 have hidn : 0 < rs.length - pre.length := by omega
 have hidx : (0 : Int) < ((rs.length - pre.length : Nat) : Int) := by omega
 by_cases hkn : k = n
 ·subst hkn
  have hp : ∀ q, allPost W1.heap.size (Chk2 TB W1 g rs.length ks ns) (Chk2X TB E w0 W1 ks ns) (fun _ => False) (errChain 170) (pre ++ [r]) W .normal { tmps := #[], defers := [] } ((W.drewN q).setCell ⟨TB, 0, none⟩ (.slice ao2 (rs.length - pre.length - 1) (c - 1))) := fun q => by
   obtain ⟨W3, x3, g3, o3, b3, s3⟩ := set_box (w := W.drewN q) ht (.slice ao2 (rs.length - pre.length - 1) (c - 1))
   rw [x3]
   have hpl : (pre ++ [r]).length = pre.length + 1 := by simp
   refine ⟨⟨by rw [s3]; exact Nat.le_refl _, fun b h1 h2 _ => o3 b (by omega)⟩, ⟨?_, ⟨ao2, c - 1, ?_, ?_, ?_⟩, ?_⟩⟩
   ·rw [← x3]
    exact (hI.but.trans (ButOne.of_below (below_drewN (Below.refl _ _) _))).trans (ButOne.setCell (W := W.drewN q) (p := ⟨TB, 0, none⟩) _)
   ·rw [hpl, ← Nat.sub_sub]; exact g3
   ·rw [hpl, ← Nat.sub_sub]; exact hA2
   ·rw [hpl]; omega
   ·rw [hpl, take_snoc hki, take_snoc hni, hI.same]
  have hP2 : ∀ (a : Act) q, allPost W1.heap.size (Chk2 TB W1 g rs.length ks ns) (Chk2X TB E w0 W1 ks ns) (fun _ => False) (errChain 170) (pre ++ [r]) W .normal a ((W.drewN q).setCell ⟨TB, 0, none⟩ (.slice ao2 (rs.length - pre.length - 1) (c - 1))) := fun a q => hp q
  have HP := Lib.hid hP2
  generalize hPQ : allPost W1.heap.size (Chk2 TB W1 g rs.length ks ns) (Chk2X TB E w0 W1 ks ns) (fun _ => False) (errChain 170) (pre ++ [r]) W = PQ at *
  generalize rs.length - pre.length = mm at *
  generalize pre.length = pl at *
  clear hp hP2 ht hao hml hks q1 q2 hkl hki hni hI hE hEW hG hN hrT ha2 hA2 hs hge hl1 hns hw0 fE dE hr hPQ
  dsimp only
  unfold body16b code16
  conv => arg 4; whnf
  gi_wp2_with fail
  refine region_round mixed (by kernel_rfl) (by kernel_rfl) ?_
  repeat (quiet_step_in (fail))
  refine wpQuietIn_nil ?_
  rintro W2 ⟨nq, rfl⟩
  gi_wp2_with fail
  exact HP.out _ _
 ·have hp : ∀ q, allPost W1.heap.size (Chk2 TB W1 g rs.length ks ns) (Chk2X TB E w0 W1 ks ns) (fun _ => False) (errChain 170) (pre ++ [r]) W .ret { tmps := #[], defers := [] } ((W.drewN q).setCell ⟨E, 0, none⟩ (.int .i64 170)) := fun q => by
   obtain ⟨W3, x3, g3, o3, b3, s3⟩ := set_box (w := W.drewN q) hEW (.int .i64 170)
   rw [x3]
   refine ⟨⟨by rw [s3]; exact Nat.le_refl _, fun b h1 h2 _ => o3 b (by omega)⟩, by rw [s3]; exact hI.but.size, fun b h1 h2 h3 => (o3 b h3).trans (hI.but.block b h1 h2), g3, b3 _ _ (hw0.trans ((hI.but.below (B := w0.heap.size) hge.1 hw0.size).trans (below_drewN (Below.refl _ _) _))) hge.2, fun e => hkn ?_⟩
   rw [e, hni] at hki
   injection hki with h; exact h.symm
  have hP2 : ∀ (a : Act) q, allPost W1.heap.size (Chk2 TB W1 g rs.length ks ns) (Chk2X TB E w0 W1 ks ns) (fun _ => False) (errChain 170) (pre ++ [r]) W .ret a ((W.drewN q).setCell ⟨E, 0, none⟩ (.int .i64 170)) := fun a q => hp q
  have HP := Lib.hid hP2
  have hkb : (k == n) = false := by simpa using hkn
  have hkb2 : (k != n) = true := by simpa using hkn
  generalize hPQ : allPost W1.heap.size (Chk2 TB W1 g rs.length ks ns) (Chk2X TB E w0 W1 ks ns) (fun _ => False) (errChain 170) (pre ++ [r]) W = PQ at *
  generalize rs.length - pre.length = mm at *
  generalize pre.length = pl at *
  clear hp hP2 ht hao hml hks q1 q2 hkl hki hni hI hE hEW hG hN hrT ha2 hA2 hs hge hl1 hns hw0 hr hPQ fT hsl
  dsimp only
  unfold body16b code16
  conv => arg 4; whnf
  gi_wp2_with fail
  refine region_round mixed (by kernel_rfl) (by kernel_rfl) ?_
  repeat (quiet_step_in (fail))
  refine wpQuietIn_nil ?_
  rintro W2 ⟨nq, rfl⟩
  gi_wp2_with fail
  exact HP.out _ _
end
end Go.Proofs.Ytpnbpepkoekkoaa
end
section
namespace Go.Proofs.Ytpnbpepkoekkoaa
open Go Go.RowKit Go.Shelf
theorem count_refs : ∀ (T : Lt) (d : Nat) (left l : Int) (b o : Nat), 0 ≤ left → T.strip.count d left = some l → 0 ≤ l ∧ ((T.refsL b o).length : Int) ≤ 65 * (T.len + (left - l))
 | .nil, d, left, l, b, o, h0, e => by
  simp only [Lt.strip, Its.count, Option.some.injEq] at e
  subst e
  simp [Lt.refsL, Lt.len]; exact h0
 | .cons k n un ia ic its ma mc ms r, d, left, l, b, o, h0, e => by
  simp only [Lt.strip, Its.count] at e
  split at e
  ·rename_i hc
   obtain ⟨c0, c1, _⟩ := hc
   rw [Lt.strip_len] at c1
   split at e
   ·cases e
   ·rename_i l1 e1
    rw [Lt.strip_len] at e1
    obtain ⟨z1, a1⟩ := count_refs its _ _ _ (blk ia) (off ia) (by omega) e1
    obtain ⟨z2, b1⟩ := count_refs r _ _ _ b (o + 6) z1 e
    have hm : ∀ (o : Nat) (ms : List Mov), (movRefs (blk ma) o ms).length = ms.length := by
     intro o ms
     induction ms generalizing o with
     | nil => rfl
     | cons m ms ih => simp [movRefs, ih]
    refine ⟨z2, ?_⟩
    simp only [Lt.refsL, List.length_cons, List.length_append, hm, Lt.len]
    push_cast
    omega
  ·cases e
theorem countP_refs : ∀ (ps : List Ph) (left l : Int), 0 ≤ left → countP (ps.map Ph.strip) left = some l → 0 ≤ l ∧ ((phRefs ps).length : Int) ≤ 65 * (left - l)
 | [], left, l, h, e => by simp only [List.map_nil, countP, Option.some.injEq] at e; subst e; simp [phRefs]; exact h
 | q :: r, left, l, h, e => by
  simp only [List.map_cons, countP] at e
  split at e
  ·cases e
  ·rename_i l1 e1
   unfold Its.countL at e1
   split at e1
   ·rename_i hc
    obtain ⟨c1, _⟩ := hc
    simp only [Ph.strip, Lt.strip_len] at c1 e1
    obtain ⟨z1, a1⟩ := count_refs q.its _ _ _ (blk q.ia) (off q.ia) (by omega) e1
    obtain ⟨z2, b1⟩ := countP_refs r _ _ z1 e
    refine ⟨z2, ?_⟩
    simp only [phRefs, Ph.refsL, List.length_append]
    push_cast
    omega
   ·cases e1
theorem refs_few {s : Ls} (h : s.strip.lims = true) : s.refs.length ≤ 1000000 := by
 have hd := (lims_small h).2.1
 unfold Sc.lims at h
 simp only [Bool.and_eq_true] at h
 obtain ⟨l, hl⟩ := Option.isSome_iff_exists.1 h.2
 obtain ⟨z, a⟩ := countP_refs s.phrases 4096 l (by omega) hl
 have hdl : ∀ (b o : Nat) (ds : List Dan), (danRefs b o ds).length = 2 * ds.length := by
  intro b o ds
  induction ds generalizing o with
  | nil => rfl
  | cons d ds ih => simp only [danRefs, List.length_cons, ih]; omega
 unfold Ls.refs
 rw [List.length_append, hdl]
 omega
noncomputable def elem16n0 : Code := match lastPart 0 code16 with
 | .seq a _ => a
 | c => c
noncomputable def elem16n1 : Code := match lastPart 1 code16 with
 | .seq a _ => a
 | c => c
noncomputable def elem16n2 : Code := match lastPart 2 code16 with
 | .seq a _ => a
 | c => c
noncomputable def elem16n3 : Code := match lastPart 3 code16 with
 | .seq a _ => a
 | c => c
theorem cstep0 : code16 = .seq elem16n0 (lastPart 1 code16) := rfl
theorem cstep1 : lastPart 1 code16 = .seq elem16n1 (lastPart 2 code16) := rfl
theorem cstep2 : lastPart 2 code16 = .seq elem16n2 (lastPart 3 code16) := rfl
theorem cstep3 : lastPart 3 code16 = .seq elem16n3 (lastPart 4 code16) := rfl
set_option maxRecDepth 100000 in
set_option maxHeartbeats 8000000 in
theorem chk_e0 (s : Ls) (W : World) (K : Act → World → Prop)
  (hK : ∀ (W' : World) (B1 E : Nat), Below W.heap.size W W' → W.heap.size ≤ B1 → W.heap.size ≤ E → B1 ≠ E → W'.heap[B1]? = some (.cells s.cells 30 (0, 0)) → W'.heap[E]? = some (.cells #[.int .i64 0] 35 (0, 0)) →
   ∀ (e0 e3 e4 e5 e6 e7 e8 e9 e10 e11 e12 e13 e14 e15 e16 e17 e18 e19 e20 e21 e22 e23 e24 e25 e26 e27 e28 e29 e30 e31 e32 e33 e34 e35 e36 e37 : Value), K { tmps := #[e0, .pointer (some ⟨B1, 0, none⟩), .pointer (some ⟨E, 0, none⟩), e3, e4, e5, e6, e7, e8, e9, e10, e11, e12, e13, e14, e15, e16, e17, e18, e19, e20, e21, e22, e23, e24, e25, e26, e27, e28, e29, e30, e31, e32, e33, e34, e35, e36, e37], defers := [] } W') :
  elem16n0.wp Try.prog (Exit.then K (fun _ _ _ => False)) { tmps := #[s.val] ++ Array.replicate 37 undef, defers := [] } W := by
 unfold Ls.val
 unfold Ls.cells at hK ⊢
 obtain ⟨W1, x1, g1, b1, s1⟩ := mk_cells W #[sv s.name, .int .i64 s.wd, .int .i64 s.dp, .int .i64 s.bars, .int .i64 s.t0, .int .i64 s.t1, .slice s.ra s.roles.length s.rc, .slice s.ta s.tempos.length s.tc, .slice s.ua s.pauses.length s.uc, .slice s.sa s.spans.length s.sc, .slice s.fa s.phrases.length s.fc, .slice s.da s.dances.length s.dc] 30
 obtain ⟨W3, x3, g3, b3, s3⟩ := mk_cells W1 #[.int .i64 0] 35
 have HF := Lib.hid (hK W3 W.heap.size W1.heap.size (b1.trans (b3.mono (by omega))) (Nat.le_refl _) (by omega) (by omega) ((b3.block _ (by omega)).trans g1) g3)
 clear hK g1 g3 b1 b3 s1 s3
 simp only [Array.replicate]
 unfold elem16n0 code16
 conv => arg 2; whnf
 go_wp2_with fail
 exact HF.out _ _ _ _ _ _ _ _ _ _ _ _ _ _ _ _ _ _ _ _ _ _ _ _ _ _ _ _ _ _ _ _ _ _ _ _
theorem put_both {V : World} {E : Nat} {x : Value} (hE : V.heap[E]? = some (.cells #[x] 35 (0, 0))) (xs : Array Value) (v : Value) : ∃ W', (V.alloc (.cells xs 30)).setCell ⟨E, 0, none⟩ v = W' ∧
   W'.heap[V.heap.size]? = some (.cells xs 30 (0, 0)) ∧ W'.heap[E]? = some (.cells #[v] 35 (0, 0)) ∧ ButOne E V W' := by
 have hEl := (Array.getElem?_eq_some_iff.1 hE).1
 obtain ⟨W1, x1, g1, b1, s1⟩ := mk_cells V xs 30
 have hE2 : W1.heap[E]? = some (.cells #[x] 35 (0, 0)) := (b1.block _ hEl).trans hE
 obtain ⟨W3, x3, g3, o3, b3, s3⟩ := set_box hE2 v
 refine ⟨W3, by rw [x1, x3], (o3 _ (by omega)).trans g1, g3, ?_⟩
 rw [← x3]
 exact (ButOne.of_below b1).trans (ButOne.setCell (p := ⟨E, 0, none⟩) _)
set_option maxRecDepth 100000 in
set_option maxHeartbeats 8000000 in
theorem chk_e1 (s : Ls) (ns : List Int) (B1 E : Nat) (W : World) (hB : W.heap[B1]? = some (.cells s.cells 30 (0, 0))) (hE : W.heap[E]? = some (.cells #[.int .i64 0] 35 (0, 0))) (hA : s.At W) (hN : NsAt W s.refs ns) (he : Env W) (K : Act → World → Prop)
  (hK : ∀ (V W' : World) (xv : Array Value) (X : Nat), ResP s ns W (.returned (.tuple #[.agg xv, .int .i64 (resE s.strip ns)])) V → V.heap.size ≤ X → X < W'.heap.size → W'.heap[X]? = some (.cells xv 30 (0, 0)) → W'.heap[E]? = some (.cells #[.int .i64 (resE s.strip ns)] 35 (0, 0)) → ButOne E V W' →
   ∀ (e0 e4 e5 e6 e7 e8 e9 e10 e11 e12 e13 e14 e15 e16 e17 e18 e19 e20 e21 e22 e23 e24 e25 e26 e27 e28 e29 e30 e31 e32 e33 e34 e35 e36 e37 : Value), K { tmps := #[e0, .pointer (some ⟨B1, 0, none⟩), .pointer (some ⟨E, 0, none⟩), .pointer (some ⟨X, 0, none⟩), e4, e5, e6, e7, e8, e9, e10, e11, e12, e13, e14, e15, e16, e17, e18, e19, e20, e21, e22, e23, e24, e25, e26, e27, e28, e29, e30, e31, e32, e33, e34, e35, e36, e37], defers := [] } W')
  (e0 e3 e4 e5 e6 e7 e8 e9 e10 e11 e12 e13 e14 e15 e16 e17 e18 e19 e20 e21 e22 e23 e24 e25 e26 e27 e28 e29 e30 e31 e32 e33 e34 e35 e36 e37 : Value) :
  elem16n1.wp Try.prog (Exit.then K (fun _ _ _ => False)) { tmps := #[e0, .pointer (some ⟨B1, 0, none⟩), .pointer (some ⟨E, 0, none⟩), e3, e4, e5, e6, e7, e8, e9, e10, e11, e12, e13, e14, e15, e16, e17, e18, e19, e20, e21, e22, e23, e24, e25, e26, e27, e28, e29, e30, e31, e32, e33, e34, e35, e36, e37], defers := [] } W := by
 have hEl := (Array.getElem?_eq_some_iff.1 hE).1
 have C : Calls Try.prog 15 #[.agg s.cells] W fun e V => ∃ (nm : Nm) (i1 i2 i3 i4 i5 : Int) (a6 a7 a8 a9 a10 a11 : Option Addr) (n6 n7 n8 n9 n10 n11 k6 k7 k8 k9 k10 k11 : Nat), e = .returned (.tuple #[.agg #[sv nm, .int .i64 i1, .int .i64 i2, .int .i64 i3, .int .i64 i4, .int .i64 i5, .slice a6 n6 k6, .slice a7 n7 k7, .slice a8 n8 k8, .slice a9 n9 k9, .slice a10 n10 k10, .slice a11 n11 k11], .int .i64 (resE s.strip ns)]) ∧ V.heap[E]? = some (.cells #[.int .i64 0] 35 (0, 0)) ∧ Hid (ResP s ns W (.returned (.tuple #[.agg #[sv nm, .int .i64 i1, .int .i64 i2, .int .i64 i3, .int .i64 i4, .int .i64 i5, .slice a6 n6 k6, .slice a7 n7 k7, .slice a8 n8 k8, .slice a9 n9 k9, .slice a10 n10 k10, .slice a11 n11 k11], .int .i64 (resE s.strip ns)])) V) := by
  refine (res_any s ns W hA hN he).mono ?_
  intro e V h
  have hEV := (h.2.block E hEl).trans hE
  rcases id h with ⟨⟨h0, x, ks, rfl, _⟩ | ⟨h0, rfl⟩, _⟩
  ·rw [h0]
   refine ⟨_, _, _, _, _, _, _, _, _, _, _, _, _, _, _, _, _, _, _, _, _, _, _, _, rfl, hEV, Lib.hid ?_⟩
   rw [h0] at *; exact h
  ·exact ⟨[], 0, 0, 0, 0, 0, none, none, none, none, none, none, 0, 0, 0, 0, 0, 0, 0, 0, 0, 0, 0, 0, rfl, hEV, Lib.hid h⟩
 unfold Ls.cells at hB C
 have y0 := cell_at hB 0 rfl; have y1 := cell_at hB 1 rfl; have y2 := cell_at hB 2 rfl; have y3 := cell_at hB 3 rfl; have y4 := cell_at hB 4 rfl; have y5 := cell_at hB 5 rfl; have y6 := cell_at hB 6 rfl; have y7 := cell_at hB 7 rfl; have y8 := cell_at hB 8 rfl; have y9 := cell_at hB 9 rfl; have y10 := cell_at hB 10 rfl; have y11 := cell_at hB 11 rfl
 have HC := Lib.hid C; have HK := Lib.hid hK
 clear C hK hB hE hA hN he hEl
 dsimp only
 unfold elem16n1 code16
 conv => arg 2; whnf
 go_wp2_with (go_at_call 15; refine HC.out.mono ?_; rintro e V ⟨nm, i1, i2, i3, i4, i5, a6, a7, a8, a9, a10, a11, n6, n7, n8, n9, n10, n11, k6, k7, k8, k9, k10, k11, rfl, hEV, hR⟩; obtain ⟨W', xW, gX, gE, hbut⟩ := put_both hEV #[sv nm, .int .i64 i1, .int .i64 i2, .int .i64 i3, .int .i64 i4, .int .i64 i5, .slice a6 n6 k6, .slice a7 n7 k7, .slice a8 n8 k8, .slice a9 n9 k9, .slice a10 n10 k10, .slice a11 n11 k11] (.int .i64 (resE s.strip ns)); have HF := Lib.hid (HK.out V W' _ _ hR.out (Nat.le_refl _) (Array.getElem?_eq_some_iff.1 gX).1 gX gE hbut); have hEl2 := (Array.getElem?_eq_some_iff.1 hEV).1; have eV : V.cell? ⟨E, 0, none⟩ = some (.int .i64 0) := cell_at hEV 0 rfl; have fV := (show FreeB V E from ⟨_, _, hEV⟩).free 0; clear gX gE hbut hEV)
 exact HF.out _ _ _ _ _ _ _ _ _ _ _ _ _ _ _ _ _ _ _ _ _ _ _ _ _ _ _ _ _ _ _ _ _ _ _
end Go.Proofs.Ytpnbpepkoekkoaa
end
section
namespace Go.Proofs.Ytpnbpepkoekkoaa
open Go Go.RowKit Go.Shelf
noncomputable def elem16n4 : Code := match lastPart 4 code16 with
 | .seq a _ => a
 | c => c
noncomputable def elem16n5 : Code := match lastPart 5 code16 with
 | .seq a _ => a
 | c => c
theorem cstep4 : lastPart 4 code16 = .seq elem16n4 (lastPart 5 code16) := rfl
theorem cstep5 : lastPart 5 code16 = .seq elem16n5 (lastPart 6 code16) := rfl
theorem leave16 (t : Array Value) (E D1 D2 : Nat) (v : Value) (R : Ending → World → Prop) (W : World) (ht2 : t.getD 2 undef = .pointer (some ⟨E, 0, none⟩)) (hE : W.heap[E]? = some (.cells #[v] 35 (0, 0))) (h1 : W.heap[D1]? = some (.deferred (some []))) (h2 : W.heap[D2]? = some (.deferred (some []))) (hne : D1 ≠ D2)
  (hR : ∀ W', (∀ B, B ≤ D1 → B ≤ D2 → Below B W W') → R (.returned v) W') :
  bodyPostM Fence.wide 0 Try.prog Try.f16 R .ret { tmps := t, defers := [{ target := .collected D2, args := #[] }, { target := .collected D1, args := #[] }] } W := by
 have n1 : E ≠ D1 := fun e => by rw [e, h1] at hE; cases hE
 have n2 : E ≠ D2 := fun e => by rw [e, h2] at hE; cases hE
 refine ⟨by simp, .inl ⟨D2, _, rfl, run_takeDeferred h2, ?_⟩⟩
 refine ⟨by simp, .inl ⟨D1, _, rfl, run_takeDeferred ((World.putObj_heap_other hne).trans h1), ?_⟩⟩
 have hE2 : ((W.putObj D2 (.deferred none)).putObj D1 (.deferred none)).heap[E]? = some (.cells #[v] 35 (0, 0)) := (World.putObj_heap_other n1).trans ((World.putObj_heap_other n2).trans hE)
 have yE : ((W.putObj D2 (.deferred none)).putObj D1 (.deferred none)).cell? ⟨E, 0, none⟩ = some v := cell_at hE2 0 rfl
 refine ⟨v, ?_, hR _ fun B b1 b2 => ⟨rfl, rfl, rfl, by simp [World.putObj], fun k hk => (World.putObj_heap_other (by omega)).trans (World.putObj_heap_other (by omega))⟩⟩
 simp at ht2
 simp [results, Try.results16, go_sem, ht2, yE]
theorem leave16_0 (t : Array Value) (E : Nat) (v : Value) (R : Ending → World → Prop) (W : World) (ht2 : t.getD 2 undef = .pointer (some ⟨E, 0, none⟩)) (hE : W.heap[E]? = some (.cells #[v] 35 (0, 0))) (hR : R (.returned v) W) :
  bodyPostM Fence.wide 0 Try.prog Try.f16 R .ret { tmps := t, defers := [] } W := by
 have yE : W.cell? ⟨E, 0, none⟩ = some v := cell_at hE 0 rfl
 refine ⟨v, ?_, hR⟩
 simp at ht2
 simp [results, Try.results16, go_sem, ht2, yE]
set_option maxRecDepth 100000 in
set_option maxHeartbeats 8000000 in
theorem chk_e2 (c : Int) (B1 E X : Nat) (W : World) (hE : W.heap[E]? = some (.cells #[.int .i64 c] 35 (0, 0))) (K : Act → World → Prop) (Q : Exit → Act → World → Prop)
  (hK : c = 0 → ∀ (e0 e4 e5 e6 e7 e8 e9 e10 e11 e12 e13 e14 e15 e16 e17 e18 e19 e20 e21 e22 e23 e24 e25 e26 e27 e28 e29 e30 e31 e32 e33 e34 e35 e36 e37 : Value), K { tmps := #[e0, .pointer (some ⟨B1, 0, none⟩), .pointer (some ⟨E, 0, none⟩), .pointer (some ⟨X, 0, none⟩), e4, e5, e6, e7, e8, e9, e10, e11, e12, e13, e14, e15, e16, e17, e18, e19, e20, e21, e22, e23, e24, e25, e26, e27, e28, e29, e30, e31, e32, e33, e34, e35, e36, e37], defers := [] } W)
  (hbad : c ≠ 0 → ∀ W', W'.heap[E]? = some (.cells #[.int .i64 c] 35 (0, 0)) → (∀ B w0, Below B w0 W → B ≤ E → Below B w0 W') → ∀ (e0 e4 e5 e6 e7 e8 e9 e10 e11 e12 e13 e14 e15 e16 e17 e18 e19 e20 e21 e22 e23 e24 e25 e26 e27 e28 e29 e30 e31 e32 e33 e34 e35 e36 e37 : Value), Q .ret { tmps := #[e0, .pointer (some ⟨B1, 0, none⟩), .pointer (some ⟨E, 0, none⟩), .pointer (some ⟨X, 0, none⟩), e4, e5, e6, e7, e8, e9, e10, e11, e12, e13, e14, e15, e16, e17, e18, e19, e20, e21, e22, e23, e24, e25, e26, e27, e28, e29, e30, e31, e32, e33, e34, e35, e36, e37], defers := [] } W')
  (e0 e4 e5 e6 e7 e8 e9 e10 e11 e12 e13 e14 e15 e16 e17 e18 e19 e20 e21 e22 e23 e24 e25 e26 e27 e28 e29 e30 e31 e32 e33 e34 e35 e36 e37 : Value) :
  elem16n2.wp Try.prog (Exit.then K Q) { tmps := #[e0, .pointer (some ⟨B1, 0, none⟩), .pointer (some ⟨E, 0, none⟩), .pointer (some ⟨X, 0, none⟩), e4, e5, e6, e7, e8, e9, e10, e11, e12, e13, e14, e15, e16, e17, e18, e19, e20, e21, e22, e23, e24, e25, e26, e27, e28, e29, e30, e31, e32, e33, e34, e35, e36, e37], defers := [] } W := by
 have yE : W.cell? ⟨E, 0, none⟩ = some (.int .i64 c) := cell_at hE 0 rfl
 have fE := (show FreeB W E from ⟨_, _, hE⟩).free 0
 by_cases h0 : c = 0
 ·have HF := Lib.hid (hK h0)
  subst h0
  clear hK hbad hE
  dsimp only
  unfold elem16n2 code16
  conv => arg 2; whnf
  go_wp2_with fail
  exact HF.out _ _ _ _ _ _ _ _ _ _ _ _ _ _ _ _ _ _ _ _ _ _ _ _ _ _ _ _ _ _ _ _ _ _ _
 ·obtain ⟨W', xW, g, _, b, _⟩ := set_box hE (.int .i64 c)
  have HF := Lib.hid (hbad h0 W' g b)
  have hb : (c != 0) = true := by simpa using h0
  clear hK hbad hE g b
  dsimp only
  unfold elem16n2 code16
  conv => arg 2; whnf
  go_wp2_with fail
  exact HF.out _ _ _ _ _ _ _ _ _ _ _ _ _ _ _ _ _ _ _ _ _ _ _ _ _ _ _ _ _ _ _ _ _ _ _
set_option maxRecDepth 100000 in
theorem chk_e3 (B1 E X : Nat) (W : World) (K : Act → World → Prop)
  (hK : ∀ W' TB, Below W.heap.size W W' → W.heap.size ≤ TB → W'.heap[TB]? = some (.cells #[.slice none 0 0] 63 (0, 0)) → ∀ (e0 e5 e6 e7 e8 e9 e10 e11 e12 e13 e14 e15 e16 e17 e18 e19 e20 e21 e22 e23 e24 e25 e26 e27 e28 e29 e30 e31 e32 e33 e34 e35 e36 e37 : Value), K { tmps := #[e0, .pointer (some ⟨B1, 0, none⟩), .pointer (some ⟨E, 0, none⟩), .pointer (some ⟨X, 0, none⟩), .pointer (some ⟨TB, 0, none⟩), e5, e6, e7, e8, e9, e10, e11, e12, e13, e14, e15, e16, e17, e18, e19, e20, e21, e22, e23, e24, e25, e26, e27, e28, e29, e30, e31, e32, e33, e34, e35, e36, e37], defers := [] } W')
  (e0 e4 e5 e6 e7 e8 e9 e10 e11 e12 e13 e14 e15 e16 e17 e18 e19 e20 e21 e22 e23 e24 e25 e26 e27 e28 e29 e30 e31 e32 e33 e34 e35 e36 e37 : Value) :
  elem16n3.wp Try.prog (Exit.then K (fun _ _ _ => False)) { tmps := #[e0, .pointer (some ⟨B1, 0, none⟩), .pointer (some ⟨E, 0, none⟩), .pointer (some ⟨X, 0, none⟩), e4, e5, e6, e7, e8, e9, e10, e11, e12, e13, e14, e15, e16, e17, e18, e19, e20, e21, e22, e23, e24, e25, e26, e27, e28, e29, e30, e31, e32, e33, e34, e35, e36, e37], defers := [] } W := by
 obtain ⟨W1, x1, g1, b1, s1⟩ := mk_cells W #[.slice none 0 0] 63
 have HF := Lib.hid (hK W1 W.heap.size b1 (Nat.le_refl _) g1)
 clear hK g1 b1 s1
 dsimp only
 unfold elem16n3 code16
 conv => arg 2; whnf
 go_wp2_with fail
 exact HF.out _ _ _ _ _ _ _ _ _ _ _ _ _ _ _ _ _ _ _ _ _ _ _ _ _ _ _ _ _ _ _ _ _ _
def ChkP (s : Sc) (ns : List Int) (w : World) (e : Ending) (w' : World) : Prop := e = .returned (.int .i64 (chkE s ns)) ∧ Below w.heap.size w w'
section
attribute [local go_sem] Oper.semAt_some
set_option maxRecDepth 100000 in
set_option maxHeartbeats 8000000 in
theorem chk_loop2 (s x : Ls) (ns ks : List Int) (w : World) (h0 : resE s.strip ns = 0) (hidx : s.strip.idx ns = some ks) (hns : ns.length = x.refs.length) (hkd : x.strip.kinds = true)
  (B1 E X TB g D1 : Nat) (W : World) (hX : W.heap[X]? = some (.cells x.cells 30 (0, 0))) (hE : W.heap[E]? = some (.cells #[.int .i64 0] 35 (0, 0))) (hD : W.heap[D1]? = some (.deferred (some [])))
  (hT : ∃ ao c, W.heap[TB]? = some (.cells #[.slice ao x.refs.length c] 63 (0, 0)) ∧ (0 < x.refs.length → ao = some ⟨g, 0, none⟩) ∧ x.refs.length ≤ c)
  (hG : ∀ (i : Nat) (n : Int), ns[i]? = some n → W.cell? ⟨g, i, none⟩ = some (.int .i64 n)) (hgT : g ≠ TB)
  (hA : x.At W) (hN : NsAt W x.refs ks) (hrT : ∀ r ∈ x.refs, r.b ≠ TB) (hoT : ∀ b ∈ phOwn x.phrases, b ≠ TB) (hfT : x.phrases ≠ [] → blk x.fa ≠ TB)
  (hb : Below w.heap.size w W) (hge : w.heap.size ≤ TB ∧ w.heap.size ≤ E ∧ w.heap.size ≤ D1) (e0 e5 e6 e7 e8 e9 e10 e11 e12 e13 e14 e15 e16 e17 e18 e19 e20 e21 e22 e23 e24 e25 e26 e27 e28 e29 e30 e31 e32 e33 e34 e35 e36 e37 : Value) :
  wpAt 16 Try.prog (lastPart 5 code16) (bodyPostM Fence.wide 0 Try.prog Try.f16 (ChkP s.strip ns w)) { tmps := #[e0, .pointer (some ⟨B1, 0, none⟩), .pointer (some ⟨E, 0, none⟩), .pointer (some ⟨X, 0, none⟩), .pointer (some ⟨TB, 0, none⟩), e5, e6, e7, e8, e9, e10, e11, e12, e13, e14, e15, e16, e17, e18, e19, e20, e21, e22, e23, e24, e25, e26, e27, e28, e29, e30, e31, e32, e33, e34, e35, e36, e37], defers := [{ target := .collected D1, args := #[] }] } W := by
 obtain ⟨ao, c, hT1, hT2, hT3⟩ := hT
 have hTE : E ≠ TB := fun e => by rw [e, hT1] at hE; simp at hE
 have hTX : X ≠ TB := fun e => by rw [e, hT1] at hX; simp at hX
 have hTD : D1 ≠ TB := fun e => by rw [e, hT1] at hD; simp at hD
 have hTl := (Array.getElem?_eq_some_iff.1 hT1).1
 have hEl := (Array.getElem?_eq_some_iff.1 hE).1
 have hXl := (Array.getElem?_eq_some_iff.1 hX).1
 rw [cstep5]
 refine wpAt_seq ?_
 unfold elem16n5 code16
 conv => arg 3; whnf
 refine wpAt_seq_wp (fun K hKK => ?_)
 have HKK := Lib.hid hKK
 clear hKK
 have HXX := Lib.hid hX; have HEE := Lib.hid hE; have HDD := Lib.hid hD; have HTT := Lib.hid hT1
 clear hX hE hD hT1
 dsimp only
 go_wp2_with (go_at_call 49; refine (fields_any ⟨X, 0, none⟩ W).mono ?_; rintro e W1 ⟨rfl, g1, b1, s1⟩)
 refine HKK.out _ _ ?_
 clear HKK
 have hX := HXX.out; have hE := HEE.out; have hD := HDD.out; have hT1 := HTT.out
 have o1 : ∀ {b : Nat} {o : Obj}, W.heap[b]? = some o → W1.heap[b]? = some o := fun h => (b1.block _ (Array.getElem?_eq_some_iff.1 h).1).trans h
 have hA1 := hA.below b1
 have hX1 := o1 hX
 unfold Ls.cells at hX1
 have hFR : ∀ (pre : List RefL) V, Chk2 TB W1 g x.refs.length ks ns pre V → FldR W.heap.size X x V := fun pre V h => by
  refine ⟨h.but.cell (cell_at g1 0 rfl) (by show W.heap.size ≠ TB; omega), h.but.cell (cell_at hX1 10 rfl) hTX, h.but.cell (cell_at hX1 11 rfl) hTX, ?_⟩
  by_cases hz : x.phrases = []
  ·rw [hz]; trivial
  ·exact phAt_kept hA1.phrases (fun q v _ hc => h.but.cellk (hfT hz) hc) (fun c hc q v h2 => h.but.cellk (hoT c hc) h2)
 have hI0 : Chk2 TB W1 g x.refs.length ks ns [] W1 := ⟨ButOne.refl _ _, ⟨ao, c, by simpa using o1 hT1, by simpa using hT2, by simpa using hT3⟩, rfl⟩
 have hb1 : Below w.heap.size w W1 := hb.trans (b1.mono hb.size)
 have hksl : ks.length = x.refs.length := hN.len
 refine wpAt_block ?_
 refine wpAt_range_all (fn0 := Try.f16) Try.func16 (gf := 74) (lb := #[.pointer (some ⟨W.heap.size, 0, none⟩)]) rfl (enters_of Try.func74 (by kernel_rfl) rfl)
  (fields_seq W.heap.size X x (FldR W.heap.size X x) (fun _ h => h) hA.pform hA.plen hA.dform hA.dlen W1) (fun _ => rfl) (Chk2 TB W1 g x.refs.length ks ns) (Chk2X TB E w W1 ks ns) (fun _ => False)
  (fun p V V' row h hg hr => ⟨h.but.grown hg (fun k e => (hr k e).1), by obtain ⟨a', c', q1, q2⟩ := h.row; exact ⟨a', c', (hg.block TB (Array.getElem?_eq_some_iff.1 q1).1 (fun e => by have := (hr TB e.symm).1; omega)).trans q1, q2⟩, h.same⟩)
  (fun p V V' row h hg hr => ⟨Nat.le_trans h.size hg.size, fun b h1 h2 h3 => (hg.block b (by have := h.size; omega) (fun e => by have := (hr b e.symm).1; omega)).trans (h.rest b h1 h2 h3), (hg.block E (Array.getElem?_eq_some_iff.1 h.err).1 (fun e => by have := (hr E e.symm).1; omega)).trans h.err, h.base.grown hg h.base.size (fun k e => by have := (hr k e).1; have := hb1.size; omega), h.ne⟩)
  (fun p V V' h hb => ⟨h.but.trans (ButOne.of_below hb), by obtain ⟨a', c', q1, q2⟩ := h.row; exact ⟨a', c', (hb.block TB (Array.getElem?_eq_some_iff.1 q1).1).trans q1, q2⟩, h.same⟩)
  hI0 hFR
  (fun r => { tmps := #[e0, .pointer (some ⟨B1, 0, none⟩), .pointer (some ⟨E, 0, none⟩), .pointer (some ⟨X, 0, none⟩), .pointer (some ⟨TB, 0, none⟩), e5, .pointer (some ⟨r.b, r.o, none⟩), e7, e8, e9, e10, e11, e12, e13, e14, e15, e16, e17, e18, e19, e20, e21, e22, e23, e24, .func (.func 74) #[] #[.pointer (some ⟨W.heap.size, 0, none⟩)], .pointer (some ⟨r.b, r.o, none⟩), .int .i64 (r.to : Int), e28, e29, e30, e31, e32, e33, e34, e35, e36, e37], defers := [] }) ?assign ?body ?bad ?done ?stop ?pan
 case assign =>
  intro l r V K hKv
  have HKv := Lib.hid hKv
  clear hKv
  unfold encX
  dsimp only
  gi_wp2_with fail
  exact HKv.out
 case body =>
  intro l pre r rest V hs hI
  exact wpIn_n rfl (chk_body2 l B1 E X TB g w W1 ks ns x.refs (hN.below b1) hrT ⟨hge.1, hge.2.1⟩ ⟨by omega, by omega⟩ hTE hgT (o1 hE) hns (fun i n h => keep_cell b1 (hG i n h)) hb1 pre rest r V hs hI _ _ _ _ _ _ _ _ _ _ _ _ _ _ _ _ _ _ _ _ _ _ _ _ _ _ _ _ _ _ _ _ _)
 case bad => exact fun pre rest V _ hk _ => hk hkd
 case pan => exact fun D V _ h _ => h.elim
 case stop =>
  intro D V hDl hXV hDV
  have hD1 := (hXV.rest D1 (by have := (Array.getElem?_eq_some_iff.1 hD).1; omega) hTD (fun e => by rw [e, hE] at hD; cases hD)).trans (o1 hD)
  have hnD : D1 ≠ D := by have := (Array.getElem?_eq_some_iff.1 hD).1; omega
  have hfin : bodyPostM Fence.wide 0 Try.prog Try.f16 (ChkP s.strip ns w) .ret { tmps := #[e0, .pointer (some ⟨B1, 0, none⟩), .pointer (some ⟨E, 0, none⟩), .pointer (some ⟨X, 0, none⟩), .pointer (some ⟨TB, 0, none⟩), e5, e6, e7, e8, e9, e10, e11, e12, e13, e14, e15, e16, e17, e18, e19, e20, e21, e22, e23, e24, .func (.func 74) #[] #[.pointer (some ⟨W.heap.size, 0, none⟩)], e26, e27, e28, e29, e30, e31, e32, e33, e34, e35, e36, e37], defers := [{ target := .collected D, args := #[] }, { target := .collected D1, args := #[] }] } V := by
   refine leave16 _ E D1 D _ _ V rfl hXV.err hD1 hDV hnD fun W' hB => ⟨?_, hXV.base.trans (hB _ hge.2.2 (by have := hb1.size; omega))⟩
   have : chkE s.strip ns = 170 := by
    unfold chkE
    rw [if_pos h0, hidx, if_neg (fun e => hXV.ne (by injection e))]
   rw [this]
  have HF := Lib.hid hfin
  clear hfin
  refine wpIn_wide.2 ?_
  dsimp only
  go_wp2_with fail
  exact HF.out
 case done =>
  intro D V hDl _ hI hDV
  have hD1 := (hI.but.block D1 (by have := (Array.getElem?_eq_some_iff.1 hD).1; omega) hTD).trans (o1 hD)
  have hnD : D1 ≠ D := by have := (Array.getElem?_eq_some_iff.1 hD).1; omega
  have hEV := (hI.but.block E (by omega) hTE).trans (o1 hE)
  obtain ⟨W3, x3, g3, o3, b3, s3⟩ := set_box hEV (.int .i64 0)
  have hkn : ks = ns := by
   have := hI.same
   rw [List.take_of_length_le (by omega), List.take_of_length_le (by omega)] at this
   exact this
  have hED : E ≠ D := by omega
  have hfin : bodyPostM Fence.wide 0 Try.prog Try.f16 (ChkP s.strip ns w) .ret { tmps := #[e0, .pointer (some ⟨B1, 0, none⟩), .pointer (some ⟨E, 0, none⟩), .pointer (some ⟨X, 0, none⟩), .pointer (some ⟨TB, 0, none⟩), e5, e6, e7, e8, e9, e10, e11, e12, e13, e14, e15, e16, e17, e18, e19, e20, e21, e22, e23, e24, .func (.func 74) #[] #[.pointer (some ⟨W.heap.size, 0, none⟩)], e26, e27, e28, e29, e30, e31, e32, e33, e34, e35, e36, e37], defers := [{ target := .collected D, args := #[] }, { target := .collected D1, args := #[] }] } W3 := by
   refine leave16 _ E D1 D _ _ W3 rfl g3 ((o3 _ (fun e => by rw [e, hE] at hD; cases hD)).trans hD1) ((o3 _ hED.symm).trans hDV) hnD fun W' hB => ⟨?_, (b3 _ _ (hb1.trans (hI.but.below hge.1 hb1.size)) hge.2.1).trans (hB _ hge.2.2 (by have := hb1.size; omega))⟩
   have : chkE s.strip ns = 0 := by
    unfold chkE
    rw [if_pos h0, hidx, if_pos (by rw [hkn])]
   rw [this]
  have HF := Lib.hid hfin
  have yE : V.cell? ⟨E, 0, none⟩ = some (.int .i64 0) := cell_at hEV 0 rfl
  have fE := (show FreeB V E from ⟨_, _, hEV⟩).free 0
  clear hfin hI g3 o3 b3 s3 hD1 hDV hEV hE hX hD hT1 hFR hI0 hA1 hX1 hA hN
  show wpAt 16 Try.prog (lastPart 6 code16) _ _ V
  refine wpAt_of_wp ?_
  unfold code16
  conv => arg 2; whnf
  dsimp only
  go_wp2_with fail
  exact HF.out
end
end Go.Proofs.Ytpnbpepkoekkoaa
end
section
namespace Go.Proofs.Ytpnbpepkoekkoaa
open Go Go.RowKit Go.Shelf
theorem NsAt.lt {w : World} : ∀ {xs : List RefL} {ns : List Int}, NsAt w xs ns → ∀ r ∈ xs, r.b < w.heap.size
 | [], _, _, _, h => by cases h
 | x :: xs, [], h, _, _ => h.elim
 | x :: xs, n :: ns, ⟨h1, h2⟩, r, hr => by
  rcases List.mem_cons.1 hr with rfl | hr
  ·exact cell_lt h1
  ·exact h2.lt r hr
theorem phAt_fa {w : World} {b o : Nat} {ps : List Ph} (h : phAt w b o ps) (hz : ps ≠ []) : b < w.heap.size := by
 cases ps with
 | nil => exact absurd rfl hz
 | cons p r => exact cell_lt h.1.1
section
attribute [local go_sem] Oper.semAt_some
set_option maxRecDepth 100000 in
set_option maxHeartbeats 8000000 in
theorem chk_loop1 (s x : Ls) (ns ks : List Int) (w V0 : World) (h0 : resE s.strip ns = 0) (hlims : s.strip.lims = true) (hidx : s.strip.idx ns = some ks) (hstr : x.strip = s.strip)
  (hAs : s.At V0) (hNs : NsAt V0 s.refs ns) (hAx : x.At V0) (hNx : NsAt V0 x.refs ks) (hw0 : Below w.heap.size w V0)
  (B1 E X TB : Nat) (W : World) (hV : Below V0.heap.size V0 W) (hB : W.heap[B1]? = some (.cells s.cells 30 (0, 0))) (hX : W.heap[X]? = some (.cells x.cells 30 (0, 0))) (hE : W.heap[E]? = some (.cells #[.int .i64 0] 35 (0, 0)))
  (hT : W.heap[TB]? = some (.cells #[.slice none 0 0] 63 (0, 0))) (hTV : V0.heap.size ≤ TB) (hge : w.heap.size ≤ E) (e0 e5 e6 e7 e8 e9 e10 e11 e12 e13 e14 e15 e16 e17 e18 e19 e20 e21 e22 e23 e24 e25 e26 e27 e28 e29 e30 e31 e32 e33 e34 e35 e36 e37 : Value) :
  wpAt 16 Try.prog (lastPart 4 code16) (bodyPostM Fence.wide 0 Try.prog Try.f16 (ChkP s.strip ns w)) { tmps := #[e0, .pointer (some ⟨B1, 0, none⟩), .pointer (some ⟨E, 0, none⟩), .pointer (some ⟨X, 0, none⟩), .pointer (some ⟨TB, 0, none⟩), e5, e6, e7, e8, e9, e10, e11, e12, e13, e14, e15, e16, e17, e18, e19, e20, e21, e22, e23, e24, e25, e26, e27, e28, e29, e30, e31, e32, e33, e34, e35, e36, e37], defers := [] } W := by
 have hkd : s.strip.kinds = true := by
  unfold Sc.idx at hidx
  split at hidx
  ·assumption
  ·cases hidx
 have hlen : x.refs.length = s.refs.length := by
  have h1 := congrArg List.length (Ls.refs_key x)
  have h2 := congrArg List.length (Ls.refs_key s)
  rw [hstr] at h1
  simp only [List.length_map] at h1 h2
  omega
 have hnsl : ns.length = s.refs.length := hNs.len
 have hfew := refs_few hlims
 have hTE : E ≠ TB := fun e => by rw [e, hT] at hE; simp at hE
 have hTX : X ≠ TB := fun e => by rw [e, hT] at hX; simp at hX
 have hTB : B1 ≠ TB := fun e => by rw [e, hT] at hB; simp at hB
 have hTl := (Array.getElem?_eq_some_iff.1 hT).1
 have hEl := (Array.getElem?_eq_some_iff.1 hE).1
 have hXl := (Array.getElem?_eq_some_iff.1 hX).1
 have hVs := hV.size
 have hAW := hAs.below hV
 rw [cstep4]
 refine wpAt_seq ?_
 unfold elem16n4 code16
 conv => arg 3; whnf
 refine wpAt_seq_wp (fun K hKK => ?_)
 have HKK := Lib.hid hKK
 clear hKK
 have HBB := Lib.hid hB; have HXX := Lib.hid hX; have HEE := Lib.hid hE; have HTT := Lib.hid hT
 clear hB hX hE hT
 dsimp only
 go_wp2_with (go_at_call 49; refine (fields_any ⟨B1, 0, none⟩ W).mono ?_; rintro e W1 ⟨rfl, g1, b1, s1⟩)
 refine HKK.out _ _ ?_
 clear HKK
 have hB := HBB.out; have hX := HXX.out; have hE := HEE.out; have hT := HTT.out
 have o1 : ∀ {b : Nat} {o : Obj}, W.heap[b]? = some o → W1.heap[b]? = some o := fun h => (b1.block _ (Array.getElem?_eq_some_iff.1 h).1).trans h
 have hV1 : Below V0.heap.size V0 W1 := hV.trans (b1.mono hVs)
 have hA1 := hAs.below hV1
 have hB1 := o1 hB
 unfold Ls.cells at hB1
 have hFR : ∀ (pre : List RefL) V, Chk1 TB W1 ns pre V → FldR W.heap.size B1 s V := fun pre V h => by
  refine ⟨h.but.cell (cell_at g1 0 rfl) (by show W.heap.size ≠ TB; omega), h.but.cell (cell_at hB1 10 rfl) hTB, h.but.cell (cell_at hB1 11 rfl) hTB, ?_⟩
  exact phAt_below (hV1.trans (h.but.below hTV hV1.size)) hAs.phrases
 have hI0 : Chk1 TB W1 ns [] W1 := ⟨ButOne.refl _ _, none, 0, o1 hT, World.ownsRow_nil _ _ _ _⟩
 have hrT : ∀ r ∈ s.refs, r.b ≠ TB := fun r hr e => by have := hNs.lt r hr; omega
 refine wpAt_block ?_
 refine wpAt_range_all (fn0 := Try.f16) Try.func16 (gf := 74) (lb := #[.pointer (some ⟨W.heap.size, 0, none⟩)]) rfl (enters_of Try.func74 (by kernel_rfl) rfl)
  (fields_seq W.heap.size B1 s (FldR W.heap.size B1 s) (fun _ h => h) hAs.pform hAs.plen hAs.dform hAs.dlen W1) (fun _ => rfl) (Chk1 TB W1 ns) (fun _ => False) (fun _ => False)
  (fun p V V' row h hg hr => by
   obtain ⟨a', c', q1, q2⟩ := h.row
   refine ⟨h.but.grown hg (fun k e => (hr k e).1), a', c', (hg.block TB (Array.getElem?_eq_some_iff.1 q1).1 (fun e => by have := (hr TB e.symm).1; omega)).trans q1, q2.kept hg ?_⟩
   cases hob : (Value.slice a' p.length c').ownBlock with
   | none => exact Or.inl rfl
   | some k =>
    refine Or.inr fun e => ?_
    obtain ⟨o, ho1, ho2⟩ := (hr k e.symm).2
    obtain ⟨⟨cur, fr, q4⟩, _⟩ := ownsRow_int q2 hob
    rw [q4] at ho1
    cases ho1
    cases ho2)
  (fun _ _ _ _ h => h.elim)
  (fun p V V' h hb => by
   obtain ⟨a', c', q1, q2⟩ := h.row
   exact ⟨h.but.trans (ButOne.of_below hb), a', c', (hb.block TB (Array.getElem?_eq_some_iff.1 q1).1).trans q1, q2.kept (row := none) ⟨hb.os, hb.tape, hb.output, hb.size, fun k hk _ => hb.block k hk⟩ (by cases hob : (Value.slice a' p.length c').ownBlock <;> simp)⟩)
  hI0 hFR
  (fun r => { tmps := #[e0, .pointer (some ⟨B1, 0, none⟩), .pointer (some ⟨E, 0, none⟩), .pointer (some ⟨X, 0, none⟩), .pointer (some ⟨TB, 0, none⟩), .pointer (some ⟨r.b, r.o, none⟩), e6, e7, e8, e9, e10, e11, e12, e13, e14, .func (.func 74) #[] #[.pointer (some ⟨W.heap.size, 0, none⟩)], .pointer (some ⟨r.b, r.o, none⟩), .int .i64 (r.to : Int), e18, e19, e20, e21, e22, e23, e24, e25, e26, e27, e28, e29, e30, e31, e32, e33, e34, e35, e36, e37], defers := [] }) ?assign ?body ?bad ?done ?stop ?pan
 case assign =>
  intro l r V K hKv
  have HKv := Lib.hid hKv
  clear hKv
  unfold encX
  dsimp only
  gi_wp2_with fail
  exact HKv.out
 case body =>
  intro l pre r rest V hs hI
  exact wpIn_n rfl (chk_body1 l B1 E X TB W1 ns s.refs (hNs.below hV1) hrT (by omega) hfew pre rest r V hs hI _ _ _ _ _ _ _ _ _ _ _ _ _ _ _ _ _ _ _ _ _ _ _ _ _ _ _ _ _ _ _ _ _)
 case bad => exact fun pre rest V _ hk _ => hk hkd
 case pan => exact fun D V _ h _ => h.elim
 case stop => exact fun D V _ h _ => h.elim
 case done =>
  intro D V hDl _ hI hDV
  obtain ⟨ao, c, t1, t2⟩ := hI.row
  have htk : ns.take s.refs.length = ns := List.take_of_length_le (by omega)
  rw [htk] at t2
  have hVV : Below V0.heap.size V0 V := hV1.trans (hI.but.below hTV hV1.size)
  have hrow : ∃ g, g ≠ TB ∧ (0 < s.refs.length → ao = some ⟨g, 0, none⟩) ∧ s.refs.length ≤ c ∧ ∀ (i : Nat) (n : Int), ns[i]? = some n → V.cell? ⟨g, i, none⟩ = some (.int .i64 n) := by
   rcases t2.2 with ⟨q1, q2⟩ | ⟨g, c3, cur, q1, q2, q3, q4, _⟩
   ·refine ⟨TB + 1, by omega, fun h => by omega, by omega, fun i n h => ?_⟩
    have : ns = [] := List.length_eq_zero_iff.1 (by omega)
    rw [this] at h; cases h
   ·injection q1 with e1 e2 e3
    subst e1 e3
    refine ⟨g, by omega, fun _ => rfl, q4, fun i n h => ?_⟩
    have := t2.cells (g := g) rfl i (.int .i64 n) (by unfold intsV; rw [List.getElem?_map, h]; rfl)
    rw [addr_plain, Nat.zero_add] at this
    exact this
  obtain ⟨g, hgT, r1, r2, r3⟩ := hrow
  show wpAt 16 Try.prog (lastPart 5 code16) _ _ V
  refine chk_loop2 s x ns ks w h0 hidx (by omega) (by rw [hstr]; exact hkd) B1 E X TB g D V ((hI.but.block X (by omega) hTX).trans (o1 hX)) ((hI.but.block E (by omega) hTE).trans (o1 hE)) hDV ⟨ao, c, by rw [hlen]; exact t1, by rw [hlen]; exact r1, by rw [hlen]; exact r2⟩ r3 hgT
   (hAx.below hVV) (hNx.below hVV) (fun r hr e => by have := hNx.lt r hr; omega) (fun b hb e => by have := phOwn_lt hAx.phrases b hb; omega) (fun hz e => by have := phAt_fa hAx.phrases hz; omega)
   (hw0.trans (hVV.mono hw0.size)) ⟨by have := hw0.size; omega, hge, by have := hw0.size; omega⟩ _ _ _ _ _ _ _ _ _ _ _ _ _ _ _ _ _ _ _ _ _ _ _ _ _ _ _ _ _ _ _ _ _ _
end
theorem chk_any (s : Ls) (ns : List Int) (w : World) (hA : s.At w) (hN : NsAt w s.refs ns) (he : Env w) : Calls Try.prog 16 #[s.val] w (ChkP s.strip ns w) := by
 refine calls_of_wpAt Try.func16 (c := code16) rfl ?_
 rw [cstep0]
 refine wpAt_seq_wp (fun K hK => ?_)
 refine wp_mono (chk_e0 s w K ?_) then_mono
 intro W0 B1 E hb0 gB gE hne hB hE
 intros
 refine hK _ _ ?_
 rw [cstep1]
 refine wpAt_seq_wp (fun K hK => ?_)
 have hA0 := hA.below hb0
 have hN0 := hN.below hb0
 refine wp_mono (chk_e1 s ns B1 E W0 hB hE hA0 hN0 (he.below hb0) K ?_ _ _ _ _ _ _ _ _ _ _ _ _ _ _ _ _ _ _ _ _ _ _ _ _ _ _ _ _ _ _ _ _ _ _ _ _) then_mono
 intro V W1 xv X hR hXV hXl hX hE1 hbut
 intros
 refine hK _ _ ?_
 have hbV : Below W0.heap.size W0 V := hR.2
 have hwV : Below w.heap.size w V := hb0.trans (hbV.mono hb0.size)
 have hbW1 : Below w.heap.size w W1 := hwV.trans (hbut.below gE hwV.size)
 rw [cstep2]
 refine wpAt_seq_wp (fun K hK => ?_)
 refine chk_e2 (resE s.strip ns) B1 E X W1 hE1 K _ ?_ ?_ _ _ _ _ _ _ _ _ _ _ _ _ _ _ _ _ _ _ _ _ _ _ _ _ _ _ _ _ _ _ _ _ _ _ _
 ·intro h0
  intros
  refine hK _ _ ?_
  rw [cstep3]
  refine wpAt_seq_wp (fun K hK => ?_)
  refine wp_mono (chk_e3 B1 E X W1 K ?_ _ _ _ _ _ _ _ _ _ _ _ _ _ _ _ _ _ _ _ _ _ _ _ _ _ _ _ _ _ _ _ _ _ _ _) then_mono
  intro W2 TB hb2 gT hT
  intros
  refine hK _ _ ?_
  obtain ⟨x, ks, he1, hstr, hAx, hNx, hidx, _⟩ := (hR.1.resolve_right (fun h => h.1 h0)).2
  rw [h0] at he1 hE1
  have hxv : xv = x.cells := by
   unfold Ls.val at he1
   simp only [Ending.returned.injEq, Value.tuple.injEq] at he1
   simpa using he1
  subst hxv
  have hlims : s.strip.lims = true := by
   cases hc : s.strip.lims with
   | true => rfl
   | false => unfold resE at h0; rw [if_pos hc] at h0; cases h0
  have hEl0 := (Array.getElem?_eq_some_iff.1 hE).1
  have hEV : V.heap[E]? = some (.cells #[.int .i64 0] 35 (0, 0)) := (hbV.block E hEl0).trans hE
  have hV1 : Below V.heap.size V W1 := ⟨hbut.os, hbut.tape, hbut.output, hbut.size, fun k hk => by
   by_cases e : k = E
   ·subst e; rw [hE1, hEV]
   ·exact hbut.block k hk e⟩
  have hV2 : Below V.heap.size V W2 := hV1.trans (hb2.mono hV1.size)
  have o2 : ∀ {b : Nat} {o : Obj}, W1.heap[b]? = some o → W2.heap[b]? = some o := fun h => (hb2.block _ (Array.getElem?_eq_some_iff.1 h).1).trans h
  have oV : ∀ {b : Nat} {o : Obj}, V.heap[b]? = some o → W2.heap[b]? = some o := fun h => (hV2.block _ (Array.getElem?_eq_some_iff.1 h).1).trans h
  have hBV : V.heap[B1]? = some (.cells s.cells 30 (0, 0)) := (hbV.block B1 (Array.getElem?_eq_some_iff.1 hB).1).trans hB
  exact chk_loop1 s x ns ks w V h0 hlims hidx hstr (hA0.below hbV) (hN0.below hbV) hAx hNx hwV B1 E X TB W2 hV2 (oV hBV) (o2 hX) (o2 hE1) hT (Nat.le_trans hV1.size gT) gE _ _ _ _ _ _ _ _ _ _ _ _ _ _ _ _ _ _ _ _ _ _ _ _ _ _ _ _ _ _ _ _ _ _
 ·intro h0 W2 hE2 hB2
  intros
  refine leave16_0 _ E _ _ W2 rfl hE2 ⟨?_, hB2 _ _ hbW1 gE⟩
  unfold chkE
  rw [if_neg h0]
end Go.Proofs.Ytpnbpepkoekkoaa
end
section
namespace Go.Proofs.Ytpnbpepkoekkoaa
open Go Go.RowKit Go.Shelf
theorem keepO {A B : World} {b : Nat} {o : Obj} (h : Below A.heap.size A B) (g : A.heap[b]? = some o) : B.heap[b]? = some o := (h.block b (Array.getElem?_eq_some_iff.1 g).1).trans g
theorem thenB {A B C : World} (h : Below A.heap.size A B) (k : Below B.heap.size B C) : Below A.heap.size A C := h.trans (k.mono h.size)
structure SmallW (r0 u0 z1 : Nm) (k : Int) (R M0 I1 I0 M1 I2 F Dn : Nat) (W : World) : Prop where
 hR : W.heap[R]? = some (.cells #[sv r0, .int .i64 0, .int .i64 0, .int .i64 0, sv [98], .int .i64 0, .int .i64 0, .int .i64 0] 59 (0, 0))
 hM0 : W.heap[M0]? = some (.cells #[.int .i64 1, .int .i64 7, .int .i64 0, .int .i64 0, .int .i64 0, .int .i64 0, sv [98], .int .i64 0, .int .i64 0, .int .i64 0, .int .i64 1, .int .i64 1, .int .i64 1, .int .i64 6, .int .i64 0, .int .i64 0, .int .i64 0, .int .i64 0, sv [], .int .i64 0, .int .i64 0, .int .i64 0, .int .i64 1, .int .i64 1] 85 (0, 0))
 hI1 : W.heap[I1]? = some (.cells #[.int .i64 4, .int .i64 0, sv u0, .int .i64 0, .slice none 0 0, .slice none 0 0, .int .i64 1, .int .i64 0, sv [], .int .i64 0, .slice none 0 0, .slice (some ⟨M0, 0, none⟩) 2 2] 78 (0, 0))
 hI0 : W.heap[I0]? = some (.cells #[.int .i64 2, .int .i64 2, sv [], .int .i64 0, .slice (some ⟨I1, 0, none⟩) 2 2, .slice none 0 0] 78 (0, 0))
 hM1 : W.heap[M1]? = some (.cells #[.int .i64 1, .int .i64 8, .int .i64 0, .int .i64 0, .int .i64 0, .int .i64 0, sv [97], .int .i64 0, .int .i64 0, .int .i64 0, .int .i64 1, .int .i64 1] 85 (0, 0))
 hI2 : W.heap[I2]? = some (.cells #[.int .i64 1, .int .i64 0, sv [], .int .i64 0, .slice none 0 0, .slice (some ⟨M1, 0, none⟩) 1 1, .int .i64 3, .int .i64 0, sv [], .int .i64 k, .slice none 0 0, .slice none 0 0] 78 (0, 0))
 hF : W.heap[F]? = some (.cells #[sv [98], .slice (some ⟨I0, 0, none⟩) 1 1, sv [99], .slice (some ⟨I2, 0, none⟩) 2 2] 57 (0, 0))
 hDn : W.heap[Dn]? = some (.cells #[sv [98], .int .i64 0, sv [98], .int .i64 0, .int .i64 0, .bool false, sv z1, .int .i64 0, sv [99], .int .i64 0, .int .i64 4, .bool true] 73 (0, 0))
end Go.Proofs.Ytpnbpepkoekkoaa
end
section
namespace Go.Proofs.Ytpnbpepkoekkoaa
open Go Go.RowKit Go.Shelf
def mv (k : Int) (s : Nm) : Mov := ⟨1, k, 0, 0, 0, 0, s, 0, 0, 1, 1⟩
def smallSc (r0 u0 z1 : Nm) : Sc := ⟨[119], 0, 0, 0, 0, 0, [⟨r0, 0, 0, 0⟩, ⟨[98], 0, 0, 0⟩], [], [], [],
 [⟨[98], .cons 2 2 [] (.cons 4 0 u0 .nil [] (.cons 1 0 [] .nil [mv 7 [98], mv 6 []] .nil)) [] .nil⟩, ⟨[99], .cons 1 0 [] .nil [mv 8 [97]] (.cons 3 0 [] .nil [] .nil)⟩],
 [⟨[98], [98], 0, false⟩, ⟨z1, [99], 4, true⟩]⟩
def at0 (b : Nat) : Option Addr := some ⟨b, 0, none⟩
end Go.Proofs.Ytpnbpepkoekkoaa
end
section
namespace Go.Proofs.Ytpnbpepkoekkoaa
open Go Go.RowKit Go.Shelf
structure SaneW (F f I0 i0 I1 i1 M0 m0 I2 i2 M1 m1 D d : Nat) (n1 n2 n3 n4 : Option Addr) (c0 c1 c2 cm0 cm1 k1 k2 k3 k4 : Nat) (W : World) : Prop where
 f1 : W.cell? ⟨F, f + 1, none⟩ = some (.slice (some ⟨I0, i0, none⟩) 1 c0)
 f3 : W.cell? ⟨F, f + 2 + 1, none⟩ = some (.slice (some ⟨I2, i2, none⟩) 2 c2)
 a4 : W.cell? ⟨I0, i0 + 4, none⟩ = some (.slice (some ⟨I1, i1, none⟩) 2 c1)
 b0 : W.cell? ⟨I1, i1, none⟩ = some (.int .i64 4)
 b1 : W.cell? ⟨I1, i1 + 1, none⟩ = some (.int .i64 0)
 b2 : W.cell? ⟨I1, i1 + 2, none⟩ = some (sv [99])
 b3 : W.cell? ⟨I1, i1 + 3, none⟩ = some (.int .i64 1)
 b4 : W.cell? ⟨I1, i1 + 4, none⟩ = some (.slice n1 0 k1)
 b5 : W.cell? ⟨I1, i1 + 5, none⟩ = some (.slice n2 0 k2)
 b6 : W.cell? ⟨I1, i1 + 6, none⟩ = some (.int .i64 1)
 b7 : W.cell? ⟨I1, i1 + 6 + 1, none⟩ = some (.int .i64 0)
 b8 : W.cell? ⟨I1, i1 + 6 + 2, none⟩ = some (sv [])
 b9 : W.cell? ⟨I1, i1 + 6 + 3, none⟩ = some (.int .i64 0)
 b10 : W.cell? ⟨I1, i1 + 6 + 4, none⟩ = some (.slice n3 0 k3)
 b11 : W.cell? ⟨I1, i1 + 6 + 5, none⟩ = some (.slice (some ⟨M0, m0, none⟩) 2 cm0)
 d0 : W.cell? ⟨I2, i2, none⟩ = some (.int .i64 1)
 d1 : W.cell? ⟨I2, i2 + 1, none⟩ = some (.int .i64 0)
 d2 : W.cell? ⟨I2, i2 + 2, none⟩ = some (sv [])
 d3 : W.cell? ⟨I2, i2 + 3, none⟩ = some (.int .i64 0)
 d4 : W.cell? ⟨I2, i2 + 4, none⟩ = some (.slice n4 0 k4)
 d5 : W.cell? ⟨I2, i2 + 5, none⟩ = some (.slice (some ⟨M1, m1, none⟩) 1 cm1)
 e7 : W.cell? ⟨M0, m0 + 6 + 1, none⟩ = some (.int .i64 1)
 e18 : W.cell? ⟨M0, m0 + 12 + 6, none⟩ = some (sv [])
 e19 : W.cell? ⟨M0, m0 + 12 + 6 + 1, none⟩ = some (.int .i64 0)
 g7 : W.cell? ⟨M1, m1 + 6 + 1, none⟩ = some (.int .i64 0)
 h1 : W.cell? ⟨D, d + 1, none⟩ = some (.int .i64 1)
 h3 : W.cell? ⟨D, d + 2 + 1, none⟩ = some (.int .i64 0)
 h7 : W.cell? ⟨D, d + 6 + 1, none⟩ = some (.int .i64 0)
 h9 : W.cell? ⟨D, d + 6 + 2 + 1, none⟩ = some (.int .i64 1)
theorem SaneW.below {F f I0 i0 I1 i1 M0 m0 I2 i2 M1 m1 D d : Nat} {n1 n2 n3 n4 : Option Addr} {c0 c1 c2 cm0 cm1 k1 k2 k3 k4 : Nat} {W W' : World} (h : SaneW F f I0 i0 I1 i1 M0 m0 I2 i2 M1 m1 D d n1 n2 n3 n4 c0 c1 c2 cm0 cm1 k1 k2 k3 k4 W) (hb : Below W.heap.size W W') : SaneW F f I0 i0 I1 i1 M0 m0 I2 i2 M1 m1 D d n1 n2 n3 n4 c0 c1 c2 cm0 cm1 k1 k2 k3 k4 W' := by
 obtain ⟨a1, a2, a3, a4, a5, a6, a7, a8, a9, a10, a11, a12, a13, a14, a15, a16, a17, a18, a19, a20, a21, a22, a23, a24, a25, a26, a27, a28, a29⟩ := h
 constructor <;> exact keep_cell hb (by assumption)
end Go.Proofs.Ytpnbpepkoekkoaa
end
section
namespace Go.Proofs.Ytpnbpepkoekkoaa
open Go Go.RowKit Go.Shelf
structure SX (X : Nat) (x : Ls) (W : World) : Prop where
 strip : x.strip = smallSc [97] [99] [97]
 at_ : x.At W
 ns : NsAt W x.refs [0, 1, 0, 1, 0, 0, 0, 0, 1, 0, 0, 1]
 heap : W.heap[X]? = some (.cells x.cells 30 (0, 0))
theorem SX.below {X : Nat} {x : Ls} {W W' : World} (h : SX X x W) (hb : Below W.heap.size W W') : SX X x W' := ⟨h.strip, h.at_.below hb, h.ns.below hb, keepO hb h.heap⟩
end Go.Proofs.Ytpnbpepkoekkoaa
end
section
namespace Go.Proofs.Ytpnbpepkoekkoaa
open Go Go.RowKit Go.Shelf Go.Deep
end Go.Proofs.Ytpnbpepkoekkoaa
end
