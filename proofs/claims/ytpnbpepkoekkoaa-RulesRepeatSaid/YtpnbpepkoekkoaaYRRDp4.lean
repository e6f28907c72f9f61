/- The walk of the statement: part 4. -/
import Derived.Test.YtpnbpepkoekkoaaYRRDp3
import Derived.Test.YtpnbpepkoekkoaaYRRDp1
import Derived.Test.YtpnbpepkoekkoaaYRRDp2
import Derived.Laws.CopyOwn
import Derived.Laws.Tables
import Derived.OrdersHeld
import Derived.Deep.RegionHeld
import Derived.BigQuiet
import Derived.BigCall
import Derived.BigGuard
import Derived.Test.YtpnbpepkoekkoaaZ3
set_option linter.unusedVariables false
set_option linter.unusedSimpArgs false
set_option maxRecDepth 100000
set_option maxHeartbeats 16000000
namespace Go.Proofs.Ytpnbpepkoekkoaa
open Go.Value (int)
open Go.IntKind (i64)
section
open Go Go.RowKit Go.Deep
theorem Qx {P : Program} {ops : Array Oper} {S : World → Prop} {op : Oper} {a : Act} (hw : Region.wanted op (yielded ops a.tmps) = true) (ty : TypeId) (x : Operand) (ho : op.op = .load ty x)
  (g : Nat) (hx : a.eval x = .pointer (some ⟨g, 0, none⟩)) (t : TypeId) (cs : Array Value) (fr : Nat × Nat) (d : TypeDesc) (hS : ∀ w, S w → w.heap[g]? = some (.cells cs t fr))
  (hu : P.underlying ty = some d) (hd : (match d with | .struct _ | .array _ _ => true | _ => false) = true) (hi : (P.info? ty).map (·.size) = some cs.size) : YieldsIf P ops S op (.agg cs) a :=
 .inl ⟨hw, fun w hw' => by
  unfold execOp
  simp only [ho, hx, Instr.loadAt, Instr.sureAddr, Sem.run_bind, Sem.run_pure, Result.andThen_ok, run_loadVar_row w g t ty cs fr d (hS w hw') hu hd hi]⟩
abbrev QP : Array Value := #[.string ⟨#[]⟩, int i64 0, int i64 0, int i64 0, int i64 0, int i64 0, .slice none 0 0, .slice none 0 0, .slice none 0 0, .slice none 0 0, .slice none 0 0, .slice none 0 0]
theorem Qw {W w : World} {A : Nat} {cs : Array Value} {t : TypeId} (hb : Below W.heap.size W w) (hA : w.heap[A]? = some (.cells cs t (0, 0))) : ∃ w', w.alloc (.cells QP 30) = w' ∧ w'.heap[A]? = some (.cells cs t (0, 0)) ∧ w'.heap[w.heap.size]? = some (.cells QP 30 (0, 0)) ∧ Below W.heap.size W w' ∧ w.heap.size < w'.heap.size ∧ W.heap.size ≤ w.heap.size :=
 ⟨_, rfl, (Below.heap_alloc w _ A (qs.1 hA).1).trans hA, heap_alloc_new w _, hb.alloc hb.size _, by simp, hb.size⟩
theorem R0 (s : Ls) : s.cells.all (·.oneCell') = true := by
 unfold Ls.cells; simp [Value.oneCell']
end
section
open Go Go.RowKit Go.Deep
theorem RN (s : Ls) (A : Nat) (W : World) (hA : W.heap[A]? = some (.cells s.cells 30 (0, 0))) (e0 e1 e2 e4 e5 e6 e7 e8 e9 ea eb ec ed ee ef eg eh ei ej ek el em en eo ep eq er es et eu ev ew ex ey ez eA eB eC eD eE eF eG eH eI eJ eK eL eM eN eO eP eQ eR eS eT eU eV eW eX eY eZ aa ab ac ad ae af ag ah ai aj ak al am an ao ap aq ar au av aw ax ay az aA aB aC aD aE aF aG aH aI aJ aK aL aM aN aO aP aQ aR aS aT aU aV aW aX aY aZ ba bb bc bd be bf bg bh bi bj bk bl bm bn bo bp bq br bs bt bu bv bw bx bz bA : Value) (K : Act → World → Prop)
  (hK : ∀ (X1 X2 : Nat) (W' : World), X1 ≠ X2 → W.heap.size ≤ X1 → W.heap.size ≤ X2 → W'.heap[X1]? = some (.cells s.cells 30 (0, 0)) → W'.heap[X2]? = some (.cells s.cells 30 (0, 0)) → Below W.heap.size W W' → ∀ (bB bC : Value), K { tmps := #[e0, e1, e2, .pointer (some ⟨A, 0, none⟩), e4, e5, e6, e7, e8, e9, ea, eb, .pointer (some ⟨X1, 0, none⟩), .pointer (some ⟨X2, 0, none⟩), ee, ef, eg, eh, ei, ej, ek, el, em, en, eo, ep, eq, er, es, et, eu, ev, ew, ex, ey, ez, eA, eB, eC, eD, eE, eF, eG, eH, eI, eJ, eK, eL, eM, eN, eO, eP, eQ, eR, eS, eT, eU, eV, eW, eX, eY, eZ, aa, ab, ac, ad, ae, af, ag, ah, ai, aj, ak, al, bB, bC, ao, ap, aq, ar, au, av, aw, ax, ay, az, aA, aB, aC, aD, aE, aF, aG, aH, aI, aJ, aK, aL, aM, aN, aO, aP, aQ, aR, aS, aT, aU, aV, aW, aX, aY, aZ, ba, bb, bc, bd, be, bf, bg, bh, bi, bj, bk, bl, bm, bn, bo, bp, bq, br, bs, bt, bu, bv, bw, bx, bz, bA], defers := [] } W') :
  elem11n7.wp Try.prog (Exit.then K (fun _ _ _ => False)) { tmps := #[e0, e1, e2, .pointer (some ⟨A, 0, none⟩), e4, e5, e6, e7, e8, e9, ea, eb, ec, ed, ee, ef, eg, eh, ei, ej, ek, el, em, en, eo, ep, eq, er, es, et, eu, ev, ew, ex, ey, ez, eA, eB, eC, eD, eE, eF, eG, eH, eI, eJ, eK, eL, eM, eN, eO, eP, eQ, eR, eS, eT, eU, eV, eW, eX, eY, eZ, aa, ab, ac, ad, ae, af, ag, ah, ai, aj, ak, al, am, an, ao, ap, aq, ar, au, av, aw, ax, ay, az, aA, aB, aC, aD, aE, aF, aG, aH, aI, aJ, aK, aL, aM, aN, aO, aP, aQ, aR, aS, aT, aU, aV, aW, aX, aY, aZ, ba, bb, bc, bd, be, bf, bg, bh, bi, bj, bk, bl, bm, bn, bo, bp, bq, br, bs, bt, bu, bv, bw, bx, bz, bA], defers := [] } W := by
 have hAl : A < W.heap.size := (qs.1 hA).1; have HK := qh hK; have HO := qh (R0 s); have HZ : Hid (s.cells.size = 12) := qh rfl; have gA0 : W.drew.heap[A]? = some (.cells s.cells 30 (0, 0)) := hA; have hB0 : Below W.heap.size W W.drew := (Below.refl _ W).drew; clear hK hA; generalize s.cells = ss at *; unfold elem11n7 Qq
 conv => arg 2; whnf
 refine wp_region_held (S := fun V => V.heap[A]? = some (.cells ss 30 (0, 0))) (by kernel_rfl) ?_; change wpAnyH _ _ _ _ _ _ _ _ W.drew; have hsd : W.heap.size ≤ W.drew.heap.size := qn _; generalize W.drew = W0 at *; refine tq 0 _ (.agg ss) rfl (by kernel_rfl) (fun _ _ _ h => h) (Qx rfl 30 _ rfl A rfl 30 ss (0, 0) _ (fun _ h => h) Try.underlying30 rfl (by rw [HZ.out]; kernel_rfl)) gA0 ?_
 try simp only [Act.put, qA, qB, qC, qD, qE, qF]
 refine tq 1 _ (.agg ss) rfl (by kernel_rfl) (fun _ _ _ h => h) (Qx rfl 30 _ rfl A rfl 30 ss (0, 0) _ (fun _ h => h) Try.underlying30 rfl (by rw [HZ.out]; kernel_rfl)) gA0 ?_
 try simp only [Act.put, qA, qB, qC, qD, qE, qF]
 refine wpAnyH_ready (rs := [2, 3]) (by kernel_rfl) (by simp) ?_; refine AllReadyH.cons (o := _) rfl (fun K1 hK => ?_) (AllReadyH.cons (o := _) rfl (fun K2 hK => ?_) AllReadyH.nil)
 ·go_simp
  obtain ⟨W1, hW1, gA1, m1, b1, z1, hM1⟩ := Qw hB0 gA0; rw [hW1]; refine hK.out _ _ gA1 (fun _ => ?_); clear hK K1 hW1 gA0 hB0
  try (simp only [Act.put, qD, qE, qF])
  refine tr 3 _ (by kernel_rfl) rfl fun K1 hK => ?_
  go_simp; obtain ⟨W2, hW2, gA2, m2, b2, z2, hM2⟩ := Qw b1 gA1; have m1' := hW2 ▸ (Below.heap_alloc W1 (.cells QP 30) W0.heap.size (by omega)).trans m1; rw [hW2]; refine hK.out _ _ gA2 (fun _ => ?_); clear hK K1 hW2
  try (simp only [Act.put, qD, qE, qF])
  refine tr 4 _ (by kernel_rfl) rfl fun K1 hK => ?_
  rw [if_pos (by rfl)]; refine wp_store_row 30 _ _ rfl W0.heap.size ss rfl rfl 30 _ m1' (by rw [HZ.out]; kernel_rfl) (by rw [HZ.out]; rfl) HO.out ?_; refine hK.out _ _ ((setRow_other _ _ _ _ (by omega)).trans gA2) (fun _ => ?_); clear hK K1
  try (simp only [Act.put, qD, qE, qF])
  refine tr 5 _ (by kernel_rfl) rfl fun K1 hK => ?_
  rw [if_pos (by rfl)]; refine wp_store_row 30 _ _ rfl W1.heap.size ss rfl rfl 30 _ ((setRow_other _ _ _ _ (by omega)).trans m2) (by rw [HZ.out]; kernel_rfl) (by rw [HZ.out]; rfl) HO.out ?_; refine hK.out _ _ ((setRow_other _ _ _ _ (by omega)).trans ((setRow_other _ _ _ _ (by omega)).trans gA2)) (fun _ => ?_); clear hK K1
  try (simp only [Act.put, qD, qE, qF])
  refine wpAnyH_done (by kernel_rfl) ?_ _; exact HK.out W0.heap.size W1.heap.size _ (by omega) (by omega) (by omega) ((setRow_other _ _ _ _ (by omega)).trans (setRow_heap _ _ _ _ _ _ m1')) (setRow_heap _ _ _ _ _ _ ((setRow_other _ _ _ _ (by omega)).trans m2)) (below_setRow (below_setRow b2 (by omega) _) (by omega) _) _ _
 ·go_simp
  obtain ⟨W1, hW1, gA1, m1, b1, z1, hM1⟩ := Qw hB0 gA0; rw [hW1]; refine hK.out _ _ gA1 (fun _ => ?_); clear hK K2 hW1 gA0 hB0
  try (simp only [Act.put, qD, qE, qF])
  refine tr 2 _ (by kernel_rfl) rfl fun K1 hK => ?_
  go_simp; obtain ⟨W2, hW2, gA2, m2, b2, z2, hM2⟩ := Qw b1 gA1; have m1' := hW2 ▸ (Below.heap_alloc W1 (.cells QP 30) W0.heap.size (by omega)).trans m1; rw [hW2]; refine hK.out _ _ gA2 (fun _ => ?_); clear hK K1 hW2
  try (simp only [Act.put, qD, qE, qF])
  refine tr 4 _ (by kernel_rfl) rfl fun K1 hK => ?_
  rw [if_pos (by rfl)]; refine wp_store_row 30 _ _ rfl W1.heap.size ss rfl rfl 30 _ m2 (by rw [HZ.out]; kernel_rfl) (by rw [HZ.out]; rfl) HO.out ?_; refine hK.out _ _ ((setRow_other _ _ _ _ (by omega)).trans gA2) (fun _ => ?_); clear hK K1
  try (simp only [Act.put, qD, qE, qF])
  refine tr 5 _ (by kernel_rfl) rfl fun K1 hK => ?_
  rw [if_pos (by rfl)]; refine wp_store_row 30 _ _ rfl W0.heap.size ss rfl rfl 30 _ ((setRow_other _ _ _ _ (by omega)).trans m1') (by rw [HZ.out]; kernel_rfl) (by rw [HZ.out]; rfl) HO.out ?_; refine hK.out _ _ ((setRow_other _ _ _ _ (by omega)).trans ((setRow_other _ _ _ _ (by omega)).trans gA2)) (fun _ => ?_); clear hK K1
  try (simp only [Act.put, qD, qE, qF])
  refine wpAnyH_done (by kernel_rfl) ?_ _; exact HK.out W1.heap.size W0.heap.size _ (by omega) (by omega) (by omega) ((setRow_other _ _ _ _ (by omega)).trans (setRow_heap _ _ _ _ _ _ m2)) (setRow_heap _ _ _ _ _ _ ((setRow_other _ _ _ _ (by omega)).trans m1')) (below_setRow (below_setRow b2 (by omega) _) (by omega) _) _ _
theorem RO (A X n c : Nat) (ao : Option Addr) (ss cs : Array Value) (v0 : Value) (news : List Value) (W : World) (hA : W.heap[A]? = some (.cells ss 30 (0, 0))) (h11 : ss[10]? = some (.slice ao n c)) (hX : W.heap[X]? = some (.cells cs 30 (0, 0))) (hc0 : cs[10]? = some v0) (hl : news.length = n * 2) (hn : n ≤ 100000) (hno : ao = none → n = 0)
  (hsrc : ∀ ad, ao = some ad → ∀ j u, news[j]? = some u → W.cell? (ad.add j) = some u) (h1 : ∀ u ∈ news, u.oneCell' = true) (e0 e1 e2 e4 e5 e6 e7 e8 e9 ea eb ec ed ee ef eg eh ei ej ek el em en eo ep eq er es et eu ev ew ex ey ez eA eB eC eD eE eF eG eH eI eJ eK eL eM eN eO eP eQ eR eS eT eU eV eW eX eY eZ aa ab ac ae af ag ah ai aj ak al am an ap aq ar au av aw ax ay az aA aB aC aD aE aF aG aH aI aJ aK aL aM aN aO aP aQ aR aS aT aU aV aW aX aY aZ ba bb bc bd be bf bg bh bi bj bk bl bm bn bo bp bq br bs bt bu bv bw bx bz bA bB : Value) (K : Act → World → Prop)
  (hK : ∀ (g c1 : Nat) (W' : World), W.heap.size ≤ g → FreeB W' g → (∀ j u, news[j]? = some u → W'.cell? ⟨g, j, none⟩ = some u) → W'.heap[X]? = some (.cells (cs.setIfInBounds 10 (.slice (some ⟨g, 0, none⟩) n c1)) 30 (0, 0)) → ButOne X W W' → ∀ (bC bD bE bF bG : Value), K { tmps := #[e0, e1, e2, .pointer (some ⟨A, 0, none⟩), e4, e5, e6, e7, e8, e9, ea, eb, .pointer (some ⟨X, 0, none⟩), ec, ed, ee, ef, eg, eh, ei, ej, ek, el, em, en, eo, ep, eq, er, es, et, eu, ev, ew, ex, ey, ez, eA, eB, eC, eD, eE, eF, eG, eH, eI, eJ, eK, eL, eM, eN, eO, eP, eQ, eR, eS, eT, eU, eV, eW, eX, eY, eZ, aa, ab, ac, ae, af, ag, ah, ai, aj, ak, al, am, an, bC, bD, bE, bF, bG, aw, ax, ay, az, aA, aB, aC, aD, aE, aF, aG, aH, aI, aJ, aK, aL, aM, aN, aO, aP, aQ, aR, aS, aT, aU, aV, aW, aX, aY, aZ, ba, bb, bc, bd, be, bf, bg, bh, bi, bj, bk, bl, bm, bn, bo, bp, bq, br, bs, bt, bu, bv, bw, bx, bz, bA, bB], defers := [] } W') :
  elem11n8.wp Try.prog (Exit.then K (fun _ _ _ => False)) { tmps := #[e0, e1, e2, .pointer (some ⟨A, 0, none⟩), e4, e5, e6, e7, e8, e9, ea, eb, .pointer (some ⟨X, 0, none⟩), ec, ed, ee, ef, eg, eh, ei, ej, ek, el, em, en, eo, ep, eq, er, es, et, eu, ev, ew, ex, ey, ez, eA, eB, eC, eD, eE, eF, eG, eH, eI, eJ, eK, eL, eM, eN, eO, eP, eQ, eR, eS, eT, eU, eV, eW, eX, eY, eZ, aa, ab, ac, ae, af, ag, ah, ai, aj, ak, al, am, an, ap, aq, ar, au, av, aw, ax, ay, az, aA, aB, aC, aD, aE, aF, aG, aH, aI, aJ, aK, aL, aM, aN, aO, aP, aQ, aR, aS, aT, aU, aV, aW, aX, aY, aZ, ba, bb, bc, bd, be, bf, bg, bh, bi, bj, bk, bl, bm, bn, bo, bp, bq, br, bs, bt, bu, bv, bw, bx, bz, bA, bB], defers := [] } W := by
 obtain ⟨i0, hi85, hz0, hz1, hz2⟩ := info_parts Oc; have I85 := qh (And.intro hi85 (And.intro hz0 (And.intro hz1 hz2))); have hXl : X < W.heap.size := (qs.1 hX).1; have hAl : A < W.heap.size := (qs.1 hA).1; obtain ⟨W2, hW2, bW2, sW2⟩ : ∃ W2, W.alloc (.cells #[] 57) = W2 ∧ Below W.heap.size W W2 ∧ W2.heap.size = W.heap.size + 1 := ⟨_, rfl, (Below.refl _ _).alloc (qn _) _, by simp⟩; have c6 := Aa hA 10 h11; have hEmp : W2.ownsRow W.heap.size 57 2 (.slice (some ⟨W.heap.size, 0, none⟩) 0 0) 0 [] := by rw [← hW2]; exact OV W _ 57 2 (qn _)
 have hsrc2 : ∀ ad, ao = some ad → ∀ j u, news[j]? = some u → W2.cell? (ad.add j) = some u := fun ad ha j u hj => Ae bW2 (hsrc ad ha j u hj)
 have HO := qh hEmp; have HS := qh hsrc2; have HL := qh hl; have HNO := qh hno; have H1 := qh h1; have HW2 := qh hW2; have HSW2 := qh sW2; have HB2 := qh bW2; have HX := qh hX; have HC0 := qh hc0; have HK := qh hK; clear hi85 hz0 hz1 hz2 hK hA hX h11 hc0 hl hno hsrc h1 hW2 bW2 sW2 hEmp hsrc2; unfold elem11n8 Qq
 conv => arg 2; whnf
 go_wp2_with (at_builtin; rw [HW2.out]; refine Jq rfl _ _ 27 rfl W.heap.size 57 i0 _ 2 40 Try.underlying27 I85.out.1 I85.out.2.1 I85.out.2.2.1 I85.out.2.2.2 rfl (by decide) _ 0 [] rfl HO.out ao n c news rfl HL.out HNO.out HS.out H1.out (by unfold maxLen; omega) (by omega) (by rw [HSW2.out]; omega) ?_; intro v5 W5 ho5 hg5 ha5; rw [Nat.zero_add, List.nil_append] at ho5; obtain ⟨g1, c1, rfl, q1, q2, q3⟩ := QF ho5 (by rcases ha5 with h | h <;> exact ⟨_, h⟩); have hbw : Below W.heap.size W W5 := (HB2.out.grown hg5 (by rw [HSW2.out]; omega) (fun k hk => by cases hk; exact qn _)); have hX3 := Am hbw HX.out; have xq := Aa hX3 10 HC0.out; have xz := (show FreeB W5 X from ⟨_, _, hX3⟩).free 10; have HX3 := qh hX3; have HBW := qh hbw; have HQ := qh (And.intro q1 (And.intro q2 q3)); clear hX3 hbw q1 q2 q3 ho5 hg5 ha5); obtain ⟨q1, q2, q3⟩ := HQ.out; exact HK.out g1 c1 _ q1 (q2.set _ _) (fun j u hj => Ad (q3 j u hj) (Av (Or.inl (by omega)))) (PZ HX3.out 10 _) ((ButOne.of_below HBW.out).trans (ButOne.setCell (p := ⟨X, 10, none⟩) _)) _ _ _ _ _
theorem RQ (A X n c : Nat) (ao : Option Addr) (ss cs : Array Value) (v0 : Value) (news : List Value) (W : World) (hA : W.heap[A]? = some (.cells ss 30 (0, 0))) (h11 : ss[10]? = some (.slice ao n c)) (hX : W.heap[X]? = some (.cells cs 30 (0, 0))) (hc0 : cs[10]? = some v0) (hl : news.length = n * 2) (hn : n ≤ 100000) (hno : ao = none → n = 0)
  (hsrc : ∀ ad, ao = some ad → ∀ j u, news[j]? = some u → W.cell? (ad.add j) = some u) (h1 : ∀ u ∈ news, u.oneCell' = true) (e0 e1 e2 e4 e5 e6 e7 e8 e9 ea eb ec ed ee ef eg eh ei ej ek el em en eo ep eq er es et eu ev ew ex ey ez eA eB eC eD eE eF eG eH eI eJ eK eL eM eN eO eP eQ eR eS eT eU eV eW eX eY eZ aa ab ac ae af ag ah ai aj ak al am an ap aq ar au av aw ax ay az aA aB aC aD aE aF aG aH aI aJ aK aL aM aN aO aP aQ aR aS aT aU aV aW aX aY aZ ba bb bc bd be bf bg bh bi bj bk bl bm bn bo bp bq br bs bt bu bv bw bx bz bA bB : Value) (K : Act → World → Prop)
  (hK : ∀ (g c1 : Nat) (W' : World), W.heap.size ≤ g → FreeB W' g → (∀ j u, news[j]? = some u → W'.cell? ⟨g, j, none⟩ = some u) → W'.heap[X]? = some (.cells (cs.setIfInBounds 10 (.slice (some ⟨g, 0, none⟩) n c1)) 30 (0, 0)) → ButOne X W W' → ∀ (bC bD bE bF bG : Value), K { tmps := #[e0, e1, e2, .pointer (some ⟨A, 0, none⟩), e4, e5, e6, e7, e8, e9, ea, eb, ec, .pointer (some ⟨X, 0, none⟩), ed, ee, ef, eg, eh, ei, ej, ek, el, em, en, eo, ep, eq, er, es, et, eu, ev, ew, ex, ey, ez, eA, eB, eC, eD, eE, eF, eG, eH, eI, eJ, eK, eL, eM, eN, eO, eP, eQ, eR, eS, eT, eU, eV, eW, eX, eY, eZ, aa, ab, ac, ae, af, ag, ah, ai, aj, ak, al, am, an, ap, aq, ar, au, av, aw, ax, ay, az, aA, aB, aC, aD, bC, bD, bE, bF, bG, aJ, aK, aL, aM, aN, aO, aP, aQ, aR, aS, aT, aU, aV, aW, aX, aY, aZ, ba, bb, bc, bd, be, bf, bg, bh, bi, bj, bk, bl, bm, bn, bo, bp, bq, br, bs, bt, bu, bv, bw, bx, bz, bA, bB], defers := [] } W') :
  elem11n10.wp Try.prog (Exit.then K (fun _ _ _ => False)) { tmps := #[e0, e1, e2, .pointer (some ⟨A, 0, none⟩), e4, e5, e6, e7, e8, e9, ea, eb, ec, .pointer (some ⟨X, 0, none⟩), ed, ee, ef, eg, eh, ei, ej, ek, el, em, en, eo, ep, eq, er, es, et, eu, ev, ew, ex, ey, ez, eA, eB, eC, eD, eE, eF, eG, eH, eI, eJ, eK, eL, eM, eN, eO, eP, eQ, eR, eS, eT, eU, eV, eW, eX, eY, eZ, aa, ab, ac, ae, af, ag, ah, ai, aj, ak, al, am, an, ap, aq, ar, au, av, aw, ax, ay, az, aA, aB, aC, aD, aE, aF, aG, aH, aI, aJ, aK, aL, aM, aN, aO, aP, aQ, aR, aS, aT, aU, aV, aW, aX, aY, aZ, ba, bb, bc, bd, be, bf, bg, bh, bi, bj, bk, bl, bm, bn, bo, bp, bq, br, bs, bt, bu, bv, bw, bx, bz, bA, bB], defers := [] } W := by
 obtain ⟨i0, hi85, hz0, hz1, hz2⟩ := info_parts Oc; have I85 := qh (And.intro hi85 (And.intro hz0 (And.intro hz1 hz2))); have hXl : X < W.heap.size := (qs.1 hX).1; have hAl : A < W.heap.size := (qs.1 hA).1; obtain ⟨W2, hW2, bW2, sW2⟩ : ∃ W2, W.alloc (.cells #[] 57) = W2 ∧ Below W.heap.size W W2 ∧ W2.heap.size = W.heap.size + 1 := ⟨_, rfl, (Below.refl _ _).alloc (qn _) _, by simp⟩; have c6 := Aa hA 10 h11; have hEmp : W2.ownsRow W.heap.size 57 2 (.slice (some ⟨W.heap.size, 0, none⟩) 0 0) 0 [] := by rw [← hW2]; exact OV W _ 57 2 (qn _)
 have hsrc2 : ∀ ad, ao = some ad → ∀ j u, news[j]? = some u → W2.cell? (ad.add j) = some u := fun ad ha j u hj => Ae bW2 (hsrc ad ha j u hj)
 have HO := qh hEmp; have HS := qh hsrc2; have HL := qh hl; have HNO := qh hno; have H1 := qh h1; have HW2 := qh hW2; have HSW2 := qh sW2; have HB2 := qh bW2; have HX := qh hX; have HC0 := qh hc0; have HK := qh hK; clear hi85 hz0 hz1 hz2 hK hA hX h11 hc0 hl hno hsrc h1 hW2 bW2 sW2 hEmp hsrc2; unfold elem11n10 Qq
 conv => arg 2; whnf
 go_wp2_with (at_builtin; rw [HW2.out]; refine Jq rfl _ _ 27 rfl W.heap.size 57 i0 _ 2 40 Try.underlying27 I85.out.1 I85.out.2.1 I85.out.2.2.1 I85.out.2.2.2 rfl (by decide) _ 0 [] rfl HO.out ao n c news rfl HL.out HNO.out HS.out H1.out (by unfold maxLen; omega) (by omega) (by rw [HSW2.out]; omega) ?_; intro v5 W5 ho5 hg5 ha5; rw [Nat.zero_add, List.nil_append] at ho5; obtain ⟨g1, c1, rfl, q1, q2, q3⟩ := QF ho5 (by rcases ha5 with h | h <;> exact ⟨_, h⟩); have hbw : Below W.heap.size W W5 := (HB2.out.grown hg5 (by rw [HSW2.out]; omega) (fun k hk => by cases hk; exact qn _)); have hX3 := Am hbw HX.out; have xq := Aa hX3 10 HC0.out; have xz := (show FreeB W5 X from ⟨_, _, hX3⟩).free 10; have HX3 := qh hX3; have HBW := qh hbw; have HQ := qh (And.intro q1 (And.intro q2 q3)); clear hX3 hbw q1 q2 q3 ho5 hg5 ha5); obtain ⟨q1, q2, q3⟩ := HQ.out; exact HK.out g1 c1 _ q1 (q2.set _ _) (fun j u hj => Ad (q3 j u hj) (Av (Or.inl (by omega)))) (PZ HX3.out 10 _) ((ButOne.of_below HBW.out).trans (ButOne.setCell (p := ⟨X, 10, none⟩) _)) _ _ _ _ _
theorem RP (X g n c k jl jc : Nat) (nn : Int) (ja : Option Addr) (old : Value) (cs : Array Value) (W : World) (hX : W.heap[X]? = some (.cells cs 30 (0, 0))) (h10 : cs[10]? = some (.slice (some ⟨g, 0, none⟩) n c)) (hg : FreeB W g) (hc : W.cell? ⟨g, k * 2 + 1, none⟩ = some old) (hk : k < n) (hn : n ≤ 100000) (e0 e1 e2 e3 e4 e5 e6 e9 ea eb ec ed ee ef eg eh ei ej ek el em en eo ep eq er es et eu ev ew ex ey ez eA eB eC eD eE eF eG eH eI eJ eK eL eM eN eO eP eQ eR eS eT eU eV eW eX eY eZ aa ab ac ad ae af ag ah ai aj ak al am an ao ap aq ar au av aw ax ay az aA aB aC aD aE aF aG aH aI aJ aK aL aM aN aO aP aQ aR aS aT aU aV aW aX aY aZ ba bb bc bd be bf bg bh bi bj bk bl bm bn bo bp bq br bs bt bu bv bw bx : Value) (K : Act → World → Prop)
  (hK : ∀ (bz bA bB bC bD bE bF bG : Value), K { tmps := #[e0, e1, e2, e3, e4, e5, e6, int i64 (k : Nat), int i64 nn, e9, ea, .slice ja jl jc, .pointer (some ⟨X, 0, none⟩), eb, ec, ed, ee, ef, eg, eh, ei, ej, ek, el, em, en, eo, ep, eq, er, es, et, eu, ev, ew, ex, ey, ez, eA, eB, eC, eD, eE, eF, eG, eH, eI, eJ, eK, eL, eM, eN, eO, eP, eQ, eR, eS, eT, eU, eV, eW, eX, eY, eZ, aa, ab, ac, ad, ae, af, ag, ah, ai, aj, ak, al, am, an, ao, ap, aq, bz, bA, bB, bC, bD, bE, bF, bG, aB, aC, aD, aE, aF, aG, aH, aI, aJ, aK, aL, aM, aN, aO, aP, aQ, aR, aS, aT, aU, aV, aW, aX, aY, aZ, ba, bb, bc, bd, be, bf, bg, bh, bi, bj, bk, bl, bm, bn, bo, bp, bq, br, bs, bt, bu, bv, bw, bx], defers := [] } ((W.setCell ⟨g, k * 2 + 1, none⟩ (.slice (some ⟨W.heap.size, 0, none⟩) 1 1)).alloc (.cells #[int i64 3, int i64 0, sv [], int i64 0, .slice ja jl jc, .slice none 0 0] 78))) :
  elem11n9.wp Try.prog (Exit.then K (fun _ _ _ => False)) { tmps := #[e0, e1, e2, e3, e4, e5, e6, int i64 (k : Nat), int i64 nn, e9, ea, .slice ja jl jc, .pointer (some ⟨X, 0, none⟩), eb, ec, ed, ee, ef, eg, eh, ei, ej, ek, el, em, en, eo, ep, eq, er, es, et, eu, ev, ew, ex, ey, ez, eA, eB, eC, eD, eE, eF, eG, eH, eI, eJ, eK, eL, eM, eN, eO, eP, eQ, eR, eS, eT, eU, eV, eW, eX, eY, eZ, aa, ab, ac, ad, ae, af, ag, ah, ai, aj, ak, al, am, an, ao, ap, aq, ar, au, av, aw, ax, ay, az, aA, aB, aC, aD, aE, aF, aG, aH, aI, aJ, aK, aL, aM, aN, aO, aP, aQ, aR, aS, aT, aU, aV, aW, aX, aY, aZ, ba, bb, bc, bd, be, bf, bg, bh, bi, bj, bk, bl, bm, bn, bo, bp, bq, br, bs, bt, bu, bv, bw, bx], defers := [] } W := by
 have hXl : X < W.heap.size := (qs.1 hX).1; have hgl := hg.lt; have x10 := Aa hX 10 h10; have hz := hg.free (k * 2 + 1); have hkn : (k : Int) < (n : Int) := by omega
 have HK := qh hK; clear hK hX h10 hg; unfold elem11n9 Qq
 conv => arg 2; whnf
 go_wp2_with fail; exact HK.out _ _ _ _ _ _ _ _
theorem RR (X g n c k jl jc : Nat) (nn : Int) (ja : Option Addr) (old : Value) (cs : Array Value) (W : World) (hX : W.heap[X]? = some (.cells cs 30 (0, 0))) (h10 : cs[10]? = some (.slice (some ⟨g, 0, none⟩) n c)) (hg : FreeB W g) (hc : W.cell? ⟨g, k * 2 + 1, none⟩ = some old) (hk : k < n) (hn : n ≤ 100000) (e0 e1 e2 e3 e4 e5 e6 e9 ea eb ec ed ee ef eg eh ei ej ek el em en eo ep eq er es et eu ev ew ex ey ez eA eB eC eD eE eF eG eH eI eJ eK eL eM eN eO eP eQ eR eS eT eU eV eW eX eY eZ aa ab ac ad ae af ag ah ai aj ak al am an ao ap aq ar au av aw ax ay az aA aB aC aD aE aF aG aH aI aJ aK aL aM aN aO aP aQ aR aS aT aU aV aW aX aY aZ ba bb bc bd be bf bg bh bi bj bk bl bm bn bo bp bq br bs bt bu bv bw bx : Value) (K : Act → World → Prop)
  (hK : ∀ (bz bA bB bC bD bE bF bG bH : Value), K { tmps := #[e0, e1, e2, e3, e4, e5, e6, int i64 (k : Nat), int i64 nn, e9, ea, .slice ja jl jc, eb, .pointer (some ⟨X, 0, none⟩), ec, ed, ee, ef, eg, eh, ei, ej, ek, el, em, en, eo, ep, eq, er, es, et, eu, ev, ew, ex, ey, ez, eA, eB, eC, eD, eE, eF, eG, eH, eI, eJ, eK, eL, eM, eN, eO, eP, eQ, eR, eS, eT, eU, eV, eW, eX, eY, eZ, aa, ab, ac, ad, ae, af, ag, ah, ai, aj, ak, al, am, an, ao, ap, aq, ar, au, av, aw, ax, ay, az, aA, aB, aC, aD, aE, aF, bz, bA, bB, bC, bD, bE, bF, bG, bH, aP, aQ, aR, aS, aT, aU, aV, aW, aX, aY, aZ, ba, bb, bc, bd, be, bf, bg, bh, bi, bj, bk, bl, bm, bn, bo, bp, bq, br, bs, bt, bu, bv, bw, bx], defers := [] } ((W.setCell ⟨g, k * 2 + 1, none⟩ (.slice (some ⟨W.heap.size, 0, none⟩) 1 1)).alloc (.cells #[int i64 2, int i64 nn, sv [], int i64 0, .slice ja jl jc, .slice none 0 0] 78))) :
  elem11n11.wp Try.prog (Exit.then K (fun _ _ _ => False)) { tmps := #[e0, e1, e2, e3, e4, e5, e6, int i64 (k : Nat), int i64 nn, e9, ea, .slice ja jl jc, eb, .pointer (some ⟨X, 0, none⟩), ec, ed, ee, ef, eg, eh, ei, ej, ek, el, em, en, eo, ep, eq, er, es, et, eu, ev, ew, ex, ey, ez, eA, eB, eC, eD, eE, eF, eG, eH, eI, eJ, eK, eL, eM, eN, eO, eP, eQ, eR, eS, eT, eU, eV, eW, eX, eY, eZ, aa, ab, ac, ad, ae, af, ag, ah, ai, aj, ak, al, am, an, ao, ap, aq, ar, au, av, aw, ax, ay, az, aA, aB, aC, aD, aE, aF, aG, aH, aI, aJ, aK, aL, aM, aN, aO, aP, aQ, aR, aS, aT, aU, aV, aW, aX, aY, aZ, ba, bb, bc, bd, be, bf, bg, bh, bi, bj, bk, bl, bm, bn, bo, bp, bq, br, bs, bt, bu, bv, bw, bx], defers := [] } W := by
 have hXl : X < W.heap.size := (qs.1 hX).1; have hgl := hg.lt; have x10 := Aa hX 10 h10; have hz := hg.free (k * 2 + 1); have hkn : (k : Int) < (n : Int) := by omega
 have HK := qh hK; clear hK hX h10 hg; unfold elem11n11 Qq
 conv => arg 2; whnf
 go_wp2_with fail; exact HK.out _ _ _ _ _ _ _ _ _
end
section
open Go Go.RowKit Go.Deep
theorem QZ {s : Ls} {W : World} {k b : Nat} {p : Ph} {kd n : Int} (hp : s.phrases[k]? = some p) (hkd : kd ≠ 4) (hA : s.At W) (hN : NumsBy s.num W s.refs) (hb : W.heap[b]? = some (.cells #[int i64 kd, int i64 n, sv [], int i64 0, .slice p.ia p.its.len p.ic, .slice none 0 0] 78 (0, 0))) :
  (p.wrap kd n b).Its W ∧ NumsBy s.num W (p.wrap kd n b).refsL := by
 obtain ⟨i1, i2, i3⟩ := CQ hA.phrases hp; have c0 := Aa hb 0 rfl; have c1 := Aa hb 1 rfl; have c2 := Aa hb 2 rfl; have c3 := Aa hb 3 rfl; have c4 := Aa hb 4 rfl; have c5 := Aa hb 5 rfl; refine ⟨⟨Or.inr rfl, by show 1 ≤ maxLen; unfold maxLen; omega, ⟨⟨c0, c1, c2, c4, c5⟩, ⟨Or.inl rfl, Nat.zero_le _, trivial⟩, ⟨i1, i2, i3⟩, trivial⟩⟩, fun x hx => ?_⟩; have hx' : x ∈ (⟨b, 0 + 2, Bh kd, []⟩ : RefL) :: (Aw (blk none) (off none) [] ++ (p.its.refsL (blk p.ia) (off p.ia) ++ Lt.refsL .nil b (0 + 6))) := hx; simp only [Aw, Lt.refsL, List.nil_append, List.append_nil, List.mem_cons] at hx'; rcases hx' with rfl | hx'
 ·have : s.num (RefL.key ⟨b, 0 + 2, Bh kd, []⟩) = 0 := by simp [Ls.num, BJ, RefL.key, Bh, hkd]
  rw [this]; exact c3
 ·exact OZ hN x (CR hp hx')
theorem QG {ps : List Ph} {x : RefL} (h : x ∈ Ay ps) : ∃ p ∈ ps, x ∈ p.refsL := by
 induction ps with
 | nil => cases h
 | cons q r ih =>
  rcases List.mem_append.1 h with h | h
  ·exact ⟨q, by simp, h⟩
  ·obtain ⟨p, h1, h2⟩ := ih h
   exact ⟨p, by simp [h1], h2⟩
theorem RJ {s : Ls} {W : World} {X g c k b : Nat} {p : Ph} {kd n : Int} (hp : s.phrases[k]? = some p) (hkd : kd ≠ 4) (hX : W.heap[X]? = some (.cells (s.cells.setIfInBounds 10 (.slice (some ⟨g, 0, none⟩) s.phrases.length c)) 30 (0, 0))) (hA : s.At W) (hN : NumsBy s.num W s.refs) (hv : RowV Dp W g (s.phrases.set k (p.wrap kd n b))) (hb : W.heap[b]? = some (.cells #[int i64 kd, int i64 n, sv [], int i64 0, .slice p.ia p.its.len p.ic, .slice none 0 0] 78 (0, 0))) :
  Bx (s.withF g c (s.phrases.set k (p.wrap kd n b))) (s.nsF k p kd n s.dances) X W ∧ (AZ W g 0 (s.phrases.set k (p.wrap kd n b)) ∧ NumsBy s.num W (Ay (s.phrases.set k (p.wrap kd n b)))) := by
 obtain ⟨w1, w2⟩ := QZ hp hkd hA hN hb
 have hall : ∀ q ∈ s.phrases.set k (p.wrap kd n b), q.Its W ∧ NumsBy s.num W q.refsL := fun q hq => by
  rcases List.mem_or_eq_of_mem_set hq with h | rfl
  ·obtain ⟨i, hi⟩ := List.getElem?_of_mem h
   exact ⟨CQ hA.phrases hi, fun x hx => OZ hN x (CR hi hx)⟩
  ·exact ⟨w1, w2⟩
 have hat : AZ W g 0 (s.phrases.set k (p.wrap kd n b)) := Fq.2 ⟨fun j u hj => by rw [Nat.zero_add]; exact hv j u hj, fun q hq => (hall q hq).1⟩
 have hnb : NumsBy s.num W (Ay (s.phrases.set k (p.wrap kd n b))) := fun x hx => by
  obtain ⟨q, hq, hx⟩ := QG hx; exact (hall q hq).2 x hx
 refine ⟨⟨?_, ⟨hA.roles, hA.tempos, hA.pauses, hA.spans, Or.inr rfl, by show (s.phrases.set k _).length ≤ maxLen; rw [List.length_set]; exact hA.plen, hat, hA.dform, hA.dlen, hA.dances⟩, ?_⟩, hat, hnb⟩
 ·have e : (s.withF g c (s.phrases.set k (p.wrap kd n b))).cells = s.cells.setIfInBounds 10 (.slice (some ⟨g, 0, none⟩) (s.phrases.set k (p.wrap kd n b)).length c) := rfl
  rw [e, List.length_set]; exact hX
 ·have h1 : NumsBy s.num W (s.withF g c (s.phrases.set k (p.wrap kd n b))).refs := fun x hx => by
   rcases List.mem_append.1 hx with hx | hx
   ·exact hnb x hx
   ·exact Qc hN x hx
  have := J1 h1; rw [Ls.refs_key, Qs] at this; exact this
theorem Rx {s : Ls} {W : World} {X g c k b : Nat} {p : Ph} {kd n : Int} (hX : W.heap[X]? = some (.cells ((s.cells.setIfInBounds 10 (.slice (some ⟨g, 0, none⟩) s.phrases.length c)).setIfInBounds 11 (.slice none 0 0)) 30 (0, 0))) (hA : s.At W) (h : AZ W g 0 (s.phrases.set k (p.wrap kd n b)) ∧ NumsBy s.num W (Ay (s.phrases.set k (p.wrap kd n b)))) :
  Bx (s.withF g c (s.phrases.set k (p.wrap kd n b))).noDan (s.nsF k p kd n []) X W := by
 obtain ⟨hat, hnb⟩ := h; refine ⟨?_, ⟨hA.roles, hA.tempos, hA.pauses, hA.spans, Or.inr rfl, by show (s.phrases.set k _).length ≤ maxLen; rw [List.length_set]; exact hA.plen, hat, Or.inl rfl, Nat.zero_le _, trivial⟩, ?_⟩
 ·have e : (s.withF g c (s.phrases.set k (p.wrap kd n b))).noDan.cells = (s.cells.setIfInBounds 10 (.slice (some ⟨g, 0, none⟩) (s.phrases.set k (p.wrap kd n b)).length c)).setIfInBounds 11 (.slice none 0 0) := rfl
  rw [e, List.length_set]; exact hX
 ·have h1 : NumsBy s.num W (s.withF g c (s.phrases.set k (p.wrap kd n b))).noDan.refs := fun x hx => by
   rcases List.mem_append.1 hx with hx | hx
   ·exact hnb x hx
   ·cases hx
  have := J1 h1; have e : (s.withF g c (s.phrases.set k (p.wrap kd n b))).noDan.strip = { (s.withF g c (s.phrases.set k (p.wrap kd n b))).strip with dances := [] } := rfl; rw [Ls.refs_key, e, Qs] at this; exact this
theorem QS {s : Ls} {W : World} {g k : Nat} {p : Ph} {kd n : Int} (hv : RowV Dp W g s.phrases) (hp : s.phrases[k]? = some p) (hg : g < W.heap.size) :
  ∃ V, (W.setCell ⟨g, k * 2 + 1, none⟩ (.slice (some ⟨W.heap.size, 0, none⟩) 1 1)).alloc (.cells #[int i64 kd, int i64 n, sv [], int i64 0, .slice p.ia p.its.len p.ic, .slice none 0 0] 78) = V ∧ ButOne g W V ∧ RowV Dp V g (s.phrases.set k (p.wrap kd n W.heap.size)) ∧ V.heap[W.heap.size]? = some (.cells #[int i64 kd, int i64 n, sv [], int i64 0, .slice p.ia p.its.len p.ic, .slice none 0 0] 78 (0, 0)) := by
 have hsz : (W.setCell ⟨g, k * 2 + 1, none⟩ (.slice (some ⟨W.heap.size, 0, none⟩) 1 1)).heap.size = W.heap.size := by simp [World.setCell]
 have hU : RowV Dp (W.setCell ⟨g, k * 2 + 1, none⟩ (.slice (some ⟨W.heap.size, 0, none⟩) 1 1)) g (s.phrases.set k (p.wrap kd n W.heap.size)) := RS Qu (q := 1) hv hp rfl (fun r hr => by
  match r, hr with
  | 0, _ => rfl
  | 1, hr => exact absurd rfl hr
  | r + 2, _ => rfl)
 have hB : Below (W.setCell ⟨g, k * 2 + 1, none⟩ (.slice (some ⟨W.heap.size, 0, none⟩) 1 1)).heap.size (W.setCell ⟨g, k * 2 + 1, none⟩ (.slice (some ⟨W.heap.size, 0, none⟩) 1 1)) ((W.setCell ⟨g, k * 2 + 1, none⟩ (.slice (some ⟨W.heap.size, 0, none⟩) 1 1)).alloc (.cells #[int i64 kd, int i64 n, sv [], int i64 0, .slice p.ia p.its.len p.ic, .slice none 0 0] 78)) := (Below.refl _ _).alloc (qn _) _; refine ⟨_, rfl, (ButOne.setCell (p := ⟨g, k * 2 + 1, none⟩) _).trans (ButOne.of_below hB), fun j u hj => Ae hB (hU j u hj), ?_⟩; have := heap_alloc_new (W.setCell ⟨g, k * 2 + 1, none⟩ (.slice (some ⟨W.heap.size, 0, none⟩) 1 1)) (.cells #[int i64 kd, int i64 n, sv [], int i64 0, .slice p.ia p.its.len p.ic, .slice none 0 0] 78); rw [hsz] at this; exact this
theorem RM (s x y : Ls) (ks ls : List Int) (w W : World) (X Y k : Nat) (nn old : Int) (hW : LawW s w W) (hx : Bx x ks X W) (hy : Bx y ls Y W) (h0 : AE x ks = 0) (h1 : AE y ls = 0) (he : ∀ V, Below w.heap.size w V → Env V) (hkx : k < x.phrases.length) (hky : k < y.phrases.length) (hlx : C7 x.itsL (AG x.strip) k = old) (hly : C7 y.itsL (AG y.strip) k = min (nn * old) 4097) (ho : 0 ≤ old ∧ old ≤ 4096) (hn : 1 ≤ nn ∧ nn ≤ 64) (e0 e1 e2 e4 e5 e6 ea eb ec ed ee ef eg eh ei ej ek el em en eo ep eq er es et eu ev ew ex ey ez eA eB eC eD eE eF eG eH eI eJ eK eL eM eN eO eP eQ eR eS eT eU eV eW eX eY eZ aa ab ac ad ae af ag ah ai aj ak al am an ao ap aq ar au av aw ax ay az aA aB aC aD aE aF aG aH aI aJ aK aL aM aN aO aP aQ aR aS aT aU aV aW aX aY aZ ba bb bc bd be bf bg bh bi bj bk bl bm bn bo bp bq br bs bt bu bv bw bx : Value) :
  (Ab 13 Qq).wp Try.prog (bodyPost Try.prog Try.f11 (fun e w' => e = .returned (.bool true) ∧ Below w.heap.size w w')) { tmps := #[e0, e1, e2, .pointer (some ⟨w.heap.size, 0, none⟩), e4, e5, e6, int i64 (k : Nat), int i64 nn, int i64 old, ea, eb, .pointer (some ⟨X, 0, none⟩), .pointer (some ⟨Y, 0, none⟩), ec, ed, ee, ef, eg, eh, ei, ej, ek, el, em, en, eo, ep, eq, er, es, et, eu, ev, ew, ex, ey, ez, eA, eB, eC, eD, eE, eF, eG, eH, eI, eJ, eK, eL, eM, eN, eO, eP, eQ, eR, eS, eT, eU, eV, eW, eX, eY, eZ, aa, ab, ac, ad, ae, af, ag, ah, ai, aj, ak, al, am, an, ao, ap, aq, ar, au, av, aw, ax, ay, az, aA, aB, aC, aD, aE, aF, aG, aH, aI, aJ, aK, aL, aM, aN, aO, aP, aQ, aR, aS, aT, aU, aV, aW, aX, aY, aZ, ba, bb, bc, bd, be, bf, bg, bh, bi, bj, bk, bl, bm, bn, bo, bp, bq, br, bs, bt, bu, bv, bw, bx], defers := [] } W := by
 have C := Fo x ks k W hx.at_ hx.ns (he _ hW.below); have C2 := fun V (hV : Below W.heap.size W V) => Fo y ls k V (hy.next hV).at_ (hy.next hV).ns (he _ (Ag hW.below hV))
 have D := C.mono fun e V h2 => NI.of h0 hkx h2
 have D2 := fun V (hV : Below W.heap.size W V) => (C2 V hV).mono fun e V' h2 => NI.of h1 hky h2
 rw [hlx, if_pos ho.2, if_pos ho.2] at D; rw [hly] at D2; unfold Ls.val at D D2; have hp0 : 0 ≤ nn * old := Int.mul_nonneg (by omega) ho.1; have hp1 : nn * old ≤ 64 * 4096 := Int.mul_le_mul hn.2 ho.2 ho.1 (by omega); have hw : IntKind.i64.wrap (nn * old) = nn * old := IntWalk.i64_in _ (by omega); have HD := qh D; have HD2 := qh D2; have HL := qh hx.box; have HY := qh hy; have HW := qh hW; clear C C2 D D2 hx hy h0 h1 he hW hlx hly hkx hky; rw [Rk]; refine Ac (fun K1 hK1 => ?_); have HK1 := qh hK1; clear hK1
 conv => arg 2; whnf
 go_wp2_with (refine wpList_load_row rfl 30 _ rfl X rfl 30 x.cells (0, 0) _ HL.out Try.underlying30 rfl (by kernel_rfl) ?_; simp only [Act.put, qD, qE, qF]); refine HD.out.mono ?_; rintro e V ⟨rfl, hv⟩; have HV := qh hv; have HL2 := qh (HY.out.next hv).box; clear HD HL hv; go_wp2_with fail; refine HK1.out _ _ ?_; clear HK1 K1; rw [Rl]; refine Ac (fun K1 hK1 => ?_); have HK1 := qh hK1; clear hK1
 conv => arg 2; whnf
 by_cases h4 : nn * old ≤ 4096
 ·have HD3 := qh (HD2.out _ HV.out)
  rw [show min (nn * old) 4097 = nn * old by omega, if_pos h4, if_pos h4] at HD3; clear HD2
  go_wp2_with (refine wpList_load_row rfl 30 _ rfl Y rfl 30 y.cells (0, 0) _ HL2.out Try.underlying30 rfl (by kernel_rfl) ?_; simp only [Act.put, qD, qE, qF]); refine HD3.out.mono ?_; rintro e V2 ⟨rfl, hv⟩; have HV2 := qh (Ag HV.out hv); clear HD3 HL2 hv; go_wp2_with fail; refine HK1.out _ _ ?_; clear HK1 K1; rw [QH]; refine Ac (fun K1 hK1 => ?_); have HK1 := qh hK1; clear hK1
  conv => arg 2; whnf
  go_wp2_with fail; refine HK1.out _ _ ?_; clear HK1 K1; rw [QI]; refine Ac (fun K1 hK1 => ?_); have HK1 := qh hK1; clear hK1
  conv => arg 2; whnf
  go_wp2_with fail; refine HK1.out _ _ ?_; clear HK1 K1
  conv => arg 2; whnf
  go_wp2_with fail; go_ret; exact ⟨rfl, (HW.out.next HV2.out).below⟩
 ·have HD3 := qh (HD2.out _ HV.out)
  rw [show min (nn * old) 4097 = 4097 by omega, if_neg (by omega), if_neg (by omega)] at HD3; have h5 : (4096 : Int) < nn * old := by omega
  clear HD2
  go_wp2_with (refine wpList_load_row rfl 30 _ rfl Y rfl 30 y.cells (0, 0) _ HL2.out Try.underlying30 rfl (by kernel_rfl) ?_; simp only [Act.put, qD, qE, qF]); refine HD3.out.mono ?_; rintro e V2 ⟨rfl, hv⟩; have HV2 := qh (Ag HV.out hv); clear HD3 HL2 hv; go_wp2_with fail; refine HK1.out _ _ ?_; clear HK1 K1; rw [QH]; refine Ac (fun K1 hK1 => ?_); have HK1 := qh hK1; clear hK1
  conv => arg 2; whnf
  go_wp2_with fail; refine HK1.out _ _ ?_; clear HK1 K1; rw [QI]; refine Ac (fun K1 hK1 => ?_); clear hK1
  conv => arg 2; whnf
  go_wp2_with fail
  try simp only [Exit.then]
  go_ret; exact ⟨rfl, (HW.out.next HV2.out).below⟩
theorem RX (s : Ls) (ns : List Int) (p : Ph) (w W : World) (k : Nat) (nn old : Int) (h : LawIn s ns w) (hW : LawW s w W) (h0 : AE s ns = 0) (hp : s.phrases[k]? = some p) (hs : p.its.strip.shal 1 = true) (hf : ∀ p ∈ s.phrases, p.its.size ≤ 60) (hl : s.phrases.length ≤ 12) (hold : C7 s.itsL (AG s.strip) k = old) (ho : 0 ≤ old ∧ old ≤ 4096) (hn : 1 ≤ nn ∧ nn ≤ 64) (e0 e1 e2 e4 e5 e6 ea eb ec ed ee ef eg eh ei ej ek el em en eo ep eq er es et eu ev ew ex ey eA eB eC eD eE eF eG eH eI eJ eK eL eM eN eO eP eQ eR eS eT eU eV eW eX eY eZ aa ab ac ae af ag ah ai aj ak al am an ao ap aq ar au av aw ax ay az aA aB aC aD aE aF aG aH aI aJ aK aL aM aN aO aP aQ aR aS aT aU aV aW aX aY aZ ba bb bc bd be bf bg bh bi bj bk bl bm bn bo bp bq br bs bt bu bv bw bx bz bA bB : Value) :
  (Ab 7 Qq).wp Try.prog (bodyPost Try.prog Try.f11 (fun e w' => e = .returned (.bool true) ∧ Below w.heap.size w w')) { tmps := #[e0, e1, e2, .pointer (some ⟨w.heap.size, 0, none⟩), e4, e5, e6, int i64 (k : Nat), int i64 nn, int i64 old, ea, .slice p.ia p.its.len p.ic, eb, ec, ed, ee, ef, eg, eh, ei, ej, ek, el, em, en, eo, ep, eq, er, es, et, eu, ev, ew, ex, ey, eA, eB, eC, eD, eE, eF, eG, eH, eI, eJ, eK, eL, eM, eN, eO, eP, eQ, eR, eS, eT, eU, eV, eW, eX, eY, eZ, aa, ab, ac, ae, af, ag, ah, ai, aj, ak, al, am, an, ao, ap, aq, ar, au, av, aw, ax, ay, az, aA, aB, aC, aD, aE, aF, aG, aH, aI, aJ, aK, aL, aM, aN, aO, aP, aQ, aR, aS, aT, aU, aV, aW, aX, aY, aZ, ba, bb, bc, bd, be, bf, bg, bh, bi, bj, bk, bl, bm, bn, bo, bp, bq, br, bs, bt, bu, bv, bw, bx, bz, bA, bB], defers := [] } W := by
 obtain ⟨n, hnl⟩ : ∃ n, s.phrases.length = n := ⟨_, rfl⟩; have hkl := (ql.1 hp).1; rw [hnl] at hkl hl; have hAW := h.at_.below hW.below; have hby := Qd (Dw h0).1 (h.ns.below hW.below); have hfa := hAW.pform.resolve_left (fun e => by rw [e] at hp; cases hp); have hrow : ∀ j u, (s.phrases.flatMap Dp)[j]? = some u → W.cell? ⟨blk s.fa, off s.fa + j, none⟩ = some u := (Fq.1 hAW.phrases).1; have h10 : s.cells[10]? = some (.slice (some ⟨blk s.fa, off s.fa, none⟩) n s.fc) := by rw [← hfa, ← hnl]; rfl
 have hAs : w.heap.size < W.heap.size := (qs.1 hW.box).1; rw [RE]; refine Ac (fun K1 hK1 => ?_); refine wp_mono ?_ By; refine RN s w.heap.size W hW.box _ _ _ _ _ _ _ _ _ _ _ _ _ _ _ _ _ _ _ _ _ _ _ _ _ _ _ _ _ _ _ _ _ _ _ _ _ _ _ _ _ _ _ _ _ _ _ _ _ _ _ _ _ _ _ _ _ _ _ _ _ _ _ _ _ _ _ _ _ _ _ _ _ _ _ _ _ _ _ _ _ _ _ _ _ _ _ _ _ _ _ _ _ _ _ _ _ _ _ _ _ _ _ _ _ _ _ _ _ _ _ _ _ _ _ _ _ _ _ _ _ _ _ _ _ _ _ _ _ _ _ _ _ _ _ _ _ K1 ?_; intro X Y W1 hXY hX hY b1 b2 hb1 f74 f75; refine hK1 _ _ ?_; clear hK1 K1; have hA1 := Am hb1 hW.box; have hX1 : X < W1.heap.size := (qs.1 b1).1; have hY1 : Y < W1.heap.size := (qs.1 b2).1; rw [RF]; refine Ac (fun K1 hK1 => ?_); refine wp_mono ?_ By; refine RO w.heap.size X n s.fc (some ⟨blk s.fa, off s.fa, none⟩) s.cells s.cells _ (s.phrases.flatMap Dp) W1 hA1 h10 b1 h10 (by rw [Ll Qu, hnl]) (by omega) (fun e => by cases e) (fun ad e j u hj => by cases e; rw [AX]; exact Ae hb1 (hrow j u hj)) (QD _) _ _ _ _ _ _ _ _ _ _ _ _ _ _ _ _ _ _ _ _ _ _ _ _ _ _ _ _ _ _ _ _ _ _ _ _ _ _ _ _ _ _ _ _ _ _ _ _ _ _ _ _ _ _ _ _ _ _ _ _ _ _ _ _ _ _ _ _ _ _ _ _ _ _ _ _ _ _ _ _ _ _ _ _ _ _ _ _ _ _ _ _ _ _ _ _ _ _ _ _ _ _ _ _ _ _ _ _ _ _ _ _ _ _ _ _ _ _ _ _ _ _ _ _ _ _ _ _ _ _ _ _ _ _ _ _ K1 ?_; intro g c1 W2 hg hgf hv bX2 hb2 f76 f77 f78 f79 f80; refine hK1 _ _ ?_; clear hK1 K1; have hA2 := hb2.blocks hA1 (by omega); have b2' := hb2.blocks b2 (fun e => hXY e.symm); have hb2w : Below W.heap.size W W2 := hb1.trans (hb2.below hX hb1.size); have hgl := hgf.lt; have hrv : RowV Dp W2 g s.phrases := hv; have c10 : (s.cells.setIfInBounds 10 (.slice (some ⟨g, 0, none⟩) n c1))[10]? = some (.slice (some ⟨g, 0, none⟩) n c1) := rfl; rw [RG]; refine Ac (fun K1 hK1 => ?_); refine wp_mono ?_ By; refine RP X g n c1 k p.its.len p.ic nn p.ia _ _ W2 bX2 c10 hgf (hrv.get Qu (r := 1) hp rfl) hkl (by omega) _ _ _ _ _ _ _ _ _ _ _ _ _ _ _ _ _ _ _ _ _ _ _ _ _ _ _ _ _ _ _ _ _ _ _ _ _ _ _ _ _ _ _ _ _ _ _ _ _ _ _ _ _ _ _ _ _ _ _ _ _ _ _ _ _ _ _ _ _ _ _ _ _ _ _ _ _ _ _ _ _ _ _ _ _ _ _ _ _ _ _ _ _ _ _ _ _ _ _ _ _ _ _ _ _ _ _ _ _ _ _ _ _ _ _ _ _ _ _ _ _ _ _ _ _ _ _ _ _ _ _ _ _ _ K1 ?_; intro f81 f82 f83 f84 f85 f86 f87 f88; refine hK1 _ _ ?_; clear hK1 K1; obtain ⟨W3, hW3, hb3, hv3, hbx3⟩ := QS (kd := 3) (n := 0) hrv hp hgl; rw [hW3]; have hXg : X ≠ g := by omega
 have hX2 : X < W2.heap.size := Nat.lt_of_lt_of_le hX1 hb2.size; have hY2 : Y < W2.heap.size := Nat.lt_of_lt_of_le hY1 hb2.size; have hgw : W.heap.size ≤ g := by have := hb1.size; omega
 have hb3w : Below W.heap.size W W3 := hb2w.trans (hb3.below hgw hb2w.size); have hA3 := hb3.blocks hA2 (by omega); have bX3 := hb3.blocks bX2 hXg; have bY3 := hb3.blocks b2' (by omega); have hW2s : W2.heap.size < W3.heap.size := (qs.1 hbx3).1; rw [Rh]; refine Ac (fun K1 hK1 => ?_); refine wp_mono ?_ By; refine RQ w.heap.size Y n s.fc (some ⟨blk s.fa, off s.fa, none⟩) s.cells s.cells _ (s.phrases.flatMap Dp) W3 hA3 h10 bY3 h10 (by rw [Ll Qu, hnl]) (by omega) (fun e => by cases e) (fun ad e j u hj => by cases e; rw [AX]; exact Ae hb3w (hrow j u hj)) (QD _) _ _ _ _ _ _ _ _ _ _ _ _ _ _ _ _ _ _ _ _ _ _ _ _ _ _ _ _ _ _ _ _ _ _ _ _ _ _ _ _ _ _ _ _ _ _ _ _ _ _ _ _ _ _ _ _ _ _ _ _ _ _ _ _ _ _ _ _ _ _ _ _ _ _ _ _ _ _ _ _ _ _ _ _ _ _ _ _ _ _ _ _ _ _ _ _ _ _ _ _ _ _ _ _ _ _ _ _ _ _ _ _ _ _ _ _ _ _ _ _ _ _ _ _ _ _ _ _ _ _ _ _ _ _ _ _ K1 ?_; intro g2 c2 W4 hg2 hg2f hv4 bY4 hb4 f89 f90 f91 f92 f93; refine hK1 _ _ ?_; clear hK1 K1; have hA4 := hb4.blocks hA3 (by omega); have bX4 := hb4.blocks bX3 hXY; have hb4w : Below W.heap.size W W4 := hb3w.trans (hb4.below hY hb3w.size); have hg2l := hg2f.lt; have hrv4 : RowV Dp W4 g2 s.phrases := hv4; have d10 : (s.cells.setIfInBounds 10 (.slice (some ⟨g2, 0, none⟩) n c2))[10]? = some (.slice (some ⟨g2, 0, none⟩) n c2) := rfl; have hX3 : X < W3.heap.size := Nat.lt_of_lt_of_le hX2 hb3.size; have hY3 : Y < W3.heap.size := Nat.lt_of_lt_of_le hY2 hb3.size; have hg3 : g < W3.heap.size := Nat.lt_of_lt_of_le hgl hb3.size; rw [Ri]; refine Ac (fun K1 hK1 => ?_); refine wp_mono ?_ By; refine RR Y g2 n c2 k p.its.len p.ic nn p.ia _ _ W4 bY4 d10 hg2f (hrv4.get Qu (r := 1) hp rfl) hkl (by omega) _ _ _ _ _ _ _ _ _ _ _ _ _ _ _ _ _ _ _ _ _ _ _ _ _ _ _ _ _ _ _ _ _ _ _ _ _ _ _ _ _ _ _ _ _ _ _ _ _ _ _ _ _ _ _ _ _ _ _ _ _ _ _ _ _ _ _ _ _ _ _ _ _ _ _ _ _ _ _ _ _ _ _ _ _ _ _ _ _ _ _ _ _ _ _ _ _ _ _ _ _ _ _ _ _ _ _ _ _ _ _ _ _ _ _ _ _ _ _ _ _ _ _ _ _ _ _ _ _ _ _ _ _ _ K1 ?_; intro f94 f95 f96 f97 f98 f99 f100 f101 f102; refine hK1 _ _ ?_; clear hK1 K1; obtain ⟨W5, hW5, hb5, hv5, hbx5⟩ := QS (kd := 2) (n := nn) hrv4 hp hg2l; rw [hW5]; have hb5w : Below W.heap.size W W5 := hb4w.trans (hb5.below (by omega) hb4w.size); have hA5 := hb5.blocks hA4 (by omega); have bX5 := hb5.blocks bX4 (by omega); have bY5 := hb5.blocks bY4 (by omega); have hX4 : X < W4.heap.size := Nat.lt_of_lt_of_le hX3 hb4.size; have hY4 : Y < W4.heap.size := Nat.lt_of_lt_of_le hY3 hb4.size; have hg4 : g < W4.heap.size := Nat.lt_of_lt_of_le hg3 hb4.size; have hv3' : RowV Dp W5 g (s.phrases.set k (p.wrap 3 0 W2.heap.size)) := fun j u hj => hb5.cellk (by omega) (hb4.cellk (by omega) (hv3 j u hj))
 have hbx3' := hb5.blocks (hb4.blocks hbx3 (by omega)) (by omega); have e11 := Aa bY5 11 (show ((s.cells.setIfInBounds 10 (.slice (some ⟨g2, 0, none⟩) n c2)))[11]? = some (.slice s.da s.dances.length s.dc) from rfl); have ez := (show FreeB W5 Y from ⟨_, _, bY5⟩).free 11
 -- the boxes behind the last store
 have hb6 : Below w.heap.size w (W5.setCell ⟨Y, 11, none⟩ (.slice none 0 0)) := (hW.below.trans (hb5w.mono hW.below.size)).setCell (p := ⟨Y, 11, none⟩) (by show w.heap.size ≤ Y; omega) _; have hA6 := h.at_.below hb6; have hN6 : NumsBy s.num (W5.setCell ⟨Y, 11, none⟩ (.slice none 0 0)) s.refs := (Qd (Dw h0).1 h.ns).below hb6; have hne1 : g ≠ Y := by omega
 have hne2 : g2 ≠ Y := by omega
 have R1 : RowV Dp (W5.setCell ⟨Y, 11, none⟩ (.slice none 0 0)) g (s.phrases.set k (p.wrap 3 0 W2.heap.size)) := fun j u hj => Ad (hv3' j u hj) (Av (Or.inl (Ne.symm hne1)))
 have R2 : RowV Dp (W5.setCell ⟨Y, 11, none⟩ (.slice none 0 0)) g2 (s.phrases.set k (p.wrap 2 nn W4.heap.size)) := fun j u hj => Ad (hv5 j u hj) (Av (Or.inl (Ne.symm hne2)))
 have Q1 := (Below.heap_setCell W5 ⟨Y, 11, none⟩ (.slice none 0 0) W2.heap.size (show W2.heap.size ≠ Y by omega)).trans hbx3'; have Q2 := (Below.heap_setCell W5 ⟨Y, 11, none⟩ (.slice none 0 0) W4.heap.size (show W4.heap.size ≠ Y by omega)).trans hbx5; have QX := (Below.heap_setCell W5 ⟨Y, 11, none⟩ (.slice none 0 0) X (show X ≠ Y by omega)).trans bX5; have QA := (Below.heap_setCell W5 ⟨Y, 11, none⟩ (.slice none 0 0) w.heap.size (show w.heap.size ≠ Y by omega)).trans hA5; have QY := PZ bY5 11 (.slice none 0 0); rw [← hnl] at QX QY; have B1 := (RJ hp (by omega) QX hA6 hN6 R1 Q1).1
 have B2 := Rx (c := c2) (X := Y) (g := g2) (k := k) (p := p) (kd := 2) (n := nn) (b := W4.heap.size) QY hA6 (by
  obtain ⟨w1, w2⟩ := QZ (kd := 2) (n := nn) hp (by omega) hA6 hN6 Q2; refine ⟨Fq.2 ⟨fun j u hj => by rw [Nat.zero_add]; exact R2 j u hj, fun q hq => ?_⟩, fun x hx => ?_⟩
  ·rcases List.mem_or_eq_of_mem_set hq with h8 | rfl
   ·obtain ⟨i, hi⟩ := List.getElem?_of_mem h8
    exact CQ hA6.phrases hi
   ·exact w1
  ·obtain ⟨q, hq, hx⟩ := QG hx
   rcases List.mem_or_eq_of_mem_set hq with h8 | rfl
   ·obtain ⟨i, hi⟩ := List.getElem?_of_mem h8
    exact OZ hN6 x (CR hi hx)
   ·exact w2 x hx)
 obtain ⟨s1, s2⟩ := QN h0 hp hs hf (by rw [hnl]; exact hl) g c1 W2.heap.size; obtain ⟨t1, t2⟩ := QO h0 hp hs hf (by rw [hnl]; exact hl) hn g2 c2 W4.heap.size
 have LW : LawW s w (W5.setCell ⟨Y, 11, none⟩ (.slice none 0 0)) := ⟨hb6, QA⟩; have E13 := RM s _ _ _ _ w _ X Y k nn old LW B1 B2 s1 t1 h.env (by show k < (s.phrases.set k _).length; rw [List.length_set, hnl]; exact hkl) (by show k < (s.phrases.set k _).length; rw [List.length_set, hnl]; exact hkl) (by rw [s2]; exact hold) (by rw [t2, hold]) ho hn; have HE := qh E13; clear E13 LW s1 s2 t1 t2 B1 B2 QX QY QA Q1 Q2 R1 R2 hA6 hN6 hb6 hv3' hbx3' hv5 hbx5 bX5 hA5 hb5w hb5 hrv4 hv4 bX4 hA4 hb4w hb4 hbx3 hv3 bX3 bY3 hA3 hb3w hb3 hrv hv hb2w hb2 b2' hA2 bX2 hA1 b1 b2 hb1 hrow h10 hfa hby hAW hW h h0 hp hs hf hold bY4 d10 c10 hgf hg2f hW3 hW5; rw [Rj]; refine Ac (fun K1 hK1 => ?_); have HK1 := qh hK1; clear hK1
 conv => arg 2; whnf
 go_wp2_with fail; refine HK1.out _ _ ?_; exact HE.out _ _ _ _ _ _ _ _ _ _ _ _ _ _ _ _ _ _ _ _ _ _ _ _ _ _ _ _ _ _ _ _ _ _ _ _ _ _ _ _ _ _ _ _ _ _ _ _ _ _ _ _ _ _ _ _ _ _ _ _ _ _ _ _ _ _ _ _ _ _ _ _ _ _ _ _ _ _ _ _ _ _ _ _ _ _ _ _ _ _ _ _ _ _ _ _ _ _ _ _ _ _ _ _ _ _ _ _ _ _ _ _ _ _ _ _ _ _ _ _ _ _ _ _ _ _ _ _ _ _ _ _
theorem RH (s : Ls) (ns : List Int) (w : World) (n1 n2 : Nat) (h : LawIn s ns w) (hn1 : n1 < 256) (hn2 : n2 < 256) : Calls Try.prog 11 #[s.val, .int .u8 (n1 : Nat), .int .u8 (n2 : Nat)] w (fun e w' => e = .returned (.bool true) ∧ Below w.heap.size w w') := by
 refine Ry s ns w n1 n2 h fun W e0 e4 e5 e6 e7 e8 e9 e10 e11 e12 e13 e14 e15 e16 e17 e18 e19 e20 e21 e22 e23 e24 e25 e26 e27 e28 e29 e30 e31 e32 e33 e34 e35 e36 e37 e38 e39 e40 e41 e42 e43 e44 e45 e46 e47 e48 e49 e50 e51 e52 e53 e54 e55 e56 e57 e58 e59 e60 e61 e62 e63 e64 e65 e66 e67 e68 e69 e70 e71 e72 e73 e74 e75 e76 e77 e78 e79 e80 e81 e82 e83 e84 e85 e86 e87 e88 e89 e90 e91 e92 e93 e94 e95 e96 e97 e98 e99 e100 e101 e102 e103 e104 e105 e106 e107 e108 e109 e110 e111 e112 e113 e114 e115 e116 e117 e118 e119 e120 e121 e122 e123 e124 e125 e126 e127 e128 e129 e130 e131 e132 e133 e134 e135 e136 e137 hW h0 hf hp0 => ?_
 obtain ⟨n, hn⟩ : ∃ n, s.phrases.length = n := ⟨_, rfl⟩; rw [hn] at hp0; obtain ⟨k, hk⟩ : ∃ k, n1 % n = k := ⟨_, rfl⟩; obtain ⟨m, hm⟩ : ∃ m, n2 % 64 = m := ⟨_, rfl⟩; have hmod : (n1 : Int).tmod (n : Int) = (k : Int) := by rw [← hk]; exact Int.ofNat_tmod n1 n
 have hmod2 : (n2 : Int).tmod 64 = (m : Int) := by rw [← hm]; exact Int.ofNat_tmod n2 64
 have hkl : k < n := by rw [← hk]; exact Nat.mod_lt _ (by omega)
 have hml : m < 64 := by rw [← hm]; exact Nat.mod_lt _ (by omega)
 have hmz : ¬ (n : Int) = 0 := by omega
 have hmz2 : ¬ n = 0 := by omega
 have hwa : IntKind.i64.wrap (n1 : Int) = (n1 : Int) := IntWalk.i64_in _ (by omega); have hwb : IntKind.i64.wrap (n2 : Int) = (n2 : Int) := IntWalk.i64_in _ (by omega); have hwc : IntKind.i64.wrap (1 + (m : Int)) = 1 + (m : Int) := IntWalk.i64_in _ (by omega); have y10 : W.cell? ⟨w.heap.size, 10, none⟩ = some (.slice s.fa n s.fc) := by rw [← hn]; exact Aa hW.box 10 rfl
 obtain ⟨p, hp⟩ : ∃ p, s.phrases[k]? = some p := ⟨_, qg (by rw [hn]; exact hkl)⟩; have C := (Fo s ns k W (h.at_.below hW.below) (h.ns.below hW.below) (h.env _ hW.below)).mono fun e V h2 => NI.of h0 (by rw [hn]; exact hkl) h2
 obtain ⟨lb0, lb1⟩ := (Kr h0).bound k (by rw [hn]; exact hkl); obtain ⟨old, hold⟩ : ∃ old, C7 s.itsL (AG s.strip) k = old := ⟨_, rfl⟩; rw [hold] at C lb0 lb1; unfold Ls.val at C; have HC := qh C; have HH := qh h; have HW := qh hW; have H0 := qh h0; have HF := qh hf; have HP := qh hp; have HO := qh hold; have HL := qh hW.box; have HN := qh hn; have hnn : 1 ≤ 1 + (m : Int) ∧ 1 + (m : Int) ≤ 64 := by omega
 obtain ⟨nn, hnnq⟩ : ∃ nn : Int, 1 + (m : Int) = nn := ⟨_, rfl⟩; rw [hnnq] at hwc hnn; have HNN := qh hnn; clear C h hW h0 hf hp hold hn hk hm hnn; rw [RB]; refine Ac (fun K hK => ?_); have HK := qh hK; clear hK
 conv => arg 2; whnf
 go_wp2_with fail; refine HK.out _ _ ?_; clear HK K hmod hmod2 hwa hwb hwc hnnq; rw [RC]; refine Ac (fun K hK => ?_); have HK := qh hK; clear hK
 conv => arg 2; whnf
 by_cases h4 : old ≤ 4096
 ·rw [if_pos h4, if_pos h4] at HC
  go_wp2_with (refine wpList_load_row rfl 30 _ rfl w.heap.size rfl 30 s.cells (0, 0) _ HL.out Try.underlying30 rfl (by kernel_rfl) ?_; simp only [Act.put, qD, qE, qF]); refine HC.out.mono ?_; rintro e V ⟨rfl, hv⟩; have HV := qh (HW.out.next hv); have y10' := Ae hv y10; clear HC HL hv y10; go_wp2_with fail; refine HK.out _ _ ?_; clear HK K; have hAV := HH.out.at_.below HV.out.below; obtain ⟨c0, c1⟩ := CO hAV.phrases HP.out; have hfa := hAV.pform.resolve_left (fun e => by have := HP.out; rw [e] at this; cases this); obtain ⟨i1, i2, i3⟩ := CQ hAV.phrases HP.out; have C : Calls Try.prog 32 #[.slice p.ia p.its.len p.ic, int i64 1] V (fun e w' => e = .returned (.bool (p.its.strip.shal 1)) ∧ Below V.heap.size V w') := RI (AG s.strip) _ p.its (qn _) p.ia p.ic 1 V (by omega) i1 i2 i3 (fun x hx => Je (Dw H0.out).1 (HH.out.ns.below HV.out.below) x (CR HP.out hx)); obtain ⟨b, hb⟩ : ∃ b, p.its.strip.shal 1 = b := ⟨_, rfl⟩; rw [hb] at C; have HC := qh C; have HB := qh hb; unfold Ph.val at c1; have hki : (k : Int) < (n : Int) := by omega
  generalize hga : s.fa = fa at *; have HGA := qh hga; clear hga; generalize hbb : blk fa = fb at *; generalize hoo : off fa = fo at *; subst hfa; clear hbb hoo C hb i1 i2 i3 hAV c0; rw [QW]; refine Ac (fun K hK => ?_); have HK := qh hK; clear hK
  conv => arg 2; whnf
  cases b with
  | false =>
   go_wp2_with (go_at_call 32; refine HC.out.mono ?_; rintro e V2 ⟨rfl, hv2⟩; have HV2 := qh (HV.out.next hv2); clear hv2)
   try simp only [Exit.then]
   go_ret; exact ⟨rfl, HV2.out.below⟩
  | true =>
   go_wp2_with (go_at_call 32; refine HC.out.mono ?_; rintro e V2 ⟨rfl, hv2⟩; have HV2 := qh (HV.out.next hv2); have c2 := Ae hv2 c1; have y11 := Ae hv2 y10'; clear hv2); refine HK.out _ _ ?_; clear HK K; rw [RD]; refine Ac (fun K hK => ?_); have HK := qh hK; clear hK
   conv => arg 2; whnf
   go_wp2_with fail; refine HK.out _ _ ?_; exact RX s ns p w V2 k nn old HH.out HV2.out H0.out HP.out HB.out HF.out.2.2.2 HF.out.1 HO.out ⟨lb0, h4⟩ HNN.out _ _ _ _ _ _ _ _ _ _ _ _ _ _ _ _ _ _ _ _ _ _ _ _ _ _ _ _ _ _ _ _ _ _ _ _ _ _ _ _ _ _ _ _ _ _ _ _ _ _ _ _ _ _ _ _ _ _ _ _ _ _ _ _ _ _ _ _ _ _ _ _ _ _ _ _ _ _ _ _ _ _ _ _ _ _ _ _ _ _ _ _ _ _ _ _ _ _ _ _ _ _ _ _ _ _ _ _ _ _ _ _ _ _ _ _ _ _ _ _ _ _ _ _ _ _ _ _ _ _ _ _ _
 ·rw [if_neg h4, if_neg h4] at HC
  go_wp2_with (refine wpList_load_row rfl 30 _ rfl w.heap.size rfl 30 s.cells (0, 0) _ HL.out Try.underlying30 rfl (by kernel_rfl) ?_; simp only [Act.put, qD, qE, qF]); refine HC.out.mono ?_; rintro e V ⟨rfl, hv⟩; have HV := qh (HW.out.next hv); clear HC HL hv y10; go_wp2_with fail; refine HK.out _ _ ?_; clear HK K; rw [QW]; refine Ac (fun K hK => ?_); have HK := qh hK; clear hK
  conv => arg 2; whnf
  go_wp2_with fail
  try simp only [Exit.then]
  go_ret; exact ⟨rfl, HV.out.below⟩
end
end Go.Proofs.Ytpnbpepkoekkoaa
