/- The walk of the statement: part 2. -/
import Derived.Test.YtpnbpepkoekkoaaYRPDp1
import Derived.Laws.CopyOwn
import Derived.Laws.Tables
import Derived.OrdersHeld
import Derived.Deep.RegionHeld
import Derived.BigQuiet
import Derived.BigCall
import Derived.BigGuard
import Derived.Test.YtpnbpepkoekkoaaZ3
set_option linter.unusedVariables false
set_option linter.unusedSimpArgs false
set_option maxRecDepth 100000
set_option maxHeartbeats 16000000
namespace Go.Proofs.Ytpnbpepkoekkoaa
open Go.Value (int)
open Go.IntKind (i64)
section
open Go Go.RowKit Go.Deep
theorem QB (s : Ls) : s.cells.all (·.oneCell') = true := by
 unfold Ls.cells; simp [Value.oneCell']
end
section
open Go Go.RowKit Go.Deep
def Rh (c X : Code) : Code := match c with
 | .seq r7 (.block b (.seq r13 (.cond t1 a1 (.seq r15 (.cond t2 a2 (.seq r17 (.cond t3 a3 (.seq r19 (.cond t4 a4 (.seq r21 (.cond t5 a5 _))))))))))) => .seq r7 (.block b (.seq r13 (.cond t1 a1 (.seq r15 (.cond t2 a2 (.seq r17 (.cond t3 a3 (.seq r19 (.cond t4 a4 (.seq r21 (.cond t5 a5 X)))))))))))
 | c => c
def Rg (c : Code) : Code := match c with
 | .seq _ (.block _ (.seq _ (.cond _ _ (.seq _ (.cond _ _ (.seq _ (.cond _ _ (.seq _ (.cond _ _ (.seq _ (.cond _ _ x))))))))))) => x
 | c => c
noncomputable def codeF : Code := Rg Qt
theorem QA : Qt = Rh Qt codeF := rfl
theorem QD : codeF = .seq (Qo codeF) (Qp codeF) := rfl
theorem QE : Qp codeF = .seq (Qo (Qp codeF)) (Qp (Qp codeF)) := rfl
theorem QF : Qp (Qp codeF) = .seq (Qo (Qp (Qp codeF))) (Qp (Qp (Qp codeF))) := rfl
theorem QX {Q : Exit → Act → World → Prop} : ∀ e a w, Exit.then (fun a w => Q .normal a w) (fun _ _ _ => False) e a w → Q e a w
 | .normal, _, _, h => h
 | .ret, _, _, h => h.elim
 | .panic _, _, _, h => h.elim
 | .outgrown, _, _, h => h.elim
 | .exit _, _, _, h => h.elim
 | .goto _, _, _, h => h.elim
theorem QY (s x : Ls) (ks : List Int) (X : Nat) (w W : World) (hW : LawW s w W) (hx : Bx x ks X W) (h0 : AE x ks = 180) (he : Env W) (e0 e1 e2 e4 e5 e6 e8 e9 ea eb ec ed ee ef eg eh ei ej ek el em en eo ep eq er es et eu ev ew ex ey ez eA eB eC eD eE eF eG eH eI eJ eK eL eM eN eO eP eQ eR eS eT eU eV eW eX eY eZ aa ab ac ad ae af ag ah ai aj ak al am an ao ap aq ar au av aw ax ay az aA aB aC aD aE aF aG aH aI : Value) :
  (Ab 6 Qq).wp Try.prog (bodyPost Try.prog Try.f12 (fun e w' => e = .returned (.bool true) ∧ Below w.heap.size w w')) { tmps := #[e0, e1, e2, .pointer (some ⟨w.heap.size, 0, none⟩), e4, e5, e6, .pointer (some ⟨X, 0, none⟩), e8, e9, ea, eb, ec, ed, ee, ef, eg, eh, ei, ej, ek, el, em, en, eo, ep, eq, er, es, et, eu, ev, ew, ex, ey, ez, eA, eB, eC, eD, eE, eF, eG, eH, eI, eJ, eK, eL, eM, eN, eO, eP, eQ, eR, eS, eT, eU, eV, eW, eX, eY, eZ, aa, ab, ac, ad, ae, af, ag, ah, ai, aj, ak, al, am, an, ao, ap, aq, ar, au, av, aw, ax, ay, az, aA, aB, aC, aD, aE, aF, aG, aH, aI], defers := [] } W := by
 have C := Ck x ks W hx.at_ hx.ns he; unfold DD at C; rw [h0] at C; unfold Ls.val at C; have HC := qh C; have HL := qh hx.box; have HW := qh hW; clear C hx hW h0 he
 conv => arg 2; whnf
 go_wp2_with (refine wpList_load_row rfl 30 _ rfl X rfl 30 x.cells (0, 0) _ HL.out Try.underlying30 rfl (by kernel_rfl) ?_; simp only [Act.put, qD, qE, qF]); refine HC.out.mono ?_; rintro e V ⟨rfl, hv⟩; have HV := qh (HW.out.next hv); clear HC HL hv; go_wp2_with fail; go_ret; exact ⟨rfl, HV.out.below⟩
theorem QZ (A X n c : Nat) (ao : Option Addr) (ss cs : Array Value) (v0 : Value) (news : List Value) (W : World) (hA : W.heap[A]? = some (.cells ss 30 (0, 0))) (h11 : ss[6]? = some (.slice ao n c)) (hX : W.heap[X]? = some (.cells cs 30 (0, 0))) (hc0 : cs[6]? = some v0) (hl : news.length = n * 4) (hn : n ≤ 100000) (hno : ao = none → n = 0)
  (hsrc : ∀ ad, ao = some ad → ∀ j u, news[j]? = some u → W.cell? (ad.add j) = some u) (h1 : ∀ u ∈ news, u.oneCell' = true) (e0 e1 e2 e4 e5 e6 e8 e9 ea eb ec ed ee ef eg eh ei ej ek el em en eo ep eq er es et eu ev ew ex ey ez eA eB eC eD eE eF eG eH eI eJ eK eL eM eN eO eP eQ eR eS eT eU eV eW eX eY eZ aa ab ac ae af ag ah ai aj ak al am an ap aq ar au av aw ax ay az aA aB aC aD aE aF aG aH aI aJ aK : Value) (K : Act → World → Prop)
  (hK : ∀ (g c1 : Nat) (W' : World), W.heap.size ≤ g → FreeB W' g → (∀ j u, news[j]? = some u → W'.cell? ⟨g, j, none⟩ = some u) → W'.heap[X]? = some (.cells (cs.setIfInBounds 6 (.slice (some ⟨g, 0, none⟩) n c1)) 30 (0, 0)) → ButOne X W W' → ∀ (aL aM aN aO aP : Value), K { tmps := #[e0, e1, e2, .pointer (some ⟨A, 0, none⟩), e4, e5, e6, .pointer (some ⟨X, 0, none⟩), e8, e9, ea, eb, ec, ed, ee, ef, eg, eh, ei, ej, ek, el, em, en, eo, ep, eq, er, es, et, eu, ev, ew, ex, ey, ez, eA, aL, aM, aN, aO, aP, eG, eH, eI, eJ, eK, eL, eM, eN, eO, eP, eQ, eR, eS, eT, eU, eV, eW, eX, eY, eZ, aa, ab, ac, ae, af, ag, ah, ai, aj, ak, al, am, an, ap, aq, ar, au, av, aw, ax, ay, az, aA, aB, aC, aD, aE, aF, aG, aH, aI, aJ, aK], defers := [] } W') :
  (Qo (Qp codeF)).wp Try.prog (Exit.then K (fun _ _ _ => False)) { tmps := #[e0, e1, e2, .pointer (some ⟨A, 0, none⟩), e4, e5, e6, .pointer (some ⟨X, 0, none⟩), e8, e9, ea, eb, ec, ed, ee, ef, eg, eh, ei, ej, ek, el, em, en, eo, ep, eq, er, es, et, eu, ev, ew, ex, ey, ez, eA, eB, eC, eD, eE, eF, eG, eH, eI, eJ, eK, eL, eM, eN, eO, eP, eQ, eR, eS, eT, eU, eV, eW, eX, eY, eZ, aa, ab, ac, ae, af, ag, ah, ai, aj, ak, al, am, an, ap, aq, ar, au, av, aw, ax, ay, az, aA, aB, aC, aD, aE, aF, aG, aH, aI, aJ, aK], defers := [] } W := by
 obtain ⟨i0, hi85, hz0, hz1, hz2⟩ := info_parts Qg; have I85 := qh (And.intro hi85 (And.intro hz0 (And.intro hz1 hz2))); have hXl : X < W.heap.size := (qs.1 hX).1; have hAl : A < W.heap.size := (qs.1 hA).1; obtain ⟨W2, hW2, bW2, sW2⟩ : ∃ W2, W.alloc (.cells #[] 59) = W2 ∧ Below W.heap.size W W2 ∧ W2.heap.size = W.heap.size + 1 := ⟨_, rfl, (Below.refl _ _).alloc (qn _) _, by simp⟩; have c6 := Aa hA 6 h11; have hEmp : W2.ownsRow W.heap.size 59 4 (.slice (some ⟨W.heap.size, 0, none⟩) 0 0) 0 [] := by rw [← hW2]; exact OV W _ 59 4 (qn _)
 have hsrc2 : ∀ ad, ao = some ad → ∀ j u, news[j]? = some u → W2.cell? (ad.add j) = some u := fun ad ha j u hj => Ae bW2 (hsrc ad ha j u hj)
 have HO := qh hEmp; have HS := qh hsrc2; have HL := qh hl; have HNO := qh hno; have H1 := qh h1; have HW2 := qh hW2; have HSW2 := qh sW2; have HB2 := qh bW2; have HX := qh hX; have HC0 := qh hc0; have HK := qh hK; clear hi85 hz0 hz1 hz2 hK hA hX h11 hc0 hl hno hsrc h1 hW2 bW2 sW2 hEmp hsrc2; unfold codeF Qt Qq
 conv => arg 2; whnf
 go_wp2_with (at_builtin; rw [HW2.out]; refine Jq rfl _ _ 23 rfl W.heap.size 59 i0 _ 4 40 Try.underlying23 I85.out.1 I85.out.2.1 I85.out.2.2.1 I85.out.2.2.2 rfl (by decide) _ 0 [] rfl HO.out ao n c news rfl HL.out HNO.out HS.out H1.out (by unfold maxLen; omega) (by omega) (by rw [HSW2.out]; omega) ?_; intro v5 W5 ho5 hg5 ha5; rw [Nat.zero_add, List.nil_append] at ho5; obtain ⟨g1, c1, rfl, q1, q2, q3⟩ := Qw ho5 (by rcases ha5 with h | h <;> exact ⟨_, h⟩); have hbw : Below W.heap.size W W5 := (HB2.out.grown hg5 (by rw [HSW2.out]; omega) (fun k hk => by cases hk; exact qn _)); have hX3 := Am hbw HX.out; have xq := Aa hX3 6 HC0.out; have xz := (show FreeB W5 X from ⟨_, _, hX3⟩).free 6; have HX3 := qh hX3; have HBW := qh hbw; have HQ := qh (And.intro q1 (And.intro q2 q3)); clear hX3 hbw q1 q2 q3 ho5 hg5 ha5); obtain ⟨q1, q2, q3⟩ := HQ.out; exact HK.out g1 c1 _ q1 (q2.set _ _) (fun j u hj => Ad (q3 j u hj) (Av (Or.inl (by omega)))) (PZ HX3.out 6 _) ((ButOne.of_below HBW.out).trans (ButOne.setCell (p := ⟨X, 6, none⟩) _)) _ _ _ _ _
theorem R0 (A X n c : Nat) (ao : Option Addr) (ss cs : Array Value) (v0 : Value) (news : List Value) (W : World) (hA : W.heap[A]? = some (.cells ss 30 (0, 0))) (h11 : ss[11]? = some (.slice ao n c)) (hX : W.heap[X]? = some (.cells cs 30 (0, 0))) (hc0 : cs[11]? = some v0) (hl : news.length = n * 6) (hn : n ≤ 100000) (hno : ao = none → n = 0)
  (hsrc : ∀ ad, ao = some ad → ∀ j u, news[j]? = some u → W.cell? (ad.add j) = some u) (h1 : ∀ u ∈ news, u.oneCell' = true) (e0 e1 e2 e4 e5 e6 e8 e9 ea eb ec ed ee ef eg eh ei ej ek el em en eo ep eq er es et eu ev ew ex ey ez eA eB eC eD eE eF eG eH eI eJ eK eL eM eN eO eP eQ eR eS eT eU eV eW eX eY eZ aa ab ac ae af ag ah ai aj ak al am an ap aq ar au av aw ax ay az aA aB aC aD aE aF aG aH aI aJ aK : Value) (K : Act → World → Prop)
  (hK : ∀ (g c1 : Nat) (W' : World), W.heap.size ≤ g → FreeB W' g → (∀ j u, news[j]? = some u → W'.cell? ⟨g, j, none⟩ = some u) → W'.heap[X]? = some (.cells (cs.setIfInBounds 11 (.slice (some ⟨g, 0, none⟩) n c1)) 30 (0, 0)) → ButOne X W W' → ∀ (aL aM aN aO aP : Value), K { tmps := #[e0, e1, e2, .pointer (some ⟨A, 0, none⟩), e4, e5, e6, .pointer (some ⟨X, 0, none⟩), e8, e9, ea, eb, ec, ed, ee, ef, eg, eh, ei, ej, ek, el, em, en, eo, ep, eq, er, es, et, eu, ev, ew, ex, ey, ez, eA, eB, eC, eD, eE, eF, aL, aM, aN, aO, aP, eL, eM, eN, eO, eP, eQ, eR, eS, eT, eU, eV, eW, eX, eY, eZ, aa, ab, ac, ae, af, ag, ah, ai, aj, ak, al, am, an, ap, aq, ar, au, av, aw, ax, ay, az, aA, aB, aC, aD, aE, aF, aG, aH, aI, aJ, aK], defers := [] } W') :
  (Qo (Qp (Qp codeF))).wp Try.prog (Exit.then K (fun _ _ _ => False)) { tmps := #[e0, e1, e2, .pointer (some ⟨A, 0, none⟩), e4, e5, e6, .pointer (some ⟨X, 0, none⟩), e8, e9, ea, eb, ec, ed, ee, ef, eg, eh, ei, ej, ek, el, em, en, eo, ep, eq, er, es, et, eu, ev, ew, ex, ey, ez, eA, eB, eC, eD, eE, eF, eG, eH, eI, eJ, eK, eL, eM, eN, eO, eP, eQ, eR, eS, eT, eU, eV, eW, eX, eY, eZ, aa, ab, ac, ae, af, ag, ah, ai, aj, ak, al, am, an, ap, aq, ar, au, av, aw, ax, ay, az, aA, aB, aC, aD, aE, aF, aG, aH, aI, aJ, aK], defers := [] } W := by
 obtain ⟨i0, hi85, hz0, hz1, hz2⟩ := info_parts Od; have I85 := qh (And.intro hi85 (And.intro hz0 (And.intro hz1 hz2))); have hXl : X < W.heap.size := (qs.1 hX).1; have hAl : A < W.heap.size := (qs.1 hA).1; obtain ⟨W2, hW2, bW2, sW2⟩ : ∃ W2, W.alloc (.cells #[] 73) = W2 ∧ Below W.heap.size W W2 ∧ W2.heap.size = W.heap.size + 1 := ⟨_, rfl, (Below.refl _ _).alloc (qn _) _, by simp⟩; have c6 := Aa hA 11 h11; have hEmp : W2.ownsRow W.heap.size 73 6 (.slice (some ⟨W.heap.size, 0, none⟩) 0 0) 0 [] := by rw [← hW2]; exact OV W _ 73 6 (qn _)
 have hsrc2 : ∀ ad, ao = some ad → ∀ j u, news[j]? = some u → W2.cell? (ad.add j) = some u := fun ad ha j u hj => Ae bW2 (hsrc ad ha j u hj)
 have HO := qh hEmp; have HS := qh hsrc2; have HL := qh hl; have HNO := qh hno; have H1 := qh h1; have HW2 := qh hW2; have HSW2 := qh sW2; have HB2 := qh bW2; have HX := qh hX; have HC0 := qh hc0; have HK := qh hK; clear hi85 hz0 hz1 hz2 hK hA hX h11 hc0 hl hno hsrc h1 hW2 bW2 sW2 hEmp hsrc2; unfold codeF Qt Qq
 conv => arg 2; whnf
 go_wp2_with (at_builtin; rw [HW2.out]; refine Jq rfl _ _ 28 rfl W.heap.size 73 i0 _ 6 64 Try.underlying28 I85.out.1 I85.out.2.1 I85.out.2.2.1 I85.out.2.2.2 rfl (by decide) _ 0 [] rfl HO.out ao n c news rfl HL.out HNO.out HS.out H1.out (by unfold maxLen; omega) (by omega) (by rw [HSW2.out]; omega) ?_; intro v5 W5 ho5 hg5 ha5; rw [Nat.zero_add, List.nil_append] at ho5; obtain ⟨g1, c1, rfl, q1, q2, q3⟩ := Qw ho5 (by rcases ha5 with h | h <;> exact ⟨_, h⟩); have hbw : Below W.heap.size W W5 := (HB2.out.grown hg5 (by rw [HSW2.out]; omega) (fun k hk => by cases hk; exact qn _)); have hX3 := Am hbw HX.out; have xq := Aa hX3 11 HC0.out; have xz := (show FreeB W5 X from ⟨_, _, hX3⟩).free 11; have HX3 := qh hX3; have HBW := qh hbw; have HQ := qh (And.intro q1 (And.intro q2 q3)); clear hX3 hbw q1 q2 q3 ho5 hg5 ha5); obtain ⟨q1, q2, q3⟩ := HQ.out; exact HK.out g1 c1 _ q1 (q2.set _ _) (fun j u hj => Ad (q3 j u hj) (Av (Or.inl (by omega)))) (PZ HX3.out 11 _) ((ButOne.of_below HBW.out).trans (ButOne.setCell (p := ⟨X, 11, none⟩) _)) _ _ _ _ _
theorem R1 (X n1 nr nd cr cd g1 g2 : Nat) (far u : Int) (a : Addr) (cs : Array Value) (W : World) (hX : W.heap[X]? = some (.cells cs 30 (0, 0))) (h6 : cs[6]? = some (.slice (some ⟨g1, 0, none⟩) nr cr)) (h11 : cs[11]? = some (.slice (some ⟨g2, 0, none⟩) nd cd)) (hr : 0 < nr) (hd : 0 < nd) (hn1 : n1 < 256) (hr2 : nr ≤ 100000) (hd2 : nd ≤ 100000)
  (ha : (n1 % 4 = 0 ∧ a = ⟨g1, 1, none⟩) ∨ (n1 % 4 = 1 ∧ a = ⟨g1, 2, none⟩) ∨ (n1 % 4 = 2 ∧ a = ⟨g1, 3, none⟩) ∨ (n1 % 4 = 3 ∧ a = ⟨g2, 4, none⟩)) (hu : W.cell? a = some (int i64 u)) (hz : FreeB W a.block) (hne : a.block ≠ X) (e0 e2 e3 e4 e5 e6 e9 ea eb ec ed ee ef eg eh ei ej ek el em en eo ep eq er es et eu ev ew ex ey ez eA eB eC eD eE eF eG eH eI eJ eK eL eM eN eO eP eQ eR eS eT eU eV eW eX eY eZ aa ab ac ad ae af ag ah ai aj ak al am an ao ap aq ar au av aw ax ay az aA aB aC aD aE aF aG aH aI : Value) (K : Act → World → Prop)
  (hK : ∀ (V : World), Below W.heap.size W V → ∀ (aJ aK aL aM aN aO aP aQ aR aS aT aU aV aW aX aY aZ ba bb bc bd be bf : Value), K { tmps := #[e0, .int .u8 (n1 : Nat), e2, e3, e4, e5, e6, .pointer (some ⟨X, 0, none⟩), int i64 far, e9, ea, eb, ec, ed, ee, ef, eg, eh, ei, ej, ek, el, em, en, eo, ep, eq, er, es, et, eu, ev, ew, ex, ey, ez, eA, eB, eC, eD, eE, eF, eG, eH, eI, eJ, eK, aJ, aK, aL, aM, aN, aO, aP, aQ, aR, aS, aT, aU, aV, aW, aX, aY, aZ, ba, bb, bc, bd, be, bf, ai, aj, ak, al, am, an, ao, ap, aq, ar, au, av, aw, ax, ay, az, aA, aB, aC, aD, aE, aF, aG, aH, aI], defers := [] } (V.setCell a (int i64 far))) :
  (Qp (Qp (Qp codeF))).wp Try.prog (Exit.then K (fun _ _ _ => False)) { tmps := #[e0, .int .u8 (n1 : Nat), e2, e3, e4, e5, e6, .pointer (some ⟨X, 0, none⟩), int i64 far, e9, ea, eb, ec, ed, ee, ef, eg, eh, ei, ej, ek, el, em, en, eo, ep, eq, er, es, et, eu, ev, ew, ex, ey, ez, eA, eB, eC, eD, eE, eF, eG, eH, eI, eJ, eK, eL, eM, eN, eO, eP, eQ, eR, eS, eT, eU, eV, eW, eX, eY, eZ, aa, ab, ac, ad, ae, af, ag, ah, ai, aj, ak, al, am, an, ao, ap, aq, ar, au, av, aw, ax, ay, az, aA, aB, aC, aD, aE, aF, aG, aH, aI], defers := [] } W := by
 have c6 : W.drew.cell? ⟨X, 6, none⟩ = some (.slice (some ⟨g1, 0, none⟩) nr cr) := Aa hX 6 h6; have c11 : W.drew.cell? ⟨X, 11, none⟩ = some (.slice (some ⟨g2, 0, none⟩) nd cd) := Aa hX 11 h11; have cS := And.intro c6 c11; have hr0 : (0 : Int) < (nr : Int) := by omega
 have hd0 : (0 : Int) < (nd : Int) := by omega
 obtain ⟨W1, hW1, b1, k0, k1, k2, k3, z1⟩ : ∃ W1, W.drew.alloc (.cells #[.pointer (some ⟨g1, 1, none⟩), .pointer (some ⟨g1, 2, none⟩), .pointer (some ⟨g1, 3, none⟩), .pointer (some ⟨g2, 4, none⟩)] 79) = W1 ∧ Below W.heap.size W W1 ∧ W1.cell? ⟨W.drew.heap.size, 0, none⟩ = some (.pointer (some ⟨g1, 1, none⟩)) ∧ W1.cell? ⟨W.drew.heap.size, 1, none⟩ = some (.pointer (some ⟨g1, 2, none⟩)) ∧ W1.cell? ⟨W.drew.heap.size, 2, none⟩ = some (.pointer (some ⟨g1, 3, none⟩)) ∧ W1.cell? ⟨W.drew.heap.size, 3, none⟩ = some (.pointer (some ⟨g2, 4, none⟩)) ∧ W.heap.size < W1.heap.size := by
  refine ⟨_, rfl, ((Below.refl _ W).drew).alloc (qn _) _, Aa (heap_alloc_new _ _) 0 rfl, Aa (heap_alloc_new _ _) 1 rfl, Aa (heap_alloc_new _ _) 2 rfl, Aa (heap_alloc_new _ _) 3 rfl, ?_⟩; simp
 have hbd : Below W.drew.heap.size W.drew W1 := by rw [← hW1]; exact (Below.refl _ _).alloc (qn _) _
 have HW1 := qh hW1; have HK := qh hK; have HB1 := qh b1; have HU := qh (Ae b1 hu); have HZ := qh ((hz.below b1).free a.off); have HSP := qh (World.cell?_spot hu); have cS1 : W1.cell? ⟨X, 6, none⟩ = some (.slice (some ⟨g1, 0, none⟩) nr cr) ∧ W1.cell? ⟨X, 11, none⟩ = some (.slice (some ⟨g2, 0, none⟩) nd cd) := ⟨Ae hbd c6, Ae hbd c11⟩; have hAL := qh (fun v => And.intro (Ad (a := a) (v := v) cS1.1 (fun e => hne (by rw [e]))) (Ad (a := a) (v := v) cS1.2 (fun e => hne (by rw [e])))); obtain ⟨m, hm⟩ : ∃ m, n1 % 4 = m := ⟨_, rfl⟩; have hmod : (n1 : Int).tmod 4 = (m : Int) := by rw [← hm]; exact Int.ofNat_tmod n1 4
 rw [hm] at ha; clear hK hX h6 h11 hW1 b1 hbd hu hz hne hm; unfold codeF Qt Qq
 conv => arg 2; whnf
 refine wp_region_held (S := fun V => V.cell? ⟨X, 6, none⟩ = some (.slice (some ⟨g1, 0, none⟩) nr cr) ∧ V.cell? ⟨X, 11, none⟩ = some (.slice (some ⟨g2, 0, none⟩) nd cd)) (by kernel_rfl) ?_; change wpAnyH _ _ _ _ _ _ _ _ W.drew; generalize W.drew = Wd at *; refine tq 0 _ (.pointer (some ⟨X, 6, none⟩)) rfl (by kernel_rfl) (fun _ _ _ h => h) (Or.inl ⟨by kernel_rfl, fun V hb => by go_simp⟩) cS ?_
 try simp only [Act.put, qA, qB, qC, qD, qE, qF]
 refine tq 1 _ (.slice (some ⟨g1, 0, none⟩) nr cr) rfl (by kernel_rfl) (fun _ _ _ h => h) (Or.inl ⟨by kernel_rfl, fun V hb => by have q0 := hb.1; go_simp⟩) cS ?_
 try simp only [Act.put, qA, qB, qC, qD, qE, qF]
 refine tq 2 _ (.pointer (some ⟨g1, 0, none⟩)) rfl (by kernel_rfl) (fun _ _ _ h => h) (Or.inl ⟨by kernel_rfl, fun V hb => by have q0 := hr0; go_simp⟩) cS ?_
 try simp only [Act.put, qA, qB, qC, qD, qE, qF]
 refine tq 3 _ (.pointer (some ⟨g1, 1, none⟩)) rfl (by kernel_rfl) (fun _ _ _ h => h) (Or.inl ⟨by kernel_rfl, fun V hb => by go_simp⟩) cS ?_
 try simp only [Act.put, qA, qB, qC, qD, qE, qF]
 refine tq 4 _ (.pointer (some ⟨X, 6, none⟩)) rfl (by kernel_rfl) (fun _ _ _ h => h) (Or.inl ⟨by kernel_rfl, fun V hb => by go_simp⟩) cS ?_
 try simp only [Act.put, qA, qB, qC, qD, qE, qF]
 refine tq 5 _ (.slice (some ⟨g1, 0, none⟩) nr cr) rfl (by kernel_rfl) (fun _ _ _ h => h) (Or.inl ⟨by kernel_rfl, fun V hb => by have q0 := hb.1; go_simp⟩) cS ?_
 try simp only [Act.put, qA, qB, qC, qD, qE, qF]
 refine tq 6 _ (.pointer (some ⟨g1, 0, none⟩)) rfl (by kernel_rfl) (fun _ _ _ h => h) (Or.inl ⟨by kernel_rfl, fun V hb => by have q0 := hr0; go_simp⟩) cS ?_
 try simp only [Act.put, qA, qB, qC, qD, qE, qF]
 refine tq 7 _ (.pointer (some ⟨g1, 2, none⟩)) rfl (by kernel_rfl) (fun _ _ _ h => h) (Or.inl ⟨by kernel_rfl, fun V hb => by go_simp⟩) cS ?_
 try simp only [Act.put, qA, qB, qC, qD, qE, qF]
 refine tq 8 _ (.pointer (some ⟨X, 6, none⟩)) rfl (by kernel_rfl) (fun _ _ _ h => h) (Or.inl ⟨by kernel_rfl, fun V hb => by go_simp⟩) cS ?_
 try simp only [Act.put, qA, qB, qC, qD, qE, qF]
 refine tq 9 _ (.slice (some ⟨g1, 0, none⟩) nr cr) rfl (by kernel_rfl) (fun _ _ _ h => h) (Or.inl ⟨by kernel_rfl, fun V hb => by have q0 := hb.1; go_simp⟩) cS ?_
 try simp only [Act.put, qA, qB, qC, qD, qE, qF]
 refine tq 10 _ (.pointer (some ⟨g1, 0, none⟩)) rfl (by kernel_rfl) (fun _ _ _ h => h) (Or.inl ⟨by kernel_rfl, fun V hb => by have q0 := hr0; go_simp⟩) cS ?_
 try simp only [Act.put, qA, qB, qC, qD, qE, qF]
 refine tq 11 _ (.pointer (some ⟨g1, 3, none⟩)) rfl (by kernel_rfl) (fun _ _ _ h => h) (Or.inl ⟨by kernel_rfl, fun V hb => by go_simp⟩) cS ?_
 try simp only [Act.put, qA, qB, qC, qD, qE, qF]
 refine tq 12 _ (.pointer (some ⟨X, 11, none⟩)) rfl (by kernel_rfl) (fun _ _ _ h => h) (Or.inl ⟨by kernel_rfl, fun V hb => by go_simp⟩) cS ?_
 try simp only [Act.put, qA, qB, qC, qD, qE, qF]
 refine tq 13 _ (.slice (some ⟨g2, 0, none⟩) nd cd) rfl (by kernel_rfl) (fun _ _ _ h => h) (Or.inl ⟨by kernel_rfl, fun V hb => by have q0 := hb.2; go_simp⟩) cS ?_
 try simp only [Act.put, qA, qB, qC, qD, qE, qF]
 refine tq 14 _ (.pointer (some ⟨g2, 0, none⟩)) rfl (by kernel_rfl) (fun _ _ _ h => h) (Or.inl ⟨by kernel_rfl, fun V hb => by have q0 := hd0; go_simp⟩) cS ?_
 try simp only [Act.put, qA, qB, qC, qD, qE, qF]
 refine tq 15 _ (.pointer (some ⟨g2, 4, none⟩)) rfl (by kernel_rfl) (fun _ _ _ h => h) (Or.inl ⟨by kernel_rfl, fun V hb => by go_simp⟩) cS ?_
 try simp only [Act.put, qA, qB, qC, qD, qE, qF]
 refine tq 17 _ (.int .u8 (n1 : Nat)) rfl (by kernel_rfl) (fun _ _ _ h => h) (Or.inl ⟨by kernel_rfl, fun V hb => by go_simp⟩) cS ?_
 try simp only [Act.put, qA, qB, qC, qD, qE, qF]
 refine tq 18 _ (.int .u8 (m : Nat)) rfl (by kernel_rfl) (fun _ _ _ h => h) (Or.inl ⟨by kernel_rfl, fun V hb => by have q0 := hmod; go_simp⟩) cS ?_
 try simp only [Act.put, qA, qB, qC, qD, qE, qF]
 refine tq 21 _ (int i64 far) rfl (by kernel_rfl) (fun _ _ _ h => h) (Or.inl ⟨by kernel_rfl, fun V hb => by go_simp⟩) cS ?_
 try simp only [Act.put, qA, qB, qC, qD, qE, qF]
 refine tr 16 _ (by kernel_rfl) rfl fun K1 hK => ?_
 go_simp; rw [HW1.out]; refine hK.out _ _ cS1 (fun _ => ?_); clear hK K1
 try simp only [Act.put, qA, qB, qC, qD, qE, qF]
 rcases ha with ⟨rfl, rfl⟩ | ⟨rfl, rfl⟩ | ⟨rfl, rfl⟩ | ⟨rfl, rfl⟩
 all_goals
  refine tr 19 _ (by kernel_rfl) rfl fun K1 hK => ?_
  go_simp; refine hK.out _ _ cS1 (fun _ => ?_); clear hK K1
  try simp only [Act.put, qA, qB, qC, qD, qE, qF]
  refine tr 20 _ (by kernel_rfl) rfl fun K1 hK => ?_
  go_simp; refine hK.out _ _ cS1 (fun _ => ?_); clear hK K1
  try simp only [Act.put, qA, qB, qC, qD, qE, qF]
  refine tr 22 _ (by kernel_rfl) rfl fun K1 hK => ?_
  go_simp; refine hK.out _ _ cS1 (fun _ => ?_); clear hK K1
  try simp only [Act.put, qA, qB, qC, qD, qE, qF]
  refine tr 23 _ (by kernel_rfl) rfl fun K1 hK => ?_
  have hu1 := HU.out; have hz1 := HZ.out; go_simp; refine hK.out _ _ (hAL.out _) (fun _ => ?_); clear hK K1; refine wpAnyH_done (by kernel_rfl) ?_ _; exact HK.out _ HB1.out _ _ _ _ _ _ _ _ _ _ _ _ _ _ _ _ _ _ _ _ _ _ _
end
section
open Go Go.RowKit Go.Deep
end
section
open Go Go.RowKit Go.Deep
theorem QQ {s : Ls} {ns : List Int} (h : AE s ns = 0) : s.dances.length ≤ 256 ∧ s.pauses.length ≤ 4096 ∧ s.spans.length ≤ 256 ∧ s.roles.length ≤ 64 ∧ s.phrases.length ≤ 64 := by
 obtain ⟨hl, _⟩ := Dh (Dw h).1; unfold Sc.lims Sc.fit at hl; simp only [Bool.and_eq_true, decide_eq_true_eq] at hl; obtain ⟨⟨h1, _, h3, h4, h5, h6⟩, _⟩ := hl; simp only [Ls.strip, List.length_map] at h1 h3 h4 h5 h6; exact ⟨h6, h3, h4, h1, h5⟩
theorem QN (g : Nat × Nm → Int) (xs : List Dan) : ∀ u ∈ xs.flatMap (JE g), u.oneCell' = true := by
 intro u hu; obtain ⟨x, _, h⟩ := List.mem_flatMap.1 hu; simp only [JE, List.mem_cons, List.mem_nil_iff, or_false] at h; rcases h with rfl | rfl | rfl | rfl | rfl | rfl <;> rfl
theorem R2 {gn : Nat × Nm → Int} {W : World} {g i : Nat} {ds : List Dan} {d : Dan} (h : RowV (JE gn) W g ds) (hd : ds[i]? = some d) (m : Int) : RowV (JE gn) (W.setCell ⟨g, i * 6 + 4, none⟩ (int i64 m)) g (ds.set i { d with bar := m }) := by
 have hi := (ql.1 hd).1; have hg := fun r u hr => h.get (Pf gn) (r := r) (u := u) hd hr
 refine h.set (Pf gn) hi (fun r u hr => ?_) (fun q v hq hc => Ad hc (Av (Or.inr (by omega)))); by_cases h4 : r = 4
 ·subst h4
  cases hr; exact World.cell?_setCell_same _ _ _ (hg 4 _ rfl)
 ·refine Ad (hg r u ?_) (Av (Or.inr (by omega)))
  match r, h4, hr with
  | 0, _, hr => exact hr
  | 1, _, hr => exact hr
  | 2, _, hr => exact hr
  | 3, _, hr => exact hr
  | 5, _, hr => exact hr
  | r + 6, _, hr => simp [JE] at hr
end
section
open Go Go.RowKit Go.Deep
theorem Qz (s : Ls) (g c : Nat) (rs : List Rol) (g2 c2 : Nat) (ds : List Dan) : (s.withRD g c rs g2 c2 ds).cells = (s.cells.setIfInBounds 6 (.slice (some ⟨g, 0, none⟩) rs.length c)).setIfInBounds 11 (.slice (some ⟨g2, 0, none⟩) ds.length c2) := rfl
theorem Qu {s : Ls} {W : World} {X g c g2 c2 : Nat} {rs : List Rol} {ds : List Dan} (hb : W.heap[X]? = some (.cells ((s.cells.setIfInBounds 6 (.slice (some ⟨g, 0, none⟩) rs.length c)).setIfInBounds 11 (.slice (some ⟨g2, 0, none⟩) ds.length c2)) 30 (0, 0))) (hA : s.At W) (hN : NumsBy s.num W s.refs) (hl : rs.length ≤ maxLen) (hl2 : ds.length ≤ maxLen) (hg : g < W.heap.size) (hv : RowV FO W g rs) (hv2 : RowV (JE s.num) W g2 ds) : Bx (s.withRD g c rs g2 c2 ds) (s.nsRD rs ds) X W := by
 obtain ⟨h1, h2⟩ := Ri (c := c) (c2 := c2) hA hN hl hl2 hg hv hv2; exact ⟨by rw [Qz]; exact hb, h1, h2⟩
theorem Rj (s : Ls) (ns : List Int) (w W : World) (X n1 : Nat) (far : Int) (h : LawIn s ns w) (hW : LawW s w W) (h0 : AE s ns = 0) (hX : W.heap[X]? = some (.cells s.cells 30 (0, 0))) (hwX : w.heap.size < X) (hf : Po far) (hn1 : n1 < 256) (Q : Exit → Act → World → Prop)
  (hN : ∀ (x : Ls) (ks : List Int) (V : World), Bx x ks X V → AE x ks = 180 → LawW s w V → ∀ (e0 e2 e4 e5 e6 e9 ea eb ec ed ee ef eg eh ei ej ek el em en eo ep eq er es et eu ev ew ex ey ez eA eB eC eD eE eF eG eH eI eJ eK eL eM eN eO eP eQ eR eS eT eU eV eW eX eY eZ aa ab ac ae af ag ah ai aj ak al am an ao ap aq ar au av aw ax ay az aA aB aC aD aE aF aG aH aI aJ : Value), Q .normal { tmps := #[e0, .int .u8 (n1 : Nat), e2, .pointer (some ⟨w.heap.size, 0, none⟩), e4, e5, e6, .pointer (some ⟨X, 0, none⟩), int i64 far, e9, ea, eb, ec, ed, ee, ef, eg, eh, ei, ej, ek, el, em, en, eo, ep, eq, er, es, et, eu, ev, ew, ex, ey, ez, eA, eB, eC, eD, eE, eF, eG, eH, eI, eJ, eK, eL, eM, eN, eO, eP, eQ, eR, eS, eT, eU, eV, eW, eX, eY, eZ, aa, ab, ac, ae, af, ag, ah, ai, aj, ak, al, am, an, ao, ap, aq, ar, au, av, aw, ax, ay, az, aA, aB, aC, aD, aE, aF, aG, aH, aI, aJ], defers := [] } V) (hR : ∀ (V : World), LawW s w V → ∀ (e0 e1 e2 e3 e4 e5 e7 e8 e9 ea eb ec ed ee ef eg eh ei ej ek el em en eo ep eq er es et eu ev ew ex ey ez eA eB eC eD eE eF eG eH eI eJ eK eL eM eN eO eP eQ eR eS eT eU eV eW eX eY eZ aa ab ac ae af ag ah ai aj ak al am an ao ap aq ar au av aw ax ay az aA aB aC aD aE aF aG aH aI aJ : Value), Q .ret { tmps := #[e0, e1, e2, e3, e4, e5, .bool true, e7, e8, e9, ea, eb, ec, ed, ee, ef, eg, eh, ei, ej, ek, el, em, en, eo, ep, eq, er, es, et, eu, ev, ew, ex, ey, ez, eA, eB, eC, eD, eE, eF, eG, eH, eI, eJ, eK, eL, eM, eN, eO, eP, eQ, eR, eS, eT, eU, eV, eW, eX, eY, eZ, aa, ab, ac, ae, af, ag, ah, ai, aj, ak, al, am, an, ao, ap, aq, ar, au, av, aw, ax, ay, az, aA, aB, aC, aD, aE, aF, aG, aH, aI, aJ], defers := [] } V) (e0 e2 e4 e5 e6 e9 ea eb ec ed ee ef eg eh ei ej ek el em en eo ep eq er es et eu ev ew ex ey ez eA eB eC eD eE eF eG eH eI eJ eK eL eM eN eO eP eQ eR eS eT eU eV eW eX eY eZ aa ab ac ae af ag ah ai aj ak al am an ao ap aq ar au av aw ax ay az aA aB aC aD aE aF aG aH aI aJ : Value) :
  codeF.wp Try.prog Q { tmps := #[e0, .int .u8 (n1 : Nat), e2, .pointer (some ⟨w.heap.size, 0, none⟩), e4, e5, e6, .pointer (some ⟨X, 0, none⟩), int i64 far, e9, ea, eb, ec, ed, ee, ef, eg, eh, ei, ej, ek, el, em, en, eo, ep, eq, er, es, et, eu, ev, ew, ex, ey, ez, eA, eB, eC, eD, eE, eF, eG, eH, eI, eJ, eK, eL, eM, eN, eO, eP, eQ, eR, eS, eT, eU, eV, eW, eX, eY, eZ, aa, ab, ac, ae, af, ag, ah, ai, aj, ak, al, am, an, ao, ap, aq, ar, au, av, aw, ax, ay, az, aA, aB, aC, aD, aE, aF, aG, aH, aI, aJ], defers := [] } W := by
 have y6 : W.cell? ⟨w.heap.size, 6, none⟩ = some (.slice s.ra s.roles.length s.rc) := Aa hW.box 6 rfl; have y11 : W.cell? ⟨w.heap.size, 11, none⟩ = some (.slice s.da s.dances.length s.dc) := Aa hW.box 11 rfl; have HR := qh hR; have HN := qh hN; have HH := qh h; have HW := qh hW; have H0 := qh h0; have HX := qh hX; have HF := qh hf; have hfew := QQ h0; obtain ⟨nr, hnr⟩ : ∃ nr, s.roles.length = nr := ⟨_, rfl⟩; obtain ⟨nd, hnd⟩ : ∃ nd, s.dances.length = nd := ⟨_, rfl⟩; rw [hnr] at y6 hfew; rw [hnd] at y11 hfew; obtain ⟨f1, _, _, f4, _⟩ := hfew; have HNR := qh hnr; have HND := qh hnd; clear hR hN h hW h0 hX hf hnr hnd; rw [QD]; refine Ac (fun K hK => ?_); have HK := qh hK; clear hK; by_cases hr : nr = 0
 ·subst hr
  conv => arg 2; whnf
  go_wp2_with fail
  try simp only [Exit.then]
  exact HR.out _ HW.out _ _ _ _ _ _ _ _ _ _ _ _ _ _ _ _ _ _ _ _ _ _ _ _ _ _ _ _ _ _ _ _ _ _ _ _ _ _ _ _ _ _ _ _ _ _ _ _ _ _ _ _ _ _ _ _ _ _ _ _ _ _ _ _ _ _ _ _ _ _ _ _ _ _ _ _ _ _ _ _ _ _ _ _ _ _ _ _ _ _ _ _ _ _
 ·by_cases hd : nd = 0
  ·subst hd
   have hr1 : ¬ (nr : Int) = 0 := by omega
   have hr2 : ((nr : Int) == 0) = false := by simpa using hr1
   conv => arg 2; whnf
   go_wp2_with fail
   try simp only [Exit.then]
   exact HR.out _ HW.out _ _ _ _ _ _ _ _ _ _ _ _ _ _ _ _ _ _ _ _ _ _ _ _ _ _ _ _ _ _ _ _ _ _ _ _ _ _ _ _ _ _ _ _ _ _ _ _ _ _ _ _ _ _ _ _ _ _ _ _ _ _ _ _ _ _ _ _ _ _ _ _ _ _ _ _ _ _ _ _ _ _ _ _ _ _ _ _ _ _ _ _ _ _
  ·have hr1 : ¬ (nr : Int) = 0 := by omega
   have hd1 : ¬ (nd : Int) = 0 := by omega
   have hr2 : ((nr : Int) == 0) = false := by simpa using hr1
   have hd2 : ((nd : Int) == 0) = false := by simpa using hd1
   conv => arg 2; whnf
   go_wp2_with fail; refine HK.out _ _ ?_; clear HK K y6 y11 hr1 hd1 hr2 hd2; have hW := HW.out; have h := HH.out; have hX := HX.out; have hnr := HNR.out; have hnd := HND.out; have hAW := h.at_.below hW.below; have hby := Qd (Dw H0.out).1 (h.ns.below hW.below); obtain ⟨r, hro⟩ : ∃ r, s.roles[0]? = some r := ⟨_, qg (by rw [hnr]; omega)⟩; obtain ⟨d, hda⟩ : ∃ d, s.dances[0]? = some d := ⟨_, qg (by rw [hnd]; omega)⟩; obtain ⟨b, o, hao, hat, _⟩ := hAW.roles.block hro; have hrow := (Fy Le).1 hat; have hdf := hAW.dform.resolve_left (fun e => by rw [e] at hda; cases hda); have hdrow := KU hAW.dances (Qc hby); have h6 : s.cells[6]? = some (.slice (some ⟨b, o, none⟩) nr s.rc) := by rw [← hao, ← hnr]; rfl
   have h11 : s.cells[11]? = some (.slice (some ⟨blk s.da, off s.da, none⟩) nd s.dc) := by rw [← hdf, ← hnd]; rfl
   have hXl : X < W.heap.size := (qs.1 hX).1; rw [QE]; refine Ac (fun K1 hK1 => ?_); refine wp_mono ?_ By; refine QZ w.heap.size X nr s.rc (some ⟨b, o, none⟩) s.cells s.cells _ (s.roles.flatMap FO) W hW.box h6 hX h6 (by rw [Ll Le, hnr]) (by omega) (fun e => by cases e) (fun ad e j u hj => by cases e; rw [AX]; exact hrow j u hj) (Pg _) _ _ _ _ _ _ _ _ _ _ _ _ _ _ _ _ _ _ _ _ _ _ _ _ _ _ _ _ _ _ _ _ _ _ _ _ _ _ _ _ _ _ _ _ _ _ _ _ _ _ _ _ _ _ _ _ _ _ _ _ _ _ _ _ _ _ _ _ _ _ _ _ _ _ _ _ _ _ _ _ _ _ _ _ _ _ _ _ _ _ _ _ _ K1 ?_; intro g1 c1 W1 hg1 hf1 hv1 bX1 hb1 p0 p1 p2 p3 p4; refine hK1 _ _ ?_; clear hK1 K1; have hA1 := hb1.blocks hW.box (by omega); have hb1w : Below w.heap.size w W1 := hW.below.trans (hb1.below (by omega) hW.below.size); have hX1l : X < W1.heap.size := Nat.lt_of_lt_of_le hXl hb1.size
   have hdlt : ∀ j u, (s.dances.flatMap (JE s.num))[j]? = some u → W1.cell? ⟨blk s.da, off s.da + j, none⟩ = some u := fun j u hj => by
    have hw0 := KU h.at_.dances (Qc (Qd (Dw H0.out).1 h.ns)) j u hj; exact Ae hb1w hw0
   rw [QF]; refine Ac (fun K1 hK1 => ?_); refine wp_mono ?_ By; have h11' : (s.cells.setIfInBounds 6 (.slice (some ⟨g1, 0, none⟩) nr c1))[11]? = some (.slice (some ⟨blk s.da, off s.da, none⟩) nd s.dc) := h11; refine R0 w.heap.size X nd s.dc (some ⟨blk s.da, off s.da, none⟩) s.cells (s.cells.setIfInBounds 6 (.slice (some ⟨g1, 0, none⟩) nr c1)) _ (s.dances.flatMap (JE s.num)) W1 hA1 h11 bX1 h11' (by rw [Ll (Pf _), hnd]) (by omega) (fun e => by cases e) (fun ad e j u hj => by cases e; rw [AX]; exact hdlt j u hj) (QN _ _) _ _ _ _ _ _ _ _ _ _ _ _ _ _ _ _ _ _ _ _ _ _ _ _ _ _ _ _ _ _ _ _ _ _ _ _ _ _ _ _ _ _ _ _ _ _ _ _ _ _ _ _ _ _ _ _ _ _ _ _ _ _ _ _ _ _ _ _ _ _ _ _ _ _ _ _ _ _ _ _ _ _ _ _ _ _ _ _ _ _ _ _ _ K1 ?_; intro g2 c2 W2 hg2 hf2 hv2 bX2 hb2 p5 p6 p7 p8 p9; refine hK1 _ _ ?_; clear hK1 K1; have hg1l := hf1.lt; have hg2l := hf2.lt; have hb2w : Below w.heap.size w W2 := hb1w.trans (hb2.below (by omega) hb1w.size); have hA2 := hb2.blocks hA1 (by omega); have hv1' : RowV FO W2 g1 s.roles := fun j u hj => hb2.cellk (by omega) (hv1 j u hj)
   have hv2' : RowV (JE s.num) W2 g2 s.dances := hv2; have hf1' : FreeB W2 g1 := hf1.but hb2 (by omega); have hX2l : X < W2.heap.size := Nat.lt_of_lt_of_le hX1l hb2.size; have c6 : ((s.cells.setIfInBounds 6 (.slice (some ⟨g1, 0, none⟩) nr c1)).setIfInBounds 11 (.slice (some ⟨g2, 0, none⟩) nd c2))[6]? = some (.slice (some ⟨g1, 0, none⟩) nr c1) := rfl; have c11 : ((s.cells.setIfInBounds 6 (.slice (some ⟨g1, 0, none⟩) nr c1)).setIfInBounds 11 (.slice (some ⟨g2, 0, none⟩) nd c2))[11]? = some (.slice (some ⟨g2, 0, none⟩) nd c2) := rfl; have hr1 := fun q u (hq : (FO r)[q]? = some u) => hv1'.get Le hro hq
   have hd1 := fun q u (hq : (JE s.num d)[q]? = some u) => hv2'.get (Pf _) hda hq
   obtain ⟨a, u, ha, hu, hz, hne⟩ : ∃ (a : Addr) (u : Int), ((n1 % 4 = 0 ∧ a = ⟨g1, 1, none⟩) ∨ (n1 % 4 = 1 ∧ a = ⟨g1, 2, none⟩) ∨ (n1 % 4 = 2 ∧ a = ⟨g1, 3, none⟩) ∨ (n1 % 4 = 3 ∧ a = ⟨g2, 4, none⟩)) ∧ W2.cell? a = some (int i64 u) ∧ FreeB W2 a.block ∧ a.block ≠ X := by
    rcases (by omega : n1 % 4 = 0 ∨ n1 % 4 = 1 ∨ n1 % 4 = 2 ∨ n1 % 4 = 3) with e | e | e | e
    ·exact ⟨⟨g1, 1, none⟩, r.x, Or.inl ⟨e, rfl⟩, hr1 1 _ rfl, hf1', by show g1 ≠ X; omega⟩
    ·exact ⟨⟨g1, 2, none⟩, r.y, Or.inr (Or.inl ⟨e, rfl⟩), hr1 2 _ rfl, hf1', by show g1 ≠ X; omega⟩
    ·exact ⟨⟨g1, 3, none⟩, r.face, Or.inr (Or.inr (Or.inl ⟨e, rfl⟩)), hr1 3 _ rfl, hf1', by show g1 ≠ X; omega⟩
    ·exact ⟨⟨g2, 4, none⟩, d.bar, Or.inr (Or.inr (Or.inr ⟨e, rfl⟩)), hd1 4 _ rfl, hf2, by show g2 ≠ X; omega⟩
   refine wp_mono ?_ QX; refine R1 X n1 nr nd c1 c2 g1 g2 far u a _ W2 bX2 c6 c11 (by omega) (by omega) hn1 (by omega) (by omega) ha hu hz hne _ _ _ _ _ _ _ _ _ _ _ _ _ _ _ _ _ _ _ _ _ _ _ _ _ _ _ _ _ _ _ _ _ _ _ _ _ _ _ _ _ _ _ _ _ _ _ _ _ _ _ _ _ _ _ _ _ _ _ _ _ _ _ _ _ _ _ _ _ _ _ _ _ _ _ _ _ _ _ _ _ _ _ _ _ _ _ _ _ _ _ _ _ ?_; intro V hV f47 f48 f49 f50 f51 f52 f53 f54 f55 f56 f57 f58 f59 f60 f61 f62 f63 f64 f65 f66 f67 f68 f69; have q6 := Am hV bX2; have hV1 : RowV FO V g1 s.roles := fun j u hj => Ae hV (hv1' j u hj)
   have hV2 : RowV (JE s.num) V g2 s.dances := fun j u hj => Ae hV (hv2' j u hj)
   have hVw : Below w.heap.size w V := Ag hb2w hV; have hsz := hV.size; have hWV := Ag hb2w hV; have hsd := Dw H0.out; have hsw := hsd.2.1; have wd1 := (AY.1 hsw.1).2; have dp1 := (AY.1 hsw.2.1).2; have hws := hb1w.size; have hAw := hW.below.size; have hAl : w.heap.size < W.heap.size := (qs.1 hW.box).1; rcases ha with ⟨_, rfl⟩ | ⟨_, rfl⟩ | ⟨_, rfl⟩ | ⟨_, rfl⟩
   ·have hb : Below w.heap.size w (V.setCell ⟨g1, 1, none⟩ (int i64 far)) := hVw.setCell (p := ⟨g1, 1, none⟩) (show w.heap.size ≤ g1 by omega) _
    have hrw : RowV FO (V.setCell ⟨g1, 1, none⟩ (int i64 far)) g1 (s.roles.set 0 { r with x := far }) := Qy Le (q := 1) hV1 hro rfl (fun r hr => by match r, hr with
     | 0, hr => rfl
     | 1, hr => exact absurd rfl hr
     | 2, hr => rfl
     | 3, hr => rfl
     | _ + 4, hr => rfl)
    have hdw : RowV (JE s.num) (V.setCell ⟨g1, 1, none⟩ (int i64 far)) g2 s.dances := (fun j u hj => Ad (hV2 j u hj) (Av (Or.inl (by omega)))); have hsx : AE (s.withRD g1 c1 (s.roles.set 0 { r with x := far }) g2 c2 s.dances) (s.nsRD (s.roles.set 0 { r with x := far }) s.dances) = 180 := Qv H0.out g1 c1 g2 c2 hro rfl (by unfold BD; rw [show inB ({ r with x := far } : Rol).x 0 s.wd = false from PX HF.out (Int.le_refl _) (by omega)]; simp); have hl1 : (s.roles.set 0 { r with x := far }).length = nr := by simp [hnr]
    have hl2 : s.dances.length = nd := by simp [hnd]
    have hbx : Bx (s.withRD g1 c1 (s.roles.set 0 { r with x := far }) g2 c2 s.dances) (s.nsRD (s.roles.set 0 { r with x := far }) s.dances) X (V.setCell ⟨g1, 1, none⟩ (int i64 far)) :=
     Qu (by rw [hl1, hl2]; exact (Below.heap_setCell _ _ _ _ (show X ≠ g1 by omega)).trans q6) (h.at_.below hb) ((Qd hsd.1 h.ns).below hb) (by rw [hl1]; unfold maxLen; omega) (by rw [hl2]; unfold maxLen; omega) (by simp [World.setCell]; omega) hrw hdw
    exact HN.out _ _ _ hbx hsx ⟨hb, (Below.heap_setCell _ _ _ _ (show w.heap.size ≠ g1 by omega)).trans (Am hV hA2)⟩ _ _ _ _ _ _ _ _ _ _ _ _ _ _ _ _ _ _ _ _ _ _ _ _ _ _ _ _ _ _ _ _ _ _ _ _ _ _ _ _ _ _ _ _ _ _ _ _ _ _ _ _ _ _ _ _ _ _ _ _ _ _ _ _ _ _ _ _ _ _ _ _ _ _ _ _ _ _ _ _ _ _ _ _ _ _ _ _ _ _ _
   ·have hb : Below w.heap.size w (V.setCell ⟨g1, 2, none⟩ (int i64 far)) := hVw.setCell (p := ⟨g1, 2, none⟩) (show w.heap.size ≤ g1 by omega) _
    have hrw : RowV FO (V.setCell ⟨g1, 2, none⟩ (int i64 far)) g1 (s.roles.set 0 { r with y := far }) := Qy Le (q := 2) hV1 hro rfl (fun r hr => by match r, hr with
     | 0, hr => rfl
     | 1, hr => rfl
     | 2, hr => exact absurd rfl hr
     | 3, hr => rfl
     | _ + 4, hr => rfl)
    have hdw : RowV (JE s.num) (V.setCell ⟨g1, 2, none⟩ (int i64 far)) g2 s.dances := (fun j u hj => Ad (hV2 j u hj) (Av (Or.inl (by omega)))); have hsx : AE (s.withRD g1 c1 (s.roles.set 0 { r with y := far }) g2 c2 s.dances) (s.nsRD (s.roles.set 0 { r with y := far }) s.dances) = 180 := Qv H0.out g1 c1 g2 c2 hro rfl (by unfold BD; rw [show inB ({ r with y := far } : Rol).y 0 s.dp = false from PX HF.out (Int.le_refl _) (by omega)]; simp); have hl1 : (s.roles.set 0 { r with y := far }).length = nr := by simp [hnr]
    have hl2 : s.dances.length = nd := by simp [hnd]
    have hbx : Bx (s.withRD g1 c1 (s.roles.set 0 { r with y := far }) g2 c2 s.dances) (s.nsRD (s.roles.set 0 { r with y := far }) s.dances) X (V.setCell ⟨g1, 2, none⟩ (int i64 far)) :=
     Qu (by rw [hl1, hl2]; exact (Below.heap_setCell _ _ _ _ (show X ≠ g1 by omega)).trans q6) (h.at_.below hb) ((Qd hsd.1 h.ns).below hb) (by rw [hl1]; unfold maxLen; omega) (by rw [hl2]; unfold maxLen; omega) (by simp [World.setCell]; omega) hrw hdw
    exact HN.out _ _ _ hbx hsx ⟨hb, (Below.heap_setCell _ _ _ _ (show w.heap.size ≠ g1 by omega)).trans (Am hV hA2)⟩ _ _ _ _ _ _ _ _ _ _ _ _ _ _ _ _ _ _ _ _ _ _ _ _ _ _ _ _ _ _ _ _ _ _ _ _ _ _ _ _ _ _ _ _ _ _ _ _ _ _ _ _ _ _ _ _ _ _ _ _ _ _ _ _ _ _ _ _ _ _ _ _ _ _ _ _ _ _ _ _ _ _ _ _ _ _ _ _ _ _ _
   ·have hb : Below w.heap.size w (V.setCell ⟨g1, 3, none⟩ (int i64 far)) := hVw.setCell (p := ⟨g1, 3, none⟩) (show w.heap.size ≤ g1 by omega) _
    have hrw : RowV FO (V.setCell ⟨g1, 3, none⟩ (int i64 far)) g1 (s.roles.set 0 { r with face := far }) := Qy Le (q := 3) hV1 hro rfl (fun r hr => by match r, hr with
     | 0, hr => rfl
     | 1, hr => rfl
     | 2, hr => rfl
     | 3, hr => exact absurd rfl hr
     | _ + 4, hr => rfl)
    have hdw : RowV (JE s.num) (V.setCell ⟨g1, 3, none⟩ (int i64 far)) g2 s.dances := (fun j u hj => Ad (hV2 j u hj) (Av (Or.inl (by omega)))); have hsx : AE (s.withRD g1 c1 (s.roles.set 0 { r with face := far }) g2 c2 s.dances) (s.nsRD (s.roles.set 0 { r with face := far }) s.dances) = 180 := Qv H0.out g1 c1 g2 c2 hro rfl (by unfold BD; rw [show inB ({ r with face := far } : Rol).face 0 7 = false from PX HF.out (Int.le_refl _) (by omega)]; simp); have hl1 : (s.roles.set 0 { r with face := far }).length = nr := by simp [hnr]
    have hl2 : s.dances.length = nd := by simp [hnd]
    have hbx : Bx (s.withRD g1 c1 (s.roles.set 0 { r with face := far }) g2 c2 s.dances) (s.nsRD (s.roles.set 0 { r with face := far }) s.dances) X (V.setCell ⟨g1, 3, none⟩ (int i64 far)) :=
     Qu (by rw [hl1, hl2]; exact (Below.heap_setCell _ _ _ _ (show X ≠ g1 by omega)).trans q6) (h.at_.below hb) ((Qd hsd.1 h.ns).below hb) (by rw [hl1]; unfold maxLen; omega) (by rw [hl2]; unfold maxLen; omega) (by simp [World.setCell]; omega) hrw hdw
    exact HN.out _ _ _ hbx hsx ⟨hb, (Below.heap_setCell _ _ _ _ (show w.heap.size ≠ g1 by omega)).trans (Am hV hA2)⟩ _ _ _ _ _ _ _ _ _ _ _ _ _ _ _ _ _ _ _ _ _ _ _ _ _ _ _ _ _ _ _ _ _ _ _ _ _ _ _ _ _ _ _ _ _ _ _ _ _ _ _ _ _ _ _ _ _ _ _ _ _ _ _ _ _ _ _ _ _ _ _ _ _ _ _ _ _ _ _ _ _ _ _ _ _ _ _ _ _ _ _
   ·have hb : Below w.heap.size w (V.setCell ⟨g2, 4, none⟩ (int i64 far)) := hVw.setCell (p := ⟨g2, 4, none⟩) (show w.heap.size ≤ g2 by omega) _
    have hrw : RowV FO (V.setCell ⟨g2, 4, none⟩ (int i64 far)) g1 s.roles := (fun j u hj => Ad (hV1 j u hj) (Av (Or.inl (by omega)))); have hdw : RowV (JE s.num) (V.setCell ⟨g2, 4, none⟩ (int i64 far)) g2 (s.dances.set 0 { d with bar := far }) := R2 hV2 hda far; have hsx : AE (s.withRD g1 c1 s.roles g2 c2 (s.dances.set 0 { d with bar := far })) (s.nsRD s.roles (s.dances.set 0 { d with bar := far })) = 180 := QG H0.out g1 c1 g2 c2 hda HF.out; have hl1 : s.roles.length = nr := by simp [hnr]
    have hl2 : (s.dances.set 0 { d with bar := far }).length = nd := by simp [hnd]
    have hbx : Bx (s.withRD g1 c1 s.roles g2 c2 (s.dances.set 0 { d with bar := far })) (s.nsRD s.roles (s.dances.set 0 { d with bar := far })) X (V.setCell ⟨g2, 4, none⟩ (int i64 far)) :=
     Qu (by rw [hl1, hl2]; exact (Below.heap_setCell _ _ _ _ (show X ≠ g2 by omega)).trans q6) (h.at_.below hb) ((Qd hsd.1 h.ns).below hb) (by rw [hl1]; unfold maxLen; omega) (by rw [hl2]; unfold maxLen; omega) (by simp [World.setCell]; omega) hrw hdw
    exact HN.out _ _ _ hbx hsx ⟨hb, (Below.heap_setCell _ _ _ _ (show w.heap.size ≠ g2 by omega)).trans (Am hV hA2)⟩ _ _ _ _ _ _ _ _ _ _ _ _ _ _ _ _ _ _ _ _ _ _ _ _ _ _ _ _ _ _ _ _ _ _ _ _ _ _ _ _ _ _ _ _ _ _ _ _ _ _ _ _ _ _ _ _ _ _ _ _ _ _ _ _ _ _ _ _ _ _ _ _ _ _ _ _ _ _ _ _ _ _ _ _ _ _ _ _ _ _ _
theorem Rf (s : Ls) (ns : List Int) (w W : World) (X n1 n2 : Nat) (far : Int) (h : LawIn s ns w) (hW : LawW s w W) (h0 : AE s ns = 0) (hX : W.heap[X]? = some (.cells s.cells 30 (0, 0))) (hwX : w.heap.size < X) (hf : Po far) (hn1 : n1 < 256) (hn2 : n2 < 256) (e0 e4 e5 e6 e9 ea eb ec ed ee ef eg eh ei ej ek el em en eo ep eq er es et eu ev ew ex ey ez eA eB eC eD eE eF eG eH eI eJ eK eL eM eN eO eP eQ eR eS eT eU eV eW eX eY eZ aa ab ac ad ae af ag ah ai aj ak al am an ao ap aq ar au av aw ax ay az aA aB aC aD aE aF aG aH aI : Value) :
  (Ab 5 Qq).wp Try.prog (bodyPost Try.prog Try.f12 (fun e w' => e = .returned (.bool true) ∧ Below w.heap.size w w')) { tmps := #[e0, .int .u8 (n1 : Nat), .int .u8 (n2 : Nat), .pointer (some ⟨w.heap.size, 0, none⟩), e4, e5, e6, .pointer (some ⟨X, 0, none⟩), int i64 far, e9, ea, eb, ec, ed, ee, ef, eg, eh, ei, ej, ek, el, em, en, eo, ep, eq, er, es, et, eu, ev, ew, ex, ey, ez, eA, eB, eC, eD, eE, eF, eG, eH, eI, eJ, eK, eL, eM, eN, eO, eP, eQ, eR, eS, eT, eU, eV, eW, eX, eY, eZ, aa, ab, ac, ad, ae, af, ag, ah, ai, aj, ak, al, am, an, ao, ap, aq, ar, au, av, aw, ax, ay, az, aA, aB, aC, aD, aE, aF, aG, aH, aI], defers := [] } W := by
 have hAW := h.at_.below hW.below; have hNW := h.ns.below hW.below; have q1 : W.cell? ⟨X, 1, none⟩ = some (int i64 s.wd) := Aa hX 1 rfl; have q2 : W.cell? ⟨X, 2, none⟩ = some (int i64 s.dp) := Aa hX 2 rfl; have q3 : W.cell? ⟨X, 3, none⟩ = some (int i64 s.bars) := Aa hX 3 rfl; have q4 : W.cell? ⟨X, 4, none⟩ = some (int i64 s.t0) := Aa hX 4 rfl; have q5 : W.cell? ⟨X, 5, none⟩ = some (int i64 s.t1) := Aa hX 5 rfl; have q7 : W.cell? ⟨X, 7, none⟩ = some (.slice s.ta s.tempos.length s.tc) := Aa hX 7 rfl; have qz : ∀ j, W.frozen? ⟨X, j, none⟩ = false := (show FreeB W X from ⟨_, _, hX⟩).free; have hEnd : ∀ (x : Ls) (ks : List Int) (V : World), Bx x ks X V → AE x ks = 180 → LawW s w V → ∀ (e0 e1 e2 e4 e5 e6 e8 e9 ea eb ec ed ee ef eg eh ei ej ek el em en eo ep eq er es et eu ev ew ex ey ez eA eB eC eD eE eF eG eH eI eJ eK eL eM eN eO eP eQ eR eS eT eU eV eW eX eY eZ aa ab ac ad ae af ag ah ai aj ak al am an ao ap aq ar au av aw ax ay az aA aB aC aD aE aF aG aH aI : Value), (Ab 6 Qq).wp Try.prog (bodyPost Try.prog Try.f12 (fun e w' => e = .returned (.bool true) ∧ Below w.heap.size w w')) { tmps := #[e0, e1, e2, .pointer (some ⟨w.heap.size, 0, none⟩), e4, e5, e6, .pointer (some ⟨X, 0, none⟩), e8, e9, ea, eb, ec, ed, ee, ef, eg, eh, ei, ej, ek, el, em, en, eo, ep, eq, er, es, et, eu, ev, ew, ex, ey, ez, eA, eB, eC, eD, eE, eF, eG, eH, eI, eJ, eK, eL, eM, eN, eO, eP, eQ, eR, eS, eT, eU, eV, eW, eX, eY, eZ, aa, ab, ac, ad, ae, af, ag, ah, ai, aj, ak, al, am, an, ao, ap, aq, ar, au, av, aw, ax, ay, az, aA, aB, aC, aD, aE, aF, aG, aH, aI], defers := [] } V := fun x ks V hx hs hw e0 e1 e2 e4 e5 e6 e8 e9 ea eb ec ed ee ef eg eh ei ej ek el em en eo ep eq er es et eu ev ew ex ey ez eA eB eC eD eE eF eG eH eI eJ eK eL eM eN eO eP eQ eR eS eT eU eV eW eX eY eZ aa ab ac ad ae af ag ah ai aj ak al am an ao ap aq ar au av aw ax ay az aA aB aC aD aE aF aG aH aI => QY s x ks X w V hw hx hs (h.env _ hw.below) e0 e1 e2 e4 e5 e6 e8 e9 ea eb ec ed ee ef eg eh ei ej ek el em en eo ep eq er es et eu ev ew ex ey ez eA eB eC eD eE eF eG eH eI eJ eK eL eM eN eO eP eQ eR eS eT eU eV eW eX eY eZ aa ab ac ad ae af ag ah ai aj ak al am an ao ap aq ar au av aw ax ay az aA aB aC aD aE aF aG aH aI
 have hset : ∀ (j : Nat) (v : Value), LawW s w (W.setCell ⟨X, j, none⟩ v) ∧ (W.setCell ⟨X, j, none⟩ v).heap[X]? = some (.cells (s.cells.setIfInBounds j v) 30 (0, 0)) := fun j v =>
  ⟨⟨hW.below.setCell (p := ⟨X, j, none⟩) (Nat.le_of_lt hwX) _, (Below.heap_setCell _ _ _ _ (Nat.ne_of_lt hwX)).trans hW.box⟩, PZ hX j v⟩
 have HE := qh hEnd; have HH := qh h; have HW := qh hW; have H0 := qh h0; have HX := qh hX; have HF := qh hf; have HS := qh hset; have HA := qh hAW; have HNS := qh hNW; obtain ⟨m, hm⟩ : ∃ m, n1 % 9 = m := ⟨_, rfl⟩; have hmod : (n1 : Int).tmod 9 = (m : Int) := by rw [← hm]; exact Int.ofNat_tmod n1 9
 clear hEnd h hW h0 hX hf hset hAW hNW hm; rw [QW, QA]; refine Ac (fun K hK => ?_); have HK := qh hK; clear hK; by_cases m0 : m = 0
 ·subst m0
  have z1 := qz 1
  conv => arg 2; whnf
  go_wp2_with fail; refine HK.out _ _ ?_; obtain ⟨l1, l2⟩ := HS.out 1 (int i64 far); exact HE.out { s with wd := far } ns _ ⟨l2, ⟨(HH.out.at_.below l1.below).roles, (HH.out.at_.below l1.below).tempos, (HH.out.at_.below l1.below).pauses, (HH.out.at_.below l1.below).spans, (HH.out.at_.below l1.below).pform, (HH.out.at_.below l1.below).plen, (HH.out.at_.below l1.below).phrases, (HH.out.at_.below l1.below).dform, (HH.out.at_.below l1.below).dlen, (HH.out.at_.below l1.below).dances⟩, HH.out.ns.below l1.below⟩ (R8 H0.out HF.out) l1 _ _ _ _ _ _ _ _ _ _ _ _ _ _ _ _ _ _ _ _ _ _ _ _ _ _ _ _ _ _ _ _ _ _ _ _ _ _ _ _ _ _ _ _ _ _ _ _ _ _ _ _ _ _ _ _ _ _ _ _ _ _ _ _ _ _ _ _ _ _ _ _ _ _ _ _ _ _ _ _ _ _ _ _ _ _ _ _ _ _ _ _ _
 by_cases m1 : m = 1
 ·subst m1
  have z1 := qz 2
  conv => arg 2; whnf
  go_wp2_with fail; refine HK.out _ _ ?_; obtain ⟨l1, l2⟩ := HS.out 2 (int i64 far); exact HE.out { s with dp := far } ns _ ⟨l2, ⟨(HH.out.at_.below l1.below).roles, (HH.out.at_.below l1.below).tempos, (HH.out.at_.below l1.below).pauses, (HH.out.at_.below l1.below).spans, (HH.out.at_.below l1.below).pform, (HH.out.at_.below l1.below).plen, (HH.out.at_.below l1.below).phrases, (HH.out.at_.below l1.below).dform, (HH.out.at_.below l1.below).dlen, (HH.out.at_.below l1.below).dances⟩, HH.out.ns.below l1.below⟩ (R3 H0.out HF.out) l1 _ _ _ _ _ _ _ _ _ _ _ _ _ _ _ _ _ _ _ _ _ _ _ _ _ _ _ _ _ _ _ _ _ _ _ _ _ _ _ _ _ _ _ _ _ _ _ _ _ _ _ _ _ _ _ _ _ _ _ _ _ _ _ _ _ _ _ _ _ _ _ _ _ _ _ _ _ _ _ _ _ _ _ _ _ _ _ _ _ _ _ _ _
 by_cases m2 : m = 2
 ·subst m2
  have z1 := qz 3
  conv => arg 2; whnf
  go_wp2_with fail; refine HK.out _ _ ?_; obtain ⟨l1, l2⟩ := HS.out 3 (int i64 far); exact HE.out { s with bars := far } ns _ ⟨l2, ⟨(HH.out.at_.below l1.below).roles, (HH.out.at_.below l1.below).tempos, (HH.out.at_.below l1.below).pauses, (HH.out.at_.below l1.below).spans, (HH.out.at_.below l1.below).pform, (HH.out.at_.below l1.below).plen, (HH.out.at_.below l1.below).phrases, (HH.out.at_.below l1.below).dform, (HH.out.at_.below l1.below).dlen, (HH.out.at_.below l1.below).dances⟩, HH.out.ns.below l1.below⟩ (QO H0.out HF.out) l1 _ _ _ _ _ _ _ _ _ _ _ _ _ _ _ _ _ _ _ _ _ _ _ _ _ _ _ _ _ _ _ _ _ _ _ _ _ _ _ _ _ _ _ _ _ _ _ _ _ _ _ _ _ _ _ _ _ _ _ _ _ _ _ _ _ _ _ _ _ _ _ _ _ _ _ _ _ _ _ _ _ _ _ _ _ _ _ _ _ _ _ _ _
 by_cases m3 : m = 3
 ·subst m3
  obtain ⟨j, hj⟩ : ∃ j, n2 % 2 = j := ⟨_, rfl⟩; have hmod2 : (n2 : Int).tmod 2 = (j : Int) := by rw [← hj]; exact Int.ofNat_tmod n2 2
  rcases (by omega : j = 0 ∨ j = 1) with rfl | rfl
  ·have z1 := qz 4
   clear hj
   conv => arg 2; whnf
   go_wp2_with fail; refine HK.out _ _ ?_; obtain ⟨l1, l2⟩ := HS.out 4 (int i64 far); exact HE.out { s with t0 := far } ns _ ⟨l2, ⟨(HH.out.at_.below l1.below).roles, (HH.out.at_.below l1.below).tempos, (HH.out.at_.below l1.below).pauses, (HH.out.at_.below l1.below).spans, (HH.out.at_.below l1.below).pform, (HH.out.at_.below l1.below).plen, (HH.out.at_.below l1.below).phrases, (HH.out.at_.below l1.below).dform, (HH.out.at_.below l1.below).dlen, (HH.out.at_.below l1.below).dances⟩, HH.out.ns.below l1.below⟩ (R4 H0.out HF.out) l1 _ _ _ _ _ _ _ _ _ _ _ _ _ _ _ _ _ _ _ _ _ _ _ _ _ _ _ _ _ _ _ _ _ _ _ _ _ _ _ _ _ _ _ _ _ _ _ _ _ _ _ _ _ _ _ _ _ _ _ _ _ _ _ _ _ _ _ _ _ _ _ _ _ _ _ _ _ _ _ _ _ _ _ _ _ _ _ _ _ _ _ _ _
  ·have z1 := qz 5
   clear hj
   conv => arg 2; whnf
   go_wp2_with fail; refine HK.out _ _ ?_; obtain ⟨l1, l2⟩ := HS.out 5 (int i64 far); exact HE.out { s with t1 := far } ns _ ⟨l2, ⟨(HH.out.at_.below l1.below).roles, (HH.out.at_.below l1.below).tempos, (HH.out.at_.below l1.below).pauses, (HH.out.at_.below l1.below).spans, (HH.out.at_.below l1.below).pform, (HH.out.at_.below l1.below).plen, (HH.out.at_.below l1.below).phrases, (HH.out.at_.below l1.below).dform, (HH.out.at_.below l1.below).dlen, (HH.out.at_.below l1.below).dances⟩, HH.out.ns.below l1.below⟩ (R6 H0.out HF.out) l1 _ _ _ _ _ _ _ _ _ _ _ _ _ _ _ _ _ _ _ _ _ _ _ _ _ _ _ _ _ _ _ _ _ _ _ _ _ _ _ _ _ _ _ _ _ _ _ _ _ _ _ _ _ _ _ _ _ _ _ _ _ _ _ _ _ _ _ _ _ _ _ _ _ _ _ _ _ _ _ _ _ _ _ _ _ _ _ _ _ _ _ _ _
 by_cases m4 : m = 4
 ·subst m4
  have z1 := qz 7
  conv => arg 2; whnf
  go_wp2_with fail; refine HK.out _ _ ?_; obtain ⟨l1, l2⟩ := HS.out 7 (.slice none 0 0); exact HE.out { s with ta := none, tc := 0, tempos := [] } ns _ ⟨l2, ⟨(HH.out.at_.below l1.below).roles, IsRow.nil, (HH.out.at_.below l1.below).pauses, (HH.out.at_.below l1.below).spans, (HH.out.at_.below l1.below).pform, (HH.out.at_.below l1.below).plen, (HH.out.at_.below l1.below).phrases, (HH.out.at_.below l1.below).dform, (HH.out.at_.below l1.below).dlen, (HH.out.at_.below l1.below).dances⟩, HH.out.ns.below l1.below⟩ (QP H0.out) l1 _ _ _ _ _ _ _ _ _ _ _ _ _ _ _ _ _ _ _ _ _ _ _ _ _ _ _ _ _ _ _ _ _ _ _ _ _ _ _ _ _ _ _ _ _ _ _ _ _ _ _ _ _ _ _ _ _ _ _ _ _ _ _ _ _ _ _ _ _ _ _ _ _ _ _ _ _ _ _ _ _ _ _ _ _ _ _ _ _ _ _ _ _
 have e0 : ¬ (m : Int) = 0 := by omega
 have e1 : ¬ (m : Int) = 1 := by omega
 have e2 : ¬ (m : Int) = 2 := by omega
 have e3 : ¬ (m : Int) = 3 := by omega
 have e4 : ¬ (m : Int) = 4 := by omega
 clear q1 q2 q3 q4 q5 q7 qz
 conv => arg 2; whnf
 go_wp2_with fail; refine Rj s ns w W X n1 far HH.out HW.out H0.out HX.out hwX HF.out hn1 _ (fun x ks V hx hs hw e0 e2 e4 e5 e6 e9 ea eb ec ed ee ef eg eh ei ej ek el em en eo ep eq er es et eu ev ew ex ey ez eA eB eC eD eE eF eG eH eI eJ eK eL eM eN eO eP eQ eR eS eT eU eV eW eX eY eZ aa ab ac ad ae af ag ah ai aj ak al am an ao ap aq ar au av aw ax ay az aA aB aC aD aE aF aG aH aI => ?_) (fun V hw e0 e1 e2 e3 e4 e5 e7 e8 e9 ea eb ec ed ee ef eg eh ei ej ek el em en eo ep eq er es et eu ev ew ex ey ez eA eB eC eD eE eF eG eH eI eJ eK eL eM eN eO eP eQ eR eS eT eU eV eW eX eY eZ aa ab ac ad ae af ag ah ai aj ak al am an ao ap aq ar au av aw ax ay az aA aB aC aD aE aF aG aH aI => ?_) _ _ _ _ _ _ _ _ _ _ _ _ _ _ _ _ _ _ _ _ _ _ _ _ _ _ _ _ _ _ _ _ _ _ _ _ _ _ _ _ _ _ _ _ _ _ _ _ _ _ _ _ _ _ _ _ _ _ _ _ _ _ _ _ _ _ _ _ _ _ _ _ _ _ _ _ _ _ _ _ _ _ _ _ _ _ _ _ _ _ _
 ·exact HK.out _ _ (HE.out x ks V hx hs hw _ _ _ _ _ _ _ _ _ _ _ _ _ _ _ _ _ _ _ _ _ _ _ _ _ _ _ _ _ _ _ _ _ _ _ _ _ _ _ _ _ _ _ _ _ _ _ _ _ _ _ _ _ _ _ _ _ _ _ _ _ _ _ _ _ _ _ _ _ _ _ _ _ _ _ _ _ _ _ _ _ _ _ _ _ _ _ _ _ _ _ _ _)
 ·show bodyPost Try.prog Try.f12 (fun e w' => e = .returned (.bool true) ∧ Below w.heap.size w w') .ret { tmps := #[e0, e1, e2, e3, e4, e5, .bool true, e7, e8, e9, ea, eb, ec, ed, ee, ef, eg, eh, ei, ej, ek, el, em, en, eo, ep, eq, er, es, et, eu, ev, ew, ex, ey, ez, eA, eB, eC, eD, eE, eF, eG, eH, eI, eJ, eK, eL, eM, eN, eO, eP, eQ, eR, eS, eT, eU, eV, eW, eX, eY, eZ, aa, ab, ac, ad, ae, af, ag, ah, ai, aj, ak, al, am, an, ao, ap, aq, ar, au, av, aw, ax, ay, az, aA, aB, aC, aD, aE, aF, aG, aH, aI], defers := [] } V
  go_ret; exact ⟨rfl, hw.below⟩
theorem Re (s : Ls) (ns : List Int) (w W : World) (X n1 n2 : Nat) (h : LawIn s ns w) (hW : LawW s w W) (h0 : AE s ns = 0) (hX : W.heap[X]? = some (.cells s.cells 30 (0, 0))) (hwX : w.heap.size < X) (hn1 : n1 < 256) (hn2 : n2 < 256) (e0 e4 e5 e6 e8 e9 ea eb ec ed ee ef eg eh ei ej ek el em en eo ep eq er es et eu ev ew ex ey ez eA eB eC eD eE eF eG eH eI eJ eK eL eM eN eO eP eQ eR eS eT eU eV eW eX eY eZ aa ab ac ad ae af ag ah ai aj ak al am an ao ap aq ar au av aw ax ay az aA aB aC aD aE aF aG aH aI : Value) :
  (Ab 4 Qq).wp Try.prog (bodyPost Try.prog Try.f12 (fun e w' => e = .returned (.bool true) ∧ Below w.heap.size w w')) { tmps := #[e0, .int .u8 (n1 : Nat), .int .u8 (n2 : Nat), .pointer (some ⟨w.heap.size, 0, none⟩), e4, e5, e6, .pointer (some ⟨X, 0, none⟩), e8, e9, ea, eb, ec, ed, ee, ef, eg, eh, ei, ej, ek, el, em, en, eo, ep, eq, er, es, et, eu, ev, ew, ex, ey, ez, eA, eB, eC, eD, eE, eF, eG, eH, eI, eJ, eK, eL, eM, eN, eO, eP, eQ, eR, eS, eT, eU, eV, eW, eX, eY, eZ, aa, ab, ac, ad, ae, af, ag, ah, ai, aj, ak, al, am, an, ao, ap, aq, ar, au, av, aw, ax, ay, az, aA, aB, aC, aD, aE, aF, aG, aH, aI], defers := [] } W := by
 obtain ⟨j, hj⟩ : ∃ j, n2 % 4 = j := ⟨_, rfl⟩; have hmod : (n2 : Int).tmod 4 = (j : Int) := by rw [← hj]; exact Int.ofNat_tmod n2 4
 have HH := qh h; have HW := qh hW; have H0 := qh h0; have HX := qh hX; rw [QV]; refine Ac (fun K hK => ?_); have HK := qh hK; have hb : Below W.heap.size W (W.alloc (.cells #[int i64 (-1), int i64 1048576, int i64 (-9223372036854775808), int i64 9223372036854775807] 3)) := (Below.refl _ W).alloc (qn _) _; have HB := qh hb; clear hK h hW h0 hX hb; rcases (by omega : j = 0 ∨ j = 1 ∨ j = 2 ∨ j = 3) with rfl | rfl | rfl | rfl
 all_goals
  clear hj
  conv => arg 2; whnf
  go_wp2_with fail; refine HK.out _ _ ?_; exact Rf s ns w _ X n1 n2 _ HH.out (HW.out.next HB.out) H0.out (Am HB.out HX.out) hwX (by unfold Po; omega) hn1 hn2 _ _ _ _ _ _ _ _ _ _ _ _ _ _ _ _ _ _ _ _ _ _ _ _ _ _ _ _ _ _ _ _ _ _ _ _ _ _ _ _ _ _ _ _ _ _ _ _ _ _ _ _ _ _ _ _ _ _ _ _ _ _ _ _ _ _ _ _ _ _ _ _ _ _ _ _ _ _ _ _ _ _ _ _ _ _ _ _ _ _
theorem QC (s : Ls) (ns : List Int) (w : World) (n1 n2 : Nat) (h : LawIn s ns w) (hn1 : n1 < 256) (hn2 : n2 < 256) : Calls Try.prog 12 #[s.val, .int .u8 (n1 : Nat), .int .u8 (n2 : Nat)] w (fun e w' => e = .returned (.bool true) ∧ Below w.heap.size w w') := by
 refine QR s ns w n1 n2 h fun V e0 e4 e5 e6 e7 e8 e9 e10 e11 e12 e13 e14 e15 e16 e17 e18 e19 e20 e21 e22 e23 e24 e25 e26 e27 e28 e29 e30 e31 e32 e33 e34 e35 e36 e37 e38 e39 e40 e41 e42 e43 e44 e45 e46 e47 e48 e49 e50 e51 e52 e53 e54 e55 e56 e57 e58 e59 e60 e61 e62 e63 e64 e65 e66 e67 e68 e69 e70 e71 e72 e73 e74 e75 e76 e77 e78 e79 e80 e81 e82 e83 e84 e85 e86 e87 e88 e89 e90 e91 e92 e93 e94 hW h0 hf => ?_
 have HH := qh h; have HW := qh hW; have H0 := qh h0; have HO := qh (QB s); have HX : Hid ((V.alloc (.cells s.cells 30)).heap[V.heap.size]? = some (.cells s.cells 30 (0, 0))) := qh (heap_alloc_new V _); have HB := qh ((Below.refl V.heap.size V).alloc (qn _) (.cells s.cells 30)); have HWX : Hid (w.heap.size < V.heap.size) := qh (qs.1 hW.box).1; have HL := qh hW.box; have HZ : Hid (s.cells.size = 12) := qh rfl; clear h hW h0 hf; rw [QU]; refine Ac (fun K hK => ?_); have HK := qh hK; clear hK
 conv => arg 2; whnf
 go_wp2_with ((refine wpList_load_row rfl 30 _ rfl w.heap.size rfl 30 s.cells (0, 0) _ HL.out Try.underlying30 rfl (by kernel_rfl) ?_; simp only [Act.put, qD, qE, qF]); unfold Ls.cells); refine HK.out _ _ ?_; exact Re s ns w _ V.heap.size n1 n2 HH.out (HW.out.next HB.out) H0.out HX.out HWX.out hn1 hn2 _ _ _ _ _ _ _ _ _ _ _ _ _ _ _ _ _ _ _ _ _ _ _ _ _ _ _ _ _ _ _ _ _ _ _ _ _ _ _ _ _ _ _ _ _ _ _ _ _ _ _ _ _ _ _ _ _ _ _ _ _ _ _ _ _ _ _ _ _ _ _ _ _ _ _ _ _ _ _ _ _ _ _ _ _ _ _ _ _ _ _
end
end Go.Proofs.Ytpnbpepkoekkoaa
