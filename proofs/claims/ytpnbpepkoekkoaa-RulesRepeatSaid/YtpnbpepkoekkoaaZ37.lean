/- Contracts and plain laws on the way to the statement: part 37. -/
import Derived.Test.YtpnbpepkoekkoaaZ36
import Derived.Test.YtpnbpepkoekkoaaZ31
import Derived.Test.YtpnbpepkoekkoaaZ3
set_option linter.unusedVariables false
set_option linter.unusedSimpArgs false
set_option maxRecDepth 100000
set_option maxHeartbeats 16000000
namespace Go.Proofs.Ytpnbpepkoekkoaa
open Go.Value (int)
open Go.IntKind (i64)
section
open Go Go.RowKit Go.Shelf
noncomputable def AF : Code := (Try.f25.body).getD .skip
noncomputable def KV : Code := match Ab 0 AF with
 | .seq a _ => a
 | c => c
noncomputable def elem25n1 : Code := match Ab 1 AF with
 | .seq a _ => a
 | c => c
noncomputable def elem25n2 : Code := match Ab 2 AF with
 | .seq a _ => a
 | c => c
noncomputable def elem25n3 : Code := match Ab 3 AF with
 | .seq a _ => a
 | c => c
noncomputable def elem25n4 : Code := match Ab 4 AF with
 | .seq a _ => a
 | c => c
noncomputable def elem25n5 : Code := match Ab 5 AF with
 | .seq a _ => a
 | c => c
noncomputable def elem25n6 : Code := match Ab 6 AF with
 | .seq a _ => a
 | c => c
noncomputable def elem25n7 : Code := match Ab 7 AF with
 | .seq a _ => a
 | c => c
noncomputable def elem25n8 : Code := match Ab 8 AF with
 | .seq a _ => a
 | c => c
noncomputable def elem25n9 : Code := match Ab 9 AF with
 | .seq a _ => a
 | c => c
noncomputable def elem25n10 : Code := match Ab 10 AF with
 | .seq a _ => a
 | c => c
noncomputable def elem25n11 : Code := match Ab 11 AF with
 | .seq a _ => a
 | c => c
noncomputable def elem25n12 : Code := match Ab 12 AF with
 | .seq a _ => a
 | c => c
theorem Nb : AF = .seq KV (Ab 1 AF) := rfl
theorem Nc : Ab 1 AF = .seq elem25n1 (Ab 2 AF) := rfl
theorem Nd : Ab 2 AF = .seq elem25n2 (Ab 3 AF) := rfl
theorem Nf : Ab 3 AF = .seq elem25n3 (Ab 4 AF) := rfl
theorem Ng : Ab 4 AF = .seq elem25n4 (Ab 5 AF) := rfl
theorem Nh : Ab 5 AF = .seq elem25n5 (Ab 6 AF) := rfl
theorem Ni : Ab 6 AF = .seq elem25n6 (Ab 7 AF) := rfl
theorem Nj : Ab 7 AF = .seq elem25n7 (Ab 8 AF) := rfl
theorem Nk : Ab 8 AF = .seq elem25n8 (Ab 9 AF) := rfl
theorem Nl : Ab 9 AF = .seq elem25n9 (Ab 10 AF) := rfl
theorem M2 : Ab 10 AF = .seq elem25n10 (Ab 11 AF) := rfl
theorem M3 : Ab 11 AF = .seq elem25n11 (Ab 12 AF) := rfl
theorem M4 : Ab 12 AF = .seq elem25n12 (Ab 13 AF) := rfl
theorem PA (W : World) (Q : Exit → Act → World → Prop) (e0 e1 e2 e3 e4 e5 e6 e7 e8 e9 ea eb ec ed ee ef eg eh ei ej ek el em en eo ep eq er es et eu ev ew ex ey ez eA eB eC eD eE eF eG eH eI eJ eK eL eM eN eO eP eQ eR eS eT eU eV eW eX eY eZ aa ab ac ad ae af ag ah ai aj ak al am an ao ap aq ar au av aw ax ay az aA aB aC aD aE aF aG aH aI aJ aK aL aM aN aO aP aQ aR aS aT aU aV aW aX aY aZ ba bb bc bd be bf bg bh bi : Value)
  (hQ : ∀ (R T M U I0 I1 F D X : Nat) (bj : Value) (V : World), Sm18 R T M U I0 I1 F D V → (∀ b ∈ [R, T, M, U, I0, I1, F, D], W.heap.size ≤ b ∧ b < X) → [R, T, M, U, I0, I1, F, D].Nodup → V.heap[X]? = some (.cells (Ce R T M U I0 I1 F D).cells 30 (0, 0)) → W.heap.size ≤ X → Below W.heap.size W V → Q .normal { tmps := #[e0, .pointer (some ⟨X, 0, none⟩), e2, e3, e4, e5, e6, e7, e8, e9, ea, eb, ec, ed, ee, bj, eg, eh, ei, ej, ek, el, em, en, eo, ep, eq, er, es, et, eu, ev, ew, ex, ey, ez, eA, eB, eC, eD, eE, eF, eG, eH, eI, eJ, eK, eL, eM, eN, eO, eP, eQ, eR, eS, eT, eU, eV, eW, eX, eY, eZ, aa, ab, ac, ad, ae, af, ag, ah, ai, aj, ak, al, am, an, ao, ap, aq, ar, au, av, aw, ax, ay, az, aA, aB, aC, aD, aE, aF, aG, aH, aI, aJ, aK, aL, aM, aN, aO, aP, aQ, aR, aS, aT, aU, aV, aW, aX, aY, aZ, ba, bb, bc, bd, be, bf, bg, bh, bi], defers := [] } V) :
  elem25n1.wp Try.prog Q { tmps := #[e0, e1, e2, e3, e4, e5, e6, e7, e8, e9, ea, eb, ec, ed, ee, ef, eg, eh, ei, ej, ek, el, em, en, eo, ep, eq, er, es, et, eu, ev, ew, ex, ey, ez, eA, eB, eC, eD, eE, eF, eG, eH, eI, eJ, eK, eL, eM, eN, eO, eP, eQ, eR, eS, eT, eU, eV, eW, eX, eY, eZ, aa, ab, ac, ad, ae, af, ag, ah, ai, aj, ak, al, am, an, ao, ap, aq, ar, au, av, aw, ax, ay, az, aA, aB, aC, aD, aE, aF, aG, aH, aI, aJ, aK, aL, aM, aN, aO, aP, aQ, aR, aS, aT, aU, aV, aW, aX, aY, aZ, ba, bb, bc, bd, be, bf, bg, bh, bi], defers := [] } W := by
 have HQ := qh hQ; clear hQ; have C := Cz W; have HC := qh C; clear C
 conv => arg 2; whnf
 go_wp2_with (go_at_call 57; refine HC.out.mono ?_; rintro e V ⟨R, T, M, U, I0, I1, F, D, rfl, h1, h2, h3, h4⟩; obtain ⟨V2, xV, gV, bV, sV⟩ := Ai V #[sv [119], int i64 20, int i64 10, int i64 3, int i64 2, int i64 1, .slice (some ⟨R, 0, none⟩) 1 1, .slice (some ⟨T, 0, none⟩) 1 1, .slice none 0 0, .slice none 0 0, .slice (some ⟨F, 0, none⟩) 2 2, .slice (some ⟨D, 0, none⟩) 1 1] 30; have HH := qh (And.intro h1 (And.intro h2 (And.intro h3 h4))); have HG := qh (And.intro gV bV); have HXV := qh xV; clear h1 h2 h3 h4 gV bV sV xV); obtain ⟨h1, h2, h3, h4⟩ := HH.out; obtain ⟨gV, bV⟩ := HG.out; rw [HXV.out]; have hl : ∀ {b : Nat} {o : Obj}, V.heap[b]? = some o → b < V.heap.size := fun h => (qs.1 h).1
 refine HQ.out R T M U I0 I1 F D V.heap.size _ V2 ⟨Am bV h1.hR, Am bV h1.hT, Am bV h1.hM, Am bV h1.hU, Am bV h1.hI0, Am bV h1.hI1, Am bV h1.hF, Am bV h1.hD⟩ (fun b hb => ⟨h2 b hb, ?_⟩) h3 gV h4.size (Ag h4 bV); simp only [List.mem_cons, List.mem_nil_iff, or_false] at hb; rcases hb with rfl | rfl | rfl | rfl | rfl | rfl | rfl | rfl
 ·exact hl h1.hR
 ·exact hl h1.hT
 ·exact hl h1.hM
 ·exact hl h1.hU
 ·exact hl h1.hI0
 ·exact hl h1.hI1
 ·exact hl h1.hF
 ·exact hl h1.hD
theorem PF (W : World) (Q : Exit → Act → World → Prop) (e0 e1 e2 e3 e4 e5 e6 e7 e8 e9 ea eb ec ed ee ef eg eh ei ej ek el em en eo ep eq er es et eu ev ew ex ey ez eA eB eC eD eE eF eG eH eI eJ eK eL eM eN eO eP eQ eR eS eT eU eV eW eX eY eZ aa ab ac ad ae af ag ah ai aj ak al am an ao ap aq ar au av aw ax ay az aA aB aC aD aE aF aG aH aI aJ aK aL aM aN aO aP aQ aR aS aT aU aV aW aX aY aZ ba bb bc bd be bf bg bh bi : Value)
  (hQ : ∀ (R T M U I0 I1 F D X : Nat) (bj : Value) (V : World), Sm18 R T M U I0 I1 F D V → (∀ b ∈ [R, T, M, U, I0, I1, F, D], W.heap.size ≤ b ∧ b < X) → [R, T, M, U, I0, I1, F, D].Nodup → V.heap[X]? = some (.cells (Ce R T M U I0 I1 F D).cells 30 (0, 0)) → W.heap.size ≤ X → Below W.heap.size W V → Q .normal { tmps := #[e0, e1, e2, e3, e4, e5, e6, e7, e8, .pointer (some ⟨X, 0, none⟩), ea, eb, ec, ed, ee, ef, eg, eh, ei, ej, ek, el, em, en, eo, ep, eq, er, es, et, eu, ev, bj, ex, ey, ez, eA, eB, eC, eD, eE, eF, eG, eH, eI, eJ, eK, eL, eM, eN, eO, eP, eQ, eR, eS, eT, eU, eV, eW, eX, eY, eZ, aa, ab, ac, ad, ae, af, ag, ah, ai, aj, ak, al, am, an, ao, ap, aq, ar, au, av, aw, ax, ay, az, aA, aB, aC, aD, aE, aF, aG, aH, aI, aJ, aK, aL, aM, aN, aO, aP, aQ, aR, aS, aT, aU, aV, aW, aX, aY, aZ, ba, bb, bc, bd, be, bf, bg, bh, bi], defers := [] } V) :
  elem25n5.wp Try.prog Q { tmps := #[e0, e1, e2, e3, e4, e5, e6, e7, e8, e9, ea, eb, ec, ed, ee, ef, eg, eh, ei, ej, ek, el, em, en, eo, ep, eq, er, es, et, eu, ev, ew, ex, ey, ez, eA, eB, eC, eD, eE, eF, eG, eH, eI, eJ, eK, eL, eM, eN, eO, eP, eQ, eR, eS, eT, eU, eV, eW, eX, eY, eZ, aa, ab, ac, ad, ae, af, ag, ah, ai, aj, ak, al, am, an, ao, ap, aq, ar, au, av, aw, ax, ay, az, aA, aB, aC, aD, aE, aF, aG, aH, aI, aJ, aK, aL, aM, aN, aO, aP, aQ, aR, aS, aT, aU, aV, aW, aX, aY, aZ, ba, bb, bc, bd, be, bf, bg, bh, bi], defers := [] } W := by
 have HQ := qh hQ; clear hQ; have C := Cz W; have HC := qh C; clear C
 conv => arg 2; whnf
 go_wp2_with (go_at_call 57; refine HC.out.mono ?_; rintro e V ⟨R, T, M, U, I0, I1, F, D, rfl, h1, h2, h3, h4⟩; obtain ⟨V2, xV, gV, bV, sV⟩ := Ai V #[sv [119], int i64 20, int i64 10, int i64 3, int i64 2, int i64 1, .slice (some ⟨R, 0, none⟩) 1 1, .slice (some ⟨T, 0, none⟩) 1 1, .slice none 0 0, .slice none 0 0, .slice (some ⟨F, 0, none⟩) 2 2, .slice (some ⟨D, 0, none⟩) 1 1] 30; have HH := qh (And.intro h1 (And.intro h2 (And.intro h3 h4))); have HG := qh (And.intro gV bV); have HXV := qh xV; clear h1 h2 h3 h4 gV bV sV xV); obtain ⟨h1, h2, h3, h4⟩ := HH.out; obtain ⟨gV, bV⟩ := HG.out; rw [HXV.out]; have hl : ∀ {b : Nat} {o : Obj}, V.heap[b]? = some o → b < V.heap.size := fun h => (qs.1 h).1
 refine HQ.out R T M U I0 I1 F D V.heap.size _ V2 ⟨Am bV h1.hR, Am bV h1.hT, Am bV h1.hM, Am bV h1.hU, Am bV h1.hI0, Am bV h1.hI1, Am bV h1.hF, Am bV h1.hD⟩ (fun b hb => ⟨h2 b hb, ?_⟩) h3 gV h4.size (Ag h4 bV); simp only [List.mem_cons, List.mem_nil_iff, or_false] at hb; rcases hb with rfl | rfl | rfl | rfl | rfl | rfl | rfl | rfl
 ·exact hl h1.hR
 ·exact hl h1.hT
 ·exact hl h1.hM
 ·exact hl h1.hU
 ·exact hl h1.hI0
 ·exact hl h1.hI1
 ·exact hl h1.hF
 ·exact hl h1.hD
theorem PI (W : World) (Q : Exit → Act → World → Prop) (e0 e1 e2 e3 e4 e5 e6 e7 e8 e9 ea eb ec ed ee ef eg eh ei ej ek el em en eo ep eq er es et eu ev ew ex ey ez eA eB eC eD eE eF eG eH eI eJ eK eL eM eN eO eP eQ eR eS eT eU eV eW eX eY eZ aa ab ac ad ae af ag ah ai aj ak al am an ao ap aq ar au av aw ax ay az aA aB aC aD aE aF aG aH aI aJ aK aL aM aN aO aP aQ aR aS aT aU aV aW aX aY aZ ba bb bc bd be bf bg bh bi : Value)
  (hQ : ∀ (R T M U I0 I1 F D X : Nat) (bj : Value) (V : World), Sm18 R T M U I0 I1 F D V → (∀ b ∈ [R, T, M, U, I0, I1, F, D], W.heap.size ≤ b ∧ b < X) → [R, T, M, U, I0, I1, F, D].Nodup → V.heap[X]? = some (.cells (Ce R T M U I0 I1 F D).cells 30 (0, 0)) → W.heap.size ≤ X → Below W.heap.size W V → Q .normal { tmps := #[e0, e1, e2, e3, e4, e5, e6, e7, e8, e9, ea, eb, ec, .pointer (some ⟨X, 0, none⟩), ee, ef, eg, eh, ei, ej, ek, el, em, en, eo, ep, eq, er, es, et, eu, ev, ew, ex, ey, ez, eA, eB, eC, eD, eE, eF, eG, eH, eI, eJ, eK, eL, eM, eN, eO, eP, bj, eR, eS, eT, eU, eV, eW, eX, eY, eZ, aa, ab, ac, ad, ae, af, ag, ah, ai, aj, ak, al, am, an, ao, ap, aq, ar, au, av, aw, ax, ay, az, aA, aB, aC, aD, aE, aF, aG, aH, aI, aJ, aK, aL, aM, aN, aO, aP, aQ, aR, aS, aT, aU, aV, aW, aX, aY, aZ, ba, bb, bc, bd, be, bf, bg, bh, bi], defers := [] } V) :
  elem25n8.wp Try.prog Q { tmps := #[e0, e1, e2, e3, e4, e5, e6, e7, e8, e9, ea, eb, ec, ed, ee, ef, eg, eh, ei, ej, ek, el, em, en, eo, ep, eq, er, es, et, eu, ev, ew, ex, ey, ez, eA, eB, eC, eD, eE, eF, eG, eH, eI, eJ, eK, eL, eM, eN, eO, eP, eQ, eR, eS, eT, eU, eV, eW, eX, eY, eZ, aa, ab, ac, ad, ae, af, ag, ah, ai, aj, ak, al, am, an, ao, ap, aq, ar, au, av, aw, ax, ay, az, aA, aB, aC, aD, aE, aF, aG, aH, aI, aJ, aK, aL, aM, aN, aO, aP, aQ, aR, aS, aT, aU, aV, aW, aX, aY, aZ, ba, bb, bc, bd, be, bf, bg, bh, bi], defers := [] } W := by
 have HQ := qh hQ; clear hQ; have C := Cz W; have HC := qh C; clear C
 conv => arg 2; whnf
 go_wp2_with (go_at_call 57; refine HC.out.mono ?_; rintro e V ⟨R, T, M, U, I0, I1, F, D, rfl, h1, h2, h3, h4⟩; obtain ⟨V2, xV, gV, bV, sV⟩ := Ai V #[sv [119], int i64 20, int i64 10, int i64 3, int i64 2, int i64 1, .slice (some ⟨R, 0, none⟩) 1 1, .slice (some ⟨T, 0, none⟩) 1 1, .slice none 0 0, .slice none 0 0, .slice (some ⟨F, 0, none⟩) 2 2, .slice (some ⟨D, 0, none⟩) 1 1] 30; have HH := qh (And.intro h1 (And.intro h2 (And.intro h3 h4))); have HG := qh (And.intro gV bV); have HXV := qh xV; clear h1 h2 h3 h4 gV bV sV xV); obtain ⟨h1, h2, h3, h4⟩ := HH.out; obtain ⟨gV, bV⟩ := HG.out; rw [HXV.out]; have hl : ∀ {b : Nat} {o : Obj}, V.heap[b]? = some o → b < V.heap.size := fun h => (qs.1 h).1
 refine HQ.out R T M U I0 I1 F D V.heap.size _ V2 ⟨Am bV h1.hR, Am bV h1.hT, Am bV h1.hM, Am bV h1.hU, Am bV h1.hI0, Am bV h1.hI1, Am bV h1.hF, Am bV h1.hD⟩ (fun b hb => ⟨h2 b hb, ?_⟩) h3 gV h4.size (Ag h4 bV); simp only [List.mem_cons, List.mem_nil_iff, or_false] at hb; rcases hb with rfl | rfl | rfl | rfl | rfl | rfl | rfl | rfl
 ·exact hl h1.hR
 ·exact hl h1.hT
 ·exact hl h1.hM
 ·exact hl h1.hU
 ·exact hl h1.hI0
 ·exact hl h1.hI1
 ·exact hl h1.hF
 ·exact hl h1.hD
theorem OO (W : World) (Q : Exit → Act → World → Prop) (e0 e1 e2 e3 e4 e5 e6 e7 e8 e9 ea eb ec ed ee ef eg eh ei ej ek el em en eo ep eq er es et eu ev ew ex ey ez eA eB eC eD eE eF eG eH eI eJ eK eL eM eN eO eP eQ eR eS eT eU eV eW eX eY eZ aa ab ac ad ae af ag ah ai aj ak al am an ao ap aq ar au av aw ax ay az aA aB aC aD aE aF aG aH aI aJ aK aL aM aN aO aP aQ aR aS aT aU aV aW aX aY aZ ba bb bc bd be bf bg bh bi : Value)
  (hQ : ∀ (R T M U I0 I1 F D X : Nat) (bj : Value) (V : World), Sm18 R T M U I0 I1 F D V → (∀ b ∈ [R, T, M, U, I0, I1, F, D], W.heap.size ≤ b ∧ b < X) → [R, T, M, U, I0, I1, F, D].Nodup → V.heap[X]? = some (.cells (Ce R T M U I0 I1 F D).cells 30 (0, 0)) → W.heap.size ≤ X → Below W.heap.size W V → Q .normal { tmps := #[e0, e1, e2, e3, e4, e5, e6, e7, e8, e9, ea, eb, ec, ed, .pointer (some ⟨X, 0, none⟩), ef, eg, eh, ei, ej, ek, el, em, en, eo, ep, eq, er, es, et, eu, ev, ew, ex, ey, ez, eA, eB, eC, eD, eE, eF, eG, eH, eI, eJ, eK, eL, eM, eN, eO, eP, eQ, eR, eS, bj, eU, eV, eW, eX, eY, eZ, aa, ab, ac, ad, ae, af, ag, ah, ai, aj, ak, al, am, an, ao, ap, aq, ar, au, av, aw, ax, ay, az, aA, aB, aC, aD, aE, aF, aG, aH, aI, aJ, aK, aL, aM, aN, aO, aP, aQ, aR, aS, aT, aU, aV, aW, aX, aY, aZ, ba, bb, bc, bd, be, bf, bg, bh, bi], defers := [] } V) :
  elem25n10.wp Try.prog Q { tmps := #[e0, e1, e2, e3, e4, e5, e6, e7, e8, e9, ea, eb, ec, ed, ee, ef, eg, eh, ei, ej, ek, el, em, en, eo, ep, eq, er, es, et, eu, ev, ew, ex, ey, ez, eA, eB, eC, eD, eE, eF, eG, eH, eI, eJ, eK, eL, eM, eN, eO, eP, eQ, eR, eS, eT, eU, eV, eW, eX, eY, eZ, aa, ab, ac, ad, ae, af, ag, ah, ai, aj, ak, al, am, an, ao, ap, aq, ar, au, av, aw, ax, ay, az, aA, aB, aC, aD, aE, aF, aG, aH, aI, aJ, aK, aL, aM, aN, aO, aP, aQ, aR, aS, aT, aU, aV, aW, aX, aY, aZ, ba, bb, bc, bd, be, bf, bg, bh, bi], defers := [] } W := by
 have HQ := qh hQ; clear hQ; have C := Cz W; have HC := qh C; clear C
 conv => arg 2; whnf
 go_wp2_with (go_at_call 57; refine HC.out.mono ?_; rintro e V ⟨R, T, M, U, I0, I1, F, D, rfl, h1, h2, h3, h4⟩; obtain ⟨V2, xV, gV, bV, sV⟩ := Ai V #[sv [119], int i64 20, int i64 10, int i64 3, int i64 2, int i64 1, .slice (some ⟨R, 0, none⟩) 1 1, .slice (some ⟨T, 0, none⟩) 1 1, .slice none 0 0, .slice none 0 0, .slice (some ⟨F, 0, none⟩) 2 2, .slice (some ⟨D, 0, none⟩) 1 1] 30; have HH := qh (And.intro h1 (And.intro h2 (And.intro h3 h4))); have HG := qh (And.intro gV bV); have HXV := qh xV; clear h1 h2 h3 h4 gV bV sV xV); obtain ⟨h1, h2, h3, h4⟩ := HH.out; obtain ⟨gV, bV⟩ := HG.out; rw [HXV.out]; have hl : ∀ {b : Nat} {o : Obj}, V.heap[b]? = some o → b < V.heap.size := fun h => (qs.1 h).1
 refine HQ.out R T M U I0 I1 F D V.heap.size _ V2 ⟨Am bV h1.hR, Am bV h1.hT, Am bV h1.hM, Am bV h1.hU, Am bV h1.hI0, Am bV h1.hI1, Am bV h1.hF, Am bV h1.hD⟩ (fun b hb => ⟨h2 b hb, ?_⟩) h3 gV h4.size (Ag h4 bV); simp only [List.mem_cons, List.mem_nil_iff, or_false] at hb; rcases hb with rfl | rfl | rfl | rfl | rfl | rfl | rfl | rfl
 ·exact hl h1.hR
 ·exact hl h1.hT
 ·exact hl h1.hM
 ·exact hl h1.hU
 ·exact hl h1.hI0
 ·exact hl h1.hI1
 ·exact hl h1.hF
 ·exact hl h1.hD
theorem PC (R T M U I0 I1 F D X : Nat) (W : World) (hX : Bx (Ce R T M U I0 I1 F D) Cf X W) (he : Env W) (Q : Exit → Act → World → Prop) (e0 e2 e3 e4 e5 e6 e7 e8 e9 ea eb ec ed ee ef eg eh ei ej ek el em en eo ep eq er es et eu ev ew ex ey ez eA eB eC eD eE eF eG eH eI eJ eK eL eM eN eO eP eQ eR eS eT eU eV eW eX eY eZ aa ab ac ad ae af ag ah ai aj ak al am an ao ap aq ar au av aw ax ay az aA aB aC aD aE aF aG aH aI aJ aK aL aM aN aO aP aQ aR aS aT aU aV aW aX aY aZ ba bb bc bd be bf bg bh bi : Value)
  (hQ : ∀ (bj bk bl bm bn : Value) (V : World), Below W.heap.size W V → Q .normal { tmps := #[e0, .pointer (some ⟨X, 0, none⟩), int i64 2, int i64 0, e4, e5, e6, e7, e8, e9, ea, eb, ec, ed, ee, ef, bj, bk, bl, bm, bn, el, em, en, eo, ep, eq, er, es, et, eu, ev, ew, ex, ey, ez, eA, eB, eC, eD, eE, eF, eG, eH, eI, eJ, eK, eL, eM, eN, eO, eP, eQ, eR, eS, eT, eU, eV, eW, eX, eY, eZ, aa, ab, ac, ad, ae, af, ag, ah, ai, aj, ak, al, am, an, ao, ap, aq, ar, au, av, aw, ax, ay, az, aA, aB, aC, aD, aE, aF, aG, aH, aI, aJ, aK, aL, aM, aN, aO, aP, aQ, aR, aS, aT, aU, aV, aW, aX, aY, aZ, ba, bb, bc, bd, be, bf, bg, bh, bi], defers := [] } V) :
  elem25n2.wp Try.prog Q { tmps := #[e0, .pointer (some ⟨X, 0, none⟩), e2, e3, e4, e5, e6, e7, e8, e9, ea, eb, ec, ed, ee, ef, eg, eh, ei, ej, ek, el, em, en, eo, ep, eq, er, es, et, eu, ev, ew, ex, ey, ez, eA, eB, eC, eD, eE, eF, eG, eH, eI, eJ, eK, eL, eM, eN, eO, eP, eQ, eR, eS, eT, eU, eV, eW, eX, eY, eZ, aa, ab, ac, ad, ae, af, ag, ah, ai, aj, ak, al, am, an, ao, ap, aq, ar, au, av, aw, ax, ay, az, aA, aB, aC, aD, aE, aF, aG, aH, aI, aJ, aK, aL, aM, aN, aO, aP, aQ, aR, aS, aT, aU, aV, aW, aX, aY, aZ, ba, bb, bc, bd, be, bf, bg, bh, bi], defers := [] } W := by
 have C := Fo (Ce R T M U I0 I1 F D) Cf (1) W hX.at_ hX.ns he; unfold NI at C; rw [Ko] at C; have HQ := qh hQ; have HC := qh C; have HX := qh hX.box; clear hQ C hX he
 conv => arg 2; whnf
 have st0 : True := trivial
 go_wp2_with (first | (have q := st0; clear q st0; (refine wpList_load_row rfl 30 _ rfl X rfl 30 (Ce R T M U I0 I1 F D).cells (0, 0) _ HX.out Try.underlying30 rfl (by kernel_rfl) ?_; simp only [Act.put, qD, qE, qF])) | (go_at_call 30; refine HC.out.mono ?_; rintro e V ⟨rfl, hv⟩; have HV := qh hv; clear hv)); exact HQ.out _ _ _ _ _ _ HV.out
theorem PD (R T M U I0 I1 F D X : Nat) (W : World) (hX : Bx (Ce R T M U I0 I1 F D) Cf X W) (he : Env W) (Q : Exit → Act → World → Prop) (e0 e2 e3 e4 e5 e6 e7 e8 e9 ea eb ec ed ee ef eg eh ei ej ek el em en eo ep eq er es et eu ev ew ex ey ez eA eB eC eD eE eF eG eH eI eJ eK eL eM eN eO eP eQ eR eS eT eU eV eW eX eY eZ aa ab ac ad ae af ag ah ai aj ak al am an ao ap aq ar au av aw ax ay az aA aB aC aD aE aF aG aH aI aJ aK aL aM aN aO aP aQ aR aS aT aU aV aW aX aY aZ ba bb bc bd be bf bg bh bi : Value)
  (hQ : ∀ (bj bk bl bm bn : Value) (V : World), Below W.heap.size W V → Q .normal { tmps := #[e0, .pointer (some ⟨X, 0, none⟩), e2, e3, int i64 0, int i64 1, e6, e7, e8, e9, ea, eb, ec, ed, ee, ef, eg, eh, ei, ej, ek, bj, bk, bl, bm, bn, eq, er, es, et, eu, ev, ew, ex, ey, ez, eA, eB, eC, eD, eE, eF, eG, eH, eI, eJ, eK, eL, eM, eN, eO, eP, eQ, eR, eS, eT, eU, eV, eW, eX, eY, eZ, aa, ab, ac, ad, ae, af, ag, ah, ai, aj, ak, al, am, an, ao, ap, aq, ar, au, av, aw, ax, ay, az, aA, aB, aC, aD, aE, aF, aG, aH, aI, aJ, aK, aL, aM, aN, aO, aP, aQ, aR, aS, aT, aU, aV, aW, aX, aY, aZ, ba, bb, bc, bd, be, bf, bg, bh, bi], defers := [] } V) :
  elem25n3.wp Try.prog Q { tmps := #[e0, .pointer (some ⟨X, 0, none⟩), e2, e3, e4, e5, e6, e7, e8, e9, ea, eb, ec, ed, ee, ef, eg, eh, ei, ej, ek, el, em, en, eo, ep, eq, er, es, et, eu, ev, ew, ex, ey, ez, eA, eB, eC, eD, eE, eF, eG, eH, eI, eJ, eK, eL, eM, eN, eO, eP, eQ, eR, eS, eT, eU, eV, eW, eX, eY, eZ, aa, ab, ac, ad, ae, af, ag, ah, ai, aj, ak, al, am, an, ao, ap, aq, ar, au, av, aw, ax, ay, az, aA, aB, aC, aD, aE, aF, aG, aH, aI, aJ, aK, aL, aM, aN, aO, aP, aQ, aR, aS, aT, aU, aV, aW, aX, aY, aZ, ba, bb, bc, bd, be, bf, bg, bh, bi], defers := [] } W := by
 have C := Fo (Ce R T M U I0 I1 F D) Cf (-1) W hX.at_ hX.ns he; unfold NI at C; rw [Kp] at C; have HQ := qh hQ; have HC := qh C; have HX := qh hX.box; clear hQ C hX he
 conv => arg 2; whnf
 have st0 : True := trivial
 go_wp2_with (first | (have q := st0; clear q st0; (refine wpList_load_row rfl 30 _ rfl X rfl 30 (Ce R T M U I0 I1 F D).cells (0, 0) _ HX.out Try.underlying30 rfl (by kernel_rfl) ?_; simp only [Act.put, qD, qE, qF])) | (go_at_call 30; refine HC.out.mono ?_; rintro e V ⟨rfl, hv⟩; have HV := qh hv; clear hv)); exact HQ.out _ _ _ _ _ _ HV.out
end
section
open Go Go.RowKit Go.Shelf
theorem PE (R T M U I0 I1 F D X : Nat) (W : World) (hX : Bx (Ce R T M U I0 I1 F D) Cf X W) (he : Env W) (Q : Exit → Act → World → Prop) (e0 e2 e3 e4 e5 e6 e7 e8 e9 ea eb ec ed ee ef eg eh ei ej ek el em en eo ep eq er es et eu ev ew ex ey ez eA eB eC eD eE eF eG eH eI eJ eK eL eM eN eO eP eQ eR eS eT eU eV eW eX eY eZ aa ab ac ad ae af ag ah ai aj ak al am an ao ap aq ar au av aw ax ay az aA aB aC aD aE aF aG aH aI aJ aK aL aM aN aO aP aQ aR aS aT aU aV aW aX aY aZ ba bb bc bd be bf bg bh bi : Value)
  (hQ : ∀ (bj bk bl bm bn bo : Value) (V : World), Below W.heap.size W V → Q .normal { tmps := #[e0, .pointer (some ⟨X, 0, none⟩), e2, e3, e4, e5, .slice none 0 0, .bool false, int i64 0, e9, ea, eb, ec, ed, ee, ef, eg, eh, ei, ej, ek, el, em, en, eo, ep, bj, bk, bl, bm, bn, bo, ew, ex, ey, ez, eA, eB, eC, eD, eE, eF, eG, eH, eI, eJ, eK, eL, eM, eN, eO, eP, eQ, eR, eS, eT, eU, eV, eW, eX, eY, eZ, aa, ab, ac, ad, ae, af, ag, ah, ai, aj, ak, al, am, an, ao, ap, aq, ar, au, av, aw, ax, ay, az, aA, aB, aC, aD, aE, aF, aG, aH, aI, aJ, aK, aL, aM, aN, aO, aP, aQ, aR, aS, aT, aU, aV, aW, aX, aY, aZ, ba, bb, bc, bd, be, bf, bg, bh, bi], defers := [] } V) :
  elem25n4.wp Try.prog Q { tmps := #[e0, .pointer (some ⟨X, 0, none⟩), e2, e3, e4, e5, e6, e7, e8, e9, ea, eb, ec, ed, ee, ef, eg, eh, ei, ej, ek, el, em, en, eo, ep, eq, er, es, et, eu, ev, ew, ex, ey, ez, eA, eB, eC, eD, eE, eF, eG, eH, eI, eJ, eK, eL, eM, eN, eO, eP, eQ, eR, eS, eT, eU, eV, eW, eX, eY, eZ, aa, ab, ac, ad, ae, af, ag, ah, ai, aj, ak, al, am, an, ao, ap, aq, ar, au, av, aw, ax, ay, az, aA, aB, aC, aD, aE, aF, aG, aH, aI, aJ, aK, aL, aM, aN, aO, aP, aQ, aR, aS, aT, aU, aV, aW, aX, aY, aZ, ba, bb, bc, bd, be, bf, bg, bh, bi], defers := [] } W := by
 have C := Hi (Ce R T M U I0 I1 F D) Cf W hX.at_ hX.ns he; unfold NJ at C; rw [Kq, LZ] at C; have HQ := qh hQ; have HC := qh C; have HX := qh hX.box; clear hQ C hX he
 conv => arg 2; whnf
 have st0 : True := trivial
 go_wp2_with (first | (have q := st0; clear q st0; (refine wpList_load_row rfl 30 _ rfl X rfl 30 (Ce R T M U I0 I1 F D).cells (0, 0) _ HX.out Try.underlying30 rfl (by kernel_rfl) ?_; simp only [Act.put, qD, qE, qF])) | (go_at_call 27; refine HC.out.mono ?_; rintro e V ⟨v, rfl, hr, hv⟩; rcases hr with ⟨_, rfl⟩ | ⟨g, cap, rfl, hne, _⟩; rotate_left; exact absurd rfl hne; have HV := qh hv; clear hv)); exact HQ.out _ _ _ _ _ _ _ HV.out
theorem PH (R T F D X0 X1 X : Nat) (W : World) (hX : Bx (CY 2 1 R T F D (rgP X0) (rgQ X1) 1) Ge X W) (he : Env W) (Q : Exit → Act → World → Prop) (e0 e1 e2 e3 e4 e5 e6 e7 e8 ea eb ec ed ee ef eg eh ei ej ek el em en eo ep eq er es et eu ev ew ex ey ez eA eB eC eD eE eF eG eH eI eJ eK eL eM eN eO eP eQ eR eS eT eU eV eW eX eY eZ aa ab ac ad ae af ag ah ai aj ak al am an ao ap aq ar au av aw ax ay az aA aB aC aD aE aF aG aH aI aJ aK aL aM aN aO aP aQ aR aS aT aU aV aW aX aY aZ ba bb bc bd be bf bg bh bi : Value)
  (hQ : ∀ (v : Value) (bj bk bl bm bn bo : Value) (V : World), IntRow V v [0, 1] → Below W.heap.size W V → Q .normal { tmps := #[e0, e1, e2, e3, e4, e5, e6, e7, e8, .pointer (some ⟨X, 0, none⟩), v, .bool true, int i64 0, ed, ee, ef, eg, eh, ei, ej, ek, el, em, en, eo, ep, eq, er, es, et, eu, ev, ew, ex, ey, ez, eA, eB, eC, eD, eE, eF, eG, eH, eI, eJ, bj, bk, bl, bm, bn, bo, eQ, eR, eS, eT, eU, eV, eW, eX, eY, eZ, aa, ab, ac, ad, ae, af, ag, ah, ai, aj, ak, al, am, an, ao, ap, aq, ar, au, av, aw, ax, ay, az, aA, aB, aC, aD, aE, aF, aG, aH, aI, aJ, aK, aL, aM, aN, aO, aP, aQ, aR, aS, aT, aU, aV, aW, aX, aY, aZ, ba, bb, bc, bd, be, bf, bg, bh, bi], defers := [] } V) :
  elem25n7.wp Try.prog Q { tmps := #[e0, e1, e2, e3, e4, e5, e6, e7, e8, .pointer (some ⟨X, 0, none⟩), ea, eb, ec, ed, ee, ef, eg, eh, ei, ej, ek, el, em, en, eo, ep, eq, er, es, et, eu, ev, ew, ex, ey, ez, eA, eB, eC, eD, eE, eF, eG, eH, eI, eJ, eK, eL, eM, eN, eO, eP, eQ, eR, eS, eT, eU, eV, eW, eX, eY, eZ, aa, ab, ac, ad, ae, af, ag, ah, ai, aj, ak, al, am, an, ao, ap, aq, ar, au, av, aw, ax, ay, az, aA, aB, aC, aD, aE, aF, aG, aH, aI, aJ, aK, aL, aM, aN, aO, aP, aQ, aR, aS, aT, aU, aV, aW, aX, aY, aZ, ba, bb, bc, bd, be, bf, bg, bh, bi], defers := [] } W := by
 have C := Hi (CY 2 1 R T F D (rgP X0) (rgQ X1) 1) Ge W hX.at_ hX.ns he; unfold NJ at C; rw [Ke, LW] at C; have HQ := qh hQ; have HC := qh C; have HX := qh hX.box; clear hQ C hX he
 conv => arg 2; whnf
 have st0 : True := trivial
 go_wp2_with (first | (have q := st0; clear q st0; (refine wpList_load_row rfl 30 _ rfl X rfl 30 (CY 2 1 R T F D (rgP X0) (rgQ X1) 1).cells (0, 0) _ HX.out Try.underlying30 rfl (by kernel_rfl) ?_; simp only [Act.put, qD, qE, qF])) | (go_at_call 27; refine HC.out.mono ?_; rintro e V ⟨v, rfl, hr, hv⟩; have HV := qh (And.intro hr hv); clear hv hr)); exact HQ.out _ _ _ _ _ _ _ _ HV.out.1 HV.out.2
theorem PJ (R T F D X : Nat) (p0 p1 : Ph) (t0 t1 bar : Int) (W : World) (hX : W.heap[X]? = some (.cells (CY t0 t1 R T F D p0 p1 bar).cells 30 (0, 0))) (Q : Exit → Act → World → Prop) (e0 e1 e2 e3 e4 e5 e6 e7 e8 e9 ea eb ec ed ee ef eg eh ei ej ek el em en eo ep eq er es et eu ev ew ex ey ez eA eB eC eD eE eF eG eH eI eJ eK eL eM eN eO eP eQ eR eS eT eU eV eW eX eY eZ aa ab ac ad ae af ag ah ai aj ak al am an ao ap aq ar au av aw ax ay az aA aB aC aD aE aF aG aH aI aJ aK aL aM aN aO aP aQ aR aS aT aU aV aW aX aY aZ ba bb bc bd be bf bg bh : Value)
  (hQ : ∀ (bi bj : Value) (V : World), V.heap[X]? = some (.cells (CY 0 0 R T F D p0 p1 bar).cells 30 (0, 0)) → (∀ b, b ≠ X → V.heap[b]? = W.heap[b]?) → (∀ n, n ≤ X → Below n W V) → Q .normal { tmps := #[e0, e1, e2, e3, e4, e5, e6, e7, e8, e9, ea, eb, ec, .pointer (some ⟨X, 0, none⟩), ed, ee, ef, eg, eh, ei, ej, ek, el, em, en, eo, ep, eq, er, es, et, eu, ev, ew, ex, ey, ez, eA, eB, eC, eD, eE, eF, eG, eH, eI, eJ, eK, eL, eM, eN, eO, eP, bi, bj, eS, eT, eU, eV, eW, eX, eY, eZ, aa, ab, ac, ad, ae, af, ag, ah, ai, aj, ak, al, am, an, ao, ap, aq, ar, au, av, aw, ax, ay, az, aA, aB, aC, aD, aE, aF, aG, aH, aI, aJ, aK, aL, aM, aN, aO, aP, aQ, aR, aS, aT, aU, aV, aW, aX, aY, aZ, ba, bb, bc, bd, be, bf, bg, bh], defers := [] } V) :
  elem25n9.wp Try.prog Q { tmps := #[e0, e1, e2, e3, e4, e5, e6, e7, e8, e9, ea, eb, ec, .pointer (some ⟨X, 0, none⟩), ed, ee, ef, eg, eh, ei, ej, ek, el, em, en, eo, ep, eq, er, es, et, eu, ev, ew, ex, ey, ez, eA, eB, eC, eD, eE, eF, eG, eH, eI, eJ, eK, eL, eM, eN, eO, eP, eQ, eR, eS, eT, eU, eV, eW, eX, eY, eZ, aa, ab, ac, ad, ae, af, ag, ah, ai, aj, ak, al, am, an, ao, ap, aq, ar, au, av, aw, ax, ay, az, aA, aB, aC, aD, aE, aF, aG, aH, aI, aJ, aK, aL, aM, aN, aO, aP, aQ, aR, aS, aT, aU, aV, aW, aX, aY, aZ, ba, bb, bc, bd, be, bf, bg, bh], defers := [] } W := by
 have y4 : W.cell? ⟨X, 4, none⟩ = some (int i64 t0) := Aa hX 4 rfl; have y5 : W.cell? ⟨X, 5, none⟩ = some (int i64 t1) := Aa hX 5 rfl; have fz : ∀ q, W.frozen? ⟨X, q, none⟩ = false := fun q => (show FreeB W X from ⟨_, _, hX⟩).free q
 have hq := hQ; have g1 := Br (i := 4) (int i64 0) hX; have g2 := Br (i := 5) (int i64 0) g1; have HE : Hid (∃ V, (W.setCell ⟨X, 4, none⟩ (int i64 0)).setCell ⟨X, 5, none⟩ (int i64 0) = V ∧ V.heap[X]? = some (.cells (CY 0 0 R T F D p0 p1 bar).cells 30 (0, 0)) ∧ (∀ b, b ≠ X → V.heap[b]? = W.heap[b]?) ∧ (∀ n, n ≤ X → Below n W V)) := qh ⟨_, rfl, g2, fun b hb => by rw [Aj _ hb, Aj _ hb], fun n hn => ((Below.refl n W).setCell (p := ⟨X, 4, none⟩) hn _).setCell (p := ⟨X, 5, none⟩) hn _⟩; have HQ := qh hQ; obtain ⟨V, hV, h1, h2, h3⟩ := HE.out; have HV := qh (And.intro h1 (And.intro h2 h3)); clear hQ hq hX g1 g2 HE h1 h2 h3
 conv => arg 2; whnf
 go_wp2_with fail; exact HQ.out _ _ _ HV.out.1 HV.out.2.1 HV.out.2.2
theorem OP (R T F D X : Nat) (p0 p1 : Ph) (t0 t1 bar : Int) (W : World) (hX : W.heap[X]? = some (.cells (CY t0 t1 R T F D p0 p1 bar).cells 30 (0, 0))) (hD : W.heap[D]? = some (.cells #[sv [97], int i64 0, sv [113], int i64 1, int i64 1, .bool false] 73 (0, 0))) (Q : Exit → Act → World → Prop) (e0 e1 e2 e3 e4 e5 e6 e7 e8 e9 ea eb ec ed ee ef eg eh ei ej ek el em en eo ep eq er es et eu ev ew ex ey ez eA eB eC eD eE eF eG eH eI eJ eK eL eM eN eO eP eQ eR eS eT eU eV eW eX eY eZ aa ab ac ad ae af ag ah ai aj ak al am an ao ap aq ar au av aw ax ay az aA aB aC aD aE aF aG aH aI aJ aK aL aM aN aO aP aQ aR aS aT aU aV aW aX aY aZ ba bb bc bd be bf bg bh : Value)
  (hQ : ∀ (bi bj bk bl : Value) (V : World), V.heap[D]? = some (.cells #[sv [97], int i64 0, sv [113], int i64 1, int i64 2, .bool false] 73 (0, 0)) → (∀ b, b ≠ D → V.heap[b]? = W.heap[b]?) → (∀ n, n ≤ D → Below n W V) → Q .normal { tmps := #[e0, e1, e2, e3, e4, e5, e6, e7, e8, e9, ea, eb, ec, ed, .pointer (some ⟨X, 0, none⟩), ee, ef, eg, eh, ei, ej, ek, el, em, en, eo, ep, eq, er, es, et, eu, ev, ew, ex, ey, ez, eA, eB, eC, eD, eE, eF, eG, eH, eI, eJ, eK, eL, eM, eN, eO, eP, eQ, eR, eS, bi, bj, bk, bl, eX, eY, eZ, aa, ab, ac, ad, ae, af, ag, ah, ai, aj, ak, al, am, an, ao, ap, aq, ar, au, av, aw, ax, ay, az, aA, aB, aC, aD, aE, aF, aG, aH, aI, aJ, aK, aL, aM, aN, aO, aP, aQ, aR, aS, aT, aU, aV, aW, aX, aY, aZ, ba, bb, bc, bd, be, bf, bg, bh], defers := [] } V) :
  elem25n11.wp Try.prog Q { tmps := #[e0, e1, e2, e3, e4, e5, e6, e7, e8, e9, ea, eb, ec, ed, .pointer (some ⟨X, 0, none⟩), ee, ef, eg, eh, ei, ej, ek, el, em, en, eo, ep, eq, er, es, et, eu, ev, ew, ex, ey, ez, eA, eB, eC, eD, eE, eF, eG, eH, eI, eJ, eK, eL, eM, eN, eO, eP, eQ, eR, eS, eT, eU, eV, eW, eX, eY, eZ, aa, ab, ac, ad, ae, af, ag, ah, ai, aj, ak, al, am, an, ao, ap, aq, ar, au, av, aw, ax, ay, az, aA, aB, aC, aD, aE, aF, aG, aH, aI, aJ, aK, aL, aM, aN, aO, aP, aQ, aR, aS, aT, aU, aV, aW, aX, aY, aZ, ba, bb, bc, bd, be, bf, bg, bh], defers := [] } W := by
 have y11 : W.cell? ⟨X, 11, none⟩ = some (.slice (some ⟨D, 0, none⟩) 1 1) := Aa hX 11 rfl; have z4 : W.cell? ⟨D, 4, none⟩ = some (int i64 1) := Aa hD 4 rfl; have fz : W.frozen? ⟨D, 4, none⟩ = false := (show FreeB W D from ⟨_, _, hD⟩).free 4; have HE : Hid (∃ V, W.setCell ⟨D, 4, none⟩ (int i64 2) = V ∧ V.heap[D]? = some (.cells #[sv [97], int i64 0, sv [113], int i64 1, int i64 2, .bool false] 73 (0, 0)) ∧ (∀ b, b ≠ D → V.heap[b]? = W.heap[b]?) ∧ (∀ n, n ≤ D → Below n W V)) := qh ⟨_, rfl, Br (i := 4) (int i64 2) hD, fun b hb => Aj _ hb, fun n hn => (Below.refl n W).setCell (p := ⟨D, 4, none⟩) hn _⟩; have HQ := qh hQ; obtain ⟨V, hV, h1, h2, h3⟩ := HE.out; have HV := qh (And.intro h1 (And.intro h2 h3)); clear hQ hX hD HE h1 h2 h3
 conv => arg 2; whnf
 go_wp2_with fail; exact HQ.out _ _ _ _ _ HV.out.1 HV.out.2.1 HV.out.2.2
end
section
open Go Go.RowKit Go.Shelf
theorem OQ (v : Value) (W : World) (hv : IntRow W v [0, 1]) (Q : Exit → Act → World → Prop) (e0 e1 e4 e6 e9 ea eb ec ed ee ef eg eh ei ej ek el em en eo ep eq er es et eu ev ew ex ey ez eA eB eC eD eE eF eG eH eI eJ eK eL eM eN eO eP eQ eR eS eT eU eV eW eX eY eZ aa ab ac ad ae af ag ah ai aj ak al am an ao ap aq ar au av aw ax ay az aA aB aC aD aE aF aG aH aI aJ aK aL aM aN aO aP aQ aR aS aT aU aV aW aX aY aZ ba bb bc bd be bf : Value)
  (hQ : ∀ (bg bh bi bj bk bl bm bn bo bp bq br bs bt bu bv bw bx bz bA bB bC bD bE bF bG bH bI bJ bK bL : Value) (V : World), Below W.heap.size W V → Q .normal { tmps := #[e0, e1, int i64 2, int i64 0, e4, int i64 1, e6, .bool false, int i64 0, e9, v, .bool true, int i64 0, ea, eb, ec, ed, ee, ef, eg, eh, ei, ej, ek, el, em, en, eo, ep, eq, er, es, et, eu, ev, ew, ex, ey, ez, eA, eB, eC, eD, eE, eF, eG, eH, eI, eJ, eK, eL, eM, eN, eO, eP, eQ, eR, eS, eT, eU, bg, bh, bi, bj, bk, bl, bm, bn, bo, bp, bq, br, bs, bt, bu, bv, bw, bx, bz, bA, bB, bC, bD, bE, bF, bG, bH, bI, bJ, bK, bL, aC, aD, aE, aF, aG, aH, aI, aJ, aK, aL, aM, aN, aO, aP, aQ, aR, aS, aT, aU, aV, aW, aX, aY, aZ, ba, bb, bc, bd, be, bf], defers := [] } V) :
  elem25n12.wp Try.prog Q { tmps := #[e0, e1, int i64 2, int i64 0, e4, int i64 1, e6, .bool false, int i64 0, e9, v, .bool true, int i64 0, ea, eb, ec, ed, ee, ef, eg, eh, ei, ej, ek, el, em, en, eo, ep, eq, er, es, et, eu, ev, ew, ex, ey, ez, eA, eB, eC, eD, eE, eF, eG, eH, eI, eJ, eK, eL, eM, eN, eO, eP, eQ, eR, eS, eT, eU, eV, eW, eX, eY, eZ, aa, ab, ac, ad, ae, af, ag, ah, ai, aj, ak, al, am, an, ao, ap, aq, ar, au, av, aw, ax, ay, az, aA, aB, aC, aD, aE, aF, aG, aH, aI, aJ, aK, aL, aM, aN, aO, aP, aQ, aR, aS, aT, aU, aV, aW, aX, aY, aZ, ba, bb, bc, bd, be, bf], defers := [] } W := by
 obtain ⟨V1, xV, gV, bV, sV⟩ := Ai W #[int i64 0, int i64 1] 3
 have hl : IntRow V1 (.slice (some ⟨W.heap.size, 0, none⟩) 2 2) [0, 1] := Or.inr ⟨W.heap.size, 2, rfl, by simp, by simp, by decide, fun j x hj => by
  match j, hj with
  | 0, hj => cases hj; exact Aa gV 0 rfl
  | 1, hj => cases hj; exact Aa gV 1 rfl⟩
 have C := IM v _ [0, 1] [0, 1] V1 (hv.below bV) hl; have HQ := qh hQ; have HC := qh C; have HB := qh bV; clear hQ C hl hv gV bV sV
 conv => arg 2; whnf
 go_wp2_with (go_at_call 59; refine HC.out.mono ?_; rintro e V ⟨rfl, hb⟩; have HV := qh (Ag HB.out hb); clear hb); exact HQ.out _ _ _ _ _ _ _ _ _ _ _ _ _ _ _ _ _ _ _ _ _ _ _ _ _ _ _ _ _ _ _ _ HV.out
def zeroL : Ls := ⟨[], 0, 0, 0, 0, 0, none, 0, [], none, 0, [], none, 0, [], none, 0, [], none, 0, [], none, 0, []⟩
theorem FL (W : World) : zeroL.At W := ⟨IsRow.nil, IsRow.nil, IsRow.nil, IsRow.nil, Or.inl rfl, Nat.zero_le _, trivial, Or.inl rfl, Nat.zero_le _, trivial⟩
theorem Ie : AE zeroL [] = 170 := by kernel_rfl
theorem Gm : Bp zeroL.strip [] = 170 := by kernel_rfl
theorem OR (x1 x2 x3 x4 : Ls) (n1 n2 n3 n4 : List Int) (X1 X2 X3 X4 : Nat) (w W : World) (hE : ∀ V, Below w.heap.size w V → Env V) (hb : Below w.heap.size w W) (b1 : Bx x1 n1 X1 W) (b2 : Bx x2 n2 X2 W) (b3 : Bx x3 n3 X3 W) (b4 : Bx x4 n4 X4 W) (s1 : AE x1 n1 = 0) (s2 : AE x2 n2 = 180) (s3 : AE x3 n3 = 180) (s4 : AE x4 n4 = 180) (e0 e2 e3 e4 e5 e6 e7 e8 ea eb ec ed ee ef eg eh ei ej ek el em en eo ep eq er es et eu ev ew ex ey ez eA eB eC eD eE eF eG eH eI eJ eK eL eM eN eO eP eQ eR eS eT eU eV eW eX eY eZ aa ab ac ad ae af ag ah ai aj ak al am an ao ap aq ar au av aw ax ay az aA aB aC aD aE aF aG aH aI aJ aK aL aM aN aO aP aQ aR aS aT aU aV aW aX aY aZ ba bb bc bd be bf bg : Value) :
  (Ab 13 AF).wp Try.prog (bodyPost Try.prog Try.f25 (fun e w' => e = .returned (.bool true) ∧ Below w.heap.size w w')) { tmps := #[e0, .pointer (some ⟨X1, 0, none⟩), e2, e3, e4, e5, e6, e7, e8, .pointer (some ⟨X2, 0, none⟩), ea, eb, ec, .pointer (some ⟨X3, 0, none⟩), .pointer (some ⟨X4, 0, none⟩), ed, ee, ef, eg, eh, ei, ej, ek, el, em, en, eo, ep, eq, er, es, et, eu, ev, ew, ex, ey, ez, eA, eB, eC, eD, eE, eF, eG, eH, eI, eJ, eK, eL, eM, eN, eO, eP, eQ, eR, eS, eT, eU, eV, eW, eX, eY, eZ, aa, ab, ac, ad, ae, af, ag, ah, ai, aj, ak, al, am, an, ao, ap, aq, ar, au, av, aw, ax, ay, az, aA, aB, aC, aD, aE, aF, aG, aH, aI, aJ, aK, aL, aM, aN, aO, aP, aQ, aR, aS, aT, aU, aV, aW, aX, aY, aZ, ba, bb, bc, bd, be, bf, bg], defers := [] } W := by
 have HE := qh hE; have HBL := qh hb; have HB1 := qh b1; have HB2 := qh b2; have HB3 := qh b3; have HB4 := qh b4; have HS1 := qh s1; have HS2 := qh s2; have HS3 := qh s3; have HS4 := qh s4; clear hE hb b1 b2 b3 b4 s1 s2 s3 s4
 conv => arg 2; whnf
 have st0 : True := trivial
 go_wp2_with (first
  | (have q := st0; clear q; (refine wpList_load_row rfl 30 _ rfl X1 rfl 30 x1.cells (0, 0) _ HB1.out.box Try.underlying30 rfl (by kernel_rfl) ?_; simp only [Act.put, qD, qE, qF]); clear st0; have st1 : True := trivial)
  | (have q := st1; clear q; go_at_call 29; refine (Ck x1 n1 _ HB1.out.at_ HB1.out.ns (HE.out _ HBL.out)).mono ?_; unfold DD; rw [HS1.out]; rintro e U1 ⟨rfl, hv⟩; have C2 := qh (HB2.out.next hv); clear HB2; have HB2 := C2; clear C2; have C3 := qh (HB3.out.next hv); clear HB3; have HB3 := C3; clear C3; have C4 := qh (HB4.out.next hv); clear HB4; have HB4 := C4; clear C4; have CBL := qh (Ag HBL.out hv); clear HBL; have HBL := CBL; clear CBL hv; clear st1; have st2 : True := trivial)
  | (have q := st2; clear q; (refine BP (by kernel_rfl) 30 _ rfl X2 rfl 30 x2.cells (0, 0) _ HB2.out.box Try.underlying30 rfl (by kernel_rfl) ?_; simp only [Act.put, qD, qE, qF]); clear st2; have st3 : True := trivial)
  | (have q := st3; clear q; go_at_call 29; refine (Ck x2 n2 _ HB2.out.at_ HB2.out.ns (HE.out _ HBL.out)).mono ?_; unfold DD; rw [HS2.out]; rintro e U2 ⟨rfl, hv⟩; have C3 := qh (HB3.out.next hv); clear HB3; have HB3 := C3; clear C3; have C4 := qh (HB4.out.next hv); clear HB4; have HB4 := C4; clear C4; have CBL := qh (Ag HBL.out hv); clear HBL; have HBL := CBL; clear CBL hv; clear st3; have st4 : True := trivial)
  | (have q := st4; clear q; (refine BP (by kernel_rfl) 30 _ rfl X3 rfl 30 x3.cells (0, 0) _ HB3.out.box Try.underlying30 rfl (by kernel_rfl) ?_; simp only [Act.put, qD, qE, qF]); clear st4; have st5 : True := trivial)
  | (have q := st5; clear q; go_at_call 29; refine (Ck x3 n3 _ HB3.out.at_ HB3.out.ns (HE.out _ HBL.out)).mono ?_; unfold DD; rw [HS3.out]; rintro e U3 ⟨rfl, hv⟩; have C4 := qh (HB4.out.next hv); clear HB4; have HB4 := C4; clear C4; have CBL := qh (Ag HBL.out hv); clear HBL; have HBL := CBL; clear CBL hv; clear st5; have st6 : True := trivial)
  | (have q := st6; clear q; (refine BP (by kernel_rfl) 30 _ rfl X4 rfl 30 x4.cells (0, 0) _ HB4.out.box Try.underlying30 rfl (by kernel_rfl) ?_; simp only [Act.put, qD, qE, qF]); clear st6; have st7 : True := trivial)
  | (have q := st7; clear q; go_at_call 29; refine (Ck x4 n4 _ HB4.out.at_ HB4.out.ns (HE.out _ HBL.out)).mono ?_; unfold DD; rw [HS4.out]; rintro e U4 ⟨rfl, hv⟩; have CBL := qh (Ag HBL.out hv); clear HBL; have HBL := CBL; clear CBL hv; clear st7; have st8 : True := trivial)
  | (have q := st8; clear q; go_at_call 29; refine (Ck zeroL [] _ (FL _) trivial (HE.out _ HBL.out)).mono ?_; unfold DD; rw [Ie]; rintro e U5 ⟨rfl, hv⟩; have CBL := qh (Ag HBL.out hv); clear HBL; have HBL := CBL; clear CBL hv; clear st8; have st9 : True := trivial)
  | (have q := st9; clear q; go_at_call 16; refine (F1 zeroL [] _ (FL _) trivial (HE.out _ HBL.out)).mono ?_; unfold Gp; rw [Gm]; rintro e U6 ⟨rfl, hv⟩; have CBL := qh (Ag HBL.out hv); clear HBL; have HBL := CBL; clear CBL hv; clear st9; have st10 : True := trivial)
  | (have q := st10; clear q; go_at_call 16; refine (F1 zeroL [] _ (FL _) trivial (HE.out _ HBL.out)).mono ?_; unfold Gp; rw [Gm]; rintro e U7 ⟨rfl, hv⟩; have CBL := qh (Ag HBL.out hv); clear HBL; have HBL := CBL; clear CBL hv; clear st10; have st11 : True := trivial))
 go_ret; exact ⟨rfl, HBL.out⟩
end
section
open Go Go.RowKit Go.Shelf Go.Deep
structure RK (W V : World) (F X : Nat) (xs cs : Array Value) : Prop where
 grow : W.grownBy V (some F)
 f : V.heap[F]? = some (.cells cs 57 (0, 0))
 x : V.heap[X]? = some (.cells xs 30 (0, 0))
theorem RK.below {W V V' : World} {F X : Nat} {xs cs : Array Value} (h : RK W V F X xs cs) (hb : Below V.heap.size V V') : RK W V' F X xs cs := ⟨B8 h.grow (Cc hb), Am hb h.f, Am hb h.x⟩
theorem RK.set {W V : World} {F X : Nat} {xs cs : Array Value} (h : RK W V F X xs cs) (hne : X ≠ F) (i : Nat) (v : Value) : RK W (V.setCell ⟨F, i, none⟩ v) F X xs (cs.setIfInBounds i v) :=
 ⟨B8 h.grow ⟨rfl, rfl, rfl, by rw [Ei]; exact qn _, fun k _ hk => Aj _ (fun e => hk (by rw [e]))⟩, Br v h.f, by rw [Aj _ hne]; exact h.x⟩
theorem RK.start {W : World} {F X : Nat} {xs cs : Array Value} (h1 : W.heap[F]? = some (.cells cs 57 (0, 0))) (h2 : W.heap[X]? = some (.cells xs 30 (0, 0))) : RK W W F X xs cs := ⟨World.grownBy.refl _ _, h1, h2⟩
abbrev rX (X F : Nat) (V : World) : Prop := V.cell? ⟨X, 10, none⟩ = some (.slice (some ⟨F, 0, none⟩) 2 2)
theorem RK.s {W V : World} {R T M U I0 I1 F D X : Nat} {cs : Array Value} (h : RK W V F X (Ce R T M U I0 I1 F D).cells cs) : rX X F V := Aa h.x 10 rfl
theorem PG (R T M U I0 I1 F D X : Nat) (W : World) (hF : W.heap[F]? = some (.cells #[sv [112], .slice (some ⟨I0, 0, none⟩) 1 1, sv [113], .slice (some ⟨I1, 0, none⟩) 1 1] 57 (0, 0))) (hX : W.heap[X]? = some (.cells (Ce R T M U I0 I1 F D).cells 30 (0, 0))) (hne : X ≠ F) (K : Act → World → Prop) (e0 e1 e2 e3 e4 e5 e6 e7 e8 ea eb ec ed ee ef eg eh ei ej ek el em en eo ep eq er es et eu ev ew ex ey ez eA eB eC eD eE eF eG eH eI eJ eK eL eM eN eO eP eQ eR eS eT eU eV eW eX eY eZ aa ab ac ad ae af ag ah ai aj ak al am an ao ap aq ar au av aw ax ay az aA aB aC aD aE aF aG aH aI aJ aK aL aM aN aO aP aQ aR aS aT aU aV aW aX aY aZ ba bb bc bd be bf bg bh bi : Value)
  (hQ : ∀ (X0 X1 : Nat) (V : World), RK W V F X (Ce R T M U I0 I1 F D).cells #[sv [112], .slice (some ⟨X0, 0, none⟩) 1 1, sv [113], .slice (some ⟨X1, 0, none⟩) 2 2] → V.heap[X0]? = some (.cells #[int i64 4, int i64 0, sv [113], int i64 1, .slice none 0 0, .slice none 0 0] 78 (0, 0)) → V.heap[X1]? = some (.cells #[int i64 4, int i64 0, sv [113], int i64 1, .slice none 0 0, .slice none 0 0, int i64 4, int i64 0, sv [112], int i64 0, .slice none 0 0, .slice none 0 0] 78 (0, 0)) → W.heap.size ≤ X0 → W.heap.size ≤ X1 → ∀ (bj bk bl bm bn bo bp bq br bs bt bu bv : Value), K { tmps := #[e0, e1, e2, e3, e4, e5, e6, e7, e8, .pointer (some ⟨X, 0, none⟩), ea, eb, ec, ed, ee, ef, eg, eh, ei, ej, ek, el, em, en, eo, ep, eq, er, es, et, eu, ev, ew, bj, bk, bl, bm, bn, bo, bp, bq, br, bs, bt, bu, bv, eK, eL, eM, eN, eO, eP, eQ, eR, eS, eT, eU, eV, eW, eX, eY, eZ, aa, ab, ac, ad, ae, af, ag, ah, ai, aj, ak, al, am, an, ao, ap, aq, ar, au, av, aw, ax, ay, az, aA, aB, aC, aD, aE, aF, aG, aH, aI, aJ, aK, aL, aM, aN, aO, aP, aQ, aR, aS, aT, aU, aV, aW, aX, aY, aZ, ba, bb, bc, bd, be, bf, bg, bh, bi], defers := [] } V) :
  elem25n6.wp Try.prog (Exit.then K (fun _ _ _ => False)) { tmps := #[e0, e1, e2, e3, e4, e5, e6, e7, e8, .pointer (some ⟨X, 0, none⟩), ea, eb, ec, ed, ee, ef, eg, eh, ei, ej, ek, el, em, en, eo, ep, eq, er, es, et, eu, ev, ew, ex, ey, ez, eA, eB, eC, eD, eE, eF, eG, eH, eI, eJ, eK, eL, eM, eN, eO, eP, eQ, eR, eS, eT, eU, eV, eW, eX, eY, eZ, aa, ab, ac, ad, ae, af, ag, ah, ai, aj, ak, al, am, an, ao, ap, aq, ar, au, av, aw, ax, ay, az, aA, aB, aC, aD, aE, aF, aG, aH, aI, aJ, aK, aL, aM, aN, aO, aP, aQ, aR, aS, aT, aU, aV, aW, aX, aY, aZ, ba, bb, bc, bd, be, bf, bg, bh, bi], defers := [] } W := by
 obtain ⟨wd, hwd⟩ : ∃ wd : World, { W with drawn := W.drawn + 1 } = wd := ⟨_, rfl⟩; have hbd : Below W.heap.size W wd := by rw [← hwd]; exact (Below.refl _ _).drew
 have HK := qh ((RK.start hF hX).below hbd); have HFL : Hid (F < W.heap.size) := qh (qs.1 hF).1; have HQ := qh hQ; have HWD := qh hwd; have HNE := qh hne; clear hQ hwd hF hX hne hbd
 conv => arg 2; whnf
 refine wp_region_held (S := rX X F) (by kernel_rfl) ?_; rw [HWD.out]; refine tq 0 _ (.pointer (some ⟨X, 10, none⟩)) rfl (by kernel_rfl) (fun _ _ _ h => h) (Or.inl ⟨by kernel_rfl, fun V hb => by go_simp⟩) HK.out.s ?_
 try (simp only [Act.put, List.getElem_toArray, List.getElem_cons_zero, List.setIfInBounds_toArray, List.set_cons_zero, List.set_cons_succ])
 refine tq 1 _ (.slice (some ⟨F, 0, none⟩) 2 2) rfl (by kernel_rfl) (fun _ _ _ h => h) (Or.inl ⟨by kernel_rfl, fun V hb => by have q0 := hb; go_simp⟩) HK.out.s ?_
 try (simp only [Act.put, qA, qB, qC, qD, qE, qF])
 refine tq 2 _ (.pointer (some ⟨X, 10, none⟩)) rfl (by kernel_rfl) (fun _ _ _ h => h) (Or.inl ⟨by kernel_rfl, fun V hb => by go_simp⟩) HK.out.s ?_
 try (simp only [Act.put, qA, qB, qC, qD, qE, qF])
 refine tq 3 _ (.slice (some ⟨F, 0, none⟩) 2 2) rfl (by kernel_rfl) (fun _ _ _ h => h) (Or.inl ⟨by kernel_rfl, fun V hb => by have q0 := hb; go_simp⟩) HK.out.s ?_
 try (simp only [Act.put, qA, qB, qC, qD, qE, qF])
 refine tr 4 _ (by kernel_rfl) rfl fun K1 hK => ?_
 go_simp; refine (GE _).mono ?_; rintro e V4_0 ⟨rfl, hb⟩; have HN := qh (HK.out.below hb); clear HK hb; refine hK.out _ _ HN.out.s (fun _ => ?_); clear hK K1; have HK := HN; clear HN
 try (simp only [Act.put, qA, qB, qC, qD, qE, qF])
 refine wpAnyH_ready (rs := [5, 6]) (by kernel_rfl) (by simp) ?_; refine AllReadyH.cons (o := _) rfl (fun K1 hK => ?_) (AllReadyH.cons (o := _) rfl (fun K1 hK => ?_) AllReadyH.nil)
 ·obtain ⟨A5_1, xA, gA, bA, sA⟩ := Ai V4_0 #[int i64 4, int i64 0, sv [113], int i64 1, .slice none 0 0, .slice none 0 0] 78
  have HN := qh (HK.out.below bA); have H0 := qh gA; have L0 : Hid (W.heap.size ≤ V4_0.heap.size) := qh HK.out.grow.size; clear HK gA bA sA; go_simp; clear xA; refine hK.out _ _ HN.out.s (fun _ => ?_); clear hK K1; have HK := HN; clear HN
  try (simp only [Act.put, qA, qB, qC, qD, qE, qF])
  refine tr 6 _ (by kernel_rfl) rfl fun K1 hK => ?_
  go_simp; refine (GE _).mono ?_; rintro e V6_2 ⟨rfl, hb⟩; have HN := qh (HK.out.below hb); have HT := qh (Am hb H0.out); clear H0; have H0 := HT; clear HT; clear HK hb; refine hK.out _ _ HN.out.s (fun _ => ?_); clear hK K1; have HK := HN; clear HN
  try (simp only [Act.put, qA, qB, qC, qD, qE, qF])
  refine tr 7 _ (by kernel_rfl) rfl fun K1 hK => ?_
  go_simp; refine (F7 _).mono ?_; rintro e V7_3 ⟨rfl, hb⟩; have HN := qh (HK.out.below hb); have HT := qh (Am hb H0.out); clear H0; have H0 := HT; clear HT; clear HK hb; refine hK.out _ _ HN.out.s (fun _ => ?_); clear hK K1; have HK := HN; clear HN
  try (simp only [Act.put, qA, qB, qC, qD, qE, qF])
  refine tq 9 _ (.pointer (some ⟨F, 0, none⟩)) rfl (by kernel_rfl) (fun _ _ _ h => h) (Or.inl ⟨by kernel_rfl, fun V hb => by go_simp⟩) HK.out.s ?_
  try (simp only [Act.put, qA, qB, qC, qD, qE, qF])
  refine tq 10 _ (.pointer (some ⟨F, 1, none⟩)) rfl (by kernel_rfl) (fun _ _ _ h => h) (Or.inl ⟨by kernel_rfl, fun V hb => by go_simp⟩) HK.out.s ?_
  try (simp only [Act.put, qA, qB, qC, qD, qE, qF])
  refine wpAnyH_ready (rs := [8, 11]) (by kernel_rfl) (by simp) ?_; refine AllReadyH.cons (o := _) rfl (fun K1 hK => ?_) (AllReadyH.cons (o := _) rfl (fun K1 hK => ?_) AllReadyH.nil)
  ·obtain ⟨A8_6, xA, gA, bA, sA⟩ := Ai V7_3 #[int i64 4, int i64 0, sv [113], int i64 1, .slice none 0 0, .slice none 0 0, int i64 4, int i64 0, sv [112], int i64 0, .slice none 0 0, .slice none 0 0] 78
   have HN := qh (HK.out.below bA); have HT := qh (Am bA H0.out); clear H0; have H0 := HT; clear HT; have H1 := qh gA; have L1 : Hid (W.heap.size ≤ V7_3.heap.size) := qh HK.out.grow.size; clear HK gA bA sA; go_simp; clear xA; refine hK.out _ _ HN.out.s (fun _ => ?_); clear hK K1; have HK := HN; clear HN
   try (simp only [Act.put, qA, qB, qC, qD, qE, qF])
   refine tr 11 _ (by kernel_rfl) rfl fun K1 hK => ?_
   obtain ⟨B11_7, xB⟩ : ∃ B, A8_6.setCell ⟨F, 1, none⟩ (.slice (some ⟨V4_0.heap.size, 0, none⟩) 1 1) = B := ⟨_, rfl⟩; have cF : A8_6.cell? ⟨F, 1, none⟩ = some (.slice (some ⟨I0, 0, none⟩) 1 1) := (Aa HK.out.f 1 rfl); have fF : A8_6.frozen? ⟨F, 1, none⟩ = false := (show FreeB A8_6 F from ⟨_, _, HK.out.f⟩).free 1; have hn := HK.out.set HNE.out 1 (.slice (some ⟨V4_0.heap.size, 0, none⟩) 1 1); rw [xB] at hn; have HN := qh hn; have ht := Aj (i := 1) (.slice (some ⟨V4_0.heap.size, 0, none⟩) 1 1) (show V4_0.heap.size ≠ F by have := L0.out; have := HFL.out; omega) (W := A8_6); rw [xB] at ht; have HT := qh (ht.trans H0.out); clear H0 ht; have H0 := HT; clear HT; have ht := Aj (i := 1) (.slice (some ⟨V4_0.heap.size, 0, none⟩) 1 1) (show V7_3.heap.size ≠ F by have := L1.out; have := HFL.out; omega) (W := A8_6); rw [xB] at ht; have HT := qh (ht.trans H1.out); clear H1 ht; have H1 := HT; clear HT; clear HK hn; go_simp; clear xB cF fF; refine hK.out _ _ HN.out.s (fun _ => ?_); clear hK K1; have HK := HN; clear HN
   try (simp only [Act.put, qA, qB, qC, qD, qE, qF])
   refine tq 12 _ (.pointer (some ⟨F, 2, none⟩)) rfl (by kernel_rfl) (fun _ _ _ h => h) (Or.inl ⟨by kernel_rfl, fun V hb => by go_simp⟩) HK.out.s ?_
   try (simp only [Act.put, qA, qB, qC, qD, qE, qF])
   refine tq 13 _ (.pointer (some ⟨F, 3, none⟩)) rfl (by kernel_rfl) (fun _ _ _ h => h) (Or.inl ⟨by kernel_rfl, fun V hb => by go_simp⟩) HK.out.s ?_
   try (simp only [Act.put, qA, qB, qC, qD, qE, qF])
   refine tr 14 _ (by kernel_rfl) rfl fun K1 hK => ?_
   obtain ⟨B14_10, xB⟩ : ∃ B, B11_7.setCell ⟨F, 3, none⟩ (.slice (some ⟨V7_3.heap.size, 0, none⟩) 2 2) = B := ⟨_, rfl⟩; have cF : B11_7.cell? ⟨F, 3, none⟩ = some (.slice (some ⟨I1, 0, none⟩) 1 1) := (Aa HK.out.f 3 rfl); have fF : B11_7.frozen? ⟨F, 3, none⟩ = false := (show FreeB B11_7 F from ⟨_, _, HK.out.f⟩).free 3; have hn := HK.out.set HNE.out 3 (.slice (some ⟨V7_3.heap.size, 0, none⟩) 2 2); rw [xB] at hn; have HN := qh hn; have ht := Aj (i := 3) (.slice (some ⟨V7_3.heap.size, 0, none⟩) 2 2) (show V4_0.heap.size ≠ F by have := L0.out; have := HFL.out; omega) (W := B11_7); rw [xB] at ht; have HT := qh (ht.trans H0.out); clear H0 ht; have H0 := HT; clear HT; have ht := Aj (i := 3) (.slice (some ⟨V7_3.heap.size, 0, none⟩) 2 2) (show V7_3.heap.size ≠ F by have := L1.out; have := HFL.out; omega) (W := B11_7); rw [xB] at ht; have HT := qh (ht.trans H1.out); clear H1 ht; have H1 := HT; clear HT; clear HK hn; go_simp; clear xB cF fF; refine hK.out _ _ HN.out.s (fun _ => ?_); clear hK K1; have HK := HN; clear HN
   try (simp only [Act.put, qA, qB, qC, qD, qE, qF])
   refine wpAnyH_done (by kernel_rfl) ?_ _; exact HQ.out _ _ _ HK.out H0.out H1.out L0.out L1.out _ _ _ _ _ _ _ _ _ _ _ _ _
  ·obtain ⟨B11_6, xB⟩ : ∃ B, V7_3.setCell ⟨F, 1, none⟩ (.slice (some ⟨V4_0.heap.size, 0, none⟩) 1 1) = B := ⟨_, rfl⟩
   have cF : V7_3.cell? ⟨F, 1, none⟩ = some (.slice (some ⟨I0, 0, none⟩) 1 1) := (Aa HK.out.f 1 rfl); have fF : V7_3.frozen? ⟨F, 1, none⟩ = false := (show FreeB V7_3 F from ⟨_, _, HK.out.f⟩).free 1; have hn := HK.out.set HNE.out 1 (.slice (some ⟨V4_0.heap.size, 0, none⟩) 1 1); rw [xB] at hn; have HN := qh hn; have ht := Aj (i := 1) (.slice (some ⟨V4_0.heap.size, 0, none⟩) 1 1) (show V4_0.heap.size ≠ F by have := L0.out; have := HFL.out; omega) (W := V7_3); rw [xB] at ht; have HT := qh (ht.trans H0.out); clear H0 ht; have H0 := HT; clear HT; clear HK hn; go_simp; clear xB cF fF; refine hK.out _ _ HN.out.s (fun _ => ?_); clear hK K1; have HK := HN; clear HN
   try (simp only [Act.put, qA, qB, qC, qD, qE, qF])
   refine tr 8 _ (by kernel_rfl) rfl fun K1 hK => ?_
   obtain ⟨A8_7, xA, gA, bA, sA⟩ := Ai B11_6 #[int i64 4, int i64 0, sv [113], int i64 1, .slice none 0 0, .slice none 0 0, int i64 4, int i64 0, sv [112], int i64 0, .slice none 0 0, .slice none 0 0] 78; have HN := qh (HK.out.below bA); have HT := qh (Am bA H0.out); clear H0; have H0 := HT; clear HT; have H1 := qh gA; have L1 : Hid (W.heap.size ≤ B11_6.heap.size) := qh HK.out.grow.size; clear HK gA bA sA; go_simp; clear xA; refine hK.out _ _ HN.out.s (fun _ => ?_); clear hK K1; have HK := HN; clear HN
   try (simp only [Act.put, qA, qB, qC, qD, qE, qF])
   refine tq 12 _ (.pointer (some ⟨F, 2, none⟩)) rfl (by kernel_rfl) (fun _ _ _ h => h) (Or.inl ⟨by kernel_rfl, fun V hb => by go_simp⟩) HK.out.s ?_
   try (simp only [Act.put, qA, qB, qC, qD, qE, qF])
   refine tq 13 _ (.pointer (some ⟨F, 3, none⟩)) rfl (by kernel_rfl) (fun _ _ _ h => h) (Or.inl ⟨by kernel_rfl, fun V hb => by go_simp⟩) HK.out.s ?_
   try (simp only [Act.put, qA, qB, qC, qD, qE, qF])
   refine tr 14 _ (by kernel_rfl) rfl fun K1 hK => ?_
   obtain ⟨B14_10, xB⟩ : ∃ B, A8_7.setCell ⟨F, 3, none⟩ (.slice (some ⟨B11_6.heap.size, 0, none⟩) 2 2) = B := ⟨_, rfl⟩; have cF : A8_7.cell? ⟨F, 3, none⟩ = some (.slice (some ⟨I1, 0, none⟩) 1 1) := (Aa HK.out.f 3 rfl); have fF : A8_7.frozen? ⟨F, 3, none⟩ = false := (show FreeB A8_7 F from ⟨_, _, HK.out.f⟩).free 3; have hn := HK.out.set HNE.out 3 (.slice (some ⟨B11_6.heap.size, 0, none⟩) 2 2); rw [xB] at hn; have HN := qh hn; have ht := Aj (i := 3) (.slice (some ⟨B11_6.heap.size, 0, none⟩) 2 2) (show V4_0.heap.size ≠ F by have := L0.out; have := HFL.out; omega) (W := A8_7); rw [xB] at ht; have HT := qh (ht.trans H0.out); clear H0 ht; have H0 := HT; clear HT; have ht := Aj (i := 3) (.slice (some ⟨B11_6.heap.size, 0, none⟩) 2 2) (show B11_6.heap.size ≠ F by have := L1.out; have := HFL.out; omega) (W := A8_7); rw [xB] at ht; have HT := qh (ht.trans H1.out); clear H1 ht; have H1 := HT; clear HT; clear HK hn; go_simp; clear xB cF fF; refine hK.out _ _ HN.out.s (fun _ => ?_); clear hK K1; have HK := HN; clear HN
   try (simp only [Act.put, qA, qB, qC, qD, qE, qF])
   refine wpAnyH_done (by kernel_rfl) ?_ _; exact HQ.out _ _ _ HK.out H0.out H1.out L0.out L1.out _ _ _ _ _ _ _ _ _ _ _ _ _
 ·go_simp
  refine (GE _).mono ?_; rintro e V6_1 ⟨rfl, hb⟩; have HN := qh (HK.out.below hb); clear HK hb; refine hK.out _ _ HN.out.s (fun _ => ?_); clear hK K1; have HK := HN; clear HN
  try (simp only [Act.put, qA, qB, qC, qD, qE, qF])
  refine wpAnyH_ready (rs := [5, 7]) (by kernel_rfl) (by simp) ?_; refine AllReadyH.cons (o := _) rfl (fun K1 hK => ?_) (AllReadyH.cons (o := _) rfl (fun K1 hK => ?_) AllReadyH.nil)
  ·obtain ⟨A5_2, xA, gA, bA, sA⟩ := Ai V6_1 #[int i64 4, int i64 0, sv [113], int i64 1, .slice none 0 0, .slice none 0 0] 78
   have HN := qh (HK.out.below bA); have H0 := qh gA; have L0 : Hid (W.heap.size ≤ V6_1.heap.size) := qh HK.out.grow.size; clear HK gA bA sA; go_simp; clear xA; refine hK.out _ _ HN.out.s (fun _ => ?_); clear hK K1; have HK := HN; clear HN
   try (simp only [Act.put, qA, qB, qC, qD, qE, qF])
   refine tr 7 _ (by kernel_rfl) rfl fun K1 hK => ?_
   go_simp; refine (F7 _).mono ?_; rintro e V7_3 ⟨rfl, hb⟩; have HN := qh (HK.out.below hb); have HT := qh (Am hb H0.out); clear H0; have H0 := HT; clear HT; clear HK hb; refine hK.out _ _ HN.out.s (fun _ => ?_); clear hK K1; have HK := HN; clear HN
   try (simp only [Act.put, qA, qB, qC, qD, qE, qF])
   refine tq 9 _ (.pointer (some ⟨F, 0, none⟩)) rfl (by kernel_rfl) (fun _ _ _ h => h) (Or.inl ⟨by kernel_rfl, fun V hb => by go_simp⟩) HK.out.s ?_
   try (simp only [Act.put, qA, qB, qC, qD, qE, qF])
   refine tq 10 _ (.pointer (some ⟨F, 1, none⟩)) rfl (by kernel_rfl) (fun _ _ _ h => h) (Or.inl ⟨by kernel_rfl, fun V hb => by go_simp⟩) HK.out.s ?_
   try (simp only [Act.put, qA, qB, qC, qD, qE, qF])
   refine wpAnyH_ready (rs := [8, 11]) (by kernel_rfl) (by simp) ?_; refine AllReadyH.cons (o := _) rfl (fun K1 hK => ?_) (AllReadyH.cons (o := _) rfl (fun K1 hK => ?_) AllReadyH.nil)
   ·obtain ⟨A8_6, xA, gA, bA, sA⟩ := Ai V7_3 #[int i64 4, int i64 0, sv [113], int i64 1, .slice none 0 0, .slice none 0 0, int i64 4, int i64 0, sv [112], int i64 0, .slice none 0 0, .slice none 0 0] 78
    have HN := qh (HK.out.below bA); have HT := qh (Am bA H0.out); clear H0; have H0 := HT; clear HT; have H1 := qh gA; have L1 : Hid (W.heap.size ≤ V7_3.heap.size) := qh HK.out.grow.size; clear HK gA bA sA; go_simp; clear xA; refine hK.out _ _ HN.out.s (fun _ => ?_); clear hK K1; have HK := HN; clear HN
    try (simp only [Act.put, qA, qB, qC, qD, qE, qF])
    refine tr 11 _ (by kernel_rfl) rfl fun K1 hK => ?_
    obtain ⟨B11_7, xB⟩ : ∃ B, A8_6.setCell ⟨F, 1, none⟩ (.slice (some ⟨V6_1.heap.size, 0, none⟩) 1 1) = B := ⟨_, rfl⟩; have cF : A8_6.cell? ⟨F, 1, none⟩ = some (.slice (some ⟨I0, 0, none⟩) 1 1) := (Aa HK.out.f 1 rfl); have fF : A8_6.frozen? ⟨F, 1, none⟩ = false := (show FreeB A8_6 F from ⟨_, _, HK.out.f⟩).free 1; have hn := HK.out.set HNE.out 1 (.slice (some ⟨V6_1.heap.size, 0, none⟩) 1 1); rw [xB] at hn; have HN := qh hn; have ht := Aj (i := 1) (.slice (some ⟨V6_1.heap.size, 0, none⟩) 1 1) (show V6_1.heap.size ≠ F by have := L0.out; have := HFL.out; omega) (W := A8_6); rw [xB] at ht; have HT := qh (ht.trans H0.out); clear H0 ht; have H0 := HT; clear HT; have ht := Aj (i := 1) (.slice (some ⟨V6_1.heap.size, 0, none⟩) 1 1) (show V7_3.heap.size ≠ F by have := L1.out; have := HFL.out; omega) (W := A8_6); rw [xB] at ht; have HT := qh (ht.trans H1.out); clear H1 ht; have H1 := HT; clear HT; clear HK hn; go_simp; clear xB cF fF; refine hK.out _ _ HN.out.s (fun _ => ?_); clear hK K1; have HK := HN; clear HN
    try (simp only [Act.put, qA, qB, qC, qD, qE, qF])
    refine tq 12 _ (.pointer (some ⟨F, 2, none⟩)) rfl (by kernel_rfl) (fun _ _ _ h => h) (Or.inl ⟨by kernel_rfl, fun V hb => by go_simp⟩) HK.out.s ?_
    try (simp only [Act.put, qA, qB, qC, qD, qE, qF])
    refine tq 13 _ (.pointer (some ⟨F, 3, none⟩)) rfl (by kernel_rfl) (fun _ _ _ h => h) (Or.inl ⟨by kernel_rfl, fun V hb => by go_simp⟩) HK.out.s ?_
    try (simp only [Act.put, qA, qB, qC, qD, qE, qF])
    refine tr 14 _ (by kernel_rfl) rfl fun K1 hK => ?_
    obtain ⟨B14_10, xB⟩ : ∃ B, B11_7.setCell ⟨F, 3, none⟩ (.slice (some ⟨V7_3.heap.size, 0, none⟩) 2 2) = B := ⟨_, rfl⟩; have cF : B11_7.cell? ⟨F, 3, none⟩ = some (.slice (some ⟨I1, 0, none⟩) 1 1) := (Aa HK.out.f 3 rfl); have fF : B11_7.frozen? ⟨F, 3, none⟩ = false := (show FreeB B11_7 F from ⟨_, _, HK.out.f⟩).free 3; have hn := HK.out.set HNE.out 3 (.slice (some ⟨V7_3.heap.size, 0, none⟩) 2 2); rw [xB] at hn; have HN := qh hn; have ht := Aj (i := 3) (.slice (some ⟨V7_3.heap.size, 0, none⟩) 2 2) (show V6_1.heap.size ≠ F by have := L0.out; have := HFL.out; omega) (W := B11_7); rw [xB] at ht; have HT := qh (ht.trans H0.out); clear H0 ht; have H0 := HT; clear HT; have ht := Aj (i := 3) (.slice (some ⟨V7_3.heap.size, 0, none⟩) 2 2) (show V7_3.heap.size ≠ F by have := L1.out; have := HFL.out; omega) (W := B11_7); rw [xB] at ht; have HT := qh (ht.trans H1.out); clear H1 ht; have H1 := HT; clear HT; clear HK hn; go_simp; clear xB cF fF; refine hK.out _ _ HN.out.s (fun _ => ?_); clear hK K1; have HK := HN; clear HN
    try (simp only [Act.put, qA, qB, qC, qD, qE, qF])
    refine wpAnyH_done (by kernel_rfl) ?_ _; exact HQ.out _ _ _ HK.out H0.out H1.out L0.out L1.out _ _ _ _ _ _ _ _ _ _ _ _ _
   ·obtain ⟨B11_6, xB⟩ : ∃ B, V7_3.setCell ⟨F, 1, none⟩ (.slice (some ⟨V6_1.heap.size, 0, none⟩) 1 1) = B := ⟨_, rfl⟩
    have cF : V7_3.cell? ⟨F, 1, none⟩ = some (.slice (some ⟨I0, 0, none⟩) 1 1) := (Aa HK.out.f 1 rfl); have fF : V7_3.frozen? ⟨F, 1, none⟩ = false := (show FreeB V7_3 F from ⟨_, _, HK.out.f⟩).free 1; have hn := HK.out.set HNE.out 1 (.slice (some ⟨V6_1.heap.size, 0, none⟩) 1 1); rw [xB] at hn; have HN := qh hn; have ht := Aj (i := 1) (.slice (some ⟨V6_1.heap.size, 0, none⟩) 1 1) (show V6_1.heap.size ≠ F by have := L0.out; have := HFL.out; omega) (W := V7_3); rw [xB] at ht; have HT := qh (ht.trans H0.out); clear H0 ht; have H0 := HT; clear HT; clear HK hn; go_simp; clear xB cF fF; refine hK.out _ _ HN.out.s (fun _ => ?_); clear hK K1; have HK := HN; clear HN
    try (simp only [Act.put, qA, qB, qC, qD, qE, qF])
    refine tr 8 _ (by kernel_rfl) rfl fun K1 hK => ?_
    obtain ⟨A8_7, xA, gA, bA, sA⟩ := Ai B11_6 #[int i64 4, int i64 0, sv [113], int i64 1, .slice none 0 0, .slice none 0 0, int i64 4, int i64 0, sv [112], int i64 0, .slice none 0 0, .slice none 0 0] 78; have HN := qh (HK.out.below bA); have HT := qh (Am bA H0.out); clear H0; have H0 := HT; clear HT; have H1 := qh gA; have L1 : Hid (W.heap.size ≤ B11_6.heap.size) := qh HK.out.grow.size; clear HK gA bA sA; go_simp; clear xA; refine hK.out _ _ HN.out.s (fun _ => ?_); clear hK K1; have HK := HN; clear HN
    try (simp only [Act.put, qA, qB, qC, qD, qE, qF])
    refine tq 12 _ (.pointer (some ⟨F, 2, none⟩)) rfl (by kernel_rfl) (fun _ _ _ h => h) (Or.inl ⟨by kernel_rfl, fun V hb => by go_simp⟩) HK.out.s ?_
    try (simp only [Act.put, qA, qB, qC, qD, qE, qF])
    refine tq 13 _ (.pointer (some ⟨F, 3, none⟩)) rfl (by kernel_rfl) (fun _ _ _ h => h) (Or.inl ⟨by kernel_rfl, fun V hb => by go_simp⟩) HK.out.s ?_
    try (simp only [Act.put, qA, qB, qC, qD, qE, qF])
    refine tr 14 _ (by kernel_rfl) rfl fun K1 hK => ?_
    obtain ⟨B14_10, xB⟩ : ∃ B, A8_7.setCell ⟨F, 3, none⟩ (.slice (some ⟨B11_6.heap.size, 0, none⟩) 2 2) = B := ⟨_, rfl⟩; have cF : A8_7.cell? ⟨F, 3, none⟩ = some (.slice (some ⟨I1, 0, none⟩) 1 1) := (Aa HK.out.f 3 rfl); have fF : A8_7.frozen? ⟨F, 3, none⟩ = false := (show FreeB A8_7 F from ⟨_, _, HK.out.f⟩).free 3; have hn := HK.out.set HNE.out 3 (.slice (some ⟨B11_6.heap.size, 0, none⟩) 2 2); rw [xB] at hn; have HN := qh hn; have ht := Aj (i := 3) (.slice (some ⟨B11_6.heap.size, 0, none⟩) 2 2) (show V6_1.heap.size ≠ F by have := L0.out; have := HFL.out; omega) (W := A8_7); rw [xB] at ht; have HT := qh (ht.trans H0.out); clear H0 ht; have H0 := HT; clear HT; have ht := Aj (i := 3) (.slice (some ⟨B11_6.heap.size, 0, none⟩) 2 2) (show B11_6.heap.size ≠ F by have := L1.out; have := HFL.out; omega) (W := A8_7); rw [xB] at ht; have HT := qh (ht.trans H1.out); clear H1 ht; have H1 := HT; clear HT; clear HK hn; go_simp; clear xB cF fF; refine hK.out _ _ HN.out.s (fun _ => ?_); clear hK K1; have HK := HN; clear HN
    try (simp only [Act.put, qA, qB, qC, qD, qE, qF])
    refine wpAnyH_done (by kernel_rfl) ?_ _; exact HQ.out _ _ _ HK.out H0.out H1.out L0.out L1.out _ _ _ _ _ _ _ _ _ _ _ _ _
  ·go_simp
   refine (F7 _).mono ?_; rintro e V7_2 ⟨rfl, hb⟩; have HN := qh (HK.out.below hb); clear HK hb; refine hK.out _ _ HN.out.s (fun _ => ?_); clear hK K1; have HK := HN; clear HN
   try (simp only [Act.put, qA, qB, qC, qD, qE, qF])
   refine wpAnyH_ready (rs := [5, 8]) (by kernel_rfl) (by simp) ?_; refine AllReadyH.cons (o := _) rfl (fun K1 hK => ?_) (AllReadyH.cons (o := _) rfl (fun K1 hK => ?_) AllReadyH.nil)
   ·obtain ⟨A5_3, xA, gA, bA, sA⟩ := Ai V7_2 #[int i64 4, int i64 0, sv [113], int i64 1, .slice none 0 0, .slice none 0 0] 78
    have HN := qh (HK.out.below bA); have H0 := qh gA; have L0 : Hid (W.heap.size ≤ V7_2.heap.size) := qh HK.out.grow.size; clear HK gA bA sA; go_simp; clear xA; refine hK.out _ _ HN.out.s (fun _ => ?_); clear hK K1; have HK := HN; clear HN
    try (simp only [Act.put, qA, qB, qC, qD, qE, qF])
    refine tq 9 _ (.pointer (some ⟨F, 0, none⟩)) rfl (by kernel_rfl) (fun _ _ _ h => h) (Or.inl ⟨by kernel_rfl, fun V hb => by go_simp⟩) HK.out.s ?_
    try (simp only [Act.put, qA, qB, qC, qD, qE, qF])
    refine tq 10 _ (.pointer (some ⟨F, 1, none⟩)) rfl (by kernel_rfl) (fun _ _ _ h => h) (Or.inl ⟨by kernel_rfl, fun V hb => by go_simp⟩) HK.out.s ?_
    try (simp only [Act.put, qA, qB, qC, qD, qE, qF])
    refine wpAnyH_ready (rs := [8, 11]) (by kernel_rfl) (by simp) ?_; refine AllReadyH.cons (o := _) rfl (fun K1 hK => ?_) (AllReadyH.cons (o := _) rfl (fun K1 hK => ?_) AllReadyH.nil)
    ·obtain ⟨A8_6, xA, gA, bA, sA⟩ := Ai A5_3 #[int i64 4, int i64 0, sv [113], int i64 1, .slice none 0 0, .slice none 0 0, int i64 4, int i64 0, sv [112], int i64 0, .slice none 0 0, .slice none 0 0] 78
     have HN := qh (HK.out.below bA); have HT := qh (Am bA H0.out); clear H0; have H0 := HT; clear HT; have H1 := qh gA; have L1 : Hid (W.heap.size ≤ A5_3.heap.size) := qh HK.out.grow.size; clear HK gA bA sA; go_simp; clear xA; refine hK.out _ _ HN.out.s (fun _ => ?_); clear hK K1; have HK := HN; clear HN
     try (simp only [Act.put, qA, qB, qC, qD, qE, qF])
     refine tr 11 _ (by kernel_rfl) rfl fun K1 hK => ?_
     obtain ⟨B11_7, xB⟩ : ∃ B, A8_6.setCell ⟨F, 1, none⟩ (.slice (some ⟨V7_2.heap.size, 0, none⟩) 1 1) = B := ⟨_, rfl⟩; have cF : A8_6.cell? ⟨F, 1, none⟩ = some (.slice (some ⟨I0, 0, none⟩) 1 1) := (Aa HK.out.f 1 rfl); have fF : A8_6.frozen? ⟨F, 1, none⟩ = false := (show FreeB A8_6 F from ⟨_, _, HK.out.f⟩).free 1; have hn := HK.out.set HNE.out 1 (.slice (some ⟨V7_2.heap.size, 0, none⟩) 1 1); rw [xB] at hn; have HN := qh hn; have ht := Aj (i := 1) (.slice (some ⟨V7_2.heap.size, 0, none⟩) 1 1) (show V7_2.heap.size ≠ F by have := L0.out; have := HFL.out; omega) (W := A8_6); rw [xB] at ht; have HT := qh (ht.trans H0.out); clear H0 ht; have H0 := HT; clear HT; have ht := Aj (i := 1) (.slice (some ⟨V7_2.heap.size, 0, none⟩) 1 1) (show A5_3.heap.size ≠ F by have := L1.out; have := HFL.out; omega) (W := A8_6); rw [xB] at ht; have HT := qh (ht.trans H1.out); clear H1 ht; have H1 := HT; clear HT; clear HK hn; go_simp; clear xB cF fF; refine hK.out _ _ HN.out.s (fun _ => ?_); clear hK K1; have HK := HN; clear HN
     try (simp only [Act.put, qA, qB, qC, qD, qE, qF])
     refine tq 12 _ (.pointer (some ⟨F, 2, none⟩)) rfl (by kernel_rfl) (fun _ _ _ h => h) (Or.inl ⟨by kernel_rfl, fun V hb => by go_simp⟩) HK.out.s ?_
     try (simp only [Act.put, qA, qB, qC, qD, qE, qF])
     refine tq 13 _ (.pointer (some ⟨F, 3, none⟩)) rfl (by kernel_rfl) (fun _ _ _ h => h) (Or.inl ⟨by kernel_rfl, fun V hb => by go_simp⟩) HK.out.s ?_
     try (simp only [Act.put, qA, qB, qC, qD, qE, qF])
     refine tr 14 _ (by kernel_rfl) rfl fun K1 hK => ?_
     obtain ⟨B14_10, xB⟩ : ∃ B, B11_7.setCell ⟨F, 3, none⟩ (.slice (some ⟨A5_3.heap.size, 0, none⟩) 2 2) = B := ⟨_, rfl⟩; have cF : B11_7.cell? ⟨F, 3, none⟩ = some (.slice (some ⟨I1, 0, none⟩) 1 1) := (Aa HK.out.f 3 rfl); have fF : B11_7.frozen? ⟨F, 3, none⟩ = false := (show FreeB B11_7 F from ⟨_, _, HK.out.f⟩).free 3; have hn := HK.out.set HNE.out 3 (.slice (some ⟨A5_3.heap.size, 0, none⟩) 2 2); rw [xB] at hn; have HN := qh hn; have ht := Aj (i := 3) (.slice (some ⟨A5_3.heap.size, 0, none⟩) 2 2) (show V7_2.heap.size ≠ F by have := L0.out; have := HFL.out; omega) (W := B11_7); rw [xB] at ht; have HT := qh (ht.trans H0.out); clear H0 ht; have H0 := HT; clear HT; have ht := Aj (i := 3) (.slice (some ⟨A5_3.heap.size, 0, none⟩) 2 2) (show A5_3.heap.size ≠ F by have := L1.out; have := HFL.out; omega) (W := B11_7); rw [xB] at ht; have HT := qh (ht.trans H1.out); clear H1 ht; have H1 := HT; clear HT; clear HK hn; go_simp; clear xB cF fF; refine hK.out _ _ HN.out.s (fun _ => ?_); clear hK K1; have HK := HN; clear HN
     try (simp only [Act.put, qA, qB, qC, qD, qE, qF])
     refine wpAnyH_done (by kernel_rfl) ?_ _; exact HQ.out _ _ _ HK.out H0.out H1.out L0.out L1.out _ _ _ _ _ _ _ _ _ _ _ _ _
    ·obtain ⟨B11_6, xB⟩ : ∃ B, A5_3.setCell ⟨F, 1, none⟩ (.slice (some ⟨V7_2.heap.size, 0, none⟩) 1 1) = B := ⟨_, rfl⟩
     have cF : A5_3.cell? ⟨F, 1, none⟩ = some (.slice (some ⟨I0, 0, none⟩) 1 1) := (Aa HK.out.f 1 rfl); have fF : A5_3.frozen? ⟨F, 1, none⟩ = false := (show FreeB A5_3 F from ⟨_, _, HK.out.f⟩).free 1; have hn := HK.out.set HNE.out 1 (.slice (some ⟨V7_2.heap.size, 0, none⟩) 1 1); rw [xB] at hn; have HN := qh hn; have ht := Aj (i := 1) (.slice (some ⟨V7_2.heap.size, 0, none⟩) 1 1) (show V7_2.heap.size ≠ F by have := L0.out; have := HFL.out; omega) (W := A5_3); rw [xB] at ht; have HT := qh (ht.trans H0.out); clear H0 ht; have H0 := HT; clear HT; clear HK hn; go_simp; clear xB cF fF; refine hK.out _ _ HN.out.s (fun _ => ?_); clear hK K1; have HK := HN; clear HN
     try (simp only [Act.put, qA, qB, qC, qD, qE, qF])
     refine tr 8 _ (by kernel_rfl) rfl fun K1 hK => ?_
     obtain ⟨A8_7, xA, gA, bA, sA⟩ := Ai B11_6 #[int i64 4, int i64 0, sv [113], int i64 1, .slice none 0 0, .slice none 0 0, int i64 4, int i64 0, sv [112], int i64 0, .slice none 0 0, .slice none 0 0] 78; have HN := qh (HK.out.below bA); have HT := qh (Am bA H0.out); clear H0; have H0 := HT; clear HT; have H1 := qh gA; have L1 : Hid (W.heap.size ≤ B11_6.heap.size) := qh HK.out.grow.size; clear HK gA bA sA; go_simp; clear xA; refine hK.out _ _ HN.out.s (fun _ => ?_); clear hK K1; have HK := HN; clear HN
     try (simp only [Act.put, qA, qB, qC, qD, qE, qF])
     refine tq 12 _ (.pointer (some ⟨F, 2, none⟩)) rfl (by kernel_rfl) (fun _ _ _ h => h) (Or.inl ⟨by kernel_rfl, fun V hb => by go_simp⟩) HK.out.s ?_
     try (simp only [Act.put, qA, qB, qC, qD, qE, qF])
     refine tq 13 _ (.pointer (some ⟨F, 3, none⟩)) rfl (by kernel_rfl) (fun _ _ _ h => h) (Or.inl ⟨by kernel_rfl, fun V hb => by go_simp⟩) HK.out.s ?_
     try (simp only [Act.put, qA, qB, qC, qD, qE, qF])
     refine tr 14 _ (by kernel_rfl) rfl fun K1 hK => ?_
     obtain ⟨B14_10, xB⟩ : ∃ B, A8_7.setCell ⟨F, 3, none⟩ (.slice (some ⟨B11_6.heap.size, 0, none⟩) 2 2) = B := ⟨_, rfl⟩; have cF : A8_7.cell? ⟨F, 3, none⟩ = some (.slice (some ⟨I1, 0, none⟩) 1 1) := (Aa HK.out.f 3 rfl); have fF : A8_7.frozen? ⟨F, 3, none⟩ = false := (show FreeB A8_7 F from ⟨_, _, HK.out.f⟩).free 3; have hn := HK.out.set HNE.out 3 (.slice (some ⟨B11_6.heap.size, 0, none⟩) 2 2); rw [xB] at hn; have HN := qh hn; have ht := Aj (i := 3) (.slice (some ⟨B11_6.heap.size, 0, none⟩) 2 2) (show V7_2.heap.size ≠ F by have := L0.out; have := HFL.out; omega) (W := A8_7); rw [xB] at ht; have HT := qh (ht.trans H0.out); clear H0 ht; have H0 := HT; clear HT; have ht := Aj (i := 3) (.slice (some ⟨B11_6.heap.size, 0, none⟩) 2 2) (show B11_6.heap.size ≠ F by have := L1.out; have := HFL.out; omega) (W := A8_7); rw [xB] at ht; have HT := qh (ht.trans H1.out); clear H1 ht; have H1 := HT; clear HT; clear HK hn; go_simp; clear xB cF fF; refine hK.out _ _ HN.out.s (fun _ => ?_); clear hK K1; have HK := HN; clear HN
     try (simp only [Act.put, qA, qB, qC, qD, qE, qF])
     refine wpAnyH_done (by kernel_rfl) ?_ _; exact HQ.out _ _ _ HK.out H0.out H1.out L0.out L1.out _ _ _ _ _ _ _ _ _ _ _ _ _
   ·obtain ⟨A8_3, xA, gA, bA, sA⟩ := Ai V7_2 #[int i64 4, int i64 0, sv [113], int i64 1, .slice none 0 0, .slice none 0 0, int i64 4, int i64 0, sv [112], int i64 0, .slice none 0 0, .slice none 0 0] 78
    have HN := qh (HK.out.below bA); have H1 := qh gA; have L1 : Hid (W.heap.size ≤ V7_2.heap.size) := qh HK.out.grow.size; clear HK gA bA sA; go_simp; clear xA; refine hK.out _ _ HN.out.s (fun _ => ?_); clear hK K1; have HK := HN; clear HN
    try (simp only [Act.put, qA, qB, qC, qD, qE, qF])
    refine tr 5 _ (by kernel_rfl) rfl fun K1 hK => ?_
    obtain ⟨A5_4, xA, gA, bA, sA⟩ := Ai A8_3 #[int i64 4, int i64 0, sv [113], int i64 1, .slice none 0 0, .slice none 0 0] 78; have HN := qh (HK.out.below bA); have HT := qh (Am bA H1.out); clear H1; have H1 := HT; clear HT; have H0 := qh gA; have L0 : Hid (W.heap.size ≤ A8_3.heap.size) := qh HK.out.grow.size; clear HK gA bA sA; go_simp; clear xA; refine hK.out _ _ HN.out.s (fun _ => ?_); clear hK K1; have HK := HN; clear HN
    try (simp only [Act.put, qA, qB, qC, qD, qE, qF])
    refine tq 9 _ (.pointer (some ⟨F, 0, none⟩)) rfl (by kernel_rfl) (fun _ _ _ h => h) (Or.inl ⟨by kernel_rfl, fun V hb => by go_simp⟩) HK.out.s ?_
    try (simp only [Act.put, qA, qB, qC, qD, qE, qF])
    refine tq 10 _ (.pointer (some ⟨F, 1, none⟩)) rfl (by kernel_rfl) (fun _ _ _ h => h) (Or.inl ⟨by kernel_rfl, fun V hb => by go_simp⟩) HK.out.s ?_
    try (simp only [Act.put, qA, qB, qC, qD, qE, qF])
    refine tr 11 _ (by kernel_rfl) rfl fun K1 hK => ?_
    obtain ⟨B11_7, xB⟩ : ∃ B, A5_4.setCell ⟨F, 1, none⟩ (.slice (some ⟨A8_3.heap.size, 0, none⟩) 1 1) = B := ⟨_, rfl⟩; have cF : A5_4.cell? ⟨F, 1, none⟩ = some (.slice (some ⟨I0, 0, none⟩) 1 1) := (Aa HK.out.f 1 rfl); have fF : A5_4.frozen? ⟨F, 1, none⟩ = false := (show FreeB A5_4 F from ⟨_, _, HK.out.f⟩).free 1; have hn := HK.out.set HNE.out 1 (.slice (some ⟨A8_3.heap.size, 0, none⟩) 1 1); rw [xB] at hn; have HN := qh hn; have ht := Aj (i := 1) (.slice (some ⟨A8_3.heap.size, 0, none⟩) 1 1) (show A8_3.heap.size ≠ F by have := L0.out; have := HFL.out; omega) (W := A5_4); rw [xB] at ht; have HT := qh (ht.trans H0.out); clear H0 ht; have H0 := HT; clear HT; have ht := Aj (i := 1) (.slice (some ⟨A8_3.heap.size, 0, none⟩) 1 1) (show V7_2.heap.size ≠ F by have := L1.out; have := HFL.out; omega) (W := A5_4); rw [xB] at ht; have HT := qh (ht.trans H1.out); clear H1 ht; have H1 := HT; clear HT; clear HK hn; go_simp; clear xB cF fF; refine hK.out _ _ HN.out.s (fun _ => ?_); clear hK K1; have HK := HN; clear HN
    try (simp only [Act.put, qA, qB, qC, qD, qE, qF])
    refine tq 12 _ (.pointer (some ⟨F, 2, none⟩)) rfl (by kernel_rfl) (fun _ _ _ h => h) (Or.inl ⟨by kernel_rfl, fun V hb => by go_simp⟩) HK.out.s ?_
    try (simp only [Act.put, qA, qB, qC, qD, qE, qF])
    refine tq 13 _ (.pointer (some ⟨F, 3, none⟩)) rfl (by kernel_rfl) (fun _ _ _ h => h) (Or.inl ⟨by kernel_rfl, fun V hb => by go_simp⟩) HK.out.s ?_
    try (simp only [Act.put, qA, qB, qC, qD, qE, qF])
    refine tr 14 _ (by kernel_rfl) rfl fun K1 hK => ?_
    obtain ⟨B14_10, xB⟩ : ∃ B, B11_7.setCell ⟨F, 3, none⟩ (.slice (some ⟨V7_2.heap.size, 0, none⟩) 2 2) = B := ⟨_, rfl⟩; have cF : B11_7.cell? ⟨F, 3, none⟩ = some (.slice (some ⟨I1, 0, none⟩) 1 1) := (Aa HK.out.f 3 rfl); have fF : B11_7.frozen? ⟨F, 3, none⟩ = false := (show FreeB B11_7 F from ⟨_, _, HK.out.f⟩).free 3; have hn := HK.out.set HNE.out 3 (.slice (some ⟨V7_2.heap.size, 0, none⟩) 2 2); rw [xB] at hn; have HN := qh hn; have ht := Aj (i := 3) (.slice (some ⟨V7_2.heap.size, 0, none⟩) 2 2) (show A8_3.heap.size ≠ F by have := L0.out; have := HFL.out; omega) (W := B11_7); rw [xB] at ht; have HT := qh (ht.trans H0.out); clear H0 ht; have H0 := HT; clear HT; have ht := Aj (i := 3) (.slice (some ⟨V7_2.heap.size, 0, none⟩) 2 2) (show V7_2.heap.size ≠ F by have := L1.out; have := HFL.out; omega) (W := B11_7); rw [xB] at ht; have HT := qh (ht.trans H1.out); clear H1 ht; have H1 := HT; clear HT; clear HK hn; go_simp; clear xB cF fF; refine hK.out _ _ HN.out.s (fun _ => ?_); clear hK K1; have HK := HN; clear HN
    try (simp only [Act.put, qA, qB, qC, qD, qE, qF])
    refine wpAnyH_done (by kernel_rfl) ?_ _; exact HQ.out _ _ _ HK.out H0.out H1.out L0.out L1.out _ _ _ _ _ _ _ _ _ _ _ _ _
end
section
open Go Go.RowKit Go.Shelf
theorem Pz {R T M U I0 I1 F D X : Nat} {W : World} (h : Sm18 R T M U I0 I1 F D W) (hX : W.heap[X]? = some (.cells (Ce R T M U I0 I1 F D).cells 30 (0, 0))) : Bx (Ce R T M U I0 I1 F D) Cf X W := ⟨hX, (GC h).1, (GC h).2⟩
theorem Oi {R T M U I0 I1 F D X : Nat} {W : World} (h : Sm18 R T M U I0 I1 F D W) (hX : W.heap[X]? = some (.cells (CY 0 0 R T F D (phP I0 M) (phQ I1 U) 1).cells 30 (0, 0))) : Bx (CY 0 0 R T F D (phP I0 M) (phQ I1 U) 1) Cf X W :=
 ⟨hX, J3 h.hR h.hT h.hF h.hD rfl rfl (Gy h.hI0 h.hM).1 (Gz h.hI1 h.hU).1, (GC h).2⟩
theorem My {R T M U I0 I1 F D X : Nat} {W V : World} (h : Sm18 R T M U I0 I1 F D W) (hne : ∀ b ∈ [R, T, M, U, I0, I1, F], b ≠ D) (hD : V.heap[D]? = some (.cells #[sv [97], int i64 0, sv [113], int i64 1, int i64 2, .bool false] 73 (0, 0))) (hk : ∀ b, b ≠ D → V.heap[b]? = W.heap[b]?) (hX : V.heap[X]? = some (.cells (Ce R T M U I0 I1 F D).cells 30 (0, 0))) : Bx (CY 2 1 R T F D (phP I0 M) (phQ I1 U) 2) Cf X V := by
 have k : ∀ b, b ∈ [R, T, M, U, I0, I1, F] → V.heap[b]? = W.heap[b]? := fun b hb => hk b (hne b hb)
 have hI0 := (k I0 (by simp)).trans h.hI0; have hM := (k M (by simp)).trans h.hM; have hI1 := (k I1 (by simp)).trans h.hI1; have hU := (k U (by simp)).trans h.hU; obtain ⟨a1, a2⟩ := Gy hI0 hM; obtain ⟨b1, b2⟩ := Gz hI1 hU; refine ⟨hX, J3 ((k R (by simp)).trans h.hR) ((k T (by simp)).trans h.hT) ((k F (by simp)).trans h.hF) hD rfl rfl a1 b1, ?_⟩; obtain ⟨x1, x2, _⟩ := a2; obtain ⟨y1, y2, _⟩ := b2; exact ⟨x1, x2, y1, y2, Aa hD 1 rfl, Aa hD 3 rfl, trivial⟩
theorem Pu {R T F D X X0 X1 : Nat} {V : World} (hR : V.heap[R]? = some (.cells #[sv [97], int i64 20, int i64 10, int i64 7] 59 (0, 0))) (hT : V.heap[T]? = some (.cells #[int i64 0, int i64 1000, int i64 0] 135 (0, 0))) (hF : V.heap[F]? = some (.cells #[sv [112], .slice (some ⟨X0, 0, none⟩) 1 1, sv [113], .slice (some ⟨X1, 0, none⟩) 2 2] 57 (0, 0))) (hD : V.heap[D]? = some (.cells #[sv [97], int i64 0, sv [113], int i64 1, int i64 1, .bool false] 73 (0, 0)))
  (h0 : V.heap[X0]? = some (.cells #[int i64 4, int i64 0, sv [113], int i64 1, .slice none 0 0, .slice none 0 0] 78 (0, 0))) (h1 : V.heap[X1]? = some (.cells #[int i64 4, int i64 0, sv [113], int i64 1, .slice none 0 0, .slice none 0 0, int i64 4, int i64 0, sv [112], int i64 0, .slice none 0 0, .slice none 0 0] 78 (0, 0))) (hX : V.heap[X]? = some (.cells (CY 2 1 R T F D (rgP X0) (rgQ X1) 1).cells 30 (0, 0))) : Bx (CY 2 1 R T F D (rgP X0) (rgQ X1) 1) Ge X V := by
 have m1 : (1 : Nat) ≤ maxLen := by decide
 have m2 : (2 : Nat) ≤ maxLen := by decide
 refine ⟨hX, J3 hR hT hF hD rfl rfl ⟨Or.inr rfl, m1, ?_⟩ ⟨Or.inr rfl, m2, ?_⟩, ?_⟩
 ·exact ⟨⟨Aa h0 0 rfl, Aa h0 1 rfl, Aa h0 2 rfl, Aa h0 4 rfl, Aa h0 5 rfl⟩, ⟨Or.inl rfl, Nat.zero_le _, trivial⟩, ⟨Or.inl rfl, Nat.zero_le _, trivial⟩, trivial⟩
 ·exact ⟨⟨Aa h1 0 rfl, Aa h1 1 rfl, Aa h1 2 rfl, Aa h1 4 rfl, Aa h1 5 rfl⟩, ⟨Or.inl rfl, Nat.zero_le _, trivial⟩, ⟨Or.inl rfl, Nat.zero_le _, trivial⟩,
   ⟨Aa h1 6 rfl, Aa h1 7 rfl, Aa h1 8 rfl, Aa h1 10 rfl, Aa h1 11 rfl⟩, ⟨Or.inl rfl, Nat.zero_le _, trivial⟩, ⟨Or.inl rfl, Nat.zero_le _, trivial⟩, trivial⟩
 ·exact ⟨Aa h0 3 rfl, Aa h1 3 rfl, Aa h1 9 rfl, Aa hD 1 rfl, Aa hD 3 rfl, trivial⟩
theorem Sm18.keep {R T M U I0 I1 F D : Nat} {W V : World} (h : Sm18 R T M U I0 I1 F D W) (k : ∀ b ∈ [R, T, M, U, I0, I1, F, D], V.heap[b]? = W.heap[b]?) : Sm18 R T M U I0 I1 F D V :=
 ⟨(k R (by simp)).trans h.hR, (k T (by simp)).trans h.hT, (k M (by simp)).trans h.hM, (k U (by simp)).trans h.hU, (k I0 (by simp)).trans h.hI0, (k I1 (by simp)).trans h.hI1, (k F (by simp)).trans h.hF, (k D (by simp)).trans h.hD⟩
theorem MF {R T M U I0 I1 F D : Nat} (h : [R, T, M, U, I0, I1, F, D].Nodup) : ∀ b ∈ [R, T, M, U, I0, I1, F], b ≠ D := fun b hb e => (List.nodup_append.1 (show ([R, T, M, U, I0, I1, F] ++ [D]).Nodup from h)).2.2 b hb D (by simp) e
theorem MG {R T M U I0 I1 F D : Nat} (h : [R, T, M, U, I0, I1, F, D].Nodup) : R ≠ F ∧ T ≠ F ∧ D ≠ F := by
 have g := List.nodup_append.1 (show ([R, T, M, U, I0, I1] ++ [F, D]).Nodup from h); refine ⟨fun e => g.2.2 R (by simp) F (by simp) e, fun e => g.2.2 T (by simp) F (by simp) e, fun e => ?_⟩; have h2 := (List.nodup_cons.1 g.2.1).1; exact h2 (by simp [e])
theorem ON (v : Value) (x1 x2 x3 : Ls) (n1 n2 n3 : List Int) (Xa Xb Xc : Nat) (w W : World) (HE : Hid (∀ V, Below w.heap.size w V → Env V)) (q : Below w.heap.size w W) (B1 : Bx x1 n1 Xa W) (B2 : Bx x2 n2 Xb W) (B3 : Bx x3 n3 Xc W) (s1 : AE x1 n1 = 0) (s2 : AE x2 n2 = 180) (s3 : AE x3 n3 = 180) (hrow : IntRow W v [0, 1]) (e0 e4 e6 eb ec ed ee ef eg eh ei ej ek el em en eo ep eq er es et eu ev ew ex ey ez eA eB eC eD eE eF eG eH eI eJ eK eL eM eN eO eP eQ eR eS eT eU eV eW eX eY eZ aa ab ac ae af ag ah ai aj ak al am an ao ap aq ar au av aw ax ay az aA aB aC aD aE aF aG aH aI aJ aK aL aM aN aO aP aQ aR aS aT aU aV aW aX aY aZ ba bb bc be bf bg bh : Value) :
  (Ab 10 AF).wp Try.prog (bodyPost Try.prog Try.f25 (fun e w' => e = .returned (.bool true) ∧ Below w.heap.size w w')) { tmps := #[e0, .pointer (some ⟨Xa, 0, none⟩), int i64 2, int i64 0, e4, int i64 1, e6, .bool false, int i64 0, .pointer (some ⟨Xb, 0, none⟩), v, .bool true, int i64 0, .pointer (some ⟨Xc, 0, none⟩), eb, ec, ed, ee, ef, eg, eh, ei, ej, ek, el, em, en, eo, ep, eq, er, es, et, eu, ev, ew, ex, ey, ez, eA, eB, eC, eD, eE, eF, eG, eH, eI, eJ, eK, eL, eM, eN, eO, eP, eQ, eR, eS, eT, eU, eV, eW, eX, eY, eZ, aa, ab, ac, ae, af, ag, ah, ai, aj, ak, al, am, an, ao, ap, aq, ar, au, av, aw, ax, ay, az, aA, aB, aC, aD, aE, aF, aG, aH, aI, aJ, aK, aL, aM, aN, aO, aP, aQ, aR, aS, aT, aU, aV, aW, aX, aY, aZ, ba, bb, bc, be, bf, bg, bh], defers := [] } W := by
 rw [M2]; refine Ac (fun K hK => ?_); have HK := qh hK; clear hK; refine OO W _ _ _ _ _ _ _ _ _ _ _ _ _ _ _ _ _ _ _ _ _ _ _ _ _ _ _ _ _ _ _ _ _ _ _ _ _ _ _ _ _ _ _ _ _ _ _ _ _ _ _ _ _ _ _ _ _ _ _ _ _ _ _ _ _ _ _ _ _ _ _ _ _ _ _ _ _ _ _ _ _ _ _ _ _ _ _ _ _ _ _ _ _ _ _ _ _ _ _ _ _ _ _ _ _ _ _ _ _ _ _ _ _ _ _ _ _ _ _ _ _ _ ?_; intro Rd Td Md Ud Id Jd Fd Dd Xd y Vd ad bd cd dd ld qd; refine HK.out _ _ ?_; clear HK K; rw [M3]; refine Ac (fun K hK => ?_); have HK := qh hK; clear hK; refine OP Rd Td Fd Dd Xd (phP Id Md) (phQ Jd Ud) 2 1 1 Vd dd ad.hD _ _ _ _ _ _ _ _ _ _ _ _ _ _ _ _ _ _ _ _ _ _ _ _ _ _ _ _ _ _ _ _ _ _ _ _ _ _ _ _ _ _ _ _ _ _ _ _ _ _ _ _ _ _ _ _ _ _ _ _ _ _ _ _ _ _ _ _ _ _ _ _ _ _ _ _ _ _ _ _ _ _ _ _ _ _ _ _ _ _ _ _ _ _ _ _ _ _ _ _ _ _ _ _ _ _ _ _ _ _ _ _ _ _ _ _ _ _ _ _ _ ?_; intro x56 x57 x58 x59 V11 ea k11 n11; refine HK.out _ _ ?_; clear HK K; have g11 : Below W.heap.size W V11 := qd.trans (n11 _ (bd Dd (by simp)).1); have hXD : Xd ≠ Dd := Nat.ne_of_gt (bd Dd (by simp)).2; have B4 := My ad (MF cd) ea k11 ((k11 _ hXD).trans dd); have B1 := B1.next g11
 have B2 := B2.next g11
 have B3 := B3.next g11
 have q11 := Ag q g11; have hrow := hrow.below g11; rw [M4]; refine Ac (fun K hK => ?_); have HK := qh hK; clear hK; refine OQ v V11 hrow _ _ _ _ _ _ _ _ _ _ _ _ _ _ _ _ _ _ _ _ _ _ _ _ _ _ _ _ _ _ _ _ _ _ _ _ _ _ _ _ _ _ _ _ _ _ _ _ _ _ _ _ _ _ _ _ _ _ _ _ _ _ _ _ _ _ _ _ _ _ _ _ _ _ _ _ _ _ _ _ _ _ _ _ _ _ _ _ _ _ _ _ _ _ _ _ _ _ _ _ _ _ _ _ _ _ _ _ _ _ _ _ _ _ ?_; intro x60 x61 x62 x63 x64 x65 x66 x67 x68 x69 x70 x71 x72 x73 x74 x75 x76 x77 x78 x79 x80 x81 x82 x83 x84 x85 x86 x87 x88 x89 x90 V12 h12; refine HK.out _ _ ?_; clear HK K; exact OR x1 x2 x3 _ n1 n2 n3 _ Xa Xb Xc Xd w V12 HE.out (Ag q11 h12) (B1.next h12) (B2.next h12) (B3.next h12) (B4.next h12) s1 s2 s3 (Gv _ _ _ _ _ _ _ _) _ _ _ _ _ _ _ _ _ _ _ _ _ _ _ _ _ _ _ _ _ _ _ _ _ _ _ _ _ _ _ _ _ _ _ _ _ _ _ _ _ _ _ _ _ _ _ _ _ _ _ _ _ _ _ _ _ _ _ _ _ _ _ _ _ _ _ _ _ _ _ _ _ _ _ _ _ _ _ _ _ _ _ _ _ _ _ _ _ _ _ _ _ _ _ _ _ _ _ _ _ _ _ _ _ _ _ _ _ _ _ _ _ _ _ _ _
theorem OM (v : Value) (x1 x2 : Ls) (n1 n2 : List Int) (Xa Xb : Nat) (w W : World) (HE : Hid (∀ V, Below w.heap.size w V → Env V)) (q : Below w.heap.size w W) (B1 : Bx x1 n1 Xa W) (B2 : Bx x2 n2 Xb W) (s1 : AE x1 n1 = 0) (s2 : AE x2 n2 = 180) (hrow : IntRow W v [0, 1]) (e0 e4 e6 ea eb ec ed ee ef eg eh ei ej ek el em en eo ep eq er es et eu ev ew ex ey ez eA eB eC eD eE eF eG eH eI eJ eK eL eM eN eO eP eQ eR eS eT eU eV eW eX eY eZ aa ab ad ae af ag ah ai aj ak al am an ao ap aq ar au av aw ax ay az aA aB aC aD aE aF aG aH aI aJ aK aL aM aN aO aP aQ aR aS aT aU aV aW aX aY aZ ba bb bd be bf bg bh : Value) :
  (Ab 8 AF).wp Try.prog (bodyPost Try.prog Try.f25 (fun e w' => e = .returned (.bool true) ∧ Below w.heap.size w w')) { tmps := #[e0, .pointer (some ⟨Xa, 0, none⟩), int i64 2, int i64 0, e4, int i64 1, e6, .bool false, int i64 0, .pointer (some ⟨Xb, 0, none⟩), v, .bool true, int i64 0, ea, eb, ec, ed, ee, ef, eg, eh, ei, ej, ek, el, em, en, eo, ep, eq, er, es, et, eu, ev, ew, ex, ey, ez, eA, eB, eC, eD, eE, eF, eG, eH, eI, eJ, eK, eL, eM, eN, eO, eP, eQ, eR, eS, eT, eU, eV, eW, eX, eY, eZ, aa, ab, ad, ae, af, ag, ah, ai, aj, ak, al, am, an, ao, ap, aq, ar, au, av, aw, ax, ay, az, aA, aB, aC, aD, aE, aF, aG, aH, aI, aJ, aK, aL, aM, aN, aO, aP, aQ, aR, aS, aT, aU, aV, aW, aX, aY, aZ, ba, bb, bd, be, bf, bg, bh], defers := [] } W := by
 rw [Nk]; refine Ac (fun K hK => ?_); have HK := qh hK; clear hK; refine PI W _ _ _ _ _ _ _ _ _ _ _ _ _ _ _ _ _ _ _ _ _ _ _ _ _ _ _ _ _ _ _ _ _ _ _ _ _ _ _ _ _ _ _ _ _ _ _ _ _ _ _ _ _ _ _ _ _ _ _ _ _ _ _ _ _ _ _ _ _ _ _ _ _ _ _ _ _ _ _ _ _ _ _ _ _ _ _ _ _ _ _ _ _ _ _ _ _ _ _ _ _ _ _ _ _ _ _ _ _ _ _ _ _ _ _ _ _ _ _ _ _ _ ?_; intro Rc Tc Mc Uc Ic Jc Fc Dc Xc y Vc ac bc cc dc lc qc; refine HK.out _ _ ?_; clear HK K; rw [Nl]; refine Ac (fun K hK => ?_); have HK := qh hK; clear hK; refine PJ Rc Tc Fc Dc Xc (phP Ic Mc) (phQ Jc Uc) 2 1 1 Vc dc _ _ _ _ _ _ _ _ _ _ _ _ _ _ _ _ _ _ _ _ _ _ _ _ _ _ _ _ _ _ _ _ _ _ _ _ _ _ _ _ _ _ _ _ _ _ _ _ _ _ _ _ _ _ _ _ _ _ _ _ _ _ _ _ _ _ _ _ _ _ _ _ _ _ _ _ _ _ _ _ _ _ _ _ _ _ _ _ _ _ _ _ _ _ _ _ _ _ _ _ _ _ _ _ _ _ _ _ _ _ _ _ _ _ _ _ _ _ _ _ _ ?_; intro x53 x54 V9 e9 k9 n9; refine HK.out _ _ ?_; clear HK K; have g9 : Below W.heap.size W V9 := qc.trans (n9 _ lc); have a9 := ac.keep (fun b hb => k9 b (Nat.ne_of_lt (bc b hb).2)); exact ON v x1 x2 _ n1 n2 _ Xa Xb Xc w V9 HE (Ag q g9) (B1.next g9) (B2.next g9) (Oi a9 e9) s1 s2 (Hq _ _ _ _ _ _ _ _) (hrow.below g9) _ _ _ _ _ _ _ _ _ _ _ _ _ _ _ _ _ _ _ _ _ _ _ _ _ _ _ _ _ _ _ _ _ _ _ _ _ _ _ _ _ _ _ _ _ _ _ _ _ _ _ _ _ _ _ _ _ _ _ _ _ _ _ _ _ _ _ _ _ _ _ _ _ _ _ _ _ _ _ _ _ _ _ _ _ _ _ _ _ _ _ _ _ _ _ _ _ _ _ _ _ _ _ _ _ _ _ _ _ _
theorem OL (x1 : Ls) (n1 : List Int) (Xa : Nat) (w W : World) (HE : Hid (∀ V, Below w.heap.size w V → Env V)) (q : Below w.heap.size w W) (B1 : Bx x1 n1 Xa W) (s1 : AE x1 n1 = 0) (e0 e4 e6 e9 ea eb ec ed ee ef eg eh ei ej ek el em en eo ep eq er es et eu ev ew ex ey ez eA eB eC eD eE eF eG eH eI eJ eK eL eM eN eO eP eQ eR eS eT eU eV eW eX eY eZ aa ac ad ae af ag ah ai aj ak al am an ao ap aq ar au av aw ax ay az aA aB aC aD aE aF aG aH aI aJ aK aL aM aN aO aP aQ aR aS aT aU aV aW aX aY aZ ba bc bd be bf bg bh bi bj bk : Value) :
  (Ab 5 AF).wp Try.prog (bodyPost Try.prog Try.f25 (fun e w' => e = .returned (.bool true) ∧ Below w.heap.size w w')) { tmps := #[e0, .pointer (some ⟨Xa, 0, none⟩), int i64 2, int i64 0, e4, int i64 1, e6, .bool false, int i64 0, e9, ea, eb, ec, ed, ee, ef, eg, eh, ei, ej, ek, el, em, en, eo, ep, eq, er, es, et, eu, ev, ew, ex, ey, ez, eA, eB, eC, eD, eE, eF, eG, eH, eI, eJ, eK, eL, eM, eN, eO, eP, eQ, eR, eS, eT, eU, eV, eW, eX, eY, eZ, aa, ac, ad, ae, af, ag, ah, ai, aj, ak, al, am, an, ao, ap, aq, ar, au, av, aw, ax, ay, az, aA, aB, aC, aD, aE, aF, aG, aH, aI, aJ, aK, aL, aM, aN, aO, aP, aQ, aR, aS, aT, aU, aV, aW, aX, aY, aZ, ba, bc, bd, be, bf, bg, bh, bi, bj, bk], defers := [] } W := by
 rw [Nh]; refine Ac (fun K hK => ?_); have HK := qh hK; clear hK; refine PF W _ _ _ _ _ _ _ _ _ _ _ _ _ _ _ _ _ _ _ _ _ _ _ _ _ _ _ _ _ _ _ _ _ _ _ _ _ _ _ _ _ _ _ _ _ _ _ _ _ _ _ _ _ _ _ _ _ _ _ _ _ _ _ _ _ _ _ _ _ _ _ _ _ _ _ _ _ _ _ _ _ _ _ _ _ _ _ _ _ _ _ _ _ _ _ _ _ _ _ _ _ _ _ _ _ _ _ _ _ _ _ _ _ _ _ _ _ _ _ _ _ _ ?_; intro Rb Tb Mb Ub Ib Jb Fb Db Xb y Vb ab bb cb db lb qb; refine HK.out _ _ ?_; clear HK K; rw [Ni]; refine Ac (fun K hK => ?_); have HK := qh hK; clear hK; have hXF : Xb ≠ Fb := Nat.ne_of_gt (bb Fb (by simp)).2; refine wp_mono (PG Rb Tb Mb Ub Ib Jb Fb Db Xb Vb ab.hF db hXF K _ _ _ _ _ _ _ _ _ _ _ _ _ _ _ _ _ _ _ _ _ _ _ _ _ _ _ _ _ _ _ _ _ _ _ _ _ _ _ _ _ _ _ _ _ _ _ _ _ _ _ _ _ _ _ _ _ _ _ _ _ _ _ _ _ _ _ _ _ _ _ _ _ _ _ _ _ _ _ _ _ _ _ _ _ _ _ _ _ _ _ _ _ _ _ _ _ _ _ _ _ _ _ _ _ _ _ _ _ _ _ _ _ _ _ _ _ _ _ _ ?_) By; intro X0 X1 V6 k6 o0 o1 _ _ x33 x34 x35 x36 x37 x38 x39 x40 x41 x42 x43 x44 x45; refine HK.out _ _ ?_; clear HK K; have g6 : Below W.heap.size W V6 := qb.grown k6.grow qb.size (fun z hz => by cases hz; exact (bb Fb (by simp)).1); have kb : ∀ (b : Nat) (o : Obj), Vb.heap[b]? = some o → b ≠ Fb → V6.heap[b]? = some o := fun b o hb hne => (k6.grow.block b (qs.1 hb).1 (fun e => hne (by cases e; rfl))).trans hb
 obtain ⟨r1, r2, r3⟩ := MG cb; have B2 := Pu (kb _ _ ab.hR r1) (kb _ _ ab.hT r2) k6.f (kb _ _ ab.hD r3) o0 o1 k6.x; have B1 := B1.next g6
 have q6 := Ag q g6; rw [Nj]; refine Ac (fun K hK => ?_); have HK := qh hK; clear hK; refine PH Rb Tb Fb Db X0 X1 Xb V6 B2 (HE.out _ q6) _ _ _ _ _ _ _ _ _ _ _ _ _ _ _ _ _ _ _ _ _ _ _ _ _ _ _ _ _ _ _ _ _ _ _ _ _ _ _ _ _ _ _ _ _ _ _ _ _ _ _ _ _ _ _ _ _ _ _ _ _ _ _ _ _ _ _ _ _ _ _ _ _ _ _ _ _ _ _ _ _ _ _ _ _ _ _ _ _ _ _ _ _ _ _ _ _ _ _ _ _ _ _ _ _ _ _ _ _ _ _ _ _ _ _ _ _ _ _ _ _ ?_; intro v x46 x47 x48 x49 x50 x51 V7 hrow h7; refine HK.out _ _ ?_; clear HK K; exact OM v x1 _ n1 _ Xa Xb w V7 HE (Ag q6 h7) (B1.next h7) (B2.next h7) s1 (IJ _ _ _ _ _ _) hrow _ _ _ _ _ _ _ _ _ _ _ _ _ _ _ _ _ _ _ _ _ _ _ _ _ _ _ _ _ _ _ _ _ _ _ _ _ _ _ _ _ _ _ _ _ _ _ _ _ _ _ _ _ _ _ _ _ _ _ _ _ _ _ _ _ _ _ _ _ _ _ _ _ _ _ _ _ _ _ _ _ _ _ _ _ _ _ _ _ _ _ _ _ _ _ _ _ _ _ _ _ _ _ _ _ _ _ _ _ _ _
theorem OK (w : World) (hE : ∀ V, Below w.heap.size w V → Env V) : Calls Try.prog 25 #[] w (fun e w' => e = .returned (.bool true) ∧ Below w.heap.size w w') := by
 have HE := qh hE; clear hE; go_enter Try.func25, Try.ntmps25; change Code.wp Try.prog AF _ _ _; rw [Nb]; refine Ac (fun K hK => ?_); have HK := qh hK; clear hK
 conv => arg 2; whnf
 go_wp2_with fail; refine HK.out _ _ ?_; clear HK K; rw [Nc]; refine Ac (fun K hK => ?_); have HK := qh hK; clear hK; refine PA w _ _ _ _ _ _ _ _ _ _ _ _ _ _ _ _ _ _ _ _ _ _ _ _ _ _ _ _ _ _ _ _ _ _ _ _ _ _ _ _ _ _ _ _ _ _ _ _ _ _ _ _ _ _ _ _ _ _ _ _ _ _ _ _ _ _ _ _ _ _ _ _ _ _ _ _ _ _ _ _ _ _ _ _ _ _ _ _ _ _ _ _ _ _ _ _ _ _ _ _ _ _ _ _ _ _ _ _ _ _ _ _ _ _ _ _ _ _ _ _ _ _ ?_; intro Ra Ta Ma Ua Ia Ja Fa Da Xa y Va aa ba ca da la qa; refine HK.out _ _ ?_; clear HK K; have B1 := Pz aa da; rw [Nd]; refine Ac (fun K hK => ?_); have HK := qh hK; clear hK; refine PC Ra Ta Ma Ua Ia Ja Fa Da Xa Va B1 (HE.out _ qa) _ _ _ _ _ _ _ _ _ _ _ _ _ _ _ _ _ _ _ _ _ _ _ _ _ _ _ _ _ _ _ _ _ _ _ _ _ _ _ _ _ _ _ _ _ _ _ _ _ _ _ _ _ _ _ _ _ _ _ _ _ _ _ _ _ _ _ _ _ _ _ _ _ _ _ _ _ _ _ _ _ _ _ _ _ _ _ _ _ _ _ _ _ _ _ _ _ _ _ _ _ _ _ _ _ _ _ _ _ _ _ _ _ _ _ _ _ _ _ _ _ ?_; intro x16 x17 x18 x19 x20 V2 h2; refine HK.out _ _ ?_; clear HK K; have B1 := B1.next h2
 have q2 := Ag qa h2; rw [Nf]; refine Ac (fun K hK => ?_); have HK := qh hK; clear hK; refine PD Ra Ta Ma Ua Ia Ja Fa Da Xa V2 B1 (HE.out _ q2) _ _ _ _ _ _ _ _ _ _ _ _ _ _ _ _ _ _ _ _ _ _ _ _ _ _ _ _ _ _ _ _ _ _ _ _ _ _ _ _ _ _ _ _ _ _ _ _ _ _ _ _ _ _ _ _ _ _ _ _ _ _ _ _ _ _ _ _ _ _ _ _ _ _ _ _ _ _ _ _ _ _ _ _ _ _ _ _ _ _ _ _ _ _ _ _ _ _ _ _ _ _ _ _ _ _ _ _ _ _ _ _ _ _ _ _ _ _ _ _ _ ?_; intro x21 x22 x23 x24 x25 V3 h3; refine HK.out _ _ ?_; clear HK K; have B1 := B1.next h3
 have q3 := Ag q2 h3; rw [Ng]; refine Ac (fun K hK => ?_); have HK := qh hK; clear hK; refine PE Ra Ta Ma Ua Ia Ja Fa Da Xa V3 B1 (HE.out _ q3) _ _ _ _ _ _ _ _ _ _ _ _ _ _ _ _ _ _ _ _ _ _ _ _ _ _ _ _ _ _ _ _ _ _ _ _ _ _ _ _ _ _ _ _ _ _ _ _ _ _ _ _ _ _ _ _ _ _ _ _ _ _ _ _ _ _ _ _ _ _ _ _ _ _ _ _ _ _ _ _ _ _ _ _ _ _ _ _ _ _ _ _ _ _ _ _ _ _ _ _ _ _ _ _ _ _ _ _ _ _ _ _ _ _ _ _ _ _ _ _ _ ?_; intro x26 x27 x28 x29 x30 x31 V4 h4; refine HK.out _ _ ?_; clear HK K; have B1 := B1.next h4
 have q4 := Ag q3 h4; exact OL _ _ Xa w V4 HE q4 B1 (IT _ _ _ _ _ _ _ _) _ _ _ _ _ _ _ _ _ _ _ _ _ _ _ _ _ _ _ _ _ _ _ _ _ _ _ _ _ _ _ _ _ _ _ _ _ _ _ _ _ _ _ _ _ _ _ _ _ _ _ _ _ _ _ _ _ _ _ _ _ _ _ _ _ _ _ _ _ _ _ _ _ _ _ _ _ _ _ _ _ _ _ _ _ _ _ _ _ _ _ _ _ _ _ _ _ _ _ _ _ _ _ _ _ _ _ _ _ _ _ _ _ _ _
end
section
open Go
def BJ (R P : List Nm) (r : Nat × Nm) : Int := if r.1 = 0 then 0 else if r.1 = 1 then (R.idxOf r.2 : Nat) else (P.idxOf r.2 : Nat)
def EN (R P : List Nm) (r : Nat × Nm) : Prop := if r.1 = 0 then r.2 = [] else if r.1 = 1 then r.2 ∈ R else r.2 ∈ P
theorem IG {R P : List Nm} {r : Nat × Nm} (h : EN R P r) : Bk R P r (BJ R P r) = some (BJ R P r) := by
 unfold EN at h; unfold Bk BJ
 split
 ·rename_i h0
  rw [if_pos h0] at h; rw [if_pos ⟨h, rfl⟩]
 ·rename_i h0
  rw [if_neg h0] at h
  split
  ·rename_i h1
   rw [if_pos h1] at h; rw [if_pos h]
  ·rename_i h1
   rw [if_neg h1] at h; rw [if_pos h]
theorem K9 {R P : List Nm} {r : Nat × Nm} {n k : Int} (h : Bk R P r n = some k) : EN R P r ∧ k = BJ R P r := by
 unfold Bk at h; unfold EN BJ
 split at h
 ·rename_i h0
  rw [if_pos h0, if_pos h0]
  split at h
  ·rename_i h1
   cases h; exact ⟨h1.1, rfl⟩
  ·cases h
 ·rename_i h0
  rw [if_neg h0, if_neg h0]
  split at h
  ·rename_i h1
   rw [if_pos h1, if_pos h1]
   split at h
   ·rename_i h2
    cases h; exact ⟨h2, rfl⟩
   ·cases h
  ·rename_i h1
   rw [if_neg h1, if_neg h1]
   split at h
   ·rename_i h2
    cases h; exact ⟨h2, rfl⟩
   ·cases h
theorem EO {R P : List Nm} : ∀ {rs : List (Nat × Nm)}, (∀ r ∈ rs, EN R P r) → AA R P rs (rs.map (BJ R P)) = some (rs.map (BJ R P))
 | [], _ => rfl
 | r :: rs, h => by
  simp only [List.map_cons, AA]; rw [IG (h r (by simp)), EO (fun q hq => h q (by simp [hq]))]
theorem Fw {R P : List Nm} : ∀ {rs : List (Nat × Nm)} {ns ks : List Int}, AA R P rs ns = some ks → (∀ r ∈ rs, EN R P r) ∧ ks = rs.map (BJ R P)
 | [], [], ks, h => by
  simp only [AA, Option.some.injEq] at h; rw [← h]; exact ⟨fun _ hq => by (cases hq), rfl⟩
 | [], _ :: _, ks, h => by simp [AA] at h
 | _ :: _, [], ks, h => by simp [AA] at h
 | r :: rs, n :: ns, ks, h => by
  simp only [AA] at h
  cases hq : Bk R P r n with
  | none => rw [hq] at h; simp at h
  | some k' =>
   rw [hq] at h
   cases hs : AA R P rs ns with
   | none => rw [hs] at h; simp at h
   | some ks' =>
    rw [hs] at h; simp only [Option.some.injEq] at h; obtain ⟨h1, h2⟩ := K9 hq; obtain ⟨h3, h4⟩ := Fw hs; refine ⟨fun q hq => ?_, by rw [← h, h2, h4]; rfl⟩; rcases List.mem_cons.1 hq with rfl | hq
    ·exact h1
    ·exact h3 q hq
theorem En {s : Sc} {ns : List Int} (h : Bp s ns = 0) : s.lims = true ∧ s.named = true ∧ s.apart = true ∧ s.kinds = true ∧ (∀ r ∈ s.refs, EN s.rnames s.pnames r) ∧ ns = s.refs.map (BJ s.rnames s.pnames) := by
 obtain ⟨h1, h2, h3, h4, h5⟩ := Dh h; obtain ⟨h6, h7⟩ := Fw h5; exact ⟨h1, h2, h3, h4, h6, h7⟩
theorem GQ {s : Sc} (h1 : s.lims = true) (h2 : s.named = true) (h3 : s.apart = true) (h4 : s.kinds = true) (h5 : ∀ r ∈ s.refs, EN s.rnames s.pnames r) : Bp s (s.refs.map (BJ s.rnames s.pnames)) = 0 := by
 have hi : s.idx (s.refs.map (BJ s.rnames s.pnames)) = some (s.refs.map (BJ s.rnames s.pnames)) := by
  unfold Sc.idx; rw [if_pos h4]; exact EO h5
 have hr := OE h1 h2 h3 (by rw [hi]; rfl); unfold Bp; rw [if_pos hr, if_pos hi]
theorem Im {s : Sc} {ns : List Int} (h : Bp s ns = 0) (ds : List Dan) (hl : ds.length ≤ s.dances.length) (hd : ∀ d ∈ ds, ∃ d0 ∈ s.dances, d.rn = d0.rn ∧ d.pn = d0.pn) :
  Bp { s with dances := ds } (({ s with dances := ds } : Sc).refs.map (BJ s.rnames s.pnames)) = 0 := by
 obtain ⟨h1, h2, h3, h4, h5, _⟩ := En h; refine GQ (s := { s with dances := ds }) ?_ h2 h3 h4 (fun r hr => ?_)
 ·unfold Sc.lims Sc.fit at h1 ⊢
  simp only [Bool.and_eq_true, decide_eq_true_eq] at h1 ⊢; obtain ⟨⟨a1, a2, a3, a4, a5, a6⟩, a7⟩ := h1; exact ⟨⟨a1, a2, a3, a4, a5, by omega⟩, a7⟩
 ·unfold Sc.refs at h5 hr
  rcases List.mem_append.1 hr with hr | hr
  ·exact h5 r (List.mem_append.2 (Or.inl hr))
  ·obtain ⟨d, hdm, hr⟩ := List.mem_flatMap.1 hr
   obtain ⟨d0, hd0, e1, e2⟩ := hd d hdm; refine h5 r (List.mem_append.2 (Or.inr (List.mem_flatMap.2 ⟨d0, hd0, ?_⟩))); rw [← e1, ← e2]; exact hr
theorem GR {s : Sc} {ns : List Int} (h : Bp s ns = 0) (wd dp bars t0 t1 : Int) (tm : List Tmp) (pa : List Pau) (sp : List Con) (h1 : tm.length ≤ s.tempos.length) (h2 : pa.length ≤ s.pauses.length) (h3 : sp.length ≤ s.spans.length) :
  Bp { s with wd := wd, dp := dp, bars := bars, t0 := t0, t1 := t1, tempos := tm, pauses := pa, spans := sp } ns = 0 := by
 obtain ⟨a1, a2, a3, a4, a5, a6⟩ := En h; rw [a6]; refine GQ (s := { s with wd := wd, dp := dp, bars := bars, t0 := t0, t1 := t1, tempos := tm, pauses := pa, spans := sp }) ?_ a2 a3 a4 a5; unfold Sc.lims Sc.fit at a1 ⊢; simp only [Bool.and_eq_true, decide_eq_true_eq] at a1 ⊢; obtain ⟨⟨b1, b2, b3, b4, b5, b6⟩, b7⟩ := a1; exact ⟨⟨b1, by omega, by omega, by omega, b5, b6⟩, b7⟩
theorem Ht {bars : Int} : ∀ {ps : List Pau} {l l' : Int}, Bm bars l ps = true → l' ≤ l → Bm bars l' ps = true
 | [], _, _, _, _ => rfl
 | p :: r, l, l', h, hl => by
  unfold Bm Et at h ⊢; simp only [Bool.and_eq_true, AY, decide_eq_true_eq] at h ⊢; obtain ⟨⟨⟨⟨h1, h2⟩, h3⟩, h4⟩, h5⟩ := h; exact ⟨⟨⟨⟨⟨by omega, h1.2⟩, h2⟩, h3⟩, h4⟩, h5⟩
theorem EK {bars : Int} : ∀ {ps : List Pau} {l : Int} (k : Nat), Bm bars l ps = true → Bm bars l (ps.eraseIdx k) = true
 | [], _, _, _ => rfl
 | p :: r, l, 0, h => by
  unfold Bm at h; simp only [Bool.and_eq_true] at h; refine Ht h.2 ?_; have h1 := h.1; unfold Et at h1; simp only [Bool.and_eq_true, AY] at h1; omega
 | p :: r, l, k + 1, h => by
  unfold Bm at h; simp only [Bool.and_eq_true] at h; simp only [List.eraseIdx_cons_succ, Bm, Bool.and_eq_true]; exact ⟨h.1, EK k h.2⟩
theorem KP {c : Clk} (h : BL c = 0) : BU c = true ∧ CB c = true := by
 unfold BL at h
 split at h
 ·rename_i h1
  split at h
  ·rename_i h2; exact ⟨h1, h2⟩
  ·omega
 ·omega
theorem GT {b : Int} {t : List Tmp} {p : List Pau} {c : List Con} (h : BL ⟨b, t, p, c⟩ = 0) (k : Nat) : BL ⟨b, t, p.eraseIdx k, c⟩ = 0 ∧ BL ⟨b, t, p, c.eraseIdx k⟩ = 0 := by
 obtain ⟨h1, h2⟩ := KP h; have l1 := List.length_eraseIdx_le p k; have l2 := List.length_eraseIdx_le c k; unfold BU at h1; unfold CB B9 at h2; simp only [Bool.and_eq_true, decide_eq_true_eq] at h1 h2; obtain ⟨⟨⟨⟨a1, a2⟩, a3⟩, a4⟩, a5⟩ := h2
 constructor
 ·unfold BL BU CB B9
  rw [if_pos (by simp only [Bool.and_eq_true, decide_eq_true_eq]; omega), if_pos (by simp only [Bool.and_eq_true]; exact ⟨⟨⟨⟨a1, a2⟩, a3⟩, EK k a4⟩, a5⟩)]
 ·unfold BL BU CB B9
  rw [if_pos (by simp only [Bool.and_eq_true, decide_eq_true_eq]; omega), if_pos (by simp only [Bool.and_eq_true]; exact ⟨⟨⟨⟨a1, a2⟩, a3⟩, a4⟩, List.all_eq_true.2 fun x hx => List.all_eq_true.1 a5 x (List.mem_of_mem_eraseIdx hx)⟩)]
theorem Dw {s : Ls} {ns : List Int} (h : AE s ns = 0) : Bp s.strip ns = 0 ∧ (inB s.wd 1 1000 = true ∧ inB s.dp 1 1000 = true ∧ inB s.t0 1 127 = true ∧ inB s.t1 0 s.t0 = true) ∧ s.roles.all (BD s) = true ∧ BL ⟨s.bars, s.tempos, s.pauses, s.spans⟩ = 0 ∧ s.phrases.all (fun p => p.its.strip.exB) = true ∧ Bf (s.nexts (AG s.strip)) = [] ∧ s.dances.all (C6 s (AG s.strip) (C7 s.itsL (AG s.strip))) = true := by
 unfold AE at h
 split at h
 ·rename_i h1
  split at h
  ·rename_i h2
   unfold FB at h2; simp only [Bool.and_eq_true, decide_eq_true_eq] at h2; obtain ⟨⟨a1, a2⟩, ⟨a3, a4⟩, a5, a6, a7, a8, a9⟩ := h2; exact ⟨h1, ⟨a1, a2, a3, a4⟩, a5, a6, a7, a8, a9⟩
  ·omega
 ·contradiction
theorem DY {s : Ls} {ns : List Int} (h1 : Bp s.strip ns = 0) (h2 : inB s.wd 1 1000 = true ∧ inB s.dp 1 1000 = true ∧ inB s.t0 1 127 = true ∧ inB s.t1 0 s.t0 = true) (h3 : s.roles.all (BD s) = true) (h4 : BL ⟨s.bars, s.tempos, s.pauses, s.spans⟩ = 0) (h5 : s.phrases.all (fun p => p.its.strip.exB) = true) (h6 : Bf (s.nexts (AG s.strip)) = []) (h7 : s.dances.all (C6 s (AG s.strip) (C7 s.itsL (AG s.strip))) = true) : AE s ns = 0 := by
 unfold AE; rw [if_pos h1]; unfold FB; rw [h2.1, h2.2.1, h2.2.2.1, h2.2.2.2, h3, decide_eq_true h4, h5, decide_eq_true h6, h7]
 rfl
theorem No {s : Ls} {ns : List Int} (h : AE s ns = 0) (k : Nat) (ua : Option Addr) (uc : Nat) : AE { s with ua := ua, uc := uc, pauses := s.pauses.eraseIdx k } ns = 0 := by
 obtain ⟨h1, h2, h3, h4, h5, h6, h7⟩ := Dw h; refine DY (s := { s with ua := ua, uc := uc, pauses := s.pauses.eraseIdx k }) ?_ h2 h3 (GT h4 k).1 h5 h6 h7; exact GR h1 s.wd s.dp s.bars s.t0 s.t1 s.tempos (s.pauses.eraseIdx k) s.spans (qn _) (List.length_eraseIdx_le _ _) (qn _)
theorem NF {s : Ls} {ns : List Int} (h : AE s ns = 0) (k : Nat) (sa : Option Addr) (sc : Nat) : AE { s with sa := sa, sc := sc, spans := s.spans.eraseIdx k } ns = 0 := by
 obtain ⟨h1, h2, h3, h4, h5, h6, h7⟩ := Dw h; refine DY (s := { s with sa := sa, sc := sc, spans := s.spans.eraseIdx k }) ?_ h2 h3 (GT h4 k).2 h5 h6 h7; exact GR h1 s.wd s.dp s.bars s.t0 s.t1 s.tempos s.pauses (s.spans.eraseIdx k) (qn _) (qn _) (List.length_eraseIdx_le _ _)
theorem Nn {s : Ls} {ns : List Int} (h : AE s ns = 0) (da : Option Addr) (dc : Nat) (ds : List Dan) (hl : ds.length ≤ s.dances.length) (hd : ∀ d ∈ ds, ∃ d0 ∈ s.dances, d.rn = d0.rn ∧ d.pn = d0.pn ∧ 0 ≤ d.bar ∧ d.bar ≤ d0.bar) :
  AE { s with da := da, dc := dc, dances := ds } (({ s.strip with dances := ds } : Sc).refs.map (BJ s.strip.rnames s.strip.pnames)) = 0 := by
 obtain ⟨h1, h2, h3, h4, h5, h6, h7⟩ := Dw h; refine DY (s := { s with da := da, dc := dc, dances := ds }) ?_ h2 h3 h4 h5 h6 ?_
 ·exact Im h1 ds hl fun d hdm => by obtain ⟨d0, a, b, c, _⟩ := hd d hdm; exact ⟨d0, a, b, c⟩
 ·refine List.all_eq_true.2 fun d hdm => ?_
  obtain ⟨d0, a, b, c, c1, c2⟩ := hd d hdm; have := List.all_eq_true.1 h7 d0 a; unfold C6 at this ⊢; simp only [Bool.and_eq_true, decide_eq_true_eq, AY] at this ⊢; change (0 ≤ d.bar ∧ d.bar ≤ s.bars - 1) ∧ d.bar + C7 s.itsL (AG s.strip) (AG s.strip d.pn) ≤ s.bars; rw [c]; omega
end
section
open Go Go.RowKit Go.Deep
def NumsBy (g : Nat × Nm → Int) (W : World) (xs : List RefL) : Prop := ∀ x ∈ xs, W.cell? ⟨x.b, x.o + 1, none⟩ = some (int i64 (g x.key))
theorem J7 {g : Nat × Nm → Int} {W : World} : ∀ {xs : List RefL} {ns : List Int}, NsAt W xs ns → ns = (xs.map RefL.key).map g → NumsBy g W xs
 | [], _, _, _, _, h => by cases h
 | x :: xs, [], h, _, _, _ => h.elim
 | x :: xs, n :: ns, ⟨h1, h2⟩, e, y, hy => by
  simp only [List.map_cons, List.cons.injEq] at e; obtain ⟨rfl, e2⟩ := e; rcases List.mem_cons.1 hy with rfl | hy
  ·exact h1
  ·exact J7 h2 e2 y hy
theorem J1 {g : Nat × Nm → Int} {W : World} : ∀ {xs : List RefL}, NumsBy g W xs → NsAt W xs ((xs.map RefL.key).map g)
 | [], _ => trivial
 | x :: _, h => ⟨h x (by simp), J1 fun y hy => h y (by simp [hy])⟩
theorem NumsBy.below {g : Nat × Nm → Int} {W W' : World} {xs : List RefL} (h : NumsBy g W xs) (hb : Below W.heap.size W W') : NumsBy g W' xs := fun x hx => Ae hb (h x hx)
def JE (g : Nat × Nm → Int) (d : Dan) : List Value := [sv d.rn, int i64 (g (1, d.rn)), sv d.pn, int i64 (g (2, d.pn)), int i64 d.bar, .bool d.mirror]
theorem Pf (g : Nat × Nm → Int) (d : Dan) : (JE g d).length = 6 := rfl
theorem KU {g : Nat × Nm → Int} {W : World} {b : Nat} : ∀ {o : Nat} {ds : List Dan}, B5 W b o ds → NumsBy g W (Ak b o ds) → ∀ j u, (ds.flatMap (JE g))[j]? = some u → W.cell? ⟨b, o + j, none⟩ = some u
 | _, [], _, _, j, u, h => by simp at h
 | o, d :: r, ⟨⟨h0, h2, h4, h5⟩, hr⟩, hn, j, u, h => by
  have a1 := hn ⟨b, o, 1, d.rn⟩ (by simp [Ak]); have a3 := hn ⟨b, o + 2, 2, d.pn⟩ (by simp [Ak]); simp only [List.flatMap_cons, JE, List.cons_append, List.nil_append] at h
  match j, h with
  | 0, h => cases h; exact h0
  | 1, h => cases h; exact a1
  | 2, h => cases h; exact h2
  | 3, h => cases h; exact a3
  | 4, h => cases h; exact h4
  | 5, h => cases h; exact h5
  | j + 6, h =>
   have := KU hr (fun y hy => hn y (by simp [Ak, hy])) j u (by simpa using h); rw [show o + (j + 6) = o + 6 + j by omega]; exact this
theorem Hc {g : Nat × Nm → Int} {W : World} {b : Nat} : ∀ {o : Nat} {ds : List Dan}, (∀ j u, (ds.flatMap (JE g))[j]? = some u → W.cell? ⟨b, o + j, none⟩ = some u) → B5 W b o ds ∧ NumsBy g W (Ak b o ds)
 | _, [], _ => ⟨trivial, fun x hx => by cases hx⟩
 | o, d :: r, h => by
  obtain ⟨r1, r2⟩ := Hc (o := o + 6) (ds := r) (fun j u hj => by
   have := h (j + 6) u (by simp only [List.flatMap_cons, JE, List.cons_append, List.nil_append]; simpa using hj)
   rw [show o + 6 + j = o + (j + 6) by omega]; exact this)
  refine ⟨⟨⟨h 0 _ rfl, h 2 _ rfl, h 4 _ rfl, h 5 _ rfl⟩, r1⟩, fun x hx => ?_⟩; simp only [Ak, List.mem_cons] at hx; rcases hx with rfl | rfl | hx
  ·exact h 1 _ rfl
  ·exact h 3 _ rfl
  ·exact r2 x hx
def Ls.num (s : Ls) : Nat × Nm → Int := BJ s.strip.rnames s.strip.pnames
theorem Qd {s : Ls} {ns : List Int} {W : World} (h : Bp s.strip ns = 0) (hN : NsAt W s.refs ns) : NumsBy s.num W s.refs := by
 obtain ⟨_, _, _, _, _, h6⟩ := En h; refine J7 hN ?_; rw [s.refs_key]; exact h6
theorem OZ {s : Ls} {g : Nat × Nm → Int} {W : World} (h : NumsBy g W s.refs) : NumsBy g W (Ay s.phrases) := fun x hx => h x (List.mem_append.2 (Or.inl hx))
theorem Qc {s : Ls} {g : Nat × Nm → Int} {W : World} (h : NumsBy g W s.refs) : NumsBy g W (Ak (blk s.da) (off s.da) s.dances) := fun x hx => h x (List.mem_append.2 (Or.inr hx))
theorem Qf {s : Ls} {W : World} {g c : Nat} {ds : List Dan} (hA : s.At W) (hN : NumsBy s.num W s.refs) (hl : ds.length ≤ maxLen) (hv : RowV (JE s.num) W g ds) :
  ({ s with da := some ⟨g, 0, none⟩, dc := c, dances := ds } : Ls).At W ∧ NsAt W ({ s with da := some ⟨g, 0, none⟩, dc := c, dances := ds } : Ls).refs (({ s.strip with dances := ds } : Sc).refs.map (BJ s.strip.rnames s.strip.pnames)) := by
 obtain ⟨d1, d2⟩ := Hc (g := s.num) (W := W) (b := g) (o := 0) (ds := ds) (fun j u hj => by rw [Nat.zero_add]; exact hv j u hj); refine ⟨⟨hA.roles, hA.tempos, hA.pauses, hA.spans, hA.pform, hA.plen, hA.phrases, Or.inr rfl, hl, d1⟩, ?_⟩
 have hb : NumsBy s.num W ({ s with da := some ⟨g, 0, none⟩, dc := c, dances := ds } : Ls).refs := fun x hx => by
  rcases List.mem_append.1 hx with hx | hx
  ·exact OZ hN x hx
  ·exact d2 x hx
 have := J1 hb; rw [Ls.refs_key] at this; exact this
theorem Lc (x : Pau) : (Dk x).length = 4 := rfl
theorem Lb (x : Con) : (Dj x).length = 4 := rfl
theorem Qi {s : Ls} {ns : List Int} {W : World} {g c : Nat} {xs : List Pau} (hA : s.At W) (hN : NsAt W s.refs ns) (hl : xs.length ≤ maxLen) (hv : RowV Dk W g xs) (hg : g < W.heap.size) :
  ({ s with ua := some ⟨g, 0, none⟩, uc := c, pauses := xs } : Ls).At W ∧ NsAt W ({ s with ua := some ⟨g, 0, none⟩, uc := c, pauses := xs } : Ls).refs ns :=
 ⟨⟨hA.roles, hA.tempos, ⟨_, c, rfl, hl, Or.inr ⟨g, 0, rfl, (Fy Lc).2 fun j u hj => by rw [Nat.zero_add]; exact hv j u hj, hg⟩⟩, hA.spans, hA.pform, hA.plen, hA.phrases, hA.dform, hA.dlen, hA.dances⟩, hN⟩
theorem Qe {s : Ls} {ns : List Int} {W : World} {g c : Nat} {xs : List Con} (hA : s.At W) (hN : NsAt W s.refs ns) (hl : xs.length ≤ maxLen) (hv : RowV Dj W g xs) (hg : g < W.heap.size) :
  ({ s with sa := some ⟨g, 0, none⟩, sc := c, spans := xs } : Ls).At W ∧ NsAt W ({ s with sa := some ⟨g, 0, none⟩, sc := c, spans := xs } : Ls).refs ns :=
 ⟨⟨hA.roles, hA.tempos, hA.pauses, ⟨_, c, rfl, hl, Or.inr ⟨g, 0, rfl, (Fy Lb).2 fun j u hj => by rw [Nat.zero_add]; exact hv j u hj, hg⟩⟩, hA.pform, hA.plen, hA.phrases, hA.dform, hA.dlen, hA.dances⟩, hN⟩
end
section
open Go
def Po (n : Int) : Prop := n = -1 ∨ n = 1048576 ∨ n = -9223372036854775808 ∨ n = 9223372036854775807
theorem PX {n lo hi : Int} (h : Po n) (h0 : 0 ≤ lo) (h1 : hi ≤ 1000000) : inB n lo hi = false := by
 rw [Eo]; rcases h with rfl | rfl | rfl | rfl <;> omega
theorem PW {n : Int} {t : List Tmp} {p : List Pau} {c : List Con} (h : Po n) : BL ⟨n, t, p, c⟩ ≠ 0 := fun e => by
 have := GS e; rcases h with rfl | rfl | rfl | rfl <;> omega
theorem Pe {b : Int} {p : List Pau} {c : List Con} : BL ⟨b, [], p, c⟩ ≠ 0 := fun e => by
 unfold BL at e
 split at e
 ·split at e
  ·rename_i hb
   unfold CB B9 at hb; simp at hb
  ·omega
 ·omega
end
end Go.Proofs.Ytpnbpepkoekkoaa
