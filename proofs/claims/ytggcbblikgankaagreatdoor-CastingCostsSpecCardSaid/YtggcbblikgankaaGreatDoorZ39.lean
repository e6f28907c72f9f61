/- Contracts and plain laws on the way to the statement: part 39. -/
import Derived.Test.YtggcbblikgankaaGreatDoorZ38
import Derived.Test.YtggcbblikgankaaGreatDoorZ3
set_option linter.unusedVariables false
set_option linter.unusedSimpArgs false
set_option maxRecDepth 100000
set_option maxHeartbeats 16000000
namespace Go.Proofs.YtggcbblikgankaaGreatDoor
open Go.Value (int)
open Go.IntKind (i64)
section
open Go Go.RowKit Go.Deep
def EQ (R T S : Nat) : Array Value := #[int i64 9, int i64 9, int i64 1, int i64 0, int i64 1, .slice (some ⟨R, 0, none⟩) 2 2, int i64 1, .slice (some ⟨T, 0, none⟩) 1 1, .slice none 0 0, .slice none 0 0, .slice (some ⟨S, 0, none⟩) 2 2]
abbrev GS : Array Value := #[.string ⟨#[]⟩, int i64 0, int i64 0, int i64 0, .string ⟨#[]⟩, int i64 0, int i64 0, int i64 0]
abbrev GY : Array Value := #[int i64 2, int i64 0, int i64 0, int i64 2, int i64 1, int i64 1, int i64 1, int i64 0, int i64 3, int i64 0, int i64 0, int i64 1, int i64 1, int i64 1, int i64 3, int i64 0, int i64 0, int i64 1, int i64 2, int i64 0, int i64 1, int i64 0, int i64 2, int i64 0, int i64 0, int i64 1, int i64 1, int i64 1]
abbrev caseAc : Array Value := #[.string ⟨#[97]⟩, int i64 50, int i64 0, int i64 1, int i64 2, int i64 2, int i64 1, int i64 1, int i64 1, int i64 9, int i64 9, int i64 9, int i64 3, int i64 3, int i64 3, int i64 0, int i64 0]
theorem Rl {W : World} {R T S : Nat} (hR : W.heap[R]? = some (.cells GS 86 (0, 0))) (hT : W.heap[T]? = some (.cells #[int i64 0, int i64 9, int i64 0] 88 (0, 0))) (hS : W.heap[S]? = some (.cells GY 72 (0, 0))) : WkAt caseW (EQ R T S) W :=
 ⟨some ⟨R, 0, none⟩, some ⟨T, 0, none⟩, none, none, some ⟨S, 0, none⟩, 2, 1, 0, 0, 2, rfl,
  AQ (enc := De) (k := 4) (xs := caseW.roles) KY hR rfl (by decide) rfl, AQ (enc := Bq) (k := 3) (xs := caseW.clock.tempos) L0 hT rfl (by decide) rfl, IsRow.nil, IsRow.nil, AQ (enc := CF) (k := 14) (xs := caseW.signs) KZ hS rfl (by decide) rfl⟩
theorem QY {w : World} {g : Nat} {cs : Array Value} {t : TypeId} (h : w.heap[g]? = some (.cells cs t (0, 0))) (i : Nat) (v : Value) : ∃ w', w.setCell ⟨g, i, none⟩ v = w' ∧ w'.heap[g]? = some (.cells (cs.setIfInBounds i v) t (0, 0)) ∧ (∀ q, q ≠ g → w'.heap[q]? = w.heap[q]?) ∧ (∀ B w0, Below B w0 w → B ≤ g → Below B w0 w') ∧ w'.heap.size = w.heap.size := by
 refine ⟨_, rfl, ?_, fun q hq => Below.heap_setCell _ _ _ _ hq, fun B w0 hb hg => hb.setCell (p := ⟨g, i, none⟩) hg v, ?_⟩
 ·simp only [World.setCell, Array.getElem?_modify, h, if_true, Option.map_some]
  simp
 ·simp [World.setCell]
theorem Mb (R T S g : Nat) (W : World) (hE : Env W) (hz : 2 ≤ W.heap.size) (hR : W.heap[R]? = some (.cells GS 86 (0, 0))) (hT : W.heap[T]? = some (.cells #[int i64 0, int i64 9, int i64 0] 88 (0, 0))) (hS : W.heap[S]? = some (.cells GY 72 (0, 0))) (hg : W.heap[g]? = some (.cells (A1 KH ++ A1 KI) 35 (0, 0))) :
  Calls Tryz.prog 16 #[.agg (EQ R T S), .slice (some ⟨g, 0, none⟩) 2 2] W fun e w' => ∃ ao c, e = .returned (.tuple #[.slice ao 2 c, int i64 0]) ∧ IsMat w' (.slice ao 2 c) [[16, -1], [0, 0]] ∧ Below W.heap.size W w' := by
 refine (Jg caseW [KH, KI] 2 rfl (by intro b hb; simp at hb; rcases hb with rfl | rfl <;> decide) (EQ R T S) _ 2 W hE hz (Rl hR hT hS) (AQ (enc := He) (k := 17) (xs := [KH, KI]) Qi hg rfl (by decide) rfl)).mono ?_
 rintro e w' ⟨hb, ⟨h1, _⟩ | ⟨_, v, hs, rfl, hr⟩⟩
 ·exact absurd M6 h1
 ·rw [M5] at hr
  have hm := hr.mat
  obtain ⟨ao, c, e3⟩ := hm.form
  have e4 : v = .slice ao 2 c := e3
  subst e4
  exact ⟨ao, c, rfl, hm, hb⟩
noncomputable def DA : Code := Ag 3 DD
noncomputable def FP : Code := Ag 3 DA
theorem N4 (w : World) (g : Nat) (a2 : Option Addr) (c2 : Nat) (a12 : Option Addr) (c12 U V : Nat) (R : Ending → World → Prop) (X : Code) (e9 ea eb ec ed ee ef eg eh ei ej ek el em en eo ep eq er es et eu ev ew ex ey ez eA eB eC eD eE eF eG eH eI eJ eK eL eM eN eO eP eQ eR eS eT eU eV eW eX eY eZ aa ab ac ad ae af ag ah ai aj ak al am an ao ap aq ar au av aw ax ay az aA aB aC aD aE aF aG aH aI aJ aK aL aM aN aO aP aQ aR aS aT aU aV aW aX aY aZ ba bb bc bd be bf bg bh bi bj bk bl bm bn bo bp bq br bs bt bu bv bw bx bz bA bB bC bD bE bF bG bH bI bJ bK bL bM bN bO bP bQ bR bS bT bU bV bW bX bY bZ ca cb cc cd ce cf cg ch ci cj ck cl cm cn co cp cq cr cs ct cu cv cw cx cy cz cA cB cC cD cE cF cG cH cI cJ cK cL cM cN cO cP cQ cR : Value)
  (hX : ∀ (W : World) (K : Nat) (cT cU cV cW cX cY cZ da db dc dd de df dg dh di dj dk dl dm dn dp dq dr ds dt du dv dw dx dy dz dA dB dC dD dE dF dG dH dI dJ dK dL dM dN dO dP dQ dR dS dT dU dV dW dX dY dZ fa fb fc fd fe ff fg fh fi fj fk fl : Value), Below w.heap.size w W → (w.heap.size ≤ K ∧ W.heap.size = K + 5) → W.heap[K]? = some (.cells GS 86 (0, 0)) → W.heap[K + 1]? = some (.cells #[int i64 0, int i64 9, int i64 0] 88 (0, 0)) → W.heap[K + 2]? = some (.cells GY 72 (0, 0)) → W.heap[K + 3]? = some (.cells (EQ K (K + 1) (K + 2)) 32 (0, 0)) → W.heap[K + 4]? = some (.cells caseAc 35 (0, 0)) → Code.wp Tryz.prog X (bodyPost Tryz.prog Tryz.f14 R) { tmps := #[.bool false, .slice (some ⟨g, 0, none⟩) 2 2, .slice a2 2 c2, int i64 3, .bool true, int i64 0, int i64 3, .bool true, int i64 0, e9, .bool false, int i64 0, .slice a12 2 c12, .bool true, int i64 0, ea, .bool false, int i64 0, .slice (some ⟨U, 0, none⟩) 2 2, .slice (some ⟨V, 0, none⟩) 2 2, .bool true, int i64 0, eb, ec, .bool false, int i64 0, .pointer (some ⟨K + 3, 0, none⟩), .pointer (some ⟨K + 4, 0, none⟩), ef, eg, eh, ei, ej, ek, el, em, en, eo, ep, eq, er, es, et, eu, ev, ew, ex, ey, ez, eA, eB, eC, eD, eE, eF, eG, eH, eI, eJ, eK, eL, eM, eN, eO, eP, eQ, eR, eS, eT, eU, eV, eW, eX, eY, eZ, aa, ab, ac, ad, ae, af, ag, ah, ai, aj, ak, al, cT, cU, cV, cW, cX, cY, cZ, da, db, dc, dd, de, df, dg, dh, di, dj, dk, dl, dm, dn, dp, dq, dr, ds, dt, du, dv, dw, dx, dy, dz, dA, dB, dC, dD, dE, dF, dG, dH, dI, dJ, dK, dL, dM, dN, dO, dP, dQ, dR, dS, dT, dU, dV, dW, dX, dY, dZ, fa, fb, fc, fd, fe, ff, fg, fh, fi, fj, fk, fl, bH, bI, bJ, bK, bL, bM, bN, bO, bP, bQ, bR, bS, bT, bU, bV, bW, bX, bY, bZ, ca, cb, cc, cd, ce, cf, cg, ch, ci, cj, ck, cl, cm, cn, co, cp, cq, cr, cs, ct, cu, cv, cw, cx, cy, cz, cA, cB, cC, cD, cE, cF, cG, cH, cI, cJ, cK, cL, cM, cN, cO, cP, cQ, cR], defers := [] } W) :
  Code.wp Tryz.prog (A8 3 DD X) (bodyPost Tryz.prog Tryz.f14 R) { tmps := #[.bool false, .slice (some ⟨g, 0, none⟩) 2 2, .slice a2 2 c2, int i64 3, .bool true, int i64 0, int i64 3, .bool true, int i64 0, e9, .bool false, int i64 0, .slice a12 2 c12, .bool true, int i64 0, ea, .bool false, int i64 0, .slice (some ⟨U, 0, none⟩) 2 2, .slice (some ⟨V, 0, none⟩) 2 2, .bool true, int i64 0, eb, ec, .bool false, int i64 0, ed, ee, ef, eg, eh, ei, ej, ek, el, em, en, eo, ep, eq, er, es, et, eu, ev, ew, ex, ey, ez, eA, eB, eC, eD, eE, eF, eG, eH, eI, eJ, eK, eL, eM, eN, eO, eP, eQ, eR, eS, eT, eU, eV, eW, eX, eY, eZ, aa, ab, ac, ad, ae, af, ag, ah, ai, aj, ak, al, am, an, ao, ap, aq, ar, au, av, aw, ax, ay, az, aA, aB, aC, aD, aE, aF, aG, aH, aI, aJ, aK, aL, aM, aN, aO, aP, aQ, aR, aS, aT, aU, aV, aW, aX, aY, aZ, ba, bb, bc, bd, be, bf, bg, bh, bi, bj, bk, bl, bm, bn, bo, bp, bq, br, bs, bt, bu, bv, bw, bx, bz, bA, bB, bC, bD, bE, bF, bG, bH, bI, bJ, bK, bL, bM, bN, bO, bP, bQ, bR, bS, bT, bU, bV, bW, bX, bY, bZ, ca, cb, cc, cd, ce, cf, cg, ch, ci, cj, ck, cl, cm, cn, co, cp, cq, cr, cs, ct, cu, cv, cw, cx, cy, cz, cA, cB, cC, cD, cE, cF, cG, cH, cI, cJ, cK, cL, cM, cN, cO, cP, cQ, cR], defers := [] } w := by
 have HX := qh hX
 clear hX
 unfold DD EV
 conv => arg 2; whnf
 go_wp2_with fail
 obtain ⟨V1, d1, g1, b1, s1⟩ := Au w (.cells GS 86)
 obtain ⟨V2, d2, g2, b2, s2⟩ := Au V1 (.cells #[int i64 0, int i64 9, int i64 0] 88)
 obtain ⟨V3, d3, g3, b3, s3⟩ := Au V2 (.cells GY 72)
 obtain ⟨V4, d4, g4, b4, s4⟩ := Au V3 (.cells (EQ w.heap.size (w.heap.size + 1) (w.heap.size + 1 + 1)) 32)
 obtain ⟨V5, d5, g5, b5, s5⟩ := Au V4 (.cells caseAc 35)
 have t2 : V2.heap.size = w.heap.size + 1 + 1 := by omega
 have t3 : V3.heap.size = w.heap.size + 1 + 1 + 1 := by omega
 have t4 : V4.heap.size = w.heap.size + 1 + 1 + 1 + 1 := by omega
 rw [s1] at g2 b2
 rw [t2] at g3 b3
 rw [t3] at g4 b4
 rw [t4] at g5 b5
 have hB5 : Below w.heap.size w V5 := (((b1.trans (b2.mono (by omega))).trans (b3.mono (by omega))).trans (b4.mono (by omega))).trans (b5.mono (by omega))
 have G1 := qh ((b5.block _ (by omega)).trans ((b4.block _ (by omega)).trans ((b3.block _ (by omega)).trans ((b2.block _ (by omega)).trans g1)))); have G2 := qh ((b5.block _ (by omega)).trans ((b4.block _ (by omega)).trans ((b3.block _ (by omega)).trans g2))); have G3 := qh ((b5.block _ (by omega)).trans ((b4.block _ (by omega)).trans g3)); have G4 := qh ((b5.block _ (by omega)).trans g4); have G5 := qh g5; have HB5 := qh hB5
 have T5 := qh (show V5.heap.size = w.heap.size + 5 by omega)
 have D5 := qh d5
 clear g1 g2 g3 g4 g5 b1 b2 b3 b4 b5 s2 s3 s4 s5 hB5 d5
 unfold EQ at d4
 conv => arg 2; whnf
 go_wp2_with fail
 conv => arg 2; whnf
 go_wp2_with fail
 have hd5 := D5.out
 unfold caseAc at hd5
 rw [hd5]
 exact HX.out V5 w.heap.size _ _ _ _ _ _ _ _ _ _ _ _ _ _ _ _ _ _ _ _ _ _ _ _ _ _ _ _ _ _ _ _ _ _ _ _ _ _ _ _ _ _ _ _ _ _ _ _ _ _ _ _ _ _ _ _ _ _ _ _ _ _ _ _ _ _ _ _ _ _ HB5.out ⟨qn _, T5.out⟩ G1.out G2.out G3.out G4.out G5.out
end
end Go.Proofs.YtggcbblikgankaaGreatDoor
