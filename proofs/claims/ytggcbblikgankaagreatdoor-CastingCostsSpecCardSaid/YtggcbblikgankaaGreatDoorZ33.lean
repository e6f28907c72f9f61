/- Contracts and plain laws on the way to the statement: part 33. -/
import Derived.Test.YtggcbblikgankaaGreatDoorZ26
import Derived.Test.YtggcbblikgankaaGreatDoorZ29
import Derived.Test.YtggcbblikgankaaGreatDoorZ8
import Derived.Test.YtggcbblikgankaaGreatDoorZ6
import Derived.Deep.RegionHeld
import Derived.BigRegion
import Derived.BigQuiet
import Derived.Test.YtggcbblikgankaaGreatDoorZ3
set_option linter.unusedVariables false
set_option linter.unusedSimpArgs false
set_option maxRecDepth 100000
set_option maxHeartbeats 16000000
namespace Go.Proofs.YtggcbblikgankaaGreatDoor
open Go.Value (int)
open Go.IntKind (i64)
section
open Go Go.RowKit Go.Deep
structure Apart (T U V O B F D : Nat) : Prop where
 ntu : T ≠ U
 ntv : T ≠ V
 nto : T ≠ O
 ntb : T ≠ B
 ntf : T ≠ F
 ntd : T ≠ D
 nuv : U ≠ V
 nuo : U ≠ O
 nub : U ≠ B
 nuf : U ≠ F
 nud : U ≠ D
 nvo : V ≠ O
 nvb : V ≠ B
 nvf : V ≠ F
 nvd : V ≠ D
 nob : O ≠ B
 nof : O ≠ F
 nod : O ≠ D
 nbf : B ≠ F
 nbd : B ≠ D
 nfd : F ≠ D
structure SolW (w0 : World) (T U V O B F D : Nat) (to u v own near frm : List Int) (done : List Bool) (w : World) : Prop where
 below : Below w0.heap.size w0 w
 apart : Apart T U V O B F D
 lo : w0.heap.size ≤ T ∧ w0.heap.size ≤ U ∧ w0.heap.size ≤ V ∧ w0.heap.size ≤ O ∧ w0.heap.size ≤ B ∧ w0.heap.size ≤ F ∧ w0.heap.size ≤ D
 to : BI w T to
 u : BI w U u
 v : BI w V v
 own : BI w O own
 near : BI w B near
 frm : BI w F frm
 done : BB w D done
section
variable {w0 w : World} {T U V O B F D : Nat} {to u v own near frm : List Int} {done : List Bool}
theorem SolW.drewN (h : SolW w0 T U V O B F D to u v own near frm done w) (k : Nat) : SolW w0 T U V O B F D to u v own near frm done (w.drewN k) := ⟨A5 h.below k, h.apart, h.lo, h.to, h.u, h.v, h.own, h.near, h.frm, h.done⟩
theorem SolW.drew (h : SolW w0 T U V O B F D to u v own near frm done w) : SolW w0 T U V O B F D to u v own near frm done w.drew := ⟨h.below.drew, h.apart, h.lo, h.to, h.u, h.v, h.own, h.near, h.frm, h.done⟩
theorem SolW.set_u (h : SolW w0 T U V O B F D to u v own near frm done w) (j : Nat) (x : Int) : SolW w0 T U V O B F D to (u.set j x) v own near frm done (w.setCell ⟨U, j, none⟩ (int i64 x)) :=
 ⟨h.below.setCell (p := ⟨U, j, none⟩) h.lo.2.1 _, h.apart, h.lo, h.to.other (a := ⟨U, j, none⟩) h.apart.ntu, h.u.set j x, h.v.other (a := ⟨U, j, none⟩) (Ne.symm h.apart.nuv), h.own.other (a := ⟨U, j, none⟩) (Ne.symm h.apart.nuo), h.near.other (a := ⟨U, j, none⟩) (Ne.symm h.apart.nub), h.frm.other (a := ⟨U, j, none⟩) (Ne.symm h.apart.nuf), h.done.other (a := ⟨U, j, none⟩) (Ne.symm h.apart.nud)⟩
theorem SolW.set_v (h : SolW w0 T U V O B F D to u v own near frm done w) (j : Nat) (x : Int) : SolW w0 T U V O B F D to u (v.set j x) own near frm done (w.setCell ⟨V, j, none⟩ (int i64 x)) :=
 ⟨h.below.setCell (p := ⟨V, j, none⟩) h.lo.2.2.1 _, h.apart, h.lo, h.to.other (a := ⟨V, j, none⟩) h.apart.ntv, h.u.other (a := ⟨V, j, none⟩) h.apart.nuv, h.v.set j x, h.own.other (a := ⟨V, j, none⟩) (Ne.symm h.apart.nvo), h.near.other (a := ⟨V, j, none⟩) (Ne.symm h.apart.nvb), h.frm.other (a := ⟨V, j, none⟩) (Ne.symm h.apart.nvf), h.done.other (a := ⟨V, j, none⟩) (Ne.symm h.apart.nvd)⟩
theorem SolW.set_own (h : SolW w0 T U V O B F D to u v own near frm done w) (j : Nat) (x : Int) : SolW w0 T U V O B F D to u v (own.set j x) near frm done (w.setCell ⟨O, j, none⟩ (int i64 x)) :=
 ⟨h.below.setCell (p := ⟨O, j, none⟩) h.lo.2.2.2.1 _, h.apart, h.lo, h.to.other (a := ⟨O, j, none⟩) h.apart.nto, h.u.other (a := ⟨O, j, none⟩) h.apart.nuo, h.v.other (a := ⟨O, j, none⟩) h.apart.nvo, h.own.set j x, h.near.other (a := ⟨O, j, none⟩) (Ne.symm h.apart.nob), h.frm.other (a := ⟨O, j, none⟩) (Ne.symm h.apart.nof), h.done.other (a := ⟨O, j, none⟩) (Ne.symm h.apart.nod)⟩
theorem SolW.set_near (h : SolW w0 T U V O B F D to u v own near frm done w) (j : Nat) (x : Int) : SolW w0 T U V O B F D to u v own (near.set j x) frm done (w.setCell ⟨B, j, none⟩ (int i64 x)) :=
 ⟨h.below.setCell (p := ⟨B, j, none⟩) h.lo.2.2.2.2.1 _, h.apart, h.lo, h.to.other (a := ⟨B, j, none⟩) h.apart.ntb, h.u.other (a := ⟨B, j, none⟩) h.apart.nub, h.v.other (a := ⟨B, j, none⟩) h.apart.nvb, h.own.other (a := ⟨B, j, none⟩) h.apart.nob, h.near.set j x, h.frm.other (a := ⟨B, j, none⟩) (Ne.symm h.apart.nbf), h.done.other (a := ⟨B, j, none⟩) (Ne.symm h.apart.nbd)⟩
theorem SolW.set_frm (h : SolW w0 T U V O B F D to u v own near frm done w) (j : Nat) (x : Int) : SolW w0 T U V O B F D to u v own near (frm.set j x) done (w.setCell ⟨F, j, none⟩ (int i64 x)) :=
 ⟨h.below.setCell (p := ⟨F, j, none⟩) h.lo.2.2.2.2.2.1 _, h.apart, h.lo, h.to.other (a := ⟨F, j, none⟩) h.apart.ntf, h.u.other (a := ⟨F, j, none⟩) h.apart.nuf, h.v.other (a := ⟨F, j, none⟩) h.apart.nvf, h.own.other (a := ⟨F, j, none⟩) h.apart.nof, h.near.other (a := ⟨F, j, none⟩) h.apart.nbf, h.frm.set j x, h.done.other (a := ⟨F, j, none⟩) (Ne.symm h.apart.nfd)⟩
theorem SolW.set_done (h : SolW w0 T U V O B F D to u v own near frm done w) (j : Nat) (x : Bool) : SolW w0 T U V O B F D to u v own near frm (done.set j x) (w.setCell ⟨D, j, none⟩ (.bool x)) :=
 ⟨h.below.setCell (p := ⟨D, j, none⟩) h.lo.2.2.2.2.2.2 _, h.apart, h.lo, h.to.other (a := ⟨D, j, none⟩) h.apart.ntd, h.u.other (a := ⟨D, j, none⟩) h.apart.nud, h.v.other (a := ⟨D, j, none⟩) h.apart.nvd, h.own.other (a := ⟨D, j, none⟩) h.apart.nod, h.near.other (a := ⟨D, j, none⟩) h.apart.nbd, h.frm.other (a := ⟨D, j, none⟩) h.apart.nfd, h.done.set j x⟩
end
theorem Dy {w : World} {g b r j : Nat} {v x : Value} (hg : ¬ g = b) (h : w.cell? ⟨g, r, none⟩ = some x) : (w.setCell ⟨b, j, none⟩ v).drew.cell? ⟨g, r, none⟩ = some x := by
 refine Eq.trans ?_ h
 show (w.setCell ⟨b, j, none⟩ v).cell? ⟨g, r, none⟩ = _
 unfold World.cell?
 rw [heap_setCell (w := w) (a := ⟨b, j, none⟩) (v := v) hg]
noncomputable def BU : Code := (Tryz.f46.body).getD .skip
noncomputable def BJ : Code := Bu (Ag 3 BU)
noncomputable def Ia : Code := Ag 4 BU
def T8 : Code → Code | .scope c => c | c => c
noncomputable def Eh : Code := RA (Kz (At BJ))
noncomputable def Fk : Code := Kz (Bu (At (At Eh)))
end
section
open Go Go.RowKit Go.Deep
noncomputable def scR : Code := T8 (At Fk)
noncomputable def R4 : Code := RA (Kz (Bu (At (At (At scR)))))
noncomputable def Gj : Code := Kz R4
noncomputable def Jy : Code := Bu (At Gj)
noncomputable def Jk : Code := RA (Kz (At Jy))
noncomputable def GR : Code := Kz (Bu (At (At Jk)))
theorem N7 (w0 : World) (T U V O B F D : Nat) (to u v own near frm : List Int) (done : List Bool) (bC oC ccC n m bR oR cR : Nat) (crow : List Int) (row j : Nat) (at0 : Int) (hrow : row < n) (hj : j < m) (hu : u.length = n) (hv : v.length = m) (hn : near.length = m) (hf : frm.length = m)
  (hcr : ∀ W, Below w0.heap.size w0 W → W.cell? ⟨bC, oC + row, none⟩ = some (.slice (some ⟨bR, oR, none⟩) m cR) ∧ W.cell? ⟨bR, oR + j, none⟩ = some (int i64 (gi crow j)))
  (w : World) (hM : SolW w0 T U V O B F D to u v own near frm done w) (e1 e2 e3 e4 e7 e8 e9 ea eb ec ed ee ef eg eh ei ej ek el em en eo ep eq er es et eu ev ew ex ey ez eA eB eC eD eE eF eG eH eI eJ eK eL eM eN eO eP eQ eR eS eT eU eV eW eX eY eZ aa ab ac ad ae af ag ah ai aj ak al am an ao ap aq ar au av aw ax ay az aA aB aC aD aE aF aG aH aI aJ aK aL aM aN aO aP aQ aR aS aT aU aV aW aX aY aZ ba bb bc bd be bf bg bh bi bj bk bl bm bn bo bp bq br bs bt bu bv bw bx bz bA bB bD bE bF bG bH bI bJ bK bL bM bN bO bP bQ bS bT bU bV bW bX bY bZ ca cb cc cd ce cg ch ci cj ck cl cm co cp cq cr cs ct cw cx cy cz cA cB cC cD cE cF cG cH cI cJ cK cL cM cN cO cP cQ cS cT cU cV cW cX cY : Value) (Q : Exit → Act → World → Prop) (X : Code)
  (hX1 : 0 ≤ gi crow j ∧ (wrap64 (wrap64 (gi crow j - gi u row) - gi v j)) < gi near j → ∀ (w' : World) (da db dc dd de df dg dh di dj dk dl dm dn dp dq dr ds dt du dv dw dx dy dz dA dB dC dD dE dF dG dH dI dJ dK dL dM dN dO dP dQ dR dS dT cZ : Value), SolW w0 T U V O B F D to u v own (near.set j (wrap64 (wrap64 (gi crow j - gi u row) - gi v j))) (frm.set j at0) done w' → Code.wp Tryz.prog X Q { tmps := #[.slice (some ⟨bC, oC, none⟩) n ccC, e1, e2, e3, e4, .slice (some ⟨U, 0, none⟩) n n, .slice (some ⟨V, 0, none⟩) m m, e7, e8, e9, .slice (some ⟨B, 0, none⟩) m m, .slice (some ⟨F, 0, none⟩) m m, ea, int i64 at0, int i64 row, eb, ec, int i64 j, cZ, ee, ef, eg, eh, ei, ej, ek, el, em, en, eo, ep, eq, er, es, et, eu, ev, ew, ex, ey, ez, eA, eB, eC, eD, eE, eF, eG, eH, eI, eJ, eK, eL, eM, eN, da, db, dc, dd, de, df, dg, dh, di, dj, dk, dl, dm, dn, dp, dq, dr, ds, dt, du, dv, dw, dx, dy, dz, dA, dB, dC, dD, dE, dF, dG, dH, dI, dJ, dK, dL, dM, dN, dO, dP, dQ, dR, dS, dT, aJ, aK, aL, aM, aN, aO, aP, aQ, aR, aS, aT, aU, aV, aW, aX, aY, aZ, ba, bb, bc, bd, be, bf, bg, bh, bi, bj, bk, bl, bm, bn, bo, bp, bq, br, bs, bt, bu, bv, bw, bx, bz, bA, bB, bD, bE, bF, bG, bH, bI, bJ, bK, bL, bM, bN, bO, bP, bQ, bS, bT, bU, bV, bW, bX, bY, bZ, ca, cb, cc, cd, ce, cg, ch, ci, cj, ck, cl, cm, co, cp, cq, cr, cs, ct, cw, cx, cy, cz, cA, cB, cC, cD, cE, cF, cG, cH, cI, cJ, cK, cL, cM, cN, cO, cP, cQ, cS, cT, cU, cV, cW, cX, cY], defers := [] } w')
  (hX0 : ¬ (0 ≤ gi crow j ∧ (wrap64 (wrap64 (gi crow j - gi u row) - gi v j)) < gi near j) → ∀ (w' : World) (da db dc dd de df dg dh di dj dk dl dm dn dp dq dr ds dt du dv dw dx dy dz dA dB dC dD dE dF dG dH dI dJ dK dL dM dN dO dP dQ dR dS dT cZ : Value), SolW w0 T U V O B F D to u v own near frm done w' → Code.wp Tryz.prog X Q { tmps := #[.slice (some ⟨bC, oC, none⟩) n ccC, e1, e2, e3, e4, .slice (some ⟨U, 0, none⟩) n n, .slice (some ⟨V, 0, none⟩) m m, e7, e8, e9, .slice (some ⟨B, 0, none⟩) m m, .slice (some ⟨F, 0, none⟩) m m, ea, int i64 at0, int i64 row, eb, ec, int i64 j, cZ, ee, ef, eg, eh, ei, ej, ek, el, em, en, eo, ep, eq, er, es, et, eu, ev, ew, ex, ey, ez, eA, eB, eC, eD, eE, eF, eG, eH, eI, eJ, eK, eL, eM, eN, da, db, dc, dd, de, df, dg, dh, di, dj, dk, dl, dm, dn, dp, dq, dr, ds, dt, du, dv, dw, dx, dy, dz, dA, dB, dC, dD, dE, dF, dG, dH, dI, dJ, dK, dL, dM, dN, dO, dP, dQ, dR, dS, dT, aJ, aK, aL, aM, aN, aO, aP, aQ, aR, aS, aT, aU, aV, aW, aX, aY, aZ, ba, bb, bc, bd, be, bf, bg, bh, bi, bj, bk, bl, bm, bn, bo, bp, bq, br, bs, bt, bu, bv, bw, bx, bz, bA, bB, bD, bE, bF, bG, bH, bI, bJ, bK, bL, bM, bN, bO, bP, bQ, bS, bT, bU, bV, bW, bX, bY, bZ, ca, cb, cc, cd, ce, cg, ch, ci, cj, ck, cl, cm, co, cp, cq, cr, cs, ct, cw, cx, cy, cz, cA, cB, cC, cD, cE, cF, cG, cH, cI, cJ, cK, cL, cM, cN, cO, cP, cQ, cS, cT, cU, cV, cW, cX, cY], defers := [] } w') :
  Code.wp Tryz.prog (.seq (Bu (At (At GR))) X) Q { tmps := #[.slice (some ⟨bC, oC, none⟩) n ccC, e1, e2, e3, e4, .slice (some ⟨U, 0, none⟩) n n, .slice (some ⟨V, 0, none⟩) m m, e7, e8, e9, .slice (some ⟨B, 0, none⟩) m m, .slice (some ⟨F, 0, none⟩) m m, ea, int i64 at0, int i64 row, eb, ec, int i64 j, ed, ee, ef, eg, eh, ei, ej, ek, el, em, en, eo, ep, eq, er, es, et, eu, ev, ew, ex, ey, ez, eA, eB, eC, eD, eE, eF, eG, eH, eI, eJ, eK, eL, eM, eN, eO, eP, eQ, eR, eS, eT, eU, eV, eW, eX, eY, eZ, aa, ab, ac, ad, ae, af, ag, ah, ai, aj, ak, al, am, an, ao, ap, aq, ar, au, av, aw, ax, ay, az, aA, aB, aC, aD, aE, aF, aG, aH, aI, aJ, aK, aL, aM, aN, aO, aP, aQ, aR, aS, aT, aU, aV, aW, aX, aY, aZ, ba, bb, bc, bd, be, bf, bg, bh, bi, bj, bk, bl, bm, bn, bo, bp, bq, br, bs, bt, bu, bv, bw, bx, bz, bA, bB, bD, bE, bF, bG, bH, bI, bJ, bK, bL, bM, bN, bO, bP, bQ, bS, bT, bU, bV, bW, bX, bY, bZ, ca, cb, cc, cd, ce, cg, ch, ci, cj, ck, cl, cm, co, cp, cq, cr, cs, ct, cw, cx, cy, cz, cA, cB, cC, cD, cE, cF, cG, cH, cI, cJ, cK, cL, cM, cN, cO, cP, cQ, cS, cT, cU, cV, cW, cX, cY], defers := [] } w := by
 have HX1 := qh hX1; have HX0 := qh hX0; have HM := qh hM
 obtain ⟨c1, c2⟩ := hcr w hM.below
 have cu := hM.u.cell (j := row) (by omega)
 have cv := hM.v.cell (j := j) (by omega)
 have cn := hM.near.cell (j := j) (by omega)
 have hrow' : (row : Int) < (n : Int) := by omega
 have hj' : (j : Int) < (m : Int) := by omega
 have HJN := qh (show j < near.length by omega); have HJF := qh (show j < frm.length by omega)
 clear hX1 hX0 hM hcr hu hv hn hf
 generalize hc : gi crow j = c at *
 generalize hur : gi u row = ur at *
 generalize hvj : gi v j = vj at *
 generalize hnj : gi near j = nj at *
 clear hc hur hvj hnj
 unfold GR Jk Jy Gj R4 scR Fk Eh BJ BU
 conv => arg 2; arg 1; whnf
 by_cases hc0 : 0 ≤ c
 ·have hd0 : decide (0 ≤ c) = true := decide_eq_true hc0
  by_cases hlt : wrap64 (wrap64 (c - ur) - vj) < nj
  ·have hd1 : decide (wrap64 (wrap64 (c - ur) - vj) < nj) = true := decide_eq_true hlt
   have HLT := qh hlt
   clear hlt
   go_wp2_with fail
   go_quiet (fail)
   go_wp2_with fail
   have hMd := HM.out.drewN nq
   have cf := hMd.frm.cell (j := j) HJF.out
   have fB := hMd.near.free j
   have fF := hMd.frm.free j
   have hBF : ¬ B = F := hMd.apart.nbf
   have cu' : (w.drewN nq).cell? ⟨U, row, none⟩ = some (int i64 ur) := cu
   have cv' : (w.drewN nq).cell? ⟨V, j, none⟩ = some (int i64 vj) := cv
   have cn' : (w.drewN nq).cell? ⟨B, j, none⟩ = some (int i64 nj) := cn
   clear cu cv cn
   have HMd := qh hMd
   clear hMd HM
   generalize w.drewN nq = W0 at *
   generalize gi frm j = fj at *
   have hUB : ¬ U = B := HMd.out.apart.nub
   have hVB : ¬ V = B := HMd.out.apart.nvb
   have hUF : ¬ U = F := HMd.out.apart.nuf
   have hVF : ¬ V = F := HMd.out.apart.nvf
   go_region_held3 (fun w2 => w2.cell? ⟨U, row, none⟩ = some (int i64 ur) ∧ w2.cell? ⟨V, j, none⟩ = some (int i64 vj)) (first | assumption | exact ⟨cu', cv'⟩ | exact ⟨Dy hUB cu', Dy hVB cv'⟩ | exact ⟨Dy hUF (Dy hUB cu'), Dy hVF (Dy hVB cv')⟩ | go_keep) (fail)
   go_wp2_with fail
   simp only [IntWalk.i64_left]
   exact HX1.out ⟨hc0, by have := HLT.out; omega⟩ _ _ _ _ _ _ _ _ _ _ _ _ _ _ _ _ _ _ _ _ _ _ _ _ _ _ _ _ _ _ _ _ _ _ _ _ _ _ _ _ _ _ _ _ _ _ _ ((HMd.out.set_near j _).set_frm j at0).drew
  ·have hd1 : decide (wrap64 (wrap64 (c - ur) - vj) < nj) = false := decide_eq_false hlt
   have HLT := qh hlt
   clear hlt
   go_wp2_with fail
   go_quiet (fail)
   go_wp2_with fail
   exact HX0.out (fun h => by have h1 := HLT.out; have h2 := h.2; omega) _ _ _ _ _ _ _ _ _ _ _ _ _ _ _ _ _ _ _ _ _ _ _ _ _ _ _ _ _ _ _ _ _ _ _ _ _ _ _ _ _ _ _ _ _ _ _ (HM.out.drewN _)
 ·have hd0 : decide (0 ≤ c) = false := decide_eq_false hc0
  go_wp2_with fail
  go_quiet (fail)
  go_wp2_with fail
  exact HX0.out (fun h => by have := h.1; omega) _ _ _ _ _ _ _ _ _ _ _ _ _ _ _ _ _ _ _ _ _ _ _ _ _ _ _ _ _ _ _ _ _ _ _ _ _ _ _ _ _ _ _ _ _ _ _ (HM.out.drewN _)
end
section
open Go Go.RowKit Go.Deep
noncomputable def QS : Code := At (At (At GR))
noncomputable def ar5 : Code := .seq (Bu (At (At GR))) QS
theorem Gy (B : Nat) (near : List Int) (m j : Nat) (step next : Int) (hj : j < m) (hn : near.length = m) (w : World) (hB : BI w B near) (e0 e1 e2 e3 e4 e5 e6 e7 e8 e9 ea eb ec ed ee ef eg eh ei ej ek el em en eo ep eq er es et eu ev ew ex ey ez eA eB eC eD eE eF eG eH eI eJ eK eL eM eN eO eP eQ eR eS eT eU eV eW eX eY eZ aa ab ac ad ae af ag ah ai aj ak al am an ao ap aq ar au av aw ax ay az aA aB aC aD aE aF aG aH aI aJ aK aL aM aN aO aP aQ aR aS aT aU aV aW aX aY aZ ba bb bc bd be bf bg bh bi bj bk bl bm bn bo bp bq br bs bt bu bv bw bx bz bA bB bC bD bE bF bG bH bI bJ bK bL bM bN bO bP bQ bR bS bT bU bV bW bX bY bZ ca cb cc cd ce cf cg ch ci cj ck cl cm co cp cq cr cs ct cu cv cw cx cy cz cA cB cC cD cE cF cG cH cI cJ cK cL cM cN cO cP cQ cR cS cT : Value) (Q : Exit → Act → World → Prop)
  (hXy : gi near j < step → ∀ (cU cV cW cX cY cZ da db dc dd de : Value), Q .normal { tmps := #[e0, e1, e2, e3, e4, e5, e6, e7, e8, e9, .slice (some ⟨B, 0, none⟩) m m, ea, eb, ec, ed, int i64 (gi near j), int i64 j, int i64 j, ee, ef, eg, eh, ei, ej, ek, el, em, en, eo, ep, eq, er, es, et, eu, ev, ew, ex, ey, ez, eA, eB, eC, eD, eE, eF, eG, eH, eI, eJ, eK, eL, eM, eN, eO, eP, eQ, eR, eS, eT, eU, eV, eW, eX, eY, eZ, aa, ab, ac, ad, ae, af, ag, ah, ai, aj, ak, al, am, an, ao, ap, aq, ar, au, av, aw, ax, ay, az, aA, aB, aC, aD, aE, aF, aG, aH, aI, aJ, cU, cV, cW, cX, cY, cZ, da, db, dc, dd, de, aV, aW, aX, aY, aZ, ba, bb, bc, bd, be, bf, bg, bh, bi, bj, bk, bl, bm, bn, bo, bp, bq, br, bs, bt, bu, bv, bw, bx, bz, bA, bB, bC, bD, bE, bF, bG, bH, bI, bJ, bK, bL, bM, bN, bO, bP, bQ, bR, bS, bT, bU, bV, bW, bX, bY, bZ, ca, cb, cc, cd, ce, cf, cg, ch, ci, cj, ck, cl, cm, co, cp, cq, cr, cs, ct, cu, cv, cw, cx, cy, cz, cA, cB, cC, cD, cE, cF, cG, cH, cI, cJ, cK, cL, cM, cN, cO, cP, cQ, cR, cS, cT], defers := [] } w)
  (hXn : ¬ gi near j < step → ∀ (cU cV cW cX cY cZ da db dc dd de : Value), Q .normal { tmps := #[e0, e1, e2, e3, e4, e5, e6, e7, e8, e9, .slice (some ⟨B, 0, none⟩) m m, ea, eb, ec, ed, int i64 step, int i64 next, int i64 j, ee, ef, eg, eh, ei, ej, ek, el, em, en, eo, ep, eq, er, es, et, eu, ev, ew, ex, ey, ez, eA, eB, eC, eD, eE, eF, eG, eH, eI, eJ, eK, eL, eM, eN, eO, eP, eQ, eR, eS, eT, eU, eV, eW, eX, eY, eZ, aa, ab, ac, ad, ae, af, ag, ah, ai, aj, ak, al, am, an, ao, ap, aq, ar, au, av, aw, ax, ay, az, aA, aB, aC, aD, aE, aF, aG, aH, aI, aJ, cU, cV, cW, cX, cY, cZ, da, db, dc, dd, de, aV, aW, aX, aY, aZ, ba, bb, bc, bd, be, bf, bg, bh, bi, bj, bk, bl, bm, bn, bo, bp, bq, br, bs, bt, bu, bv, bw, bx, bz, bA, bB, bC, bD, bE, bF, bG, bH, bI, bJ, bK, bL, bM, bN, bO, bP, bQ, bR, bS, bT, bU, bV, bW, bX, bY, bZ, ca, cb, cc, cd, ce, cf, cg, ch, ci, cj, ck, cl, cm, co, cp, cq, cr, cs, ct, cu, cv, cw, cx, cy, cz, cA, cB, cC, cD, cE, cF, cG, cH, cI, cJ, cK, cL, cM, cN, cO, cP, cQ, cR, cS, cT], defers := [] } w) :
  Code.wp Tryz.prog QS Q { tmps := #[e0, e1, e2, e3, e4, e5, e6, e7, e8, e9, .slice (some ⟨B, 0, none⟩) m m, ea, eb, ec, ed, int i64 step, int i64 next, int i64 j, ee, ef, eg, eh, ei, ej, ek, el, em, en, eo, ep, eq, er, es, et, eu, ev, ew, ex, ey, ez, eA, eB, eC, eD, eE, eF, eG, eH, eI, eJ, eK, eL, eM, eN, eO, eP, eQ, eR, eS, eT, eU, eV, eW, eX, eY, eZ, aa, ab, ac, ad, ae, af, ag, ah, ai, aj, ak, al, am, an, ao, ap, aq, ar, au, av, aw, ax, ay, az, aA, aB, aC, aD, aE, aF, aG, aH, aI, aJ, aK, aL, aM, aN, aO, aP, aQ, aR, aS, aT, aU, aV, aW, aX, aY, aZ, ba, bb, bc, bd, be, bf, bg, bh, bi, bj, bk, bl, bm, bn, bo, bp, bq, br, bs, bt, bu, bv, bw, bx, bz, bA, bB, bC, bD, bE, bF, bG, bH, bI, bJ, bK, bL, bM, bN, bO, bP, bQ, bR, bS, bT, bU, bV, bW, bX, bY, bZ, ca, cb, cc, cd, ce, cf, cg, ch, ci, cj, ck, cl, cm, co, cp, cq, cr, cs, ct, cu, cv, cw, cx, cy, cz, cA, cB, cC, cD, cE, cF, cG, cH, cI, cJ, cK, cL, cM, cN, cO, cP, cQ, cR, cS, cT], defers := [] } w := by
 have HXY := qh hXy; have HXN := qh hXn
 have cn := hB.cell (j := j) (by omega)
 have hj' : (j : Int) < (m : Int) := by omega
 clear hXy hXn hB hn
 generalize hnj : gi near j = nj at *
 clear hnj
 unfold QS GR Jk Jy Gj R4 scR Fk Eh BJ BU
 conv => arg 2; whnf
 by_cases hlt : nj < step
 ·have hd : decide (nj < step) = true := decide_eq_true hlt
  go_wp2_with fail
  exact HXY.out hlt _ _ _ _ _ _ _ _ _ _ _
 ·have hd : decide (nj < step) = false := decide_eq_false hlt
  go_wp2_with fail
  exact HXN.out hlt _ _ _ _ _ _ _ _ _ _ _
theorem Pj (w0 : World) (T U V O B F D : Nat) (to u v own near frm : List Int) (done : List Bool) (bC oC ccC n m bR oR cR : Nat) (crow : List Int) (row : Nat) (at0 : Int) (hrow : row < n) (hu : u.length = n) (hv : v.length = m) (hn : near.length = m) (hf : frm.length = m) (hdl : done.length = m)
  (hm0 : m ≤ 1000) (hcr : ∀ j, j < m → ∀ W, Below w0.heap.size w0 W → W.cell? ⟨bC, oC + row, none⟩ = some (.slice (some ⟨bR, oR, none⟩) m cR) ∧ W.cell? ⟨bR, oR + j, none⟩ = some (int i64 (gi crow j)))
  (w : World) (hM : SolW w0 T U V O B F D to u v own near frm done w) (e2 e3 e4 e7 e8 e9 ea eb ec ed ee ef eg eh ei ej ek el em en eo ep eq er es et eu ev ew ex ey ez eA eB eC eD eE eF eG eH eI eJ eK eL eM eN eO eP eQ eR eS eT eU eV eW eX eY eZ aa ab ac ad ae af ag ah ai aj ak al am an ao ap aq ar au av aw ax ay az aA aB aC aD aE aF aG aH aI aJ aK aL aM aN aO aP aQ aR aS aT aU aV aW aX aY aZ ba bb bc bd be bf bg bh bi bj bk bl bm bn bo bp bq br bs bt bu bv bw bx bz bA bB bD bE bF bG bH bI bJ bK bL bM bN bO bP bQ bS bT bU bV bW bX bY bZ ca cb cc ce cf cg ch ci cj ck cl cm cn co cp cq cr cs ct cu cv cw cx cy cz cA cB cC cD cE cF cG cH cI cJ cK cL cM cN cO cP cQ cS cT : Value) (Q : Exit → Act → World → Prop) (X : Code)
  (hX : ∀ (w' : World) (cW cX cY cZ da db dc dd de df dg dh di dj dk dl dm dn dp dq dr ds dt du dv dw dx dy dz dA dB dC dD dE dF dG dH dI dJ dK dL dM dN dO dP dQ dR dS dT dU dV dW dX dY dZ fa fb fc fd fe ff fg fh fi fj cU cV : Value), SolW w0 T U V O B F D to u v own (BQ crow v done (gi u row) at0 near frm m).near (BQ crow v done (gi u row) at0 near frm m).frm done w' → Code.wp Tryz.prog X Q { tmps := #[.slice (some ⟨bC, oC, none⟩) n ccC, int i64 m, e2, e3, e4, .slice (some ⟨U, 0, none⟩) n n, .slice (some ⟨V, 0, none⟩) m m, e7, e8, e9, .slice (some ⟨B, 0, none⟩) m m, .slice (some ⟨F, 0, none⟩) m m, .slice (some ⟨D, 0, none⟩) m m, int i64 at0, int i64 row, int i64 (BQ crow v done (gi u row) at0 near frm m).step, int i64 (BQ crow v done (gi u row) at0 near frm m).next, cU, cV, ec, ed, ee, ef, eg, eh, ei, ej, ek, el, em, en, eo, ep, eq, er, es, et, eu, ev, ew, ex, ey, ez, eA, eB, eC, eD, cW, cX, cY, cZ, da, db, dc, dd, de, df, dg, dh, di, dj, dk, dl, dm, dn, dp, dq, dr, ds, dt, du, dv, dw, dx, dy, dz, dA, dB, dC, dD, dE, dF, dG, dH, dI, dJ, dK, dL, dM, dN, dO, dP, dQ, dR, dS, dT, dU, dV, dW, dX, dY, dZ, fa, fb, fc, fd, fe, ff, fg, fh, fi, fj, aT, aU, aV, aW, aX, aY, aZ, ba, bb, bc, bd, be, bf, bg, bh, bi, bj, bk, bl, bm, bn, bo, bp, bq, br, bs, bt, bu, bv, bw, bx, bz, bA, bB, bD, bE, bF, bG, bH, bI, bJ, bK, bL, bM, bN, bO, bP, bQ, bS, bT, bU, bV, bW, bX, bY, bZ, ca, cb, cc, ce, cf, cg, ch, ci, cj, ck, cl, cm, cn, co, cp, cq, cr, cs, ct, cu, cv, cw, cx, cy, cz, cA, cB, cC, cD, cE, cF, cG, cH, cI, cJ, cK, cL, cM, cN, cO, cP, cQ, cS, cT], defers := [] } w') :
  Code.wp Tryz.prog (.seq Jy X) Q { tmps := #[.slice (some ⟨bC, oC, none⟩) n ccC, int i64 m, e2, e3, e4, .slice (some ⟨U, 0, none⟩) n n, .slice (some ⟨V, 0, none⟩) m m, e7, e8, e9, .slice (some ⟨B, 0, none⟩) m m, .slice (some ⟨F, 0, none⟩) m m, .slice (some ⟨D, 0, none⟩) m m, int i64 at0, int i64 row, int i64 Ap, int i64 (-1), ea, eb, ec, ed, ee, ef, eg, eh, ei, ej, ek, el, em, en, eo, ep, eq, er, es, et, eu, ev, ew, ex, ey, ez, eA, eB, eC, eD, eE, eF, eG, eH, eI, eJ, eK, eL, eM, eN, eO, eP, eQ, eR, eS, eT, eU, eV, eW, eX, eY, eZ, aa, ab, ac, ad, ae, af, ag, ah, ai, aj, ak, al, am, an, ao, ap, aq, ar, au, av, aw, ax, ay, az, aA, aB, aC, aD, aE, aF, aG, aH, aI, aJ, aK, aL, aM, aN, aO, aP, aQ, aR, aS, aT, aU, aV, aW, aX, aY, aZ, ba, bb, bc, bd, be, bf, bg, bh, bi, bj, bk, bl, bm, bn, bo, bp, bq, br, bs, bt, bu, bv, bw, bx, bz, bA, bB, bD, bE, bF, bG, bH, bI, bJ, bK, bL, bM, bN, bO, bP, bQ, bS, bT, bU, bV, bW, bX, bY, bZ, ca, cb, cc, ce, cf, cg, ch, ci, cj, ck, cl, cm, cn, co, cp, cq, cr, cs, ct, cu, cv, cw, cx, cy, cz, cA, cB, cC, cD, cE, cF, cG, cH, cI, cJ, cK, cL, cM, cN, cO, cP, cQ, cS, cT], defers := [] } w := by
 have HX := qh hX; have HM := qh hM; have HCR := qh hcr
 have HU := qh hu; have HV := qh hv; have HDL := qh hdl
 have hsc := fun k hk => GM crow v done (gi u row) at0 near frm m hn hf k hk
 have HSC := qh hsc
 clear hX hM hcr hu hv hdl hn hf hsc
 unfold Jy Gj R4 scR Fk Eh BJ BU
 conv => arg 2; arg 1; whnf
 go_wp2_with fail
 go_loopw [15, 16, 48] (fun sv nv iv wr => ∃ j : Nat, j ≤ m ∧ iv = int i64 j ∧ sv = int i64 (BQ crow v done (gi u row) at0 near frm j).step ∧ nv = int i64 (BQ crow v done (gi u row) at0 near frm j).next ∧ Hid (SolW w0 T U V O B F D to u v own (BQ crow v done (gi u row) at0 near frm j).near (BQ crow v done (gi u row) at0 near frm j).frm done wr)) (fun _ _ iv _ => m - (intOf iv).toNat)
 case atStart => exact ⟨0, Nat.zero_le _, rfl, rfl, rfl, HM⟩
 case round =>
  clear HM
  obtain ⟨j, hjm, rfl, rfl, rfl, hM⟩ := hrel
  by_cases hj : j < m
  ·have hj' : (j : Int) < (m : Int) := by omega
   obtain ⟨l1, l2, _, _, _⟩ := HSC.out j hjm
   have hstep := If crow v done (gi u row) at0 near frm j
   have cd := hM.out.done.cell (j := j) (by rw [HDL.out]; exact hj)
   have HST := qh hstep; have HL1 := qh l1; have HL2 := qh l2
   clear hstep l1 l2
   generalize BQ crow v done (gi u row) at0 near frm j = a at *
   change Code.wp Tryz.prog (.seq (Bu Jk) (.seq (Bu (At Jk)) (.seq (.block 5 (.seq (Bu GR) (.seq (Bu (At GR)) ar5))) (At (At (At Jk)))))) _ _ _
   go_wp2_with fail
   conv => arg 2; whnf
   go_wp2_with fail
   conv => arg 2; whnf
   go_wp2_with fail
   conv => arg 2; whnf
   go_wp2_with fail
   conv => arg 2; whnf
   cases hdj : gb done j with
   | true =>
    rw [hdj] at cd
    have he : BQ crow v done (gi u row) at0 near frm (j + 1) = a := by rw [HST.out]; unfold Gn; rw [if_pos hdj]
    clear hdj
    have HEE := qh he
    clear he
    go_wp2_with fail
    conv => arg 2; whnf
    go_wp2_with fail
    go_roundw
    case rel => exact ⟨j + 1, by omega, by go_num, by rw [HEE.out], by rw [HEE.out], by rw [HEE.out]; exact hM⟩
    case measure => simp [intOf]; omega
   | false =>
    rw [hdj] at cd
    have HDJ := qh hdj
    clear hdj
    go_wp2_with fail
    unfold ar5
    refine N7 w0 T U V O B F D to u v own a.near a.frm done bC oC ccC n m bR oR cR crow row j at0 hrow hj HU.out HV.out HL1.out HL2.out (HCR.out j hj) wr hM.out  _ _ _ _ _ _ _ _ _ _ _ _ _ _ _ _ _ _ _ _ _ _ _ _ _ _ _ _ _ _ _ _ _ _ _ _ _ _ _ _ _ _ _ _ _ _ _ _ _ _ _ _ _ _ _ _ _ _ _ _ _ _ _ _ _ _ _ _ _ _ _ _ _ _ _ _ _ _ _ _ _ _ _ _ _ _ _ _ _ _ _ _ _ _ _ _ _ _ _ _ _ _ _ _ _ _ _ _ _ _ _ _ _ _ _ _ _ _ _ _ _ _ _ _ _ _ _ _ _ _ _ _ _ _ _ _ _ _ _ _ _ _ _ _ _ _ _ _ _ _ _ _ _ _ _ _ _ _ _ _ _ _ _ _ _ _ _ _ _ _ _ _ _ _ _ _ _ _ _ _ _ _ _ _ _ _ _ _ _ _ _ _ _ _ _ _ _ _ _ _ _ _ _ _ _ _ ?_ ?_
    ·intro hq w1 _ _ _ _ _ _ _ _ _ _ _ _ _ _ _ _ _ _ _ _ _ _ _ _ _ _ _ _ _ _ _ _ _ _ _ _ _ _ _ _ _ _ _ _ _ _ hM1
     have HQ := qh hq; have HM1 := qh hM1
     clear hq hM1
     refine Gy B (a.near.set j (wrap64 (wrap64 (gi crow j - gi u row) - gi v j))) m j a.step a.next hj (by simp [HL1.out]) w1 HM1.out.near _ _ _ _ _ _ _ _ _ _ _ _ _ _ _ _ _ _ _ _ _ _ _ _ _ _ _ _ _ _ _ _ _ _ _ _ _ _ _ _ _ _ _ _ _ _ _ _ _ _ _ _ _ _ _ _ _ _ _ _ _ _ _ _ _ _ _ _ _ _ _ _ _ _ _ _ _ _ _ _ _ _ _ _ _ _ _ _ _ _ _ _ _ _ _ _ _ _ _ _ _ _ _ _ _ _ _ _ _ _ _ _ _ _ _ _ _ _ _ _ _ _ _ _ _ _ _ _ _ _ _ _ _ _ _ _ _ _ _ _ _ _ _ _ _ _ _ _ _ _ _ _ _ _ _ _ _ _ _ _ _ _ _ _ _ _ _ _ _ _ _ _ _ _ _ _ _ _ _ _ _ _ _ _ _ _ _ _ _ _ _ _ _ _ _ _ _ _ _ _ _ _ _ _ _ _ _ _ _ ?_ ?_
     ·intro hl _ _ _ _ _ _ _ _ _ _ _
      have HL := qh hl
      have he : BQ crow v done (gi u row) at0 near frm (j + 1) = ⟨(a.near.set j (wrap64 (wrap64 (gi crow j - gi u row) - gi v j))), (a.frm.set j at0), gi (a.near.set j (wrap64 (wrap64 (gi crow j - gi u row) - gi v j))) j, j⟩ := by
       rw [HST.out]; unfold Gn
       rw [if_neg (by rw [HDJ.out]; decide)]
       simp only
       rw [if_pos HQ.out, if_pos HL.out]
      clear hl
      go_wp2_with fail
      conv => arg 2; whnf
      go_wp2_with fail
      go_roundw
      case rel => exact ⟨j + 1, by omega, by go_num, by rw [he], by rw [he], by rw [he]; exact HM1⟩
      case measure => simp [intOf]; omega
     ·intro hl _ _ _ _ _ _ _ _ _ _ _
      have HL := qh hl
      have he : BQ crow v done (gi u row) at0 near frm (j + 1) = ⟨(a.near.set j (wrap64 (wrap64 (gi crow j - gi u row) - gi v j))), (a.frm.set j at0), a.step, a.next⟩ := by
       rw [HST.out]; unfold Gn
       rw [if_neg (by rw [HDJ.out]; decide)]
       simp only
       rw [if_pos HQ.out, if_neg HL.out]
      clear hl
      go_wp2_with fail
      conv => arg 2; whnf
      go_wp2_with fail
      go_roundw
      case rel => exact ⟨j + 1, by omega, by go_num, by rw [he], by rw [he], by rw [he]; exact HM1⟩
      case measure => simp [intOf]; omega
    ·intro hq w1 _ _ _ _ _ _ _ _ _ _ _ _ _ _ _ _ _ _ _ _ _ _ _ _ _ _ _ _ _ _ _ _ _ _ _ _ _ _ _ _ _ _ _ _ _ _ hM1
     have HQ := qh hq; have HM1 := qh hM1
     clear hq hM1
     refine Gy B a.near m j a.step a.next hj HL1.out w1 HM1.out.near _ _ _ _ _ _ _ _ _ _ _ _ _ _ _ _ _ _ _ _ _ _ _ _ _ _ _ _ _ _ _ _ _ _ _ _ _ _ _ _ _ _ _ _ _ _ _ _ _ _ _ _ _ _ _ _ _ _ _ _ _ _ _ _ _ _ _ _ _ _ _ _ _ _ _ _ _ _ _ _ _ _ _ _ _ _ _ _ _ _ _ _ _ _ _ _ _ _ _ _ _ _ _ _ _ _ _ _ _ _ _ _ _ _ _ _ _ _ _ _ _ _ _ _ _ _ _ _ _ _ _ _ _ _ _ _ _ _ _ _ _ _ _ _ _ _ _ _ _ _ _ _ _ _ _ _ _ _ _ _ _ _ _ _ _ _ _ _ _ _ _ _ _ _ _ _ _ _ _ _ _ _ _ _ _ _ _ _ _ _ _ _ _ _ _ _ _ _ _ _ _ _ _ _ _ _ _ _ _ ?_ ?_
     ·intro hl _ _ _ _ _ _ _ _ _ _ _
      have HL := qh hl
      have he : BQ crow v done (gi u row) at0 near frm (j + 1) = ⟨a.near, a.frm, gi a.near j, j⟩ := by
       rw [HST.out]; unfold Gn
       rw [if_neg (by rw [HDJ.out]; decide)]
       simp only
       rw [if_neg HQ.out, if_pos HL.out]
      clear hl
      go_wp2_with fail
      conv => arg 2; whnf
      go_wp2_with fail
      go_roundw
      case rel => exact ⟨j + 1, by omega, by go_num, by rw [he], by rw [he], by rw [he]; exact HM1⟩
      case measure => simp [intOf]; omega
     ·intro hl _ _ _ _ _ _ _ _ _ _ _
      have HL := qh hl
      have he : BQ crow v done (gi u row) at0 near frm (j + 1) = ⟨a.near, a.frm, a.step, a.next⟩ := by
       rw [HST.out]; unfold Gn
       rw [if_neg (by rw [HDJ.out]; decide)]
       simp only
       rw [if_neg HQ.out, if_neg HL.out]
      clear hl
      go_wp2_with fail
      conv => arg 2; whnf
      go_wp2_with fail
      go_roundw
      case rel => exact ⟨j + 1, by omega, by go_num, by rw [he], by rw [he], by rw [he]; exact HM1⟩
      case measure => simp [intOf]; omega
  ·obtain rfl : j = m := by omega
   have hj' : ¬ (j : Int) < (j : Int) := by omega
   go_wp2_with fail
   exact HX.out _ _ _ _ _ _ _ _ _ _ _ _ _ _ _ _ _ _ _ _ _ _ _ _ _ _ _ _ _ _ _ _ _ _ _ _ _ _ _ _ _ _ _ _ _ _ _ _ _ _ _ _ _ _ _ _ _ _ _ _ _ _ _ _ _ _ _ _ hM.out
end
section
open Go Go.RowKit Go.Deep
noncomputable def N9 : Code := Bu (At (At (At (At Gj))))
theorem Ga (own : List Int) (done : List Bool) (step : Int) (s : ShiftS) : ∀ k, (B7 own done step s k).u.length = s.u.length ∧ (B7 own done step s k).v.length = s.v.length ∧ (B7 own done step s k).near.length = s.near.length
 | 0 => ⟨rfl, rfl, rfl⟩
 | k + 1 => by
  obtain ⟨h1, h2, h3⟩ := Ga own done step s k
  rw [El]
  unfold Ff
  split
  ·exact ⟨by simp [h1], by simp [h2], h3⟩
  ·split
   ·exact ⟨h1, h2, by simp [h3]⟩
   ·exact ⟨h1, h2, h3⟩
theorem Na (w0 : World) (T U V O B F D : Nat) (to u v own near frm : List Int) (done : List Bool) (n m : Nat) (step : Int) (hu : u.length = n) (hv : v.length = m) (hn : near.length = m) (hol : own.length = m) (hdl : done.length = m)
  (hm0 : m ≤ 1000) (hown : ∀ j, j < m → gb done j = true → 0 ≤ gi own j ∧ gi own j < n)
  (w : World) (hM : SolW w0 T U V O B F D to u v own near frm done w) (e0 e2 e3 e4 e7 e9 ea eb ec ed ee ef eg eh ei ej ek el em en eo ep eq er es et eu ev ew ex ey ez eA eB eC eD eE eF eG eH eI eJ eK eL eM eN eO eP eQ eR eS eT eU eV eW eX eY eZ aa ab ac ad ae af ag ah ai aj ak al am an ao ap aq ar au av aw ax ay az aA aB aC aD aE aF aG aH aI aJ aK aL aM aN aO aP aQ aR aS aT aU aV aW aX aY aZ ba bb bc bd be bf bg bh bi bj bk bl bm bn bo bp bq br bs bt bu bv bw bx bz bA bB bC bD bE bF bG bH bI bJ bK bL bM bN bO bP bQ bR bS bT bU bV bW bX bY bZ ca cb cc ce cf cg ch ci cj ck cl cm cp cq cr cs ct cw cx cy cz cA cB cC cD cE cF cG cH cI cJ cK cL cM cN cO cP cQ cR cS cT cU cV cW cX cY : Value) (Q : Exit → Act → World → Prop) (X : Code)
  (hX : ∀ (w' : World) (cZ da db dc dd de df dg dh di dj dk dl dm dn dp dq dr ds dt du dv dw dx dy dz dA dB dC dD dE dF dG dH dI dJ dK dL dM dN dO : Value), SolW w0 T U V O B F D to (B7 own done step ⟨u, v, near⟩ m).u (B7 own done step ⟨u, v, near⟩ m).v own (B7 own done step ⟨u, v, near⟩ m).near frm done w' → Code.wp Tryz.prog X Q { tmps := #[e0, int i64 m, e2, e3, e4, .slice (some ⟨U, 0, none⟩) n n, .slice (some ⟨V, 0, none⟩) m m, e7, .slice (some ⟨O, 0, none⟩) m m, e9, .slice (some ⟨B, 0, none⟩) m m, ea, .slice (some ⟨D, 0, none⟩) m m, eb, ec, int i64 step, ed, ee, ef, cZ, eh, ei, ej, ek, el, em, en, eo, ep, eq, er, es, et, eu, ev, ew, ex, ey, ez, eA, eB, eC, eD, eE, eF, eG, eH, eI, eJ, eK, eL, eM, eN, eO, eP, eQ, eR, eS, eT, eU, eV, eW, eX, eY, eZ, aa, ab, ac, ad, ae, af, ag, ah, ai, aj, ak, al, am, an, ao, ap, aq, ar, au, av, aw, ax, ay, az, aA, aB, aC, aD, aE, aF, aG, aH, aI, aJ, aK, aL, aM, aN, aO, aP, aQ, aR, aS, aT, aU, aV, aW, aX, aY, aZ, ba, bb, bc, bd, be, bf, da, db, dc, dd, de, df, dg, dh, di, dj, dk, dl, dm, dn, dp, dq, dr, ds, dt, du, dv, dw, dx, dy, dz, dA, dB, dC, dD, dE, dF, dG, dH, dI, dJ, dK, dL, dM, dN, dO, bV, bW, bX, bY, bZ, ca, cb, cc, ce, cf, cg, ch, ci, cj, ck, cl, cm, cp, cq, cr, cs, ct, cw, cx, cy, cz, cA, cB, cC, cD, cE, cF, cG, cH, cI, cJ, cK, cL, cM, cN, cO, cP, cQ, cR, cS, cT, cU, cV, cW, cX, cY], defers := [] } w') :
  Code.wp Tryz.prog (.seq N9 X) Q { tmps := #[e0, int i64 m, e2, e3, e4, .slice (some ⟨U, 0, none⟩) n n, .slice (some ⟨V, 0, none⟩) m m, e7, .slice (some ⟨O, 0, none⟩) m m, e9, .slice (some ⟨B, 0, none⟩) m m, ea, .slice (some ⟨D, 0, none⟩) m m, eb, ec, int i64 step, ed, ee, ef, eg, eh, ei, ej, ek, el, em, en, eo, ep, eq, er, es, et, eu, ev, ew, ex, ey, ez, eA, eB, eC, eD, eE, eF, eG, eH, eI, eJ, eK, eL, eM, eN, eO, eP, eQ, eR, eS, eT, eU, eV, eW, eX, eY, eZ, aa, ab, ac, ad, ae, af, ag, ah, ai, aj, ak, al, am, an, ao, ap, aq, ar, au, av, aw, ax, ay, az, aA, aB, aC, aD, aE, aF, aG, aH, aI, aJ, aK, aL, aM, aN, aO, aP, aQ, aR, aS, aT, aU, aV, aW, aX, aY, aZ, ba, bb, bc, bd, be, bf, bg, bh, bi, bj, bk, bl, bm, bn, bo, bp, bq, br, bs, bt, bu, bv, bw, bx, bz, bA, bB, bC, bD, bE, bF, bG, bH, bI, bJ, bK, bL, bM, bN, bO, bP, bQ, bR, bS, bT, bU, bV, bW, bX, bY, bZ, ca, cb, cc, ce, cf, cg, ch, ci, cj, ck, cl, cm, cp, cq, cr, cs, ct, cw, cx, cy, cz, cA, cB, cC, cD, cE, cF, cG, cH, cI, cJ, cK, cL, cM, cN, cO, cP, cQ, cR, cS, cT, cU, cV, cW, cX, cY], defers := [] } w := by
 have HX := qh hX; have HM := qh hM; have HOW := qh hown
 have HOL := qh hol; have HDL := qh hdl
 have hsl := fun k => Ga own done step ⟨u, v, near⟩ k
 rw [show (ShiftS.mk u v near).u = u from rfl, show (ShiftS.mk u v near).v = v from rfl, show (ShiftS.mk u v near).near = near from rfl, hu, hv, hn] at hsl
 have HSL := qh hsl
 clear hX hM hown hu hv hdl hn hol hsl
 unfold N9 Gj R4 scR Fk Eh BJ BU
 conv => arg 2; arg 1; whnf
 go_wp2_with fail
 go_loopw [122] (fun iv wr => ∃ j : Nat, j ≤ m ∧ iv = int i64 j ∧ Hid (SolW w0 T U V O B F D to (B7 own done step ⟨u, v, near⟩ j).u (B7 own done step ⟨u, v, near⟩ j).v own (B7 own done step ⟨u, v, near⟩ j).near frm done wr)) (fun iv _ => m - (intOf iv).toNat)
 case atStart => exact ⟨0, Nat.zero_le _, rfl, HM⟩
 case round =>
  clear HM
  obtain ⟨j, hjm, rfl, hM⟩ := hrel
  by_cases hj : j < m
  ·have hj' : (j : Int) < (m : Int) := by omega
   obtain ⟨l1, l2, l3⟩ := HSL.out j
   have hstep := El own done step ⟨u, v, near⟩ j
   have cd := hM.out.done.cell (j := j) (by rw [HDL.out]; exact hj)
   have co := hM.out.own.cell (j := j) (by rw [HOL.out]; exact hj)
   have HST := qh hstep; have HL1 := qh l1; have HL2 := qh l2; have HL3 := qh l3
   clear hstep l1 l2 l3
   generalize B7 own done step ⟨u, v, near⟩ j = s at *
   cases hdj : gb done j with
   | true =>
    rw [hdj] at cd
    obtain ⟨ho0, hon⟩ := HOW.out j hj hdj
    obtain ⟨q, hq⟩ : ∃ q : Nat, gi own j = (q : Int) := ⟨(gi own j).toNat, by omega⟩
    rw [hq] at co
    have hqn : (q : Int) < (n : Int) := by omega
    have he : B7 own done step ⟨u, v, near⟩ (j + 1) = ⟨s.u.set q (wrap64 (gi s.u q + step)), s.v.set j (wrap64 (gi s.v j - step)), s.near⟩ := by
     rw [HST.out]; unfold Ff; rw [if_pos hdj, hq]; rfl
    have hM2 := (hM.out.set_u q (wrap64 (gi s.u q + step)))
    have hM3 := hM2.set_v j (wrap64 (gi s.v j - step))
    have cu := hM.out.u.cell (j := q) (by rw [HL1.out]; omega)
    have fu := hM.out.u.free q
    have cv := hM2.v.cell (j := j) (by rw [HL2.out]; exact hj)
    have fv := hM2.v.free j
    have HE := qh he; have HM3 := qh hM3
    clear he hM2 hM3 hM ho0 hon hq hdj
    generalize hus : gi s.u q = us at *
    generalize hvs : gi s.v j = vs at *
    clear hus hvs
    go_wp2_with fail
    exact ⟨⟨j + 1, by omega, by go_num, by rw [HE.out]; exact HM3⟩, by simp [intOf]; omega⟩
   | false =>
    rw [hdj] at cd
    have cn := hM.out.near.cell (j := j) (by rw [HL3.out]; exact hj)
    have fn := hM.out.near.free j
    by_cases hlt : gi s.near j < Ap
    ·have he : B7 own done step ⟨u, v, near⟩ (j + 1) = ⟨s.u, s.v, s.near.set j (wrap64 (gi s.near j - step))⟩ := by
      rw [HST.out]; unfold Ff; rw [if_neg (by rw [hdj]; decide), if_pos hlt]
     have hd : decide (gi s.near j < 1152921504606846976) = true := decide_eq_true hlt
     have HM3 := qh (hM.out.set_near j (wrap64 (gi s.near j - step)))
     have HE := qh he
     clear he hM hdj hlt
     generalize hns : gi s.near j = ns at *
     clear hns
     go_wp2_with fail
     exact ⟨⟨j + 1, by omega, by go_num, by rw [HE.out]; exact HM3⟩, by simp [intOf]; omega⟩
    ·have he : B7 own done step ⟨u, v, near⟩ (j + 1) = s := by
      rw [HST.out]; unfold Ff; rw [if_neg (by rw [hdj]; decide), if_neg hlt]
     have hd : decide (gi s.near j < 1152921504606846976) = false := decide_eq_false hlt
     have HE := qh he
     clear he hdj hlt
     generalize hns : gi s.near j = ns at *
     clear hns
     go_wp2_with fail
     exact ⟨⟨j + 1, by omega, by go_num, by rw [HE.out]; exact hM⟩, by simp [intOf]; omega⟩
  ·obtain rfl : j = m := by omega
   have hj' : ¬ (j : Int) < (j : Int) := by omega
   go_wp2_with fail
   exact HX.out _ _ _ _ _ _ _ _ _ _ _ _ _ _ _ _ _ _ _ _ _ _ _ _ _ _ _ _ _ _ _ _ _ _ _ _ _ _ _ _ _ _ hM.out
end
section
open Go Go.RowKit Go.Deep
theorem Pg {w0 : World} {aoC : Option Addr} {n m ccC row : Nat} {cost : List (List Int)} (hC : IsMat w0 (.slice aoC n ccC) cost) (hl : cost.length = n) (hm : ∀ r ∈ cost, r.length = m) (hrow : row < n) :
  ∃ bC oC bR oR cR, aoC = some ⟨bC, oC, none⟩ ∧ ∀ j, j < m → ∀ W, Below w0.heap.size w0 W → W.cell? ⟨bC, oC + row, none⟩ = some (.slice (some ⟨bR, oR, none⟩) m cR) ∧ W.cell? ⟨bR, oR + j, none⟩ = some (int i64 (gi (cost[row]?.getD []) j)) := by
 obtain ⟨bC, oC, e, ar, cr, hc, hr, hlt⟩ := hC.at_ (i := row) (by omega)
 have hrl : (cost[row]?.getD []).length = m := by
  rw [qg (by omega)]
  exact hm _ (List.getElem_mem _)
 rw [hrl] at hc hr
 by_cases h0 : m = 0
 ·exact ⟨bC, oC, 0, 0, 0, e, fun j hj => by omega⟩
 ·obtain ⟨bR, oR, e2, _, _⟩ := hr.int (j := 0) (by omega)
  subst e2
  refine ⟨bC, oC, bR, oR, cr, e, fun j hj W hW => ⟨(hW.cell (p := ⟨bC, oC + row, none⟩) hlt).trans hc, ?_⟩⟩
  obtain ⟨b2, o2, e3, hc2, hlt2⟩ := (hr.below hW (qn _)).int (j := j) (by omega)
  injection e3 with e3
  injection e3 with e4 e5
  subst e4 e5
  exact hc2
def PW (D : Nat) (w : World) : Nat := match w.heap[D]? with
 | some (.cells cs _ _) => cs.toList.countP (fun v => match v with | .bool false => true | _ => false)
 | _ => 0
theorem Ns {D : Nat} {w : World} {done : List Bool} (h : BB w D done) : PW D w = done.countP (fun b => !b) := by
 unfold BB at h
 unfold PW
 rw [h]
 show (FV done).toArray.toList.countP _ = _
 unfold FV
 rw [List.toList_toArray, List.countP_map]
 congr 1
 funext b
 cases b <;> rfl
theorem Nw : ∀ (done : List Bool) (x : Nat), x < done.length → gb done x = false → (done.set x true).countP (fun b => !b) < done.countP (fun b => !b)
 | [], x, h, _ => by simp at h
 | b :: r, 0, _, h => by
  have hb : b = false := h
  subst hb
  simp
 | b :: r, x + 1, h, hg => by
  have ih := Nw r x (by simpa using h) hg
  rw [List.set_cons_succ, List.countP_cons, List.countP_cons]
  omega
theorem Ct {fn : Func} {t u v x : Go.Tmp} (h : fn.results = #[.tmp t, .tmp u, .tmp v, .tmp x]) (tmps : Array Value) (P : Program) (w : World) :
  (results fn tmps).run P w = .ok (.tuple #[tmps.getD t undef, tmps.getD u undef, tmps.getD v undef, tmps.getD x undef]) w := by
 simp [results, h]
theorem MC {n m : Nat} {own : List Int} {done : List Bool} (h : FS n m own done = true) : ∀ j, j < m → gb done j = true → 0 ≤ gi own j ∧ gi own j < n := by
 intro j hj hd
 unfold FS at h
 have := List.all_eq_true.1 h j (by simpa using hj)
 rw [hd] at this
 simpa using this
noncomputable def RC : Code := At (At Gj)
noncomputable def sh8 : Code := At (At RC)
noncomputable def T7 : Code := At sh8
noncomputable def scS : Code := .seq Jy RC
noncomputable def shS : Code := .seq N9 T7
structure SrL (n m : Nat) (s : SrchS) : Prop where
 u : s.u.length = n
 v : s.v.length = m
 near : s.near.length = m
 frm : s.frm.length = m
 done : s.done.length = m
theorem Pp (w0 : World) (T U V O B F D : Nat) (to own : List Int) (cost : List (List Int)) (aoC : Option Addr) (ccC n m i : Nat) (hi : i < n) (hC : IsMat w0 (.slice aoC n ccC) cost) (hl : cost.length = n) (hrl : ∀ r ∈ cost, r.length = m) (hm0 : m ≤ 1000) (hn0 : n ≤ 1000) (hol : own.length = m)
  (k0 : Nat) (s0 : SrchS) (hs : SrL n m s0) (res : Option SrchS) (hres : Eo cost n m i own k0 s0 = some res)
  (w : World) (hM : SolW w0 T U V O B F D to s0.u s0.v own s0.near s0.frm s0.done w) (e2 e3 e7 ea eb ec ed ee ef eg eh ei ej ek el em en eo ep eq er es et eu ev ew ex ey ez eA eB eC eD eE eF eG eH eI eJ eK eL eM eN eO eP eQ eR eS eT eU eV eW eX eY eZ aa ab ac ad ae af ag ah ai aj ak al am an ao ap aq ar au aw ax ay az aA aB aC aD aE aF aG aH aI aJ aK aL aM aN aO aP aQ aR aS aT aU aV aW aX aY aZ ba bb bc bd be bf bg bh bi bj bk bl bm bn bo bp bq br bs bt bu bv bw bx bz bA bB bD bE bF bG bH bI bJ bK bL bM bN bO bP bQ bS bT bU bV bW bX bY bZ ca cb cc cd ce cf cg ch ci cj ck cl cm cn cp cq cr cs ct cv cw cx cy cz cA cB cC cE cF cG cH cI cJ cK cL cM cN cO cP cQ cS cT cU cV cW cX cY : Value) (Q : Exit → Act → World → Prop) (X : Code)
  (hF : res = none → ∀ (w' : World) (cZ da db dc dd de df dg dh di dj dk dl dm dn dp dq dr ds dt du dv dw dx dy dz dA dB dC dD dE dF dG dH dI dJ dK dL dM dN dO dP dQ dR dS dT dU dV dW dX dY dZ fa fb fc fd fe ff fg fh fi fj fk fl fm fn fo fp fq fr fs ft fv fw fx fy fz fA fB fC fE fF fG fH fI fJ fK fL fM fN fO fP fQ fR fS fT fU fV fW fX fY fZ ga gb gc gd ge gf gg gh gj gk gl gm gn go gp gq gr gs gt gu gv gw gx gy gz gA gB gC gD gE gF gG : Value), Below w0.heap.size w0 w' → Q .ret { tmps := #[.slice aoC n ccC, int i64 m, e2, e3, .slice none 0 0, .slice none 0 0, .slice none 0 0, .bool false, .slice (some ⟨O, 0, none⟩) m m, int i64 i, .slice (some ⟨B, 0, none⟩) m m, .slice (some ⟨F, 0, none⟩) m m, .slice (some ⟨D, 0, none⟩) m m, cZ, da, db, dc, dd, de, df, ef, eg, eh, ei, ej, ek, el, em, en, eo, ep, eq, er, es, et, eu, ev, ew, ex, ey, ez, eA, eB, eC, eD, eE, eF, dg, dh, di, dj, dk, dl, dm, dn, dp, dq, dr, ds, dt, du, dv, dw, dx, dy, dz, dA, dB, dC, dD, dE, dF, dG, dH, dI, dJ, dK, dL, dM, dN, dO, dP, dQ, dR, dS, dT, dU, dV, dW, dX, dY, dZ, fa, fb, fc, fd, fe, ff, fg, fh, fi, fj, fk, fl, fm, fn, fo, fp, fq, fr, fs, ft, fv, fw, fx, fy, fz, fA, fB, fC, fE, fF, fG, fH, fI, fJ, fK, fL, fM, fN, fO, fP, fQ, fR, fS, fT, fU, fV, fW, fX, fY, fZ, ga, gb, gc, gd, ge, gf, gg, gh, gj, gk, gl, gm, gn, go, gp, gq, gr, gs, gt, gu, gv, gw, gx, gy, gz, gA, gB, gC, gD, gE, gF, gG, cj, ck, cl, cm, cn, cp, cq, cr, cs, ct, cv, cw, cx, cy, cz, cA, cB, cC, cE, cF, cG, cH, cI, cJ, cK, cL, cM, cN, cO, cP, cQ, cS, cT, cU, cV, cW, cX, cY], defers := [] } w')
  (hX : ∀ t, res = some t → SrL n m t → ∀ (w' : World) (f7 da db dc dd de df dg dh di dj dk dl dm dn dp dq dr ds dt du dv dw dx dy dz dA dB dC dD dE dF dG dH dI dJ dK dL dM dN dO dP dQ dR dS dT dU dV dW dX dY dZ fa fb fc fd fe ff fg fh fi fj fk fl fm fn fo fp fq fr fs ft fv fw fx fy fz fA fB fC fE fF fG fH fI fJ fK fL fM fN fO fP fQ fR fS fT fU fV fW fX fY fZ ga gb gc gd ge gf gg gh gj gk gl gm gn go gp gq gr gs gt gu gv gw gx gy gz gA gB gC gD gE gF gG : Value), SolW w0 T U V O B F D to t.u t.v own t.near t.frm t.done w' → Code.wp Tryz.prog X Q { tmps := #[.slice aoC n ccC, int i64 m, e2, e3, .slice (some ⟨T, 0, none⟩) n n, .slice (some ⟨U, 0, none⟩) n n, .slice (some ⟨V, 0, none⟩) m m, f7, .slice (some ⟨O, 0, none⟩) m m, int i64 i, .slice (some ⟨B, 0, none⟩) m m, .slice (some ⟨F, 0, none⟩) m m, .slice (some ⟨D, 0, none⟩) m m, int i64 t.at_, da, db, dc, dd, de, df, ef, eg, eh, ei, ej, ek, el, em, en, eo, ep, eq, er, es, et, eu, ev, ew, ex, ey, ez, eA, eB, eC, eD, eE, eF, dg, dh, di, dj, dk, dl, dm, dn, dp, dq, dr, ds, dt, du, dv, dw, dx, dy, dz, dA, dB, dC, dD, dE, dF, dG, dH, dI, dJ, dK, dL, dM, dN, dO, dP, dQ, dR, dS, dT, dU, dV, dW, dX, dY, dZ, fa, fb, fc, fd, fe, ff, fg, fh, fi, fj, fk, fl, fm, fn, fo, fp, fq, fr, fs, ft, fv, fw, fx, fy, fz, fA, fB, fC, fE, fF, fG, fH, fI, fJ, fK, fL, fM, fN, fO, fP, fQ, fR, fS, fT, fU, fV, fW, fX, fY, fZ, ga, gb, gc, gd, ge, gf, gg, gh, gj, gk, gl, gm, gn, go, gp, gq, gr, gs, gt, gu, gv, gw, gx, gy, gz, gA, gB, gC, gD, gE, gF, gG, cj, ck, cl, cm, cn, cp, cq, cr, cs, ct, cv, cw, cx, cy, cz, cA, cB, cC, cE, cF, cG, cH, cI, cJ, cK, cL, cM, cN, cO, cP, cQ, cS, cT, cU, cV, cW, cX, cY], defers := [] } w') :
  Code.wp Tryz.prog (.seq (Bu (At (At (At scR)))) X) Q { tmps := #[.slice aoC n ccC, int i64 m, e2, e3, .slice (some ⟨T, 0, none⟩) n n, .slice (some ⟨U, 0, none⟩) n n, .slice (some ⟨V, 0, none⟩) m m, e7, .slice (some ⟨O, 0, none⟩) m m, int i64 i, .slice (some ⟨B, 0, none⟩) m m, .slice (some ⟨F, 0, none⟩) m m, .slice (some ⟨D, 0, none⟩) m m, int i64 s0.at_, int i64 s0.row, ea, eb, ec, ed, ee, ef, eg, eh, ei, ej, ek, el, em, en, eo, ep, eq, er, es, et, eu, ev, ew, ex, ey, ez, eA, eB, eC, eD, eE, eF, eG, eH, eI, eJ, eK, eL, eM, eN, eO, eP, eQ, eR, eS, eT, eU, eV, eW, eX, eY, eZ, aa, ab, ac, ad, ae, af, ag, ah, ai, aj, ak, al, am, an, ao, ap, aq, ar, au, aw, ax, ay, az, aA, aB, aC, aD, aE, aF, aG, aH, aI, aJ, aK, aL, aM, aN, aO, aP, aQ, aR, aS, aT, aU, aV, aW, aX, aY, aZ, ba, bb, bc, bd, be, bf, bg, bh, bi, bj, bk, bl, bm, bn, bo, bp, bq, br, bs, bt, bu, bv, bw, bx, bz, bA, bB, bD, bE, bF, bG, bH, bI, bJ, bK, bL, bM, bN, bO, bP, bQ, bS, bT, bU, bV, bW, bX, bY, bZ, ca, cb, cc, cd, ce, cf, cg, ch, ci, cj, ck, cl, cm, cn, cp, cq, cr, cs, ct, cv, cw, cx, cy, cz, cA, cB, cC, cE, cF, cG, cH, cI, cJ, cK, cL, cM, cN, cO, cP, cQ, cS, cT, cU, cV, cW, cX, cY], defers := [] } w := by
 have HX := qh hX; have HM := qh hM; have HF := qh hF; have HC := qh hC; have HRL := qh hrl; have HL := qh hl; have HS := qh hs; have HRES := qh hres; have HOL := qh hol
 clear hX hM hF hC hrl hl hs hres hol
 unfold scR Fk Eh BJ BU
 conv => arg 2; arg 1; whnf
 go_wp2_with fail
 go_loopw [4, 5, 6, 13, 14] (fun tv uv vv av rv wr => tv = .slice (some ⟨T, 0, none⟩) n n ∧ uv = .slice (some ⟨U, 0, none⟩) n n ∧ vv = .slice (some ⟨V, 0, none⟩) m m ∧ ∃ (k : Nat) (s : SrchS), av = int i64 s.at_ ∧ rv = int i64 (s.row : Nat) ∧ Hid (SolW w0 T U V O B F D to s.u s.v own s.near s.frm s.done wr) ∧ Hid (SrL n m s) ∧ Hid (Eo cost n m i own k s = some res)) (fun _ _ _ _ _ wr => PW D wr)
 case atStart => exact ⟨rfl, rfl, rfl, k0, s0, rfl, rfl, HM, HS, HRES⟩
 case round =>
  clear HM HS HRES
  obtain ⟨rfl, rfl, rfl, k, s, rfl, rfl, hM, hS, hR⟩ := hrel
  have hr := hR.out
  clear hR
  rcases k with _ | k
  ·exact absurd hr (by simp [Eo])
  rw [Eo] at hr
  by_cases hq : s.row < n ∧ FS n m own s.done = true
  ·rw [if_pos hq] at hr
   simp only at hr
   obtain ⟨hrow, howned⟩ := hq
   obtain ⟨bC, oC, bR, oR, cR, rfl, hcr⟩ := Pg HC.out HL.out HRL.out hrow
   have hok := GM (cost[s.row]?.getD []) s.v s.done (gi s.u s.row) s.at_ s.near s.frm m hS.out.near hS.out.frm m (qn _)
   have HR := qh hr; have HOK := qh hok; have HOWN := qh (MC howned)
   clear hr hok howned
   change Code.wp Tryz.prog (.block 3 (.seq (Bu Gj) scS)) _ _ _
   go_wp2_with fail
   conv => arg 2; whnf
   go_wp2_with fail
   unfold scS
   refine Pj w0 T U V O B F D to s.u s.v own s.near s.frm s.done bC oC ccC n m bR oR cR (cost[s.row]?.getD []) s.row s.at_ hrow hS.out.u hS.out.v hS.out.near hS.out.frm hS.out.done hm0 hcr wr hM.out _ _ _ _ _ _ _ _ _ _ _ _ _ _ _ _ _ _ _ _ _ _ _ _ _ _ _ _ _ _ _ _ _ _ _ _ _ _ _ _ _ _ _ _ _ _ _ _ _ _ _ _ _ _ _ _ _ _ _ _ _ _ _ _ _ _ _ _ _ _ _ _ _ _ _ _ _ _ _ _ _ _ _ _ _ _ _ _ _ _ _ _ _ _ _ _ _ _ _ _ _ _ _ _ _ _ _ _ _ _ _ _ _ _ _ _ _ _ _ _ _ _ _ _ _ _ _ _ _ _ _ _ _ _ _ _ _ _ _ _ _ _ _ _ _ _ _ _ _ _ _ _ _ _ _ _ _ _ _ _ _ _ _ _ _ _ _ _ _ _ _ _ _ _ _ _ _ _ _ _ _ _ _ _ _ _ _ _ _ _ _ _ _ _ _ _ _ _ _ _ _ _ _ ?_
   intro w1 _ _ _ _ _ _ _ _ _ _ _ _ _ _ _ _ _ _ _ _ _ _ _ _ _ _ _ _ _ _ _ _ _ _ _ _ _ _ _ _ _ _ _ _ _ _ _ _ _ _ _ _ _ _ _ _ _ _ _ _ _ _ _ _ _ _ _ hM1
   have HM1 := qh hM1
   clear hM1 hcr
   generalize BQ (cost[s.row]?.getD []) s.v s.done (gi s.u s.row) s.at_ s.near s.frm m = a at *
   obtain ⟨anear, afrm, astep, anext⟩ := a
   simp only at HR HM1
   change Code.wp Tryz.prog (.seq (Bu RC) (.seq (Bu (At RC)) shS)) _ _ _
   rcases HOK.out.best with ⟨e1, e2, e3⟩ | ⟨x, e1, e2, e3, e4, e5, e6⟩
   ·simp only at e1
    subst e1
    have hres : res = none := by have := HR.out; simpa using this.symm
    go_wp2_with fail
    conv => arg 2; whnf
    go_wp2_with fail
    try simp only [Exit.inBlock, Exit.then]
    exact HF.out hres _ _ _ _ _ _ _ _ _ _ _ _ _ _ _ _ _ _ _ _ _ _ _ _ _ _ _ _ _ _ _ _ _ _ _ _ _ _ _ _ _ _ _ _ _ _ _ _ _ _ _ _ _ _ _ _ _ _ _ _ _ _ _ _ _ _ _ _ _ _ _ _ _ _ _ _ _ _ _ _ _ _ _ _ _ _ _ _ _ _ _ _ _ _ _ _ _ _ _ _ _ _ _ _ _ _ _ _ _ _ _ _ _ _ _ _ _ _ _ _ _ _ _ _ _ _ _ _ _ _ _ _ _ _ _ HM1.out.below
   ·simp only at e1
    subst e1
    have hx0 : decide ((x : Int) < 0) = false := by simp
    have HE3 := qh e3
    have hln : anear.length = m := HOK.out.ln
    have hlf : afrm.length = m := HOK.out.lf
    have cu := HM1.out.u.cell (j := i) (by rw [hS.out.u]; exact hi)
    have fu := HM1.out.u.free i
    have hM2 := HM1.out.set_u i (wrap64 (gi s.u i + astep))
    have HM2 := qh hM2; have HLN := qh hln; have HLF := qh hlf
    have hin : (i : Int) < (n : Int) := by omega
    have hxm : (x : Int) < (m : Int) := by omega
    have hr2 := HR.out
    rw [if_neg (by omega), Int.toNat_natCast] at hr2
    have HR2 := qh hr2
    clear e3 e4 e5 e6 hM2 hln hlf hr2 HR HM1 HOK
    generalize hui : gi s.u i = ui at *
    go_wp2_with fail
    conv => arg 2; whnf
    go_wp2_with fail
    conv => arg 2; whnf
    go_wp2_with fail
    unfold shS
    refine Na w0 T U V O B F D to (s.u.set i (wrap64 (ui + astep))) s.v own anear afrm s.done n m astep (by simp [hS.out.u]) hS.out.v HLN.out HOL.out hS.out.done hm0 HOWN.out _ HM2.out _ _ _ _ _ _ _ _ _ _ _ _ _ _ _ _ _ _ _ _ _ _ _ _ _ _ _ _ _ _ _ _ _ _ _ _ _ _ _ _ _ _ _ _ _ _ _ _ _ _ _ _ _ _ _ _ _ _ _ _ _ _ _ _ _ _ _ _ _ _ _ _ _ _ _ _ _ _ _ _ _ _ _ _ _ _ _ _ _ _ _ _ _ _ _ _ _ _ _ _ _ _ _ _ _ _ _ _ _ _ _ _ _ _ _ _ _ _ _ _ _ _ _ _ _ _ _ _ _ _ _ _ _ _ _ _ _ _ _ _ _ _ _ _ _ _ _ _ _ _ _ _ _ _ _ _ _ _ _ _ _ _ _ _ _ _ _ _ _ _ _ _ _ _ _ _ _ _ _ _ _ _ _ _ _ _ _ _ _ _ _ _ _ _ _ _ _ _ _ _ _ _ _ _ _ _ _ ?_
    intro w2 _ _ _ _ _ _ _ _ _ _ _ _ _ _ _ _ _ _ _ _ _ _ _ _ _ _ _ _ _ _ _ _ _ _ _ _ _ _ _ _ _ hM3
    have HM3 := qh hM3
    clear hM3 cu fu HM2
    have HSL := qh (Ga own s.done astep ⟨s.u.set i (wrap64 (ui + astep)), s.v, anear⟩ m)
    generalize B7 own s.done astep ⟨s.u.set i (wrap64 (ui + astep)), s.v, anear⟩ m = b at *
    have cD := HM3.out.done.cell (j := x) (by rw [hS.out.done]; exact e2)
    have fD := HM3.out.done.free x
    have hM4 := HM3.out.set_done x true
    have co := hM4.own.cell (j := x) (by rw [HOL.out]; exact e2)
    have HM4 := qh hM4
    have hlen : SrL n m ⟨b.u, b.v, b.near, afrm, s.done.set x true, x, s.row⟩ := by
     obtain ⟨q1, q2, q3⟩ := HSL.out
     exact ⟨by show b.u.length = n; rw [q1]; simp [hS.out.u], by show b.v.length = m; rw [q2]; exact hS.out.v, by show b.near.length = m; rw [q3]; exact HLN.out, HLF.out, by simp [hS.out.done]⟩
    have HLEN := qh hlen
    have hcnt : PW D (w2.setCell ⟨D, x, none⟩ (.bool true)) < PW D wr := by
     rw [Ns hM4.done, Ns hM.out.done]
     exact Nw s.done x (by rw [hS.out.done]; exact e2) HE3.out
    have HCNT := qh hcnt
    clear hM4 hlen hcnt HM3 HSL
    by_cases hf : gi own x < 0
    ·have hd : decide (gi own x < 0) = true := decide_eq_true hf
     have hr3 := HR2.out
     rw [if_pos hf] at hr3
     have hres := qh (Option.some.inj hr3).symm
     clear hr3 HR2 hf
     generalize gi own x = ox at *
     conv => arg 2; whnf
     go_wp2_with fail
     exact HX.out _ hres.out ⟨HLEN.out.u, HLEN.out.v, HLEN.out.near, HLEN.out.frm, HLEN.out.done⟩ _ _ _ _ _ _ _ _ _ _ _ _ _ _ _ _ _ _ _ _ _ _ _ _ _ _ _ _ _ _ _ _ _ _ _ _ _ _ _ _ _ _ _ _ _ _ _ _ _ _ _ _ _ _ _ _ _ _ _ _ _ _ _ _ _ _ _ _ _ _ _ _ _ _ _ _ _ _ _ _ _ _ _ _ _ _ _ _ _ _ _ _ _ _ _ _ _ _ _ _ _ _ _ _ _ _ _ _ _ _ _ _ _ _ _ _ _ _ _ _ _ _ _ _ _ _ _ _ _ _ _ _ _ _ _ HM4.out
    ·have hd : decide (gi own x < 0) = false := decide_eq_false hf
     have hr3 := HR2.out
     rw [if_neg hf] at hr3
     have HR3 := qh hr3
     obtain ⟨q, hqx⟩ : ∃ q : Nat, gi own x = (q : Int) := ⟨(gi own x).toNat, by omega⟩
     rw [hqx, Int.toNat_natCast] at HR3
     have HQX := qh hqx
     rw [hqx] at co hd
     clear hr3 HR2 hf hqx
     conv => arg 2; whnf
     go_wp2_with fail
     go_roundw
     case rel => exact ⟨rfl, rfl, rfl, k, ⟨b.u, b.v, b.near, afrm, s.done.set x true, x, q⟩, rfl, rfl, HM4, ⟨HLEN.out.u, HLEN.out.v, HLEN.out.near, HLEN.out.frm, HLEN.out.done⟩, HR3⟩
     case measure => exact HCNT.out
  ·rw [if_neg hq] at hr; cases hr
end
section
open Go Go.RowKit Go.Deep
noncomputable def Sm : Code := At (At (At (At scR)))
def Hi (frm : List Int) : Nat → Int → Nat
 | 0, _ => 0
 | k + 1, a => if a < 0 then 0 else 1 + Hi frm k (gi frm a.toNat)
theorem OE (frm : List Int) (k : Nat) (a : Int) : Hi frm (k + 1) a = if a < 0 then 0 else 1 + Hi frm k (gi frm a.toNat) := rfl
theorem JO {i m : Nat} {frm : List Int} : ∀ (k : Nat) (own : List Int) (a : Int) (res : List Int), EL i m frm k own a = some res → ∀ K, k ≤ K → Hi frm K a = Hi frm k a
 | 0, own, a, res, h, K, _ => by
  unfold EL at h
  by_cases ha : a < 0
  ·cases K with
   | zero => rfl
   | succ K => unfold Hi; rw [if_pos ha]
  ·rw [if_neg ha] at h; cases h
 | k + 1, own, a, res, h, K, hK => by
  obtain ⟨K, rfl⟩ : ∃ K', K = K' + 1 := ⟨K - 1, by omega⟩
  by_cases ha : a < 0
  ·unfold Hi; rw [if_pos ha, if_pos ha]
  ·rw [EL, if_neg ha] at h
   split at h
   ·have ih := JO k _ _ res h K (by omega)
    unfold Hi
    rw [if_neg ha, if_neg ha, ih]
   ·cases h
theorem PC (w0 : World) (T U V O B F D : Nat) (to u v own near frm : List Int) (done : List Bool) (m i : Nat) (hm0 : m ≤ 1000) (hf : frm.length = m) (hol : own.length = m)
  (k0 : Nat) (a0 : Int) (res : List Int) (hres : EL i m frm k0 own a0 = some res)
  (w : World) (hM : SolW w0 T U V O B F D to u v own near frm done w) (e0 e1 e2 e3 e4 e5 e6 e7 ea eb ec ed ee ef eg eh ei ej ek el em en eo ep eq er es et eu ev ew ex ey ez eA eB eC eD eE eF eG eH eI eJ eK eL eM eN eO eP eQ eR eS eT eU eV eW eX eY eZ aa ab ac ad ae af ag ah ai aj ak al am an ao ap aq ar au aw ax ay az aA aB aC aD aE aF aG aH aI aJ aK aL aM aN aO aP aQ aR aS aT aU aV aW aX aY aZ ba bb bc bd be bf bg bh bi bj bk bl bm bn bo bp bq br bs bt bu bv bw bz bA bB bC bD bE bF bG bH bI bJ bK bL bM bN bO bP bQ bR bS bT bU bV bW bX bY bZ ca cb cc cd ce cg ch ci cj ck cl cm cn cp cq cr cs ct cu cv cw cx cz cA cB cC cD cE cF cG cH cI cJ cK cL cM cN cO cP cQ cR cS cT cU cV cW cX cY cZ : Value) (Q : Exit → Act → World → Prop)
  (hX : ∀ (w' : World) (da db dc dd de df dg dh di dj dk dl dm dn dp dq dr ds dt du dv dw : Value), SolW w0 T U V O B F D to u v res near frm done w' → res.length = m → Q .normal { tmps := #[e0, e1, e2, e3, e4, e5, e6, e7, .slice (some ⟨O, 0, none⟩) m m, int i64 i, ea, .slice (some ⟨F, 0, none⟩) m m, eb, da, ec, ed, ee, ef, eg, eh, db, ej, ek, el, em, en, eo, ep, eq, er, es, et, eu, ev, ew, ex, ey, ez, eA, eB, eC, eD, eE, eF, eG, eH, eI, eJ, eK, eL, eM, eN, eO, eP, eQ, eR, eS, eT, eU, eV, eW, eX, eY, eZ, aa, ab, ac, ad, ae, af, ag, ah, ai, aj, ak, al, am, an, ao, ap, aq, ar, au, aw, ax, ay, az, aA, aB, aC, aD, aE, aF, aG, aH, aI, aJ, aK, aL, aM, aN, aO, aP, aQ, aR, aS, aT, aU, aV, aW, aX, aY, aZ, ba, bb, bc, bd, be, bf, bg, bh, bi, bj, bk, bl, bm, bn, bo, bp, bq, br, bs, bt, bu, bv, bw, bz, bA, bB, bC, bD, bE, bF, bG, bH, bI, bJ, bK, bL, bM, bN, bO, bP, bQ, bR, bS, bT, bU, bV, bW, bX, bY, bZ, ca, cb, cc, cd, ce, cg, ch, ci, cj, ck, cl, dc, dd, de, df, dg, dh, di, dj, dk, dl, dm, dn, dp, dq, dr, ds, dt, du, dv, dw, cI, cJ, cK, cL, cM, cN, cO, cP, cQ, cR, cS, cT, cU, cV, cW, cX, cY, cZ], defers := [] } w') :
  Code.wp Tryz.prog Sm Q { tmps := #[e0, e1, e2, e3, e4, e5, e6, e7, .slice (some ⟨O, 0, none⟩) m m, int i64 i, ea, .slice (some ⟨F, 0, none⟩) m m, eb, int i64 a0, ec, ed, ee, ef, eg, eh, ei, ej, ek, el, em, en, eo, ep, eq, er, es, et, eu, ev, ew, ex, ey, ez, eA, eB, eC, eD, eE, eF, eG, eH, eI, eJ, eK, eL, eM, eN, eO, eP, eQ, eR, eS, eT, eU, eV, eW, eX, eY, eZ, aa, ab, ac, ad, ae, af, ag, ah, ai, aj, ak, al, am, an, ao, ap, aq, ar, au, aw, ax, ay, az, aA, aB, aC, aD, aE, aF, aG, aH, aI, aJ, aK, aL, aM, aN, aO, aP, aQ, aR, aS, aT, aU, aV, aW, aX, aY, aZ, ba, bb, bc, bd, be, bf, bg, bh, bi, bj, bk, bl, bm, bn, bo, bp, bq, br, bs, bt, bu, bv, bw, bz, bA, bB, bC, bD, bE, bF, bG, bH, bI, bJ, bK, bL, bM, bN, bO, bP, bQ, bR, bS, bT, bU, bV, bW, bX, bY, bZ, ca, cb, cc, cd, ce, cg, ch, ci, cj, ck, cl, cm, cn, cp, cq, cr, cs, ct, cu, cv, cw, cx, cz, cA, cB, cC, cD, cE, cF, cG, cH, cI, cJ, cK, cL, cM, cN, cO, cP, cQ, cR, cS, cT, cU, cV, cW, cX, cY, cZ], defers := [] } w := by
 have HX := qh hX; have HM := qh hM; have HFL := qh hf; have HOL := qh hol; have HRES := qh hres
 clear hX hM hf hol hres
 unfold Sm scR Fk Eh BJ BU
 conv => arg 2; whnf
 go_wp2_with fail
 go_loopw [13] (fun av wr => ∃ (k : Nat) (o : List Int) (a : Int), k ≤ k0 ∧ av = int i64 a ∧ Hid (SolW w0 T U V O B F D to u v o near frm done wr) ∧ Hid (o.length = m) ∧ Hid (EL i m frm k o a = some res)) (fun av _ => Hi frm k0 (intOf av))
 case atStart => exact ⟨k0, own, a0, qn _, rfl, HM, HOL, HRES⟩
 case round =>
  clear HM HOL HRES
  obtain ⟨k, o, a, hk, rfl, hM, hO, hR⟩ := hrel
  by_cases ha : a < 0
  ·have hd : decide (0 ≤ a) = false := decide_eq_false (by omega)
   have hres : o = res := by
    have := hR.out
    cases k <;> (unfold EL at this; rw [if_pos ha] at this; exact Option.some.inj this)
   subst hres
   clear hR ha
   go_wp2_with fail
   exact HX.out _ _ _ _ _ _ _ _ _ _ _ _ _ _ _ _ _ _ _ _ _ _ _ hM.out hO.out
  ·have hd : decide (0 ≤ a) = true := decide_eq_true (by omega)
   rcases k with _ | k
   ·have := hR.out
    unfold EL at this
    rw [if_neg ha] at this
    cases this
   obtain ⟨x, rfl⟩ : ∃ x : Nat, a = (x : Int) := ⟨a.toNat, by omega⟩
   have hr := hR.out
   rw [EL, if_neg ha, Int.toNat_natCast] at hr
   by_cases hq : (x : Int) < (m : Int) ∧ gi frm x < (m : Int)
   ·rw [if_pos hq] at hr
    have hlen := JO k _ _ res hr k0 (by omega)
    have hlen2 := JO (k + 1) o _ res hR.out k0 hk
    obtain ⟨hxm, hbm⟩ := hq
    have cf := hM.out.frm.cell (j := x) (by rw [HFL.out]; omega)
    have co := hM.out.own.cell (j := x) (by rw [hO.out]; omega)
    have fo := hM.out.own.free x
    have hM2 := hM.out.set_own x i
    have co2 := hM2.own.cell (j := x) (by simp [hO.out]; omega)
    have fo2 := hM2.own.free x
    have hmu : Hi frm k0 (gi frm x) < Hi frm k0 (x : Int) := by
     rw [hlen, hlen2]
     rw [OE, if_neg ha, Int.toNat_natCast]
     omega
    have HMU := qh hmu; have HR2 := qh hr; have HM2 := qh hM2
    clear hlen hlen2 hmu hr hR hM2
    by_cases hb : 0 ≤ gi frm x
    ·have hd2 : decide (0 ≤ gi frm x) = true := decide_eq_true hb
     rw [if_pos hb] at HR2
     obtain ⟨y, hy⟩ : ∃ y : Nat, gi frm x = (y : Int) := ⟨(gi frm x).toNat, by omega⟩
     rw [hy] at cf hd2 hbm HR2 HMU
     rw [Int.toNat_natCast] at HR2
     have cy := HM2.out.own.cell (j := y) (by simp [hO.out]; omega)
     have HM3 := qh (HM2.out.set_own x (gi (o.set x i) y))
     have HYY := qh hy
     clear hy hb
     generalize gi (o.set x (i : Int)) y = oy at *
     go_wp2_with fail
     exact ⟨⟨k, (o.set x i).set x oy, (y : Int), by omega, rfl, HM3, qh (by simp [hO.out]), HR2⟩, HMU.out⟩
    ·have hd2 : decide (0 ≤ gi frm x) = false := decide_eq_false hb
     rw [if_neg hb] at HR2
     clear hb
     generalize gi frm x = bx at *
     go_wp2_with fail
     exact ⟨⟨k, o.set x i, bx, by omega, rfl, HM2, qh (by simp [hO.out]), HR2⟩, HMU.out⟩
   ·rw [if_neg hq] at hr; cases hr
end
end Go.Proofs.YtggcbblikgankaaGreatDoor
