/- Contracts and plain laws on the way to the statement: part 36. -/
import Derived.Test.YtggcbblikgankaaGreatDoorZ35
import Derived.Test.YtggcbblikgankaaGreatDoorZ6
import Derived.Test.YtggcbblikgankaaGreatDoorZ14
import Derived.Maps.AppendAt
import Derived.BigQuiet
import Derived.OwnWalk
import Derived.StillTailTactics
import Derived.Test.YtggcbblikgankaaGreatDoorZ3
set_option linter.unusedVariables false
set_option linter.unusedSimpArgs false
set_option maxRecDepth 100000
set_option maxHeartbeats 16000000
namespace Go.Proofs.YtggcbblikgankaaGreatDoor
open Go.Value (int)
open Go.IntKind (i64)
section
open Go Go.RowKit Go.Deep
theorem NH (n : Nat) (own : List Int) : ∀ k, (toK n own k).length = n
 | 0 => by simp [toK]
 | k + 1 => by rw [Iz]; unfold to1; split <;> simp [NH n own k]
def Sj (n m : Nat) (res : Option SolS) (w : World) (e : Ending) (w' : World) : Prop :=
 match res with
 | none => e = .returned (.tuple #[.slice none 0 0, .slice none 0 0, .slice none 0 0, .bool false]) ∧ Below w.heap.size w w'
 | some s => ∃ T U V, e = .returned (.tuple #[.slice (some ⟨T, 0, none⟩) n n, .slice (some ⟨U, 0, none⟩) n n, .slice (some ⟨V, 0, none⟩) m m, .bool true]) ∧ BI w' T s.to ∧ BI w' U s.u ∧ BI w' V s.v ∧ (w.heap.size ≤ T ∧ w.heap.size ≤ U ∧ w.heap.size ≤ V) ∧ Below w.heap.size w w'
theorem Pm (w0 : World) (T U V O : Nat) (u v own : List Int) (n m : Nat) (hm0 : m ≤ 1000) (hol : own.length = m) (hlo : ∀ j, j < m → gi own j < n)
  (hne : T ≠ U ∧ T ≠ V ∧ T ≠ O) (hlo2 : w0.heap.size ≤ T ∧ w0.heap.size ≤ U ∧ w0.heap.size ≤ V)
  (w : World) (hb : Below w0.heap.size w0 w) (hT : BI w T (List.replicate n 0)) (hU : BI w U u) (hV : BI w V v) (hO : BI w O own) (e0 e1 e2 e3 e7 e9 ea eb ec ed ee ef eg eh ei ej ek el em en eo ep eq er es et eu ev ew ex ey ez eA eB eC eD eE eF eG eH eI eJ eK eL eM eN eO eP eQ eR eS eT eU eV eW eX eY eZ aa ab ac ad ae af ag ah ai aj ak al am an ao ap aq ar au av aw ax ay az aA aB aC aD aE aF aG aH aI aJ aK aL aM aN aO aP aQ aR aS aT aU aV aW aX aY aZ ba bb bc bd be bf bg bh bi bj bk bl bm bn bo bp bq br bs bt bu bv bw bx bz bA bB bC bD bE bF bG bH bI bJ bK bL bM bN bO bP bQ bR bS bT bU bV bW bX bY bZ ca cb cc cd ce cf cg ch ci cj ck cl cm cn cp cq cr cs ct cu cv cw cx cy cz cA cB cC cD cE cF cG cH cI cJ cK cL cM cN cO cP cQ cR cS cU cV cW cX cY : Value) :
  Code.wp Tryz.prog Ia (bodyPost Tryz.prog Tryz.f46 (Sj n m (some ⟨toK n own m, u, v⟩) w0)) { tmps := #[e0, e1, e2, e3, .slice (some ⟨T, 0, none⟩) n n, .slice (some ⟨U, 0, none⟩) n n, .slice (some ⟨V, 0, none⟩) m m, e7, .slice (some ⟨O, 0, none⟩) m m, e9, ea, eb, ec, ed, ee, ef, eg, eh, ei, ej, ek, el, em, en, eo, ep, eq, er, es, et, eu, ev, ew, ex, ey, ez, eA, eB, eC, eD, eE, eF, eG, eH, eI, eJ, eK, eL, eM, eN, eO, eP, eQ, eR, eS, eT, eU, eV, eW, eX, eY, eZ, aa, ab, ac, ad, ae, af, ag, ah, ai, aj, ak, al, am, an, ao, ap, aq, ar, au, av, aw, ax, ay, az, aA, aB, aC, aD, aE, aF, aG, aH, aI, aJ, aK, aL, aM, aN, aO, aP, aQ, aR, aS, aT, aU, aV, aW, aX, aY, aZ, ba, bb, bc, bd, be, bf, bg, bh, bi, bj, bk, bl, bm, bn, bo, bp, bq, br, bs, bt, bu, bv, bw, bx, bz, bA, bB, bC, bD, bE, bF, bG, bH, bI, bJ, bK, bL, bM, bN, bO, bP, bQ, bR, bS, bT, bU, bV, bW, bX, bY, bZ, ca, cb, cc, cd, ce, cf, cg, ch, ci, cj, ck, cl, cm, cn, cp, cq, cr, cs, ct, cu, cv, cw, cx, cy, cz, cA, cB, cC, cD, cE, cF, cG, cH, cI, cJ, cK, cL, cM, cN, cO, cP, cQ, cR, cS, cU, cV, cW, cX, cY], defers := [] } w := by
 have HB := qh hb; have HT := qh hT; have HU := qh hU; have HV := qh hV; have HO := qh hO; have HOL := qh hol; have HLO := qh hlo; have HNE := qh hne; have HL2 := qh hlo2
 clear hb hT hU hV hO hol hlo hne hlo2
 unfold Ia BU
 conv => arg 2; whnf
 go_wp2_with fail
 go_loopw [197] (fun iv wr => ∃ j : Nat, j ≤ m ∧ iv = int i64 j ∧ Hid (Below w0.heap.size w0 wr) ∧ Hid (BI wr T (toK n own j)) ∧ Hid (BI wr U u) ∧ Hid (BI wr V v) ∧ Hid (BI wr O own)) (fun iv _ => m - (intOf iv).toNat)
 case atStart => exact ⟨0, Nat.zero_le _, rfl, HB, HT, HU, HV, HO⟩
 case round =>
  clear HB HT HU HV HO
  obtain ⟨j, hjm, rfl, hB, hT, hU, hV, hO⟩ := hrel
  by_cases hj : j < m
  ·have hj' : (j : Int) < (m : Int) := by omega
   have co := hO.out.cell (j := j) (by rw [HOL.out]; exact hj)
   have hlt := HLO.out j hj
   have hstep := Iz n own j
   unfold to1 at hstep
   by_cases h0 : 0 ≤ gi own j
   ·have hd : decide (0 ≤ gi own j) = true := decide_eq_true h0
    obtain ⟨q, hq⟩ : ∃ q : Nat, gi own j = (q : Int) := ⟨(gi own j).toNat, by omega⟩
    rw [if_pos h0, hq, Int.toNat_natCast] at hstep
    rw [hq] at co hd hlt
    have hlen := NH n own j
    have cT := hT.out.cell (j := q) (by rw [hlen]; omega)
    have fT := hT.out.free q
    have HST := qh hstep
    have HB2 := qh (hB.out.setCell (p := ⟨T, q, none⟩) HL2.out.1 (int i64 (j : Int)))
    have HT2 := qh (hT.out.set q (j : Int))
    have HU2 := qh (hU.out.other (a := ⟨T, q, none⟩) (v := int i64 (j : Int)) (Ne.symm HNE.out.1))
    have HV2 := qh (hV.out.other (a := ⟨T, q, none⟩) (v := int i64 (j : Int)) (Ne.symm HNE.out.2.1))
    have HO2 := qh (hO.out.other (a := ⟨T, q, none⟩) (v := int i64 (j : Int)) (Ne.symm HNE.out.2.2))
    clear hstep hq h0 hlen hB hT hU hV hO
    go_wp2_with fail
    exact ⟨⟨j + 1, by omega, by go_num, HB2, by rw [HST.out]; exact HT2, HU2, HV2, HO2⟩, by simp [intOf]; omega⟩
   ·have hd : decide (0 ≤ gi own j) = false := decide_eq_false h0
    rw [if_neg h0] at hstep
    have HST := qh hstep
    clear hstep h0 hlt
    generalize gi own j = oj at *
    go_wp2_with fail
    exact ⟨⟨j + 1, by omega, by go_num, hB, by rw [HST.out]; exact hT, hU, hV, hO⟩, by simp [intOf]; omega⟩
  ·obtain rfl : j = m := by omega
   have hj' : ¬ (j : Int) < (j : Int) := by omega
   go_wp2_with fail
   try simp only [Exit.inBlock, Exit.then]
   refine bodyPost_ret (Ct rfl _ _ _) rfl ?_
   exact ⟨T, U, V, rfl, hT.out, hU.out, hV.out, HL2.out, hB.out⟩
end
section
open Go Go.RowKit Go.Deep
noncomputable def srA : Code := .seq (Bu (At (At (At scR)))) Sm
noncomputable def T3 : Code := .seq (Bu (At scR)) (.seq (.label 0) srA)
noncomputable def T4 : Code := .seq (Bu scR) T3
structure PhW (w0 : World) (T U V O n m : Nat) (s : PhaseS) (w : World) : Prop where
 below : Below w0.heap.size w0 w
 to : BI w T (List.replicate n 0)
 u : BI w U s.u
 v : BI w V s.v
 own : BI w O s.own
 lo : w0.heap.size ≤ T ∧ w0.heap.size ≤ U ∧ w0.heap.size ≤ V ∧ w0.heap.size ≤ O
 ne : (T ≠ U ∧ T ≠ V ∧ T ≠ O) ∧ (U ≠ V ∧ U ≠ O) ∧ V ≠ O
 lu : s.u.length = n
 lv : s.v.length = m
 lown : s.own.length = m
theorem PhW.sol {w0 : World} {T U V O n m : Nat} {s : PhaseS} {w w' : World} {B F D : Nat} (h : PhW w0 T U V O n m s w) (hb : Below w.heap.size w w') (h1 : BI w' B (List.replicate m Ap)) (h2 : BI w' F (List.replicate m 0)) (h3 : BB w' D (List.replicate m false))
  (hlo : w.heap.size ≤ B ∧ w.heap.size ≤ F ∧ w.heap.size ≤ D) (hne : B ≠ F ∧ B ≠ D ∧ F ≠ D) : SolW w0 T U V O B F D (List.replicate n 0) s.u s.v s.own (List.replicate m Ap) (List.replicate m 0) (List.replicate m false) w' := by
 have l1 := h.to.lt; have l2 := h.u.lt; have l3 := h.v.lt; have l4 := h.own.lt
 have hz := h.below.size
 obtain ⟨⟨a1, a2, a3⟩, ⟨a4, a5⟩, a6⟩ := h.ne
 obtain ⟨b1, b2, b3⟩ := hne
 obtain ⟨c1, c2, c3, c4⟩ := h.lo
 exact ⟨h.below.trans (hb.mono hz), ⟨a1, a2, a3, by omega, by omega, by omega, a4, a5, by omega, by omega, by omega, a6, by omega, by omega, by omega, by omega, by omega, by omega, b1, b2, b3⟩, ⟨c1, c2, c3, c4, by omega, by omega, by omega⟩, h.to.below hb l1, h.u.below hb l2, h.v.below hb l3, h.own.below hb l4, h1, h2, h3⟩
theorem SolW.phw {w0 : World} {T U V O B F D n m : Nat} {u v own near frm : List Int} {done : List Bool} {w : World} (h : SolW w0 T U V O B F D (List.replicate n 0) u v own near frm done w) (lu : u.length = n) (lv : v.length = m) (lo : own.length = m) : PhW w0 T U V O n m ⟨u, v, own⟩ w :=
 ⟨h.below, h.to, h.u, h.v, h.own, ⟨h.lo.1, h.lo.2.1, h.lo.2.2.1, h.lo.2.2.2.1⟩, ⟨⟨h.apart.ntu, h.apart.ntv, h.apart.nto⟩, ⟨h.apart.nuv, h.apart.nuo⟩, h.apart.nvo⟩, lu, lv, lo⟩
theorem FU {cost : List (List Int)} {n m k : Nat} : ∀ d, (Aw cost n m k = none → Aw cost n m (k + d) = none) ∧ (Aw cost n m k = some none → Aw cost n m (k + d) = some none)
 | 0 => ⟨id, id⟩
 | d + 1 => by
  obtain ⟨h1, h2⟩ := FU (cost := cost) (n := n) (m := m) (k := k) d
  refine ⟨fun h => ?_, fun h => ?_⟩
  ·show Aw cost n m (k + d + 1) = none
   rw [Aw, h1 h]
  ·show Aw cost n m (k + d + 1) = some none
   rw [Aw, h2 h]
theorem Ph (w0 : World) (T U V O : Nat) (cost : List (List Int)) (aoC : Option Addr) (ccC n m : Nat) (hC : IsMat w0 (.slice aoC n ccC) cost) (hl : cost.length = n) (hrl : ∀ r ∈ cost, r.length = m) (hm0 : m ≤ 1000) (hn0 : n ≤ 1000)
  (res : Option PhaseS) (hres : Aw cost n m n = some res)
  (w : World) (hM : PhW w0 T U V O n m ⟨List.replicate n 0, List.replicate m 0, List.replicate m (-1)⟩ w) (e2 e3 e7 e9 ea eb ec ed ee ef eg eh ei ej ek el em en eo ep eq er es et eu ev ew ex ey ez eA eB eC eD eE eF eG eH eI eJ eK eL eM eN eO eP eQ eR eS eT eU eV eW eX eY eZ aa ab ac ad ae af ag ah ai aj ak al am an ao ap aq ar au av aw ax ay az aA aB aC aD aE aF aG aH aI aJ aK aL aM aN aO aP aQ aR aS aT aU aV aW aX aY aZ ba bb bc bd be bf bg bh bi bj bk bl bm bn bo bp bq br bs bt bu bv bw bx bz bA bB bC bD bE bF bG bH bI bJ bK bL bM bN bO bP bQ bR bS bT bU bV bW bX bY bZ ca cb cc cd ce cf cg ch ci cj ck cl cm cn co cp cq cr cs ct cu cv cw cx cy cz cA cB cC cD cE cF cG cH cI cJ cK cL cM cN cO cP cQ cR cS cT cU cV cW : Value) (Q : Exit → Act → World → Prop) (X : Code)
  (hF : res = none → ∀ (w' : World) (f9 cX cY cZ da db dc dd de df dg dh di dj dk dl dm dn dp dq dr ds dt du dv dw dx dy dz dA dB dC dD dE dF dG dH dI dJ dK dL dM dN dO dP dQ dR dS dT dU dV dW dX dY dZ fa fb fc fd fe ff fg fh fi fj fk fl fm fn fo fp fq fr fs ft fu fv fw fx fy fz fA fB fC fD fE fF fG fH fI fJ fK fL fM fN fO fP fQ fR fS fT fU fV fW fX fY fZ ga gb gc gd ge gf gg gh gi gj gk gl gm gn go gp gq gr gs gt gu gv gw gx gy gz gA gC gE gG gH gI gJ gK gL gM gN gO gP gQ gR gS gT gU gV gW gX gY gZ ha hb hc hd he hf hg hh hj hk hm hn ho hp hq hr hs : Value), Below w0.heap.size w0 w' → Q .ret { tmps := #[.slice aoC n ccC, int i64 m, e2, e3, .slice none 0 0, .slice none 0 0, .slice none 0 0, .bool false, .slice (some ⟨O, 0, none⟩) m m, f9, cX, cY, cZ, da, db, dc, dd, de, df, dg, dh, el, em, en, eo, ep, eq, er, es, et, eu, ev, ew, ex, di, dj, dk, dl, dm, dn, dp, dq, dr, ds, dt, du, dv, dw, dx, dy, dz, dA, dB, dC, dD, dE, dF, dG, dH, dI, dJ, dK, dL, dM, dN, dO, dP, dQ, dR, dS, dT, dU, dV, dW, dX, dY, dZ, fa, fb, fc, fd, fe, ff, fg, fh, fi, fj, fk, fl, fm, fn, fo, fp, fq, fr, fs, ft, fu, fv, fw, fx, fy, fz, fA, fB, fC, fD, fE, fF, fG, fH, fI, fJ, fK, fL, fM, fN, fO, fP, fQ, fR, fS, fT, fU, fV, fW, fX, fY, fZ, ga, gb, gc, gd, ge, gf, gg, gh, gi, gj, gk, gl, gm, gn, go, gp, gq, gr, gs, gt, gu, gv, gw, gx, gy, gz, gA, gC, gE, gG, gH, gI, gJ, gK, gL, gM, gN, gO, gP, gQ, gR, gS, gT, gU, gV, gW, gX, gY, gZ, ha, hb, hc, hd, he, hf, hg, hh, hj, hk, hm, hn, ho, hp, hq, hr, hs, cG, cH, cI, cJ, cK, cL, cM, cN, cO, cP, cQ, cR, cS, cT, cU, cV, cW], defers := [] } w')
  (hX : ∀ s, res = some s → ∀ (w' : World) (f7 f9 cX cY cZ da db dc dd de df dg dh di dj dk dl dm dn dp dq dr ds dt du dv dw dx dy dz dA dB dC dD dE dF dG dH dI dJ dK dL dM dN dO dP dQ dR dS dT dU dV dW dX dY dZ fa fb fc fd fe ff fg fh fi fj fk fl fm fn fo fp fq fr fs ft fu fv fw fx fy fz fA fB fC fD fE fF fG fH fI fJ fK fL fM fN fO fP fQ fR fS fT fU fV fW fX fY fZ ga gb gc gd ge gf gg gh gi gj gk gl gm gn go gp gq gr gs gt gu gv gw gx gy gz gA gC gE gG gH gI gJ gK gL gM gN gO gP gQ gR gS gT gU gV gW gX gY gZ ha hb hc hd he hf hg hh hj hk hm hn ho hp hq hr hs : Value), PhW w0 T U V O n m s w' → Code.wp Tryz.prog X Q { tmps := #[.slice aoC n ccC, int i64 m, e2, e3, .slice (some ⟨T, 0, none⟩) n n, .slice (some ⟨U, 0, none⟩) n n, .slice (some ⟨V, 0, none⟩) m m, f7, .slice (some ⟨O, 0, none⟩) m m, f9, cX, cY, cZ, da, db, dc, dd, de, df, dg, dh, el, em, en, eo, ep, eq, er, es, et, eu, ev, ew, ex, di, dj, dk, dl, dm, dn, dp, dq, dr, ds, dt, du, dv, dw, dx, dy, dz, dA, dB, dC, dD, dE, dF, dG, dH, dI, dJ, dK, dL, dM, dN, dO, dP, dQ, dR, dS, dT, dU, dV, dW, dX, dY, dZ, fa, fb, fc, fd, fe, ff, fg, fh, fi, fj, fk, fl, fm, fn, fo, fp, fq, fr, fs, ft, fu, fv, fw, fx, fy, fz, fA, fB, fC, fD, fE, fF, fG, fH, fI, fJ, fK, fL, fM, fN, fO, fP, fQ, fR, fS, fT, fU, fV, fW, fX, fY, fZ, ga, gb, gc, gd, ge, gf, gg, gh, gi, gj, gk, gl, gm, gn, go, gp, gq, gr, gs, gt, gu, gv, gw, gx, gy, gz, gA, gC, gE, gG, gH, gI, gJ, gK, gL, gM, gN, gO, gP, gQ, gR, gS, gT, gU, gV, gW, gX, gY, gZ, ha, hb, hc, hd, he, hf, hg, hh, hj, hk, hm, hn, ho, hp, hq, hr, hs, cG, cH, cI, cJ, cK, cL, cM, cN, cO, cP, cQ, cR, cS, cT, cU, cV, cW], defers := [] } w') :
  Code.wp Tryz.prog (.seq BJ X) Q { tmps := #[.slice aoC n ccC, int i64 m, e2, e3, .slice (some ⟨T, 0, none⟩) n n, .slice (some ⟨U, 0, none⟩) n n, .slice (some ⟨V, 0, none⟩) m m, e7, .slice (some ⟨O, 0, none⟩) m m, e9, ea, eb, ec, ed, ee, ef, eg, eh, ei, ej, ek, el, em, en, eo, ep, eq, er, es, et, eu, ev, ew, ex, ey, ez, eA, eB, eC, eD, eE, eF, eG, eH, eI, eJ, eK, eL, eM, eN, eO, eP, eQ, eR, eS, eT, eU, eV, eW, eX, eY, eZ, aa, ab, ac, ad, ae, af, ag, ah, ai, aj, ak, al, am, an, ao, ap, aq, ar, au, av, aw, ax, ay, az, aA, aB, aC, aD, aE, aF, aG, aH, aI, aJ, aK, aL, aM, aN, aO, aP, aQ, aR, aS, aT, aU, aV, aW, aX, aY, aZ, ba, bb, bc, bd, be, bf, bg, bh, bi, bj, bk, bl, bm, bn, bo, bp, bq, br, bs, bt, bu, bv, bw, bx, bz, bA, bB, bC, bD, bE, bF, bG, bH, bI, bJ, bK, bL, bM, bN, bO, bP, bQ, bR, bS, bT, bU, bV, bW, bX, bY, bZ, ca, cb, cc, cd, ce, cf, cg, ch, ci, cj, ck, cl, cm, cn, co, cp, cq, cr, cs, ct, cu, cv, cw, cx, cy, cz, cA, cB, cC, cD, cE, cF, cG, cH, cI, cJ, cK, cL, cM, cN, cO, cP, cQ, cR, cS, cT, cU, cV, cW], defers := [] } w := by
 have HX := qh hX; have HM := qh hM; have HF := qh hF; have HC := qh hC; have HRL := qh hrl; have HL := qh hl; have HRES := qh hres
 clear hX hM hF hC hrl hl hres
 unfold BJ BU
 conv => arg 2; arg 1; whnf
 go_wp2_with fail
 go_loopw [4, 5, 6, 36] (fun tv uv vv iv wr => tv = .slice (some ⟨T, 0, none⟩) n n ∧ uv = .slice (some ⟨U, 0, none⟩) n n ∧ vv = .slice (some ⟨V, 0, none⟩) m m ∧ ∃ (i : Nat) (s : PhaseS), i ≤ n ∧ iv = int i64 i ∧ Hid (PhW w0 T U V O n m s wr) ∧ Hid (Aw cost n m i = some (some s))) (fun _ _ _ iv _ => n - (intOf iv).toNat)
 case atStart => exact ⟨rfl, rfl, rfl, 0, _, Nat.zero_le _, rfl, HM, qh rfl⟩
 case round =>
  clear HM
  obtain ⟨rfl, rfl, rfl, i, s, hin, rfl, hM, hP⟩ := hrel
  by_cases hi : i < n
  ·have hi' : (i : Int) < (n : Int) := by omega
   have hph : Aw cost n m (i + 1) = Dj cost n m i s := by rw [Aw, hP.out]
   have hnn : Dj cost n m i s ≠ none := fun h => by
    have := (FU (cost := cost) (n := n) (m := m) (k := i + 1) (n - (i + 1))).1 (hph.trans h)
    rw [show i + 1 + (n - (i + 1)) = n by omega, HRES.out] at this
    cases this
   obtain ⟨sr, hsr⟩ : ∃ sr, Eo cost n m i s.own (m + 1) ⟨s.u, s.v, List.replicate m Ap, List.replicate m 0, List.replicate m false, -1, i⟩ = some sr := by
    cases h : Eo cost n m i s.own (m + 1) ⟨s.u, s.v, List.replicate m Ap, List.replicate m 0, List.replicate m false, -1, i⟩ with
    | none => exfalso; apply hnn; unfold Dj; rw [h]
    | some x => exact ⟨x, rfl⟩
   have HPH := qh hph; have HNN := qh hnn; have HSR := qh hsr
   clear hph hnn hsr
   change Code.wp Tryz.prog (.seq (Bu Eh) (.seq (Bu (At Eh)) (.seq (.block 1 (.seq (Bu Fk) (.scope T4))) (At (At (At Eh)))))) _ _ _
   go_wp2_with fail
   conv => arg 2; whnf
   go_wp2_with fail
   conv => arg 2; whnf
   go_wp2_with fail
   conv => arg 2; whnf
   go_wp2_with fail
   apply wp_scope_straight
   unfold T4
   refine QU m hm0 wr _ _ _ _ _ _ _ _ _ _ _ _ _ _ _ _ _ _ _ _ _ _ _ _ _ _ _ _ _ _ _ _ _ _ _ _ _ _ _ _ _ _ _ _ _ _ _ _ _ _ _ _ _ _ _ _ _ _ _ _ _ _ _ _ _ _ _ _ _ _ _ _ _ _ _ _ _ _ _ _ _ _ _ _ _ _ _ _ _ _ _ _ _ _ _ _ _ _ _ _ _ _ _ _ _ _ _ _ _ _ _ _ _ _ _ _ _ _ _ _ _ _ _ _ _ _ _ _ _ _ _ _ _ _ _ _ _ _ _ _ _ _ _ _ _ _ _ _ _ _ _ _ _ _ _ _ _ _ _ _ _ _ _ _ _ _ _ _ _ _ _ _ _ _ _ _ _ _ _ _ _ _ _ _ _ _ _ _ _ _ _ _ _ _ _ _ _ _ _ _ _ _ _ _ _ _ _ _ _ _ _ _ _ ?_
   intro w1 B F D _ _ _ _ _ _ _ hb1 gB gF gD hlo hne
   have HM1 := qh (hM.out.sol hb1 gB gF gD hlo hne)
   clear hb1 gB gF gD hlo hne
   unfold T3
   go_wp2_with fail
   conv => arg 2; whnf
   go_wp2_with fail
   apply wp_label
   go_wp2_with fail
   unfold srA
   have hL0 : SrL n m ⟨s.u, s.v, List.replicate m Ap, List.replicate m 0, List.replicate m false, -1, i⟩ := ⟨hM.out.lu, hM.out.lv, by simp, by simp, by simp⟩
   refine Pp w0 T U V O B F D (List.replicate n 0) s.own cost aoC ccC n m i hi HC.out HL.out HRL.out hm0 hn0 hM.out.lown (m + 1) _ hL0 sr HSR.out w1 HM1.out _ _ _ _ _ _ _ _ _ _ _ _ _ _ _ _ _ _ _ _ _ _ _ _ _ _ _ _ _ _ _ _ _ _ _ _ _ _ _ _ _ _ _ _ _ _ _ _ _ _ _ _ _ _ _ _ _ _ _ _ _ _ _ _ _ _ _ _ _ _ _ _ _ _ _ _ _ _ _ _ _ _ _ _ _ _ _ _ _ _ _ _ _ _ _ _ _ _ _ _ _ _ _ _ _ _ _ _ _ _ _ _ _ _ _ _ _ _ _ _ _ _ _ _ _ _ _ _ _ _ _ _ _ _ _ _ _ _ _ _ _ _ _ _ _ _ _ _ _ _ _ _ _ _ _ _ _ _ _ _ _ _ _ _ _ _ _ _ _ _ _ _ _ _ _ _ _ _ _ _ _ _ _ _ _ _ _ _ _ _ _ _ _ _ _ _ _ _ _ _ _ _ ?_ ?_
   ·intro hsrn w2 _ _ _ _ _ _ _ _ _ _ _ _ _ _ _ _ _ _ _ _ _ _ _ _ _ _ _ _ _ _ _ _ _ _ _ _ _ _ _ _ _ _ _ _ _ _ _ _ _ _ _ _ _ _ _ _ _ _ _ _ _ _ _ _ _ _ _ _ _ _ _ _ _ _ _ _ _ _ _ _ _ _ _ _ _ _ _ _ _ _ _ _ _ _ _ _ _ _ _ _ _ _ _ _ _ _ _ _ _ _ _ _ _ _ _ _ _ _ _ _ _ _ _ _ _ _ _ _ _ _ _ _ _ _ hb2
    subst hsrn
    have hpn : Dj cost n m i s = some none := by unfold Dj; rw [HSR.out]
    have hrn : res = none := by
     have h2 := (FU (cost := cost) (n := n) (m := m) (k := i + 1) (n - (i + 1))).2 (HPH.out.trans hpn)
     rw [show i + 1 + (n - (i + 1)) = n by omega, HRES.out] at h2
     exact Option.some.inj h2
    have HB2 := qh hb2; have HRN := qh hrn
    clear hb2 hrn hpn
    try simp only [Exit.noGoto, Exit.inBlock, Exit.then]
    exact HF.out HRN.out _ _ _ _ _ _ _ _ _ _ _ _ _ _ _ _ _ _ _ _ _ _ _ _ _ _ _ _ _ _ _ _ _ _ _ _ _ _ _ _ _ _ _ _ _ _ _ _ _ _ _ _ _ _ _ _ _ _ _ _ _ _ _ _ _ _ _ _ _ _ _ _ _ _ _ _ _ _ _ _ _ _ _ _ _ _ _ _ _ _ _ _ _ _ _ _ _ _ _ _ _ _ _ _ _ _ _ _ _ _ _ _ _ _ _ _ _ _ _ _ _ _ _ _ _ _ _ _ _ _ _ _ _ _ _ _ _ _ _ _ _ _ _ _ _ _ _ _ _ _ _ _ _ _ _ _ _ _ _ _ _ _ _ _ _ _ _ _ _ _ _ _ _ _ HB2.out
   ·intro t ht hLt w2 _ _ _ _ _ _ _ _ _ _ _ _ _ _ _ _ _ _ _ _ _ _ _ _ _ _ _ _ _ _ _ _ _ _ _ _ _ _ _ _ _ _ _ _ _ _ _ _ _ _ _ _ _ _ _ _ _ _ _ _ _ _ _ _ _ _ _ _ _ _ _ _ _ _ _ _ _ _ _ _ _ _ _ _ _ _ _ _ _ _ _ _ _ _ _ _ _ _ _ _ _ _ _ _ _ _ _ _ _ _ _ _ _ _ _ _ _ _ _ _ _ _ _ _ _ _ _ _ _ _ _ _ _ _ hM2
    subst ht
    obtain ⟨ow, how⟩ : ∃ ow, EL i m t.frm (m + 1) s.own t.at_ = some ow := by
     cases h : EL i m t.frm (m + 1) s.own t.at_ with
     | none => exfalso; apply HNN.out; unfold Dj; rw [HSR.out]; simp only [h]
     | some x => exact ⟨x, rfl⟩
    have hp2 : Aw cost n m (i + 1) = some (some ⟨t.u, t.v, ow⟩) := by
     rw [HPH.out]; unfold Dj; rw [HSR.out]; simp only [how]
    have HP2 := qh hp2; have HLT := qh hLt
    clear hp2 hLt
    refine PC w0 T U V O B F D (List.replicate n 0) t.u t.v s.own t.near t.frm t.done m i hm0 HLT.out.frm hM.out.lown (m + 1) t.at_ ow how w2 hM2 _ _ _ _ _ _ _ _ _ _ _ _ _ _ _ _ _ _ _ _ _ _ _ _ _ _ _ _ _ _ _ _ _ _ _ _ _ _ _ _ _ _ _ _ _ _ _ _ _ _ _ _ _ _ _ _ _ _ _ _ _ _ _ _ _ _ _ _ _ _ _ _ _ _ _ _ _ _ _ _ _ _ _ _ _ _ _ _ _ _ _ _ _ _ _ _ _ _ _ _ _ _ _ _ _ _ _ _ _ _ _ _ _ _ _ _ _ _ _ _ _ _ _ _ _ _ _ _ _ _ _ _ _ _ _ _ _ _ _ _ _ _ _ _ _ _ _ _ _ _ _ _ _ _ _ _ _ _ _ _ _ _ _ _ _ _ _ _ _ _ _ _ _ _ _ _ _ _ _ _ _ _ _ _ _ _ _ _ _ _ _ _ _ _ _ _ _ _ _ _ _ _ _ _ _ _ _ _ _ ?_
    intro w3 _ _ _ _ _ _ _ _ _ _ _ _ _ _ _ _ _ _ _ _ _ _ hM3 hlo3
    have HM3 := qh (hM3.phw HLT.out.u HLT.out.v hlo3)
    clear hM3 hM2 how
    go_wp2_with fail
    conv => arg 2; whnf
    go_wp2_with fail
    exact ⟨⟨rfl, rfl, rfl, i + 1, ⟨t.u, t.v, ow⟩, by omega, by go_num, HM3, HP2⟩, by simp [intOf]; omega⟩
  ·obtain rfl : i = n := by omega
   have hi' : ¬ (i : Int) < (i : Int) := by omega
   have hrs : res = some s := Option.some.inj (HRES.out.symm.trans hP.out)
   go_wp2_with fail
   exact HX.out s hrs _ _ _ _ _ _ _ _ _ _ _ _ _ _ _ _ _ _ _ _ _ _ _ _ _ _ _ _ _ _ _ _ _ _ _ _ _ _ _ _ _ _ _ _ _ _ _ _ _ _ _ _ _ _ _ _ _ _ _ _ _ _ _ _ _ _ _ _ _ _ _ _ _ _ _ _ _ _ _ _ _ _ _ _ _ _ _ _ _ _ _ _ _ _ _ _ _ _ _ _ _ _ _ _ _ _ _ _ _ _ _ _ _ _ _ _ _ _ _ _ _ _ _ _ _ _ _ _ _ _ _ _ _ _ _ _ _ _ _ _ _ _ _ _ _ _ _ _ _ _ _ _ _ _ _ _ _ _ _ _ _ _ _ _ _ _ _ _ _ _ _ _ _ _ _ hM.out
end
section
open Go Go.RowKit Go.Deep
theorem Jz (cost : List (List Int)) (aoC : Option Addr) (ccC m : Nat) (w : World) (hC : IsMat w (.slice aoC cost.length ccC) cost) (hrl : ∀ r ∈ cost, r.length = m) (hn0 : cost.length ≤ 1000) (hm0 : m ≤ 1000) (res : Option SolS) (hres : EX cost m = some res)
  (hown : ∀ s, Aw cost cost.length m cost.length = some (some s) → ∀ j, j < m → gi s.own j < cost.length) :
  Calls Tryz.prog 46 #[.slice aoC cost.length ccC, int i64 m] w (Sj cost.length m res w) := by
 obtain ⟨pr, hpr, hr⟩ : ∃ pr, Aw cost cost.length m cost.length = some pr ∧ res = pr.map fun s => ⟨toK cost.length s.own m, s.u, s.v⟩ := by
  unfold EX at hres
  cases h : Aw cost cost.length m cost.length with
  | none => rw [h] at hres; cases hres
  | some pr =>
   rw [h] at hres
   cases pr with
   | none => exact ⟨none, rfl, (Option.some.inj hres).symm⟩
   | some s => exact ⟨some s, rfl, (Option.some.inj hres).symm⟩
 clear hres
 have HC := qh hC; have HRL := qh hrl; have HPR := qh hpr; have HR := qh hr; have HOWN := qh hown
 have HN := qh (show cost.length = cost.length from rfl)
 clear hC hrl hpr hr hown
 generalize hnn : cost.length = n at *
 go_enter Tryz.func46, Tryz.ntmps46
 change Code.wp Tryz.prog (.seq (Bu BU) (A8 1 I6 (A8 1 I9 (.seq BJ Ia)))) _ _ _
 refine wp_seq ?_
 conv => arg 2; whnf
 go_wp2_with fail
 refine Nb aoC n m ccC hn0 hm0 w _ _ _ _ _ _ _ _ _ _ _ _ _ _ _ _ _ _ _ _ _ _ _ _ _ _ _ _ _ _ _ _ _ _ _ _ _ _ _ _ _ _ _ _ _ _ _ _ _ _ _ _ _ _ _ _ _ _ _ _ _ _ _ _ _ _ _ _ _ _ _ _ _ _ _ _ _ _ _ _ _ _ _ _ _ _ _ _ _ _ _ _ _ _ _ _ _ _ _ _ _ _ _ _ _ _ _ _ _ _ _ _ _ _ _ _ _ _ _ _ _ _ _ _ _ _ _ _ _ _ _ _ _ _ _ _ _ _ _ _ _ _ _ _ _ _ _ _ _ _ _ _ _ _ _ _ _ _ _ _ _ _ _ _ _ _ _ _ _ _ _ _ _ _ _ _ _ _ _ _ _ _ _ _ _ _ _ _ _ _ _ _ _ _ _ _ _ _ _ _ _ _ _ _ _ _ _ _ _ _ _ _ ?_
 intro w1 T U V _ _ _ _ _ _ _ _ hb1 gT gU gV hlo hne
 refine LL m hm0 w1 _ _ _ _ _ _ _ _ _ _ _ _ _ _ _ _ _ _ _ _ _ _ _ _ _ _ _ _ _ _ _ _ _ _ _ _ _ _ _ _ _ _ _ _ _ _ _ _ _ _ _ _ _ _ _ _ _ _ _ _ _ _ _ _ _ _ _ _ _ _ _ _ _ _ _ _ _ _ _ _ _ _ _ _ _ _ _ _ _ _ _ _ _ _ _ _ _ _ _ _ _ _ _ _ _ _ _ _ _ _ _ _ _ _ _ _ _ _ _ _ _ _ _ _ _ _ _ _ _ _ _ _ _ _ _ _ _ _ _ _ _ _ _ _ _ _ _ _ _ _ _ _ _ _ _ _ _ _ _ _ _ _ _ _ _ _ _ _ _ _ _ _ _ _ _ _ _ _ _ _ _ _ _ _ _ _ _ _ _ _ _ _ _ _ _ _ _ _ _ _ _ _ _ _ _ _ _ _ _ _ _ _ _ ?_
 intro w2 O _ _ _ hb2 gO hO
 have l1 := gT.lt; have l2 := gU.lt; have l3 := gV.lt
 have hz := hb1.size
 refine Ph w T U V O cost aoC ccC n m HC.out hnn HRL.out hm0 hn0 pr HPR.out w2 ⟨hb1.trans (hb2.mono hz), gT.below hb2 l1, gU.below hb2 l2, gV.below hb2 l3, gO, ⟨hlo.1, hlo.2.1, hlo.2.2, Nat.le_trans hz hO⟩, ⟨⟨hne.1, hne.2.1, by omega⟩, ⟨hne.2.2, by omega⟩, by omega⟩, by simp, by simp, by simp⟩ _ _ _ _ _ _ _ _ _ _ _ _ _ _ _ _ _ _ _ _ _ _ _ _ _ _ _ _ _ _ _ _ _ _ _ _ _ _ _ _ _ _ _ _ _ _ _ _ _ _ _ _ _ _ _ _ _ _ _ _ _ _ _ _ _ _ _ _ _ _ _ _ _ _ _ _ _ _ _ _ _ _ _ _ _ _ _ _ _ _ _ _ _ _ _ _ _ _ _ _ _ _ _ _ _ _ _ _ _ _ _ _ _ _ _ _ _ _ _ _ _ _ _ _ _ _ _ _ _ _ _ _ _ _ _ _ _ _ _ _ _ _ _ _ _ _ _ _ _ _ _ _ _ _ _ _ _ _ _ _ _ _ _ _ _ _ _ _ _ _ _ _ _ _ _ _ _ _ _ _ _ _ _ _ _ _ _ _ _ _ _ _ _ _ _ _ _ _ _ _ _ _ _ _ _ _ _ _ ?_ ?_
 ·intro hp w3 _ _ _ _ _ _ _ _ _ _ _ _ _ _ _ _ _ _ _ _ _ _ _ _ _ _ _ _ _ _ _ _ _ _ _ _ _ _ _ _ _ _ _ _ _ _ _ _ _ _ _ _ _ _ _ _ _ _ _ _ _ _ _ _ _ _ _ _ _ _ _ _ _ _ _ _ _ _ _ _ _ _ _ _ _ _ _ _ _ _ _ _ _ _ _ _ _ _ _ _ _ _ _ _ _ _ _ _ _ _ _ _ _ _ _ _ _ _ _ _ _ _ _ _ _ _ _ _ _ _ _ _ _ _ _ _ _ _ _ _ _ _ _ _ _ _ _ _ _ _ _ _ _ _ _ _ _ _ _ _ _ _ _ _ _ _ _ _ _ _ _ _ _ hb3
  have hrn : res = none := by rw [HR.out, hp]; rfl
  subst hrn
  refine bodyPost_ret (Ct rfl _ _ _) rfl ?_
  exact ⟨rfl, hb3⟩
 ·intro s hs w3 _ _ _ _ _ _ _ _ _ _ _ _ _ _ _ _ _ _ _ _ _ _ _ _ _ _ _ _ _ _ _ _ _ _ _ _ _ _ _ _ _ _ _ _ _ _ _ _ _ _ _ _ _ _ _ _ _ _ _ _ _ _ _ _ _ _ _ _ _ _ _ _ _ _ _ _ _ _ _ _ _ _ _ _ _ _ _ _ _ _ _ _ _ _ _ _ _ _ _ _ _ _ _ _ _ _ _ _ _ _ _ _ _ _ _ _ _ _ _ _ _ _ _ _ _ _ _ _ _ _ _ _ _ _ _ _ _ _ _ _ _ _ _ _ _ _ _ _ _ _ _ _ _ _ _ _ _ _ _ _ _ _ _ _ _ _ _ _ _ _ _ _ _ _ hM
  have hrs : res = some ⟨toK n s.own m, s.u, s.v⟩ := by rw [HR.out, hs]; rfl
  subst hrs
  refine Pm w T U V O s.u s.v s.own n m hm0 hM.lown (fun j hj => by have := HOWN.out s (by rw [HPR.out, hs]) j hj; omega) hM.ne.1 ⟨hM.lo.1, hM.lo.2.1, hM.lo.2.2.1⟩ w3 hM.below hM.to hM.u hM.v hM.own _ _ _ _ _ _ _ _ _ _ _ _ _ _ _ _ _ _ _ _ _ _ _ _ _ _ _ _ _ _ _ _ _ _ _ _ _ _ _ _ _ _ _ _ _ _ _ _ _ _ _ _ _ _ _ _ _ _ _ _ _ _ _ _ _ _ _ _ _ _ _ _ _ _ _ _ _ _ _ _ _ _ _ _ _ _ _ _ _ _ _ _ _ _ _ _ _ _ _ _ _ _ _ _ _ _ _ _ _ _ _ _ _ _ _ _ _ _ _ _ _ _ _ _ _ _ _ _ _ _ _ _ _ _ _ _ _ _ _ _ _ _ _ _ _ _ _ _ _ _ _ _ _ _ _ _ _ _ _ _ _ _ _ _ _ _ _ _ _ _ _ _ _ _ _ _ _ _ _ _ _ _ _ _ _ _ _ _ _ _ _ _ _ _ _ _ _ _ _ _ _ _ _ _ _ _ _ _
theorem FF {cost : List (List Int)} (h : Ak cost = 0) : cost.length ≤ 16 ∧ AS cost ≤ 16 ∧ (∀ r ∈ cost, r.length = AS cost) ∧ (∀ r j, cI cost r j ≤ AV) ∧ ∀ r j, -1 ≤ cI cost r j := by
 unfold Ak at h
 by_cases h1 : 16 < cost.length ∨ Es cost = true
 ·rw [if_pos h1] at h; cases h
 ·rw [if_neg h1] at h
  have h2 : ¬ 16 < cost.length := fun q => h1 (Or.inl q)
  have h3 : ¬ Es cost = true := fun q => h1 (Or.inr q)
  have h4 : ¬ cost.any (GE (AS cost)) = true := fun q => by rw [if_pos q] at h; cases h
  have hrow : ∀ r ∈ cost, r.length = AS cost ∧ ∀ x ∈ r, -1 ≤ x ∧ x ≤ 1048576 := by
   intro r hr
   have hb : ¬ GE (AS cost) r = true := fun q => h4 (List.any_eq_true.2 ⟨r, hr, q⟩)
   unfold GE at hb
   simp only [Bool.or_eq_true, decide_eq_true_eq, not_or, Decidable.not_not] at hb
   refine ⟨hb.1, fun x hx => ?_⟩
   have hq : ¬ Qz x = true := fun q => hb.2 (List.any_eq_true.2 ⟨x, hx, q⟩)
   unfold Qz at hq
   simp only [decide_eq_true_eq] at hq
   omega
  have hcell : ∀ r j, -1 ≤ cI cost r j ∧ cI cost r j ≤ 1048576 := by
   intro r j
   unfold cI gi
   cases hr : cost[r]? with
   | none => simp
   | some row =>
    cases hx : row[j]? with
    | none => simp [hx]
    | some x =>
     have := (hrow row (List.mem_of_getElem? hr)).2 x (List.mem_of_getElem? hx)
     simpa [hx] using this
  refine ⟨by omega, ?_, fun r hr => (hrow r hr).1, fun r j => (hcell r j).2, fun r j => (hcell r j).1⟩
  unfold AS
  cases hc : cost[0]? with
  | none => simp
  | some row =>
   have hm := List.mem_of_getElem? hc
   have : ¬ (16 : Int) < (row.length : Int) := fun q => h3 (List.any_eq_true.2 ⟨row, hm, by simpa using q⟩)
   simp only [Option.getD_some]
   omega
theorem Ey (cost : List (List Int)) (aoC : Option Addr) (ccC m : Nat) (w : World) (hC : IsMat w (.slice aoC cost.length ccC) cost) (hrl : ∀ r ∈ cost, r.length = m) (hn : cost.length ≤ 16) (hm : m ≤ 16) (hc : ∀ r j, cI cost r j ≤ AV) (hc0 : ∀ r j, -1 ≤ cI cost r j) :
  ∃ res, EX cost m = some res ∧ (match res with | none => IJ cost.length m (cI cost) | some s => SolOk cost.length m (cI cost) s) ∧ Calls Tryz.prog 46 #[.slice aoC cost.length ccC, int i64 m] w (Sj cost.length m res w) := by
 have hown : ∀ s, Aw cost cost.length m cost.length = some (some s) → ∀ j, j < m → gi s.own j < cost.length := by
  intro s hs j hj
  rcases FQ hn hm hc hc0 cost.length (qn _) with ⟨h1, _⟩ | ⟨t, h1, h2⟩
  ·rw [h1] at hs; cases hs
  ·rw [h1] at hs
   obtain rfl : t = s := Option.some.inj (Option.some.inj hs)
   have := h2.pot.lo j hj
   omega
 rcases Qv hn hm hc hc0 with ⟨h1, h2⟩ | ⟨s, h1, h2⟩
 ·exact ⟨none, h1, h2, Jz cost aoC ccC m w hC hrl (by omega) (by omega) none h1 hown⟩
 ·exact ⟨some s, h1, h2, Jz cost aoC ccC m w hC hrl (by omega) (by omega) (some s) h1 hown⟩
end
section
open Go Go.RowKit Go.Deep
def Rd (cost : List (List Int)) (w : World) (e : Ending) (w' : World) : Prop :=
 (Ak cost ≠ 0 ∧ e = .returned (.tuple #[.slice none 0 0, .slice none 0 0, .bool false, int i64 (Ak cost)]) ∧ Below w.heap.size w w') ∨
 (Ak cost = 0 ∧ ∃ res, EX cost (AS cost) = some res ∧ (match res with
  | none => IJ cost.length (AS cost) (cI cost) ∧ e = .returned (.tuple #[.slice none 0 0, .slice none 0 0, .bool false, int i64 0]) ∧ Below w.heap.size w w'
  | some s => SolOk cost.length (AS cost) (cI cost) s ∧ ∃ U V, e = .returned (.tuple #[.slice (some ⟨U, 0, none⟩) cost.length cost.length, .slice (some ⟨V, 0, none⟩) (AS cost) (AS cost), .bool true, int i64 0]) ∧ BI w' U s.u ∧ BI w' V s.v ∧ Below w.heap.size w w'))
theorem MH {v : Value} {cost : List (List Int)} (w : World) (h : IsMat w v cost) : Calls Tryz.prog 29 #[v] w (Rd cost w) := by
 obtain ⟨ao, c, rfl⟩ := h.form
 have hch := BK w h
 have HCH := qh hch; have HH := qh h
 have HW := qh (fun (W : World) (hb : Below w.heap.size w W) => D1 W (h.below hb (qn _)))
 clear hch h
 go_enter Tryz.func29, Tryz.ntmps29
 go_wp2_with fail
 refine HCH.out.mono ?_
 rintro e w1 ⟨rfl, hb1⟩
 have HB1 := qh hb1
 clear hb1 HCH
 by_cases hce : Ak cost = 0
 ·have hne : (Ak cost != 0) = false := by simp [hce]
  obtain ⟨r1, r2, r3, r4, r5⟩ := FF hce
  have hs := Ey cost ao c (AS cost) w1 (HH.out.below HB1.out (qn _)) r3 r1 r2 r4 r5
  obtain ⟨res, hres, hok, hcall⟩ := hs
  have HCALL := qh hcall; have HOK := qh hok; have HRES := qh hres
  have HCE := qh hce
  clear r1 r2 r3 r4 r5 hres hok hcall hce
  go_wp2_with fail
  refine (HW.out w1 HB1.out).mono ?_
  rintro e w2 ⟨rfl, hw⟩
  rw [hw]
  clear hw w2 HW
  go_wp2_with fail
  refine HCALL.out.mono ?_
  intro e w2 hsp
  cases res with
  | none =>
   obtain ⟨rfl, hb2⟩ := hsp
   have HB2 := qh (HB1.out.trans (hb2.mono HB1.out.size))
   clear hb2 HCALL
   go_wp2_with fail
   try simp only [Exit.inBlock, Exit.then]
   refine bodyPost_ret (Ct rfl _ _ _) rfl ?_
   exact Or.inr ⟨HCE.out, none, HRES.out, HOK.out, rfl, HB2.out⟩
  | some s =>
   obtain ⟨T, U, V, rfl, hT, hU, hV, _, hb2⟩ := hsp
   have HB2 := qh (HB1.out.trans (hb2.mono HB1.out.size)); have HU := qh hU; have HV := qh hV
   clear hb2 HCALL hT hU hV
   go_wp2_with fail
   try simp only [Exit.inBlock, Exit.then]
   refine bodyPost_ret (Ct rfl _ _ _) rfl ?_
   exact Or.inr ⟨HCE.out, some s, HRES.out, HOK.out, U, V, rfl, HU.out, HV.out, HB2.out⟩
 ·have hne : (Ak cost != 0) = true := by simpa using hce
  have HCE := qh hce
  clear hce
  go_wp2_with fail
  try simp only [Exit.inBlock, Exit.then]
  refine bodyPost_ret (Ct rfl _ _ _) rfl ?_
  exact Or.inl ⟨HCE.out, rfl, HB1.out⟩
end
section
open Go Go.RowKit Go.Deep
def Lm (x : Int) : Bool := decide (x < -1099511627776 ∨ 0 < x)
def JR (x : Int) : Bool := decide (-1099511627776 ≤ x) && decide (x ≤ 1099511627776)
def GD (row v : List Int) (x : Int) (k : Nat) : Bool := (List.range k).all fun j => !(decide (0 ≤ gi row j) && decide (gi row j < x + gi v j))
def JN (cost : List (List Int)) (u v : List Int) (m k : Nat) : Bool := (List.range k).all fun i => JR (gi u i) && GD (cost[i]?.getD []) v (gi u i) m
def DH (cost : List (List Int)) (u v : List Int) : Bool := decide (u.length = cost.length) && decide (v.length = AS cost) && !(v.any Lm) && JN cost u v (AS cost) cost.length
def In (cost : List (List Int)) (u v : List Int) : Int := if Ak cost = 0 ∧ DH cost u v = true then A6 (gi v) (AS cost) + A6 (gi u) cost.length else 0
theorem Db (f : Nat → Bool) (k : Nat) : (List.range (k + 1)).all f = ((List.range k).all f && f k) := by
 rw [List.range_succ, List.all_append]; simp
theorem E2 {f : Nat → Bool} {k n : Nat} (hk : k < n) (h : f k = false) : (List.range n).all f = false := by
 rw [Bool.eq_false_iff]
 intro h2
 have := List.all_eq_true.1 h2 k (by simpa using hk)
 rw [h] at this; cases this
theorem L8 {cost : List (List Int)} {u v : List Int} {m : Nat} : ∀ {k : Nat}, JN cost u v m k = true → -1099511627776 * (k : Int) ≤ A6 (gi u) k ∧ A6 (gi u) k ≤ 1099511627776 * (k : Int)
 | 0, _ => ⟨by simp [A6], by simp [A6]⟩
 | k + 1, h => by
  unfold JN at h
  rw [Db, Bool.and_eq_true, Bool.and_eq_true] at h
  have ih := L8 (k := k) h.1
  have hn := h.2.1
  unfold JR at hn
  simp only [Bool.and_eq_true, decide_eq_true_eq] at hn
  unfold A6
  omega
theorem Qy (x : Int) (w : World) : Calls Tryz.prog 54 #[int i64 x] w fun e w' => e = .returned (.bool (Lm x)) ∧ Below w.heap.size w w' := by
 unfold Lm
 by_cases h1 : x < -1099511627776
 ·have hd : decide (x < -1099511627776 ∨ 0 < x) = true := by simp [h1]
  rw [hd]
  clear hd
  go_enter Tryz.func54, Tryz.ntmps54
  go_wp2_with fail
  go_ret
  exact ⟨rfl, Below.refl _ _⟩
 ·have hd : decide (x < -1099511627776 ∨ 0 < x) = decide (0 < x) := decide_eq_decide.2 (by simp [h1])
  rw [hd]
  clear hd
  go_enter Tryz.func54, Tryz.ntmps54
  go_wp2_with fail
  go_ret
  exact ⟨rfl, Below.refl _ _⟩
def Nj (cost : List (List Int)) (u v : List Int) (w : World) (e : Ending) (w' : World) : Prop :=
 e = .returned (.tuple #[int i64 (In cost u v), .bool (decide (Ak cost = 0) && DH cost u v), int i64 (Ak cost)]) ∧ Below w.heap.size w w'
theorem Iq {cv : Value} {cost : List (List Int)} (u v : List Int) (nu nv : Nat) (hnu : u.length = nu) (hnv : v.length = nv) (au av : Option Addr) (cu cw : Nat) (w : World) (h : IsMat w cv cost) (hu : IsRow AX 1 w (.slice au nu cu) u) (hv : IsRow AX 1 w (.slice av nv cw) v) :
  Calls Tryz.prog 25 #[cv, .slice au nu cu, .slice av nv cw] w (Nj cost u v w) := by
 obtain ⟨ao, c, rfl⟩ := h.form
 have HCH := qh (BK w h); have HH := qh h; have HU := qh hu; have HV := qh hv; have HNU := qh hnu; have HNV := qh hnv
 have HW := qh (fun (W : World) (hb : Below w.heap.size w W) => D1 W (h.below hb (qn _)))
 have HNC := qh (show cost.length = cost.length from rfl)
 have HOD := qh (fun (W : World) (hb : Below w.heap.size w W) => Dt Lm 54 #[] (enters_of Tryz.func54 (by kernel_rfl) rfl) v nv hnv av cw W (hv.below hb (qn _)) (fun x _ W2 _ => Qy x W2))
 clear h hu hv hnu hnv
 have hPN := qh (show In cost u v = if Ak cost = 0 ∧ DH cost u v = true then A6 (gi v) (AS cost) + A6 (gi u) cost.length else 0 from rfl)
 have hPB := qh (show DH cost u v = (decide (u.length = cost.length) && decide (v.length = AS cost) && !(v.any Lm) && JN cost u v (AS cost) cost.length) from rfl)
 unfold Nj
 by_cases hce : Ak cost = 0
 ·obtain ⟨r1, r2, r3, r4, r5⟩ := FF hce
  have HCE := qh hce; have HR1 := qh r1; have HR2 := qh r2; have HR3 := qh r3
  clear r1 r2 r3 r4 r5
  have hbad : DH cost u v = false → ∀ W, Below w.heap.size w W → (.returned (.tuple #[int i64 0, .bool false, int i64 0]) : Ending) = .returned (.tuple #[int i64 (In cost u v), .bool (decide (Ak cost = 0) && DH cost u v), int i64 (Ak cost)]) ∧ Below w.heap.size w W := by
   intro hb W hW
   refine ⟨?_, hW⟩
   rw [hPN.out, hb, if_neg (fun q => by cases q.2), HCE.out]; simp
  have HBAD := qh hbad
  have hgood : DH cost u v = true → ∀ W, Below w.heap.size w W → (.returned (.tuple #[int i64 (A6 (gi v) (AS cost) + A6 (gi u) cost.length), .bool true, int i64 0]) : Ending) = .returned (.tuple #[int i64 (In cost u v), .bool (decide (Ak cost = 0) && DH cost u v), int i64 (Ak cost)]) ∧ Below w.heap.size w W := by
   intro hb W hW
   refine ⟨?_, hW⟩
   rw [hPN.out, hb, if_pos ⟨HCE.out, rfl⟩, HCE.out]; simp
  have HGOOD := qh hgood
  clear hbad hgood
  rw [hce] at HCH
  generalize hn : cost.length = n at *
  go_enter Tryz.func25, Tryz.ntmps25
  go_wp2_with fail
  refine HCH.out.mono ?_
  rintro e w1 ⟨rfl, hb1⟩
  have HB1 := qh hb1
  clear hb1 HCH hce
  by_cases hun : nu = n
  ·have hd1 : ((nu : Int) != (nu : Int)) = false := by simp
   subst hun
   go_wp2_with fail
   refine (HW.out w1 HB1.out).mono ?_
   rintro e w2 ⟨rfl, hw⟩
   rw [hw]
   clear hw w2
   generalize hm : AS cost = m at *
   by_cases hvm : nv = m
   ·have hd2 : ((nv : Int) != (nv : Int)) = false := by simp
    subst hvm
    go_wp2_with fail
    refine (HOD.out w1 HB1.out).mono ?_
    rintro e w2 ⟨rfl, hb2⟩
    have HB2 := qh (HB1.out.trans (hb2.mono HB1.out.size))
    clear hb2 HOD HB1
    cases hod : v.any Lm with
    | true =>
     go_wp2_with fail
     go_ret3
     exact HBAD.out (by rw [hPB.out, hod]; simp) _ HB2.out
    | false =>
     have HOD := qh hod
     clear hod
     have hvr : ∀ x ∈ v, -1099511627776 ≤ x ∧ x ≤ 0 := by
      intro x hx
      have hq : ¬ Lm x = true := fun q => by have := List.any_eq_true.2 ⟨x, hx, q⟩; rw [HOD.out] at this; cases this
      unfold Lm at hq
      simp only [decide_eq_true_eq] at hq
      omega
     have hgv : ∀ j, -1099511627776 ≤ gi v j ∧ gi v j ≤ 0 := by
      intro j
      unfold gi
      cases hx : v[j]? with
      | none => simp
      | some x => exact hvr x (List.mem_of_getElem? hx)
     have hsv : ∀ j : Nat, -1099511627776 * (j : Int) ≤ A6 (gi v) j ∧ A6 (gi v) j ≤ 0 := by
      intro j
      induction j with
      | zero => exact ⟨by simp [A6], by simp [A6]⟩
      | succ j ih => have := hgv j; unfold A6; omega
     have HGV := qh hgv; have HSV := qh hsv
     clear hvr hgv hsv
     have hVc := fun (W : World) (hb : Below w.heap.size w W) (j : Nat) (hj : j < nv) => (HV.out.below hb (qn _)).int (j := j) (by rw [HNV.out]; exact hj)
     have HVC := qh hVc
     clear hVc
     have hn16 : nv ≤ 16 := HR2.out
     have hn17 : nu ≤ 16 := HR1.out
     go_wp2_with fail
     go_loopw [6, 38] (fun sv iv wr => ∃ j : Nat, j ≤ nv ∧ iv = int i64 j ∧ sv = int i64 (A6 (gi v) j) ∧ Hid (Below w.heap.size w wr)) (fun _ iv _ => nv - (intOf iv).toNat)
     case atStart => exact ⟨0, Nat.zero_le _, rfl, rfl, HB2⟩
     case round =>
      clear HB2
      obtain ⟨j, hjm, rfl, rfl, hB⟩ := hrel
      by_cases hj : j < nv
      ·have hj' : (j : Int) < (nv : Int) := by omega
       obtain ⟨bv, ov, e, hcell, _⟩ := HVC.out wr hB.out j hj
       subst e
       have hb1 := HSV.out j; have hb2 := HGV.out j
       have hmm := HR2.out
       have hW : wrap64 (A6 (gi v) j + gi v j) = A6 (gi v) (j + 1) := by
        rw [show A6 (gi v) (j + 1) = A6 (gi v) j + gi v j from rfl]
        exact nw (by omega) (by omega)
       have HWW := qh hW
       clear hb1 hb2 hmm hW
       generalize A6 (gi v) j = sj at *
       generalize gi v j = vj at *
       go_wp2_with fail
       exact ⟨⟨j + 1, by omega, by go_num, by first | rw [HWW.out] | (rw [← HWW.out]; rfl), hB⟩, by simp [intOf]; omega⟩
      ·obtain rfl : j = nv := by omega
       have hj' : ¬ (j : Int) < (j : Int) := by omega
       go_wp2_with fail
       have hUc := fun (W : World) (hb : Below w.heap.size w W) (i : Nat) (hi : i < nu) => (HU.out.below hb (qn _)).int (j := i) (by rw [HNU.out]; exact hi)
       have HUC := qh hUc
       clear hUc
       go_loopw [6, 48] (fun sv iv wr => ∃ i : Nat, i ≤ nu ∧ iv = int i64 i ∧ sv = int i64 (A6 (gi v) j + A6 (gi u) i) ∧ Hid (Below w.heap.size w wr) ∧ Hid (JN cost u v j i = true)) (fun _ iv _ => nu - (intOf iv).toNat)
       case atStart => exact ⟨0, Nat.zero_le _, rfl, by simp [A6], hB, qh rfl⟩
       case round =>
        clear hB
        obtain ⟨i, him, rfl, rfl, hB, hFU⟩ := hrel
        by_cases hi : i < nu
        ·have hi' : (i : Int) < (nu : Int) := by omega
         obtain ⟨bu, ou, e, hcell, _⟩ := HUC.out _ hB.out i hi
         subst e
         obtain ⟨bC, oC, e, ar, cr, hcC0, hrC, hltC⟩ := HH.out.at_ (i := i) (by rw [hn]; exact hi)
         subst e
         have hcC := (hB.out.cell (p := ⟨bC, oC + i, none⟩) hltC).trans hcC0
         clear hcC0 hltC
         have hrl : (cost[i]?.getD []).length = j := by
          rw [qg (by rw [hn]; exact hi)]
          exact HR3.out _ (List.getElem_mem _)
         rw [hrl] at hcC hrC
         have hsu := L8 hFU.out
         have hsv2 := HSV.out j
         have hfs := Db (fun i => JR (gi u i) && GD (cost[i]?.getD []) v (gi u i) j) i
         have HSU := qh hsu; have HFS := qh hfs; have HRC := qh hrC; have HRL := qh hrl; have HSV2 := qh hsv2
         have hfalse : (JR (gi u i) && GD (cost[i]?.getD []) v (gi u i) j) = false → DH cost u v = false := by
          intro hq
          rw [hPB.out]
          unfold JN
          rw [E2 (f := fun i => JR (gi u i) && GD (cost[i]?.getD []) v (gi u i) j) hi hq]; simp
         have HFALSE := qh hfalse
         have hsucc : A6 (gi v) j + A6 (gi u) (i + 1) = (A6 (gi v) j + A6 (gi u) i) + gi u i := by
          rw [show A6 (gi u) (i + 1) = A6 (gi u) i + gi u i from rfl]; omega
         have HSUCC := qh hsucc
         clear hrl hrC hsu hfs hfalse hsv2 hsucc
         generalize hrow : cost[i]?.getD [] = row at *
         have hbig : -1099511627776 * ((j : Int) + (i : Int)) ≤ A6 (gi v) j + A6 (gi u) i ∧ A6 (gi v) j + A6 (gi u) i ≤ 1099511627776 * (i : Int) := by
          have := HSU.out; have := HSV2.out; omega
         have HBIG := qh hbig
         clear hbig
         generalize hx : gi u i = x at *
         generalize htot : A6 (gi v) j + A6 (gi u) i = tot at *
         by_cases h1 : x < -1099511627776
         ·have hb := HBAD.out (HFALSE.out (by unfold JR; rw [decide_eq_false (by omega : ¬ -1099511627776 ≤ x)]; rfl)) _ hB.out
          have HBB := qh hb
          clear hb
          go_wp2_with fail
          go_ret3
          exact HBB.out
         by_cases h2 : 1099511627776 < x
         ·have hb := HBAD.out (HFALSE.out (by unfold JR; rw [decide_eq_false (by omega : ¬ x ≤ 1099511627776)]; simp)) _ hB.out
          have HBB := qh hb
          clear hb
          go_wp2_with fail
          go_ret3
          exact HBB.out
         have hnum : JR x = true := by unfold JR; rw [decide_eq_true (by omega : -1099511627776 ≤ x), decide_eq_true (by omega : x ≤ 1099511627776)]; rfl
         have hW : wrap64 (tot + x) = tot + x := by have := HBIG.out; exact nw (by omega) (by omega)
         have HNUM := qh hnum; have HXB := qh (show -1099511627776 ≤ x ∧ x ≤ 1099511627776 by omega)
         clear hnum
         have HWT := qh hW
         go_wp2_with fail
         go_loopw [6, 67] (fun sv iv wr => sv = int i64 (tot + x) ∧ ∃ q : Nat, q ≤ j ∧ iv = int i64 q ∧ Hid (Below w.heap.size w wr) ∧ Hid (GD row v x q = true)) (fun _ iv _ => j - (intOf iv).toNat)
         case atStart => exact ⟨by first | rfl | rw [hW], 0, Nat.zero_le _, rfl, hB, qh rfl⟩
         case round =>
          clear hW
          obtain ⟨rfl, q, hqj, rfl, hB2, hFR⟩ := hrel
          by_cases hq : q < j
          ·have hq' : (q : Int) < (j : Int) := by omega
           obtain ⟨bv, ov, e, hcv, _⟩ := HVC.out _ hB2.out q hq
           subst e
           obtain ⟨bR, oR, e, hcq, _⟩ := (HRC.out.below hB2.out (qn _)).int (j := q) (by rw [HRL.out]; exact hq)
           subst e
           have hfs2 := Db (fun j => !(decide (0 ≤ gi row j) && decide (gi row j < x + gi v j))) q
           have hgv := HGV.out q
           have hWx : wrap64 (x + gi v q) = x + gi v q := by have := HXB.out; exact nw (by omega) (by omega)
           have hbadq : (!(decide (0 ≤ gi row q) && decide (gi row q < x + gi v q))) = false → DH cost u v = false := by
            intro hq2
            refine HFALSE.out ?_
            unfold GD
            rw [E2 (f := fun j => !(decide (0 ≤ gi row j) && decide (gi row j < x + gi v j))) hq hq2]; simp
           have HFS2 := qh hfs2; have HBQ := qh hbadq
           clear hfs2 hgv hbadq
           generalize hcj : gi row q = cj at *
           generalize hvj : gi v q = vj at *
           by_cases hc0 : 0 ≤ cj
           ·have hd0 : decide (0 ≤ cj) = true := decide_eq_true hc0
            by_cases hlt : cj < x + vj
            ·have hd1 : decide (cj < x + vj) = true := decide_eq_true hlt
             have HBB := qh (HBAD.out (HBQ.out (by rw [hd0, hd1]; rfl)) _ hB2.out)
             go_wp2_with fail
             go_ret3
             exact HBB.out
            ·have hd1 : decide (cj < x + vj) = false := decide_eq_false hlt
             have HF2 := qh (show GD row v x (q + 1) = true by
              unfold GD
              rw [HFS2.out, hd0, hd1]
              have := hFR.out
              unfold GD at this
              rw [this]; rfl)
             go_wp2_with fail
             exact ⟨⟨rfl, q + 1, by omega, by go_num, hB2, HF2⟩, by simp [intOf]; omega⟩
           ·have hd0 : decide (0 ≤ cj) = false := decide_eq_false hc0
            have HF2 := qh (show GD row v x (q + 1) = true by
             unfold GD
             rw [HFS2.out, hd0]
             have := hFR.out
             unfold GD at this
             rw [this]; rfl)
            go_wp2_with fail
            exact ⟨⟨rfl, q + 1, by omega, by go_num, hB2, HF2⟩, by simp [intOf]; omega⟩
          ·obtain rfl : q = j := by omega
           have hq' : ¬ (q : Int) < (q : Int) := by omega
           have hfu : JN cost u v q (i + 1) = true := by
            unfold JN
            rw [HFS.out, HNUM.out, hFR.out]
            have := hFU.out
            unfold JN at this
            rw [this]; rfl
           have HFU := qh hfu; have HS2 := qh (show tot + x = A6 (gi v) q + A6 (gi u) (i + 1) by rw [HSUCC.out])
           clear hfu
           go_wp2_with fail
           exact ⟨⟨i + 1, by omega, by go_num, by rw [HS2.out], hB2, HFU⟩, by simp [intOf]; omega⟩
        ·obtain rfl : i = nu := by omega
         have hi' : ¬ (i : Int) < (i : Int) := by omega
         have hpb : DH cost u v = true := by
          rw [hPB.out, hFU.out, HOD.out, decide_eq_true HNU.out, decide_eq_true HNV.out]; rfl
         have HG := qh (HGOOD.out hpb _ hB.out)
         clear hpb
         generalize A6 (gi v) j + A6 (gi u) i = tot at *
         go_wp2_with fail
         go_ret3
         exact HG.out
   ·have hd2 : ((nv : Int) != (m : Int)) = true := by simp; omega
    go_wp2_with fail
    go_ret3
    exact HBAD.out (by rw [hPB.out, show decide (v.length = m) = false from decide_eq_false (by rw [HNV.out]; exact hvm)]; simp) _ HB1.out
  ·have hd1 : ((nu : Int) != (n : Int)) = true := by simp; omega
   go_wp2_with fail
   go_ret3
   exact HBAD.out (by rw [hPB.out, show decide (u.length = n) = false from decide_eq_false (by rw [HNU.out]; exact hun)]; simp) _ HB1.out
 ·have hne : (Ak cost != 0) = true := by simpa using hce
  have hp : In cost u v = 0 := by rw [hPN.out, if_neg (fun q => hce q.1)]
  rw [hp, decide_eq_false hce, Bool.false_and]
  clear hce hp
  go_enter Tryz.func25, Tryz.ntmps25
  go_wp2_with fail
  refine HCH.out.mono ?_
  rintro e w1 ⟨rfl, hb1⟩
  have HB1 := qh hb1
  clear hb1 HCH
  go_wp2_with fail
  go_ret3
  exact ⟨rfl, HB1.out⟩
end
section
open Go Go.RowKit Go.Deep
structure RI (w : World) (g : Nat) (l : List Int) : Prop where
 cell : ∀ q, q < l.length → w.cell? ⟨g, q, none⟩ = some (int i64 (gi l q))
 free : ∀ q, q < l.length → w.frozen? ⟨g, q, none⟩ = false
theorem RI.set {w : World} {g : Nat} {l : List Int} (h : RI w g l) (j : Nat) (hj : j < l.length) (x : Int) : RI (w.setCell ⟨g, j, none⟩ (int i64 x)) g (l.set j x) := by
 refine ⟨fun q hq => ?_, fun q hq => ?_⟩
 ·rw [List.length_set] at hq
  rw [Cw _ _ _ _ hj]
  by_cases e : q = j
  ·subst e
   rw [if_pos rfl]
   exact World.cell?_setCell_same _ _ _ (h.cell q hq)
  ·rw [if_neg e]
   refine (World.cell?_setCell_other _ _ _ _ ?_).trans (h.cell q hq)
   intro e2
   injection e2 with _ e3 _
   exact e e3.symm
 ·rw [List.length_set] at hq
  rw [World.frozen?_setCell]
  exact h.free q hq
theorem RI.below {w w' : World} {g B : Nat} {l : List Int} (h : RI w g l) (hb : Below B w w') (hB : g < B) : RI w' g l := by
 refine ⟨fun q hq => (hb.cell (p := ⟨g, q, none⟩) hB).trans (h.cell q hq), fun q hq => ?_⟩
 have := h.free q hq
 unfold World.frozen? at this ⊢
 rw [hb.block g hB]
 exact this
noncomputable def DQ : Code := (Tryz.f47.body).getD .skip
noncomputable def Ek : Code := Bu (Ag 3 DQ)
noncomputable def Lk : Code := RA (Kz (At Ek))
noncomputable def IY : Code := Kz (Bu (At (At Lk)))
noncomputable def Qu : Code := Bu (At (At (At IY)))
theorem ON (w0 : World) (kT D g m cap j : Nat) (row : List Int) (taken : List Bool) (hrl : row.length = m) (htl : taken.length = m) (hm0 : m ≤ 1000) (B : Nat) (hD : D < B) (hg : B ≤ g) (hkT : kT < B)
  (w : World) (hb0 : Below B w0 w) (hT : w.cell? ⟨kT, 0, none⟩ = some (.slice (some ⟨D, 0, none⟩) m m)) (hBD : BB w D taken) (hR : RI w g (row.set j (-1))) (e0 e1 e3 e4 e5 e6 e7 e8 e9 ea eb ec ed ee ef eg eh ei ej ek el em en eo ep eq er es et eu ev ew ex ey ez eA eB eC eD eE eF eG eH eI eJ eK eL eM eN eO eP eQ eR eS eT eU eV eW eX eY eZ aa ab ac ad ae af ag ah ai aj ak al am an ao ap aq ar au av aw ax ay az aA aB aC aD aE aF aG aH aI aJ aK aL aM aN aO aP aQ aR aS aT aU aV aW aX : Value) (Q : Exit → Act → World → Prop) (X : Code)
  (hX : ∀ (w' : World) (aY aZ ba bb bc bd be bf bg bh bi bj bk bl : Value), Below B w0 w' → RI w' g (Dg row j taken m) → (∀ h, h ≠ g → w'.heap[h]? = w.heap[h]?) → Code.wp Tryz.prog X Q { tmps := #[e0, e1, .pointer (some ⟨kT, 0, none⟩), e3, e4, e5, e6, e7, e8, e9, ea, eb, ec, .slice (some ⟨g, 0, none⟩) m cap, aY, aZ, ef, eg, eh, ei, ej, ek, el, em, en, eo, ep, eq, er, es, et, eu, ev, ew, ex, ey, ez, eA, eB, eC, eD, eE, eF, eG, eH, eI, eJ, eK, eL, eM, eN, eO, eP, eQ, ba, bb, bc, bd, be, bf, bg, bh, bi, bj, bk, bl, ad, ae, af, ag, ah, ai, aj, ak, al, am, an, ao, ap, aq, ar, au, av, aw, ax, ay, az, aA, aB, aC, aD, aE, aF, aG, aH, aI, aJ, aK, aL, aM, aN, aO, aP, aQ, aR, aS, aT, aU, aV, aW, aX], defers := [] } w') :
  Code.wp Tryz.prog (.seq Qu X) Q { tmps := #[e0, e1, .pointer (some ⟨kT, 0, none⟩), e3, e4, e5, e6, e7, e8, e9, ea, eb, ec, .slice (some ⟨g, 0, none⟩) m cap, ed, ee, ef, eg, eh, ei, ej, ek, el, em, en, eo, ep, eq, er, es, et, eu, ev, ew, ex, ey, ez, eA, eB, eC, eD, eE, eF, eG, eH, eI, eJ, eK, eL, eM, eN, eO, eP, eQ, eR, eS, eT, eU, eV, eW, eX, eY, eZ, aa, ab, ac, ad, ae, af, ag, ah, ai, aj, ak, al, am, an, ao, ap, aq, ar, au, av, aw, ax, ay, az, aA, aB, aC, aD, aE, aF, aG, aH, aI, aJ, aK, aL, aM, aN, aO, aP, aQ, aR, aS, aT, aU, aV, aW, aX], defers := [] } w := by
 have HX := qh hX; have HR := qh hR; have HBD := qh hBD; have HRL := qh hrl; have HTL := qh htl; have HB0 := qh hb0; have HG := qh hg; have HD := qh hD
 clear hX hR hBD hrl htl hb0 hkT hg hD
 unfold Qu IY Lk Ek DQ
 conv => arg 2; arg 1; whnf
 go_wp2_with fail
 go_loopw [56] (fun iv wr => ∃ k : Nat, k ≤ m ∧ iv = int i64 k ∧ Hid (Below B w0 wr) ∧ Hid (RI wr g (Dg row j taken k)) ∧ Hid (∀ h, h ≠ g → wr.heap[h]? = w.heap[h]?)) (fun iv _ => m - (intOf iv).toNat)
 case atStart => exact ⟨0, Nat.zero_le _, rfl, HB0, HR, fun _ _ => rfl⟩
 case round =>
  clear HR HB0
  obtain ⟨k, hkm, rfl, hB, hR, hO⟩ := hrel
  by_cases hk : k < m
  ·have hk' : (k : Int) < (m : Int) := by omega
   have hgD : D ≠ g := by have := HG.out; have := HD.out; omega
   have hBD2 : BB wr D taken := (hO.out D hgD).trans HBD.out
   have cd := hBD2.cell (j := k) (by rw [HTL.out]; exact hk)
   have hlen := CG row j taken k
   have cx := hR.out.cell k (by rw [hlen, HRL.out]; exact hk)
   have fx := hR.out.free k (by rw [hlen, HRL.out]; exact hk)
   have hstep := EZ row j taken k
   unfold KF at hstep
   cases htk : gb taken k with
   | true =>
    rw [htk] at cd
    rw [if_pos htk] at hstep
    have HR2 := qh (hR.out.set k (by rw [hlen, HRL.out]; exact hk) (-1))
    have HO2 := qh (fun h (hh : h ≠ g) => (heap_setCell (w := wr) (a := ⟨g, k, none⟩) (v := int i64 (-1)) hh).trans (hO.out h hh))
    have HB2 := qh (hB.out.setCell (p := ⟨g, k, none⟩) HG.out (int i64 (-1)))
    have HST := qh hstep
    clear hstep htk hlen hBD2 hR hO hB
    generalize gi (Dg row j taken k) k = xk at *
    go_wp2_with fail
    exact ⟨⟨k + 1, by omega, by go_num, HB2, by rw [HST.out]; exact HR2, HO2⟩, by simp [intOf]; omega⟩
   | false =>
    rw [htk] at cd
    rw [if_neg (by rw [htk]; decide)] at hstep
    have HST := qh hstep
    clear hstep htk hlen hBD2 cx fx
    go_wp2_with fail
    exact ⟨⟨k + 1, by omega, by go_num, hB, by rw [HST.out]; exact hR, hO⟩, by simp [intOf]; omega⟩
  ·obtain rfl : k = m := by omega
   have hk' : ¬ (k : Int) < (k : Int) := by omega
   go_wp2_with fail
   exact HX.out _ _ _ _ _ _ _ _ _ _ _ _ _ _ _ hB.out hR.out hO.out
end
section
open Go Go.RowKit Go.Deep
theorem SC {w : World} {base m : Nat} {v : Value} {row : List Int} (hm : 0 < m) (hl : row.length = m) (h : w.ownsRow base 3 1 v m (As row)) : ∃ g cap, v = .slice (some ⟨g, 0, none⟩) m cap ∧ base ≤ g ∧ g < w.heap.size ∧ RI w g row := by
 obtain ⟨h1, h2 | ⟨g, cap, cur, e, hb, hg, hn, _, hs, ht⟩⟩ := h
 ·omega
 ·refine ⟨g, cap, e, hb, (qs.1 hg).1, ⟨fun q hq => ?_, fun q _ => by simp [World.frozen?, hg]⟩⟩
  refine A0 hg q ?_
  have hq2 : (cur.toList.take (m * 1))[q]? = (As row)[q]? := by rw [ht]
  rw [List.getElem?_take, if_pos (by omega)] at hq2
  rw [← Array.getElem?_toList, hq2]
  unfold As gi
  rw [List.getElem?_map, qg hq]; rfl
theorem RI.row {w : World} {g m cap : Nat} {l : List Int} (h : RI w g l) (hl : l.length = m) (hm : m ≤ 1000) (hg : g < w.heap.size) : IsRow AX 1 w (.slice (some ⟨g, 0, none⟩) m cap) l := by
 refine ⟨some ⟨g, 0, none⟩, cap, by rw [hl], by rw [hl]; simp only [maxLen]; omega, Or.inr ⟨g, 0, rfl, ?_, hg⟩⟩
 intro q x hx k v hv
 have hq := (ql.1 hx).1
 rcases k with _ | k
 ·obtain rfl : _ = v := by simpa [AX] using hv
  rw [Nat.zero_add, Nat.mul_one, Nat.add_zero, h.cell q hq]
  unfold gi
  rw [hx]; rfl
 ·simp [AX] at hv
structure LeftW (L n m : Nat) (cost : List (List Int)) (i j : Nat) (taken : List Bool) (w : World) (k : Nat) (hs : List Value) (wr : World) : Prop where
 below : Below L w wr
 lt : L < wr.heap.size
 own : wr.ownsRow L 55 1 (.slice (some ⟨L, 0, none⟩) k n) k hs
 len : hs.length = k
 rows : ∀ r, r < k → ∃ g cap, hs[r]? = some (.slice (some ⟨g, 0, none⟩) m cap) ∧ L < g ∧ g < wr.heap.size ∧ RI wr g (Dg (cost[i + 1 + r]?.getD []) j taken m)
theorem RI.block {w w' : World} {g : Nat} {l : List Int} (h : RI w g l) (e : w'.heap[g]? = w.heap[g]?) : RI w' g l := by
 refine ⟨fun q hq => ?_, fun q hq => ?_⟩
 ·rw [World.cell?_of_block (w := w) e]; exact h.cell q hq
 ·rw [World.frozen?_of_block (w := w) e]; exact h.free q hq
theorem RI.lt {w : World} {g : Nat} {l : List Int} (h : RI w g l) (hl : 0 < l.length) : g < w.heap.size := by
 have := h.cell 0 hl
 unfold World.cell? at this
 cases e : w.heap[g]? with
 | none => simp only [e] at this; cases this
 | some o => exact (qs.1 e).1
theorem LeftW.step {L n m : Nat} {cost : List (List Int)} {i j : Nat} {taken : List Bool} {w wr w3 w4 : World} {k g cap : Nat} {hs : List Value} {row : List Int} {o : Obj}
  (h : LeftW L n m cost i j taken w k hs wr) (hb3 : Below wr.heap.size wr w3) (hg : wr.heap.size ≤ g) (hR : RI w3 g (Dg row j taken m)) (hrow : cost[i + 1 + k]?.getD [] = row) (hl : 0 < row.length)
  (hown : w4.ownsRow L 55 1 (.slice (some ⟨L, 0, none⟩) (k + 1) n) (k + 1) (hs ++ [.slice (some ⟨g, 0, none⟩) m cap])) (hgr : (w3.alloc o).grownBy w4 (some L)) : LeftW L n m cost i j taken w (k + 1) (hs ++ [.slice (some ⟨g, 0, none⟩) m cap]) w4 := by
 have hLs := h.lt
 have h3 := hb3.size
 have hba : Below w3.heap.size w3 (w3.alloc o) := (Below.refl _ w3).alloc (qn _) o
 have hsa := hba.size
 have hgs := hgr.size
 have hgl : g < w3.heap.size := hR.lt (by rw [CG]; exact hl)
 have hblk : ∀ q, L < q → q < w3.heap.size → w4.heap[q]? = w3.heap[q]? := fun q h1 h2 => (hgr.block q (by omega) (fun e => by cases e; omega)).trans (hba.block q h2)
 refine ⟨?_, by omega, hown, by rw [List.length_append, h.len]; rfl, fun r hr => ?_⟩
 ·exact ((h.below.trans (hb3.mono (by omega))).trans (hba.mono (by omega))).grown hgr (by omega) (fun q hq => by cases hq; omega)
 ·by_cases hrk : r < k
  ·obtain ⟨g2, c2, e2, h4, h5, h6⟩ := h.rows r hrk
   refine ⟨g2, c2, by rw [List.getElem?_append_left (by rw [h.len]; omega)]; exact e2, h4, by omega, h6.block ((hblk g2 h4 (by omega)).trans (hb3.block g2 h5))⟩
  ·obtain rfl : r = k := by omega
   refine ⟨g, cap, by rw [List.getElem?_append_right (by rw [h.len]; omega), h.len, Nat.sub_self]; rfl, by omega, by omega, ?_⟩
   rw [hrow]
   exact hR.block (hblk g (by omega) hgl)
noncomputable def Sa : Code := .seq Qu (At (At (At (At IY))))
theorem Sq : ∃ i, Tryz.prog.info? 55 = some i ∧ i.zero = some (.slice none 0 0) ∧ i.size = 1 := by
 have h1 : (Tryz.prog.info? 55).map (·.zero) = some (some (.slice none 0 0)) := by kernel_rfl
 have h2 : (Tryz.prog.info? 55).map (·.size) = some 1 := by kernel_rfl
 cases h : Tryz.prog.info? 55 with
 | none => rw [h] at h1; cases h1
 | some i =>
  rw [h] at h1 h2
  exact ⟨i, rfl, Option.some.inj h1, Option.some.inj h2⟩
theorem OD (kT kC D L n m i j : Nat) (cost : List (List Int)) (taken : List Bool) (aoC : Option Addr) (ccC : Nat) (hl : cost.length = n) (hrl : ∀ r ∈ cost, r.length = m) (htl : taken.length = m) (hm0 : m ≤ 1000) (hn0 : n ≤ 1000) (hi : i < n) (hj : j < m) (hcap : n ≤ ccC) (hcc : ccC ≤ maxLen)
  (w : World) (hC : IsMat w (.slice aoC n ccC) cost) (hcl : ∀ W, Below L w W → IsMat W (.slice aoC n ccC) cost) (hbx : w.cell? ⟨kC, 0, none⟩ = some (.slice aoC n ccC)) (hkC : kC < L) (hT : w.cell? ⟨kT, 0, none⟩ = some (.slice (some ⟨D, 0, none⟩) m m)) (hkT : kT < L) (hBD : BB w D taken) (hD : D < L)
  (hL : LeftW L n m cost i j taken w 0 [] w) (e4 e5 e6 e7 e8 e9 ea eb ec ed ee ef eg eh ei ej ek el em en eo ep eq er es et eu ev ew ex ey ez eA eB eC eD eE eF eG eH eI eJ eK eL eM eN eO eP eQ eR eS eT eU eV eW eX eY eZ aa ab ac ad ae af ag ah ai aj ak al am an ao ap aq ar au av aw ax ay az aA aB aC aD aE aF aG aH aI aJ aK aL aM aN aO aP aQ aS aT aU aV aW aX aY : Value) (Q : Exit → Act → World → Prop) (X : Code)
  (hX : ∀ (w' : World) (hs : List Value) (aZ ba bb bc bd be bf bg bh bi bj bk bl bm bn bo bp bq br bs bt bu bv bw bx bz bA bB bD bE bF bG bH bI bJ : Value), LeftW L n m cost i j taken w (n - (i + 1)) hs w' → Code.wp Tryz.prog X Q { tmps := #[int i64 i, int i64 j, .pointer (some ⟨kT, 0, none⟩), .pointer (some ⟨kC, 0, none⟩), e4, e5, e6, e7, e8, e9, .slice (some ⟨L, 0, none⟩) (n - (i + 1)) n, ea, aZ, ba, bb, bc, ef, eg, eh, ei, ej, ek, el, em, en, eo, ep, eq, er, es, et, eu, ev, ew, ex, ey, ez, eA, eB, eC, bd, be, bf, bg, bh, bi, bj, bk, bl, bm, bn, bo, bp, bq, br, bs, bt, bu, bv, bw, bx, bz, bA, bB, bD, bE, bF, bG, bH, bI, bJ, ai, aj, ak, al, am, an, ao, ap, aq, ar, au, av, aw, ax, ay, az, aA, aB, aC, aD, aE, aF, aG, aH, aI, aJ, aK, aL, aM, aN, aO, aP, aQ, aS, aT, aU, aV, aW, aX, aY], defers := [] } w') :
  Code.wp Tryz.prog (.seq Ek X) Q { tmps := #[int i64 i, int i64 j, .pointer (some ⟨kT, 0, none⟩), .pointer (some ⟨kC, 0, none⟩), e4, e5, e6, e7, e8, e9, .slice (some ⟨L, 0, none⟩) 0 n, ea, eb, ec, ed, ee, ef, eg, eh, ei, ej, ek, el, em, en, eo, ep, eq, er, es, et, eu, ev, ew, ex, ey, ez, eA, eB, eC, eD, eE, eF, eG, eH, eI, eJ, eK, eL, eM, eN, eO, eP, eQ, eR, eS, eT, eU, eV, eW, eX, eY, eZ, aa, ab, ac, ad, ae, af, ag, ah, ai, aj, ak, al, am, an, ao, ap, aq, ar, au, av, aw, ax, ay, az, aA, aB, aC, aD, aE, aF, aG, aH, aI, aJ, aK, aL, aM, aN, aO, aP, aQ, aS, aT, aU, aV, aW, aX, aY], defers := [] } w := by
 have HX := qh hX; have HL := qh hL; have HCL := qh hcl; have HLN := qh hl; have HRL := qh hrl; have HTL := qh htl; have HBD := qh hBD; have HT := qh hT; have HD := qh hD; have HKT := qh hkT
 obtain ⟨bC, oC, rfl, _, _, _, _, hbC⟩ := hC.at_ (i := i) (by omega)
 have hmx : (maxLen : Nat) < 9223372036854775808 := by decide
 clear hX hL hcl hl hrl htl hBD hT hD hkT hC
 unfold Ek DQ
 conv => arg 2; arg 1; whnf
 have hle1 : (i : Int) + 1 ≤ (n : Int) := by omega
 have hle2 : (n : Int) ≤ (ccC : Int) := by omega
 by_cases hce : ccC = i + 1
 ·obtain rfl : n = i + 1 := by omega
  go_wp2_with fail
  go_loopw [10, 45] (fun lv iv wr => lv = .slice (some ⟨L, 0, none⟩) 0 (i + 1) ∧ iv = int i64 0 ∧ wr = w) (fun _ _ _ => 0)
  case atStart => exact ⟨rfl, rfl, rfl⟩
  case round =>
   obtain ⟨rfl, rfl, rfl⟩ := hrel
   go_wp2_with fail
   have HX2 := HX.out
   rw [Nat.sub_self] at HX2
   exact HX2 _ []  _ _ _ _ _ _ _ _ _ _ _ _ _ _ _ _ _ _ _ _ _ _ _ _ _ _ _ _ _ _ _ _ _ _ _ HL.out
 ·have hce2 : (ccC : Int) - ((i : Int) + 1) ≠ 0 := by omega
  go_wp2_with fail
  go_loopw [10, 45] (fun lv iv wr => ∃ (k : Nat) (hs : List Value), k ≤ n - (i + 1) ∧ lv = .slice (some ⟨L, 0, none⟩) k n ∧ iv = int i64 k ∧ Hid (LeftW L n m cost i j taken w k hs wr)) (fun _ iv _ => n - (intOf iv).toNat)
  case atStart => exact ⟨0, [], Nat.zero_le _, rfl, rfl, HL⟩
  case round =>
   clear HL
   obtain ⟨k, hs, hkn, rfl, rfl, hL⟩ := hrel
   have hb0 := hL.out.below
   by_cases hk : k < n - (i + 1)
   ·have hk' : (k : Int) < ((n - (i + 1) : Nat) : Int) := by omega
    have hk2 : (k : Int) < (n : Int) - ((i : Int) + 1) := by omega
    have hir : i + 1 + k < cost.length := by have := HLN.out; omega
    obtain ⟨b2, o2, e2, aR, cR, hcR, hrowR, hbR⟩ := (HCL.out wr hb0).at_ (i := i + 1 + k) hir
    cases e2
    have hbx2 : wr.cell? ⟨kC, 0, none⟩ = some (.slice (some ⟨bC, oC, none⟩) n ccC) := (hb0.cell (p := ⟨kC, 0, none⟩) hkC).trans hbx
    have hcR2 : wr.cell? ⟨bC, oC + (i + 1) + k, none⟩ = some (.slice aR (cost[i + 1 + k]?.getD []).length cR) := by rw [show oC + (i + 1) + k = oC + (i + 1 + k) by omega]; exact hcR
    have hrl2 : (cost[i + 1 + k]?.getD []).length = m := HRL.out _ (by rw [qg hir]; exact List.getElem_mem _)
    have HCR := qh hcR2
    clear hcR hcR2
    generalize hrow : cost[i + 1 + k]?.getD [] = row at *
    have HROW := qh hrow
    rw [hrl2] at HCR hrowR
    obtain ⟨bR, oR, rfl, _, _⟩ := hrowR.int (j := 0) (by omega)
    have hcells : ∀ q, q < row.length → wr.cell? ⟨bR, oR + q, none⟩ = some (int i64 (row.getD q 0)) := fun q hq => by
     obtain ⟨b3, o3, e3, h3, _⟩ := hrowR.int (j := q) hq
     cases e3
     rw [h3]; unfold gi; rw [List.getD_eq_getElem?_getD]
    have c67 := Tryz.slices_Clone_int bR oR m cR row wr (by omega) (by omega) hcells
    have c67b := c67.mono (R' := fun e w' => ∃ g cap, e = .returned (.slice (some ⟨g, 0, none⟩) m cap) ∧ Hid (wr.heap.size ≤ g ∧ g < w'.heap.size ∧ RI w' g row ∧ Below wr.heap.size wr w')) (by
     rintro e w' ⟨v', rfl, ho, _, hb⟩
     rw [show (row.take m).map (Value.int .i64) = As row by rw [List.take_of_length_le (by omega)]; rfl] at ho
     obtain ⟨g, cap, rfl, h1, h2, h3⟩ := SC (by omega) hrl2 ho
     exact ⟨g, cap, rfl, qh ⟨h1, h2, h3, hb⟩⟩)
    clear c67 hcells hrowR
    have hcR3 := HCR.out
    change Code.wp Tryz.prog (.seq (Bu Lk) (.seq (Bu (At Lk)) (.seq (.block 1 (.seq (Bu IY) (.seq (Bu (At IY)) (.seq (Bu (At (At IY))) Sa)))) (At (At (At Lk)))))) _ _ _
    go_wp2_with fail
    conv => arg 2; whnf
    go_wp2_with fail
    conv => arg 2; whnf
    go_wp2_with fail
    conv => arg 2; whnf
    go_wp2_with fail
    conv => arg 2; whnf
    go_wp2_with (go_at_call 48; refine c67b.mono ?_; rintro e w1 ⟨g, cap, rfl, hw1⟩)
    obtain ⟨hg0, hg1, hR1, hb1⟩ := hw1.out
    have cj := hR1.cell j (by omega)
    have fj := hR1.free j (by omega)
    have hj' : (j : Int) < (m : Int) := by omega
    generalize gi row j = xj at cj
    have HR1 := qh hR1; have HB1 := qh hb1; have HG0 := qh hg0
    clear hR1 hb1 hg0 hg1 hw1
    conv => arg 2; whnf
    go_wp2_with fail
    unfold Sa
    have hLs := hL.out.lt
    have hb2 : Below wr.heap.size wr (w1.setCell ⟨g, j, none⟩ (int i64 (-1))) := HB1.out.setCell (p := ⟨g, j, none⟩) HG0.out _
    have hbw2 : Below L w (w1.setCell ⟨g, j, none⟩ (int i64 (-1))) := hb0.trans (hb2.mono (by omega))
    have hT2 := (hbw2.cell (p := ⟨kT, 0, none⟩) HKT.out).trans HT.out
    have hBD2 : BB (w1.setCell ⟨g, j, none⟩ (int i64 (-1))) D taken := (hbw2.block D HD.out).trans HBD.out
    refine ON wr kT D g m cap j row taken hrl2 HTL.out hm0 wr.heap.size (by have := HD.out; omega) HG0.out (by have := HKT.out; omega) _ hb2 hT2 hBD2 (HR1.out.set j (by omega) (-1)) _ _ _ _ _ _ _ _ _ _ _ _ _ _ _ _ _ _ _ _ _ _ _ _ _ _ _ _ _ _ _ _ _ _ _ _ _ _ _ _ _ _ _ _ _ _ _ _ _ _ _ _ _ _ _ _ _ _ _ _ _ _ _ _ _ _ _ _ _ _ _ _ _ _ _ _ _ _ _ _ _ _ _ _ _ _ _ _ _ _ _ _ _ _ _ _ _ _ _ _ _ _ _ _ _ _ _ _ _ _ _ ?_
    intro w3 _ _ _ _ _ _ _ _ _ _ _ _ _ _ hb3 hR3 hO3
    have HB3 := qh hb3; have HR3 := qh hR3
    clear hb2 hbw2 hT2 hBD2 hb3 hR3 hO3
    obtain ⟨i79, hi79, _, hz79⟩ := Sq
    have hown3 : w3.ownsRow L 55 1 (.slice (some ⟨L, 0, none⟩) k n) k hs := Jv hL.out.own HB3.out (fun q hq => by cases hq; omega)
    have hown4 := hown3.alloc (.cells #[.slice (some ⟨g, 0, none⟩) m cap] 55)
    have HOWN := qh hown4
    clear hown3 hown4
    go_wp2_with fail
    conv => arg 2; whnf
    go_wp2_with (at_builtin; refine wpList_append_fits _ rfl (.tmp 66) (.tmp 68) 50 rfl L 55 i79 1 Tryz.underlying50 hi79 hz79 L k n hs rfl HOWN.out ⟨w3.heap.size, 0, none⟩ 1 1 [.slice (some ⟨g, 0, none⟩) m cap] rfl rfl (cell_one_new _ _ _) (by intro u hu; simp at hu; subst hu; rfl) (by omega) ?_; intro w4 hown5 hgrow4)
    have HL5 := qh (hL.out.step HB3.out HG0.out HR3.out HROW.out (by omega) hown5 hgrow4)
    clear hown5 hgrow4
    conv => arg 2; whnf
    go_wp2_with fail
    exact ⟨⟨k + 1, _, by omega, rfl, by go_num, HL5⟩, by simp [intOf]; omega⟩
   ·obtain rfl : k = n - (i + 1) := by omega
    have hk' : ¬ ((n - (i + 1) : Nat) : Int) < (n : Int) - ((i : Int) + 1) := by omega
    go_wp2_with fail
    exact HX.out _ _  _ _ _ _ _ _ _ _ _ _ _ _ _ _ _ _ _ _ _ _ _ _ _ _ _ _ _ _ _ _ _ _ _ _ _ hL.out
end
section
open Go Go.RowKit Go.Deep
noncomputable def Ie : Code := Bu (Ag 6 DQ)
theorem R7 (M : List (List Int)) (n' m : Nat) (to : List Int) (aoL : Option Addr) (cL T : Nat) (hM : M.length = n') (hrl : ∀ r ∈ M, r.length = m) (hto : to.length = n') (htr : ∀ r, r < n' → 0 ≤ gi to r ∧ gi to r < (m : Int)) (s0 : Int) (hs : ∀ k, k ≤ n' → -1099511627776 ≤ s0 + A6 (fun r => cI M r (gi to r).toNat) k ∧ s0 + A6 (fun r => cI M r (gi to r).toNat) k ≤ 1099511627776) (hn0 : n' ≤ 1000) (hm0 : m ≤ 1000)
  (w : World) (hC : IsMat w (.slice aoL n' cL) M) (hT : BI w T to) (e0 e1 e2 e3 e4 e5 e6 e7 e8 e9 ea eb ec ed ee ef eg eh ei ej ek el em en eo ep eq er es et eu ev ew ex ey ez eA eB eC eD eE eF eG eH eI eJ eK eL eM eN eO eP eQ eR eS eT eU eV eW eX eY eZ aa ab ac ad ae af ag ah ai aj ak al am an ao ap aq ar au av aw ax ay az aA aB aC aD aE aF aG aH aI aJ aK aL aM aN aO aP aQ aS aT aU aV aW : Value) (Q : Exit → Act → World → Prop) (X : Code)
  (hX : ∀ (aX aY aZ ba bb bc bd be bf bg bh bi bj bk bl bm bn bo bp : Value), Code.wp Tryz.prog X Q { tmps := #[e0, e1, e2, e3, e4, e5, e6, e7, e8, e9, .slice aoL n' cL, ea, eb, ec, ed, ee, .slice (some ⟨T, 0, none⟩) n' n', ef, eg, eh, int i64 (s0 + A6 (fun r => cI M r (gi to r).toNat) n'), aX, aY, ek, el, em, en, eo, ep, eq, er, es, et, eu, ev, ew, ex, ey, ez, eA, eB, eC, eD, eE, eF, eG, eH, eI, eJ, eK, eL, eM, eN, eO, eP, eQ, eR, eS, eT, eU, eV, eW, eX, eY, eZ, aa, ab, ac, ad, ae, af, ag, ah, ai, aj, ak, al, am, an, ao, ap, aq, ar, au, av, aw, ax, ay, aZ, ba, bb, bc, bd, be, bf, bg, bh, bi, bj, bk, bl, bm, bn, bo, bp, aQ, aS, aT, aU, aV, aW], defers := [] } w) :
  Code.wp Tryz.prog (.seq Ie X) Q { tmps := #[e0, e1, e2, e3, e4, e5, e6, e7, e8, e9, .slice aoL n' cL, ea, eb, ec, ed, ee, .slice (some ⟨T, 0, none⟩) n' n', ef, eg, eh, int i64 s0, ei, ej, ek, el, em, en, eo, ep, eq, er, es, et, eu, ev, ew, ex, ey, ez, eA, eB, eC, eD, eE, eF, eG, eH, eI, eJ, eK, eL, eM, eN, eO, eP, eQ, eR, eS, eT, eU, eV, eW, eX, eY, eZ, aa, ab, ac, ad, ae, af, ag, ah, ai, aj, ak, al, am, an, ao, ap, aq, ar, au, av, aw, ax, ay, az, aA, aB, aC, aD, aE, aF, aG, aH, aI, aJ, aK, aL, aM, aN, aO, aP, aQ, aS, aT, aU, aV, aW], defers := [] } w := by
 have HX := qh hX; have HC := qh hC; have HT := qh hT; have HS := qh hs; have HTR := qh htr; have HTO := qh hto; have HM := qh hM; have HRL := qh hrl
 clear hX hC hT hs htr hto hM hrl
 unfold Ie DQ
 conv => arg 2; arg 1; whnf
 go_wp2_with fail
 go_loopw [20, 90] (fun sv iv wr => ∃ k : Nat, k ≤ n' ∧ sv = int i64 (s0 + A6 (fun r => cI M r (gi to r).toNat) k) ∧ iv = int i64 k ∧ wr = w) (fun _ iv _ => n' - (intOf iv).toNat)
 case atStart => exact ⟨0, Nat.zero_le _, by show Value.int .i64 s0 = int i64 (s0 + 0); rw [Int.add_zero], rfl, rfl⟩
 case round =>
  obtain ⟨k, hkn, rfl, rfl, rfl⟩ := hrel
  by_cases hk : k < n'
  ·have hk' : (k : Int) < (n' : Int) := by omega
   have cT := HT.out.cell (j := k) (by rw [HTO.out]; exact hk)
   obtain ⟨ht0, htm⟩ := HTR.out k hk
   have hb1 := HS.out k hkn
   have hb2 := HS.out (k + 1) hk
   have hstep : s0 + A6 (fun r => cI M r (gi to r).toNat) (k + 1) = s0 + A6 (fun r => cI M r (gi to r).toNat) k + cI M k (gi to k).toNat := by
    show s0 + (_ + _) = _
    rw [Int.add_assoc]
   have HST := qh hstep
   rw [hstep] at hb2
   generalize s0 + A6 (fun r => cI M r (gi to r).toNat) k = sk at *
   obtain ⟨q, hq⟩ : ∃ q : Nat, gi to k = (q : Int) := ⟨(gi to k).toNat, by omega⟩
   rw [hq] at cT htm hb2 HST hstep
   have hkl : k < M.length := by have := HM.out; omega
   obtain ⟨b1, o1, rfl, aR, cR, cH, hrow, _⟩ := HC.out.at_ hkl
   have hrl2 : (M[k]?.getD []).length = m := HRL.out _ (by rw [qg hkl]; exact List.getElem_mem _)
   have hcell : cI M k ((q : Int)).toNat = gi (M[k]?.getD []) q := rfl
   rw [hcell] at hb2 HST
   generalize M[k]?.getD [] = row at cH hrow hrl2 hb2 HST
   rw [hrl2] at cH hrow
   obtain ⟨b2, o2, rfl, cX, _⟩ := hrow.int (j := q) (by omega)
   generalize gi row q = xq at cX hb2 HST
   have hlo : -9223372036854775808 ≤ sk + xq := by omega
   have hhi : sk + xq ≤ 9223372036854775807 := by omega
   clear hstep hcell hq hrow
   go_wp2_with fail
   exact ⟨⟨k + 1, by omega, by rw [HST.out], by go_num, trivial⟩, by simp [intOf]; omega⟩
  ·obtain rfl : k = n' := by omega
   have hk' : ¬ (k : Int) < (k : Int) := by omega
   go_wp2_with fail
   exact HX.out _ _ _ _ _ _ _ _ _ _ _ _ _ _ _ _ _ _ _
end
section
open Go Go.RowKit Go.Deep
noncomputable def Lz : Code := A8 2 (Ag 4 DQ) (.seq Ie (Ag 7 DQ))
theorem Fq : (Tryz.prog.info? 55).map (fun i => (i.zero, i.size, i.bytes)) = some (some (.slice none 0 0), 1, 24) := by kernel_rfl
theorem LeftW.mat {L n m : Nat} {cost : List (List Int)} {i j : Nat} {taken : List Bool} {w wr : World} {hs : List Value} (h : LeftW L n m cost i j taken w (n - (i + 1)) hs wr) (hl : cost.length = n) (hrl : ∀ r ∈ cost, r.length = m) (htl : taken.length = m) (hm : m ≤ 1000) (hn : n ≤ 1000) :
  IsMat wr (.slice (some ⟨L, 0, none⟩) (n - (i + 1)) n) (Bz cost i j taken) := by
 have hrow : ∀ r, r < n - (i + 1) → (cost[i + 1 + r]?.getD []).length = m := fun r hr => hrl _ (by rw [qg (by omega)]; exact List.getElem_mem _)
 refine ⟨hs, ?_, by rw [h.len, D0, hl], ?_⟩
 ·refine ⟨some ⟨L, 0, none⟩, n, by rw [h.len], by rw [h.len]; simp only [maxLen]; omega, ?_⟩
  refine Or.inr ⟨L, 0, rfl, ?_, h.lt⟩
  intro q x hx k v hv
  have hq := (ql.1 hx).1
  rcases k with _ | k
  ·obtain rfl : x = v := by simpa [G9] using hv
   rw [Nat.zero_add, Nat.mul_one, Nat.add_zero]
   obtain ⟨_, h2 | ⟨g, cap, cur, e, hb, hg, hn, _, hs2, ht⟩⟩ := h.own
   ·have := h.len; omega
   ·injection e with e1 _ _
    injection e1 with e1
    injection e1 with e1 _ _
    subst e1
    refine A0 hg q ?_
    have hq2 : (cur.toList.take ((n - (i + 1)) * 1))[q]? = hs[q]? := by rw [ht]
    rw [List.getElem?_take, if_pos (by have := h.len; omega)] at hq2
    rw [← Array.getElem?_toList, hq2, hx]
  ·simp [G9] at hv
 ·intro r x row hx hr
  have hq : r < n - (i + 1) := by have := (ql.1 hx).1; have := h.len; omega
  obtain ⟨g, cap, e, _, hg, hR⟩ := h.rows r hq
  rw [hx] at e
  obtain rfl := Option.some.inj e
  rw [FZ (by omega)] at hr
  obtain rfl := Option.some.inj hr
  rw [htl]
  exact hR.row (by rw [CG]; exact hrow r hq) hm hg
end
section
open Go Go.RowKit Go.Deep
theorem Below.drewN {B : Nat} {a w : World} (h : Below B a w) (k : Nat) : Below B a (w.drewN k) := ⟨h.os, h.tape, h.output, h.size, h.block⟩
def Se (CH : Prop) (w : World) (e : Ending) (w' : World) : Prop := ∃ b : Bool, e = .returned (.bool b) ∧ (b = true ↔ CH) ∧ Below w.heap.size w w'
structure CheapW (kT kC kM kS kB D n m : Nat) (cost : List (List Int)) (taken : List Bool) (aoC : Option Addr) (ccC : Nat) (spent best : Int) (w : World) : Prop where
 mat : IsMat w (.slice aoC n ccC) cost
 boxC : w.cell? ⟨kC, 0, none⟩ = some (.slice aoC n ccC)
 boxT : w.cell? ⟨kT, 0, none⟩ = some (.slice (some ⟨D, 0, none⟩) m m)
 boxM : w.cell? ⟨kM, 0, none⟩ = some (int i64 m)
 boxS : w.cell? ⟨kS, 0, none⟩ = some (int i64 spent)
 boxB : w.cell? ⟨kB, 0, none⟩ = some (int i64 best)
 tk : BB w D taken
 ltC : kC < w.heap.size
 ltT : kT < w.heap.size
 ltM : kM < w.heap.size
 ltS : kS < w.heap.size
 ltB : kB < w.heap.size
theorem O2 (kT kC kM kS kB D n m i j : Nat) (cost : List (List Int)) (taken : List Bool) (aoC : Option Addr) (ccC : Nat) (spent best : Int) (p : Nat → Nat) (hl : cost.length = n) (hrl : ∀ r ∈ cost, r.length = m) (htl : taken.length = m) (hm : m ≤ 16) (hn : n ≤ 16) (hi : i < n) (hj : j < m) (hcap : n ≤ ccC) (hcc : ccC ≤ maxLen)
  (hc : ∀ r k, cI cost r k ≤ AV) (hc0 : ∀ r k, -1 ≤ cI cost r k) (hsp : spent = A6 (fun r => cI cost r (p r)) i) (hp : PrefOk m (cI cost) i p taken) (hbest : ∀ t, CastN n m (cI cost) t → best ≤ A6 (fun r => cI cost r (t r)) n)
  (w : World) (hW : CheapW kT kC kM kS kB D n m cost taken aoC ccC spent best w) :
  Calls Tryz.prog 47 #[int i64 i, int i64 j, .pointer (some ⟨kT, 0, none⟩), .pointer (some ⟨kC, 0, none⟩), .pointer (some ⟨kM, 0, none⟩), .pointer (some ⟨kS, 0, none⟩), .pointer (some ⟨kB, 0, none⟩)] w (Se (AU n m (cI cost) i j p best) w) := by
 have h0 : (gb taken j = true ∨ cI cost i j < 0) → ¬ AU n m (cI cost) i j p best := fun h => O5 hp hi hj h
 have hLO : En n m (cI cost) (cI (Bz cost i j taken)) i j taken := by rw [← hl]; exact LR hrl hj htl
 have hN : IJ (n - (i + 1)) m (cI (Bz cost i j taken)) → ¬ AU n m (cI cost) i j p best := fun h => Mv hp hi hLO h
 have hY : gb taken j = false → 0 ≤ cI cost i j → ∀ s, SolOk (n - (i + 1)) m (cI (Bz cost i j taken)) s → (AU n m (cI cost) i j p best ↔ spent + cI cost i j + A6 (fun r => cI (Bz cost i j taken) r (gi s.to r).toNat) (n - (i + 1)) = best) := fun h1 h2 s hs => by
  rw [hsp]; exact NV hbest hp hi hj h1 h2 hLO hs
 have hspb : 0 ≤ spent ∧ spent ≤ 17179869184 := by
  have hA : ∀ k, k ≤ i → 0 ≤ A6 (fun r => cI cost r (p r)) k ∧ A6 (fun r => cI cost r (p r)) k ≤ 1048576 * (k : Int) := by
   intro k
   induction k with
   | zero => intro _; exact ⟨Int.le_refl _, Int.le_refl _⟩
   | succ k ih =>
    intro hk
    have h1 := ih (by omega)
    have h2 := hp.ok k (by omega)
    have h3 : cI cost k (p k) ≤ 1048576 := hc k (p k)
    unfold A6
    omega
  have := hA i (qn _)
  rw [hsp]; omega
 obtain ⟨hb1, hb2⟩ := Ki (i := i) hrl hj htl hc hc0
 have H0 := qh h0; have HN := qh hN; have HY := qh hY; have HB1 := qh hb1; have HB2 := qh hb2; have HW := qh hW; have HL := qh hl; have HRL := qh hrl; have HTL := qh htl
 have hij : -1 ≤ cI cost i j ∧ cI cost i j ≤ 1048576 := ⟨hc0 i j, hc i j⟩
 have hboxC := hW.boxC; have hboxT := hW.boxT
 have cT := hW.tk.cell (j := j) (by omega)
 obtain ⟨b1, o1, rfl, aR, cR, cH, hrow, hlt1⟩ := hW.mat.at_ (i := i) (by omega)
 have hrl2 : (cost[i]?.getD []).length = m := hrl _ (by rw [qg (by omega)]; exact List.getElem_mem _)
 rw [hrl2] at cH hrow
 obtain ⟨b2, o2, rfl, cX, hlt2⟩ := hrow.int (j := j) (by omega)
 have cX2 : w.cell? ⟨b2, o2 + j, none⟩ = some (int i64 (cI cost i j)) := cX
 have hlc := HW.out.ltC
 clear hrow cX h0 hN hY hb1 hb2 hW hl hrl htl hLO hp hbest hsp hc hc0 hrl2
 have hmx : (maxLen : Nat) < 9223372036854775808 := by decide
 have hi' : (i : Int) < (n : Int) := by omega
 have hj' : (j : Int) < (m : Int) := by omega
 generalize AU n m (cI cost) i j p best = CH at *
 generalize hx : cI cost i j = xij at *
 cases htk : gb taken j with
 | true =>
  rw [htk] at cT
  have hno : ¬ CH := H0.out (Or.inl htk)
  have HNO := qh hno
  clear hno
  go_enter Tryz.func47, Tryz.ntmps47
  go_wp2_with fail
  go_ret
  exact ⟨false, rfl, by simp [HNO.out], Below.refl _ _⟩
 | false =>
  rw [htk] at cT
  by_cases hx0 : xij < 0
  ·have hno : ¬ CH := H0.out (Or.inr hx0)
   have HNO := qh hno
   clear hno
   go_enter Tryz.func47, Tryz.ntmps47
   go_wp2_with fail
   go_ret
   exact ⟨false, rfl, by simp [HNO.out], Below.refl _ _⟩
  ·have HTK := qh htk
   clear htk H0
   go_enter Tryz.func47, Tryz.ntmps47
   change Code.wp Tryz.prog (A8 3 DQ (.seq Ek Lz)) _ _ _
   conv => arg 2; whnf
   go_wp2_with fail
   conv => arg 2; whnf
   go_wp2_with fail
   conv => arg 2; whnf
   obtain ⟨i79, hi79, hz0, hz1, hz2⟩ := info_parts Fq
   go_wp2_with (at_make; refine wpList_make_own _ rfl _ _ 50 rfl w.heap.size 55 i79 (.slice none 0 0) 1 Tryz.underlying50 hi79 hz0 hz1 _ _ _ n rfl rfl rfl (by rw [hz2]; omega) (by simp only [maxLen]; omega) (qn _) ?_; intro w1 hown1 hgrow1)
   have hb1 : Below w.heap.size w w1 := ⟨hgrow1.os, hgrow1.tape, hgrow1.output, hgrow1.size, fun k hk => hgrow1.block k hk (by simp)⟩
   have hL1 : w.heap.size < w1.heap.size := by
    obtain ⟨_, ⟨h2, _⟩ | ⟨g, cap, cur, e, hb, hg, _⟩⟩ := hown1
    ·cases h2
    ·have := (qs.1 hg).1; omega
   have hLW : LeftW w.heap.size n m cost i j taken w1 0 [] w1 := ⟨Below.refl _ _, hL1, hown1, rfl, fun r hr => by omega⟩
   have HLW := qh hLW; have HBL := qh hb1
   clear hLW hown1 hgrow1
   refine OD kT kC D w.heap.size n m i j cost taken _ ccC HL.out HRL.out HTL.out (by omega) (by omega) hi hj hcap hcc w1 (HW.out.mat.below hb1 (qn _)) (fun W hWW => HW.out.mat.below (hb1.trans hWW) (qn _)) ((hb1.cell (p := ⟨kC, 0, none⟩) HW.out.ltC).trans HW.out.boxC) HW.out.ltC ((hb1.cell (p := ⟨kT, 0, none⟩) HW.out.ltT).trans HW.out.boxT) HW.out.ltT ((hb1.block D HW.out.tk.lt).trans HW.out.tk) HW.out.tk.lt HLW.out _ _ _ _ _ _ _ _ _ _ _ _ _ _ _ _ _ _ _ _ _ _ _ _ _ _ _ _ _ _ _ _ _ _ _ _ _ _ _ _ _ _ _ _ _ _ _ _ _ _ _ _ _ _ _ _ _ _ _ _ _ _ _ _ _ _ _ _ _ _ _ _ _ _ _ _ _ _ _ _ _ _ _ _ _ _ _ _ _ _ _ _ _ _ _ _ _ _ _ _ _ _ _ _ _ _ _ _ ?_
   intro w2 hs _ _ _ _ _ _ _ _ _ _ _ _ _ _ _ _ _ _ _ _ _ _ _ _ _ _ _ _ _ _ _ _ _ _ _ hLW2
   have hbw2 : Below w.heap.size w w2 := HBL.out.trans hLW2.below
   have hmat := hLW2.mat HL.out HRL.out HTL.out (by omega) (by omega)
   obtain ⟨res, _, hres, c65⟩ := Ey (Bz cost i j taken) (some ⟨w.heap.size, 0, none⟩) n m w2 (by rw [D0, HL.out]; exact hmat) (LA HRL.out) (by rw [D0, HL.out]; omega) hm HB1.out HB2.out
   rw [D0, HL.out] at hres c65
   have HRES := qh hres; have HMAT := qh hmat; have HW2 := qh hbw2
   have cM := (hbw2.cell (p := ⟨kM, 0, none⟩) HW.out.ltM).trans HW.out.boxM
   clear hres hmat hLW2 HLW
   unfold Lz DQ
   conv => arg 2; whnf
   go_wp2_with (go_at_call 46; refine c65.mono ?_)
   have key : ∀ w3, Below w2.heap.size w2 w3 → Below w.heap.size w w3 := fun w3 h => hbw2.trans (h.mono hbw2.size)
   cases res with
   | none =>
    rintro e w3 ⟨rfl, hb3⟩
    have hb30 := key w3 hb3
    have hno : ¬ CH := HN.out HRES.out
    have HNO := qh hno
    have cS3 := (hb30.cell (p := ⟨kS, 0, none⟩) HW.out.ltS).trans HW.out.boxS
    have cC3 := (hb30.cell (p := ⟨kC, 0, none⟩) HW.out.ltC).trans HW.out.boxC
    have cH3 := (hb30.cell (p := ⟨b1, o1 + i, none⟩) hlt1).trans cH
    have cX3 := (hb30.cell (p := ⟨b2, o2 + j, none⟩) hlt2).trans cX2
    have H3 := qh hb30
    clear hno hb30 hb3 key hbw2 c65
    go_wp2_with fail
    conv => arg 2; whnf
    go_wp2_with fail
    go_quiet (fail)
    go_wp2_with fail
    conv => arg 2; whnf
    go_wp2_with fail
    conv => arg 2; whnf
    go_wp2_with fail
    go_loopw [90] (fun iv wr => iv = int i64 0 ∧ Hid (Below w.heap.size w wr)) (fun _ _ => 0)
    case atStart => exact ⟨rfl, qh (Below.drewN H3.out _)⟩
    case round =>
     obtain ⟨rfl, hB⟩ := hrel
     go_wp2_with fail
     conv => arg 2; whnf
     go_wp2_with fail
     go_ret
     exact ⟨false, rfl, by simp [HNO.out], hB.out⟩
   | some s =>
    rintro e w3 ⟨T, U, V, rfl, hT, _, _, ⟨hT2, _, _⟩, hb3⟩
    have hb30 := key w3 hb3
    have hok : SolOk (n - (i + 1)) m (cI (Bz cost i j taken)) s := HRES.out
    have hiff := HY.out HTK.out (by omega) s hok
    have cS3 := (hb30.cell (p := ⟨kS, 0, none⟩) HW.out.ltS).trans HW.out.boxS
    have cB3 := (hb30.cell (p := ⟨kB, 0, none⟩) HW.out.ltB).trans HW.out.boxB
    have cC3 := (hb30.cell (p := ⟨kC, 0, none⟩) HW.out.ltC).trans HW.out.boxC
    have cH3 := (hb30.cell (p := ⟨b1, o1 + i, none⟩) hlt1).trans cH
    have cX3 := (hb30.cell (p := ⟨b2, o2 + j, none⟩) hlt2).trans cX2
    have HM3 := qh (HMAT.out.below hb3 (qn _))
    have hsum : ∀ k, k ≤ n - (i + 1) → -1048576 * (k : Int) ≤ A6 (fun r => cI (Bz cost i j taken) r (gi s.to r).toNat) k ∧ A6 (fun r => cI (Bz cost i j taken) r (gi s.to r).toNat) k ≤ 1048576 * (k : Int) := by
     intro k
     induction k with
     | zero => intro _; exact ⟨Int.le_refl _, Int.le_refl _⟩
     | succ k ih =>
      intro hk
      have h1 := ih (by omega)
      have h2 := HB2.out k (gi s.to k).toNat
      have h3 : cI (Bz cost i j taken) k (gi s.to k).toNat ≤ 1048576 := HB1.out k _
      unfold A6
      omega
    have HSUM := qh hsum; have HIFF := qh hiff; have HT := qh hT; have HOK := qh hok; have H3 := qh hb30
    clear hsum hiff hT hok hb30 hb3 key hbw2 c65 HRES HY
    go_wp2_with fail
    conv => arg 2; whnf
    go_wp2_with fail
    go_quiet (fail)
    go_wp2_with fail
    conv => arg 2; whnf
    refine R7 (Bz cost i j taken) (n - (i + 1)) m s.to _ n T (by rw [D0, HL.out]) (LA HRL.out) HOK.out.lt (fun r hr => by obtain ⟨q, hq, e, _⟩ := HOK.out.cast r hr; omega) (spent + xij) (fun k hk => by have := HSUM.out k hk; omega) (by omega) (by omega) _ (HM3.out.below (Below.drewN (Below.refl _ w3) _) (qn _)) HT.out _ _ _ _ _ _ _ _ _ _ _ _ _ _ _ _ _ _ _ _ _ _ _ _ _ _ _ _ _ _ _ _ _ _ _ _ _ _ _ _ _ _ _ _ _ _ _ _ _ _ _ _ _ _ _ _ _ _ _ _ _ _ _ _ _ _ _ _ _ _ _ _ _ _ _ _ _ _ _ _ _ _ _ _ _ _ _ _ _ _ _ _ _ _ _ _ _ _ _ _ _ _ _ _ _ _ _ _ _ _ ?_
    intro _ _ _ _ _ _ _ _ _ _ _ _ _ _ _ _ _ _ _
    have HC3 := qh (Below.drewN H3.out nq)
    have cB4 : (w3.drewN nq).cell? ⟨kB, 0, none⟩ = some (int i64 best) := cB3
    conv => arg 2; whnf
    have hsb := HSUM.out _ (qn _)
    have HIF := HIFF.out
    clear HIFF HSUM HOK HM3 cB3 cX3 cH3 cC3 cS3
    generalize A6 (fun r => cI (Bz cost i j taken) r (gi s.to r).toNat) (n - (i + 1)) = sm at *
    have HI := qh HIF
    clear HIF
    by_cases he : spent + xij + sm = best
    ·have hd : ((spent + xij + sm) == best) = true := by simp [he]
     go_wp2_with fail
     go_ret
     exact ⟨true, rfl, by simp [HI.out, he], HC3.out⟩
    ·have hd : ((spent + xij + sm) == best) = false := by simp [he]
     go_wp2_with fail
     go_ret
     exact ⟨false, rfl, by simp [HI.out, he], HC3.out⟩
end
section
open Go Go.RowKit Go.Deep
noncomputable def DM : Code := (Tryz.f20.body).getD .skip
noncomputable def Hp : Code := Bu (Ag 5 DM)
theorem Ob (cost : List (List Int)) (n m : Nat) (own : List Int) (aoC : Option Addr) (ccC T kC kB B : Nat) (hl : cost.length = n) (hrl : ∀ r ∈ cost, r.length = m) (hto : own.length = n) (htr : ∀ r, r < n → 0 ≤ gi own r ∧ gi own r < (m : Int)) (hs : ∀ k, k ≤ n → -1099511627776 ≤ A6 (fun r => cI cost r (gi own r).toNat) k ∧ A6 (fun r => cI cost r (gi own r).toNat) k ≤ 1099511627776) (hn0 : n ≤ 1000)
  (w : World) (hcl : ∀ W, Below B w W → IsMat W (.slice aoC n ccC) cost) (hT : BI w T own) (hC : w.cell? ⟨kC, 0, none⟩ = some (.slice aoC n ccC)) (hne : kC ≠ kB) (hne2 : T ≠ kB) (hB : B ≤ kB) (h0 : w.cell? ⟨kB, 0, none⟩ = some (int i64 0)) (hf : w.frozen? ⟨kB, 0, none⟩ = false) (e0 e2 e4 e5 e6 e8 e9 ea eb ec ed ee ef eg eh ei ej ek el em en eo ep eq er es et eu ev ew ex ey ez eA eB eC eD eE eF eG eH eI eJ eK eL eM eN eO eP eQ eR eS eT eU eV eW eX eY eZ aa ab ac ad ae af ag ah ai aj ak al am an ao ap aq ar au av aw ax ay : Value) (Q : Exit → Act → World → Prop) (X : Code)
  (hX : ∀ (w' : World) (az aA aB aC aD aE aF aG aH aI aJ aK aL aM aN aO aP aQ aS : Value), Below B w w' → (∀ h, h ≠ kB → w'.heap[h]? = w.heap[h]?) → w'.cell? ⟨kB, 0, none⟩ = some (int i64 (A6 (fun r => cI cost r (gi own r).toNat) n)) → w'.frozen? ⟨kB, 0, none⟩ = false → Code.wp Tryz.prog X Q { tmps := #[e0, .pointer (some ⟨kC, 0, none⟩), e2, .pointer (some ⟨kB, 0, none⟩), e4, e5, e6, .slice (some ⟨T, 0, none⟩) n n, e8, e9, az, aA, ec, ed, ee, ef, eg, eh, ei, ej, ek, el, em, en, eo, ep, eq, er, es, et, eu, ev, ew, ex, aB, aC, aD, aE, aF, aG, aH, aI, aJ, aK, aL, aM, aN, aO, aP, aQ, aS, eP, eQ, eR, eS, eT, eU, eV, eW, eX, eY, eZ, aa, ab, ac, ad, ae, af, ag, ah, ai, aj, ak, al, am, an, ao, ap, aq, ar, au, av, aw, ax, ay], defers := [] } w') :
  Code.wp Tryz.prog (.seq Hp X) Q { tmps := #[e0, .pointer (some ⟨kC, 0, none⟩), e2, .pointer (some ⟨kB, 0, none⟩), e4, e5, e6, .slice (some ⟨T, 0, none⟩) n n, e8, e9, ea, eb, ec, ed, ee, ef, eg, eh, ei, ej, ek, el, em, en, eo, ep, eq, er, es, et, eu, ev, ew, ex, ey, ez, eA, eB, eC, eD, eE, eF, eG, eH, eI, eJ, eK, eL, eM, eN, eO, eP, eQ, eR, eS, eT, eU, eV, eW, eX, eY, eZ, aa, ab, ac, ad, ae, af, ag, ah, ai, aj, ak, al, am, an, ao, ap, aq, ar, au, av, aw, ax, ay], defers := [] } w := by
 have HX := qh hX; have HCL := qh hcl; have HT := qh hT; have HS := qh hs; have HTR := qh htr; have HTO := qh hto; have HL := qh hl; have HRL := qh hrl; have HC := qh hC; have H0 := qh h0; have HF := qh hf
 clear hX hcl hT hs htr hto hl hrl hC h0 hf
 unfold Hp DM
 conv => arg 2; arg 1; whnf
 go_wp2_with fail
 go_loopw [36] (fun iv wr => ∃ k : Nat, k ≤ n ∧ iv = int i64 k ∧ Hid (Below B w wr) ∧ Hid (∀ h, h ≠ kB → wr.heap[h]? = w.heap[h]?) ∧ Hid (wr.cell? ⟨kB, 0, none⟩ = some (int i64 (A6 (fun r => cI cost r (gi own r).toNat) k))) ∧ Hid (wr.frozen? ⟨kB, 0, none⟩ = false)) (fun iv _ => n - (intOf iv).toNat)
 case atStart => exact ⟨0, Nat.zero_le _, rfl, qh (Below.refl _ _), qh (fun _ _ => rfl), H0, HF⟩
 case round =>
  clear H0 HF
  obtain ⟨k, hkn, rfl, hBl, hO, hcB, hfB⟩ := hrel
  by_cases hk : k < n
  ·have hk' : (k : Int) < (n : Int) := by omega
   have cT := BI.cell (w := wr) ((hO.out T hne2).trans HT.out) (j := k) (by rw [HTO.out]; exact hk)
   have cC : wr.cell? ⟨kC, 0, none⟩ = some (.slice aoC n ccC) := (World.cell?_of_block (w := w) (hO.out kC hne)).trans HC.out
   obtain ⟨ht0, htm⟩ := HTR.out k hk
   have hb1 := HS.out k hkn
   have hb2 := HS.out (k + 1) hk
   have hstep : A6 (fun r => cI cost r (gi own r).toNat) (k + 1) = A6 (fun r => cI cost r (gi own r).toNat) k + cI cost k (gi own k).toNat := rfl
   have HST := qh hstep
   rw [hstep] at hb2
   have cB := hcB.out
   have fB := hfB.out
   generalize A6 (fun r => cI cost r (gi own r).toNat) k = sk at *
   obtain ⟨q, hq⟩ : ∃ q : Nat, gi own k = (q : Int) := ⟨(gi own k).toNat, by omega⟩
   rw [hq] at cT htm hb2 HST hstep
   have hkl : k < cost.length := by have := HL.out; omega
   obtain ⟨b1, o1, rfl, aR, cR, cH, hrow, _⟩ := (HCL.out wr hBl.out).at_ hkl
   have hrl2 : (cost[k]?.getD []).length = m := HRL.out _ (by rw [qg hkl]; exact List.getElem_mem _)
   have hcell : cI cost k ((q : Int)).toNat = gi (cost[k]?.getD []) q := rfl
   rw [hcell] at hb2 HST
   generalize cost[k]?.getD [] = row at cH hrow hrl2 hb2 HST
   rw [hrl2] at cH hrow
   obtain ⟨b2, o2, rfl, cX, _⟩ := hrow.int (j := q) (by omega)
   generalize gi row q = xq at cX hb2 HST
   have hlo : -9223372036854775808 ≤ sk + xq := by omega
   have hhi : sk + xq ≤ 9223372036854775807 := by omega
   clear hstep hcell hq hrow hcB hfB
   go_wp2_with fail
   refine Cf (fun w2 => w2 = wr.drew) 9 (by kernel_rfl) (by kernel_rfl) rfl ?_
   intro w2 hS2
   subst hS2
   simp only [List.take_succ_cons, List.take_zero, List.drop_succ_cons, List.drop_zero]
   repeat still_step
   refine wpStill_nil ?_
   go_wp2_with fail
   have HBn := qh ((hBl.out.setCell (p := ⟨kB, 0, none⟩) hB (int i64 (sk + xq))).drew)
   have HOn := qh (fun h (hh : h ≠ kB) => (heap_setCell (w := wr) (a := ⟨kB, 0, none⟩) (v := int i64 (sk + xq)) hh).trans (hO.out h hh))
   have hcn : (wr.setCell ⟨kB, 0, none⟩ (int i64 (sk + xq))).cell? ⟨kB, 0, none⟩ = some (int i64 (sk + xq)) := World.cell?_setCell_same _ _ _ cB
   have hfn : (wr.setCell ⟨kB, 0, none⟩ (int i64 (sk + xq))).frozen? ⟨kB, 0, none⟩ = false := by rw [World.frozen?_setCell]; exact fB
   have HCn := qh hcn; have HFn := qh hfn
   exact ⟨⟨k + 1, by omega, by go_num, HBn, HOn, qh (by rw [HST.out]; exact HCn.out), HFn⟩, by simp [intOf]; omega⟩
  ·obtain rfl : k = n := by omega
   have hk' : ¬ (k : Int) < (k : Int) := by omega
   go_wp2_with fail
   exact HX.out _ _ _ _ _ _ _ _ _ _ _ _ _ _ _ _ _ _ _ _ hBl.out hO.out hcB.out hfB.out
end
section
open Go Go.RowKit Go.Deep
structure BestA (B Z kT kC kM kS kB D : Nat) : Prop where
 ts : kT ≠ kS
 cs : kC ≠ kS
 ms : kM ≠ kS
 bs : kB ≠ kS
 ds : D ≠ kS
 td : kT ≠ D
 cd : kC ≠ D
 md : kM ≠ D
 sd : kS ≠ D
 bd : kB ≠ D
 lt : kT < Z ∧ kC < Z ∧ kM < Z ∧ kS < Z ∧ kB < Z ∧ D < Z
 own : B ≤ kS ∧ B ≤ D ∧ B ≤ Z
structure BestW (B Z : Nat) (w0 : World) (kT kC kM kS kB D n m : Nat) (taken : List Bool) (aoC : Option Addr) (ccC : Nat) (spent best : Int) (v : Value) (i : Nat) (to : List Int) (w : World) : Prop where
 below : Below B w0 w
 boxC : w.cell? ⟨kC, 0, none⟩ = some (.slice aoC n ccC)
 boxT : w.cell? ⟨kT, 0, none⟩ = some (.slice (some ⟨D, 0, none⟩) m m)
 boxM : w.cell? ⟨kM, 0, none⟩ = some (int i64 m)
 boxS : w.cell? ⟨kS, 0, none⟩ = some (int i64 spent)
 boxB : w.cell? ⟨kB, 0, none⟩ = some (int i64 best)
 tk : BB w D taken
 freeS : w.frozen? ⟨kS, 0, none⟩ = false
 freeB : w.frozen? ⟨kB, 0, none⟩ = false
 size : Z ≤ w.heap.size
 own : w.ownsRow Z 3 1 v i (As to)
section
variable {B Z : Nat} {w0 : World} {kT kC kM kS kB D n m : Nat} {taken : List Bool} {aoC : Option Addr} {ccC : Nat} {spent best : Int} {v : Value} {i : Nat} {to : List Int} {w w' : World}
theorem BestW.cheap (h : BestW B Z w0 kT kC kM kS kB D n m taken aoC ccC spent best v i to w) (ha : BestA B Z kT kC kM kS kB D) (cost : List (List Int)) (hcl : ∀ W, Below B w0 W → IsMat W (.slice aoC n ccC) cost) : CheapW kT kC kM kS kB D n m cost taken aoC ccC spent best w := by
 have hs := h.size
 obtain ⟨l1, l2, l3, l4, l5, l6⟩ := ha.lt
 exact ⟨hcl w h.below, h.boxC, h.boxT, h.boxM, h.boxS, h.boxB, h.tk, by omega, by omega, by omega, by omega, by omega⟩
theorem BestW.keep (h : BestW B Z w0 kT kC kM kS kB D n m taken aoC ccC spent best v i to w) (ha : BestA B Z kT kC kM kS kB D) (hb : Below Z w w') {v' : Value} {i' : Nat} {to' : List Int} (ho : w'.ownsRow Z 3 1 v' i' (As to')) : BestW B Z w0 kT kC kM kS kB D n m taken aoC ccC spent best v' i' to' w' := by
 obtain ⟨l1, l2, l3, l4, l5, l6⟩ := ha.lt
 have hs := h.size
 refine ⟨h.below.trans (hb.mono ha.own.2.2), (hb.cell (p := ⟨kC, 0, none⟩) l2).trans h.boxC, (hb.cell (p := ⟨kT, 0, none⟩) l1).trans h.boxT, (hb.cell (p := ⟨kM, 0, none⟩) l3).trans h.boxM, (hb.cell (p := ⟨kS, 0, none⟩) l4).trans h.boxS, (hb.cell (p := ⟨kB, 0, none⟩) l5).trans h.boxB, (hb.block D l6).trans h.tk, (hb.frozen (p := ⟨kS, 0, none⟩) l4).trans h.freeS, (hb.frozen (p := ⟨kB, 0, none⟩) l5).trans h.freeB, Nat.le_trans hs hb.size, ho⟩
theorem BestW.call (h : BestW B Z w0 kT kC kM kS kB D n m taken aoC ccC spent best v i to w) (ha : BestA B Z kT kC kM kS kB D) (hb : Below w.heap.size w w') : BestW B Z w0 kT kC kM kS kB D n m taken aoC ccC spent best v i to w' := by
 refine h.keep ha (hb.mono h.size) (DO h.own hb)
theorem BestW.spend (h : BestW B Z w0 kT kC kM kS kB D n m taken aoC ccC spent best v i to w) (ha : BestA B Z kT kC kM kS kB D) (x : Int) : BestW B Z w0 kT kC kM kS kB D n m taken aoC ccC x best v i to (w.setCell ⟨kS, 0, none⟩ (int i64 x)) := by
 obtain ⟨l1, l2, l3, l4, l5, l6⟩ := ha.lt
 have hne : ∀ {g : Nat} {u : Value}, g ≠ kS → w.cell? ⟨g, 0, none⟩ = some u → (w.setCell ⟨kS, 0, none⟩ (int i64 x)).cell? ⟨g, 0, none⟩ = some u := fun hg hc => (World.cell?_of_block (w := w) (heap_setCell (a := ⟨kS, 0, none⟩) hg)).trans hc
 refine ⟨h.below.setCell (p := ⟨kS, 0, none⟩) ha.own.1 _, hne ha.cs h.boxC, hne ha.ts h.boxT, hne ha.ms h.boxM, World.cell?_setCell_same _ _ _ h.boxS, hne ha.bs h.boxB, (heap_setCell (a := ⟨kS, 0, none⟩) ha.ds).trans h.tk, ?_, ?_, ?_, ?_⟩
 ·rw [World.frozen?_setCell]; exact h.freeS
 ·rw [World.frozen?_setCell]; exact h.freeB
 ·have := ((Below.refl 0 w).setCell (p := ⟨kS, 0, none⟩) (Nat.zero_le _) (int i64 x)).size
  exact Nat.le_trans h.size this
 ·refine ⟨h.own.1, ?_⟩
  rcases h.own.2 with q | ⟨g, cap, cur, e, h1, hg, h2⟩
  ·exact Or.inl q
  ·exact Or.inr ⟨g, cap, cur, e, h1, (heap_setCell (a := ⟨kS, 0, none⟩) (by show g ≠ kS; omega)).trans hg, h2⟩
theorem BestW.take (h : BestW B Z w0 kT kC kM kS kB D n m taken aoC ccC spent best v i to w) (ha : BestA B Z kT kC kM kS kB D) (j : Nat) : BestW B Z w0 kT kC kM kS kB D n m (taken.set j true) aoC ccC spent best v i to (w.setCell ⟨D, j, none⟩ (.bool true)) := by
 obtain ⟨l1, l2, l3, l4, l5, l6⟩ := ha.lt
 have hne : ∀ {g : Nat} {u : Value}, g ≠ D → w.cell? ⟨g, 0, none⟩ = some u → (w.setCell ⟨D, j, none⟩ (.bool true)).cell? ⟨g, 0, none⟩ = some u := fun hg hc => (World.cell?_of_block (w := w) (heap_setCell (a := ⟨D, j, none⟩) hg)).trans hc
 refine ⟨h.below.setCell (p := ⟨D, j, none⟩) ha.own.2.1 _, hne ha.cd h.boxC, hne ha.td h.boxT, hne ha.md h.boxM, hne ha.sd h.boxS, hne ha.bd h.boxB, h.tk.set j true, ?_, ?_, ?_, ?_⟩
 ·rw [World.frozen?_setCell]; exact h.freeS
 ·rw [World.frozen?_setCell]; exact h.freeB
 ·have := ((Below.refl 0 w).setCell (p := ⟨D, j, none⟩) (Nat.zero_le _) (.bool true)).size
  exact Nat.le_trans h.size this
 ·refine ⟨h.own.1, ?_⟩
  rcases h.own.2 with q | ⟨g, cap, cur, e, h1, hg, h2⟩
  ·exact Or.inl q
  ·exact Or.inr ⟨g, cap, cur, e, h1, (heap_setCell (a := ⟨D, j, none⟩) (by show g ≠ D; omega)).trans hg, h2⟩
end
end
section
open Go Go.RowKit Go.Deep
theorem BestW.drew {B Z : Nat} {w0 : World} {kT kC kM kS kB D n m : Nat} {taken : List Bool} {aoC : Option Addr} {ccC : Nat} {spent best : Int} {v : Value} {i : Nat} {to : List Int} {w : World} (h : BestW B Z w0 kT kC kM kS kB D n m taken aoC ccC spent best v i to w) : BestW B Z w0 kT kC kM kS kB D n m taken aoC ccC spent best v i to w.drew :=
 ⟨h.below.drew, h.boxC, h.boxT, h.boxM, h.boxS, h.boxB, h.tk, h.freeS, h.freeB, h.size, h.own⟩
theorem QG {w : World} {Z e s n : Nat} {v : Value} {xs : List Value} (h : w.ownsRow Z e s v n xs) : ∀ k, v.ownBlock = some k → Z ≤ k := by
 intro k hk
 rcases h.2 with ⟨q, _⟩ | ⟨g, cap, cur, q, h1, _⟩
 ·subst q; cases hk
 ·subst q; cases hk; exact h1
noncomputable def Hy : Code := Bu (Ag 7 DM)
noncomputable def I3 : Code := Bu (Ag 8 DM)
def toL (t : Nat → Nat) (i : Nat) : List Int := (List.range i).map fun r => (t r : Int)
theorem Ra (t : Nat → Nat) (i j : Nat) : toL (GG t i j) (i + 1) = toL t i ++ [(j : Int)] := by
 unfold toL
 rw [List.range_succ, List.map_append, List.map_cons, List.map_nil, CZ]
 congr 1
 exact List.map_congr_left fun r hr => by rw [Dm (by simpa using hr)]
theorem R9 (c : Nat → Nat → Int) (t : Nat → Nat) (i j : Nat) : A6 (fun r => c r (GG t i j r)) (i + 1) = A6 (fun r => c r (t r)) i + c i j := by
 show A6 _ i + c i (GG t i j i) = _
 rw [CZ, B8 (f := fun r => c r (GG t i j r)) (g := fun r => c r (t r)) (fun r hr => by rw [Dm hr])]
theorem Ih {m i : Nat} {c : Nat → Nat → Int} {t : Nat → Nat} {taken : List Bool} (hp : PrefOk m c i t taken) (hc : ∀ r k, c r k ≤ AV) : 0 ≤ A6 (fun r => c r (t r)) i ∧ A6 (fun r => c r (t r)) i ≤ 1048576 * (i : Int) := by
 have hA : ∀ k, k ≤ i → 0 ≤ A6 (fun r => c r (t r)) k ∧ A6 (fun r => c r (t r)) k ≤ 1048576 * (k : Int) := by
  intro k
  induction k with
  | zero => intro _; exact ⟨Int.le_refl _, Int.le_refl _⟩
  | succ k ih =>
   intro hk
   have h1 := ih (by omega)
   have h2 := hp.ok k (by omega)
   have h3 : c k (t k) ≤ 1048576 := hc k (t k)
   unfold A6
   omega
 exact hA i (qn _)
theorem NU (B Z : Nat) (w0 : World) (kT kC kM kS kB D n m : Nat) (cost : List (List Int)) (aoC : Option Addr) (ccC : Nat) (best : Int) (hl : cost.length = n) (hrl : ∀ r ∈ cost, r.length = m) (hm : m ≤ 16) (hn : n ≤ 16) (hcap : n ≤ ccC) (hcc : ccC ≤ maxLen)
  (hc : ∀ r k, cI cost r k ≤ AV) (hc0 : ∀ r k, -1 ≤ cI cost r k) (hbest : ∀ t, CastN n m (cI cost) t → best ≤ A6 (fun r => cI cost r (t r)) n) (hex : ∃ s, CastN n m (cI cost) s ∧ A6 (fun r => cI cost r (s r)) n = best)
  (ha : BestA B Z kT kC kM kS kB D) (hcl : ∀ W, Below B w0 W → IsMat W (.slice aoC n ccC) cost)
  (w : World) (hW : BestW B Z w0 kT kC kM kS kB D n m (List.replicate m false) aoC ccC 0 best (.slice none 0 0) 0 [] w) (e0 e4 e5 e7 e8 e9 ea eb ec ed ee ef eg eh ei ej ek el em en ep eq er es et eu ev ew ex ey ez eA eB eC eD eE eF eG eH eI eJ eK eL eM eN eO eP eQ eR eS eT eU eV eW eX eY eZ aa ab ac ad ae af ag ah ai aj ak al am an ao ap aq ar au av aw ax : Value) (Q : Exit → Act → World → Prop) (X : Code)
  (hX : ∀ (w' : World) (v : Value) (t : Nat → Nat) (taken : List Bool) (spent : Int) (ay az aA aB aC aD aE aF aG aH aI aJ aK aL aM aN aO aP aQ aS aT aU aV aW aX aY aZ ba bb bc bd be bf : Value), FirstOk n m (cI cost) best n t taken → BestW B Z w0 kT kC kM kS kB D n m taken aoC ccC spent best v n (toL t n) w' → Code.wp Tryz.prog X Q { tmps := #[e0, .pointer (some ⟨kC, 0, none⟩), v, .pointer (some ⟨kB, 0, none⟩), e4, e5, .pointer (some ⟨kM, 0, none⟩), e7, e8, e9, ea, eb, .pointer (some ⟨kS, 0, none⟩), .pointer (some ⟨kT, 0, none⟩), ay, az, aA, ef, eg, eh, ei, ej, ek, el, em, en, ep, eq, er, es, et, eu, ev, ew, ex, ey, ez, eA, eB, eC, eD, eE, eF, eG, eH, eI, eJ, eK, eL, eM, eN, eO, eP, aB, aC, aD, aE, aF, aG, aH, aI, aJ, aK, aL, aM, aN, aO, aP, aQ, aS, aT, aU, aV, aW, aX, aY, aZ, ba, bb, bc, bd, be, bf, aw, ax], defers := [] } w') :
  Code.wp Tryz.prog (.seq Hy (.seq I3 X)) Q { tmps := #[e0, .pointer (some ⟨kC, 0, none⟩), .slice none 0 0, .pointer (some ⟨kB, 0, none⟩), e4, e5, .pointer (some ⟨kM, 0, none⟩), e7, e8, e9, ea, eb, .pointer (some ⟨kS, 0, none⟩), .pointer (some ⟨kT, 0, none⟩), ec, ed, ee, ef, eg, eh, ei, ej, ek, el, em, en, ep, eq, er, es, et, eu, ev, ew, ex, ey, ez, eA, eB, eC, eD, eE, eF, eG, eH, eI, eJ, eK, eL, eM, eN, eO, eP, eQ, eR, eS, eT, eU, eV, eW, eX, eY, eZ, aa, ab, ac, ad, ae, af, ag, ah, ai, aj, ak, al, am, an, ao, ap, aq, ar, au, av, aw, ax], defers := [] } w := by
 have HX := qh hX; have HW := qh hW; have HCL := qh hcl; have HA := qh ha; have HL := qh hl; have HRL := qh hrl; have HC := qh hc; have HC0 := qh hc0; have HB := qh hbest
 have h0 : FirstOk n m (cI cost) best 0 (fun _ => 0) (List.replicate m false) := FirstOk.zero hex
 have HF0 := qh h0
 have hboxC := hW.boxC
 clear hX hW hcl ha hl hrl hc hc0 hbest hex h0
 unfold Hy I3 DM
 conv => arg 2; arg 1; whnf
 conv => arg 2; arg 2; arg 1; whnf
 go_wp2_with fail
 go_loopw [2, 56] (fun tv iv wr => ∃ (i : Nat) (t : Nat → Nat) (taken : List Bool), i ≤ n ∧ iv = int i64 i ∧ Hid (FirstOk n m (cI cost) best i t taken) ∧ Hid (taken.length = m) ∧ Hid (BestW B Z w0 kT kC kM kS kB D n m taken aoC ccC (A6 (fun r => cI cost r (t r)) i) best tv i (toL t i) wr)) (fun _ iv _ => n - (intOf iv).toNat)
 case atStart => exact ⟨0, fun _ => 0, List.replicate m false, Nat.zero_le _, rfl, HF0, qh (by simp), HW⟩
 case round =>
  clear HF0 HW
  obtain ⟨i, t, taken, hin, rfl, hF, hT, hW⟩ := hrel
  by_cases hi : i < n
  ·have hi' : (i : Int) < (n : Int) := by omega
   obtain ⟨js, hjs, hCs⟩ := hF.out.found hi
   have HCS := qh hCs
   clear hCs
   go_wp2_with fail
   go_loopw [16] (fun jv wr2 => ∃ j : Nat, jv = int i64 j ∧ j ≤ js ∧ Hid (∀ k, k < j → ¬ AU n m (cI cost) i k t best) ∧ Hid (BestW B Z w0 kT kC kM kS kB D n m taken aoC ccC (A6 (fun r => cI cost r (t r)) i) best u2 i (toL t i) wr2)) (fun jv _ => m - (intOf jv).toNat)
   case atStart => exact ⟨0, rfl, Nat.zero_le _, qh (fun k hk => by omega), hW⟩
   case round =>
    clear hW
    obtain ⟨j, rfl, hjl, hno, hW⟩ := hrel
    have hCW := hW.out.cheap HA.out cost HCL.out
    have c66 := O2 kT kC kM kS kB D n m i j cost taken aoC ccC _ best t HL.out HRL.out hT.out hm hn hi (by omega) hcap hcc HC.out HC0.out rfl hF.out.pre HB.out _ hCW
    clear hCW
    go_wp2_with fail
    refine c66.mono ?_
    rintro e w2 ⟨b, rfl, hiff, hb2⟩
    have HW2 := qh (hW.out.call HA.out hb2)
    clear c66 hW hb2
    cases b with
    | false =>
     have hnc : ¬ AU n m (cI cost) i j t best := fun q => by have := hiff.2 q; cases this
     have hjs2 : j ≠ js := fun q => by subst q; exact hnc HCS.out
     have HNO := qh (fun k (hk : k < j + 1) => by
      by_cases e : k = j
      ·subst e; exact hnc
      ·exact hno.out k (by omega) : ∀ k, k < j + 1 → ¬ AU n m (cI cost) i k t best)
     clear hiff hnc hno
     go_wp2_with fail
     exact ⟨⟨j + 1, by go_num, by omega, HNO, HW2⟩, by simp [intOf]; omega⟩
    | true =>
     have hCj : AU n m (cI cost) i j t best := hiff.1 rfl
     obtain ⟨hjm, hF2⟩ := hF.out.next hi hT.out hCj hno.out
     have HF2 := qh hF2
     have hbd := Ih hF.out.pre HC.out
     have hsn := R9 (cI cost) t i j
     have hbd2 := Ih hF2.pre HC.out
     rw [hsn] at hbd2
     have HSN := qh hsn
     have HTN := qh (Ra t i j)
     clear hiff hCj hno hF2 hsn HCS hF
     generalize A6 (fun r => cI cost r (t r)) i = sp at *
     have hj' : (j : Int) < (m : Int) := by omega
     obtain ⟨i3, hi3, hz3, hs3, hb3⟩ := Jb
     have HO := qh (HW2.out.own.alloc (.cells #[int i64 (j : Int)] 3))
     have hsz2 := HW2.out.size
     go_wp2_with (at_builtin; refine wpList_append_own _ rfl _ _ 55 rfl Z 3 i3 (int i64 0) 1 8 Tryz.underlying55 hi3 hz3 hs3 hb3 rfl (by decide) u2 i (As (toL t i)) rfl HO.out ⟨w2.heap.size, 0, none⟩ 1 1 [int i64 (j : Int)] rfl rfl (cell_one_new _ _ _) (by intro u hu; simp at hu; subst hu; rfl) (by simp only [maxLen]; omega) (by omega) (by simp; omega) ?_; intro v' w4 hown hgrow _)
     have hkp : Below Z w2 w4 := ((Below.refl Z w2).alloc hsz2 _).grown hgrow (by simp; omega) (QG HW2.out.own)
     have hW4 := HW2.out.keep (to' := toL (GG t i j) (i + 1)) (v' := v') (i' := i + 1) HA.out hkp (by rw [HTN.out]; unfold As at hown ⊢; rw [List.map_append]; exact hown)
     have HW4 := qh hW4
     clear hown hgrow hkp HW2 HO
     have hkl : i < cost.length := by have := HL.out; omega
     have hr2 : (cost[i]?.getD []).length = m := HRL.out _ (by rw [qg hkl]; exact List.getElem_mem _)
     obtain ⟨b1, o1, eo, aR, cR, cH, hrow, _⟩ := (HCL.out w4 hW4.below).at_ hkl
     rw [hr2] at cH hrow
     obtain ⟨b2, o2, e2, cX, _⟩ := hrow.int (j := j) (by omega)
     subst e2
     have cX2 : w4.cell? ⟨b2, o2 + j, none⟩ = some (int i64 (cI cost i j)) := cX
     have cS4 := hW4.boxS; have cC4 := hW4.boxC; have fS4 := hW4.freeS
     rw [eo] at cC4
     have hW5 := hW4.spend HA.out (sp + cI cost i j)
     have hW6 := hW5.take HA.out j
     have cT5 := hW5.boxT
     have cD5 := hW5.tk.cell (j := j) (by rw [hT.out]; exact hjm)
     have fD5 := hW5.tk.free j
     have HW6 := qh hW6
     have hdS := HA.out.ds; have htS := HA.out.ts
     clear hW4 hW5 hW6 cX hrow eo hsz2
     generalize cI cost i j = xij at *
     generalize gb taken j = gbj at *
     refine Cf (fun w2 => w2 = w4.drew) 9 (by kernel_rfl) (by kernel_rfl) rfl ?_
     intro w5 hS5
     subst hS5
     simp only [List.take_succ_cons, List.take_zero, List.drop_succ_cons, List.drop_zero]
     repeat still_step
     refine wpStill_nil ?_
     go_wp2_with fail
     exact ⟨⟨i + 1, GG t i j, taken.set j true, by omega, by go_num, HF2, qh (by rw [List.length_set]; exact hT.out), qh (by rw [HSN.out]; exact HW6.out.drew)⟩, by simp [intOf]; omega⟩
  ·obtain rfl : i = n := by omega
   have hi' : ¬ (i : Int) < (i : Int) := by omega
   go_wp2_with fail
   exact HX.out _ _ t taken _ _ _ _ _ _ _ _ _ _ _ _ _ _ _ _ _ _ _ _ _ _ _ _ _ _ _ _ _ _ _ _ _ _ hF.out hW.out
end
end Go.Proofs.YtggcbblikgankaaGreatDoor
