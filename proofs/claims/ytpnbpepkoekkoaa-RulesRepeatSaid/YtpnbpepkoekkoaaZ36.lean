/- Contracts and plain laws on the way to the statement: part 36. -/
import Derived.Test.YtpnbpepkoekkoaaZ35
import Derived.Test.YtpnbpepkoekkoaaZ1
import Derived.Test.YtpnbpepkoekkoaaZ28
import Derived.BigRegion
import Derived.BigCall
import Derived.BigGuard
import Derived.Deep.QuietTactic
import Derived.BigQuiet
import Derived.Test.YtpnbpepkoekkoaaZ3
set_option linter.unusedVariables false
set_option linter.unusedSimpArgs false
set_option maxRecDepth 100000
set_option maxHeartbeats 16000000
namespace Go.Proofs.Ytpnbpepkoekkoaa
open Go.Value (int)
open Go.IntKind (i64)
section
open Go Go.RowKit
abbrev Hh (KB SB B : Nat) : Value := .func (.func 90) #[] #[.pointer (some ⟨KB, 0, none⟩), .pointer (some ⟨SB, 0, none⟩), .pointer (some ⟨B, 0, none⟩)]
theorem P6 (s : Ls) (f : Nm → Int) (len : Int → Int) (B E : Nat) (w W : World) (hs : RgS s f B w) (hb : Below w.heap.size w W) (ds : List Deferred) (Q : Exit → Act → World → Prop) (e0 e3 e4 e5 e6 e7 e8 e9 ea eb ec ed ee ef eg eh ei ej ek el em en eo ep eq er es et eu ev ew ex ey ez eA eB eC eD eE eF eG eH eI eJ eK eL eM eN eO eP eQ eR eS eT eU eV eW eX eY eZ aa ab ac ad ae af ag ah ai aj ak al am an ao ap aq ar au av aw ax ay az aA aB aC aD aE aF aG aH aI aJ aK aL aM aN aO aP aQ aR aS aT aU aV aW aX aY aZ ba bb bc bd be bf bg bh bi bj : Value)
  (hN : ∀ (B7 KB M SB PB : Nat) (x0 x3 x4 x5 x6 x8 x9 bk bl bm bn bo bp bq br bs bt bu bv bw bx bz bA bB bC bD bE bF bG bH bI bJ bK bL bM bN bO bP bQ bR bS bT bU bV bW bX bY bZ ca cb cc cd ce cf cg ch ci cj ck cl cm cn co cp cq cr cs ct cu cv cw cx cy cz cA cB cC cD cE cF cG cH cI cJ cK cL cM cN cO cP cQ cR cS cT cU cV cW cX cY cZ da db dc dd de df dg dh di dj dk dl dm dn dp dq dr dt du : Value) (V : World), LenW V s f B7 KB M SB PB len → w.heap.size ≤ M → Below w.heap.size w V → Q .normal { tmps := #[x0, .pointer (some ⟨B, 0, none⟩), .pointer (some ⟨E, 0, none⟩), x3, x4, x5, x6, Hh KB SB B7, x8, x9, bk, bl, bm, bn, bo, bp, bq, br, bs, bt, bu, bv, bw, bx, bz, bA, bB, bC, bD, bE, bF, bG, bH, bI, bJ, bK, bL, bM, bN, bO, bP, bQ, bR, bS, bT, bU, bV, bW, bX, bY, bZ, ca, cb, cc, cd, ce, cf, cg, ch, ci, cj, ck, cl, cm, cn, co, cp, cq, cr, cs, ct, cu, cv, cw, cx, cy, cz, cA, cB, cC, cD, cE, cF, cG, cH, cI, cJ, cK, cL, cM, cN, cO, cP, cQ, cR, cS, cT, cU, cV, cW, cX, cY, cZ, da, db, dc, dd, de, df, dg, dh, di, dj, dk, dl, dm, dn, dp, dq, dr, dt, du], defers := ds } V) :
  elem29n9.wp Try.prog Q { tmps := #[e0, .pointer (some ⟨B, 0, none⟩), .pointer (some ⟨E, 0, none⟩), e3, e4, e5, e6, e7, e8, e9, ea, eb, ec, ed, ee, ef, eg, eh, ei, ej, ek, el, em, en, eo, ep, eq, er, es, et, eu, ev, ew, ex, ey, ez, eA, eB, eC, eD, eE, eF, eG, eH, eI, eJ, eK, eL, eM, eN, eO, eP, eQ, eR, eS, eT, eU, eV, eW, eX, eY, eZ, aa, ab, ac, ad, ae, af, ag, ah, ai, aj, ak, al, am, an, ao, ap, aq, ar, au, av, aw, ax, ay, az, aA, aB, aC, aD, aE, aF, aG, aH, aI, aJ, aK, aL, aM, aN, aO, aP, aQ, aR, aS, aT, aU, aV, aW, aX, aY, aZ, ba, bb, bc, bd, be, bf, bg, bh, bi, bj], defers := ds } W := by
 have hS := hs.below hb; have C := EH s f len W hS.at_ hS.nums; have HN := qh hN; have HB := qh hb; have HC := qh C; have HX := qh hS.box; clear hN hb hS hs C
 conv => arg 2; whnf
 have st0 : True := trivial
 go_wp2_with (first | (have q := st0; clear q st0; (refine wpList_load_row rfl 30 _ rfl B rfl 30 s.cells (0, 0) _ HX.out Try.underlying30 rfl (by kernel_rfl) ?_; simp only [Act.put, qD, qE, qF])) | (go_at_call 67; refine HC.out.mono ?_; rintro e V ⟨B7, KB, M, SB, PB, rfl, h1, h2, h3⟩; have H1 := qh h1; have H2 := qh h2; have H3 := qh h3; clear h1 h2 h3)); exact HN.out _ _ _ _ _ _ _ _ _ _ _ _ _ _ _ _ _ _ _ _ _ _ _ _ _ _ _ _ _ _ _ _ _ _ _ _ _ _ _ _ _ _ _ _ _ _ _ _ _ _ _ _ _ _ _ _ _ _ _ _ _ _ _ _ _ _ _ _ _ _ _ _ _ _ _ _ _ _ _ _ _ _ _ _ _ _ _ _ _ _ _ _ _ _ _ _ _ _ _ _ _ _ _ _ _ _ _ _ _ _ _ _ _ _ _ _ _ _ _ _ _ _ _ _ _ H1.out (Nat.le_trans HB.out.size H2.out) (Ag HB.out H3.out)
def C6 (s : Ls) (f : Nm → Int) (len : Int → Int) (d : Dan) : Bool := inB d.bar 0 (s.bars - 1) && decide (d.bar + len (f d.pn) ≤ s.bars)
theorem G2 {f : Nm → Int} {W : World} {b : Nat} : ∀ {o : Nat} {ds : List Dan} {i : Nat} {d : Dan}, B5 W b o ds → NumAt f W (Ak b o ds) → ds[i]? = some d → ∃ u1, W.cell? ⟨b, o + i * 6, none⟩ = some (sv d.rn) ∧ W.cell? ⟨b, o + i * 6 + 1, none⟩ = some (int i64 u1) ∧ W.cell? ⟨b, o + i * 6 + 2, none⟩ = some (sv d.pn) ∧ W.cell? ⟨b, o + i * 6 + 3, none⟩ = some (int i64 (f d.pn)) ∧ W.cell? ⟨b, o + i * 6 + 4, none⟩ = some (int i64 d.bar) ∧ W.cell? ⟨b, o + i * 6 + 5, none⟩ = some (.bool d.mirror)
 | _, [], _, _, _, _, h => by cases h
 | o, x :: r, 0, d, ⟨⟨h0, h2, h4, h5⟩, _⟩, hn, h => by
  cases h; obtain ⟨n1, a1, _⟩ := hn ⟨b, o, 1, x.rn⟩ (by simp [Ak]); obtain ⟨n2, a2, a3⟩ := hn ⟨b, o + 2, 2, x.pn⟩ (by simp [Ak]); rw [a3 rfl] at a2; exact ⟨n1, by simpa using h0, by simpa using a1, by simpa using h2, by simpa using a2, by simpa using h4, by simpa using h5⟩
 | o, x :: r, i + 1, d, ⟨_, hr⟩, hn, h => by
  have := G2 (i := i) hr (fun y hy => hn y (by simp [Ak, hy])) (by simpa using h); rw [show o + (i + 1) * 6 = o + 6 + i * 6 by omega]; exact this
noncomputable def reg23 : Code := match elem29n10 with
 | .seq _ (.block _ (.loop (.seq _ (.seq _ (.seq (.block _ (.seq _ c)) _))))) => c
 | c => c
structure DanS (s : Ls) (f : Nm → Int) (len : Int → Int) (B B7 KB M SB PB D : Nat) (bar fj : Int) (w V : World) : Prop where
 num : V.cell? ⟨D, 3, none⟩ = some (int i64 fj)
 bar : V.cell? ⟨D, 4, none⟩ = some (int i64 bar)
 bars : V.cell? ⟨B, 3, none⟩ = some (int i64 s.bars)
 lw : LenW V s f B7 KB M SB PB len
 below : Below w.heap.size w V
def DQ (N : Act → World → Prop) (E : Nat) (ds : List Deferred) (ok : Bool) (w : World) : Exit → Act → World → Prop
 | .normal, a, V => N a V
 | .panic c, a, V => c = Bu ∧ a.tmps.getD 2 undef = .pointer (some ⟨E, 0, none⟩) ∧ a.defers = ds ∧ ok = false ∧ Below w.heap.size w V
 | _, _, _ => False
theorem DQ.put {N : Act → World → Prop} {E : Nat} {ds : List Deferred} {ok : Bool} {w : World} {d : Nat} (hd : d ≠ 2) {v : Value} : ∀ (c : List PanicEntry) (a : Act) (V : World), DQ N E ds ok w (.panic c) (a.put (some d) v) V → DQ N E ds ok w (.panic c) a V := by
 rintro c a V ⟨h1, h2, h3⟩; refine ⟨h1, ?_, h3⟩; rw [← h2]
 show a.tmps.getD 2 undef = (a.tmps.setIfInBounds d v).getD 2 undef
 rw [Array.getD_eq_getD_getElem?, Array.getD_eq_getD_getElem?, Array.getElem?_setIfInBounds_ne hd]
theorem Ms (s : Ls) (f : Nm → Int) (len : Int → Int) (B E B7 KB M SB PB D : Nat) (bar fj lj : Int) (w W : World) (hS : DanS s f len B B7 KB M SB PB D bar fj w W) (hbars : 1 ≤ s.bars ∧ s.bars ≤ 4096) (hlj : 0 ≤ lj ∧ lj ≤ 4097)
  (hC : ∀ V, DanS s f len B B7 KB M SB PB D bar fj w V → Calls Try.prog 90 #[int i64 fj, .pointer (some ⟨KB, 0, none⟩), .pointer (some ⟨SB, 0, none⟩), .pointer (some ⟨B7, 0, none⟩)] V fun e V' => e = .returned (int i64 lj) ∧ DanS s f len B B7 KB M SB PB D bar fj w V') (ok : Bool) (hok : ok = (inB bar 0 (s.bars - 1) && decide (bar + lj ≤ s.bars)))
  (ds : List Deferred) (N : Act → World → Prop) (e0 e3 e4 e5 e6 e8 ea eb ec ed ee ef eg eh ei ej ek el em en eo ep eq er es et eu ev ew ex ey ez eA eB eC eD eE eF eG eH eI eJ eK eL eM eN eO eP eQ eR eS eT eU eV eW eX eY eZ aa ab ac ad ae af ag ah ai aj ak al am an ao ap aq ar au av aw ax ay az aA aB aC aD aE aF aG aH aI aJ aK aL aM aN aO aP aQ aR aS aT aU aV aW aX aY aZ ba bb bc bd be bf bg bh bi bj : Value)
  (hN : ok = true → ∀ (bk bl bm bn bo bp bq br bs bt bu bv bw bx bz bA bB bC bD bE : Value) (V : World), DanS s f len B B7 KB M SB PB D bar fj w V → N { tmps := #[e0, .pointer (some ⟨B, 0, none⟩), .pointer (some ⟨E, 0, none⟩), e3, e4, e5, e6, Hh KB SB B7, e8, .pointer (some ⟨D, 0, none⟩), ea, eb, ec, ed, ee, ef, eg, eh, ei, ej, ek, el, em, en, eo, ep, eq, er, es, et, eu, ev, ew, ex, ey, ez, eA, eB, eC, eD, eE, eF, eG, eH, eI, eJ, eK, eL, eM, eN, eO, eP, eQ, eR, eS, eT, eU, eV, eW, eX, eY, eZ, aa, ab, ac, ad, ae, af, ag, ah, ai, aj, ak, al, am, an, ao, ap, aq, ar, au, av, aw, ax, ay, az, aA, aB, aC, aD, aE, aF, aG, aH, aI, aJ, aK, aL, aM, aN, aO, bk, bl, bm, bn, bo, bp, bq, br, bs, bt, bu, bv, bw, bx, bz, bA, bB, bC, bD, bE, bj], defers := ds } V) :
  reg23.wp Try.prog (DQ N E ds ok w) { tmps := #[e0, .pointer (some ⟨B, 0, none⟩), .pointer (some ⟨E, 0, none⟩), e3, e4, e5, e6, Hh KB SB B7, e8, .pointer (some ⟨D, 0, none⟩), ea, eb, ec, ed, ee, ef, eg, eh, ei, ej, ek, el, em, en, eo, ep, eq, er, es, et, eu, ev, ew, ex, ey, ez, eA, eB, eC, eD, eE, eF, eG, eH, eI, eJ, eK, eL, eM, eN, eO, eP, eQ, eR, eS, eT, eU, eV, eW, eX, eY, eZ, aa, ab, ac, ad, ae, af, ag, ah, ai, aj, ak, al, am, an, ao, ap, aq, ar, au, av, aw, ax, ay, az, aA, aB, aC, aD, aE, aF, aG, aH, aI, aJ, aK, aL, aM, aN, aO, aP, aQ, aR, aS, aT, aU, aV, aW, aX, aY, aZ, ba, bb, bc, bd, be, bf, bg, bh, bi, bj], defers := ds } W := by
 obtain ⟨wd, hwd⟩ : ∃ wd : World, { W with drawn := W.drawn + 1 } = wd := ⟨_, rfl⟩; have hbd : Below W.heap.size W wd := by rw [← hwd]; exact (Below.refl _ _).drew
 have HS : Hid (DanS s f len B B7 KB M SB PB D bar fj w wd) := qh ⟨Ae hbd hS.num, Ae hbd hS.bar, Ae hbd hS.bars, hS.lw.below hbd, Ag hS.below hbd⟩; have HC := qh hC; have HN := qh hN; have HWD := qh hwd; have HOK := qh hok; obtain ⟨hb1, hb2⟩ := hbars; obtain ⟨hl1, hl2⟩ := hlj; have hw1 : IntKind.i64.wrap (s.bars - 1) = s.bars - 1 := IntWalk.i64_in _ (by omega); clear hC hN hwd hok hS hbd
 conv => arg 2; whnf
 refine wp_region_held (S := DanS s f len B B7 KB M SB PB D bar fj w) (by kernel_rfl) ?_; rw [HWD.out]; refine tq 0 _ (.pointer (some ⟨D, 4, none⟩)) rfl (by kernel_rfl) (DQ.put (by decide)) (Or.inl ⟨by kernel_rfl, fun V hb => by go_simp⟩) HS.out ?_
 try (simp only [Act.put, List.getElem_toArray, List.getElem_cons_zero, List.setIfInBounds_toArray, List.set_cons_zero, List.set_cons_succ])
 refine tq 1 _ (int i64 bar) rfl (by kernel_rfl) (DQ.put (by decide)) (Or.inl ⟨by kernel_rfl, fun V hb => by have q0 := hb.bar; go_simp⟩) HS.out ?_
 try (simp only [Act.put, qA, qB, qC, qD, qE, qF])
 refine tq 2 _ (.pointer (some ⟨B, 3, none⟩)) rfl (by kernel_rfl) (DQ.put (by decide)) (Or.inl ⟨by kernel_rfl, fun V hb => by go_simp⟩) HS.out ?_
 try (simp only [Act.put, qA, qB, qC, qD, qE, qF])
 refine tq 3 _ (int i64 s.bars) rfl (by kernel_rfl) (DQ.put (by decide)) (Or.inl ⟨by kernel_rfl, fun V hb => by have q0 := hb.bars; go_simp⟩) HS.out ?_
 try (simp only [Act.put, qA, qB, qC, qD, qE, qF])
 refine tq 4 _ (int i64 (s.bars - 1)) rfl (by kernel_rfl) (DQ.put (by decide)) (Or.inl ⟨by kernel_rfl, fun V hb => by go_simp⟩) HS.out ?_
 try (simp only [Act.put, qA, qB, qC, qD, qE, qF])
 refine wpAnyH_ready (rs := [5]) (by kernel_rfl) (by simp) ?_; refine AllReadyH.cons (o := _) rfl (fun K1 hK1 => ?_) AllReadyH.nil; go_simp
 cases hq : inB bar 0 (s.bars - 1) with
 | false =>
  have HF : Hid (ok = false) := qh (by rw [HOK.out, hq, Bool.false_and]); refine (BZ (v := false) (by assumption) _).mono ?_; rintro e2 w2 ⟨rfl, rfl⟩; refine hK1.out _ _ HS.out (fun _ => ?_); clear hK1 K1
  try (simp only [Act.put, qA, qB, qC, qD, qE, qF])
  refine tq 6 _ (.bool false) rfl (by kernel_rfl) (DQ.put (by decide)) (Or.inl ⟨by kernel_rfl, fun V hb => by go_simp⟩) HS.out ?_
  try (simp only [Act.put, qA, qB, qC, qD, qE, qF])
  refine tq 7 _ undef rfl (by kernel_rfl) (DQ.put (by decide)) (Or.inr ⟨by kernel_rfl, rfl⟩) HS.out ?_
  try (simp only [Act.put, qA, qB, qC, qD, qE, qF])
  refine tq 8 _ undef rfl (by kernel_rfl) (DQ.put (by decide)) (Or.inr ⟨by kernel_rfl, rfl⟩) HS.out ?_
  try (simp only [Act.put, qA, qB, qC, qD, qE, qF])
  refine tq 9 _ undef rfl (by kernel_rfl) (DQ.put (by decide)) (Or.inr ⟨by kernel_rfl, rfl⟩) HS.out ?_
  try (simp only [Act.put, qA, qB, qC, qD, qE, qF])
  refine tq 10 _ undef rfl (by kernel_rfl) (DQ.put (by decide)) (Or.inr ⟨by kernel_rfl, rfl⟩) HS.out ?_
  try (simp only [Act.put, qA, qB, qC, qD, qE, qF])
  refine tq 11 _ undef rfl (by kernel_rfl) (DQ.put (by decide)) (Or.inr ⟨by kernel_rfl, rfl⟩) HS.out ?_
  try (simp only [Act.put, qA, qB, qC, qD, qE, qF])
  refine tq 12 _ undef rfl (by kernel_rfl) (DQ.put (by decide)) (Or.inr ⟨by kernel_rfl, rfl⟩) HS.out ?_
  try (simp only [Act.put, qA, qB, qC, qD, qE, qF])
  refine tq 13 _ undef rfl (by kernel_rfl) (DQ.put (by decide)) (Or.inr ⟨by kernel_rfl, rfl⟩) HS.out ?_
  try (simp only [Act.put, qA, qB, qC, qD, qE, qF])
  refine tq 14 _ undef rfl (by kernel_rfl) (DQ.put (by decide)) (Or.inr ⟨by kernel_rfl, rfl⟩) HS.out ?_
  try (simp only [Act.put, qA, qB, qC, qD, qE, qF])
  refine tq 15 _ undef rfl (by kernel_rfl) (DQ.put (by decide)) (Or.inr ⟨by kernel_rfl, rfl⟩) HS.out ?_
  try (simp only [Act.put, qA, qB, qC, qD, qE, qF])
  refine tq 16 _ undef rfl (by kernel_rfl) (DQ.put (by decide)) (Or.inr ⟨by kernel_rfl, rfl⟩) HS.out ?_
  try (simp only [Act.put, qA, qB, qC, qD, qE, qF])
  refine tq 17 _ undef rfl (by kernel_rfl) (DQ.put (by decide)) (Or.inr ⟨by kernel_rfl, rfl⟩) HS.out ?_
  try (simp only [Act.put, qA, qB, qC, qD, qE, qF])
  refine tq 18 _ (.bool false) rfl (by kernel_rfl) (DQ.put (by decide)) (Or.inl ⟨by kernel_rfl, fun V hb => by go_simp⟩) HS.out ?_
  try (simp only [Act.put, qA, qB, qC, qD, qE, qF])
  refine wpAnyH_ready (rs := [19]) (by kernel_rfl) (by simp) ?_; refine AllReadyH.cons (o := _) rfl (fun K2 hK2 => ?_) AllReadyH.nil; go_simp; refine (Al _).mono ?_; unfold Ah; rintro e2 w2 ⟨rfl, rfl⟩; exact ⟨rfl, rfl, rfl, HF.out, HS.out.below⟩
 | true =>
  obtain ⟨hq1, hq2⟩ := AY.1 hq; have hw2 : IntKind.i64.wrap (bar + lj) = bar + lj := IntWalk.i64_in _ (by omega); refine (BZ (v := true) (by assumption) _).mono ?_; rintro e2 w2 ⟨rfl, rfl⟩; refine hK1.out _ _ HS.out (fun _ => ?_); clear hK1 K1
  try (simp only [Act.put, qA, qB, qC, qD, qE, qF])
  refine tq 6 _ (.bool true) rfl (by kernel_rfl) (DQ.put (by decide)) (Or.inl ⟨by kernel_rfl, fun V hb => by go_simp⟩) HS.out ?_
  try (simp only [Act.put, qA, qB, qC, qD, qE, qF])
  refine tq 7 _ (.pointer (some ⟨D, 4, none⟩)) rfl (by kernel_rfl) (DQ.put (by decide)) (Or.inl ⟨by kernel_rfl, fun V hb => by go_simp⟩) HS.out ?_
  try (simp only [Act.put, qA, qB, qC, qD, qE, qF])
  refine tq 8 _ (int i64 bar) rfl (by kernel_rfl) (DQ.put (by decide)) (Or.inl ⟨by kernel_rfl, fun V hb => by have q0 := hb.bar; go_simp⟩) HS.out ?_
  try (simp only [Act.put, qA, qB, qC, qD, qE, qF])
  refine tq 9 _ (Hh KB SB B7) rfl (by kernel_rfl) (DQ.put (by decide)) (Or.inl ⟨by kernel_rfl, fun V hb => by go_simp⟩) HS.out ?_
  try (simp only [Act.put, qA, qB, qC, qD, qE, qF])
  refine tq 10 _ (.pointer (some ⟨D, 2, none⟩)) rfl (by kernel_rfl) (DQ.put (by decide)) (Or.inl ⟨by kernel_rfl, fun V hb => by go_simp⟩) HS.out ?_
  try (simp only [Act.put, qA, qB, qC, qD, qE, qF])
  refine tq 11 _ (.pointer (some ⟨D, 3, none⟩)) rfl (by kernel_rfl) (DQ.put (by decide)) (Or.inl ⟨by kernel_rfl, fun V hb => by go_simp⟩) HS.out ?_
  try (simp only [Act.put, qA, qB, qC, qD, qE, qF])
  refine tq 12 _ (int i64 fj) rfl (by kernel_rfl) (DQ.put (by decide)) (Or.inl ⟨by kernel_rfl, fun V hb => by have q0 := hb.num; go_simp⟩) HS.out ?_
  try (simp only [Act.put, qA, qB, qC, qD, qE, qF])
  refine tq 15 _ (.pointer (some ⟨B, 3, none⟩)) rfl (by kernel_rfl) (DQ.put (by decide)) (Or.inl ⟨by kernel_rfl, fun V hb => by go_simp⟩) HS.out ?_
  try (simp only [Act.put, qA, qB, qC, qD, qE, qF])
  refine tq 16 _ (int i64 s.bars) rfl (by kernel_rfl) (DQ.put (by decide)) (Or.inl ⟨by kernel_rfl, fun V hb => by have q0 := hb.bars; go_simp⟩) HS.out ?_
  try (simp only [Act.put, qA, qB, qC, qD, qE, qF])
  refine wpAnyH_ready (rs := [13]) (by kernel_rfl) (by simp) ?_; refine AllReadyH.cons (o := _) rfl (fun K3 hK3 => ?_) AllReadyH.nil; go_simp; refine (HC.out _ HS.out).mono ?_; rintro e2 V2 ⟨rfl, hV2⟩; refine hK3.out _ _ hV2 (fun _ => ?_); clear hK3 K3 HS; have HS := qh hV2; clear hV2
  try (simp only [Act.put, qA, qB, qC, qD, qE, qF])
  refine tq 14 _ (int i64 (bar + lj)) rfl (by kernel_rfl) (DQ.put (by decide)) (Or.inl ⟨by kernel_rfl, fun V hb => by go_simp⟩) HS.out ?_
  try (simp only [Act.put, qA, qB, qC, qD, qE, qF])
  refine tq 17 _ (.bool (decide (bar + lj ≤ s.bars))) rfl (by kernel_rfl) (DQ.put (by decide)) (Or.inl ⟨by kernel_rfl, fun V hb => by go_simp⟩) HS.out ?_
  try (simp only [Act.put, qA, qB, qC, qD, qE, qF])
  refine tq 18 _ (.bool (decide (bar + lj ≤ s.bars))) rfl (by kernel_rfl) (DQ.put (by decide)) (Or.inl ⟨by kernel_rfl, fun V hb => by go_simp⟩) HS.out ?_
  try (simp only [Act.put, qA, qB, qC, qD, qE, qF])
  refine wpAnyH_ready (rs := [19]) (by kernel_rfl) (by simp) ?_; refine AllReadyH.cons (o := _) rfl (fun K4 hK4 => ?_) AllReadyH.nil; go_simp; by_cases hd : bar + lj ≤ s.bars
  ·have HF : Hid (ok = true) := qh (by rw [HOK.out, hq, decide_eq_true hd]; rfl)
   rw [decide_eq_true hd]; refine (Aq _).mono ?_; rintro e2 w2 ⟨rfl, rfl⟩; refine hK4.out _ _ HS.out (fun _ => ?_); clear hK4 K4
   try (simp only [Act.put, qA, qB, qC, qD, qE, qF])
   refine wpAnyH_done (by kernel_rfl) ?_ _; exact HN.out HF.out _ _ _ _ _ _ _ _ _ _ _ _ _ _ _ _ _ _ _ _ _ HS.out
  ·have HF : Hid (ok = false) := qh (by rw [HOK.out, hq, decide_eq_false hd]; rfl)
   rw [decide_eq_false hd]; refine (Al _).mono ?_; unfold Ah; rintro e2 w2 ⟨rfl, rfl⟩; exact ⟨rfl, rfl, rfl, HF.out, HS.out.below⟩
theorem NR (s : Ls) (f : Nm → Int) (len : Int → Int) (B E B7 KB M SB PB : Nat) (w W : World) (hs : RgS s f B w) (hb : Below w.heap.size w W) (hL : LenW W s f B7 KB M SB PB len) (hM : w.heap.size ≤ M) (hdn : NumAt f w (Ak (blk s.da) (off s.da) s.dances)) (hbars : 1 ≤ s.bars ∧ s.bars ≤ 4096)
  (hP : ∀ d ∈ s.dances, ∀ V, LenW V s f B7 KB M SB PB len → Calls Try.prog 90 #[int i64 (f d.pn), .pointer (some ⟨KB, 0, none⟩), .pointer (some ⟨SB, 0, none⟩), .pointer (some ⟨B7, 0, none⟩)] V (Gq s f B7 KB M SB PB len (len (f d.pn)) V)) (hlb : ∀ d ∈ s.dances, 0 ≤ len (f d.pn) ∧ len (f d.pn) ≤ 4097)
  (_hl : s.dances.length ≤ 100000) (ds : List Deferred) (Q : Exit → Act → World → Prop) (e0 e3 e4 e5 e6 e8 e9 ea eb ec ed ee ef eg eh ei ej ek el em en eo ep eq er es et eu ev ew ex ey ez eA eB eC eD eE eF eG eH eI eJ eK eL eM eN eO eP eQ eR eS eT eU eV eW eX eY eZ aa ab ac ad ae af ag ah ai aj ak al am an ao ap aq ar au av aw ax ay az aA aB aC aD aE aF aG aH aI aJ aK aL aM aN aO aP aQ aR aS aT aU aV aW aX aY aZ ba bb bc bd be bf bg bh bi bj : Value)
  (hN : s.dances.all (C6 s f len) = true → ∀ (x0 x3 x4 x5 x6 x7 x8 x9 bk bl bm bn bo bp bq br bs bt bu bv bw bx bz bA bB bC bD bE bF bG bH bI bJ bK bL bM bN bO bP bQ bR bS bT bU bV bW bX bY bZ ca cb cc cd ce cf cg ch ci cj ck cl cm cn co cp cq cr cs ct cu cv cw cx cy cz cA cB cC cD cE cF cG cH cI cJ cK cL cM cN cO cP cQ cR cS cT cU cV cW cX cY cZ db dd de dg dh di dj dk dl dm dn dp dq dr dt du dv dw dx : Value) (V : World), Below w.heap.size w V → Q .normal { tmps := #[x0, .pointer (some ⟨B, 0, none⟩), .pointer (some ⟨E, 0, none⟩), x3, x4, x5, x6, x7, x8, x9, bk, bl, bm, bn, bo, bp, bq, br, bs, bt, bu, bv, bw, bx, bz, bA, bB, bC, bD, bE, bF, bG, bH, bI, bJ, bK, bL, bM, bN, bO, bP, bQ, bR, bS, bT, bU, bV, bW, bX, bY, bZ, ca, cb, cc, cd, ce, cf, cg, ch, ci, cj, ck, cl, cm, cn, co, cp, cq, cr, cs, ct, cu, cv, cw, cx, cy, cz, cA, cB, cC, cD, cE, cF, cG, cH, cI, cJ, cK, cL, cM, cN, cO, cP, cQ, cR, cS, cT, cU, cV, cW, cX, cY, cZ, db, dd, de, dg, dh, di, dj, dk, dl, dm, dn, dp, dq, dr, dt, du, dv, dw, dx], defers := ds } V)
  (hPa : s.dances.all (C6 s f len) = false → ∀ (t : Array Value) (V : World), t.getD 2 undef = .pointer (some ⟨E, 0, none⟩) → Below w.heap.size w V → Q (.panic Bu) { tmps := t, defers := ds } V) :
  elem29n10.wp Try.prog Q { tmps := #[e0, .pointer (some ⟨B, 0, none⟩), .pointer (some ⟨E, 0, none⟩), e3, e4, e5, e6, Hh KB SB B7, e8, e9, ea, eb, ec, ed, ee, ef, eg, eh, ei, ej, ek, el, em, en, eo, ep, eq, er, es, et, eu, ev, ew, ex, ey, ez, eA, eB, eC, eD, eE, eF, eG, eH, eI, eJ, eK, eL, eM, eN, eO, eP, eQ, eR, eS, eT, eU, eV, eW, eX, eY, eZ, aa, ab, ac, ad, ae, af, ag, ah, ai, aj, ak, al, am, an, ao, ap, aq, ar, au, av, aw, ax, ay, az, aA, aB, aC, aD, aE, aF, aG, aH, aI, aJ, aK, aL, aM, aN, aO, aP, aQ, aR, aS, aT, aU, aV, aW, aX, aY, aZ, ba, bb, bc, bd, be, bf, bg, bh, bi, bj], defers := ds } W := by
 have hS := hs.below hb; have y6 : W.cell? ⟨B, 11, none⟩ = some (.slice s.da s.dances.length s.dc) := Aa hS.box 11 rfl; have HN := qh hN; have HPA := qh hPa; have HB := qh hb; have HS := qh hs; have HL := qh hL; have HDN := qh hdn; have HPH := qh hP; have HLB := qh hlb; have HMw := qh hM; clear hN hPa hb hS hs hL hdn hP hlb hM; generalize hn : s.dances.length = n at *; have HLN := qh hn; clear hn
 conv => arg 2; whnf
 go_wp2_with fail; go_loopw [97] (fun iv wr => ∃ i : Nat, iv = int i64 i ∧ i ≤ n ∧ Hid (∀ d ∈ s.dances.take i, C6 s f len d = true) ∧ Hid (Below w.heap.size w wr) ∧ Hid (LenW wr s f B7 KB M SB PB len)) (fun iv _ => n + 1 - (intOf iv).toNat)
 case atStart => exact ⟨0, rfl, Nat.zero_le _, qh (by simp), HB, HL⟩
 case round =>
  obtain ⟨i, rfl, hin, hok, hB, hLw⟩ := hrel; by_cases hlt : i < n
  ·have hi : (i : Int) < (n : Int) := by omega
   obtain ⟨d, hd⟩ : ∃ d, s.dances[i]? = some d := ⟨_, qg (by rw [HLN.out]; exact hlt)⟩; have hdm := List.mem_of_getElem? hd; have hSr := HS.out.below hB.out; have hDr := HDN.out.below hB.out; obtain ⟨u1, c0, c1, c2, c3, c4, c5⟩ := G2 hSr.at_.dances hDr hd; have hda := hSr.at_.dform.resolve_left (fun e => by rw [e] at hd; cases hd); obtain ⟨W2, hW2, gW2, bW2, sW2⟩ := Ai wr #[sv d.rn, int i64 u1, sv d.pn, int i64 (f d.pn), int i64 d.bar, .bool d.mirror] 73; have y3 : W2.cell? ⟨B, 3, none⟩ = some (int i64 s.bars) := Aa (hSr.below bW2).box 3 rfl; have z3 := Aa gW2 3 rfl; have z4 := Aa gW2 4 rfl; have hL2 := hLw.out.below bW2; have HD2 : Hid (DanS s f len B B7 KB M SB PB wr.heap.size d.bar (f d.pn) w W2) := qh ⟨z3, z4, y3, hL2, Ag hB.out bW2⟩
   have hst : ∀ V V', DanS s f len B B7 KB M SB PB wr.heap.size d.bar (f d.pn) w V → LenW V' s f B7 KB M SB PB len → V.grownBy V' (some M) → DanS s f len B B7 KB M SB PB wr.heap.size d.bar (f d.pn) w V' := fun V V' h hl hg =>
    ⟨Bs h.num h.lw.isMap hg, Bs h.bar h.lw.isMap hg, Bs h.bars h.lw.isMap hg, hl, h.below.grown hg h.below.size (fun k hk => by cases hk; exact HMw.out)⟩
   have C := fun V (h : DanS s f len B B7 KB M SB PB wr.heap.size d.bar (f d.pn) w V) => (HPH.out d hdm V h.lw).mono fun e V' (hp : Gq s f B7 KB M SB PB len (len (f d.pn)) V e V') => (⟨hp.1, hst V V' h hp.2.1 hp.2.2⟩ : e = .returned (int i64 (len (f d.pn))) ∧ DanS s f len B B7 KB M SB PB wr.heap.size d.bar (f d.pn) w V')
   have HC := qh C; have HX := qh hd; have HLBD := qh (HLB.out d hdm); clear hd hdm hSr hDr gW2 bW2 sW2 hL2 C hst y3 z3 z4; have HW2 := qh hW2; clear hW2; generalize hga : s.da = da at *; have HGA := qh hga; clear hga; generalize hbb : blk da = fb at *; generalize hoo : off da = fo at *; subst hda; clear hbb hoo; refine Ac (fun K1 hK => ?_); have HK1 := qh hK; clear hK; go_wp2_with fail; refine HK1.out _ _ ?_; clear HK1 K1; refine Ac (fun K2 hK => ?_); have HK2 := qh hK; clear hK; go_wp2_with fail; refine HK2.out _ _ ?_; clear HK2 K2; refine Ac (fun K3 hK => ?_); have HK3 := qh hK; clear hK; refine wp_block ?_; refine Ac (fun K4 hK => ?_); have HK4 := qh hK; clear hK; go_wp2_with fail; refine HK4.out _ _ ?_; clear HK4 K4; rw [HW2.out]; change Code.wp Try.prog reg23 _ _ _; refine Code.wp_mono (fun e a V h => ?_) (Ms s f len B E B7 KB M SB PB wr.heap.size d.bar (f d.pn) (len (f d.pn)) w W2 HD2.out hbars HLBD.out HC.out (C6 s f len d) rfl ds K3 _ _ _ _ _ _ _ _ _ _ _ _ _ _ _ _ _ _ _ _ _ _ _ _ _ _ _ _ _ _ _ _ _ _ _ _ _ _ _ _ _ _ _ _ _ _ _ _ _ _ _ _ _ _ _ _ _ _ _ _ _ _ _ _ _ _ _ _ _ _ _ _ _ _ _ _ _ _ _ _ _ _ _ _ _ _ _ _ _ _ _ _ _ _ _ _ _ _ _ _ _ _ _ _ _ _ _ _ _ _ _ _ _ _ _ _ _ _ (fun hok2 => ?_))
   ·cases e with
    | normal => exact h
    | panic c =>
     obtain ⟨tm, df⟩ := a; obtain ⟨rfl, h2, h3, h4, h5⟩ := h; have h3' : df = ds := h3; subst h3'
     have hall : s.dances.all (C6 s f len) = false := by
      rw [← Bool.not_eq_true, List.all_eq_true]; intro h; rw [h d (List.mem_of_getElem? HX.out)] at h4; cases h4
     exact HPA.out hall tm V h2 h5
    | _ => exact h.elim
   ·intros
    rename_i V hV; refine HK3.out _ _ ?_; have HV := qh hV; have HOK2 := qh hok2; clear hV hok2 HK3 K3; go_wp2_with fail; go_roundw
    case rel => exact ⟨i + 1, by go_num, by omega, qh (F8 hok.out HX.out HOK2.out), qh HV.out.below, qh HV.out.lw⟩
    case measure => simp [intOf]; omega
  ·have : i = n := by omega
   subst this; have hz : ¬ (i : Int) < (i : Int) := by omega
   have hall : s.dances.all (C6 s f len) = true := List.all_eq_true.2 (fun x hx => hok.out x (by rw [List.take_of_length_le (by rw [HLN.out]; exact qn _)]; exact hx)); have HC := qh hall; clear hall; go_wp2_with fail; exact HN.out HC.out _ _ _ _ _ _ _ _ _ _ _ _ _ _ _ _ _ _ _ _ _ _ _ _ _ _ _ _ _ _ _ _ _ _ _ _ _ _ _ _ _ _ _ _ _ _ _ _ _ _ _ _ _ _ _ _ _ _ _ _ _ _ _ _ _ _ _ _ _ _ _ _ _ _ _ _ _ _ _ _ _ _ _ _ _ _ _ _ _ _ _ _ _ _ _ _ _ _ _ _ _ _ _ _ _ _ _ _ _ _ _ _ _ _ _ _ _ _ _ _ _ hB.out
end
section
open Go Go.RowKit
def AG (s : Sc) (nm : Nm) : Int := (s.pnames.idxOf nm : Nat)
theorem Dh {s : Sc} {ns : List Int} (h : Bp s ns = 0) : s.lims = true ∧ s.named = true ∧ s.apart = true ∧ s.kinds = true ∧ AA s.rnames s.pnames s.refs ns = some ns := by
 unfold Bp at h
 split at h
 ·rename_i h0
  obtain ⟨h1, h2, h3, _⟩ := LV h0
  split at h
  ·rename_i hi
   unfold Sc.idx at hi
   split at hi
   ·rename_i hk
    exact ⟨h1, h2, h3, hk, hi⟩
   ·cases hi
  ·omega
 ·contradiction
theorem J5 {R P : List Nm} {W : World} : ∀ {xs : List RefL} {ns : List Int}, NsAt W xs ns → AA R P (xs.map RefL.key) ns = some ns → ∀ x ∈ xs, ∃ n, W.cell? ⟨x.b, x.o + 1, none⟩ = some (int i64 n) ∧ (x.to = 2 → x.nm ∈ P ∧ n = (P.idxOf x.nm : Nat))
 | [], _, _, _, x, hx => by cases hx
 | y :: ys, [], h, _, _, _ => h.elim
 | y :: ys, n :: ns, ⟨h1, h2⟩, hi, x, hx => by
  simp only [List.map_cons, AA] at hi
  cases hr : Bk R P y.key n with
  | none => rw [hr] at hi; cases hi
  | some k =>
   cases hrs : AA R P (ys.map RefL.key) ns with
   | none => rw [hr, hrs] at hi; cases hi
   | some ks =>
    rw [hr, hrs] at hi; simp only [Option.some.injEq, List.cons.injEq] at hi; obtain ⟨rfl, rfl⟩ := hi; rcases List.mem_cons.1 hx with rfl | hx
    ·refine ⟨k, h1, fun ht => ?_⟩
     unfold Bk RefL.key at hr; simp only [ht] at hr; rw [if_neg (by decide), if_neg (by decide)] at hr
     split at hr
     ·rename_i hm
      cases hr; exact ⟨hm, rfl⟩
     ·cases hr
    ·exact J5 h2 hrs x hx
theorem Gu {R P : List Nm} : ∀ {rs : List (Nat × Nm)} {ns ks : List Int}, AA R P rs ns = some ks → ∀ nm, (2, nm) ∈ rs → nm ∈ P
 | [], _, _, _, _, h => by cases h
 | r :: rs, [], _, h, _, _ => by cases h
 | r :: rs, n :: ns, ks, h, nm, hm => by
  simp only [AA] at h
  cases hr : Bk R P r n with
  | none => rw [hr] at h; cases h
  | some k =>
   cases hrs : AA R P rs ns with
   | none => rw [hr, hrs] at h; cases h
   | some ks' =>
    rcases List.mem_cons.1 hm with rfl | hm
    ·unfold Bk at hr
     rw [if_neg (by simp), if_neg (by simp)] at hr
     split at hr
     ·assumption
     ·cases hr
    ·exact Gu hrs nm hm
theorem J9 {s : Ls} {ns : List Int} {W : World} (h : Bp s.strip ns = 0) (hN : NsAt W s.refs ns) : NumAt (AG s.strip) W s.refs := fun x hx => by
 obtain ⟨_, _, _, _, hi⟩ := Dh h; rw [← s.refs_key] at hi; obtain ⟨n, h1, h2⟩ := J5 hN hi x hx; exact ⟨n, h1, fun ht => (h2 ht).2⟩
theorem FC (f : Nm → Int) : ∀ (t : Its) (u : Int), u ∈ t.uses f → ∃ nm, (2, nm) ∈ t.refs ∧ u = f nm
 | .nil, _, h => by cases h
 | .cons k _ un its ms r, u, h => by
  simp only [Its.uses, List.mem_append] at h; rcases h with h | h | h
  ·split at h
   ·rename_i hk
    simp at h; exact ⟨un, by simp [Its.refs, Bh, hk], h⟩
   ·cases h
  ·obtain ⟨nm, h1, h2⟩ := FC f its u h
   exact ⟨nm, by simp [Its.refs, h1], h2⟩
  ·obtain ⟨nm, h1, h2⟩ := FC f r u h
   exact ⟨nm, by simp [Its.refs, h1], h2⟩
theorem Jf {s : Sc} {nm : Nm} (h : nm ∈ s.pnames) : ∃ i : Nat, AG s nm = i ∧ i < s.phrases.length := by
 refine ⟨s.pnames.idxOf nm, rfl, ?_⟩; have := List.idxOf_lt_length_iff.2 h; simpa [Sc.pnames] using this
theorem Jo {s : Ls} {ns : List Int} (h : Bp s.strip ns = 0) : KD s.itsL (AG s.strip) := fun t ht u hu => by
 obtain ⟨_, _, _, _, hi⟩ := Dh h; obtain ⟨nm, h1, rfl⟩ := FC _ t u hu; obtain ⟨p, hp, rfl⟩ := List.mem_map.1 ht
 have hm : (2, nm) ∈ s.strip.refs := by
  unfold Sc.refs; exact List.mem_append.2 (Or.inl (List.mem_flatMap.2 ⟨p.strip, List.mem_map.2 ⟨p, hp, rfl⟩, h1⟩))
 obtain ⟨i, h2, h3⟩ := Jf (Gu hi nm hm); exact ⟨i, h2, by simpa [Ls.itsL, Ls.strip] using h3⟩
theorem G4 {s : Ls} {ns : List Int} (h : Bp s.strip ns = 0) {d : Dan} (hd : d ∈ s.dances) : ∃ i : Nat, AG s.strip d.pn = i ∧ i < s.phrases.length := by
 obtain ⟨_, _, _, _, hi⟩ := Dh h
 have hm : (2, d.pn) ∈ s.strip.refs := by
  unfold Sc.refs; exact List.mem_append.2 (Or.inr (List.mem_flatMap.2 ⟨d, hd, by simp⟩))
 obtain ⟨i, h2, h3⟩ := Jf (Gu hi d.pn hm); exact ⟨i, h2, by simpa [Ls.strip] using h3⟩
theorem small_of {s : Ls} {ns : List Int} (h : Bp s.strip ns = 0) : s.roles.length ≤ 64 ∧ s.phrases.length ≤ 64 ∧ s.dances.length ≤ 256 := by
 obtain ⟨hl, _⟩ := Dh h; unfold Sc.lims Sc.fit at hl; simp only [Bool.and_eq_true, decide_eq_true_eq] at hl; obtain ⟨⟨h1, _, _, _, h5, h6⟩, _⟩ := hl; simp only [Ls.strip, List.length_map] at h1 h5 h6; exact ⟨h1, h5, h6⟩
def FB (s : Ls) (f : Nm → Int) : Bool := (inB s.wd 1 1000 && inB s.dp 1 1000) && ((inB s.t0 1 127 && inB s.t1 0 s.t0) && (s.roles.all (BD s) && (decide (BL ⟨s.bars, s.tempos, s.pauses, s.spans⟩ = 0) && (s.phrases.all (fun p => p.its.strip.exB) && (decide (Bf (s.nexts f) = []) && s.dances.all (C6 s f (C7 s.itsL f)))))))
def AE (s : Ls) (ns : List Int) : Int := if Bp s.strip ns = 0 then (if FB s (AG s.strip) then 0 else 180) else Bp s.strip ns
def DD (s : Ls) (ns : List Int) (w : World) (e : Ending) (w' : World) : Prop := e = .returned (int i64 (AE s ns)) ∧ Below w.heap.size w w'
theorem GS {b : Int} {t : List Tmp} {p : List Pau} {c : List Con} (h : BL ⟨b, t, p, c⟩ = 0) : 1 ≤ b ∧ b ≤ 4096 := by
 unfold BL at h
 split at h
 ·split at h
  ·rename_i hb
   unfold CB B9 at hb; simp only [Bool.and_eq_true] at hb; exact AY.1 hb.1.1.1.1.1
  ·omega
 ·omega
end
section
open Go Go.RowKit
theorem Py : Ab 10 AI = .seq elem29n10 (Ab 11 AI) := rfl
theorem NU (E B : Nat) (W : World) (s : Ls) (ns : List Int) (w0 : World) (hE : W.heap[E]? = some (.cells #[int i64 0] 35 (0, 0))) (hlow : w0.heap.size ≤ E) (hb : Below w0.heap.size w0 W) (h0 : AE s ns = 0) (e0 e3 e4 e5 e6 e7 e8 e9 ea eb ec ed ee ef eg eh ei ej ek el em en eo ep eq er es et eu ev ew ex ey ez eA eB eC eD eE eF eG eH eI eJ eK eL eM eN eO eP eQ eR eS eT eU eV eW eX eY eZ aa ab ac ad ae af ag ah ai aj ak al am an ao ap aq ar au av aw ax ay az aA aB aC aD aE aF aG aH aI aJ aK aL aM aN aO aP aQ aR aS aT aU aV aW aX aY aZ ba bb bc bd be bf bg bh bi bj : Value) :
  (Ab 11 AI).wp Try.prog (bodyPostD Try.prog Try.f29 (DD s ns w0)) { tmps := #[e0, .pointer (some ⟨B, 0, none⟩), .pointer (some ⟨E, 0, none⟩), e3, e4, e5, e6, e7, e8, e9, ea, eb, ec, ed, ee, ef, eg, eh, ei, ej, ek, el, em, en, eo, ep, eq, er, es, et, eu, ev, ew, ex, ey, ez, eA, eB, eC, eD, eE, eF, eG, eH, eI, eJ, eK, eL, eM, eN, eO, eP, eQ, eR, eS, eT, eU, eV, eW, eX, eY, eZ, aa, ab, ac, ad, ae, af, ag, ah, ai, aj, ak, al, am, an, ao, ap, aq, ar, au, av, aw, ax, ay, az, aA, aB, aC, aD, aE, aF, aG, aH, aI, aJ, aK, aL, aM, aN, aO, aP, aQ, aR, aS, aT, aU, aV, aW, aX, aY, aZ, ba, bb, bc, bd, be, bf, bg, bh, bi, bj], defers := [CW E] } W := by
 have c0 := cell_of_one hE; have f0 := free_of_one hE; have HE := qh hE; have HB := qh hb; have H0 := qh h0; clear hE hb h0
 conv => arg 2; whnf
 go_wp2_with fail; refine LS _ E _ _ (int i64 0) rfl (cell_of_one (one_setCell HE.out)) ⟨by rw [H0.out], HB.out.setCell (p := ⟨E, 0, none⟩) hlow _⟩
theorem Cl (E : Nat) (s : Ls) (ns : List Int) (w0 w : World) (hlow : w0.heap.size ≤ E) (hb : Below w0.heap.size w0 w) (hE : w.heap[E]? = some (.cells #[int i64 0] 35 (0, 0))) (h0 : AE s ns = 180) (t : Array Value) (V : World) (ht : t.getD 2 undef = .pointer (some ⟨E, 0, none⟩)) (hV : Below w.heap.size w V) :
  bodyPostD Try.prog Try.f29 (DD s ns w0) (.panic Bu) { tmps := t, defers := [CW E] } V :=
 K8 t E _ V _ ht (Am hV hE) fun w' hw => ⟨by rw [h0], (Ag hb hV).trans (hw.mono hlow)⟩
theorem Pd (s : Ls) (ns : List Int) (B E : Nat) (w0 w W : World) (hc : Bp s.strip ns = 0) (hs : RgS s (AG s.strip) B w) (hdn : NumAt (AG s.strip) w (Ak (blk s.da) (off s.da) s.dances)) (hE : w.heap[E]? = some (.cells #[int i64 0] 35 (0, 0))) (hlow : w0.heap.size ≤ E) (hb0 : Below w0.heap.size w0 w) (hb : Below w.heap.size w W) (hx : s.phrases.all (fun p => p.its.strip.exB) = true) (hr : Bf (s.nexts (AG s.strip)) = []) (hbars : 1 ≤ s.bars ∧ s.bars ≤ 4096) (hsnd : AE s ns = if s.dances.all (C6 s (AG s.strip) (C7 s.itsL (AG s.strip))) = true then 0 else 180) (e0 e3 e4 e5 e6 e7 e8 e9 ea eb ec ed ee ef eg eh ei ej ek el em en eo ep eq er es et eu ev ew ex ey ez eA eB eC eD eE eF eG eH eI eJ eK eL eM eN eO eP eQ eR eS eT eU eV eW eX eY eZ aa ab ac ad ae af ag ah ai aj ak al am an ao ap aq ar au av aw ax ay az aA aB aC aD aE aF aG aH aI aJ aK aL aM aN aO aP aQ aR aS aT aU aV aW aX aY aZ ba bb bc bd be bf bg bh bi bj : Value) :
  (Ab 9 AI).wp Try.prog (bodyPostD Try.prog Try.f29 (DD s ns w0)) { tmps := #[e0, .pointer (some ⟨B, 0, none⟩), .pointer (some ⟨E, 0, none⟩), e3, e4, e5, e6, e7, e8, e9, ea, eb, ec, ed, ee, ef, eg, eh, ei, ej, ek, el, em, en, eo, ep, eq, er, es, et, eu, ev, ew, ex, ey, ez, eA, eB, eC, eD, eE, eF, eG, eH, eI, eJ, eK, eL, eM, eN, eO, eP, eQ, eR, eS, eT, eU, eV, eW, eX, eY, eZ, aa, ab, ac, ad, ae, af, ag, ah, ai, aj, ak, al, am, an, ao, ap, aq, ar, au, av, aw, ax, ay, az, aA, aB, aC, aD, aE, aF, aG, aH, aI, aJ, aK, aL, aM, aN, aO, aP, aQ, aR, aS, aT, aU, aV, aW, aX, aY, aZ, ba, bb, bc, bd, be, bf, bg, bh, bi, bj], defers := [CW E] } W := by
 have hsm := small_of hc; have hok := Lw hx hr (Jo hc)
 have hph : ∀ d ∈ s.dances, ∀ (B7 KB M SB PB : Nat) (V : World), LenW V s (AG s.strip) B7 KB M SB PB (C7 s.itsL (AG s.strip)) → Calls Try.prog 90 #[int i64 (AG s.strip d.pn), .pointer (some ⟨KB, 0, none⟩), .pointer (some ⟨SB, 0, none⟩), .pointer (some ⟨B7, 0, none⟩)] V (Gq s (AG s.strip) B7 KB M SB PB (C7 s.itsL (AG s.strip)) (C7 s.itsL (AG s.strip) (AG s.strip d.pn)) V) := fun d hd B7 KB M SB PB V hV => by
  obtain ⟨i, hi, hil⟩ := G4 hc hd; rw [hi]; exact Jh s (AG s.strip) B7 KB M SB PB _ _ hok (by omega) _ i (qn _) hil V hV
 have hlb : ∀ d ∈ s.dances, 0 ≤ C7 s.itsL (AG s.strip) (AG s.strip d.pn) ∧ C7 s.itsL (AG s.strip) (AG s.strip d.pn) ≤ 4097 := fun d hd => by
  obtain ⟨i, hi, hil⟩ := G4 hc hd; rw [hi]; exact hok.bound i hil
 rw [N9]; refine Ac (fun K hK => ?_); have HK := qh hK; clear hK; refine P6 s (AG s.strip) (C7 s.itsL (AG s.strip)) B E w W hs hb [CW E] _ _ _ _ _ _ _ _ _ _ _ _ _ _ _ _ _ _ _ _ _ _ _ _ _ _ _ _ _ _ _ _ _ _ _ _ _ _ _ _ _ _ _ _ _ _ _ _ _ _ _ _ _ _ _ _ _ _ _ _ _ _ _ _ _ _ _ _ _ _ _ _ _ _ _ _ _ _ _ _ _ _ _ _ _ _ _ _ _ _ _ _ _ _ _ _ _ _ _ _ _ _ _ _ _ _ _ _ _ _ _ _ _ _ _ _ _ _ _ _ _ ?_; intro B7 KB M SB PB x0 x3 x4 x5 x6 x8 x9 bk bl bm bn bo bp bq br bs bt bu bv bw bx bz bA bB bC bD bE bF bG bH bI bJ bK bL bM bN bO bP bQ bR bS bT bU bV bW bX bY bZ ca cb cc cd ce cf cg ch ci cj ck cl cm cn co cp cq cr cs ct cu cv cw cx cy cz cA cB cC cD cE cF cG cH cI cJ cK cL cM cN cO cP cQ cR cS cT cU cV cW cX cY cZ db dc dd de df dg dh di dj dk dl dm dn dp dq dr ds dt du V hLW hM hV; refine HK.out _ _ ?_; clear HK K; rw [Py]; refine Ac (fun K hK => ?_); have HK := qh hK; clear hK; refine NR s (AG s.strip) (C7 s.itsL (AG s.strip)) B E B7 KB M SB PB w V hs hV hLW hM hdn hbars (fun d hd V hV => hph d hd B7 KB M SB PB V hV) hlb (by omega) [CW E] _ _ _ _ _ _ _ _ _ _ _ _ _ _ _ _ _ _ _ _ _ _ _ _ _ _ _ _ _ _ _ _ _ _ _ _ _ _ _ _ _ _ _ _ _ _ _ _ _ _ _ _ _ _ _ _ _ _ _ _ _ _ _ _ _ _ _ _ _ _ _ _ _ _ _ _ _ _ _ _ _ _ _ _ _ _ _ _ _ _ _ _ _ _ _ _ _ _ _ _ _ _ _ _ _ _ _ _ _ _ _ _ _ _ _ _ _ _ _ _ (fun hd x0 x3 x4 x5 x6 x7 x8 x9 bk bl bm bn bo bp bq br bs bt bu bv bw bx bz bA bB bC bD bE bF bG bH bI bJ bK bL bM bN bO bP bQ bR bS bT bU bV bW bX bY bZ ca cb cc cd ce cf cg ch ci cj ck cl cm cn co cp cq cr cs ct cu cv cw cx cy cz cA cB cC cD cE cF cG cH cI cJ cK cL cM cN cO cP cQ cR cS cT cU cV cW cX cY cZ db dc dd de df dg dh di dj dk dl dm dn dp dq dr ds dt du V hV => ?_) (fun hd t V ht hV => ?_)
 ·refine HK.out _ _ ?_
  exact NU E B V s ns w0 (Am hV hE) hlow (Ag hb0 hV) (by rw [hsnd, if_pos hd]) _ _ _ _ _ _ _ _ _ _ _ _ _ _ _ _ _ _ _ _ _ _ _ _ _ _ _ _ _ _ _ _ _ _ _ _ _ _ _ _ _ _ _ _ _ _ _ _ _ _ _ _ _ _ _ _ _ _ _ _ _ _ _ _ _ _ _ _ _ _ _ _ _ _ _ _ _ _ _ _ _ _ _ _ _ _ _ _ _ _ _ _ _ _ _ _ _ _ _ _ _ _ _ _ _ _ _ _ _ _ _ _ _ _ _ _ _ _ _ _
 ·exact Cl E s ns w0 w hlow hb0 hE (by rw [hsnd, if_neg (by rw [hd]; simp)]) t V ht hV
theorem Pc (s : Ls) (ns : List Int) (B E : Nat) (w0 w W : World) (hc : Bp s.strip ns = 0) (hs : RgS s (AG s.strip) B w) (hdn : NumAt (AG s.strip) w (Ak (blk s.da) (off s.da) s.dances)) (hE : w.heap[E]? = some (.cells #[int i64 0] 35 (0, 0))) (hlow : w0.heap.size ≤ E) (hb0 : Below w0.heap.size w0 w) (hb : Below w.heap.size w W) (hx : s.phrases.all (fun p => p.its.strip.exB) = true) (hbars : 1 ≤ s.bars ∧ s.bars ≤ 4096) (hsnd : AE s ns = if (decide (Bf (s.nexts (AG s.strip)) = []) && s.dances.all (C6 s (AG s.strip) (C7 s.itsL (AG s.strip)))) = true then 0 else 180) (e0 e3 e4 e5 e6 e7 e8 e9 ea eb ec ed ee ef eg eh ei ej ek el em en eo ep eq er es et eu ev ew ex ey ez eA eB eC eD eE eF eG eH eI eJ eK eL eM eN eO eP eQ eR eS eT eU eV eW eX eY eZ aa ab ac ad ae af ag ah ai aj ak al am an ao ap aq ar au av aw ax ay az aA aB aC aD aE aF aG aH aI aJ aK aL aM aN aO aP aQ aR aS aT aU aV aW aX aY aZ ba bb bc bd be bf bg bh bi bj : Value) :
  (Ab 8 AI).wp Try.prog (bodyPostD Try.prog Try.f29 (DD s ns w0)) { tmps := #[e0, .pointer (some ⟨B, 0, none⟩), .pointer (some ⟨E, 0, none⟩), e3, e4, e5, e6, e7, e8, e9, ea, eb, ec, ed, ee, ef, eg, eh, ei, ej, ek, el, em, en, eo, ep, eq, er, es, et, eu, ev, ew, ex, ey, ez, eA, eB, eC, eD, eE, eF, eG, eH, eI, eJ, eK, eL, eM, eN, eO, eP, eQ, eR, eS, eT, eU, eV, eW, eX, eY, eZ, aa, ab, ac, ad, ae, af, ag, ah, ai, aj, ak, al, am, an, ao, ap, aq, ar, au, av, aw, ax, ay, az, aA, aB, aC, aD, aE, aF, aG, aH, aI, aJ, aK, aL, aM, aN, aO, aP, aQ, aR, aS, aT, aU, aV, aW, aX, aY, aZ, ba, bb, bc, bd, be, bf, bg, bh, bi, bj], defers := [CW E] } W := by
 rw [N8]; refine Ac (fun K hK => ?_); have HK := qh hK; clear hK; refine P5 s (AG s.strip) B E w W hs hb (by have := small_of hc; omega) [CW E] _ _ _ _ _ _ _ _ _ _ _ _ _ _ _ _ _ _ _ _ _ _ _ _ _ _ _ _ _ _ _ _ _ _ _ _ _ _ _ _ _ _ _ _ _ _ _ _ _ _ _ _ _ _ _ _ _ _ _ _ _ _ _ _ _ _ _ _ _ _ _ _ _ _ _ _ _ _ _ _ _ _ _ _ _ _ _ _ _ _ _ _ _ _ _ _ _ _ _ _ _ _ _ _ _ _ _ _ _ _ _ _ _ _ _ _ _ _ _ _ _ (fun hd x0 x3 x4 x5 x6 x7 x8 x9 x10 x11 x12 x13 x14 x15 x16 x17 x18 x19 x20 x21 x22 x23 x24 x25 x26 x27 x28 x29 x30 x31 x32 x33 x34 x35 x36 x37 x38 x39 x40 x41 x42 x43 x44 x45 x46 x47 x48 x49 x50 x51 x52 x53 x54 x55 x56 x57 x58 x59 x60 x61 x62 x63 x64 x65 x66 x67 x68 x69 x70 x71 x72 x73 x74 x75 x76 x77 x78 x79 x80 x81 x82 x83 x84 x85 x86 x87 x88 x89 x90 x91 x92 x93 x94 x95 x96 x97 x98 x99 x100 x101 x102 x103 x104 x105 x106 x107 x108 x109 x110 x111 x112 x113 x114 x115 x116 x117 x118 x119 x120 x121 V hV => ?_) (fun hd t V ht hV => ?_)
 ·refine HK.out _ _ ?_
  exact Pd s ns B E w0 w V hc hs hdn hE hlow hb0 hV hx (of_decide_eq_true hd) hbars (by rw [hsnd, hd, Bool.true_and]) _ _ _ _ _ _ _ _ _ _ _ _ _ _ _ _ _ _ _ _ _ _ _ _ _ _ _ _ _ _ _ _ _ _ _ _ _ _ _ _ _ _ _ _ _ _ _ _ _ _ _ _ _ _ _ _ _ _ _ _ _ _ _ _ _ _ _ _ _ _ _ _ _ _ _ _ _ _ _ _ _ _ _ _ _ _ _ _ _ _ _ _ _ _ _ _ _ _ _ _ _ _ _ _ _ _ _ _ _ _ _ _ _ _ _ _ _ _ _ _
 ·exact Cl E s ns w0 w hlow hb0 hE (by rw [hsnd, hd, Bool.false_and, if_neg (by simp)]) t V ht hV
theorem Pb (s : Ls) (ns : List Int) (B E : Nat) (w0 w W : World) (hc : Bp s.strip ns = 0) (hs : RgS s (AG s.strip) B w) (hdn : NumAt (AG s.strip) w (Ak (blk s.da) (off s.da) s.dances)) (hE : w.heap[E]? = some (.cells #[int i64 0] 35 (0, 0))) (hlow : w0.heap.size ≤ E) (hb0 : Below w0.heap.size w0 w) (hb : Below w.heap.size w W) (hbars : 1 ≤ s.bars ∧ s.bars ≤ 4096) (hsnd : AE s ns = if (s.phrases.all (fun p => p.its.strip.exB) && (decide (Bf (s.nexts (AG s.strip)) = []) && s.dances.all (C6 s (AG s.strip) (C7 s.itsL (AG s.strip))))) = true then 0 else 180) (e0 e3 e4 e5 e6 e7 e8 e9 ea eb ec ed ee ef eg eh ei ej ek el em en eo ep eq er es et eu ev ew ex ey ez eA eB eC eD eE eF eG eH eI eJ eK eL eM eN eO eP eQ eR eS eT eU eV eW eX eY eZ aa ab ac ad ae af ag ah ai aj ak al am an ao ap aq ar au av aw ax ay az aA aB aC aD aE aF aG aH aI aJ aK aL aM aN aO aP aQ aR aS aT aU aV aW aX aY aZ ba bb bc bd be bf bg bh bi bj : Value) :
  (Ab 7 AI).wp Try.prog (bodyPostD Try.prog Try.f29 (DD s ns w0)) { tmps := #[e0, .pointer (some ⟨B, 0, none⟩), .pointer (some ⟨E, 0, none⟩), e3, e4, e5, e6, e7, e8, e9, ea, eb, ec, ed, ee, ef, eg, eh, ei, ej, ek, el, em, en, eo, ep, eq, er, es, et, eu, ev, ew, ex, ey, ez, eA, eB, eC, eD, eE, eF, eG, eH, eI, eJ, eK, eL, eM, eN, eO, eP, eQ, eR, eS, eT, eU, eV, eW, eX, eY, eZ, aa, ab, ac, ad, ae, af, ag, ah, ai, aj, ak, al, am, an, ao, ap, aq, ar, au, av, aw, ax, ay, az, aA, aB, aC, aD, aE, aF, aG, aH, aI, aJ, aK, aL, aM, aN, aO, aP, aQ, aR, aS, aT, aU, aV, aW, aX, aY, aZ, ba, bb, bc, bd, be, bf, bg, bh, bi, bj], defers := [CW E] } W := by
 rw [N7]; refine Ac (fun K hK => ?_); have HK := qh hK; clear hK; refine P4 s (AG s.strip) B E w W hs hb (by have := small_of hc; omega) [CW E] _ _ _ _ _ _ _ _ _ _ _ _ _ _ _ _ _ _ _ _ _ _ _ _ _ _ _ _ _ _ _ _ _ _ _ _ _ _ _ _ _ _ _ _ _ _ _ _ _ _ _ _ _ _ _ _ _ _ _ _ _ _ _ _ _ _ _ _ _ _ _ _ _ _ _ _ _ _ _ _ _ _ _ _ _ _ _ _ _ _ _ _ _ _ _ _ _ _ _ _ _ _ _ _ _ _ _ _ _ _ _ _ _ _ _ _ _ _ _ _ _ (fun hd x0 x3 x4 x5 x6 x7 x8 x9 x10 x11 x12 x13 x14 x15 x16 x17 x18 x19 x20 x21 x22 x23 x24 x25 x26 x27 x28 x29 x30 x31 x32 x33 x34 x35 x36 x37 x38 x39 x40 x41 x42 x43 x44 x45 x46 x47 x48 x49 x50 x51 x52 x53 x54 x55 x56 x57 x58 x59 x60 x61 x62 x63 x64 x65 x66 x67 x68 x69 x70 x71 x72 x73 x74 x75 x76 x77 x78 x79 x80 x81 x82 x83 x84 x85 x86 x87 x88 x89 x90 x91 x92 x93 x94 x95 x96 x97 x98 x99 x100 x101 x102 x103 x104 x105 x106 x107 x108 x109 x110 x111 x112 x113 x114 x115 x116 x117 x118 x119 x120 x121 V hV => ?_) (fun hd t V ht hV => ?_)
 ·refine HK.out _ _ ?_
  exact Pc s ns B E w0 w V hc hs hdn hE hlow hb0 hV hd hbars (by rw [hsnd, hd, Bool.true_and]) _ _ _ _ _ _ _ _ _ _ _ _ _ _ _ _ _ _ _ _ _ _ _ _ _ _ _ _ _ _ _ _ _ _ _ _ _ _ _ _ _ _ _ _ _ _ _ _ _ _ _ _ _ _ _ _ _ _ _ _ _ _ _ _ _ _ _ _ _ _ _ _ _ _ _ _ _ _ _ _ _ _ _ _ _ _ _ _ _ _ _ _ _ _ _ _ _ _ _ _ _ _ _ _ _ _ _ _ _ _ _ _ _ _ _ _ _ _ _ _
 ·exact Cl E s ns w0 w hlow hb0 hE (by rw [hsnd, hd, Bool.false_and, if_neg (by simp)]) t V ht hV
theorem Pa (s : Ls) (ns : List Int) (B E : Nat) (w0 w W : World) (hc : Bp s.strip ns = 0) (hs : RgS s (AG s.strip) B w) (hdn : NumAt (AG s.strip) w (Ak (blk s.da) (off s.da) s.dances)) (hE : w.heap[E]? = some (.cells #[int i64 0] 35 (0, 0))) (hlow : w0.heap.size ≤ E) (hb0 : Below w0.heap.size w0 w) (hb : Below w.heap.size w W) (hsnd : AE s ns = if (decide (BL ⟨s.bars, s.tempos, s.pauses, s.spans⟩ = 0) && (s.phrases.all (fun p => p.its.strip.exB) && (decide (Bf (s.nexts (AG s.strip)) = []) && s.dances.all (C6 s (AG s.strip) (C7 s.itsL (AG s.strip)))))) = true then 0 else 180) (e0 e3 e4 e5 e6 e7 e8 e9 ea eb ec ed ee ef eg eh ei ej ek el em en eo ep eq er es et eu ev ew ex ey ez eA eB eC eD eE eF eG eH eI eJ eK eL eM eN eO eP eQ eR eS eT eU eV eW eX eY eZ aa ab ac ad ae af ag ah ai aj ak al am an ao ap aq ar au av aw ax ay az aA aB aC aD aE aF aG aH aI aJ aK aL aM aN aO aP aQ aR aS aT aU aV aW aX aY aZ ba bb bc bd be bf bg bh bi bj : Value) :
  (Ab 6 AI).wp Try.prog (bodyPostD Try.prog Try.f29 (DD s ns w0)) { tmps := #[e0, .pointer (some ⟨B, 0, none⟩), .pointer (some ⟨E, 0, none⟩), e3, e4, e5, e6, e7, e8, e9, ea, eb, ec, ed, ee, ef, eg, eh, ei, ej, ek, el, em, en, eo, ep, eq, er, es, et, eu, ev, ew, ex, ey, ez, eA, eB, eC, eD, eE, eF, eG, eH, eI, eJ, eK, eL, eM, eN, eO, eP, eQ, eR, eS, eT, eU, eV, eW, eX, eY, eZ, aa, ab, ac, ad, ae, af, ag, ah, ai, aj, ak, al, am, an, ao, ap, aq, ar, au, av, aw, ax, ay, az, aA, aB, aC, aD, aE, aF, aG, aH, aI, aJ, aK, aL, aM, aN, aO, aP, aQ, aR, aS, aT, aU, aV, aW, aX, aY, aZ, ba, bb, bc, bd, be, bf, bg, bh, bi, bj], defers := [CW E] } W := by
 rw [N6]; refine Ac (fun K hK => ?_); have HK := qh hK; clear hK; refine P3 s (AG s.strip) B E w W hs hb [CW E] _ _ _ _ _ _ _ _ _ _ _ _ _ _ _ _ _ _ _ _ _ _ _ _ _ _ _ _ _ _ _ _ _ _ _ _ _ _ _ _ _ _ _ _ _ _ _ _ _ _ _ _ _ _ _ _ _ _ _ _ _ _ _ _ _ _ _ _ _ _ _ _ _ _ _ _ _ _ _ _ _ _ _ _ _ _ _ _ _ _ _ _ _ _ _ _ _ _ _ _ _ _ _ _ _ _ _ _ _ _ _ _ _ _ _ _ _ _ _ _ _ (fun hd x0 x3 x4 x5 x6 x7 x8 x9 x10 x11 x12 x13 x14 x15 x16 x17 x18 x19 x20 x21 x22 x23 x24 x25 x26 x27 x28 x29 x30 x31 x32 x33 x34 x35 x36 x37 x38 x39 x40 x41 x42 x43 x44 x45 x46 x47 x48 x49 x50 x51 x52 x53 x54 x55 x56 x57 x58 x59 x60 x61 x62 x63 x64 x65 x66 x67 x68 x69 x70 x71 x72 x73 x74 x75 x76 x77 x78 x79 x80 x81 x82 x83 x84 x85 x86 x87 x88 x89 x90 x91 x92 x93 x94 x95 x96 x97 x98 x99 x100 x101 x102 x103 x104 x105 x106 x107 x108 x109 x110 x111 x112 x113 x114 x115 x116 x117 x118 x119 x120 x121 V hV => ?_) (fun hd t V ht hV => ?_)
 ·refine HK.out _ _ ?_
  exact Pb s ns B E w0 w V hc hs hdn hE hlow hb0 hV (GS (of_decide_eq_true hd)) (by rw [hsnd, hd, Bool.true_and]) _ _ _ _ _ _ _ _ _ _ _ _ _ _ _ _ _ _ _ _ _ _ _ _ _ _ _ _ _ _ _ _ _ _ _ _ _ _ _ _ _ _ _ _ _ _ _ _ _ _ _ _ _ _ _ _ _ _ _ _ _ _ _ _ _ _ _ _ _ _ _ _ _ _ _ _ _ _ _ _ _ _ _ _ _ _ _ _ _ _ _ _ _ _ _ _ _ _ _ _ _ _ _ _ _ _ _ _ _ _ _ _ _ _ _ _ _ _ _ _
 ·exact Cl E s ns w0 w hlow hb0 hE (by rw [hsnd, hd, Bool.false_and, if_neg (by simp)]) t V ht hV
theorem P9 (s : Ls) (ns : List Int) (B E : Nat) (w0 w W : World) (hc : Bp s.strip ns = 0) (hs : RgS s (AG s.strip) B w) (hdn : NumAt (AG s.strip) w (Ak (blk s.da) (off s.da) s.dances)) (hE : w.heap[E]? = some (.cells #[int i64 0] 35 (0, 0))) (hlow : w0.heap.size ≤ E) (hb0 : Below w0.heap.size w0 w) (hb : Below w.heap.size w W) (hsnd : AE s ns = if (s.roles.all (BD s) && (decide (BL ⟨s.bars, s.tempos, s.pauses, s.spans⟩ = 0) && (s.phrases.all (fun p => p.its.strip.exB) && (decide (Bf (s.nexts (AG s.strip)) = []) && s.dances.all (C6 s (AG s.strip) (C7 s.itsL (AG s.strip))))))) = true then 0 else 180) (e0 e3 e4 e5 e6 e7 e8 e9 ea eb ec ed ee ef eg eh ei ej ek el em en eo ep eq er es et eu ev ew ex ey ez eA eB eC eD eE eF eG eH eI eJ eK eL eM eN eO eP eQ eR eS eT eU eV eW eX eY eZ aa ab ac ad ae af ag ah ai aj ak al am an ao ap aq ar au av aw ax ay az aA aB aC aD aE aF aG aH aI aJ aK aL aM aN aO aP aQ aR aS aT aU aV aW aX aY aZ ba bb bc bd be bf bg bh bi bj : Value) :
  (Ab 5 AI).wp Try.prog (bodyPostD Try.prog Try.f29 (DD s ns w0)) { tmps := #[e0, .pointer (some ⟨B, 0, none⟩), .pointer (some ⟨E, 0, none⟩), e3, e4, e5, e6, e7, e8, e9, ea, eb, ec, ed, ee, ef, eg, eh, ei, ej, ek, el, em, en, eo, ep, eq, er, es, et, eu, ev, ew, ex, ey, ez, eA, eB, eC, eD, eE, eF, eG, eH, eI, eJ, eK, eL, eM, eN, eO, eP, eQ, eR, eS, eT, eU, eV, eW, eX, eY, eZ, aa, ab, ac, ad, ae, af, ag, ah, ai, aj, ak, al, am, an, ao, ap, aq, ar, au, av, aw, ax, ay, az, aA, aB, aC, aD, aE, aF, aG, aH, aI, aJ, aK, aL, aM, aN, aO, aP, aQ, aR, aS, aT, aU, aV, aW, aX, aY, aZ, ba, bb, bc, bd, be, bf, bg, bh, bi, bj], defers := [CW E] } W := by
 rw [N5]; refine Ac (fun K hK => ?_); have HK := qh hK; clear hK; refine P2 s (AG s.strip) B E w W hs hb (by have := small_of hc; omega) [CW E] _ _ _ _ _ _ _ _ _ _ _ _ _ _ _ _ _ _ _ _ _ _ _ _ _ _ _ _ _ _ _ _ _ _ _ _ _ _ _ _ _ _ _ _ _ _ _ _ _ _ _ _ _ _ _ _ _ _ _ _ _ _ _ _ _ _ _ _ _ _ _ _ _ _ _ _ _ _ _ _ _ _ _ _ _ _ _ _ _ _ _ _ _ _ _ _ _ _ _ _ _ _ _ _ _ _ _ _ _ _ _ _ _ _ _ _ _ _ _ _ _ (fun hd x0 x3 x4 x5 x6 x7 x8 x9 x10 x11 x12 x13 x14 x15 x16 x17 x18 x19 x20 x21 x22 x23 x24 x25 x26 x27 x28 x29 x30 x31 x32 x33 x34 x35 x36 x37 x38 x39 x40 x41 x42 x43 x44 x45 x46 x47 x48 x49 x50 x51 x52 x53 x54 x55 x56 x57 x58 x59 x60 x61 x62 x63 x64 x65 x66 x67 x68 x69 x70 x71 x72 x73 x74 x75 x76 x77 x78 x79 x80 x81 x82 x83 x84 x85 x86 x87 x88 x89 x90 x91 x92 x93 x94 x95 x96 x97 x98 x99 x100 x101 x102 x103 x104 x105 x106 x107 x108 x109 x110 x111 x112 x113 x114 x115 x116 x117 x118 x119 x120 x121 V hV => ?_) (fun hd t V ht hV => ?_)
 ·refine HK.out _ _ ?_
  exact Pa s ns B E w0 w V hc hs hdn hE hlow hb0 hV (by rw [hsnd, hd, Bool.true_and]) _ _ _ _ _ _ _ _ _ _ _ _ _ _ _ _ _ _ _ _ _ _ _ _ _ _ _ _ _ _ _ _ _ _ _ _ _ _ _ _ _ _ _ _ _ _ _ _ _ _ _ _ _ _ _ _ _ _ _ _ _ _ _ _ _ _ _ _ _ _ _ _ _ _ _ _ _ _ _ _ _ _ _ _ _ _ _ _ _ _ _ _ _ _ _ _ _ _ _ _ _ _ _ _ _ _ _ _ _ _ _ _ _ _ _ _ _ _ _ _
 ·exact Cl E s ns w0 w hlow hb0 hE (by rw [hsnd, hd, Bool.false_and, if_neg (by simp)]) t V ht hV
theorem P8 (s : Ls) (ns : List Int) (B E : Nat) (w0 w W : World) (hc : Bp s.strip ns = 0) (hs : RgS s (AG s.strip) B w) (hdn : NumAt (AG s.strip) w (Ak (blk s.da) (off s.da) s.dances)) (hE : w.heap[E]? = some (.cells #[int i64 0] 35 (0, 0))) (hlow : w0.heap.size ≤ E) (hb0 : Below w0.heap.size w0 w) (hb : Below w.heap.size w W) (hsnd : AE s ns = if ((inB s.t0 1 127 && inB s.t1 0 s.t0) && (s.roles.all (BD s) && (decide (BL ⟨s.bars, s.tempos, s.pauses, s.spans⟩ = 0) && (s.phrases.all (fun p => p.its.strip.exB) && (decide (Bf (s.nexts (AG s.strip)) = []) && s.dances.all (C6 s (AG s.strip) (C7 s.itsL (AG s.strip)))))))) = true then 0 else 180) (e0 e3 e4 e5 e6 e7 e8 e9 ea eb ec ed ee ef eg eh ei ej ek el em en eo ep eq er es et eu ev ew ex ey ez eA eB eC eD eE eF eG eH eI eJ eK eL eM eN eO eP eQ eR eS eT eU eV eW eX eY eZ aa ab ac ad ae af ag ah ai aj ak al am an ao ap aq ar au av aw ax ay az aA aB aC aD aE aF aG aH aI aJ aK aL aM aN aO aP aQ aR aS aT aU aV aW aX aY aZ ba bb bc bd be bf bg bh bi bj : Value) :
  (Ab 4 AI).wp Try.prog (bodyPostD Try.prog Try.f29 (DD s ns w0)) { tmps := #[e0, .pointer (some ⟨B, 0, none⟩), .pointer (some ⟨E, 0, none⟩), e3, e4, e5, e6, e7, e8, e9, ea, eb, ec, ed, ee, ef, eg, eh, ei, ej, ek, el, em, en, eo, ep, eq, er, es, et, eu, ev, ew, ex, ey, ez, eA, eB, eC, eD, eE, eF, eG, eH, eI, eJ, eK, eL, eM, eN, eO, eP, eQ, eR, eS, eT, eU, eV, eW, eX, eY, eZ, aa, ab, ac, ad, ae, af, ag, ah, ai, aj, ak, al, am, an, ao, ap, aq, ar, au, av, aw, ax, ay, az, aA, aB, aC, aD, aE, aF, aG, aH, aI, aJ, aK, aL, aM, aN, aO, aP, aQ, aR, aS, aT, aU, aV, aW, aX, aY, aZ, ba, bb, bc, bd, be, bf, bg, bh, bi, bj], defers := [CW E] } W := by
 rw [N4]; refine Ac (fun K hK => ?_); have HK := qh hK; clear hK; refine P1 s (AG s.strip) B E w W hs hb [CW E] _ _ _ _ _ _ _ _ _ _ _ _ _ _ _ _ _ _ _ _ _ _ _ _ _ _ _ _ _ _ _ _ _ _ _ _ _ _ _ _ _ _ _ _ _ _ _ _ _ _ _ _ _ _ _ _ _ _ _ _ _ _ _ _ _ _ _ _ _ _ _ _ _ _ _ _ _ _ _ _ _ _ _ _ _ _ _ _ _ _ _ _ _ _ _ _ _ _ _ _ _ _ _ _ _ _ _ _ _ _ _ _ _ _ _ _ _ _ _ _ _ (fun hd x0 x3 x4 x5 x6 x7 x8 x9 x10 x11 x12 x13 x14 x15 x16 x17 x18 x19 x20 x21 x22 x23 x24 x25 x26 x27 x28 x29 x30 x31 x32 x33 x34 x35 x36 x37 x38 x39 x40 x41 x42 x43 x44 x45 x46 x47 x48 x49 x50 x51 x52 x53 x54 x55 x56 x57 x58 x59 x60 x61 x62 x63 x64 x65 x66 x67 x68 x69 x70 x71 x72 x73 x74 x75 x76 x77 x78 x79 x80 x81 x82 x83 x84 x85 x86 x87 x88 x89 x90 x91 x92 x93 x94 x95 x96 x97 x98 x99 x100 x101 x102 x103 x104 x105 x106 x107 x108 x109 x110 x111 x112 x113 x114 x115 x116 x117 x118 x119 x120 x121 V hV => ?_) (fun hd t V ht hV => ?_)
 ·refine HK.out _ _ ?_
  exact P9 s ns B E w0 w V hc hs hdn hE hlow hb0 hV (by rw [hsnd, hd, Bool.true_and]) _ _ _ _ _ _ _ _ _ _ _ _ _ _ _ _ _ _ _ _ _ _ _ _ _ _ _ _ _ _ _ _ _ _ _ _ _ _ _ _ _ _ _ _ _ _ _ _ _ _ _ _ _ _ _ _ _ _ _ _ _ _ _ _ _ _ _ _ _ _ _ _ _ _ _ _ _ _ _ _ _ _ _ _ _ _ _ _ _ _ _ _ _ _ _ _ _ _ _ _ _ _ _ _ _ _ _ _ _ _ _ _ _ _ _ _ _ _ _ _
 ·exact Cl E s ns w0 w hlow hb0 hE (by rw [hsnd, hd, Bool.false_and, if_neg (by simp)]) t V ht hV
theorem P7 (s : Ls) (ns : List Int) (B E : Nat) (w0 w W : World) (hc : Bp s.strip ns = 0) (hs : RgS s (AG s.strip) B w) (hdn : NumAt (AG s.strip) w (Ak (blk s.da) (off s.da) s.dances)) (hE : w.heap[E]? = some (.cells #[int i64 0] 35 (0, 0))) (hlow : w0.heap.size ≤ E) (hb0 : Below w0.heap.size w0 w) (hb : Below w.heap.size w W) (hsnd : AE s ns = if ((inB s.wd 1 1000 && inB s.dp 1 1000) && ((inB s.t0 1 127 && inB s.t1 0 s.t0) && (s.roles.all (BD s) && (decide (BL ⟨s.bars, s.tempos, s.pauses, s.spans⟩ = 0) && (s.phrases.all (fun p => p.its.strip.exB) && (decide (Bf (s.nexts (AG s.strip)) = []) && s.dances.all (C6 s (AG s.strip) (C7 s.itsL (AG s.strip))))))))) = true then 0 else 180) (e0 e3 e4 e5 e6 e7 e8 e9 ea eb ec ed ee ef eg eh ei ej ek el em en eo ep eq er es et eu ev ew ex ey ez eA eB eC eD eE eF eG eH eI eJ eK eL eM eN eO eP eQ eR eS eT eU eV eW eX eY eZ aa ab ac ad ae af ag ah ai aj ak al am an ao ap aq ar au av aw ax ay az aA aB aC aD aE aF aG aH aI aJ aK aL aM aN aO aP aQ aR aS aT aU aV aW aX aY aZ ba bb bc bd be bf bg bh bi bj : Value) :
  (Ab 3 AI).wp Try.prog (bodyPostD Try.prog Try.f29 (DD s ns w0)) { tmps := #[e0, .pointer (some ⟨B, 0, none⟩), .pointer (some ⟨E, 0, none⟩), e3, e4, e5, e6, e7, e8, e9, ea, eb, ec, ed, ee, ef, eg, eh, ei, ej, ek, el, em, en, eo, ep, eq, er, es, et, eu, ev, ew, ex, ey, ez, eA, eB, eC, eD, eE, eF, eG, eH, eI, eJ, eK, eL, eM, eN, eO, eP, eQ, eR, eS, eT, eU, eV, eW, eX, eY, eZ, aa, ab, ac, ad, ae, af, ag, ah, ai, aj, ak, al, am, an, ao, ap, aq, ar, au, av, aw, ax, ay, az, aA, aB, aC, aD, aE, aF, aG, aH, aI, aJ, aK, aL, aM, aN, aO, aP, aQ, aR, aS, aT, aU, aV, aW, aX, aY, aZ, ba, bb, bc, bd, be, bf, bg, bh, bi, bj], defers := [CW E] } W := by
 rw [N3]; refine Ac (fun K hK => ?_); have HK := qh hK; clear hK; refine P0 s (AG s.strip) B E w W hs hb [CW E] _ _ _ _ _ _ _ _ _ _ _ _ _ _ _ _ _ _ _ _ _ _ _ _ _ _ _ _ _ _ _ _ _ _ _ _ _ _ _ _ _ _ _ _ _ _ _ _ _ _ _ _ _ _ _ _ _ _ _ _ _ _ _ _ _ _ _ _ _ _ _ _ _ _ _ _ _ _ _ _ _ _ _ _ _ _ _ _ _ _ _ _ _ _ _ _ _ _ _ _ _ _ _ _ _ _ _ _ _ _ _ _ _ _ _ _ _ _ _ _ _ (fun hd x0 x3 x4 x5 x6 x7 x8 x9 x10 x11 x12 x13 x14 x15 x16 x17 x18 x19 x20 x21 x22 x23 x24 x25 x26 x27 x28 x29 x30 x31 x32 x33 x34 x35 x36 x37 x38 x39 x40 x41 x42 x43 x44 x45 x46 x47 x48 x49 x50 x51 x52 x53 x54 x55 x56 x57 x58 x59 x60 x61 x62 x63 x64 x65 x66 x67 x68 x69 x70 x71 x72 x73 x74 x75 x76 x77 x78 x79 x80 x81 x82 x83 x84 x85 x86 x87 x88 x89 x90 x91 x92 x93 x94 x95 x96 x97 x98 x99 x100 x101 x102 x103 x104 x105 x106 x107 x108 x109 x110 x111 x112 x113 x114 x115 x116 x117 x118 x119 x120 x121 V hV => ?_) (fun hd t V ht hV => ?_)
 ·refine HK.out _ _ ?_
  exact P8 s ns B E w0 w V hc hs hdn hE hlow hb0 hV (by rw [hsnd, hd, Bool.true_and]) _ _ _ _ _ _ _ _ _ _ _ _ _ _ _ _ _ _ _ _ _ _ _ _ _ _ _ _ _ _ _ _ _ _ _ _ _ _ _ _ _ _ _ _ _ _ _ _ _ _ _ _ _ _ _ _ _ _ _ _ _ _ _ _ _ _ _ _ _ _ _ _ _ _ _ _ _ _ _ _ _ _ _ _ _ _ _ _ _ _ _ _ _ _ _ _ _ _ _ _ _ _ _ _ _ _ _ _ _ _ _ _ _ _ _ _ _ _ _ _
 ·exact Cl E s ns w0 w hlow hb0 hE (by rw [hsnd, hd, Bool.false_and, if_neg (by simp)]) t V ht hV
theorem Ck (s : Ls) (ns : List Int) (w : World) (hA : s.At w) (hN : NsAt w s.refs ns) (he : Env w) : Calls Try.prog 29 #[s.val] w (DD s ns w) := by
 have hmf : ∀ (fn : Fn) (first cap : Array Value) (w : World), (Instr.makeFunc fn first cap).run Try.prog w = .ok (.func fn first cap) w := fun _ _ _ _ => rfl
 obtain ⟨W0, hW0, gB, b0, s0⟩ := Ai w s.cells 30; obtain ⟨W1, hW1, gE, b1, s1⟩ := Ai W0 #[int i64 0] 35; have b01 := Ag b0 b1; have C := F1 s ns W1 (hA.below b01) (hN.below b01) (he.below b01); have gB1 := Am b1 gB
 -- behind names.Check
 have hgo : ∀ V c, Below W1.heap.size W1 V → ∃ V2, V.setCell ⟨W0.heap.size, 0, none⟩ (int i64 c) = V2 ∧ V2.heap[W0.heap.size]? = some (.cells #[int i64 c] 35 (0, 0)) ∧ V2.heap[w.heap.size]? = some (.cells s.cells 30 (0, 0)) ∧ Below w.heap.size w V2 := fun V c hV =>
  ⟨_, rfl, one_setCell (Am hV gE), by rw [Aj _ (by omega)]; exact Am hV gB1, ((Ag b01 hV)).setCell (p := ⟨W0.heap.size, 0, none⟩) (by show w.heap.size ≤ W0.heap.size; omega) _⟩
 have hlow : w.heap.size ≤ W0.heap.size := by omega
 have hv : s.val = .agg s.cells := rfl; rw [hv]; have HX := qh gB1; have HC := qh C; have HGO := qh hgo; have HA := qh hA; have HN := qh hN; have HW1 := qh hW1; have HEO := qh gE; have HW0 := qh hW0; have hs0 := qh hlow; unfold Ls.cells at hW0 ⊢; clear hA hN he gB gB1 gE b0 b1 b01 C hgo hv s0 s1 hW1 hlow; go_enter_defers Try.func29, Try.ntmps29; change Code.wp Try.prog AI _ _ _; rw [N0]; refine Ac (fun K hK => ?_); have HK := qh hK; clear hK
 conv => arg 2; whnf
 go_wp2_with fail; rw [HW1.out]; refine HK.out _ _ ?_; clear HK K hW0; rw [N1]; refine Ac (fun K hK => ?_); have HK := qh hK; clear hK
 conv => arg 2; whnf
 have st0 : True := trivial; obtain ⟨c, hc⟩ : ∃ c, Bp s.strip ns = c := ⟨_, rfl⟩; have HCE := qh hc; unfold Gp at HC; rw [hc] at HC; clear hc; generalize hBB : w.heap.size = B at *; generalize hEE : W0.heap.size = E at *; by_cases hz : c = 0
 ·subst hz
  go_wp2_with (first | (have q := st0; clear q st0; (refine wpList_load_row rfl 30 _ rfl B rfl 30 s.cells (0, 0) _ HX.out Try.underlying30 rfl (by kernel_rfl) ?_; simp only [Act.put, qD, qE, qF])) | (go_at_call 16; refine HC.out.mono ?_; rintro e V ⟨rfl, hv⟩; have HV := qh hv; have x0 := cell_of_one (Am hv HEO.out); have f0 := free_of_one (Am hv HEO.out); obtain ⟨V2, hV2, g1, g2, g3⟩ := HGO.out V 0 hv; have y1 := cell_of_one g1; have HG1 := qh g1; have HG2 := qh g2; have HG3 := qh g3; clear hv g1 g2 g3)); refine HK.out _ _ ?_; clear HK K; subst hBB; subst hEE; have hA := HA.out.below HG3.out; have hall := J9 HCE.out (HN.out.below HG3.out); have hsnd : AE s ns = if ((inB s.wd 1 1000 && inB s.dp 1 1000) && ((inB s.t0 1 127 && inB s.t1 0 s.t0) && (s.roles.all (BD s) && (decide (BL ⟨s.bars, s.tempos, s.pauses, s.spans⟩ = 0) && (s.phrases.all (fun p => p.its.strip.exB) && (decide (Bf (s.nexts (AG s.strip)) = []) && s.dances.all (C6 s (AG s.strip) (C7 s.itsL (AG s.strip))))))))) = true then 0 else 180 := by unfold AE; rw [if_pos HCE.out]; rfl
  have HAL := qh (And.intro hA hall); have HSN := qh hsnd; clear hA hall hsnd x0 f0 hV2 y1; rw [N2]; refine Ac (fun K hK => ?_); have HK := qh hK; clear hK
  conv => arg 2; whnf
  go_wp2_with fail; refine HK.out _ _ ?_; exact P7 s ns w.heap.size W0.heap.size w V2 V2 HCE.out ⟨HAL.out.1, HG2.out, fun x hx => HAL.out.2 x (by unfold Ls.refs; exact List.mem_append.2 (Or.inl hx))⟩ (fun x hx => HAL.out.2 x (by unfold Ls.refs; exact List.mem_append.2 (Or.inr hx))) HG1.out hs0.out HG3.out (Below.refl _ _) HSN.out _ _ _ _ _ _ _ _ _ _ _ _ _ _ _ _ _ _ _ _ _ _ _ _ _ _ _ _ _ _ _ _ _ _ _ _ _ _ _ _ _ _ _ _ _ _ _ _ _ _ _ _ _ _ _ _ _ _ _ _ _ _ _ _ _ _ _ _ _ _ _ _ _ _ _ _ _ _ _ _ _ _ _ _ _ _ _ _ _ _ _ _ _ _ _ _ _ _ _ _ _ _ _ _ _ _ _ _ _ _ _ _ _ _ _ _ _ _ _ _
 ·have hsnd : AE s ns = c := by unfold AE; rw [HCE.out, if_neg hz]
  have HSN := qh hsnd; clear hsnd
  go_wp2_with (first | (have q := st0; clear q st0; (refine wpList_load_row rfl 30 _ rfl B rfl 30 s.cells (0, 0) _ HX.out Try.underlying30 rfl (by kernel_rfl) ?_; simp only [Act.put, qD, qE, qF])) | (go_at_call 16; refine HC.out.mono ?_; rintro e V ⟨rfl, hv⟩; have HV := qh hv; have x0 := cell_of_one (Am hv HEO.out); have f0 := free_of_one (Am hv HEO.out); obtain ⟨V2, hV2, g1, g2, g3⟩ := HGO.out V c hv; have y1 := cell_of_one g1; have f1 := free_of_one g1; have HG1 := qh g1; have HG2 := qh g2; have HG3 := qh g3; clear hv g1 g2 g3)); have y2 := cell_of_one (one_setCell (u := int i64 c) HG1.out); simp [bodyPostD, Leaves, results, Try.results29, go_sem, y2]; subst hBB; exact ⟨by rw [HSN.out], HG3.out.setCell (p := ⟨E, 0, none⟩) hs0.out _⟩
end
section
open Go Go.RowKit
theorem MH (V : World) : (binOp .neq 63 (.slice none 0 0) (.slice none 0 0)).run Try.prog V = .ok (.bool false) V := by kernel_rfl
theorem LG (g n c : Nat) (V : World) : (binOp .neq 63 (.slice (some ⟨g, 0, none⟩) n c) (.slice none 0 0)).run Try.prog V = .ok (.bool true) V := by kernel_rfl
theorem Je {s : Ls} {ns : List Int} {W : World} (h : Bp s.strip ns = 0) (hN : NsAt W s.refs ns) : NumAt (AG s.strip) W (Ay s.phrases) := fun x hx => J9 h hN x (by unfold Ls.refs; exact List.mem_append.2 (Or.inl hx))
def DK (s : Ls) (ns : List Int) : List Int := if Bp s.strip ns = 0 then Bf (s.nexts (AG s.strip)) else []
def NJ (s : Ls) (ns : List Int) (w : World) (e : Ending) (w' : World) : Prop := ∃ v, e = .returned (.tuple #[v, .bool (decide (DK s ns ≠ [])), int i64 (Bp s.strip ns)]) ∧ IntRow w' v (DK s ns) ∧ Below w.heap.size w w'
theorem Hi (s : Ls) (ns : List Int) (w : World) (hA : s.At w) (hN : NsAt w s.refs ns) (he : Env w) : Calls Try.prog 27 #[s.val] w (NJ s ns w) := by
 obtain ⟨W0, hW0, gB, b0, s0⟩ := Ai w s.cells 30; have C := F1 s ns W0 (hA.below b0) (hN.below b0) (he.below b0); have hq1 := MH; have hq2 := LG; have hv : s.val = .agg s.cells := rfl; rw [hv]; have HX := qh gB; have HC := qh C; have HA := qh hA; have HN := qh hN; have HB := qh b0; unfold Ls.cells at hW0 ⊢; clear hA hN he gB b0 C hv s0; obtain ⟨c, hc⟩ : ∃ c, Bp s.strip ns = c := ⟨_, rfl⟩; have HCE := qh hc; unfold Gp at HC; rw [hc] at HC; clear hc; have st0 : True := trivial; by_cases hz : c = 0
 ·subst hz
  have hl : DK s ns = Bf (s.nexts (AG s.strip)) := by unfold DK; rw [if_pos HCE.out]
  have HR := qh (fun V (hV : Below w.heap.size w V) => Hz s (AG s.strip) V (HA.out.below hV) (Je HCE.out (HN.out.below hV)) (by have := small_of HCE.out; omega)); have HLM := qh hl; clear hl; by_cases hr : DK s ns = []
  ·have HRR := qh hr
   clear hr; go_enter Try.func27, Try.ntmps27
   go_wp2_with (first | (have q := st0; clear q st0; refine wpList_load_row rfl 30 _ rfl w.heap.size rfl 30 s.cells (0, 0) _ HX.out Try.underlying30 rfl (by kernel_rfl) ?_; simp only [Act.put, qD, qE, qF]) | (go_at_call 16; refine HC.out.mono ?_; rintro e V ⟨rfl, hv⟩; have HV := qh (Ag HB.out hv); have HXV := qh (Am hv HX.out); have st1 : True := trivial; clear hv) | (have q := st1; clear q st1; refine wpList_load_row rfl 30 _ rfl w.heap.size rfl 30 s.cells (0, 0) _ HXV.out Try.underlying30 rfl (by kernel_rfl) ?_; simp only [Act.put, qD, qE, qF]) | (go_at_call 61; refine (HR.out _ HV.out).mono ?_; rintro e V2 ⟨v, rfl, hv2, hrow⟩; rw [← HLM.out, HRR.out] at hrow; rcases hrow with ⟨_, rfl⟩ | ⟨g, cap, rfl, hne, _⟩; rotate_left; exact absurd rfl hne; have HV2 := qh hv2; clear hv2)); refine bodyPost_ret (v := .tuple #[.slice none 0 0, .bool false, int i64 0]) ?_ rfl ?_
   ·simp [results, Try.results27, go_sem]
   ·exact ⟨_, by rw [HRR.out, HCE.out]; rfl, by rw [HRR.out]; exact Or.inl ⟨rfl, rfl⟩, Ag HV.out HV2.out⟩
  ·have HRR := qh hr
   clear hr; go_enter Try.func27, Try.ntmps27
   go_wp2_with (first | (have q := st0; clear q st0; refine wpList_load_row rfl 30 _ rfl w.heap.size rfl 30 s.cells (0, 0) _ HX.out Try.underlying30 rfl (by kernel_rfl) ?_; simp only [Act.put, qD, qE, qF]) | (go_at_call 16; refine HC.out.mono ?_; rintro e V ⟨rfl, hv⟩; have HV := qh (Ag HB.out hv); have HXV := qh (Am hv HX.out); have st1 : True := trivial; clear hv) | (have q := st1; clear q st1; refine wpList_load_row rfl 30 _ rfl w.heap.size rfl 30 s.cells (0, 0) _ HXV.out Try.underlying30 rfl (by kernel_rfl) ?_; simp only [Act.put, qD, qE, qF]) | (go_at_call 61; refine (HR.out _ HV.out).mono ?_; rintro e V2 ⟨v, rfl, hv2, hrow⟩; rw [← HLM.out] at hrow; have HROW := qh hrow; rcases hrow with ⟨he, _⟩ | ⟨g, cap, rfl, hne, _⟩; exact absurd he HRR.out; have HV2 := qh hv2; clear hv2)); refine bodyPost_ret (v := .tuple #[.slice (some ⟨g, 0, none⟩) (DK s ns).length cap, .bool true, int i64 0]) ?_ rfl ?_
   ·simp [results, Try.results27, go_sem]
   ·exact ⟨_, by rw [HCE.out, decide_eq_true HRR.out], HROW.out, Ag HV.out HV2.out⟩
 ·have hl : DK s ns = [] := by unfold DK; rw [HCE.out, if_neg hz]
  have HLM := qh hl; clear hl; go_enter Try.func27, Try.ntmps27
  go_wp2_with (first | (have q := st0; clear q st0; refine wpList_load_row rfl 30 _ rfl w.heap.size rfl 30 s.cells (0, 0) _ HX.out Try.underlying30 rfl (by kernel_rfl) ?_; simp only [Act.put, qD, qE, qF]) | (go_at_call 16; refine HC.out.mono ?_; rintro e V ⟨rfl, hv⟩; have HV := qh (Ag HB.out hv); clear hv)); refine bodyPost_ret (v := .tuple #[.slice none 0 0, .bool false, int i64 c]) ?_ rfl ?_
  ·simp [results, Try.results27, go_sem]
  ·exact ⟨_, by rw [HLM.out, HCE.out]; rfl, by rw [HLM.out]; exact Or.inl ⟨rfl, rfl⟩, HV.out⟩
def EW (s : Ls) (ns : List Int) (k : Int) : Int × Int := if AE s ns = 0 then (if inB k 0 ((s.phrases.length : Int) - 1) = true then (if C7 s.itsL (AG s.strip) k ≤ 4096 then (C7 s.itsL (AG s.strip) k, 0) else (0, 2)) else (0, 1)) else (0, AE s ns)
def NI (s : Ls) (ns : List Int) (k : Int) (w : World) (e : Ending) (w' : World) : Prop := e = .returned (.tuple #[int i64 (EW s ns k).1, int i64 (EW s ns k).2]) ∧ Below w.heap.size w w'
theorem DZ {s : Ls} {ns : List Int} (h : AE s ns = 0) : Bp s.strip ns = 0 ∧ FB s (AG s.strip) = true := by
 unfold AE at h
 split at h
 ·rename_i h1
  split at h
  ·rename_i h2; exact ⟨h1, h2⟩
  ·omega
 ·contradiction
theorem Kr {s : Ls} {ns : List Int} (h : AE s ns = 0) : LenOk s.phrases (AG s.strip) (D7 (s.nexts (AG s.strip))) (C7 s.itsL (AG s.strip)) := by
 obtain ⟨h1, h2⟩ := DZ h; unfold FB at h2; simp only [Bool.and_eq_true] at h2; exact Lw h2.2.2.2.2.1 (of_decide_eq_true h2.2.2.2.2.2.1) (Jo h1)
theorem Fo (s : Ls) (ns : List Int) (k : Int) (w : World) (hA : s.At w) (hN : NsAt w s.refs ns) (he : Env w) : Calls Try.prog 30 #[s.val, int i64 k] w (NI s ns k w) := by
 obtain ⟨W0, hW0, gB, b0, s0⟩ := Ai w s.cells 30; have C := Ck s ns W0 (hA.below b0) (hN.below b0) (he.below b0); have hv : s.val = .agg s.cells := rfl; rw [hv]; have HX := qh gB; have HC := qh C; have HA := qh hA; have HN := qh hN; have HB := qh b0; unfold Ls.cells at hW0 ⊢; clear hA hN he gB b0 C hv s0; obtain ⟨c, hc⟩ : ∃ c, AE s ns = c := ⟨_, rfl⟩; have HCE := qh hc; unfold DD at HC; rw [hc] at HC; clear hc; have st0 : True := trivial; by_cases hz : c = 0
 ·subst hz
  have hsm := small_of (DZ HCE.out).1; have hsm2 := hsm.2.1; have HOK := qh (Kr HCE.out); have HLG := qh (fun V (hV : Below w.heap.size w V) => EH s (AG s.strip) (C7 s.itsL (AG s.strip)) V (HA.out.below hV) (Je (DZ HCE.out).1 (HN.out.below hV)))
  cases hq : inB k 0 ((s.phrases.length : Int) - 1) with
  | false =>
   have hl : EW s ns k = (0, 1) := by unfold EW; rw [if_pos HCE.out, hq]; rfl
   have HL := qh hl; clear hl hsm; go_enter Try.func30, Try.ntmps30
   go_wp2_with (first | (have q := st0; clear q st0; refine wpList_load_row rfl 30 _ rfl w.heap.size rfl 30 s.cells (0, 0) _ HX.out Try.underlying30 rfl (by kernel_rfl) ?_; simp only [Act.put, qD, qE, qF]) | (go_at_call 29; refine HC.out.mono ?_; rintro e V ⟨rfl, hv⟩; have HV := qh (Ag HB.out hv); have HXV := qh (Am hv HX.out); have y9 : V.cell? ⟨w.heap.size, 10, none⟩ = some (.slice s.fa s.phrases.length s.fc) := (Aa (Am hv HX.out) 10 rfl); have st1 : True := trivial; clear hv) | (go_at_call 64; refine (BZ (by assumption) _).mono ?_; rintro e w2 ⟨rfl, rfl⟩)); go_ret2; exact ⟨by rw [HL.out]; rfl, HV.out⟩
  | true =>
   obtain ⟨hk0, hk1⟩ := AY.1 hq; obtain ⟨j, rfl⟩ : ∃ j : Nat, k = j := ⟨k.toNat, by omega⟩; have hj : j < s.phrases.length := by omega
   obtain ⟨lb0, lb1⟩ := HOK.out.bound j hj; have HPH := qh (fun B7 KB M SB PB V (hV : LenW V s (AG s.strip) B7 KB M SB PB (C7 s.itsL (AG s.strip))) => Jh s (AG s.strip) B7 KB M SB PB _ _ HOK.out (by omega) _ j (qn _) hj V hV); obtain ⟨lj, hlj⟩ : ∃ lj, C7 s.itsL (AG s.strip) j = lj := ⟨_, rfl⟩; have HLJ := qh hlj; rw [hlj] at lb0 lb1 HPH; clear hlj hsm; by_cases h4 : lj ≤ 4096
   ·have hl : EW s ns j = (lj, 0) := by unfold EW; rw [if_pos HCE.out, hq, if_pos rfl, HLJ.out, if_pos h4]
    have HL := qh hl; clear hl; go_enter Try.func30, Try.ntmps30
    go_wp2_with (first | (have q := st0; clear q st0; refine wpList_load_row rfl 30 _ rfl w.heap.size rfl 30 s.cells (0, 0) _ HX.out Try.underlying30 rfl (by kernel_rfl) ?_; simp only [Act.put, qD, qE, qF]) | (go_at_call 29; refine HC.out.mono ?_; rintro e V ⟨rfl, hv⟩; have HV := qh (Ag HB.out hv); have HXV := qh (Am hv HX.out); have y9 : V.cell? ⟨w.heap.size, 10, none⟩ = some (.slice s.fa s.phrases.length s.fc) := (Aa (Am hv HX.out) 10 rfl); have st1 : True := trivial; clear hv) | (go_at_call 64; refine (BZ (by assumption) _).mono ?_; rintro e w2 ⟨rfl, rfl⟩) | (have q := st1; clear q st1; refine wpList_load_row rfl 30 _ rfl w.heap.size rfl 30 s.cells (0, 0) _ HXV.out Try.underlying30 rfl (by kernel_rfl) ?_; simp only [Act.put, qD, qE, qF]) | (go_at_call 67; refine (HLG.out _ HV.out).mono ?_; rintro e V2 ⟨B7, KB, M, SB, PB, rfl, a1, a2, a3⟩; have HA1 := qh a1; have HA2 := qh (Nat.le_trans HV.out.size a2); have HA3 := qh (Ag HV.out a3); clear a1 a2 a3) | (go_at_call 90; refine (HPH.out B7 KB M SB PB _ HA1.out).mono ?_; rintro e V3 ⟨rfl, _, b3⟩; have HV3 := qh (HA3.out.grown b3 HA3.out.size (fun q hq => by cases hq; exact HA2.out)); clear b3)); go_ret2; exact ⟨by rw [HL.out]; rfl, HV3.out⟩
   ·have hl : EW s ns j = (0, 2) := by unfold EW; rw [if_pos HCE.out, hq, if_pos rfl, HLJ.out, if_neg h4]
    have HL := qh hl; clear hl; go_enter Try.func30, Try.ntmps30
    go_wp2_with (first | (have q := st0; clear q st0; refine wpList_load_row rfl 30 _ rfl w.heap.size rfl 30 s.cells (0, 0) _ HX.out Try.underlying30 rfl (by kernel_rfl) ?_; simp only [Act.put, qD, qE, qF]) | (go_at_call 29; refine HC.out.mono ?_; rintro e V ⟨rfl, hv⟩; have HV := qh (Ag HB.out hv); have HXV := qh (Am hv HX.out); have y9 : V.cell? ⟨w.heap.size, 10, none⟩ = some (.slice s.fa s.phrases.length s.fc) := (Aa (Am hv HX.out) 10 rfl); have st1 : True := trivial; clear hv) | (go_at_call 64; refine (BZ (by assumption) _).mono ?_; rintro e w2 ⟨rfl, rfl⟩) | (have q := st1; clear q st1; refine wpList_load_row rfl 30 _ rfl w.heap.size rfl 30 s.cells (0, 0) _ HXV.out Try.underlying30 rfl (by kernel_rfl) ?_; simp only [Act.put, qD, qE, qF]) | (go_at_call 67; refine (HLG.out _ HV.out).mono ?_; rintro e V2 ⟨B7, KB, M, SB, PB, rfl, a1, a2, a3⟩; have HA1 := qh a1; have HA2 := qh (Nat.le_trans HV.out.size a2); have HA3 := qh (Ag HV.out a3); clear a1 a2 a3) | (go_at_call 90; refine (HPH.out B7 KB M SB PB _ HA1.out).mono ?_; rintro e V3 ⟨rfl, _, b3⟩; have HV3 := qh (HA3.out.grown b3 HA3.out.size (fun q hq => by cases hq; exact HA2.out)); clear b3)); go_ret2; exact ⟨by rw [HL.out]; rfl, HV3.out⟩
 ·have hl : EW s ns k = (0, c) := by unfold EW; rw [HCE.out, if_neg hz]
  have HL := qh hl; clear hl; go_enter Try.func30, Try.ntmps30
  go_wp2_with (first | (have q := st0; clear q st0; refine wpList_load_row rfl 30 _ rfl w.heap.size rfl 30 s.cells (0, 0) _ HX.out Try.underlying30 rfl (by kernel_rfl) ?_; simp only [Act.put, qD, qE, qF]) | (go_at_call 29; refine HC.out.mono ?_; rintro e V ⟨rfl, hv⟩; have HV := qh (Ag HB.out hv); clear hv)); go_ret2; exact ⟨by rw [HL.out]; rfl, HV.out⟩
end
section
open Go Go.RowKit
def NH (w : World) (e : Ending) (w' : World) : Prop := ∃ k : Int, 0 ≤ k ∧ k ≤ 1000000000000100 ∧ e = .returned (int i64 k) ∧ Below w.heap.size w w'
theorem He (T : Lt) (hI : ∀ T' : Lt, T'.size < T.size → ∀ (ia : Option Addr) (ic : Nat) (n d : Int) (W : World), T'.mfit → 0 ≤ n → n ≤ 1000000000000100 → 0 ≤ d → d ≤ 21 → (T'.len = 0 ∨ ia = some ⟨blk ia, off ia, none⟩) → T'.len ≤ maxLen → T'.At W (blk ia) (off ia) → Calls Try.prog 83 #[.slice ia T'.len ic, int i64 n, int i64 d] W (NH W))
  (ia : Option Addr) (ic : Nat) (n d : Int) (W : World) (hmf : T.mfit) (hn0 : 0 ≤ n) (hn1 : n ≤ 1000000000000100) (hd0 : 0 ≤ d) (hd1 : d ≤ 21) (hf : T.len = 0 ∨ ia = some ⟨blk ia, off ia, none⟩) (hl : T.len ≤ maxLen) (hT : T.At W (blk ia) (off ia)) : Calls Try.prog 83 #[.slice ia T.len ic, int i64 n, int i64 d] W (NH W) := by
 have HI := qh hI; have HT := qh hT; have HF := qh hf; have HMF := qh hmf; clear hI hT hf hmf; generalize hn : T.len = m at *; have HN := qh hn; clear hn; unfold maxLen at hl; go_enter Try.func83, Try.ntmps83; go_wp2_with fail; go_loopw [1, 7] (fun nv iv wr => ∃ (i : Nat) (k : Int) (R : Lt), iv = int i64 i ∧ nv = int i64 k ∧ i + R.len = m ∧ 0 ≤ k ∧ k ≤ 1000000000000100 ∧ Hid (R.size ≤ T.size) ∧ Hid R.mfit ∧ Hid (R.At wr (blk ia) (off ia + i * 6)) ∧ Hid (Below W.heap.size W wr)) (fun _ iv _ => m + 1 - (intOf iv).toNat)
 case atStart => exact ⟨0, n, T, rfl, rfl, by rw [HN.out]; omega, hn0, hn1, qh (qn _), HMF, by simpa [Hid] using HT.out, qh (Below.refl _ _)⟩
 case round =>
  obtain ⟨i, k, R, rfl, rfl, hin, hk0, hk1, hsz, hMF, hR, hB⟩ := hrel
  cases R with
  | nil =>
   simp only [Lt.len, Nat.add_zero] at hin; subst hin; go_wp2_with fail
   all_goals (go_ret; exact ⟨k, hk0, hk1, rfl, hB.out⟩)
  | cons kk n' un ja ic' its ma mc ms r =>
   simp only [Lt.len] at hin; have hi : (i : Int) < (m : Int) := by omega
   have e := HF.out.resolve_left (by omega); obtain ⟨⟨_, _, _, g4, g5⟩, _, ⟨i1, i2, i3⟩, hr⟩ := hR.out; obtain ⟨hml, hmi, hmr⟩ := hMF.out; have hlt : its.size < T.size := by have := hsz.out; simp only [Lt.size] at this; omega
   have hszr : r.size ≤ T.size := by have := hsz.out; simp only [Lt.size] at this; omega
   by_cases hd : 20 < d
   ·generalize hbb : blk ia = bb at *
    generalize hoo : off ia = oo at *; subst e; clear hbb hoo HF i3 hr; by_cases hk : k ≤ 60
    ·have hw1 : IntKind.i64.wrap (k + 1) = k + 1 := IntWalk.i64_in _ (by omega)
     have hw2 : IntKind.i64.wrap (k + 1 + (ms.length : Int)) = k + 1 + (ms.length : Int) := IntWalk.i64_in _ (by omega); go_wp2_with fail; go_ret; exact ⟨100, by omega, by omega, rfl, hB.out⟩
    ·go_wp2_with fail
     go_ret; exact ⟨k, hk0, hk1, rfl, hB.out⟩
   ·have C := HI.out its hlt ja ic' (k + 1 + (ms.length : Int)) (d + 1) wr hmi
    have HC := qh C; have HR := qh hr; have HMR := qh hmr; have HSZ := qh hszr; have HI3 := qh (And.intro i1 (And.intro i2 i3)); clear C i1 i2 i3 hr hlt hmi hmr hMF hszr; generalize hbb : blk ia = bb at *; generalize hoo : off ia = oo at *; subst e; clear hbb hoo HF; by_cases hk : k ≤ 60
    ·have hw1 : IntKind.i64.wrap (k + 1) = k + 1 := IntWalk.i64_in _ (by omega)
     have hw2 : IntKind.i64.wrap (k + 1 + (ms.length : Int)) = k + 1 + (ms.length : Int) := IntWalk.i64_in _ (by omega)
     go_wp2_with (go_at_call 83; refine (HC.out (by omega) (by omega) (by omega) (by omega) HI3.out.1 HI3.out.2.1 HI3.out.2.2).mono ?_; rintro e w5 ⟨k5, hk5, hk6, rfl, hb5⟩); go_roundw
     case rel => exact ⟨i + 1, k5, r, by go_num, rfl, by omega, hk5, hk6, HSZ, HMR, qh (by rw [show oo + (i + 1) * 6 = oo + i * 6 + 6 by omega]; exact HR.out.below hb5), qh (Ag hB.out hb5)⟩
     case measure => simp [intOf]; omega
    ·go_wp2_with fail
     go_ret; exact ⟨k, hk0, hk1, rfl, hB.out⟩
theorem Mx : ∀ (s : Nat) (T : Lt), T.size ≤ s → ∀ (ia : Option Addr) (ic : Nat) (n d : Int) (W : World), T.mfit → 0 ≤ n → n ≤ 1000000000000100 → 0 ≤ d → d ≤ 21 → (T.len = 0 ∨ ia = some ⟨blk ia, off ia, none⟩) → T.len ≤ maxLen → T.At W (blk ia) (off ia) → Calls Try.prog 83 #[.slice ia T.len ic, int i64 n, int i64 d] W (NH W) := by
 intro s
 induction s with
 | zero => intro T hs; exact He T (fun T' hlt => absurd hlt (by omega))
 | succ s ih => intro T hs; exact He T (fun T' hlt => ih T' (by omega))
def Nw (w : World) (e : Ending) (w' : World) : Prop := ∃ b : Bool, e = .returned (.bool b) ∧ Below w.heap.size w w'
theorem Km (s : Ls) (W : World) (hA : s.At W) (hm : s.mfit) (hl : s.phrases.length ≤ 100000) : Calls Try.prog 60 #[.slice s.fa s.phrases.length s.fc] W (Nw W) := by
 have HA := qh hA; have HM := qh hm; clear hA hm; generalize hn : s.phrases.length = n at *; have HN := qh hn; clear hn; generalize hga : s.fa = fa at *; have HGA := qh hga; clear hga; go_enter Try.func60, Try.ntmps60; go_wp2_with fail; go_loopw [3] (fun iv wr => ∃ i : Nat, iv = int i64 i ∧ i ≤ n ∧ Hid (Below W.heap.size W wr)) (fun iv _ => n + 1 - (intOf iv).toNat)
 case atStart => exact ⟨0, rfl, Nat.zero_le _, qh (Below.refl _ _)⟩
 case round =>
  obtain ⟨i, rfl, hin, hB⟩ := hrel; by_cases hlt : i < n
  ·have hi : (i : Int) < (n : Int) := by omega
   obtain ⟨p, hp⟩ : ∃ p, s.phrases[i]? = some p := ⟨_, qg (by rw [HN.out]; exact hlt)⟩; have hAr := HA.out.below hB.out; obtain ⟨c0, c1⟩ := CO hAr.phrases hp; obtain ⟨i1, i2, i3⟩ := CQ hAr.phrases hp; have hfa := hAr.pform.resolve_left (fun e => by rw [e] at hp; cases hp); have C := Mx _ p.its (qn _) p.ia p.ic 0 0 wr (HM.out p (List.mem_of_getElem? hp)) (by omega) (by omega) (by omega) (by omega) i1 i2 i3; unfold Ph.val at c1; rw [HGA.out] at c0 c1 hfa; have HC := qh C; clear hp hAr i1 i2 i3 C c0; generalize hbb : blk fa = fb at *; generalize hoo : off fa = fo at *; subst hfa; clear hbb hoo
   go_wp2_with (go_at_call 83; refine HC.out.mono ?_; rintro e w5 ⟨k5, hk5, hk6, rfl, hb5⟩; have HB5 := qh hb5; clear hb5)
   ·go_ret
    exact ⟨false, rfl, Ag hB.out HB5.out⟩
   ·go_roundw
    case rel => exact ⟨i + 1, by go_num, by omega, qh (Ag hB.out HB5.out)⟩
    case measure => simp [intOf]; omega
  ·have : i = n := by omega
   subst this; have hz : ¬ (i : Int) < (i : Int) := by omega
   go_wp2_with fail; go_ret; exact ⟨true, rfl, hB.out⟩
def NG (s : Ls) (w : World) (e : Ending) (w' : World) : Prop := ∃ b : Bool, e = .returned (.bool b) ∧ (b = true → s.phrases.length ≤ 12 ∧ s.roles.length ≤ 70 ∧ s.dances.length ≤ 300) ∧ Below w.heap.size w w'
theorem OU (s : Ls) (w : World) (hA : s.At w) (hm : s.mfit) : Calls Try.prog 26 #[s.val] w (NG s w) := by
 obtain ⟨W, hW, hB, hbW, sW⟩ := Ai w s.cells 30; have y10 : W.cell? ⟨w.heap.size, 10, none⟩ = some (.slice s.fa s.phrases.length s.fc) := Aa hB 10 rfl; have y7 : W.cell? ⟨w.heap.size, 7, none⟩ = some (.slice s.ta s.tempos.length s.tc) := Aa hB 7 rfl; have y8 : W.cell? ⟨w.heap.size, 8, none⟩ = some (.slice s.ua s.pauses.length s.uc) := Aa hB 8 rfl; have y9 : W.cell? ⟨w.heap.size, 9, none⟩ = some (.slice s.sa s.spans.length s.sc) := Aa hB 9 rfl; have y6 : W.cell? ⟨w.heap.size, 6, none⟩ = some (.slice s.ra s.roles.length s.rc) := Aa hB 6 rfl; have y11 : W.cell? ⟨w.heap.size, 11, none⟩ = some (.slice s.da s.dances.length s.dc) := Aa hB 11 rfl; have HS : Hid (s.phrases.length ≤ 12 → Calls Try.prog 60 #[.slice s.fa s.phrases.length s.fc] W (Nw W)) := qh (fun h => Km s W (hA.below hbW) hm (by omega)); have HNO : Hid (NG s w (.returned (.bool false)) W) := qh ⟨false, rfl, fun h => (by cases h), hbW⟩; have HBW := qh hbW; have hv : s.val = .agg s.cells := rfl; rw [hv]; unfold Ls.cells at hW ⊢; clear hA hm hB hbW sW hv; by_cases q0 : s.phrases.length ≤ 12
 ·skip
  by_cases q1 : s.tempos.length ≤ 100
  ·skip
   by_cases q2 : s.pauses.length ≤ 100
   ·skip
    by_cases q3 : s.spans.length ≤ 300
    ·skip
     by_cases q4 : s.roles.length ≤ 70
     ·skip
      by_cases q5 : s.dances.length ≤ 300
      ·skip
       have HC := qh (HS.out q0); have HYES : Hid (∀ b V, Below W.heap.size W V → NG s w (.returned (.bool b)) V) := qh (fun b V h => ⟨b, rfl, fun _ => ⟨q0, q4, q5⟩, Ag HBW.out h⟩); clear HS; go_enter Try.func26, Try.ntmps26
       go_wp2_with (go_at_call 60; refine HC.out.mono ?_; rintro e V ⟨b, rfl, hb⟩; have HB := qh hb; clear hb); go_ret; exact HYES.out b _ HB.out
      ·have r5 : 300 < s.dances.length := by omega
       clear HS; go_enter Try.func26, Try.ntmps26; go_wp2_with fail; go_ret; exact HNO.out
     ·have r4 : 70 < s.roles.length := by omega
      clear HS; go_enter Try.func26, Try.ntmps26; go_wp2_with fail; go_ret; exact HNO.out
    ·have r3 : 300 < s.spans.length := by omega
     clear HS; go_enter Try.func26, Try.ntmps26; go_wp2_with fail; go_ret; exact HNO.out
   ·have r2 : 100 < s.pauses.length := by omega
    clear HS; go_enter Try.func26, Try.ntmps26; go_wp2_with fail; go_ret; exact HNO.out
  ·have r1 : 100 < s.tempos.length := by omega
   clear HS; go_enter Try.func26, Try.ntmps26; go_wp2_with fail; go_ret; exact HNO.out
 ·have r0 : 12 < s.phrases.length := by omega
  clear HS; go_enter Try.func26, Try.ntmps26; go_wp2_with fail; go_ret; exact HNO.out
end
section
open Go Go.RowKit Go.Shelf
theorem IU (w : World) : Calls Try.prog 82 #[] w fun e w' => e = .returned (.agg #[int i64 1, int i64 1, int i64 1, int i64 1, int i64 0, int i64 2, sv [], int i64 0, int i64 0, int i64 1, int i64 1, int i64 1]) ∧ Below w.heap.size w w' := by
 go_enter Try.func82, Try.ntmps82; go_wp2_with fail; refine ⟨rfl, .agg #[int i64 1, int i64 1, int i64 1, int i64 1, int i64 0, int i64 2, sv [], int i64 0, int i64 0, int i64 1, int i64 1, int i64 1], ?_, rfl, ?_⟩
 ·have hX := heap_alloc_new w (.cells #[int i64 1, int i64 1, int i64 1, int i64 1, int i64 0, int i64 2, sv [], int i64 0, int i64 0, int i64 1, int i64 1, int i64 1] 85)
  have y0 := Aa hX 0 rfl; have y1 := Aa hX 1 rfl; have y2 := Aa hX 2 rfl; have y3 := Aa hX 3 rfl; have y4 := Aa hX 4 rfl; have y5 := Aa hX 5 rfl; have y6 := Aa hX 6 rfl; have y7 := Aa hX 7 rfl; have y8 := Aa hX 8 rfl; have y9 := Aa hX 9 rfl; have y10 := Aa hX 10 rfl; have y11 := Aa hX 11 rfl; simp [results, Try.results82, go_sem, y0, y1, y2, y3, y4, y5, y6, y7, y8, y9, y10, y11]
 ·exact (Below.refl _ _).alloc (qn _) _
def PV (k : Nat) : Nm := if k = 0 then [112] else [113]
theorem F7 (w : World) : Calls Try.prog 58 #[int i64 0] w fun e w' => e = .returned (.agg #[int i64 4, int i64 0, sv [112], int i64 0, .slice none 0 0, .slice none 0 0]) ∧ Below w.heap.size w w' := by
 obtain ⟨W1, x1, g1, b1, s1⟩ := Ai w #[int i64 0, int i64 0, sv [], int i64 0, .slice none 0 0, .slice none 0 0] 78; obtain ⟨W2, x2, g2, b2, s2⟩ := Ai W1 #[sv [112], sv [113]] 9; have hX := Am b2 g1; have z0 := Aa g2 0 rfl; have z1 := Aa g2 1 rfl; have y0 := Aa hX 0 rfl; have y1 := Aa hX 1 rfl; have y2 := Aa hX 2 rfl; have y3 := Aa hX 3 rfl; have y4 := Aa hX 4 rfl; have y5 := Aa hX 5 rfl; obtain ⟨W3, hW3, gW3, bW3⟩ := C0 (cs := #[int i64 4, int i64 0, sv [112], int i64 0, .slice none 0 0, .slice none 0 0]) hX (Ag b1 b2) (qn _); have hone : (#[int i64 4, int i64 0, sv [112], int i64 0, .slice none 0 0, .slice none 0 0] : Array Value).all (·.oneCell') = true := by simp [Value.oneCell']
 have HX := qh hX; have HG := qh gW3; have HB := qh bW3; have HW3 := qh hW3; have HONE := qh hone; clear hX g1 g2 b1 b2 s1 s2 gW3 bW3 hW3 hone y0 y1 y2 y3 y4 y5; go_enter Try.func58, Try.ntmps58
 go_wp2_with (refine wpList_store_row rfl 78 _ _ rfl w.heap.size #[int i64 4, int i64 0, sv [112], int i64 0, .slice none 0 0, .slice none 0 0] rfl rfl 78 _ HX.out (by kernel_rfl) rfl HONE.out ?_; rw [HW3.out]); refine ⟨rfl, .agg #[int i64 4, int i64 0, sv [112], int i64 0, .slice none 0 0, .slice none 0 0], ?_, rfl, HB.out⟩; have hX := HG.out; have y0 := Aa hX 0 rfl; have y1 := Aa hX 1 rfl; have y2 := Aa hX 2 rfl; have y3 := Aa hX 3 rfl; have y4 := Aa hX 4 rfl; have y5 := Aa hX 5 rfl; simp [results, Try.results58, go_sem, y0, y1, y2, y3, y4, y5]
theorem GE (w : World) : Calls Try.prog 58 #[int i64 1] w fun e w' => e = .returned (.agg #[int i64 4, int i64 0, sv [113], int i64 1, .slice none 0 0, .slice none 0 0]) ∧ Below w.heap.size w w' := by
 obtain ⟨W1, x1, g1, b1, s1⟩ := Ai w #[int i64 0, int i64 0, sv [], int i64 0, .slice none 0 0, .slice none 0 0] 78; obtain ⟨W2, x2, g2, b2, s2⟩ := Ai W1 #[sv [112], sv [113]] 9; have hX := Am b2 g1; have z0 := Aa g2 0 rfl; have z1 := Aa g2 1 rfl; have y0 := Aa hX 0 rfl; have y1 := Aa hX 1 rfl; have y2 := Aa hX 2 rfl; have y3 := Aa hX 3 rfl; have y4 := Aa hX 4 rfl; have y5 := Aa hX 5 rfl; obtain ⟨W3, hW3, gW3, bW3⟩ := C0 (cs := #[int i64 4, int i64 0, sv [113], int i64 1, .slice none 0 0, .slice none 0 0]) hX (Ag b1 b2) (qn _); have hone : (#[int i64 4, int i64 0, sv [113], int i64 1, .slice none 0 0, .slice none 0 0] : Array Value).all (·.oneCell') = true := by simp [Value.oneCell']
 have HX := qh hX; have HG := qh gW3; have HB := qh bW3; have HW3 := qh hW3; have HONE := qh hone; clear hX g1 g2 b1 b2 s1 s2 gW3 bW3 hW3 hone y0 y1 y2 y3 y4 y5; go_enter Try.func58, Try.ntmps58
 go_wp2_with (refine wpList_store_row rfl 78 _ _ rfl w.heap.size #[int i64 4, int i64 0, sv [113], int i64 1, .slice none 0 0, .slice none 0 0] rfl rfl 78 _ HX.out (by kernel_rfl) rfl HONE.out ?_; rw [HW3.out]); refine ⟨rfl, .agg #[int i64 4, int i64 0, sv [113], int i64 1, .slice none 0 0, .slice none 0 0], ?_, rfl, HB.out⟩; have hX := HG.out; have y0 := Aa hX 0 rfl; have y1 := Aa hX 1 rfl; have y2 := Aa hX 2 rfl; have y3 := Aa hX 3 rfl; have y4 := Aa hX 4 rfl; have y5 := Aa hX 5 rfl; simp [results, Try.results58, go_sem, y0, y1, y2, y3, y4, y5]
end
section
open Go Go.RowKit Go.Shelf
structure Sm18 (R T M U I0 I1 F D : Nat) (W : World) : Prop where
 hR : W.heap[R]? = some (.cells #[sv [97], int i64 20, int i64 10, int i64 7] 59 (0, 0))
 hT : W.heap[T]? = some (.cells #[int i64 0, int i64 1000, int i64 0] 135 (0, 0))
 hM : W.heap[M]? = some (.cells #[int i64 1, int i64 1, int i64 1, int i64 1, int i64 0, int i64 2, sv [], int i64 0, int i64 0, int i64 1, int i64 1, int i64 1] 85 (0, 0))
 hU : W.heap[U]? = some (.cells #[int i64 4, int i64 0, sv [112], int i64 0, .slice none 0 0, .slice none 0 0] 78 (0, 0))
 hI0 : W.heap[I0]? = some (.cells #[int i64 1, int i64 0, sv [], int i64 0, .slice none 0 0, .slice (some ⟨M, 0, none⟩) 1 1] 78 (0, 0))
 hI1 : W.heap[I1]? = some (.cells #[int i64 2, int i64 2, sv [], int i64 0, .slice (some ⟨U, 0, none⟩) 1 1, .slice none 0 0] 78 (0, 0))
 hF : W.heap[F]? = some (.cells #[sv [112], .slice (some ⟨I0, 0, none⟩) 1 1, sv [113], .slice (some ⟨I1, 0, none⟩) 1 1] 57 (0, 0))
 hD : W.heap[D]? = some (.cells #[sv [97], int i64 0, sv [113], int i64 1, int i64 1, .bool false] 73 (0, 0))
theorem GA {W : World} {b i : Nat} {cs : Array Value} {t : TypeId} {v : Value} (h : W.heap[b]? = some (.cells cs t (0, 0))) (hv : cs[i]? = some v) : W.setCell ⟨b, i, none⟩ v = W := by
 have e : (W.setCell ⟨b, i, none⟩ v).heap = W.heap := by
  apply Array.ext_getElem?; intro k; by_cases hk : k = b
  ·subst hk
   rw [Br v h, h]
   congr 2
   apply Array.ext_getElem?; intro j; rw [Array.getElem?_setIfInBounds]
   split
   ·rename_i hij
    subst hij; rw [hv]
    split
    ·rfl
    ·rename_i hn
     rw [Array.getElem?_eq_none (by omega)] at hv; cases hv
   ·rfl
  ·exact Aj v hk
 cases W; simp only [World.setCell] at e ⊢; rw [e]
theorem Cz (w : World) : Calls Try.prog 57 #[] w fun e w' => ∃ R T M U I0 I1 F D : Nat, e = .returned (.agg #[sv [119], int i64 20, int i64 10, int i64 3, int i64 2, int i64 1, .slice (some ⟨R, 0, none⟩) 1 1, .slice (some ⟨T, 0, none⟩) 1 1, .slice none 0 0, .slice none 0 0, .slice (some ⟨F, 0, none⟩) 2 2, .slice (some ⟨D, 0, none⟩) 1 1]) ∧ Sm18 R T M U I0 I1 F D w' ∧ (∀ b ∈ [R, T, M, U, I0, I1, F, D], w.heap.size ≤ b) ∧ [R, T, M, U, I0, I1, F, D].Nodup ∧ Below w.heap.size w w' := by
 obtain ⟨A0, xA0, gA0, bA0, sA0⟩ := Ai w C5 30; have GA0 := qh gA0; have BA0 := qh bA0; have hT0 : ∀ W2, Below A0.heap.size A0 W2 → W2.heap[w.heap.size]? = some (.cells C5 30 (0, 0)) := fun W2 hb => Am hb gA0
 have HT0 := qh hT0; clear gA0 bA0 sA0 hT0; unfold C5 at xA0; have st0 : True := trivial; go_enter Try.func57, Try.ntmps57
 go_wp2_with (first
  | (have q := st0; go_at_call 82; refine (IU _).mono ?_; rintro e V1 ⟨rfl, hb1⟩; have BV1 := qh hb1; clear hb1 q st0; have st1 : True := trivial; obtain ⟨A1, xA1, gA1, bA1, sA1⟩ := Ai V1 #[int i64 1, int i64 1, int i64 1, int i64 1, int i64 0, int i64 2, sv [], int i64 0, int i64 0, int i64 1, int i64 1, int i64 1] 85; have GA1 := qh gA1; have BA1 := qh bA1; clear gA1 bA1 sA1; obtain ⟨A2, xA2, gA2, bA2, sA2⟩ := Ai A1 #[int i64 1, int i64 0, sv [], int i64 0, .slice none 0 0, .slice (some ⟨V1.heap.size, 0, none⟩) 1 1] 78; have GA2 := qh gA2; have BA2 := qh bA2; clear gA2 bA2 sA2; have HK2 := qh (show ∀ V, Below A2.heap.size A2 V → V.heap[A1.heap.size]? = some (.cells #[int i64 1, int i64 0, sv [], int i64 0, .slice none 0 0, .slice (some ⟨V1.heap.size, 0, none⟩) 1 1] 78 (0, 0)) from fun V h => Am h GA2.out))
  | (have q := st1; go_at_call 58; refine (F7 _).mono ?_; rintro e V2 ⟨rfl, hb1⟩; have BV2 := qh hb1; clear hb1 q st1; have st2 : True := trivial; obtain ⟨A3, xA3, gA3, bA3, sA3⟩ := Ai V2 #[int i64 4, int i64 0, sv [112], int i64 0, .slice none 0 0, .slice none 0 0] 78; have GA3 := qh gA3; have BA3 := qh bA3; clear gA3 bA3 sA3; obtain ⟨A4, xA4, gA4, bA4, sA4⟩ := Ai A3 #[int i64 2, int i64 2, sv [], int i64 0, .slice (some ⟨V2.heap.size, 0, none⟩) 1 1, .slice none 0 0] 78; have GA4 := qh gA4; have BA4 := qh bA4; clear gA4 bA4 sA4; have c4 : A4.cell? ⟨A3.heap.size, 5, none⟩ = some (.slice none 0 0) := (Aa GA4.out 5 rfl); have f4 : A4.frozen? ⟨A3.heap.size, 5, none⟩ = false := (show FreeB A4 A3.heap.size from ⟨_, _, GA4.out⟩).free 5; have e4 : A4.setCell ⟨A3.heap.size, 5, none⟩ (.slice none 0 0) = A4 := (GA (i := 5) GA4.out rfl); obtain ⟨A5, xA5, gA5, bA5, sA5⟩ := Ai A4 #[sv [97], int i64 20, int i64 10, int i64 7] 59; have GA5 := qh gA5; have BA5 := qh bA5; clear gA5 bA5 sA5; obtain ⟨A6, xA6, gA6, bA6, sA6⟩ := Ai A5 #[int i64 0, int i64 1000, int i64 0] 135; have GA6 := qh gA6; have BA6 := qh bA6; clear gA6 bA6 sA6; have HL1 := qh (HK2.out A6 (Ag BV2.out (Ag BA3.out (Ag BA4.out (Ag BA5.out BA6.out))))))
  | (have q := st2; clear q; refine wpList_load_row rfl 78 _ rfl A1.heap.size rfl 78 #[int i64 1, int i64 0, sv [], int i64 0, .slice none 0 0, .slice (some ⟨V1.heap.size, 0, none⟩) 1 1] (0, 0) _ HL1.out Try.underlying78 rfl (by kernel_rfl) ?_; simp only [Act.put, qD, qE, qF]; clear st2; have st3 : True := trivial; obtain ⟨A7, xA7, gA7, bA7, sA7⟩ := Ai A6 #[int i64 1, int i64 0, sv [], int i64 0, .slice none 0 0, .slice (some ⟨V1.heap.size, 0, none⟩) 1 1] 78; have GA7 := qh gA7; have BA7 := qh bA7; clear gA7 bA7 sA7; have HL2 := qh (Am (Ag BA5.out (Ag BA6.out BA7.out)) GA4.out))
  | (have q := st3; clear q; refine wpList_load_row rfl 78 _ rfl A3.heap.size rfl 78 #[int i64 2, int i64 2, sv [], int i64 0, .slice (some ⟨V2.heap.size, 0, none⟩) 1 1, .slice none 0 0] (0, 0) _ HL2.out Try.underlying78 rfl (by kernel_rfl) ?_; simp only [Act.put, qD, qE, qF]; clear st3; have st4 : True := trivial; obtain ⟨A8, xA8, gA8, bA8, sA8⟩ := Ai A7 #[int i64 2, int i64 2, sv [], int i64 0, .slice (some ⟨V2.heap.size, 0, none⟩) 1 1, .slice none 0 0] 78; have GA8 := qh gA8; have BA8 := qh bA8; clear gA8 bA8 sA8; obtain ⟨A9, xA9, gA9, bA9, sA9⟩ := Ai A8 #[sv [112], .slice (some ⟨A6.heap.size, 0, none⟩) 1 1, sv [113], .slice (some ⟨A7.heap.size, 0, none⟩) 1 1] 57; have GA9 := qh gA9; have BA9 := qh bA9; clear gA9 bA9 sA9; obtain ⟨A10, xA10, gA10, bA10, sA10⟩ := Ai A9 #[sv [97], int i64 0, sv [113], int i64 1, int i64 1, .bool false] 73; have GA10 := qh gA10; have BA10 := qh bA10; clear gA10 bA10 sA10)
  | (have q := st4; clear q; refine wpList_store_row rfl 30 _ _ rfl w.heap.size #[sv [119], int i64 20, int i64 10, int i64 3, int i64 2, int i64 1, .slice (some ⟨A4.heap.size, 0, none⟩) 1 1, .slice (some ⟨A5.heap.size, 0, none⟩) 1 1, .slice none 0 0, .slice none 0 0, .slice (some ⟨A8.heap.size, 0, none⟩) 2 2, .slice (some ⟨A9.heap.size, 0, none⟩) 1 1] rfl rfl 30 _ (HT0.out A10 (Ag BV1.out (Ag BA1.out (Ag BA2.out (Ag BV2.out (Ag BA3.out (Ag BA4.out (Ag BA5.out (Ag BA6.out (Ag BA7.out (Ag BA8.out (Ag BA9.out BA10.out)))))))))))) (by kernel_rfl) rfl (by simp [Value.oneCell']) ?_; obtain ⟨W3, hW3, gW3, bW3⟩ := C0 (cs := #[sv [119], int i64 20, int i64 10, int i64 3, int i64 2, int i64 1, .slice (some ⟨A4.heap.size, 0, none⟩) 1 1, .slice (some ⟨A5.heap.size, 0, none⟩) 1 1, .slice none 0 0, .slice none 0 0, .slice (some ⟨A8.heap.size, 0, none⟩) 2 2, .slice (some ⟨A9.heap.size, 0, none⟩) 1 1]) (HT0.out A10 (Ag BV1.out (Ag BA1.out (Ag BA2.out (Ag BV2.out (Ag BA3.out (Ag BA4.out (Ag BA5.out (Ag BA6.out (Ag BA7.out (Ag BA8.out (Ag BA9.out BA10.out)))))))))))) (Ag BA0.out (Ag BV1.out (Ag BA1.out (Ag BA2.out (Ag BV2.out (Ag BA3.out (Ag BA4.out (Ag BA5.out (Ag BA6.out (Ag BA7.out (Ag BA8.out (Ag BA9.out BA10.out)))))))))))) (qn _); rw [hW3]; have HW3 := qh hW3; have HG3 := qh gW3; have HB3 := qh bW3; clear hW3 gW3 bW3 st4))
 have o3 : ∀ c, c ≠ w.heap.size → W3.heap[c]? = A10.heap[c]? := fun c hc => by
  rw [← HW3.out]; simp only [World.setRow]; rw [Array.getElem?_modify, if_neg (fun e => hc e.symm)]
 have q0 := (qs.1 GA0.out).1; have z1 := (qs.1 GA1.out).1; have z2 := (qs.1 GA2.out).1; have z3 := (qs.1 GA3.out).1; have z4 := (qs.1 GA4.out).1; have z5 := (qs.1 GA5.out).1; have z6 := (qs.1 GA6.out).1; have z7 := (qs.1 GA7.out).1; have z8 := (qs.1 GA8.out).1; have z9 := (qs.1 GA9.out).1; have q1 := BV1.out.size; have q2 := BV2.out.size; refine ⟨rfl, .agg #[sv [119], int i64 20, int i64 10, int i64 3, int i64 2, int i64 1, .slice (some ⟨A4.heap.size, 0, none⟩) 1 1, .slice (some ⟨A5.heap.size, 0, none⟩) 1 1, .slice none 0 0, .slice none 0 0, .slice (some ⟨A8.heap.size, 0, none⟩) 2 2, .slice (some ⟨A9.heap.size, 0, none⟩) 1 1], ?_, A4.heap.size, A5.heap.size, V1.heap.size, V2.heap.size, A6.heap.size, A7.heap.size, A8.heap.size, A9.heap.size, rfl, ⟨(o3 _ (by omega)).trans (Am (Ag BA6.out (Ag BA7.out (Ag BA8.out (Ag BA9.out BA10.out)))) GA5.out), (o3 _ (by omega)).trans (Am (Ag BA7.out (Ag BA8.out (Ag BA9.out BA10.out))) GA6.out), (o3 _ (by omega)).trans (Am (Ag BA2.out (Ag BV2.out (Ag BA3.out (Ag BA4.out (Ag BA5.out (Ag BA6.out (Ag BA7.out (Ag BA8.out (Ag BA9.out BA10.out))))))))) GA1.out), (o3 _ (by omega)).trans (Am (Ag BA4.out (Ag BA5.out (Ag BA6.out (Ag BA7.out (Ag BA8.out (Ag BA9.out BA10.out)))))) GA3.out), (o3 _ (by omega)).trans (Am (Ag BA8.out (Ag BA9.out BA10.out)) GA7.out), (o3 _ (by omega)).trans (Am (Ag BA9.out BA10.out) GA8.out), (o3 _ (by omega)).trans (Am BA10.out GA9.out), (o3 _ (by omega)).trans GA10.out⟩, ?_, ?_, HB3.out⟩
 ·clear o3 z1 z2 z3 z4 z5 z6 z7 z8 z9 q0 q1 q2 xA0 xA1 xA2 xA3 xA4 xA5 xA6 xA7 xA8 xA9 xA10
  have hX := HG3.out; have y0 := Aa hX 0 rfl; have y1 := Aa hX 1 rfl; have y2 := Aa hX 2 rfl; have y3 := Aa hX 3 rfl; have y4 := Aa hX 4 rfl; have y5 := Aa hX 5 rfl; have y6 := Aa hX 6 rfl; have y7 := Aa hX 7 rfl; have y8 := Aa hX 8 rfl; have y9 := Aa hX 9 rfl; have y10 := Aa hX 10 rfl; have y11 := Aa hX 11 rfl; clear hX; simp [results, Try.results57, go_sem, y0, y1, y2, y3, y4, y5, y6, y7, y8, y9, y10, y11]
 ·intro b hb
  simp only [List.mem_cons, List.mem_nil_iff, or_false] at hb; omega
 ·simp only [List.nodup_cons, List.mem_cons, List.mem_nil_iff, or_false, not_or, List.nodup_nil, and_true, not_false_eq_true]
  omega
end
section
open Go Go.RowKit Go.Shelf
def Qh : Mov := ⟨1, 1, 1, 1, 0, 2, [], 0, 1, 1, 1⟩
def CY (t0 t1 : Int) (R T F D : Nat) (p0 p1 : Ph) (bar : Int) : Ls := ⟨[119], 20, 10, 3, t0, t1, at0 R, 1, [⟨[97], 20, 10, 7⟩], at0 T, 1, [⟨0, 1000, 0⟩], none, 0, [], none, 0, [], at0 F, 2, [p0, p1], at0 D, 1, [⟨[97], [113], bar, false⟩]⟩
def Ky (k : Nat) (r : Lt) : Lt := .cons 4 0 (PV k) none 0 .nil none 0 [] r
def phP (I0 M : Nat) : Ph := ⟨[112], at0 I0, 1, .cons 1 0 [] none 0 .nil (at0 M) 1 [Qh] .nil⟩
def phQ (I1 U : Nat) : Ph := ⟨[113], at0 I1, 1, .cons 2 2 [] (at0 U) 1 (Ky 0 .nil) none 0 [] .nil⟩
def Ce (R T M U I0 I1 F D : Nat) : Ls := CY 2 1 R T F D (phP I0 M) (phQ I1 U) 1
def Cf : List Int := [0, 0, 0, 0, 0, 1]
theorem Li {W : World} {R : Nat} (hR : W.heap[R]? = some (.cells #[sv [97], int i64 20, int i64 10, int i64 7] 59 (0, 0))) : IsRow FO 4 W (.slice (at0 R) 1 1) [⟨[97], 20, 10, 7⟩] := by
  refine ⟨at0 R, 1, rfl, by decide, Or.inr ⟨R, 0, rfl, fun i x hi j v hv => ?_, (qs.1 hR).1⟩⟩
  match i, hi with
  | 0, hi =>
    simp at hi; subst hi
    match j, hv with
    | 0, hv => cases hv; exact Aa hR 0 rfl
    | 1, hv => cases hv; exact Aa hR 1 rfl
    | 2, hv => cases hv; exact Aa hR 2 rfl
    | 3, hv => cases hv; exact Aa hR 3 rfl
theorem JG {W : World} {T : Nat} (hT : W.heap[T]? = some (.cells #[int i64 0, int i64 1000, int i64 0] 135 (0, 0))) : IsRow CD 3 W (.slice (at0 T) 1 1) [⟨0, 1000, 0⟩] := by
  refine ⟨at0 T, 1, rfl, by decide, Or.inr ⟨T, 0, rfl, fun i x hi j v hv => ?_, (qs.1 hT).1⟩⟩
  match i, hi with
  | 0, hi =>
    simp at hi; subst hi
    match j, hv with
    | 0, hv => cases hv; exact Aa hT 0 rfl
    | 1, hv => cases hv; exact Aa hT 1 rfl
    | 2, hv => cases hv; exact Aa hT 2 rfl
theorem J3 {W : World} {R T F D : Nat} {t0 t1 bar : Int} {p0 p1 : Ph} (hR : W.heap[R]? = some (.cells #[sv [97], int i64 20, int i64 10, int i64 7] 59 (0, 0))) (hT : W.heap[T]? = some (.cells #[int i64 0, int i64 1000, int i64 0] 135 (0, 0)))
    (hF : W.heap[F]? = some (.cells #[sv [112], p0.val, sv [113], p1.val] 57 (0, 0))) (hD : W.heap[D]? = some (.cells #[sv [97], int i64 0, sv [113], int i64 1, int i64 bar, .bool false] 73 (0, 0)))
    (n0 : p0.name = [112]) (n1 : p1.name = [113]) (h0 : p0.Its W) (h1 : p1.Its W) : (CY t0 t1 R T F D p0 p1 bar).At W :=
  ⟨Li hR, JG hT, IsRow.nil, IsRow.nil, Or.inr rfl, (by decide : (2 : Nat) ≤ maxLen), ⟨⟨by rw [n0]; exact Aa hF 0 rfl, Aa hF 1 rfl, h0⟩, ⟨by rw [n1]; exact Aa hF 2 rfl, Aa hF 3 rfl, h1⟩, trivial⟩, Or.inr rfl, (by decide : (1 : Nat) ≤ maxLen),
   ⟨Aa hD 0 rfl, Aa hD 2 rfl, Aa hD 4 rfl, Aa hD 5 rfl⟩, trivial⟩
theorem Gy {W : World} {I0 M : Nat} (hI : W.heap[I0]? = some (.cells #[int i64 1, int i64 0, sv [], int i64 0, .slice none 0 0, .slice (some ⟨M, 0, none⟩) 1 1] 78 (0, 0))) (hM : W.heap[M]? = some (.cells #[int i64 1, int i64 1, int i64 1, int i64 1, int i64 0, int i64 2, sv [], int i64 0, int i64 0, int i64 1, int i64 1, int i64 1] 85 (0, 0))) :
    (phP I0 M).Its W ∧ NsAt W (phP I0 M).refsL [0, 0] := by
  have m1 : (1 : Nat) ≤ maxLen := by decide
  refine ⟨⟨Or.inr rfl, m1, ?_⟩, ?_⟩
  · refine ⟨⟨Aa hI 0 rfl, Aa hI 1 rfl, Aa hI 2 rfl, Aa hI 4 rfl, Aa hI 5 rfl⟩, ⟨Or.inr rfl, m1, ?_⟩, ⟨Or.inl rfl, Nat.zero_le _, trivial⟩, trivial⟩
    exact ⟨⟨Aa hM 0 rfl, Aa hM 1 rfl, Aa hM 2 rfl, Aa hM 3 rfl, Aa hM 4 rfl, Aa hM 5 rfl, Aa hM 6 rfl, Aa hM 8 rfl, Aa hM 9 rfl, Aa hM 10 rfl, Aa hM 11 rfl⟩, trivial⟩
  · exact ⟨Aa hI 3 rfl, Aa hM 7 rfl, trivial⟩
theorem Nt {W : World} {U : Nat} (hU : W.heap[U]? = some (.cells #[int i64 4, int i64 0, sv [112], int i64 0, .slice none 0 0, .slice none 0 0] 78 (0, 0))) : (Ky 0 .nil).At W U 0 ∧ NsAt W ((Ky 0 .nil).refsL U 0) [0] :=
  ⟨⟨⟨Aa hU 0 rfl, Aa hU 1 rfl, Aa hU 2 rfl, Aa hU 4 rfl, Aa hU 5 rfl⟩, ⟨Or.inl rfl, Nat.zero_le _, trivial⟩, ⟨Or.inl rfl, Nat.zero_le _, trivial⟩, trivial⟩, ⟨Aa hU 3 rfl, trivial⟩⟩
theorem Gz {W : World} {I1 U : Nat} (hI : W.heap[I1]? = some (.cells #[int i64 2, int i64 2, sv [], int i64 0, .slice (some ⟨U, 0, none⟩) 1 1, .slice none 0 0] 78 (0, 0))) (hU : W.heap[U]? = some (.cells #[int i64 4, int i64 0, sv [112], int i64 0, .slice none 0 0, .slice none 0 0] 78 (0, 0))) :
    (phQ I1 U).Its W ∧ NsAt W (phQ I1 U).refsL [0, 0] := by
  have m1 : (1 : Nat) ≤ maxLen := by decide
  obtain ⟨u1, u2⟩ := Nt hU; refine ⟨⟨Or.inr rfl, m1, ?_⟩, ?_⟩
  · exact ⟨⟨Aa hI 0 rfl, Aa hI 1 rfl, Aa hI 2 rfl, Aa hI 4 rfl, Aa hI 5 rfl⟩, ⟨Or.inl rfl, Nat.zero_le _, trivial⟩, ⟨Or.inr rfl, m1, u1⟩, trivial⟩
  · exact ⟨Aa hI 3 rfl, u2.1, trivial⟩
theorem GC {R T M U I0 I1 F D : Nat} {W : World} (h : Sm18 R T M U I0 I1 F D W) : (Ce R T M U I0 I1 F D).At W ∧ NsAt W (Ce R T M U I0 I1 F D).refs Cf := by
  obtain ⟨a1, a2⟩ := Gy h.hI0 h.hM; obtain ⟨b1, b2⟩ := Gz h.hI1 h.hU; refine ⟨J3 h.hR h.hT h.hF h.hD rfl rfl a1 b1, ?_⟩; obtain ⟨x1, x2, _⟩ := a2; obtain ⟨y1, y2, _⟩ := b2; exact ⟨x1, x2, y1, y2, Aa h.hD 1 rfl, Aa h.hD 3 rfl, trivial⟩
theorem Ko (R T M U I0 I1 F D : Nat) : EW (Ce R T M U I0 I1 F D) Cf 1 = (2, 0) := by kernel_rfl
theorem Kp (R T M U I0 I1 F D : Nat) : EW (Ce R T M U I0 I1 F D) Cf (-1) = (0, 1) := by kernel_rfl
theorem Kq (R T M U I0 I1 F D : Nat) : DK (Ce R T M U I0 I1 F D) Cf = [] := by kernel_rfl
theorem LZ (R T M U I0 I1 F D : Nat) : Bp (Ce R T M U I0 I1 F D).strip Cf = 0 := by kernel_rfl
theorem IT (R T M U I0 I1 F D : Nat) : AE (Ce R T M U I0 I1 F D) Cf = 0 := by kernel_rfl
theorem Hq (R T M U I0 I1 F D : Nat) : AE (CY 0 0 R T F D (phP I0 M) (phQ I1 U) 1) Cf = 180 := by kernel_rfl
theorem Gv (R T M U I0 I1 F D : Nat) : AE (CY 2 1 R T F D (phP I0 M) (phQ I1 U) 2) Cf = 180 := by kernel_rfl
def rgP (X0 : Nat) : Ph := ⟨[112], at0 X0, 1, Ky 1 .nil⟩
def rgQ (X1 : Nat) : Ph := ⟨[113], at0 X1, 2, Ky 1 (Ky 0 .nil)⟩
def Ge : List Int := [1, 1, 0, 0, 1]
theorem Ke (R T F D X0 X1 : Nat) : DK (CY 2 1 R T F D (rgP X0) (rgQ X1) 1) Ge = [0, 1] := by kernel_rfl
theorem LW (R T F D X0 X1 : Nat) : Bp (CY 2 1 R T F D (rgP X0) (rgQ X1) 1).strip Ge = 0 := by kernel_rfl
theorem IJ (R T F D X0 X1 : Nat) : AE (CY 2 1 R T F D (rgP X0) (rgQ X1) 1) Ge = 180 := by kernel_rfl
end
section
open Go Go.RowKit
theorem IntRow.parts {W : World} {v : Value} {l : List Int} (h : IntRow W v l) : ∃ g ao cap, v = .slice ao l.length cap ∧ (l = [] ∨ ao = some ⟨g, 0, none⟩) ∧ l.length ≤ maxLen ∧ ∀ (j : Nat) (x : Int), l[j]? = some x → W.cell? ⟨g, j, none⟩ = some (int i64 x) := by
 rcases h with ⟨rfl, rfl⟩ | ⟨g, cap, rfl, _, h3, h4, h5⟩
 ·exact ⟨0, none, 0, rfl, Or.inl rfl, Nat.zero_le _, fun j x hj => by simp at hj⟩
 ·exact ⟨g, _, cap, rfl, Or.inr rfl, Nat.le_trans h3 h4, h5⟩
theorem IntRow.below {W V : World} {v : Value} {l : List Int} (h : IntRow W v l) (hb : Below W.heap.size W V) : IntRow V v l := by
 rcases h with h | ⟨g, cap, h1, h2, h3, h4, h5⟩
 ·exact Or.inl h
 ·exact Or.inr ⟨g, cap, h1, h2, h3, h4, fun j x hj => Ae hb (h5 j x hj)⟩
def Q8 (l1 l2 : List Int) (w : World) (e : Ending) (w' : World) : Prop := e = .returned (.bool (decide (l1 = l2))) ∧ Below w.heap.size w w'
theorem IM (v1 v2 : Value) (l1 l2 : List Int) (W : World) (h1 : IntRow W v1 l1) (h2 : IntRow W v2 l2) : Calls Try.prog 59 #[v1, v2] W (Q8 l1 l2 W) := by
 obtain ⟨g1, a1, c1, rfl, f1, m1, k1⟩ := h1.parts; obtain ⟨g2, a2, c2, rfl, f2, m2, k2⟩ := h2.parts; clear h1 h2; have HF1 := qh f1; have HF2 := qh f2; have HK1 := qh k1; have HK2 := qh k2; clear f1 f2 k1 k2; unfold maxLen at m1 m2; generalize hn1 : l1.length = n1 at *; generalize hn2 : l2.length = n2 at *; have HN1 := qh hn1; have HN2 := qh hn2; clear hn1 hn2; by_cases hne : (n1 : Int) = (n2 : Int)
 ·obtain rfl : n1 = n2 := by omega
  clear hne; go_enter Try.func59, Try.ntmps59; go_wp2_with fail; go_loopw [13] (fun iv wr => ∃ (i q : Nat), iv = int i64 i ∧ i ≤ n1 ∧ wr = W.drewN q ∧ Hid (∀ j, j < i → l1[j]? = l2[j]?)) (fun iv _ => n1 + 1 - (intOf iv).toNat)
  case atStart => exact ⟨0, 0, rfl, Nat.zero_le _, rfl, qh (fun j hj => by omega)⟩
  case round =>
   obtain ⟨i, q, rfl, hin, rfl, hal⟩ := hrel; by_cases hlt : i < n1
   ·have hi : (i : Int) < (n1 : Int) := by omega
    obtain ⟨x, hx⟩ : ∃ x, l1[i]? = some x := ⟨_, qg (by rw [HN1.out]; exact hlt)⟩; obtain ⟨y, hy⟩ : ∃ y, l2[i]? = some y := ⟨_, qg (by rw [HN2.out]; exact hlt)⟩; have e1 := HF1.out.resolve_left (fun e => by rw [e] at hx; simp at hx); have e2 := HF2.out.resolve_left (fun e => by rw [e] at hy; simp at hy); have z1 := HK1.out i x hx; have z2 := HK2.out i y hy; have HX := qh hx; have HY := qh hy; clear hx hy; subst e1 e2; by_cases hxy : x = y
    ·subst hxy
     go_wp2_with fail; go_quiet (fail); go_wp2_with fail; go_roundw
     case rel => exact ⟨i + 1, _, by go_num, by omega, rfl, qh (fun j hj => by rcases Nat.lt_or_ge j i with h | h; exact hal.out j h; rw [show j = i by omega, HX.out, HY.out])⟩
     case measure => simp [intOf]; omega
    ·have hno : ¬ l1 = l2 := fun e => by have := HX.out; rw [e, HY.out] at this; cases this; exact hxy rfl
     have HNO := qh hno; clear hno; go_wp2_with fail; go_quiet (fail); go_wp2_with fail; go_ret; exact ⟨by rw [decide_eq_false HNO.out]; rfl, Ar (Ar (Below.refl _ _) _) _⟩
   ·have : i = n1 := by omega
    subst this; have hz : ¬ (i : Int) < (i : Int) := by omega
    have hye : l1 = l2 := by
     apply List.ext_getElem?; intro j; rcases Nat.lt_or_ge j i with h | h
     ·exact hal.out j h
     ·rw [List.getElem?_eq_none (by rw [HN1.out]; exact h), List.getElem?_eq_none (by rw [HN2.out]; exact h)]
    have HYE := qh hye; clear hye; go_wp2_with fail; go_ret; exact ⟨by rw [decide_eq_true HYE.out]; rfl, Ar (Below.refl _ _) _⟩
 ·have hno : ¬ l1 = l2 := fun e => hne (by rw [← HN1.out, ← HN2.out, e])
  have HNO := qh hno; clear hno; go_enter Try.func59, Try.ntmps59; go_wp2_with fail; go_ret; exact ⟨by rw [decide_eq_false HNO.out]; rfl, Below.refl _ _⟩
end
end Go.Proofs.Ytpnbpepkoekkoaa
