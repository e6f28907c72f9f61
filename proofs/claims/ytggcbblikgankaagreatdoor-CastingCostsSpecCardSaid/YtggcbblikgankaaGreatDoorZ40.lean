/- Contracts and plain laws on the way to the statement: part 40. -/
import Derived.Test.YtggcbblikgankaaGreatDoorZ39
import Derived.Test.YtggcbblikgankaaGreatDoorZ3
set_option linter.unusedVariables false
set_option linter.unusedSimpArgs false
set_option maxRecDepth 100000
set_option maxHeartbeats 16000000
namespace Go.Proofs.YtggcbblikgankaaGreatDoor
open Go.Value (int)
open Go.IntKind (i64)
section
open Go Go.RowKit Go.Deep
abbrev PI : Array Value := #[.string ⟨#[97]⟩, int i64 50, int i64 0, int i64 1, int i64 9, int i64 1, int i64 1, int i64 1, int i64 1, int i64 9, int i64 9, int i64 9, int i64 3, int i64 3, int i64 3, int i64 0, int i64 0]
abbrev Rj : Array Value := #[.string ⟨#[97]⟩, int i64 50, int i64 0, int i64 1, int i64 2, int i64 2, int i64 1, int i64 1, int i64 1, int i64 9, int i64 9, int i64 9, int i64 3, int i64 3, int i64 3, int i64 0, int i64 0, .string ⟨#[97]⟩, int i64 50, int i64 0, int i64 1, int i64 9, int i64 1, int i64 1, int i64 1, int i64 1, int i64 9, int i64 9, int i64 9, int i64 3, int i64 3, int i64 3, int i64 0, int i64 0]
theorem N6 (w0 w : World) (hE : Env w0) (hz : 2 ≤ w0.heap.size) (hw : Below w0.heap.size w0 w) (K g : Nat) (a2 : Option Addr) (c2 : Nat) (a12 : Option Addr) (c12 U V : Nat) (hK : w0.heap.size ≤ K ∧ w.heap.size = K + 5) (h1 : w.heap[K]? = some (.cells GS 86 (0, 0))) (h2 : w.heap[K + 1]? = some (.cells #[int i64 0, int i64 9, int i64 0] 88 (0, 0))) (h3 : w.heap[K + 2]? = some (.cells GY 72 (0, 0))) (h4 : w.heap[K + 3]? = some (.cells (EQ K (K + 1) (K + 2)) 32 (0, 0))) (h5 : w.heap[K + 4]? = some (.cells caseAc 35 (0, 0)))
  (hr2 : IsRow AX 1 w (.slice a2 2 c2) [1, 0]) (hr12 : IsRow AX 1 w (.slice a12 2 c12) [1, 2]) (R : Ending → World → Prop) (X : Code) (e9 ea eb ec ed ee ef eg eh ei ej ek el em en eo ep eq er es et eu ev ew ex ey ez eA eB eC eD eE eF eG eH eI eJ eK eL eM eN eO eP eQ eR eS eT eU eV eW eX eY eZ aa ab ac ad ae af ag ah ai aj ak al am an ao ap aq ar au av aw ax ay az aA aB aC aD aE aF aG aH aI aJ aK aL aM aN aO aP aQ aR aS aT aU aV aW aX aY aZ ba bb bc bd be bf bg bh bi bj bk bl bm bn bo bp bq br bs bt bu bv bw bx bz bA bB bC bD bE bF bG bH bI bJ bK bL bM bN bO bP bQ bR bS bT bU bV bW bX bY bZ ca cb cc cd ce cf cg ch ci cj ck cl cm cn co cp cq cr cs ct cu cv cw cx cy cz cA cB cC cD cE cF cG cH cI cJ cK cL cM cN cO cP : Value)
  (hX : ∀ (W : World) (a29 : Option Addr) (c29 : Nat) (cR cS cT cU cV cW cX cY cZ da db dc : Value), Below w0.heap.size w0 W → IsRow AX 1 W (.slice a2 2 c2) [1, 0] → IsRow AX 1 W (.slice a12 2 c12) [1, 2] → IsMat W (.slice a29 2 c29) [[16, -1], [0, 0]] → Code.wp Tryz.prog X (bodyPost Tryz.prog Tryz.f14 R) { tmps := #[.bool false, .slice (some ⟨g, 0, none⟩) 2 2, .slice a2 2 c2, int i64 3, .bool true, int i64 0, int i64 3, .bool true, int i64 0, e9, .bool false, int i64 0, .slice a12 2 c12, .bool true, int i64 0, ea, .bool false, int i64 0, .slice (some ⟨U, 0, none⟩) 2 2, .slice (some ⟨V, 0, none⟩) 2 2, .bool true, int i64 0, eb, ec, .bool false, int i64 0, .pointer (some ⟨K + 3, 0, none⟩), .pointer (some ⟨K + 4, 0, none⟩), cR, .slice a29 2 c29, int i64 0, eg, eh, ei, ej, ek, el, em, en, eo, ep, eq, er, es, et, eu, ev, ew, ex, ey, ez, eA, eB, eC, eD, eE, eF, eG, eH, eI, eJ, eK, eL, eM, eN, eO, eP, eQ, eR, eS, eT, eU, eV, eW, eX, eY, eZ, aa, ab, ac, ad, ae, af, ag, ah, ai, aj, ak, al, am, an, ao, ap, aq, ar, au, av, aw, ax, ay, az, aA, aB, aC, aD, aE, aF, aG, aH, aI, aJ, aK, aL, aM, aN, aO, aP, aQ, aR, aS, aT, aU, aV, aW, aX, aY, aZ, ba, bb, bc, bd, be, bf, bg, bh, bi, bj, bk, bl, bm, bn, bo, bp, bq, br, bs, bt, bu, bv, bw, bx, bz, bA, bB, bC, bD, bE, cS, cT, cU, cV, cW, cX, cY, cZ, da, db, dc, bQ, bR, bS, bT, bU, bV, bW, bX, bY, bZ, ca, cb, cc, cd, ce, cf, cg, ch, ci, cj, ck, cl, cm, cn, co, cp, cq, cr, cs, ct, cu, cv, cw, cx, cy, cz, cA, cB, cC, cD, cE, cF, cG, cH, cI, cJ, cK, cL, cM, cN, cO, cP], defers := [] } W) :
  Code.wp Tryz.prog (A8 3 DA X) (bodyPost Tryz.prog Tryz.f14 R) { tmps := #[.bool false, .slice (some ⟨g, 0, none⟩) 2 2, .slice a2 2 c2, int i64 3, .bool true, int i64 0, int i64 3, .bool true, int i64 0, e9, .bool false, int i64 0, .slice a12 2 c12, .bool true, int i64 0, ea, .bool false, int i64 0, .slice (some ⟨U, 0, none⟩) 2 2, .slice (some ⟨V, 0, none⟩) 2 2, .bool true, int i64 0, eb, ec, .bool false, int i64 0, .pointer (some ⟨K + 3, 0, none⟩), .pointer (some ⟨K + 4, 0, none⟩), ed, ee, ef, eg, eh, ei, ej, ek, el, em, en, eo, ep, eq, er, es, et, eu, ev, ew, ex, ey, ez, eA, eB, eC, eD, eE, eF, eG, eH, eI, eJ, eK, eL, eM, eN, eO, eP, eQ, eR, eS, eT, eU, eV, eW, eX, eY, eZ, aa, ab, ac, ad, ae, af, ag, ah, ai, aj, ak, al, am, an, ao, ap, aq, ar, au, av, aw, ax, ay, az, aA, aB, aC, aD, aE, aF, aG, aH, aI, aJ, aK, aL, aM, aN, aO, aP, aQ, aR, aS, aT, aU, aV, aW, aX, aY, aZ, ba, bb, bc, bd, be, bf, bg, bh, bi, bj, bk, bl, bm, bn, bo, bp, bq, br, bs, bt, bu, bv, bw, bx, bz, bA, bB, bC, bD, bE, bF, bG, bH, bI, bJ, bK, bL, bM, bN, bO, bP, bQ, bR, bS, bT, bU, bV, bW, bX, bY, bZ, ca, cb, cc, cd, ce, cf, cg, ch, ci, cj, ck, cl, cm, cn, co, cp, cq, cr, cs, ct, cu, cv, cw, cx, cy, cz, cA, cB, cC, cD, cE, cF, cG, cH, cI, cJ, cK, cL, cM, cN, cO, cP], defers := [] } w := by
 have HX := qh hX; have HE := qh hE; have HW := qh hw; have HR2 := qh hr2; have HR12 := qh hr12
 obtain ⟨hK0, hKs⟩ := hK
 have ones : caseAc.all (·.oneCell') = true := by simp [caseAc, Value.oneCell']
 obtain ⟨V6, d6, g6, b6, s6⟩ := Au w (.cells caseAc 35)
 obtain ⟨V7, d7, g7, o7, b7, s7⟩ := QY g6 4 (int i64 9)
 obtain ⟨V8, d8, g8, o8, b8, s8⟩ := QY g7 5 (int i64 1)
 have G8 : Hid (V8.heap[w.heap.size]? = some (.cells PI 35 (0, 0))) := qh g8
 have k4 : V6.cell? ⟨w.heap.size, 4, none⟩ = some (int i64 2) := A0 g6 4 rfl
 have f4 : V6.frozen? ⟨w.heap.size, 4, none⟩ = false := by simp [World.frozen?, g6]
 have k5 : V7.cell? ⟨w.heap.size, 5, none⟩ = some (int i64 2) := A0 g7 5 rfl
 have f5 : V7.frozen? ⟨w.heap.size, 5, none⟩ = false := by simp [World.frozen?, g7]
 have hB8 : Below w.heap.size w V8 := b8 _ _ (b7 _ _ b6 (by omega)) (by omega)
 have HG4 := qh ((hB8.block _ (by omega)).trans h4); have HG5 := qh ((hB8.block _ (by omega)).trans h5); have H5 := qh h5
 obtain ⟨V9, d9, g9, b9, s9⟩ := Au V8 (.cells Rj 35)
 have hB9 : Below w.heap.size w V9 := hB8.trans (b9.mono (by omega))
 have hw9 : Below w0.heap.size w0 V9 := hw.trans (hB9.mono hw.size)
 have hcc := Mb K (K + 1) (K + 2) V8.heap.size V9 (Env.two hE hz hw9) (Nat.le_trans hz hw9.size) ((hB9.block _ (by omega)).trans h1) ((hB9.block _ (by omega)).trans h2) ((hB9.block _ (by omega)).trans h3) g9
 have HCC := qh hcc; have HB9 := qh hB9; have HW9 := qh hw9; have HO := qh ones
 have D9 := qh d9; have D7 := qh d7; have D8 := qh d8
 have D6 := qh d6
 clear hX hE hw hr2 hr12 d6 hKs hK0 g6 g7 g8 o7 o8 b6 b7 b8 s6 s7 s8 b9 s9 g9 hB8 hcc hB9 hw9 ones h1 h2 h3 h4 h5 d7 d8 d9
 unfold DA DD EV
 conv => arg 2; whnf
 go_wp2_with (first | (refine wpList_load_row rfl 35 _ rfl (K + 4) rfl 35 caseAc (0, 0) _ H5.out Tryz.underlying35 rfl (by kernel_rfl) ?_; simp only [Act.put, qD, qE, qF]) | (refine wpList_store_row rfl 35 _ _ rfl w.heap.size caseAc rfl rfl 35 _ (heap_alloc_new w _) (by kernel_rfl) rfl HO.out ?_; rw [World.setRow_alloc_new]))
 have hd6 := D6.out
 unfold caseAc at hd6
 try rw [hd6]
 try rw [D6.out]
 have d7 := D7.out; have d8 := D8.out
 conv => arg 2; whnf
 go_wp2_with fail
 clear d7 d8 k4 f4 k5 f5
 have d9 := D9.out
 conv => arg 2; whnf
 go_wp2_with (first | (refine wpList_load_row rfl 32 _ rfl (K + 3) rfl 32 _ (0, 0) _ HG4.out Tryz.underlying32 rfl (by kernel_rfl) ?_; simp only [Act.put, qD, qE, qF]) | (refine wpList_load_row rfl 35 _ rfl (K + 4) rfl 35 caseAc (0, 0) _ HG5.out Tryz.underlying35 rfl (by kernel_rfl) ?_; simp only [Act.put, qD, qE, qF]) | (refine wpList_load_row rfl 35 _ rfl w.heap.size rfl 35 PI (0, 0) _ G8.out Tryz.underlying35 rfl (by kernel_rfl) ?_; simp only [Act.put, qD, qE, qF]))
 refine HCC.out.mono ?_
 rintro e W' ⟨a29, c29, rfl, hm, hb⟩
 have hb0 := HW9.out.trans (hb.mono HW9.out.size)
 have hbw := HB9.out.trans (hb.mono HB9.out.size)
 have R2 := qh (HR2.out.below hbw (qn _)); have R12 := qh (HR12.out.below hbw (qn _)); have M := qh hm; have B0 := qh hb0
 clear hb hb0 hbw hm HCC d9 D9
 go_wp2_with fail
 exact HX.out W' a29 c29 _ _ _ _ _ _ _ _ _ _ _ _ B0.out R2.out R12.out M.out
end
section
open Go Go.RowKit Go.Deep
theorem OL (W : World) : (Instr.makeSlice 50 (int i64 17) (int i64 17)).run Tryz.prog W = .ok (.slice (some ⟨W.heap.size, 0, none⟩) 17 17) (W.alloc (.cells (Array.replicate 17 (.slice none 0 0)) 55)) := by
 obtain ⟨i, h1, h2, h3, h4⟩ := info_parts Fq
 have h := run_make (P := Tryz.prog) W 50 55 i (.slice none 0 0) Tryz.underlying50 h1 h2 .i64 .i64 17 17 (by omega) (Int.le_refl _) (by rw [h4]; omega) (by omega)
 rw [h, h3]
 simp [Value.cells, GQ]
 rfl
theorem Qw {W : World} {g : Nat} (h : W.heap[g]? = some (.cells (Array.replicate 17 (.slice none 0 0)) 55 (0, 0))) : IsMat W (.slice (some ⟨g, 0, none⟩) 17 17) (List.replicate 17 []) := by
 refine ⟨List.replicate 17 (.slice none 0 0), AQ (enc := G9) (k := 1) (fun _ => rfl) h rfl (by decide) (by rw [Gi]; simp), rfl, fun i x row hx hr => ?_⟩
 rw [List.getElem?_replicate] at hx hr
 split at hx
 ·cases hx
  rename_i hi
  rw [if_pos hi] at hr
  cases hr
  exact IsRow.nil
 ·cases hx
theorem QW (w0 w : World) (hw : Below w0.heap.size w0 w) (g : Nat) (a2 : Option Addr) (c2 : Nat) (a12 : Option Addr) (c12 U V : Nat) (a29 : Option Addr) (c29 : Nat) (hr2 : IsRow AX 1 w (.slice a2 2 c2) [1, 0]) (hr12 : IsRow AX 1 w (.slice a12 2 c12) [1, 2]) (hm : IsMat w (.slice a29 2 c29) [[16, -1], [0, 0]]) (e9 ea eb ec ed ee ef eg eh ei ej ek el em en eo ep eq er es et eu ev ew ex ey ez eA eB eC eD eE eF eG eH eI eJ eK eL eM eN eO eP eQ eR eS eT eU eV eW eX eY eZ aa ab ac ad ae af ag ah ai aj ak al am an ao ap aq ar au av aw ax ay az aA aB aC aD aE aF aG aH aI aJ aK aL aM aN aO aP aQ aR aS aT aU aV aW aX aY aZ ba bb bc bd be bf bg bh bi bj bk bl bm bn bo bp bq br bs bt bu bv bw bx bz bA bB bC bD bE bF bG bH bI bJ bK bL bM bN bO bP bQ bR bS bT bU bV bW bX bY bZ ca cb cc cd ce cf cg ch ci cj ck cl cm cn co cp cq cr cs ct cu cv cw cx cy cz cA cB cC cD cE cF cG cH cI cJ cK cL cM cN cO cP : Value) :
  Code.wp Tryz.prog FP (bodyPost Tryz.prog Tryz.f14 (Qo w0)) { tmps := #[.bool false, .slice (some ⟨g, 0, none⟩) 2 2, .slice a2 2 c2, int i64 3, .bool true, int i64 0, int i64 3, .bool true, int i64 0, e9, .bool false, int i64 0, .slice a12 2 c12, .bool true, int i64 0, ea, .bool false, int i64 0, .slice (some ⟨U, 0, none⟩) 2 2, .slice (some ⟨V, 0, none⟩) 2 2, .bool true, int i64 0, eb, ec, .bool false, int i64 0, ed, ee, ef, .slice a29 2 c29, int i64 0, eg, eh, ei, ej, ek, el, em, en, eo, ep, eq, er, es, et, eu, ev, ew, ex, ey, ez, eA, eB, eC, eD, eE, eF, eG, eH, eI, eJ, eK, eL, eM, eN, eO, eP, eQ, eR, eS, eT, eU, eV, eW, eX, eY, eZ, aa, ab, ac, ad, ae, af, ag, ah, ai, aj, ak, al, am, an, ao, ap, aq, ar, au, av, aw, ax, ay, az, aA, aB, aC, aD, aE, aF, aG, aH, aI, aJ, aK, aL, aM, aN, aO, aP, aQ, aR, aS, aT, aU, aV, aW, aX, aY, aZ, ba, bb, bc, bd, be, bf, bg, bh, bi, bj, bk, bl, bm, bn, bo, bp, bq, br, bs, bt, bu, bv, bw, bx, bz, bA, bB, bC, bD, bE, bF, bG, bH, bI, bJ, bK, bL, bM, bN, bO, bP, bQ, bR, bS, bT, bU, bV, bW, bX, bY, bZ, ca, cb, cc, cd, ce, cf, cg, ch, ci, cj, ck, cl, cm, cn, co, cp, cq, cr, cs, ct, cu, cv, cw, cx, cy, cz, cA, cB, cC, cD, cE, cF, cG, cH, cI, cJ, cK, cL, cM, cN, cO, cP], defers := [] } w := by
 have HW := qh hw; have HR2 := qh hr2; have HR12 := qh hr12
 obtain ⟨V1, d1, g1, b1, s1⟩ := Au w (.cells #[int i64 16, int i64 (-1)] 3)
 obtain ⟨V2, d2, g2, b2, s2⟩ := Au V1 (.cells #[int i64 0, int i64 0] 3)
 obtain ⟨V3, d3, g3, b3, s3⟩ := Au V2 (.cells #[.slice (some ⟨w.heap.size, 0, none⟩) 2 2, .slice (some ⟨w.heap.size + 1, 0, none⟩) 2 2] 55)
 have t2 : V2.heap.size = w.heap.size + 1 + 1 := by omega
 rw [s1] at g2 b2
 rw [t2] at g3 b3
 have hB3 : Below w.heap.size w V3 := (b1.trans (b2.mono (by omega))).trans (b3.mono (by omega))
 have hM3 : IsMat V3 (.slice (some ⟨w.heap.size + 1 + 1, 0, none⟩) 2 2) [[16, -1], [0, 0]] := JP (EK g3 rfl (by omega)) (B9 (n := 2) (l := [16, -1]) ((b3.block _ (by omega)).trans ((b2.block _ (by omega)).trans g1)) rfl rfl (by omega)) (B9 (n := 2) (l := [0, 0]) ((b3.block _ (by omega)).trans g2) rfl rfl (by omega))
 have hsame := Js a29 (some ⟨w.heap.size + 1 + 1, 0, none⟩) 2 2 c29 2 [[16, -1], [0, 0]] [[16, -1], [0, 0]] rfl rfl V3 (hm.below hB3 (qn _)) hM3
 rw [decide_eq_true rfl] at hsame
 have HS := qh hsame; have HB3 := qh hB3
 clear hw hr2 hr12 hm hsame hB3 hM3 g1 g2 g3 b1 b2 b3 s2 s3
 unfold FP DA DD EV
 conv => arg 2; whnf
 go_wp2_with fail
 refine HS.out.mono ?_
 rintro e W2 ⟨rfl, hb2⟩
 have HB2 := qh (HB3.out.trans (hb2.mono HB3.out.size))
 clear hb2 HS HB3 d1 d2 d3 s1 t2
 go_wp2_with fail
 obtain ⟨P1, d1, g1, b1, s1⟩ := Au W2 (.cells #[int i64 (-2)] 3)
 obtain ⟨P2, d2, g2, b2, s2⟩ := Au P1 (.cells #[.slice (some ⟨W2.heap.size, 0, none⟩) 1 1] 55)
 rw [s1] at g2 b2
 have hBP : Below W2.heap.size W2 P2 := b1.trans (b2.mono (by omega))
 have hch := BK P2 (NF (EK (n := 1) g2 rfl (by omega)) (B9 (n := 1) (l := [-2]) ((b2.block _ (by omega)).trans g1) rfl rfl (by omega)))
 rw [OT] at hch
 have HCH := qh hch; have HBP := qh (HB2.out.trans (hBP.mono HB2.out.size))
 have hmk := OL
 clear hch hBP g1 g2 b1 b2 s2 HB2
 conv => arg 2; whnf
 go_wp2_with fail
 refine HCH.out.mono ?_
 rintro e W3 ⟨rfl, hb3⟩
 have HB3 := qh (HBP.out.trans (hb3.mono HBP.out.size))
 clear hb3 HCH HBP d1 d2 s1
 obtain ⟨P1, d1, g1, b1, s1⟩ := Au W3 (.cells #[int i64 1, int i64 2] 3)
 obtain ⟨P2, d2, g2, b2, s2⟩ := Au P1 (.cells #[int i64 1] 3)
 obtain ⟨P3, d3, g3, b3, s3⟩ := Au P2 (.cells #[.slice (some ⟨W3.heap.size, 0, none⟩) 2 2, .slice (some ⟨W3.heap.size + 1, 0, none⟩) 1 1] 55)
 have t2 : P2.heap.size = W3.heap.size + 1 + 1 := by omega
 rw [s1] at g2 b2
 rw [t2] at g3 b3
 have hBP : Below W3.heap.size W3 P3 := (b1.trans (b2.mono (by omega))).trans (b3.mono (by omega))
 have hch := BK P3 (JP (EK (n := 2) g3 rfl (by omega)) (B9 (n := 2) (l := [1, 2]) ((b3.block _ (by omega)).trans ((b2.block _ (by omega)).trans g1)) rfl rfl (by omega)) (B9 (n := 1) (l := [1]) ((b3.block _ (by omega)).trans g2) rfl rfl (by omega)))
 rw [RP] at hch
 have HCH := qh hch; have HBP := qh (HB3.out.trans (hBP.mono HB3.out.size))
 clear hch hBP g1 g2 g3 b1 b2 b3 s2 s3 HB3
 go_wp2_with fail
 refine HCH.out.mono ?_
 rintro e W4 ⟨rfl, hb4⟩
 have HB4 := qh (HBP.out.trans (hb4.mono HBP.out.size))
 clear hb4 HCH HBP d1 d2 d3 s1 t2
 have hch := BK (W4.alloc (.cells (Array.replicate 17 (.slice none 0 0)) 55)) (Qw (heap_alloc_new W4 _))
 rw [Qs] at hch
 have HCH := qh hch; have HBP := qh (HB4.out.alloc HB4.out.size (.cells (Array.replicate 17 (.slice none 0 0)) 55))
 clear hch HB4
 go_wp2_with fail
 refine HCH.out.mono ?_
 rintro e W5 ⟨rfl, hb5⟩
 have HB5 := qh (HBP.out.trans (hb5.mono HBP.out.size))
 clear hb5 HCH HBP hmk
 go_wp2_with fail
 obtain ⟨P1, d1, g1, b1, s1⟩ := Au W5 (.cells #[int i64 1, int i64 0] 3)
 have hsz5 := HB5.out.size
 have hsame := G7 a2 (some ⟨W5.heap.size, 0, none⟩) 2 2 c2 2 [1, 0] [1, 0] rfl rfl P1 (HR2.out.below (HB5.out.trans (b1.mono hsz5)) (qn _)) (B9 (n := 2) (l := [1, 0]) g1 rfl rfl (by omega))
 rw [decide_eq_true rfl] at hsame
 have HS := qh hsame; have HBP := qh (HB5.out.trans (b1.mono hsz5))
 clear hsame g1 b1 s1 HB5 hsz5
 conv => arg 2; whnf
 go_wp2_with fail
 refine HS.out.mono ?_
 rintro e W6 ⟨rfl, k, hw6⟩
 have HB6 := qh (show Below w.heap.size w W6 by rw [hw6]; exact A5 HBP.out k)
 clear hw6 HS HBP d1
 obtain ⟨P1, d1, g1, b1, s1⟩ := Au W6 (.cells #[int i64 1, int i64 2] 3)
 have hsz6 := HB6.out.size
 have hsame := G7 a12 (some ⟨W6.heap.size, 0, none⟩) 2 2 c12 2 [1, 2] [1, 2] rfl rfl P1 (HR12.out.below (HB6.out.trans (b1.mono hsz6)) (qn _)) (B9 (n := 2) (l := [1, 2]) g1 rfl rfl (by omega))
 rw [decide_eq_true rfl] at hsame
 have HS := qh hsame; have HBP := qh (HB6.out.trans (b1.mono hsz6))
 clear hsame g1 b1 s1 HB6 hsz6
 go_wp2_with fail
 refine HS.out.mono ?_
 rintro e W7 ⟨rfl, k7, hw7⟩
 have HB7 := qh (show Below w.heap.size w W7 by rw [hw7]; exact A5 HBP.out k7)
 clear hw7 HS HBP d1
 go_wp2_with fail
 go_ret
 exact ⟨rfl, HW.out.trans (HB7.out.mono HW.out.size)⟩
theorem N1 (w : World) (hE : Env w) (hz : 2 ≤ w.heap.size) : Calls Tryz.prog 14 #[] w (Qo w) := by
 have HE := qh hE
 clear hE
 go_enter Tryz.func14, Tryz.ntmps14
 change Code.wp Tryz.prog (A8 9 EV (A8 3 DD (A8 3 DA FP))) _ _ _
 refine N5 w _ _ _ _ _ _ _ _ _ _ _ _ _ _ _ _ _ _ _ _ _ _ _ _ _ _ _ _ _ _ _ _ _ _ _ _ _ _ _ _ _ _ _ _ _ _ _ _ _ _ _ _ _ _ _ _ _ _ _ _ _ _ _ _ _ _ _ _ _ _ _ _ _ _ _ _ _ _ _ _ _ _ _ _ _ _ _ _ _ _ _ _ _ _ _ _ _ _ _ _ _ _ _ _ _ _ _ _ _ _ _ _ _ _ _ _ _ _ _ _ _ _ _ _ _ _ _ _ _ _ _ _ _ _ _ _ _ _ _ _ _ _ _ _ _ _ _ _ _ _ _ _ _ _ _ _ _ _ _ _ _ _ _ _ _ _ _ _ _ _ _ _ _ _ _ _ _ _ _ _ _ _ _ _ _ _ _ _ _ _ _ _ _ _ _ _ _ _ _ _ _ _ _ _ _ _ _ _ _ _ _ _ _ _ _ _ _ _ _ _ _ _ ?_
 intro W1 g a2 c2 a12 c12 U V _ _ _ _ _ _ _ _ _ _ _ _ _ _ _ _ _ _ _ _ _ _ _ _ _ _ _ _ _ _ _ _ _ _ _ _ _ _ _ _ _ _ _ _ _ _ _ _ _ _ _ _ _ _ _ _ _ _ _ _ hb1 hr2 hr12
 refine N4 W1 g a2 c2 a12 c12 U V _ _ _ _ _ _ _ _ _ _ _ _ _ _ _ _ _ _ _ _ _ _ _ _ _ _ _ _ _ _ _ _ _ _ _ _ _ _ _ _ _ _ _ _ _ _ _ _ _ _ _ _ _ _ _ _ _ _ _ _ _ _ _ _ _ _ _ _ _ _ _ _ _ _ _ _ _ _ _ _ _ _ _ _ _ _ _ _ _ _ _ _ _ _ _ _ _ _ _ _ _ _ _ _ _ _ _ _ _ _ _ _ _ _ _ _ _ _ _ _ _ _ _ _ _ _ _ _ _ _ _ _ _ _ _ _ _ _ _ _ _ _ _ _ _ _ _ _ _ _ _ _ _ _ _ _ _ _ _ _ _ _ _ _ _ _ _ _ _ _ _ _ _ _ _ _ _ _ _ _ _ _ _ _ _ _ _ _ _ _ _ _ _ _ _ _ _ _ _ _ ?_
 intro W2 K _ _ _ _ _ _ _ _ _ _ _ _ _ _ _ _ _ _ _ _ _ _ _ _ _ _ _ _ _ _ _ _ _ _ _ _ _ _ _ _ _ _ _ _ _ _ _ _ _ _ _ _ _ _ _ _ _ _ _ _ _ _ _ _ _ _ _ _ _ _ hb2 hK h1 h2 h3 h4 h5
 refine N6 w W2 HE.out hz (hb1.trans (hb2.mono hb1.size)) K g a2 c2 a12 c12 U V ⟨Nat.le_trans hb1.size hK.1, hK.2⟩ h1 h2 h3 h4 h5 (hr2.below hb2 (qn _)) (hr12.below hb2 (qn _)) _ _ _ _ _ _ _ _ _ _ _ _ _ _ _ _ _ _ _ _ _ _ _ _ _ _ _ _ _ _ _ _ _ _ _ _ _ _ _ _ _ _ _ _ _ _ _ _ _ _ _ _ _ _ _ _ _ _ _ _ _ _ _ _ _ _ _ _ _ _ _ _ _ _ _ _ _ _ _ _ _ _ _ _ _ _ _ _ _ _ _ _ _ _ _ _ _ _ _ _ _ _ _ _ _ _ _ _ _ _ _ _ _ _ _ _ _ _ _ _ _ _ _ _ _ _ _ _ _ _ _ _ _ _ _ _ _ _ _ _ _ _ _ _ _ _ _ _ _ _ _ _ _ _ _ _ _ _ _ _ _ _ _ _ _ _ _ _ _ _ _ _ _ _ _ _ _ _ _ _ _ _ _ _ _ _ _ _ _ _ _ _ _ _ _ _ _ _ ?_
 intro W3 a29 c29 _ _ _ _ _ _ _ _ _ _ _ _ hb3 hr2 hr12 hm
 exact QW w W3 hb3 g a2 c2 a12 c12 U V a29 c29 hr2 hr12 hm _ _ _ _ _ _ _ _ _ _ _ _ _ _ _ _ _ _ _ _ _ _ _ _ _ _ _ _ _ _ _ _ _ _ _ _ _ _ _ _ _ _ _ _ _ _ _ _ _ _ _ _ _ _ _ _ _ _ _ _ _ _ _ _ _ _ _ _ _ _ _ _ _ _ _ _ _ _ _ _ _ _ _ _ _ _ _ _ _ _ _ _ _ _ _ _ _ _ _ _ _ _ _ _ _ _ _ _ _ _ _ _ _ _ _ _ _ _ _ _ _ _ _ _ _ _ _ _ _ _ _ _ _ _ _ _ _ _ _ _ _ _ _ _ _ _ _ _ _ _ _ _ _ _ _ _ _ _ _ _ _ _ _ _ _ _ _ _ _ _ _ _ _ _ _ _ _ _ _ _ _ _ _ _ _ _ _ _ _ _ _ _ _ _ _ _
end
end Go.Proofs.YtggcbblikgankaaGreatDoor
