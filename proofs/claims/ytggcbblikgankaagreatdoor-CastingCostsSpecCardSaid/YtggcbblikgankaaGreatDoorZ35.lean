/- Contracts and plain laws on the way to the statement: part 35. -/
import Derived.Test.YtggcbblikgankaaGreatDoorZ34
import Derived.Test.YtggcbblikgankaaGreatDoorZ3
set_option linter.unusedVariables false
set_option linter.unusedSimpArgs false
set_option maxRecDepth 100000
set_option maxHeartbeats 16000000
namespace Go.Proofs.YtggcbblikgankaaGreatDoor
open Go.Value (int)
open Go.IntKind (i64)
section
open Go Go.RowKit Go.Deep
noncomputable def I6 : Code := Ag 1 BU
noncomputable def I9 : Code := Ag 2 BU
theorem Nb (aoC : Option Addr) (n m ccC : Nat) (hn0 : n ≤ 1000) (hm0 : m ≤ 1000) (w : World) (e2 e3 e4 e5 e6 e7 e8 e9 ea eb ec ed ee ef eg eh ei ej ek el em en eo ep eq er es et eu ev ew ex ey ez eA eB eC eD eE eF eG eH eI eJ eK eL eM eN eO eP eQ eR eS eT eU eV eW eX eY eZ aa ab ac ad ae af ag ah ai aj ak al am an ao ap aq ar au av aw ax ay az aA aB aC aD aE aF aG aH aI aJ aK aL aM aN aO aP aQ aR aS aT aU aV aW aX aY aZ ba bb bc bd be bf bg bh bi bj bk bl bm bn bo bp bq br bs bt bu bv bw bx bz bA bB bC bD bE bF bG bH bI bJ bK bL bM bN bO bP bQ bR bS bT bU bV bW bX bY bZ ca cb cc cd ce cf cg ch ci cj ck cl cm cn co cp cq cr cs ct cu cv cw cx cy cz cA cB cC cD cE cF cG cH cI cJ cK cL cM cN cO cP cQ cR cS cT cU cV cW : Value) (Q : Exit → Act → World → Prop) (X : Code)
  (hX : ∀ (w' : World) (T U V : Nat) (cX cY cZ da db dc dd de : Value), Below w.heap.size w w' → BI w' T (List.replicate n 0) → BI w' U (List.replicate n 0) → BI w' V (List.replicate m 0) → (w.heap.size ≤ T ∧ w.heap.size ≤ U ∧ w.heap.size ≤ V) → (T ≠ U ∧ T ≠ V ∧ U ≠ V) → Code.wp Tryz.prog X Q { tmps := #[.slice aoC n ccC, int i64 m, e2, e3, .slice (some ⟨T, 0, none⟩) n n, .slice (some ⟨U, 0, none⟩) n n, .slice (some ⟨V, 0, none⟩) m m, e7, e8, e9, ea, eb, ec, ed, ee, ef, eg, eh, ei, ej, ek, el, em, cX, cY, cZ, da, db, dc, dd, de, ev, ew, ex, ey, ez, eA, eB, eC, eD, eE, eF, eG, eH, eI, eJ, eK, eL, eM, eN, eO, eP, eQ, eR, eS, eT, eU, eV, eW, eX, eY, eZ, aa, ab, ac, ad, ae, af, ag, ah, ai, aj, ak, al, am, an, ao, ap, aq, ar, au, av, aw, ax, ay, az, aA, aB, aC, aD, aE, aF, aG, aH, aI, aJ, aK, aL, aM, aN, aO, aP, aQ, aR, aS, aT, aU, aV, aW, aX, aY, aZ, ba, bb, bc, bd, be, bf, bg, bh, bi, bj, bk, bl, bm, bn, bo, bp, bq, br, bs, bt, bu, bv, bw, bx, bz, bA, bB, bC, bD, bE, bF, bG, bH, bI, bJ, bK, bL, bM, bN, bO, bP, bQ, bR, bS, bT, bU, bV, bW, bX, bY, bZ, ca, cb, cc, cd, ce, cf, cg, ch, ci, cj, ck, cl, cm, cn, co, cp, cq, cr, cs, ct, cu, cv, cw, cx, cy, cz, cA, cB, cC, cD, cE, cF, cG, cH, cI, cJ, cK, cL, cM, cN, cO, cP, cQ, cR, cS, cT, cU, cV, cW], defers := [] } w') :
  Code.wp Tryz.prog (A8 1 I6 X) Q { tmps := #[.slice aoC n ccC, int i64 m, e2, e3, e4, e5, e6, e7, e8, e9, ea, eb, ec, ed, ee, ef, eg, eh, ei, ej, ek, el, em, en, eo, ep, eq, er, es, et, eu, ev, ew, ex, ey, ez, eA, eB, eC, eD, eE, eF, eG, eH, eI, eJ, eK, eL, eM, eN, eO, eP, eQ, eR, eS, eT, eU, eV, eW, eX, eY, eZ, aa, ab, ac, ad, ae, af, ag, ah, ai, aj, ak, al, am, an, ao, ap, aq, ar, au, av, aw, ax, ay, az, aA, aB, aC, aD, aE, aF, aG, aH, aI, aJ, aK, aL, aM, aN, aO, aP, aQ, aR, aS, aT, aU, aV, aW, aX, aY, aZ, ba, bb, bc, bd, be, bf, bg, bh, bi, bj, bk, bl, bm, bn, bo, bp, bq, br, bs, bt, bu, bv, bw, bx, bz, bA, bB, bC, bD, bE, bF, bG, bH, bI, bJ, bK, bL, bM, bN, bO, bP, bQ, bR, bS, bT, bU, bV, bW, bX, bY, bZ, ca, cb, cc, cd, ce, cf, cg, ch, ci, cj, ck, cl, cm, cn, co, cp, cq, cr, cs, ct, cu, cv, cw, cx, cy, cz, cA, cB, cC, cD, cE, cF, cG, cH, cI, cJ, cK, cL, cM, cN, cO, cP, cQ, cR, cS, cT, cU, cV, cW], defers := [] } w := by
 have HX := qh hX
 clear hX
 have hmk1 := fun (W : World) => EF n hn0 W
 have hmk2 := fun (W : World) => EF m hm0 W
 have hB : Below w.heap.size w w.drew := (Below.refl _ w).drew
 unfold I6 BU
 conv => arg 2; whnf
 simp only [A8]
 refine wp_seq (wp_mono (Q := noP (Exit.then (Code.wp Tryz.prog X Q) Q)) ?_ (M9 _))
 refine wp_region_held (S := fun _ => True) (by kernel_rfl) ?_
 change wpAnyH _ _ _ _ _ _ _ _ w.drew
 have hz0 : w.heap.size = w.drew.heap.size := rfl
 generalize w.drew = V0 at *
 refine tq 0 _ (.slice aoC n ccC) rfl (by kernel_rfl) (fun _ _ _ h => h) (Or.inl ⟨by rfl, fun w _ => by go_simp⟩) trivial ?_
 try (simp only [Act.put, qA, qB, qC, qD, qE, qF])
 refine tq 1 _ (int i64 n) rfl (by kernel_rfl) (fun _ _ _ h => h) (Or.inl ⟨by rfl, fun w _ => by go_simp⟩) trivial ?_
 try (simp only [Act.put, qA, qB, qC, qD, qE, qF])
 refine tq 3 _ (.slice aoC n ccC) rfl (by kernel_rfl) (fun _ _ _ h => h) (Or.inl ⟨by rfl, fun w _ => by go_simp⟩) trivial ?_
 try (simp only [Act.put, qA, qB, qC, qD, qE, qF])
 refine tq 4 _ (int i64 n) rfl (by kernel_rfl) (fun _ _ _ h => h) (Or.inl ⟨by rfl, fun w _ => by go_simp⟩) trivial ?_
 try (simp only [Act.put, qA, qB, qC, qD, qE, qF])
 refine tq 6 _ (int i64 m) rfl (by kernel_rfl) (fun _ _ _ h => h) (Or.inl ⟨by rfl, fun w _ => by go_simp⟩) trivial ?_
 try (simp only [Act.put, qA, qB, qC, qD, qE, qF])
 refine wpAnyH_ready (rs := [2, 5, 7]) (by kernel_rfl) (by simp) ?_
 refine AllReadyH.cons (o := _) rfl (fun K1 hK => ?_) (AllReadyH.cons (o := _) rfl (fun K2 hK => ?_) (AllReadyH.cons (o := _) rfl (fun K3 hK => ?_) AllReadyH.nil))
 ·go_simp
  obtain ⟨V1, hV1, gV1, bV1⟩ := A3 V0 (.cells (Array.replicate n (int i64 0)) 3)
  rw [hV1]
  clear hV1
  have hB := hB.trans (bV1.mono hB.size)
  have zV1 : V0.heap.size < V1.heap.size := (qs.1 gV1).1
  have gT := A7 gV1
  refine hK.out _ _ trivial (fun _ => ?_)
  clear hK K1
  try (simp only [Act.put, qA, qB, qC, qD, qE, qF])
  refine wpAnyH_ready (rs := [5, 7, 8]) (by kernel_rfl) (by simp) ?_
  refine AllReadyH.cons (o := _) rfl (fun K1 hK => ?_) (AllReadyH.cons (o := _) rfl (fun K2 hK => ?_) (AllReadyH.cons (o := _) rfl (fun K3 hK => ?_) AllReadyH.nil))
  ·go_simp
   obtain ⟨V2, hV2, gV2, bV2⟩ := A3 V1 (.cells (Array.replicate n (int i64 0)) 3)
   rw [hV2]
   clear hV2
   have gT := gT.below bV2 (by have := gT.lt; omega)
   have hB := hB.trans (bV2.mono hB.size)
   have zV2 : V1.heap.size < V2.heap.size := (qs.1 gV2).1
   have gU := A7 gV2
   refine hK.out _ _ trivial (fun _ => ?_)
   clear hK K1
   try (simp only [Act.put, qA, qB, qC, qD, qE, qF])
   refine wpAnyH_ready (rs := [7, 8]) (by kernel_rfl) (by simp) ?_
   refine AllReadyH.cons (o := _) rfl (fun K1 hK => ?_) (AllReadyH.cons (o := _) rfl (fun K2 hK => ?_) AllReadyH.nil)
   ·go_simp
    obtain ⟨V3, hV3, gV3, bV3⟩ := A3 V2 (.cells (Array.replicate m (int i64 0)) 3)
    rw [hV3]
    clear hV3
    have gT := gT.below bV3 (by have := gT.lt; omega)
    have gU := gU.below bV3 (by have := gU.lt; omega)
    have hB := hB.trans (bV3.mono hB.size)
    have zV3 : V2.heap.size < V3.heap.size := (qs.1 gV3).1
    have gV := A7 gV3
    refine hK.out _ _ trivial (fun _ => ?_)
    clear hK K1
    try (simp only [Act.put, qA, qB, qC, qD, qE, qF])
    refine tr 8 _ (by kernel_rfl) rfl fun K1 hK => ?_
    go_simp
    refine hK.out _ _ trivial (fun _ => ?_)
    clear hK K1
    try (simp only [Act.put, qA, qB, qC, qD, qE, qF])
    refine tr 9 _ (by kernel_rfl) rfl fun K1 hK => ?_
    go_simp
    refine hK.out _ _ trivial (fun _ => ?_)
    clear hK K1
    try (simp only [Act.put, qA, qB, qC, qD, qE, qF])
    refine tr 10 _ (by kernel_rfl) rfl fun K1 hK => ?_
    go_simp
    refine hK.out _ _ trivial (fun _ => ?_)
    clear hK K1
    try (simp only [Act.put, qA, qB, qC, qD, qE, qF])
    refine wpAnyH_done (by kernel_rfl) ?_ _
    exact HX.out _ _ _ _ _ _ _ _ _ _ _ _ hB gT gU gV ⟨by omega, by omega, by omega⟩ ⟨by omega, by omega, by omega⟩
   ·go_simp
    refine hK.out _ _ trivial (fun _ => ?_)
    clear hK K2
    try (simp only [Act.put, qA, qB, qC, qD, qE, qF])
    refine wpAnyH_ready (rs := [7, 9]) (by kernel_rfl) (by simp) ?_
    refine AllReadyH.cons (o := _) rfl (fun K1 hK => ?_) (AllReadyH.cons (o := _) rfl (fun K2 hK => ?_) AllReadyH.nil)
    ·go_simp
     obtain ⟨V8, hV8, gV8, bV8⟩ := A3 V2 (.cells (Array.replicate m (int i64 0)) 3)
     rw [hV8]
     clear hV8
     have gT := gT.below bV8 (by have := gT.lt; omega)
     have gU := gU.below bV8 (by have := gU.lt; omega)
     have hB := hB.trans (bV8.mono hB.size)
     have zV8 : V2.heap.size < V8.heap.size := (qs.1 gV8).1
     have gV := A7 gV8
     refine hK.out _ _ trivial (fun _ => ?_)
     clear hK K1
     try (simp only [Act.put, qA, qB, qC, qD, qE, qF])
     refine tr 9 _ (by kernel_rfl) rfl fun K1 hK => ?_
     go_simp
     refine hK.out _ _ trivial (fun _ => ?_)
     clear hK K1
     try (simp only [Act.put, qA, qB, qC, qD, qE, qF])
     refine tr 10 _ (by kernel_rfl) rfl fun K1 hK => ?_
     go_simp
     refine hK.out _ _ trivial (fun _ => ?_)
     clear hK K1
     try (simp only [Act.put, qA, qB, qC, qD, qE, qF])
     refine wpAnyH_done (by kernel_rfl) ?_ _
     exact HX.out _ _ _ _ _ _ _ _ _ _ _ _ hB gT gU gV ⟨by omega, by omega, by omega⟩ ⟨by omega, by omega, by omega⟩
    ·go_simp
     refine hK.out _ _ trivial (fun _ => ?_)
     clear hK K2
     try (simp only [Act.put, qA, qB, qC, qD, qE, qF])
     refine tr 7 _ (by kernel_rfl) rfl fun K1 hK => ?_
     go_simp
     obtain ⟨V12, hV12, gV12, bV12⟩ := A3 V2 (.cells (Array.replicate m (int i64 0)) 3)
     rw [hV12]
     clear hV12
     have gT := gT.below bV12 (by have := gT.lt; omega)
     have gU := gU.below bV12 (by have := gU.lt; omega)
     have hB := hB.trans (bV12.mono hB.size)
     have zV12 : V2.heap.size < V12.heap.size := (qs.1 gV12).1
     have gV := A7 gV12
     refine hK.out _ _ trivial (fun _ => ?_)
     clear hK K1
     try (simp only [Act.put, qA, qB, qC, qD, qE, qF])
     refine tr 10 _ (by kernel_rfl) rfl fun K1 hK => ?_
     go_simp
     refine hK.out _ _ trivial (fun _ => ?_)
     clear hK K1
     try (simp only [Act.put, qA, qB, qC, qD, qE, qF])
     refine wpAnyH_done (by kernel_rfl) ?_ _
     exact HX.out _ _ _ _ _ _ _ _ _ _ _ _ hB gT gU gV ⟨by omega, by omega, by omega⟩ ⟨by omega, by omega, by omega⟩
  ·go_simp
   obtain ⟨V14, hV14, gV14, bV14⟩ := A3 V1 (.cells (Array.replicate m (int i64 0)) 3)
   rw [hV14]
   clear hV14
   have gT := gT.below bV14 (by have := gT.lt; omega)
   have hB := hB.trans (bV14.mono hB.size)
   have zV14 : V1.heap.size < V14.heap.size := (qs.1 gV14).1
   have gV := A7 gV14
   refine hK.out _ _ trivial (fun _ => ?_)
   clear hK K2
   try (simp only [Act.put, qA, qB, qC, qD, qE, qF])
   refine wpAnyH_ready (rs := [5, 8]) (by kernel_rfl) (by simp) ?_
   refine AllReadyH.cons (o := _) rfl (fun K1 hK => ?_) (AllReadyH.cons (o := _) rfl (fun K2 hK => ?_) AllReadyH.nil)
   ·go_simp
    obtain ⟨V15, hV15, gV15, bV15⟩ := A3 V14 (.cells (Array.replicate n (int i64 0)) 3)
    rw [hV15]
    clear hV15
    have gT := gT.below bV15 (by have := gT.lt; omega)
    have gV := gV.below bV15 (by have := gV.lt; omega)
    have hB := hB.trans (bV15.mono hB.size)
    have zV15 : V14.heap.size < V15.heap.size := (qs.1 gV15).1
    have gU := A7 gV15
    refine hK.out _ _ trivial (fun _ => ?_)
    clear hK K1
    try (simp only [Act.put, qA, qB, qC, qD, qE, qF])
    refine tr 8 _ (by kernel_rfl) rfl fun K1 hK => ?_
    go_simp
    refine hK.out _ _ trivial (fun _ => ?_)
    clear hK K1
    try (simp only [Act.put, qA, qB, qC, qD, qE, qF])
    refine tr 9 _ (by kernel_rfl) rfl fun K1 hK => ?_
    go_simp
    refine hK.out _ _ trivial (fun _ => ?_)
    clear hK K1
    try (simp only [Act.put, qA, qB, qC, qD, qE, qF])
    refine tr 10 _ (by kernel_rfl) rfl fun K1 hK => ?_
    go_simp
    refine hK.out _ _ trivial (fun _ => ?_)
    clear hK K1
    try (simp only [Act.put, qA, qB, qC, qD, qE, qF])
    refine wpAnyH_done (by kernel_rfl) ?_ _
    exact HX.out _ _ _ _ _ _ _ _ _ _ _ _ hB gT gU gV ⟨by omega, by omega, by omega⟩ ⟨by omega, by omega, by omega⟩
   ·go_simp
    refine hK.out _ _ trivial (fun _ => ?_)
    clear hK K2
    try (simp only [Act.put, qA, qB, qC, qD, qE, qF])
    refine tr 5 _ (by kernel_rfl) rfl fun K1 hK => ?_
    go_simp
    obtain ⟨V20, hV20, gV20, bV20⟩ := A3 V14 (.cells (Array.replicate n (int i64 0)) 3)
    rw [hV20]
    clear hV20
    have gT := gT.below bV20 (by have := gT.lt; omega)
    have gV := gV.below bV20 (by have := gV.lt; omega)
    have hB := hB.trans (bV20.mono hB.size)
    have zV20 : V14.heap.size < V20.heap.size := (qs.1 gV20).1
    have gU := A7 gV20
    refine hK.out _ _ trivial (fun _ => ?_)
    clear hK K1
    try (simp only [Act.put, qA, qB, qC, qD, qE, qF])
    refine tr 9 _ (by kernel_rfl) rfl fun K1 hK => ?_
    go_simp
    refine hK.out _ _ trivial (fun _ => ?_)
    clear hK K1
    try (simp only [Act.put, qA, qB, qC, qD, qE, qF])
    refine tr 10 _ (by kernel_rfl) rfl fun K1 hK => ?_
    go_simp
    refine hK.out _ _ trivial (fun _ => ?_)
    clear hK K1
    try (simp only [Act.put, qA, qB, qC, qD, qE, qF])
    refine wpAnyH_done (by kernel_rfl) ?_ _
    exact HX.out _ _ _ _ _ _ _ _ _ _ _ _ hB gT gU gV ⟨by omega, by omega, by omega⟩ ⟨by omega, by omega, by omega⟩
  ·go_simp
   refine hK.out _ _ trivial (fun _ => ?_)
   clear hK K3
   try (simp only [Act.put, qA, qB, qC, qD, qE, qF])
   refine wpAnyH_ready (rs := [5, 7]) (by kernel_rfl) (by simp) ?_
   refine AllReadyH.cons (o := _) rfl (fun K1 hK => ?_) (AllReadyH.cons (o := _) rfl (fun K2 hK => ?_) AllReadyH.nil)
   ·go_simp
    obtain ⟨V24, hV24, gV24, bV24⟩ := A3 V1 (.cells (Array.replicate n (int i64 0)) 3)
    rw [hV24]
    clear hV24
    have gT := gT.below bV24 (by have := gT.lt; omega)
    have hB := hB.trans (bV24.mono hB.size)
    have zV24 : V1.heap.size < V24.heap.size := (qs.1 gV24).1
    have gU := A7 gV24
    refine hK.out _ _ trivial (fun _ => ?_)
    clear hK K1
    try (simp only [Act.put, qA, qB, qC, qD, qE, qF])
    refine wpAnyH_ready (rs := [7, 9]) (by kernel_rfl) (by simp) ?_
    refine AllReadyH.cons (o := _) rfl (fun K1 hK => ?_) (AllReadyH.cons (o := _) rfl (fun K2 hK => ?_) AllReadyH.nil)
    ·go_simp
     obtain ⟨V25, hV25, gV25, bV25⟩ := A3 V24 (.cells (Array.replicate m (int i64 0)) 3)
     rw [hV25]
     clear hV25
     have gT := gT.below bV25 (by have := gT.lt; omega)
     have gU := gU.below bV25 (by have := gU.lt; omega)
     have hB := hB.trans (bV25.mono hB.size)
     have zV25 : V24.heap.size < V25.heap.size := (qs.1 gV25).1
     have gV := A7 gV25
     refine hK.out _ _ trivial (fun _ => ?_)
     clear hK K1
     try (simp only [Act.put, qA, qB, qC, qD, qE, qF])
     refine tr 9 _ (by kernel_rfl) rfl fun K1 hK => ?_
     go_simp
     refine hK.out _ _ trivial (fun _ => ?_)
     clear hK K1
     try (simp only [Act.put, qA, qB, qC, qD, qE, qF])
     refine tr 10 _ (by kernel_rfl) rfl fun K1 hK => ?_
     go_simp
     refine hK.out _ _ trivial (fun _ => ?_)
     clear hK K1
     try (simp only [Act.put, qA, qB, qC, qD, qE, qF])
     refine wpAnyH_done (by kernel_rfl) ?_ _
     exact HX.out _ _ _ _ _ _ _ _ _ _ _ _ hB gT gU gV ⟨by omega, by omega, by omega⟩ ⟨by omega, by omega, by omega⟩
    ·go_simp
     refine hK.out _ _ trivial (fun _ => ?_)
     clear hK K2
     try (simp only [Act.put, qA, qB, qC, qD, qE, qF])
     refine tr 7 _ (by kernel_rfl) rfl fun K1 hK => ?_
     go_simp
     obtain ⟨V29, hV29, gV29, bV29⟩ := A3 V24 (.cells (Array.replicate m (int i64 0)) 3)
     rw [hV29]
     clear hV29
     have gT := gT.below bV29 (by have := gT.lt; omega)
     have gU := gU.below bV29 (by have := gU.lt; omega)
     have hB := hB.trans (bV29.mono hB.size)
     have zV29 : V24.heap.size < V29.heap.size := (qs.1 gV29).1
     have gV := A7 gV29
     refine hK.out _ _ trivial (fun _ => ?_)
     clear hK K1
     try (simp only [Act.put, qA, qB, qC, qD, qE, qF])
     refine tr 10 _ (by kernel_rfl) rfl fun K1 hK => ?_
     go_simp
     refine hK.out _ _ trivial (fun _ => ?_)
     clear hK K1
     try (simp only [Act.put, qA, qB, qC, qD, qE, qF])
     refine wpAnyH_done (by kernel_rfl) ?_ _
     exact HX.out _ _ _ _ _ _ _ _ _ _ _ _ hB gT gU gV ⟨by omega, by omega, by omega⟩ ⟨by omega, by omega, by omega⟩
   ·go_simp
    obtain ⟨V31, hV31, gV31, bV31⟩ := A3 V1 (.cells (Array.replicate m (int i64 0)) 3)
    rw [hV31]
    clear hV31
    have gT := gT.below bV31 (by have := gT.lt; omega)
    have hB := hB.trans (bV31.mono hB.size)
    have zV31 : V1.heap.size < V31.heap.size := (qs.1 gV31).1
    have gV := A7 gV31
    refine hK.out _ _ trivial (fun _ => ?_)
    clear hK K2
    try (simp only [Act.put, qA, qB, qC, qD, qE, qF])
    refine tr 5 _ (by kernel_rfl) rfl fun K1 hK => ?_
    go_simp
    obtain ⟨V32, hV32, gV32, bV32⟩ := A3 V31 (.cells (Array.replicate n (int i64 0)) 3)
    rw [hV32]
    clear hV32
    have gT := gT.below bV32 (by have := gT.lt; omega)
    have gV := gV.below bV32 (by have := gV.lt; omega)
    have hB := hB.trans (bV32.mono hB.size)
    have zV32 : V31.heap.size < V32.heap.size := (qs.1 gV32).1
    have gU := A7 gV32
    refine hK.out _ _ trivial (fun _ => ?_)
    clear hK K1
    try (simp only [Act.put, qA, qB, qC, qD, qE, qF])
    refine tr 9 _ (by kernel_rfl) rfl fun K1 hK => ?_
    go_simp
    refine hK.out _ _ trivial (fun _ => ?_)
    clear hK K1
    try (simp only [Act.put, qA, qB, qC, qD, qE, qF])
    refine tr 10 _ (by kernel_rfl) rfl fun K1 hK => ?_
    go_simp
    refine hK.out _ _ trivial (fun _ => ?_)
    clear hK K1
    try (simp only [Act.put, qA, qB, qC, qD, qE, qF])
    refine wpAnyH_done (by kernel_rfl) ?_ _
    exact HX.out _ _ _ _ _ _ _ _ _ _ _ _ hB gT gU gV ⟨by omega, by omega, by omega⟩ ⟨by omega, by omega, by omega⟩
 ·go_simp
  obtain ⟨V35, hV35, gV35, bV35⟩ := A3 V0 (.cells (Array.replicate n (int i64 0)) 3)
  rw [hV35]
  clear hV35
  have hB := hB.trans (bV35.mono hB.size)
  have zV35 : V0.heap.size < V35.heap.size := (qs.1 gV35).1
  have gU := A7 gV35
  refine hK.out _ _ trivial (fun _ => ?_)
  clear hK K2
  try (simp only [Act.put, qA, qB, qC, qD, qE, qF])
  refine wpAnyH_ready (rs := [2, 7]) (by kernel_rfl) (by simp) ?_
  refine AllReadyH.cons (o := _) rfl (fun K1 hK => ?_) (AllReadyH.cons (o := _) rfl (fun K2 hK => ?_) AllReadyH.nil)
  ·go_simp
   obtain ⟨V36, hV36, gV36, bV36⟩ := A3 V35 (.cells (Array.replicate n (int i64 0)) 3)
   rw [hV36]
   clear hV36
   have gU := gU.below bV36 (by have := gU.lt; omega)
   have hB := hB.trans (bV36.mono hB.size)
   have zV36 : V35.heap.size < V36.heap.size := (qs.1 gV36).1
   have gT := A7 gV36
   refine hK.out _ _ trivial (fun _ => ?_)
   clear hK K1
   try (simp only [Act.put, qA, qB, qC, qD, qE, qF])
   refine wpAnyH_ready (rs := [7, 8]) (by kernel_rfl) (by simp) ?_
   refine AllReadyH.cons (o := _) rfl (fun K1 hK => ?_) (AllReadyH.cons (o := _) rfl (fun K2 hK => ?_) AllReadyH.nil)
   ·go_simp
    obtain ⟨V37, hV37, gV37, bV37⟩ := A3 V36 (.cells (Array.replicate m (int i64 0)) 3)
    rw [hV37]
    clear hV37
    have gU := gU.below bV37 (by have := gU.lt; omega)
    have gT := gT.below bV37 (by have := gT.lt; omega)
    have hB := hB.trans (bV37.mono hB.size)
    have zV37 : V36.heap.size < V37.heap.size := (qs.1 gV37).1
    have gV := A7 gV37
    refine hK.out _ _ trivial (fun _ => ?_)
    clear hK K1
    try (simp only [Act.put, qA, qB, qC, qD, qE, qF])
    refine tr 8 _ (by kernel_rfl) rfl fun K1 hK => ?_
    go_simp
    refine hK.out _ _ trivial (fun _ => ?_)
    clear hK K1
    try (simp only [Act.put, qA, qB, qC, qD, qE, qF])
    refine tr 9 _ (by kernel_rfl) rfl fun K1 hK => ?_
    go_simp
    refine hK.out _ _ trivial (fun _ => ?_)
    clear hK K1
    try (simp only [Act.put, qA, qB, qC, qD, qE, qF])
    refine tr 10 _ (by kernel_rfl) rfl fun K1 hK => ?_
    go_simp
    refine hK.out _ _ trivial (fun _ => ?_)
    clear hK K1
    try (simp only [Act.put, qA, qB, qC, qD, qE, qF])
    refine wpAnyH_done (by kernel_rfl) ?_ _
    exact HX.out _ _ _ _ _ _ _ _ _ _ _ _ hB gT gU gV ⟨by omega, by omega, by omega⟩ ⟨by omega, by omega, by omega⟩
   ·go_simp
    refine hK.out _ _ trivial (fun _ => ?_)
    clear hK K2
    try (simp only [Act.put, qA, qB, qC, qD, qE, qF])
    refine wpAnyH_ready (rs := [7, 9]) (by kernel_rfl) (by simp) ?_
    refine AllReadyH.cons (o := _) rfl (fun K1 hK => ?_) (AllReadyH.cons (o := _) rfl (fun K2 hK => ?_) AllReadyH.nil)
    ·go_simp
     obtain ⟨V42, hV42, gV42, bV42⟩ := A3 V36 (.cells (Array.replicate m (int i64 0)) 3)
     rw [hV42]
     clear hV42
     have gU := gU.below bV42 (by have := gU.lt; omega)
     have gT := gT.below bV42 (by have := gT.lt; omega)
     have hB := hB.trans (bV42.mono hB.size)
     have zV42 : V36.heap.size < V42.heap.size := (qs.1 gV42).1
     have gV := A7 gV42
     refine hK.out _ _ trivial (fun _ => ?_)
     clear hK K1
     try (simp only [Act.put, qA, qB, qC, qD, qE, qF])
     refine tr 9 _ (by kernel_rfl) rfl fun K1 hK => ?_
     go_simp
     refine hK.out _ _ trivial (fun _ => ?_)
     clear hK K1
     try (simp only [Act.put, qA, qB, qC, qD, qE, qF])
     refine tr 10 _ (by kernel_rfl) rfl fun K1 hK => ?_
     go_simp
     refine hK.out _ _ trivial (fun _ => ?_)
     clear hK K1
     try (simp only [Act.put, qA, qB, qC, qD, qE, qF])
     refine wpAnyH_done (by kernel_rfl) ?_ _
     exact HX.out _ _ _ _ _ _ _ _ _ _ _ _ hB gT gU gV ⟨by omega, by omega, by omega⟩ ⟨by omega, by omega, by omega⟩
    ·go_simp
     refine hK.out _ _ trivial (fun _ => ?_)
     clear hK K2
     try (simp only [Act.put, qA, qB, qC, qD, qE, qF])
     refine tr 7 _ (by kernel_rfl) rfl fun K1 hK => ?_
     go_simp
     obtain ⟨V46, hV46, gV46, bV46⟩ := A3 V36 (.cells (Array.replicate m (int i64 0)) 3)
     rw [hV46]
     clear hV46
     have gU := gU.below bV46 (by have := gU.lt; omega)
     have gT := gT.below bV46 (by have := gT.lt; omega)
     have hB := hB.trans (bV46.mono hB.size)
     have zV46 : V36.heap.size < V46.heap.size := (qs.1 gV46).1
     have gV := A7 gV46
     refine hK.out _ _ trivial (fun _ => ?_)
     clear hK K1
     try (simp only [Act.put, qA, qB, qC, qD, qE, qF])
     refine tr 10 _ (by kernel_rfl) rfl fun K1 hK => ?_
     go_simp
     refine hK.out _ _ trivial (fun _ => ?_)
     clear hK K1
     try (simp only [Act.put, qA, qB, qC, qD, qE, qF])
     refine wpAnyH_done (by kernel_rfl) ?_ _
     exact HX.out _ _ _ _ _ _ _ _ _ _ _ _ hB gT gU gV ⟨by omega, by omega, by omega⟩ ⟨by omega, by omega, by omega⟩
  ·go_simp
   obtain ⟨V48, hV48, gV48, bV48⟩ := A3 V35 (.cells (Array.replicate m (int i64 0)) 3)
   rw [hV48]
   clear hV48
   have gU := gU.below bV48 (by have := gU.lt; omega)
   have hB := hB.trans (bV48.mono hB.size)
   have zV48 : V35.heap.size < V48.heap.size := (qs.1 gV48).1
   have gV := A7 gV48
   refine hK.out _ _ trivial (fun _ => ?_)
   clear hK K2
   try (simp only [Act.put, qA, qB, qC, qD, qE, qF])
   refine tr 2 _ (by kernel_rfl) rfl fun K1 hK => ?_
   go_simp
   obtain ⟨V49, hV49, gV49, bV49⟩ := A3 V48 (.cells (Array.replicate n (int i64 0)) 3)
   rw [hV49]
   clear hV49
   have gU := gU.below bV49 (by have := gU.lt; omega)
   have gV := gV.below bV49 (by have := gV.lt; omega)
   have hB := hB.trans (bV49.mono hB.size)
   have zV49 : V48.heap.size < V49.heap.size := (qs.1 gV49).1
   have gT := A7 gV49
   refine hK.out _ _ trivial (fun _ => ?_)
   clear hK K1
   try (simp only [Act.put, qA, qB, qC, qD, qE, qF])
   refine tr 8 _ (by kernel_rfl) rfl fun K1 hK => ?_
   go_simp
   refine hK.out _ _ trivial (fun _ => ?_)
   clear hK K1
   try (simp only [Act.put, qA, qB, qC, qD, qE, qF])
   refine tr 9 _ (by kernel_rfl) rfl fun K1 hK => ?_
   go_simp
   refine hK.out _ _ trivial (fun _ => ?_)
   clear hK K1
   try (simp only [Act.put, qA, qB, qC, qD, qE, qF])
   refine tr 10 _ (by kernel_rfl) rfl fun K1 hK => ?_
   go_simp
   refine hK.out _ _ trivial (fun _ => ?_)
   clear hK K1
   try (simp only [Act.put, qA, qB, qC, qD, qE, qF])
   refine wpAnyH_done (by kernel_rfl) ?_ _
   exact HX.out _ _ _ _ _ _ _ _ _ _ _ _ hB gT gU gV ⟨by omega, by omega, by omega⟩ ⟨by omega, by omega, by omega⟩
 ·go_simp
  obtain ⟨V53, hV53, gV53, bV53⟩ := A3 V0 (.cells (Array.replicate m (int i64 0)) 3)
  rw [hV53]
  clear hV53
  have hB := hB.trans (bV53.mono hB.size)
  have zV53 : V0.heap.size < V53.heap.size := (qs.1 gV53).1
  have gV := A7 gV53
  refine hK.out _ _ trivial (fun _ => ?_)
  clear hK K3
  try (simp only [Act.put, qA, qB, qC, qD, qE, qF])
  refine wpAnyH_ready (rs := [2, 5]) (by kernel_rfl) (by simp) ?_
  refine AllReadyH.cons (o := _) rfl (fun K1 hK => ?_) (AllReadyH.cons (o := _) rfl (fun K2 hK => ?_) AllReadyH.nil)
  ·go_simp
   obtain ⟨V54, hV54, gV54, bV54⟩ := A3 V53 (.cells (Array.replicate n (int i64 0)) 3)
   rw [hV54]
   clear hV54
   have gV := gV.below bV54 (by have := gV.lt; omega)
   have hB := hB.trans (bV54.mono hB.size)
   have zV54 : V53.heap.size < V54.heap.size := (qs.1 gV54).1
   have gT := A7 gV54
   refine hK.out _ _ trivial (fun _ => ?_)
   clear hK K1
   try (simp only [Act.put, qA, qB, qC, qD, qE, qF])
   refine wpAnyH_ready (rs := [5, 8]) (by kernel_rfl) (by simp) ?_
   refine AllReadyH.cons (o := _) rfl (fun K1 hK => ?_) (AllReadyH.cons (o := _) rfl (fun K2 hK => ?_) AllReadyH.nil)
   ·go_simp
    obtain ⟨V55, hV55, gV55, bV55⟩ := A3 V54 (.cells (Array.replicate n (int i64 0)) 3)
    rw [hV55]
    clear hV55
    have gV := gV.below bV55 (by have := gV.lt; omega)
    have gT := gT.below bV55 (by have := gT.lt; omega)
    have hB := hB.trans (bV55.mono hB.size)
    have zV55 : V54.heap.size < V55.heap.size := (qs.1 gV55).1
    have gU := A7 gV55
    refine hK.out _ _ trivial (fun _ => ?_)
    clear hK K1
    try (simp only [Act.put, qA, qB, qC, qD, qE, qF])
    refine tr 8 _ (by kernel_rfl) rfl fun K1 hK => ?_
    go_simp
    refine hK.out _ _ trivial (fun _ => ?_)
    clear hK K1
    try (simp only [Act.put, qA, qB, qC, qD, qE, qF])
    refine tr 9 _ (by kernel_rfl) rfl fun K1 hK => ?_
    go_simp
    refine hK.out _ _ trivial (fun _ => ?_)
    clear hK K1
    try (simp only [Act.put, qA, qB, qC, qD, qE, qF])
    refine tr 10 _ (by kernel_rfl) rfl fun K1 hK => ?_
    go_simp
    refine hK.out _ _ trivial (fun _ => ?_)
    clear hK K1
    try (simp only [Act.put, qA, qB, qC, qD, qE, qF])
    refine wpAnyH_done (by kernel_rfl) ?_ _
    exact HX.out _ _ _ _ _ _ _ _ _ _ _ _ hB gT gU gV ⟨by omega, by omega, by omega⟩ ⟨by omega, by omega, by omega⟩
   ·go_simp
    refine hK.out _ _ trivial (fun _ => ?_)
    clear hK K2
    try (simp only [Act.put, qA, qB, qC, qD, qE, qF])
    refine tr 5 _ (by kernel_rfl) rfl fun K1 hK => ?_
    go_simp
    obtain ⟨V60, hV60, gV60, bV60⟩ := A3 V54 (.cells (Array.replicate n (int i64 0)) 3)
    rw [hV60]
    clear hV60
    have gV := gV.below bV60 (by have := gV.lt; omega)
    have gT := gT.below bV60 (by have := gT.lt; omega)
    have hB := hB.trans (bV60.mono hB.size)
    have zV60 : V54.heap.size < V60.heap.size := (qs.1 gV60).1
    have gU := A7 gV60
    refine hK.out _ _ trivial (fun _ => ?_)
    clear hK K1
    try (simp only [Act.put, qA, qB, qC, qD, qE, qF])
    refine tr 9 _ (by kernel_rfl) rfl fun K1 hK => ?_
    go_simp
    refine hK.out _ _ trivial (fun _ => ?_)
    clear hK K1
    try (simp only [Act.put, qA, qB, qC, qD, qE, qF])
    refine tr 10 _ (by kernel_rfl) rfl fun K1 hK => ?_
    go_simp
    refine hK.out _ _ trivial (fun _ => ?_)
    clear hK K1
    try (simp only [Act.put, qA, qB, qC, qD, qE, qF])
    refine wpAnyH_done (by kernel_rfl) ?_ _
    exact HX.out _ _ _ _ _ _ _ _ _ _ _ _ hB gT gU gV ⟨by omega, by omega, by omega⟩ ⟨by omega, by omega, by omega⟩
  ·go_simp
   obtain ⟨V63, hV63, gV63, bV63⟩ := A3 V53 (.cells (Array.replicate n (int i64 0)) 3)
   rw [hV63]
   clear hV63
   have gV := gV.below bV63 (by have := gV.lt; omega)
   have hB := hB.trans (bV63.mono hB.size)
   have zV63 : V53.heap.size < V63.heap.size := (qs.1 gV63).1
   have gU := A7 gV63
   refine hK.out _ _ trivial (fun _ => ?_)
   clear hK K2
   try (simp only [Act.put, qA, qB, qC, qD, qE, qF])
   refine tr 2 _ (by kernel_rfl) rfl fun K1 hK => ?_
   go_simp
   obtain ⟨V64, hV64, gV64, bV64⟩ := A3 V63 (.cells (Array.replicate n (int i64 0)) 3)
   rw [hV64]
   clear hV64
   have gV := gV.below bV64 (by have := gV.lt; omega)
   have gU := gU.below bV64 (by have := gU.lt; omega)
   have hB := hB.trans (bV64.mono hB.size)
   have zV64 : V63.heap.size < V64.heap.size := (qs.1 gV64).1
   have gT := A7 gV64
   refine hK.out _ _ trivial (fun _ => ?_)
   clear hK K1
   try (simp only [Act.put, qA, qB, qC, qD, qE, qF])
   refine tr 8 _ (by kernel_rfl) rfl fun K1 hK => ?_
   go_simp
   refine hK.out _ _ trivial (fun _ => ?_)
   clear hK K1
   try (simp only [Act.put, qA, qB, qC, qD, qE, qF])
   refine tr 9 _ (by kernel_rfl) rfl fun K1 hK => ?_
   go_simp
   refine hK.out _ _ trivial (fun _ => ?_)
   clear hK K1
   try (simp only [Act.put, qA, qB, qC, qD, qE, qF])
   refine tr 10 _ (by kernel_rfl) rfl fun K1 hK => ?_
   go_simp
   refine hK.out _ _ trivial (fun _ => ?_)
   clear hK K1
   try (simp only [Act.put, qA, qB, qC, qD, qE, qF])
   refine wpAnyH_done (by kernel_rfl) ?_ _
   exact HX.out _ _ _ _ _ _ _ _ _ _ _ _ hB gT gU gV ⟨by omega, by omega, by omega⟩ ⟨by omega, by omega, by omega⟩
theorem LL (m : Nat) (hm0 : m ≤ 1000) (w : World) (e0 e2 e3 e4 e5 e6 e7 e8 e9 ea eb ec ed ee ef eg eh ei ej ek el em en eo ep eq er es et eu ev ew ex ey ez eA eB eC eD eE eF eG eH eI eJ eK eL eM eN eO eP eQ eR eS eT eU eV eW eX eY eZ aa ab ac ad ae af ag ah ai aj ak al am an ao ap aq ar au av aw ax ay az aA aB aC aD aE aF aG aH aI aJ aK aL aM aN aO aP aQ aR aS aT aU aV aW aX aY aZ ba bb bc bd be bf bg bh bi bj bk bl bm bn bo bp bq br bs bt bu bv bw bx bz bA bB bC bD bE bF bG bH bI bJ bK bL bM bN bO bP bQ bR bS bT bU bV bW bX bY bZ ca cb cc cd ce cf cg ch ci cj ck cl cm cn co cp cq cr cs ct cu cv cw cx cy cz cA cB cC cD cE cF cG cH cI cJ cK cL cM cN cO cP cQ cR cS cT cU cV cW : Value) (Q : Exit → Act → World → Prop) (X : Code)
  (hX : ∀ (w' : World) (O : Nat) (cX cY cZ : Value), Below w.heap.size w w' → BI w' O (List.replicate m (-1)) → w.heap.size ≤ O → Code.wp Tryz.prog X Q { tmps := #[e0, int i64 m, e2, e3, e4, e5, e6, e7, .slice (some ⟨O, 0, none⟩) m m, e9, ea, eb, ec, ed, ee, ef, eg, eh, ei, ej, ek, el, em, en, eo, ep, eq, er, es, et, eu, cX, cY, cZ, ey, ez, eA, eB, eC, eD, eE, eF, eG, eH, eI, eJ, eK, eL, eM, eN, eO, eP, eQ, eR, eS, eT, eU, eV, eW, eX, eY, eZ, aa, ab, ac, ad, ae, af, ag, ah, ai, aj, ak, al, am, an, ao, ap, aq, ar, au, av, aw, ax, ay, az, aA, aB, aC, aD, aE, aF, aG, aH, aI, aJ, aK, aL, aM, aN, aO, aP, aQ, aR, aS, aT, aU, aV, aW, aX, aY, aZ, ba, bb, bc, bd, be, bf, bg, bh, bi, bj, bk, bl, bm, bn, bo, bp, bq, br, bs, bt, bu, bv, bw, bx, bz, bA, bB, bC, bD, bE, bF, bG, bH, bI, bJ, bK, bL, bM, bN, bO, bP, bQ, bR, bS, bT, bU, bV, bW, bX, bY, bZ, ca, cb, cc, cd, ce, cf, cg, ch, ci, cj, ck, cl, cm, cn, co, cp, cq, cr, cs, ct, cu, cv, cw, cx, cy, cz, cA, cB, cC, cD, cE, cF, cG, cH, cI, cJ, cK, cL, cM, cN, cO, cP, cQ, cR, cS, cT, cU, cV, cW], defers := [] } w') :
  Code.wp Tryz.prog (A8 1 I9 X) Q { tmps := #[e0, int i64 m, e2, e3, e4, e5, e6, e7, e8, e9, ea, eb, ec, ed, ee, ef, eg, eh, ei, ej, ek, el, em, en, eo, ep, eq, er, es, et, eu, ev, ew, ex, ey, ez, eA, eB, eC, eD, eE, eF, eG, eH, eI, eJ, eK, eL, eM, eN, eO, eP, eQ, eR, eS, eT, eU, eV, eW, eX, eY, eZ, aa, ab, ac, ad, ae, af, ag, ah, ai, aj, ak, al, am, an, ao, ap, aq, ar, au, av, aw, ax, ay, az, aA, aB, aC, aD, aE, aF, aG, aH, aI, aJ, aK, aL, aM, aN, aO, aP, aQ, aR, aS, aT, aU, aV, aW, aX, aY, aZ, ba, bb, bc, bd, be, bf, bg, bh, bi, bj, bk, bl, bm, bn, bo, bp, bq, br, bs, bt, bu, bv, bw, bx, bz, bA, bB, bC, bD, bE, bF, bG, bH, bI, bJ, bK, bL, bM, bN, bO, bP, bQ, bR, bS, bT, bU, bV, bW, bX, bY, bZ, ca, cb, cc, cd, ce, cf, cg, ch, ci, cj, ck, cl, cm, cn, co, cp, cq, cr, cs, ct, cu, cv, cw, cx, cy, cz, cA, cB, cC, cD, cE, cF, cG, cH, cI, cJ, cK, cL, cM, cN, cO, cP, cQ, cR, cS, cT, cU, cV, cW], defers := [] } w := by
 have HX := qh hX
 have hr := AM (-1) m hm0 w.heap.size (w.alloc (.cells #[int i64 (-1)] 3)) (by simp) (A0 (heap_alloc_new w _) 0 rfl)
 have HR := qh hr
 have HB := qh (show Below w.heap.size w (w.alloc (.cells #[int i64 (-1)] 3)) from (Below.refl _ w).alloc (qn _) _)
 clear hX hr
 unfold I9 BU
 conv => arg 2; whnf
 simp only [A8]
 go_wp2_with fail
 refine HR.out.mono ?_
 rintro e w1 ⟨O, rfl, hO, hI, hb⟩
 have HI := qh hI; have HB2 := qh (HB.out.trans (hb.mono HB.out.size)); have HO := qh (Nat.le_trans HB.out.size hO)
 clear hI hb hO HR
 go_wp2_with fail
 exact HX.out _ O _ _ _ HB2.out HI.out HO.out
end
end Go.Proofs.YtggcbblikgankaaGreatDoor
