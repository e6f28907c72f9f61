/- Contracts and plain laws on the way to the statement: part 34. -/
import Derived.Test.YtggcbblikgankaaGreatDoorZ33
import Derived.Test.YtggcbblikgankaaGreatDoorZ3
set_option linter.unusedVariables false
set_option linter.unusedSimpArgs false
set_option maxRecDepth 100000
set_option maxHeartbeats 16000000
namespace Go.Proofs.YtggcbblikgankaaGreatDoor
open Go.Value (int)
open Go.IntKind (i64)
section
open Go Go.RowKit Go.Deep
theorem A3 (w : World) (x : Obj) : ∃ w', w.alloc x = w' ∧ w'.heap[w.heap.size]? = some x ∧ Below w.heap.size w w' := ⟨_, rfl, heap_alloc_new w x, (Below.refl _ w).alloc (qn _) _⟩
theorem A7 {w : World} {g m : Nat} (h : w.heap[g]? = some (.cells (Array.replicate m (int i64 0)) 3 (0, 0))) : BI w g (List.replicate m 0) := by
 unfold BI As; rw [h]; simp
theorem Am {w : World} {g m : Nat} (h : w.heap[g]? = some (.cells (Array.replicate m (.bool false)) 4 (0, 0))) : BB w g (List.replicate m false) := by
 unfold BB FV; rw [h]; simp
theorem QU (m : Nat) (hm0 : m ≤ 1000) (w : World) (e0 e2 e3 e4 e5 e6 e7 e8 e9 ea eb ec ed ee ef eg eh ei ej ek el em en eo ep eq er es et eu ev ew ex ey ez eA eB eC eD eE eF eG eH eI eJ eK eL eM eN eO eP eQ eR eS eT eU eV eW eX eY eZ aa ab ac ad ae af ag ah ai aj ak al am an ao ap aq ar au av aw ax ay az aA aB aC aD aE aF aG aH aI aJ aK aL aM aN aO aP aQ aR aS aT aU aV aW aX aY aZ ba bb bc bd be bf bg bh bi bj bk bl bm bn bo bp bq br bs bt bu bv bw bx bz bA bB bC bD bE bF bG bH bI bJ bK bL bM bN bO bP bQ bR bS bT bU bV bW bX bY bZ ca cb cc cd ce cf cg ch ci cj ck cl cm cn co cp cq cr cs ct cu cv cw cx cy cz cA cB cC cD cE cF cG cH cI cJ cK cL cM cN cO cP cQ cR cS cT cU cV cW : Value) (Q : Exit → Act → World → Prop) (X : Code)
  (hX : ∀ (w' : World) (B F D : Nat) (cX cY cZ da db dc dd : Value), Below w.heap.size w w' → BI w' B (List.replicate m Ap) → BI w' F (List.replicate m 0) → BB w' D (List.replicate m false) → (w.heap.size ≤ B ∧ w.heap.size ≤ F ∧ w.heap.size ≤ D) → (B ≠ F ∧ B ≠ D ∧ F ≠ D) → Code.wp Tryz.prog X Q { tmps := #[e0, int i64 m, e2, e3, e4, e5, e6, e7, e8, e9, .slice (some ⟨B, 0, none⟩) m m, .slice (some ⟨F, 0, none⟩) m m, .slice (some ⟨D, 0, none⟩) m m, ed, ee, ef, eg, eh, ei, ej, ek, el, em, en, eo, ep, eq, er, es, et, eu, ev, ew, ex, ey, ez, eA, eB, eC, cX, cY, cZ, da, db, dc, dd, eK, eL, eM, eN, eO, eP, eQ, eR, eS, eT, eU, eV, eW, eX, eY, eZ, aa, ab, ac, ad, ae, af, ag, ah, ai, aj, ak, al, am, an, ao, ap, aq, ar, au, av, aw, ax, ay, az, aA, aB, aC, aD, aE, aF, aG, aH, aI, aJ, aK, aL, aM, aN, aO, aP, aQ, aR, aS, aT, aU, aV, aW, aX, aY, aZ, ba, bb, bc, bd, be, bf, bg, bh, bi, bj, bk, bl, bm, bn, bo, bp, bq, br, bs, bt, bu, bv, bw, bx, bz, bA, bB, bC, bD, bE, bF, bG, bH, bI, bJ, bK, bL, bM, bN, bO, bP, bQ, bR, bS, bT, bU, bV, bW, bX, bY, bZ, ca, cb, cc, cd, ce, cf, cg, ch, ci, cj, ck, cl, cm, cn, co, cp, cq, cr, cs, ct, cu, cv, cw, cx, cy, cz, cA, cB, cC, cD, cE, cF, cG, cH, cI, cJ, cK, cL, cM, cN, cO, cP, cQ, cR, cS, cT, cU, cV, cW], defers := [] } w') :
  Code.wp Tryz.prog (.seq (Bu scR) X) Q { tmps := #[e0, int i64 m, e2, e3, e4, e5, e6, e7, e8, e9, ea, eb, ec, ed, ee, ef, eg, eh, ei, ej, ek, el, em, en, eo, ep, eq, er, es, et, eu, ev, ew, ex, ey, ez, eA, eB, eC, eD, eE, eF, eG, eH, eI, eJ, eK, eL, eM, eN, eO, eP, eQ, eR, eS, eT, eU, eV, eW, eX, eY, eZ, aa, ab, ac, ad, ae, af, ag, ah, ai, aj, ak, al, am, an, ao, ap, aq, ar, au, av, aw, ax, ay, az, aA, aB, aC, aD, aE, aF, aG, aH, aI, aJ, aK, aL, aM, aN, aO, aP, aQ, aR, aS, aT, aU, aV, aW, aX, aY, aZ, ba, bb, bc, bd, be, bf, bg, bh, bi, bj, bk, bl, bm, bn, bo, bp, bq, br, bs, bt, bu, bv, bw, bx, bz, bA, bB, bC, bD, bE, bF, bG, bH, bI, bJ, bK, bL, bM, bN, bO, bP, bQ, bR, bS, bT, bU, bV, bW, bX, bY, bZ, ca, cb, cc, cd, ce, cf, cg, ch, ci, cj, ck, cl, cm, cn, co, cp, cq, cr, cs, ct, cu, cv, cw, cx, cy, cz, cA, cB, cC, cD, cE, cF, cG, cH, cI, cJ, cK, cL, cM, cN, cO, cP, cQ, cR, cS, cT, cU, cV, cW], defers := [] } w := by
 have HX := qh hX
 clear hX
 have hmk1 := fun (W : World) => EF m hm0 W
 have hmk2 := fun (W : World) => Hu m hm0 W
 have hB : Below w.heap.size w w.drew := (Below.refl _ w).drew
 unfold scR Fk Eh BJ BU
 conv => arg 2; arg 1; whnf
 refine wp_seq (wp_mono (Q := noP (Exit.then (Code.wp Tryz.prog X Q) Q)) ?_ (M9 _))
 refine wp_region_held (S := fun _ => True) (by kernel_rfl) ?_
 change wpAnyH _ _ _ _ _ _ _ _ w.drew
 have hz0 : w.heap.size = w.drew.heap.size := rfl
 generalize w.drew = V0 at *
 refine tq 1 _ (int i64 m) rfl (by kernel_rfl) (fun _ _ _ h => h) (Or.inl ⟨by rfl, fun w _ => by go_simp⟩) trivial ?_
 try (simp only [Act.put, qA, qB, qC, qD, qE, qF])
 refine tq 3 _ (int i64 m) rfl (by kernel_rfl) (fun _ _ _ h => h) (Or.inl ⟨by rfl, fun w _ => by go_simp⟩) trivial ?_
 try (simp only [Act.put, qA, qB, qC, qD, qE, qF])
 refine tq 5 _ (int i64 m) rfl (by kernel_rfl) (fun _ _ _ h => h) (Or.inl ⟨by rfl, fun w _ => by go_simp⟩) trivial ?_
 try (simp only [Act.put, qA, qB, qC, qD, qE, qF])
 refine wpAnyH_ready (rs := [0, 4, 6]) (by kernel_rfl) (by simp) ?_
 refine AllReadyH.cons (o := _) rfl (fun K1 hK => ?_) (AllReadyH.cons (o := _) rfl (fun K2 hK => ?_) (AllReadyH.cons (o := _) rfl (fun K3 hK => ?_) AllReadyH.nil))
 ·go_simp
  obtain ⟨V1, hV1, gV1, bV1⟩ := A3 V0 (.cells #[int i64 1152921504606846976] 3)
  rw [hV1]
  clear hV1
  have hB := hB.trans (bV1.mono hB.size)
  have zV1 : V0.heap.size < V1.heap.size := (qs.1 gV1).1
  have gA := gV1
  refine hK.out _ _ trivial (fun _ => ?_)
  clear hK K1
  try (simp only [Act.put, qA, qB, qC, qD, qE, qF])
  refine wpAnyH_ready (rs := [2, 4, 6]) (by kernel_rfl) (by simp) ?_
  refine AllReadyH.cons (o := _) rfl (fun K1 hK => ?_) (AllReadyH.cons (o := _) rfl (fun K2 hK => ?_) (AllReadyH.cons (o := _) rfl (fun K3 hK => ?_) AllReadyH.nil))
  ·go_simp
   go_at_call 83
   refine (AM 1152921504606846976 m hm0 (V0.heap.size) V1 (qs.1 gA).1 (A0 gA 0 rfl)).mono ?_
   rintro e V2 ⟨G2, rfl, hG2, gB, bV2⟩
   have gA := (bV2.block _ (qs.1 gA).1).trans gA
   have hB := hB.trans (bV2.mono hB.size)
   have zV2 := bV2.size
   have yV2 := gB.lt
   refine hK.out _ _ trivial (fun _ => ?_)
   clear hK K1
   try (simp only [Act.put, qA, qB, qC, qD, qE, qF])
   refine wpAnyH_ready (rs := [4, 6, 7]) (by kernel_rfl) (by simp) ?_
   refine AllReadyH.cons (o := _) rfl (fun K1 hK => ?_) (AllReadyH.cons (o := _) rfl (fun K2 hK => ?_) (AllReadyH.cons (o := _) rfl (fun K3 hK => ?_) AllReadyH.nil))
   ·go_simp
    obtain ⟨V3, hV3, gV3, bV3⟩ := A3 V2 (.cells (Array.replicate m (int i64 0)) 3)
    rw [hV3]
    clear hV3
    have gA := (bV3.block _ (qs.1 gA).1).trans gA
    have gB := gB.below bV3 (by have := gB.lt; omega)
    have hB := hB.trans (bV3.mono hB.size)
    have zV3 : V2.heap.size < V3.heap.size := (qs.1 gV3).1
    have gF := A7 gV3
    refine hK.out _ _ trivial (fun _ => ?_)
    clear hK K1
    try (simp only [Act.put, qA, qB, qC, qD, qE, qF])
    refine wpAnyH_ready (rs := [6, 7]) (by kernel_rfl) (by simp) ?_
    refine AllReadyH.cons (o := _) rfl (fun K1 hK => ?_) (AllReadyH.cons (o := _) rfl (fun K2 hK => ?_) AllReadyH.nil)
    ·go_simp
     obtain ⟨V4, hV4, gV4, bV4⟩ := A3 V3 (.cells (Array.replicate m (.bool false)) 4)
     rw [hV4]
     clear hV4
     have gA := (bV4.block _ (qs.1 gA).1).trans gA
     have gB := gB.below bV4 (by have := gB.lt; omega)
     have gF := gF.below bV4 (by have := gF.lt; omega)
     have hB := hB.trans (bV4.mono hB.size)
     have zV4 : V3.heap.size < V4.heap.size := (qs.1 gV4).1
     have gD := Am gV4
     refine hK.out _ _ trivial (fun _ => ?_)
     clear hK K1
     try (simp only [Act.put, qA, qB, qC, qD, qE, qF])
     refine tr 7 _ (by kernel_rfl) rfl fun K1 hK => ?_
     go_simp
     refine hK.out _ _ trivial (fun _ => ?_)
     clear hK K1
     try (simp only [Act.put, qA, qB, qC, qD, qE, qF])
     refine tr 8 _ (by kernel_rfl) rfl fun K1 hK => ?_
     go_simp
     refine hK.out _ _ trivial (fun _ => ?_)
     clear hK K1
     try (simp only [Act.put, qA, qB, qC, qD, qE, qF])
     refine tr 9 _ (by kernel_rfl) rfl fun K1 hK => ?_
     go_simp
     refine hK.out _ _ trivial (fun _ => ?_)
     clear hK K1
     try (simp only [Act.put, qA, qB, qC, qD, qE, qF])
     refine wpAnyH_done (by kernel_rfl) ?_ _
     exact HX.out _ _ _ _ _ _ _ _ _ _ _ hB gB gF gD ⟨by omega, by omega, by omega⟩ ⟨by omega, by omega, by omega⟩
    ·go_simp
     refine hK.out _ _ trivial (fun _ => ?_)
     clear hK K2
     try (simp only [Act.put, qA, qB, qC, qD, qE, qF])
     refine wpAnyH_ready (rs := [6, 8]) (by kernel_rfl) (by simp) ?_
     refine AllReadyH.cons (o := _) rfl (fun K1 hK => ?_) (AllReadyH.cons (o := _) rfl (fun K2 hK => ?_) AllReadyH.nil)
     ·go_simp
      obtain ⟨V9, hV9, gV9, bV9⟩ := A3 V3 (.cells (Array.replicate m (.bool false)) 4)
      rw [hV9]
      clear hV9
      have gA := (bV9.block _ (qs.1 gA).1).trans gA
      have gB := gB.below bV9 (by have := gB.lt; omega)
      have gF := gF.below bV9 (by have := gF.lt; omega)
      have hB := hB.trans (bV9.mono hB.size)
      have zV9 : V3.heap.size < V9.heap.size := (qs.1 gV9).1
      have gD := Am gV9
      refine hK.out _ _ trivial (fun _ => ?_)
      clear hK K1
      try (simp only [Act.put, qA, qB, qC, qD, qE, qF])
      refine tr 8 _ (by kernel_rfl) rfl fun K1 hK => ?_
      go_simp
      refine hK.out _ _ trivial (fun _ => ?_)
      clear hK K1
      try (simp only [Act.put, qA, qB, qC, qD, qE, qF])
      refine tr 9 _ (by kernel_rfl) rfl fun K1 hK => ?_
      go_simp
      refine hK.out _ _ trivial (fun _ => ?_)
      clear hK K1
      try (simp only [Act.put, qA, qB, qC, qD, qE, qF])
      refine wpAnyH_done (by kernel_rfl) ?_ _
      exact HX.out _ _ _ _ _ _ _ _ _ _ _ hB gB gF gD ⟨by omega, by omega, by omega⟩ ⟨by omega, by omega, by omega⟩
     ·go_simp
      refine hK.out _ _ trivial (fun _ => ?_)
      clear hK K2
      try (simp only [Act.put, qA, qB, qC, qD, qE, qF])
      refine tr 6 _ (by kernel_rfl) rfl fun K1 hK => ?_
      go_simp
      obtain ⟨V13, hV13, gV13, bV13⟩ := A3 V3 (.cells (Array.replicate m (.bool false)) 4)
      rw [hV13]
      clear hV13
      have gA := (bV13.block _ (qs.1 gA).1).trans gA
      have gB := gB.below bV13 (by have := gB.lt; omega)
      have gF := gF.below bV13 (by have := gF.lt; omega)
      have hB := hB.trans (bV13.mono hB.size)
      have zV13 : V3.heap.size < V13.heap.size := (qs.1 gV13).1
      have gD := Am gV13
      refine hK.out _ _ trivial (fun _ => ?_)
      clear hK K1
      try (simp only [Act.put, qA, qB, qC, qD, qE, qF])
      refine tr 9 _ (by kernel_rfl) rfl fun K1 hK => ?_
      go_simp
      refine hK.out _ _ trivial (fun _ => ?_)
      clear hK K1
      try (simp only [Act.put, qA, qB, qC, qD, qE, qF])
      refine wpAnyH_done (by kernel_rfl) ?_ _
      exact HX.out _ _ _ _ _ _ _ _ _ _ _ hB gB gF gD ⟨by omega, by omega, by omega⟩ ⟨by omega, by omega, by omega⟩
   ·go_simp
    obtain ⟨V15, hV15, gV15, bV15⟩ := A3 V2 (.cells (Array.replicate m (.bool false)) 4)
    rw [hV15]
    clear hV15
    have gA := (bV15.block _ (qs.1 gA).1).trans gA
    have gB := gB.below bV15 (by have := gB.lt; omega)
    have hB := hB.trans (bV15.mono hB.size)
    have zV15 : V2.heap.size < V15.heap.size := (qs.1 gV15).1
    have gD := Am gV15
    refine hK.out _ _ trivial (fun _ => ?_)
    clear hK K2
    try (simp only [Act.put, qA, qB, qC, qD, qE, qF])
    refine wpAnyH_ready (rs := [4, 7]) (by kernel_rfl) (by simp) ?_
    refine AllReadyH.cons (o := _) rfl (fun K1 hK => ?_) (AllReadyH.cons (o := _) rfl (fun K2 hK => ?_) AllReadyH.nil)
    ·go_simp
     obtain ⟨V16, hV16, gV16, bV16⟩ := A3 V15 (.cells (Array.replicate m (int i64 0)) 3)
     rw [hV16]
     clear hV16
     have gA := (bV16.block _ (qs.1 gA).1).trans gA
     have gB := gB.below bV16 (by have := gB.lt; omega)
     have gD := gD.below bV16 (by have := gD.lt; omega)
     have hB := hB.trans (bV16.mono hB.size)
     have zV16 : V15.heap.size < V16.heap.size := (qs.1 gV16).1
     have gF := A7 gV16
     refine hK.out _ _ trivial (fun _ => ?_)
     clear hK K1
     try (simp only [Act.put, qA, qB, qC, qD, qE, qF])
     refine tr 7 _ (by kernel_rfl) rfl fun K1 hK => ?_
     go_simp
     refine hK.out _ _ trivial (fun _ => ?_)
     clear hK K1
     try (simp only [Act.put, qA, qB, qC, qD, qE, qF])
     refine tr 8 _ (by kernel_rfl) rfl fun K1 hK => ?_
     go_simp
     refine hK.out _ _ trivial (fun _ => ?_)
     clear hK K1
     try (simp only [Act.put, qA, qB, qC, qD, qE, qF])
     refine tr 9 _ (by kernel_rfl) rfl fun K1 hK => ?_
     go_simp
     refine hK.out _ _ trivial (fun _ => ?_)
     clear hK K1
     try (simp only [Act.put, qA, qB, qC, qD, qE, qF])
     refine wpAnyH_done (by kernel_rfl) ?_ _
     exact HX.out _ _ _ _ _ _ _ _ _ _ _ hB gB gF gD ⟨by omega, by omega, by omega⟩ ⟨by omega, by omega, by omega⟩
    ·go_simp
     refine hK.out _ _ trivial (fun _ => ?_)
     clear hK K2
     try (simp only [Act.put, qA, qB, qC, qD, qE, qF])
     refine tr 4 _ (by kernel_rfl) rfl fun K1 hK => ?_
     go_simp
     obtain ⟨V21, hV21, gV21, bV21⟩ := A3 V15 (.cells (Array.replicate m (int i64 0)) 3)
     rw [hV21]
     clear hV21
     have gA := (bV21.block _ (qs.1 gA).1).trans gA
     have gB := gB.below bV21 (by have := gB.lt; omega)
     have gD := gD.below bV21 (by have := gD.lt; omega)
     have hB := hB.trans (bV21.mono hB.size)
     have zV21 : V15.heap.size < V21.heap.size := (qs.1 gV21).1
     have gF := A7 gV21
     refine hK.out _ _ trivial (fun _ => ?_)
     clear hK K1
     try (simp only [Act.put, qA, qB, qC, qD, qE, qF])
     refine tr 8 _ (by kernel_rfl) rfl fun K1 hK => ?_
     go_simp
     refine hK.out _ _ trivial (fun _ => ?_)
     clear hK K1
     try (simp only [Act.put, qA, qB, qC, qD, qE, qF])
     refine tr 9 _ (by kernel_rfl) rfl fun K1 hK => ?_
     go_simp
     refine hK.out _ _ trivial (fun _ => ?_)
     clear hK K1
     try (simp only [Act.put, qA, qB, qC, qD, qE, qF])
     refine wpAnyH_done (by kernel_rfl) ?_ _
     exact HX.out _ _ _ _ _ _ _ _ _ _ _ hB gB gF gD ⟨by omega, by omega, by omega⟩ ⟨by omega, by omega, by omega⟩
   ·go_simp
    refine hK.out _ _ trivial (fun _ => ?_)
    clear hK K3
    try (simp only [Act.put, qA, qB, qC, qD, qE, qF])
    refine wpAnyH_ready (rs := [4, 6]) (by kernel_rfl) (by simp) ?_
    refine AllReadyH.cons (o := _) rfl (fun K1 hK => ?_) (AllReadyH.cons (o := _) rfl (fun K2 hK => ?_) AllReadyH.nil)
    ·go_simp
     obtain ⟨V25, hV25, gV25, bV25⟩ := A3 V2 (.cells (Array.replicate m (int i64 0)) 3)
     rw [hV25]
     clear hV25
     have gA := (bV25.block _ (qs.1 gA).1).trans gA
     have gB := gB.below bV25 (by have := gB.lt; omega)
     have hB := hB.trans (bV25.mono hB.size)
     have zV25 : V2.heap.size < V25.heap.size := (qs.1 gV25).1
     have gF := A7 gV25
     refine hK.out _ _ trivial (fun _ => ?_)
     clear hK K1
     try (simp only [Act.put, qA, qB, qC, qD, qE, qF])
     refine wpAnyH_ready (rs := [6, 8]) (by kernel_rfl) (by simp) ?_
     refine AllReadyH.cons (o := _) rfl (fun K1 hK => ?_) (AllReadyH.cons (o := _) rfl (fun K2 hK => ?_) AllReadyH.nil)
     ·go_simp
      obtain ⟨V26, hV26, gV26, bV26⟩ := A3 V25 (.cells (Array.replicate m (.bool false)) 4)
      rw [hV26]
      clear hV26
      have gA := (bV26.block _ (qs.1 gA).1).trans gA
      have gB := gB.below bV26 (by have := gB.lt; omega)
      have gF := gF.below bV26 (by have := gF.lt; omega)
      have hB := hB.trans (bV26.mono hB.size)
      have zV26 : V25.heap.size < V26.heap.size := (qs.1 gV26).1
      have gD := Am gV26
      refine hK.out _ _ trivial (fun _ => ?_)
      clear hK K1
      try (simp only [Act.put, qA, qB, qC, qD, qE, qF])
      refine tr 8 _ (by kernel_rfl) rfl fun K1 hK => ?_
      go_simp
      refine hK.out _ _ trivial (fun _ => ?_)
      clear hK K1
      try (simp only [Act.put, qA, qB, qC, qD, qE, qF])
      refine tr 9 _ (by kernel_rfl) rfl fun K1 hK => ?_
      go_simp
      refine hK.out _ _ trivial (fun _ => ?_)
      clear hK K1
      try (simp only [Act.put, qA, qB, qC, qD, qE, qF])
      refine wpAnyH_done (by kernel_rfl) ?_ _
      exact HX.out _ _ _ _ _ _ _ _ _ _ _ hB gB gF gD ⟨by omega, by omega, by omega⟩ ⟨by omega, by omega, by omega⟩
     ·go_simp
      refine hK.out _ _ trivial (fun _ => ?_)
      clear hK K2
      try (simp only [Act.put, qA, qB, qC, qD, qE, qF])
      refine tr 6 _ (by kernel_rfl) rfl fun K1 hK => ?_
      go_simp
      obtain ⟨V30, hV30, gV30, bV30⟩ := A3 V25 (.cells (Array.replicate m (.bool false)) 4)
      rw [hV30]
      clear hV30
      have gA := (bV30.block _ (qs.1 gA).1).trans gA
      have gB := gB.below bV30 (by have := gB.lt; omega)
      have gF := gF.below bV30 (by have := gF.lt; omega)
      have hB := hB.trans (bV30.mono hB.size)
      have zV30 : V25.heap.size < V30.heap.size := (qs.1 gV30).1
      have gD := Am gV30
      refine hK.out _ _ trivial (fun _ => ?_)
      clear hK K1
      try (simp only [Act.put, qA, qB, qC, qD, qE, qF])
      refine tr 9 _ (by kernel_rfl) rfl fun K1 hK => ?_
      go_simp
      refine hK.out _ _ trivial (fun _ => ?_)
      clear hK K1
      try (simp only [Act.put, qA, qB, qC, qD, qE, qF])
      refine wpAnyH_done (by kernel_rfl) ?_ _
      exact HX.out _ _ _ _ _ _ _ _ _ _ _ hB gB gF gD ⟨by omega, by omega, by omega⟩ ⟨by omega, by omega, by omega⟩
    ·go_simp
     obtain ⟨V32, hV32, gV32, bV32⟩ := A3 V2 (.cells (Array.replicate m (.bool false)) 4)
     rw [hV32]
     clear hV32
     have gA := (bV32.block _ (qs.1 gA).1).trans gA
     have gB := gB.below bV32 (by have := gB.lt; omega)
     have hB := hB.trans (bV32.mono hB.size)
     have zV32 : V2.heap.size < V32.heap.size := (qs.1 gV32).1
     have gD := Am gV32
     refine hK.out _ _ trivial (fun _ => ?_)
     clear hK K2
     try (simp only [Act.put, qA, qB, qC, qD, qE, qF])
     refine tr 4 _ (by kernel_rfl) rfl fun K1 hK => ?_
     go_simp
     obtain ⟨V33, hV33, gV33, bV33⟩ := A3 V32 (.cells (Array.replicate m (int i64 0)) 3)
     rw [hV33]
     clear hV33
     have gA := (bV33.block _ (qs.1 gA).1).trans gA
     have gB := gB.below bV33 (by have := gB.lt; omega)
     have gD := gD.below bV33 (by have := gD.lt; omega)
     have hB := hB.trans (bV33.mono hB.size)
     have zV33 : V32.heap.size < V33.heap.size := (qs.1 gV33).1
     have gF := A7 gV33
     refine hK.out _ _ trivial (fun _ => ?_)
     clear hK K1
     try (simp only [Act.put, qA, qB, qC, qD, qE, qF])
     refine tr 8 _ (by kernel_rfl) rfl fun K1 hK => ?_
     go_simp
     refine hK.out _ _ trivial (fun _ => ?_)
     clear hK K1
     try (simp only [Act.put, qA, qB, qC, qD, qE, qF])
     refine tr 9 _ (by kernel_rfl) rfl fun K1 hK => ?_
     go_simp
     refine hK.out _ _ trivial (fun _ => ?_)
     clear hK K1
     try (simp only [Act.put, qA, qB, qC, qD, qE, qF])
     refine wpAnyH_done (by kernel_rfl) ?_ _
     exact HX.out _ _ _ _ _ _ _ _ _ _ _ hB gB gF gD ⟨by omega, by omega, by omega⟩ ⟨by omega, by omega, by omega⟩
  ·go_simp
   obtain ⟨V36, hV36, gV36, bV36⟩ := A3 V1 (.cells (Array.replicate m (int i64 0)) 3)
   rw [hV36]
   clear hV36
   have gA := (bV36.block _ (qs.1 gA).1).trans gA
   have hB := hB.trans (bV36.mono hB.size)
   have zV36 : V1.heap.size < V36.heap.size := (qs.1 gV36).1
   have gF := A7 gV36
   refine hK.out _ _ trivial (fun _ => ?_)
   clear hK K2
   try (simp only [Act.put, qA, qB, qC, qD, qE, qF])
   refine wpAnyH_ready (rs := [2, 6]) (by kernel_rfl) (by simp) ?_
   refine AllReadyH.cons (o := _) rfl (fun K1 hK => ?_) (AllReadyH.cons (o := _) rfl (fun K2 hK => ?_) AllReadyH.nil)
   ·go_simp
    go_at_call 83
    refine (AM 1152921504606846976 m hm0 (V0.heap.size) V36 (qs.1 gA).1 (A0 gA 0 rfl)).mono ?_
    rintro e V37 ⟨G37, rfl, hG37, gB, bV37⟩
    have gA := (bV37.block _ (qs.1 gA).1).trans gA
    have gF := gF.below bV37 (by have := gF.lt; omega)
    have hB := hB.trans (bV37.mono hB.size)
    have zV37 := bV37.size
    have yV37 := gB.lt
    refine hK.out _ _ trivial (fun _ => ?_)
    clear hK K1
    try (simp only [Act.put, qA, qB, qC, qD, qE, qF])
    refine wpAnyH_ready (rs := [6, 7]) (by kernel_rfl) (by simp) ?_
    refine AllReadyH.cons (o := _) rfl (fun K1 hK => ?_) (AllReadyH.cons (o := _) rfl (fun K2 hK => ?_) AllReadyH.nil)
    ·go_simp
     obtain ⟨V38, hV38, gV38, bV38⟩ := A3 V37 (.cells (Array.replicate m (.bool false)) 4)
     rw [hV38]
     clear hV38
     have gA := (bV38.block _ (qs.1 gA).1).trans gA
     have gF := gF.below bV38 (by have := gF.lt; omega)
     have gB := gB.below bV38 (by have := gB.lt; omega)
     have hB := hB.trans (bV38.mono hB.size)
     have zV38 : V37.heap.size < V38.heap.size := (qs.1 gV38).1
     have gD := Am gV38
     refine hK.out _ _ trivial (fun _ => ?_)
     clear hK K1
     try (simp only [Act.put, qA, qB, qC, qD, qE, qF])
     refine tr 7 _ (by kernel_rfl) rfl fun K1 hK => ?_
     go_simp
     refine hK.out _ _ trivial (fun _ => ?_)
     clear hK K1
     try (simp only [Act.put, qA, qB, qC, qD, qE, qF])
     refine tr 8 _ (by kernel_rfl) rfl fun K1 hK => ?_
     go_simp
     refine hK.out _ _ trivial (fun _ => ?_)
     clear hK K1
     try (simp only [Act.put, qA, qB, qC, qD, qE, qF])
     refine tr 9 _ (by kernel_rfl) rfl fun K1 hK => ?_
     go_simp
     refine hK.out _ _ trivial (fun _ => ?_)
     clear hK K1
     try (simp only [Act.put, qA, qB, qC, qD, qE, qF])
     refine wpAnyH_done (by kernel_rfl) ?_ _
     exact HX.out _ _ _ _ _ _ _ _ _ _ _ hB gB gF gD ⟨by omega, by omega, by omega⟩ ⟨by omega, by omega, by omega⟩
    ·go_simp
     refine hK.out _ _ trivial (fun _ => ?_)
     clear hK K2
     try (simp only [Act.put, qA, qB, qC, qD, qE, qF])
     refine wpAnyH_ready (rs := [6, 8]) (by kernel_rfl) (by simp) ?_
     refine AllReadyH.cons (o := _) rfl (fun K1 hK => ?_) (AllReadyH.cons (o := _) rfl (fun K2 hK => ?_) AllReadyH.nil)
     ·go_simp
      obtain ⟨V43, hV43, gV43, bV43⟩ := A3 V37 (.cells (Array.replicate m (.bool false)) 4)
      rw [hV43]
      clear hV43
      have gA := (bV43.block _ (qs.1 gA).1).trans gA
      have gF := gF.below bV43 (by have := gF.lt; omega)
      have gB := gB.below bV43 (by have := gB.lt; omega)
      have hB := hB.trans (bV43.mono hB.size)
      have zV43 : V37.heap.size < V43.heap.size := (qs.1 gV43).1
      have gD := Am gV43
      refine hK.out _ _ trivial (fun _ => ?_)
      clear hK K1
      try (simp only [Act.put, qA, qB, qC, qD, qE, qF])
      refine tr 8 _ (by kernel_rfl) rfl fun K1 hK => ?_
      go_simp
      refine hK.out _ _ trivial (fun _ => ?_)
      clear hK K1
      try (simp only [Act.put, qA, qB, qC, qD, qE, qF])
      refine tr 9 _ (by kernel_rfl) rfl fun K1 hK => ?_
      go_simp
      refine hK.out _ _ trivial (fun _ => ?_)
      clear hK K1
      try (simp only [Act.put, qA, qB, qC, qD, qE, qF])
      refine wpAnyH_done (by kernel_rfl) ?_ _
      exact HX.out _ _ _ _ _ _ _ _ _ _ _ hB gB gF gD ⟨by omega, by omega, by omega⟩ ⟨by omega, by omega, by omega⟩
     ·go_simp
      refine hK.out _ _ trivial (fun _ => ?_)
      clear hK K2
      try (simp only [Act.put, qA, qB, qC, qD, qE, qF])
      refine tr 6 _ (by kernel_rfl) rfl fun K1 hK => ?_
      go_simp
      obtain ⟨V47, hV47, gV47, bV47⟩ := A3 V37 (.cells (Array.replicate m (.bool false)) 4)
      rw [hV47]
      clear hV47
      have gA := (bV47.block _ (qs.1 gA).1).trans gA
      have gF := gF.below bV47 (by have := gF.lt; omega)
      have gB := gB.below bV47 (by have := gB.lt; omega)
      have hB := hB.trans (bV47.mono hB.size)
      have zV47 : V37.heap.size < V47.heap.size := (qs.1 gV47).1
      have gD := Am gV47
      refine hK.out _ _ trivial (fun _ => ?_)
      clear hK K1
      try (simp only [Act.put, qA, qB, qC, qD, qE, qF])
      refine tr 9 _ (by kernel_rfl) rfl fun K1 hK => ?_
      go_simp
      refine hK.out _ _ trivial (fun _ => ?_)
      clear hK K1
      try (simp only [Act.put, qA, qB, qC, qD, qE, qF])
      refine wpAnyH_done (by kernel_rfl) ?_ _
      exact HX.out _ _ _ _ _ _ _ _ _ _ _ hB gB gF gD ⟨by omega, by omega, by omega⟩ ⟨by omega, by omega, by omega⟩
   ·go_simp
    obtain ⟨V49, hV49, gV49, bV49⟩ := A3 V36 (.cells (Array.replicate m (.bool false)) 4)
    rw [hV49]
    clear hV49
    have gA := (bV49.block _ (qs.1 gA).1).trans gA
    have gF := gF.below bV49 (by have := gF.lt; omega)
    have hB := hB.trans (bV49.mono hB.size)
    have zV49 : V36.heap.size < V49.heap.size := (qs.1 gV49).1
    have gD := Am gV49
    refine hK.out _ _ trivial (fun _ => ?_)
    clear hK K2
    try (simp only [Act.put, qA, qB, qC, qD, qE, qF])
    refine tr 2 _ (by kernel_rfl) rfl fun K1 hK => ?_
    go_simp
    go_at_call 83
    refine (AM 1152921504606846976 m hm0 (V0.heap.size) V49 (qs.1 gA).1 (A0 gA 0 rfl)).mono ?_
    rintro e V50 ⟨G50, rfl, hG50, gB, bV50⟩
    have gA := (bV50.block _ (qs.1 gA).1).trans gA
    have gF := gF.below bV50 (by have := gF.lt; omega)
    have gD := gD.below bV50 (by have := gD.lt; omega)
    have hB := hB.trans (bV50.mono hB.size)
    have zV50 := bV50.size
    have yV50 := gB.lt
    refine hK.out _ _ trivial (fun _ => ?_)
    clear hK K1
    try (simp only [Act.put, qA, qB, qC, qD, qE, qF])
    refine tr 7 _ (by kernel_rfl) rfl fun K1 hK => ?_
    go_simp
    refine hK.out _ _ trivial (fun _ => ?_)
    clear hK K1
    try (simp only [Act.put, qA, qB, qC, qD, qE, qF])
    refine tr 8 _ (by kernel_rfl) rfl fun K1 hK => ?_
    go_simp
    refine hK.out _ _ trivial (fun _ => ?_)
    clear hK K1
    try (simp only [Act.put, qA, qB, qC, qD, qE, qF])
    refine tr 9 _ (by kernel_rfl) rfl fun K1 hK => ?_
    go_simp
    refine hK.out _ _ trivial (fun _ => ?_)
    clear hK K1
    try (simp only [Act.put, qA, qB, qC, qD, qE, qF])
    refine wpAnyH_done (by kernel_rfl) ?_ _
    exact HX.out _ _ _ _ _ _ _ _ _ _ _ hB gB gF gD ⟨by omega, by omega, by omega⟩ ⟨by omega, by omega, by omega⟩
  ·go_simp
   obtain ⟨V54, hV54, gV54, bV54⟩ := A3 V1 (.cells (Array.replicate m (.bool false)) 4)
   rw [hV54]
   clear hV54
   have gA := (bV54.block _ (qs.1 gA).1).trans gA
   have hB := hB.trans (bV54.mono hB.size)
   have zV54 : V1.heap.size < V54.heap.size := (qs.1 gV54).1
   have gD := Am gV54
   refine hK.out _ _ trivial (fun _ => ?_)
   clear hK K3
   try (simp only [Act.put, qA, qB, qC, qD, qE, qF])
   refine wpAnyH_ready (rs := [2, 4]) (by kernel_rfl) (by simp) ?_
   refine AllReadyH.cons (o := _) rfl (fun K1 hK => ?_) (AllReadyH.cons (o := _) rfl (fun K2 hK => ?_) AllReadyH.nil)
   ·go_simp
    go_at_call 83
    refine (AM 1152921504606846976 m hm0 (V0.heap.size) V54 (qs.1 gA).1 (A0 gA 0 rfl)).mono ?_
    rintro e V55 ⟨G55, rfl, hG55, gB, bV55⟩
    have gA := (bV55.block _ (qs.1 gA).1).trans gA
    have gD := gD.below bV55 (by have := gD.lt; omega)
    have hB := hB.trans (bV55.mono hB.size)
    have zV55 := bV55.size
    have yV55 := gB.lt
    refine hK.out _ _ trivial (fun _ => ?_)
    clear hK K1
    try (simp only [Act.put, qA, qB, qC, qD, qE, qF])
    refine wpAnyH_ready (rs := [4, 7]) (by kernel_rfl) (by simp) ?_
    refine AllReadyH.cons (o := _) rfl (fun K1 hK => ?_) (AllReadyH.cons (o := _) rfl (fun K2 hK => ?_) AllReadyH.nil)
    ·go_simp
     obtain ⟨V56, hV56, gV56, bV56⟩ := A3 V55 (.cells (Array.replicate m (int i64 0)) 3)
     rw [hV56]
     clear hV56
     have gA := (bV56.block _ (qs.1 gA).1).trans gA
     have gD := gD.below bV56 (by have := gD.lt; omega)
     have gB := gB.below bV56 (by have := gB.lt; omega)
     have hB := hB.trans (bV56.mono hB.size)
     have zV56 : V55.heap.size < V56.heap.size := (qs.1 gV56).1
     have gF := A7 gV56
     refine hK.out _ _ trivial (fun _ => ?_)
     clear hK K1
     try (simp only [Act.put, qA, qB, qC, qD, qE, qF])
     refine tr 7 _ (by kernel_rfl) rfl fun K1 hK => ?_
     go_simp
     refine hK.out _ _ trivial (fun _ => ?_)
     clear hK K1
     try (simp only [Act.put, qA, qB, qC, qD, qE, qF])
     refine tr 8 _ (by kernel_rfl) rfl fun K1 hK => ?_
     go_simp
     refine hK.out _ _ trivial (fun _ => ?_)
     clear hK K1
     try (simp only [Act.put, qA, qB, qC, qD, qE, qF])
     refine tr 9 _ (by kernel_rfl) rfl fun K1 hK => ?_
     go_simp
     refine hK.out _ _ trivial (fun _ => ?_)
     clear hK K1
     try (simp only [Act.put, qA, qB, qC, qD, qE, qF])
     refine wpAnyH_done (by kernel_rfl) ?_ _
     exact HX.out _ _ _ _ _ _ _ _ _ _ _ hB gB gF gD ⟨by omega, by omega, by omega⟩ ⟨by omega, by omega, by omega⟩
    ·go_simp
     refine hK.out _ _ trivial (fun _ => ?_)
     clear hK K2
     try (simp only [Act.put, qA, qB, qC, qD, qE, qF])
     refine tr 4 _ (by kernel_rfl) rfl fun K1 hK => ?_
     go_simp
     obtain ⟨V61, hV61, gV61, bV61⟩ := A3 V55 (.cells (Array.replicate m (int i64 0)) 3)
     rw [hV61]
     clear hV61
     have gA := (bV61.block _ (qs.1 gA).1).trans gA
     have gD := gD.below bV61 (by have := gD.lt; omega)
     have gB := gB.below bV61 (by have := gB.lt; omega)
     have hB := hB.trans (bV61.mono hB.size)
     have zV61 : V55.heap.size < V61.heap.size := (qs.1 gV61).1
     have gF := A7 gV61
     refine hK.out _ _ trivial (fun _ => ?_)
     clear hK K1
     try (simp only [Act.put, qA, qB, qC, qD, qE, qF])
     refine tr 8 _ (by kernel_rfl) rfl fun K1 hK => ?_
     go_simp
     refine hK.out _ _ trivial (fun _ => ?_)
     clear hK K1
     try (simp only [Act.put, qA, qB, qC, qD, qE, qF])
     refine tr 9 _ (by kernel_rfl) rfl fun K1 hK => ?_
     go_simp
     refine hK.out _ _ trivial (fun _ => ?_)
     clear hK K1
     try (simp only [Act.put, qA, qB, qC, qD, qE, qF])
     refine wpAnyH_done (by kernel_rfl) ?_ _
     exact HX.out _ _ _ _ _ _ _ _ _ _ _ hB gB gF gD ⟨by omega, by omega, by omega⟩ ⟨by omega, by omega, by omega⟩
   ·go_simp
    obtain ⟨V64, hV64, gV64, bV64⟩ := A3 V54 (.cells (Array.replicate m (int i64 0)) 3)
    rw [hV64]
    clear hV64
    have gA := (bV64.block _ (qs.1 gA).1).trans gA
    have gD := gD.below bV64 (by have := gD.lt; omega)
    have hB := hB.trans (bV64.mono hB.size)
    have zV64 : V54.heap.size < V64.heap.size := (qs.1 gV64).1
    have gF := A7 gV64
    refine hK.out _ _ trivial (fun _ => ?_)
    clear hK K2
    try (simp only [Act.put, qA, qB, qC, qD, qE, qF])
    refine tr 2 _ (by kernel_rfl) rfl fun K1 hK => ?_
    go_simp
    go_at_call 83
    refine (AM 1152921504606846976 m hm0 (V0.heap.size) V64 (qs.1 gA).1 (A0 gA 0 rfl)).mono ?_
    rintro e V65 ⟨G65, rfl, hG65, gB, bV65⟩
    have gA := (bV65.block _ (qs.1 gA).1).trans gA
    have gD := gD.below bV65 (by have := gD.lt; omega)
    have gF := gF.below bV65 (by have := gF.lt; omega)
    have hB := hB.trans (bV65.mono hB.size)
    have zV65 := bV65.size
    have yV65 := gB.lt
    refine hK.out _ _ trivial (fun _ => ?_)
    clear hK K1
    try (simp only [Act.put, qA, qB, qC, qD, qE, qF])
    refine tr 7 _ (by kernel_rfl) rfl fun K1 hK => ?_
    go_simp
    refine hK.out _ _ trivial (fun _ => ?_)
    clear hK K1
    try (simp only [Act.put, qA, qB, qC, qD, qE, qF])
    refine tr 8 _ (by kernel_rfl) rfl fun K1 hK => ?_
    go_simp
    refine hK.out _ _ trivial (fun _ => ?_)
    clear hK K1
    try (simp only [Act.put, qA, qB, qC, qD, qE, qF])
    refine tr 9 _ (by kernel_rfl) rfl fun K1 hK => ?_
    go_simp
    refine hK.out _ _ trivial (fun _ => ?_)
    clear hK K1
    try (simp only [Act.put, qA, qB, qC, qD, qE, qF])
    refine wpAnyH_done (by kernel_rfl) ?_ _
    exact HX.out _ _ _ _ _ _ _ _ _ _ _ hB gB gF gD ⟨by omega, by omega, by omega⟩ ⟨by omega, by omega, by omega⟩
 ·go_simp
  obtain ⟨V69, hV69, gV69, bV69⟩ := A3 V0 (.cells (Array.replicate m (int i64 0)) 3)
  rw [hV69]
  clear hV69
  have hB := hB.trans (bV69.mono hB.size)
  have zV69 : V0.heap.size < V69.heap.size := (qs.1 gV69).1
  have gF := A7 gV69
  refine hK.out _ _ trivial (fun _ => ?_)
  clear hK K2
  try (simp only [Act.put, qA, qB, qC, qD, qE, qF])
  refine wpAnyH_ready (rs := [0, 6]) (by kernel_rfl) (by simp) ?_
  refine AllReadyH.cons (o := _) rfl (fun K1 hK => ?_) (AllReadyH.cons (o := _) rfl (fun K2 hK => ?_) AllReadyH.nil)
  ·go_simp
   obtain ⟨V70, hV70, gV70, bV70⟩ := A3 V69 (.cells #[int i64 1152921504606846976] 3)
   rw [hV70]
   clear hV70
   have gF := gF.below bV70 (by have := gF.lt; omega)
   have hB := hB.trans (bV70.mono hB.size)
   have zV70 : V69.heap.size < V70.heap.size := (qs.1 gV70).1
   have gA := gV70
   refine hK.out _ _ trivial (fun _ => ?_)
   clear hK K1
   try (simp only [Act.put, qA, qB, qC, qD, qE, qF])
   refine wpAnyH_ready (rs := [2, 6]) (by kernel_rfl) (by simp) ?_
   refine AllReadyH.cons (o := _) rfl (fun K1 hK => ?_) (AllReadyH.cons (o := _) rfl (fun K2 hK => ?_) AllReadyH.nil)
   ·go_simp
    go_at_call 83
    refine (AM 1152921504606846976 m hm0 (V69.heap.size) V70 (qs.1 gA).1 (A0 gA 0 rfl)).mono ?_
    rintro e V71 ⟨G71, rfl, hG71, gB, bV71⟩
    have gF := gF.below bV71 (by have := gF.lt; omega)
    have gA := (bV71.block _ (qs.1 gA).1).trans gA
    have hB := hB.trans (bV71.mono hB.size)
    have zV71 := bV71.size
    have yV71 := gB.lt
    refine hK.out _ _ trivial (fun _ => ?_)
    clear hK K1
    try (simp only [Act.put, qA, qB, qC, qD, qE, qF])
    refine wpAnyH_ready (rs := [6, 7]) (by kernel_rfl) (by simp) ?_
    refine AllReadyH.cons (o := _) rfl (fun K1 hK => ?_) (AllReadyH.cons (o := _) rfl (fun K2 hK => ?_) AllReadyH.nil)
    ·go_simp
     obtain ⟨V72, hV72, gV72, bV72⟩ := A3 V71 (.cells (Array.replicate m (.bool false)) 4)
     rw [hV72]
     clear hV72
     have gF := gF.below bV72 (by have := gF.lt; omega)
     have gA := (bV72.block _ (qs.1 gA).1).trans gA
     have gB := gB.below bV72 (by have := gB.lt; omega)
     have hB := hB.trans (bV72.mono hB.size)
     have zV72 : V71.heap.size < V72.heap.size := (qs.1 gV72).1
     have gD := Am gV72
     refine hK.out _ _ trivial (fun _ => ?_)
     clear hK K1
     try (simp only [Act.put, qA, qB, qC, qD, qE, qF])
     refine tr 7 _ (by kernel_rfl) rfl fun K1 hK => ?_
     go_simp
     refine hK.out _ _ trivial (fun _ => ?_)
     clear hK K1
     try (simp only [Act.put, qA, qB, qC, qD, qE, qF])
     refine tr 8 _ (by kernel_rfl) rfl fun K1 hK => ?_
     go_simp
     refine hK.out _ _ trivial (fun _ => ?_)
     clear hK K1
     try (simp only [Act.put, qA, qB, qC, qD, qE, qF])
     refine tr 9 _ (by kernel_rfl) rfl fun K1 hK => ?_
     go_simp
     refine hK.out _ _ trivial (fun _ => ?_)
     clear hK K1
     try (simp only [Act.put, qA, qB, qC, qD, qE, qF])
     refine wpAnyH_done (by kernel_rfl) ?_ _
     exact HX.out _ _ _ _ _ _ _ _ _ _ _ hB gB gF gD ⟨by omega, by omega, by omega⟩ ⟨by omega, by omega, by omega⟩
    ·go_simp
     refine hK.out _ _ trivial (fun _ => ?_)
     clear hK K2
     try (simp only [Act.put, qA, qB, qC, qD, qE, qF])
     refine wpAnyH_ready (rs := [6, 8]) (by kernel_rfl) (by simp) ?_
     refine AllReadyH.cons (o := _) rfl (fun K1 hK => ?_) (AllReadyH.cons (o := _) rfl (fun K2 hK => ?_) AllReadyH.nil)
     ·go_simp
      obtain ⟨V77, hV77, gV77, bV77⟩ := A3 V71 (.cells (Array.replicate m (.bool false)) 4)
      rw [hV77]
      clear hV77
      have gF := gF.below bV77 (by have := gF.lt; omega)
      have gA := (bV77.block _ (qs.1 gA).1).trans gA
      have gB := gB.below bV77 (by have := gB.lt; omega)
      have hB := hB.trans (bV77.mono hB.size)
      have zV77 : V71.heap.size < V77.heap.size := (qs.1 gV77).1
      have gD := Am gV77
      refine hK.out _ _ trivial (fun _ => ?_)
      clear hK K1
      try (simp only [Act.put, qA, qB, qC, qD, qE, qF])
      refine tr 8 _ (by kernel_rfl) rfl fun K1 hK => ?_
      go_simp
      refine hK.out _ _ trivial (fun _ => ?_)
      clear hK K1
      try (simp only [Act.put, qA, qB, qC, qD, qE, qF])
      refine tr 9 _ (by kernel_rfl) rfl fun K1 hK => ?_
      go_simp
      refine hK.out _ _ trivial (fun _ => ?_)
      clear hK K1
      try (simp only [Act.put, qA, qB, qC, qD, qE, qF])
      refine wpAnyH_done (by kernel_rfl) ?_ _
      exact HX.out _ _ _ _ _ _ _ _ _ _ _ hB gB gF gD ⟨by omega, by omega, by omega⟩ ⟨by omega, by omega, by omega⟩
     ·go_simp
      refine hK.out _ _ trivial (fun _ => ?_)
      clear hK K2
      try (simp only [Act.put, qA, qB, qC, qD, qE, qF])
      refine tr 6 _ (by kernel_rfl) rfl fun K1 hK => ?_
      go_simp
      obtain ⟨V81, hV81, gV81, bV81⟩ := A3 V71 (.cells (Array.replicate m (.bool false)) 4)
      rw [hV81]
      clear hV81
      have gF := gF.below bV81 (by have := gF.lt; omega)
      have gA := (bV81.block _ (qs.1 gA).1).trans gA
      have gB := gB.below bV81 (by have := gB.lt; omega)
      have hB := hB.trans (bV81.mono hB.size)
      have zV81 : V71.heap.size < V81.heap.size := (qs.1 gV81).1
      have gD := Am gV81
      refine hK.out _ _ trivial (fun _ => ?_)
      clear hK K1
      try (simp only [Act.put, qA, qB, qC, qD, qE, qF])
      refine tr 9 _ (by kernel_rfl) rfl fun K1 hK => ?_
      go_simp
      refine hK.out _ _ trivial (fun _ => ?_)
      clear hK K1
      try (simp only [Act.put, qA, qB, qC, qD, qE, qF])
      refine wpAnyH_done (by kernel_rfl) ?_ _
      exact HX.out _ _ _ _ _ _ _ _ _ _ _ hB gB gF gD ⟨by omega, by omega, by omega⟩ ⟨by omega, by omega, by omega⟩
   ·go_simp
    obtain ⟨V83, hV83, gV83, bV83⟩ := A3 V70 (.cells (Array.replicate m (.bool false)) 4)
    rw [hV83]
    clear hV83
    have gF := gF.below bV83 (by have := gF.lt; omega)
    have gA := (bV83.block _ (qs.1 gA).1).trans gA
    have hB := hB.trans (bV83.mono hB.size)
    have zV83 : V70.heap.size < V83.heap.size := (qs.1 gV83).1
    have gD := Am gV83
    refine hK.out _ _ trivial (fun _ => ?_)
    clear hK K2
    try (simp only [Act.put, qA, qB, qC, qD, qE, qF])
    refine tr 2 _ (by kernel_rfl) rfl fun K1 hK => ?_
    go_simp
    go_at_call 83
    refine (AM 1152921504606846976 m hm0 (V69.heap.size) V83 (qs.1 gA).1 (A0 gA 0 rfl)).mono ?_
    rintro e V84 ⟨G84, rfl, hG84, gB, bV84⟩
    have gF := gF.below bV84 (by have := gF.lt; omega)
    have gA := (bV84.block _ (qs.1 gA).1).trans gA
    have gD := gD.below bV84 (by have := gD.lt; omega)
    have hB := hB.trans (bV84.mono hB.size)
    have zV84 := bV84.size
    have yV84 := gB.lt
    refine hK.out _ _ trivial (fun _ => ?_)
    clear hK K1
    try (simp only [Act.put, qA, qB, qC, qD, qE, qF])
    refine tr 7 _ (by kernel_rfl) rfl fun K1 hK => ?_
    go_simp
    refine hK.out _ _ trivial (fun _ => ?_)
    clear hK K1
    try (simp only [Act.put, qA, qB, qC, qD, qE, qF])
    refine tr 8 _ (by kernel_rfl) rfl fun K1 hK => ?_
    go_simp
    refine hK.out _ _ trivial (fun _ => ?_)
    clear hK K1
    try (simp only [Act.put, qA, qB, qC, qD, qE, qF])
    refine tr 9 _ (by kernel_rfl) rfl fun K1 hK => ?_
    go_simp
    refine hK.out _ _ trivial (fun _ => ?_)
    clear hK K1
    try (simp only [Act.put, qA, qB, qC, qD, qE, qF])
    refine wpAnyH_done (by kernel_rfl) ?_ _
    exact HX.out _ _ _ _ _ _ _ _ _ _ _ hB gB gF gD ⟨by omega, by omega, by omega⟩ ⟨by omega, by omega, by omega⟩
  ·go_simp
   obtain ⟨V88, hV88, gV88, bV88⟩ := A3 V69 (.cells (Array.replicate m (.bool false)) 4)
   rw [hV88]
   clear hV88
   have gF := gF.below bV88 (by have := gF.lt; omega)
   have hB := hB.trans (bV88.mono hB.size)
   have zV88 : V69.heap.size < V88.heap.size := (qs.1 gV88).1
   have gD := Am gV88
   refine hK.out _ _ trivial (fun _ => ?_)
   clear hK K2
   try (simp only [Act.put, qA, qB, qC, qD, qE, qF])
   refine tr 0 _ (by kernel_rfl) rfl fun K1 hK => ?_
   go_simp
   obtain ⟨V89, hV89, gV89, bV89⟩ := A3 V88 (.cells #[int i64 1152921504606846976] 3)
   rw [hV89]
   clear hV89
   have gF := gF.below bV89 (by have := gF.lt; omega)
   have gD := gD.below bV89 (by have := gD.lt; omega)
   have hB := hB.trans (bV89.mono hB.size)
   have zV89 : V88.heap.size < V89.heap.size := (qs.1 gV89).1
   have gA := gV89
   refine hK.out _ _ trivial (fun _ => ?_)
   clear hK K1
   try (simp only [Act.put, qA, qB, qC, qD, qE, qF])
   refine tr 2 _ (by kernel_rfl) rfl fun K1 hK => ?_
   go_simp
   go_at_call 83
   refine (AM 1152921504606846976 m hm0 (V88.heap.size) V89 (qs.1 gA).1 (A0 gA 0 rfl)).mono ?_
   rintro e V90 ⟨G90, rfl, hG90, gB, bV90⟩
   have gF := gF.below bV90 (by have := gF.lt; omega)
   have gD := gD.below bV90 (by have := gD.lt; omega)
   have gA := (bV90.block _ (qs.1 gA).1).trans gA
   have hB := hB.trans (bV90.mono hB.size)
   have zV90 := bV90.size
   have yV90 := gB.lt
   refine hK.out _ _ trivial (fun _ => ?_)
   clear hK K1
   try (simp only [Act.put, qA, qB, qC, qD, qE, qF])
   refine tr 7 _ (by kernel_rfl) rfl fun K1 hK => ?_
   go_simp
   refine hK.out _ _ trivial (fun _ => ?_)
   clear hK K1
   try (simp only [Act.put, qA, qB, qC, qD, qE, qF])
   refine tr 8 _ (by kernel_rfl) rfl fun K1 hK => ?_
   go_simp
   refine hK.out _ _ trivial (fun _ => ?_)
   clear hK K1
   try (simp only [Act.put, qA, qB, qC, qD, qE, qF])
   refine tr 9 _ (by kernel_rfl) rfl fun K1 hK => ?_
   go_simp
   refine hK.out _ _ trivial (fun _ => ?_)
   clear hK K1
   try (simp only [Act.put, qA, qB, qC, qD, qE, qF])
   refine wpAnyH_done (by kernel_rfl) ?_ _
   exact HX.out _ _ _ _ _ _ _ _ _ _ _ hB gB gF gD ⟨by omega, by omega, by omega⟩ ⟨by omega, by omega, by omega⟩
 ·go_simp
  obtain ⟨V94, hV94, gV94, bV94⟩ := A3 V0 (.cells (Array.replicate m (.bool false)) 4)
  rw [hV94]
  clear hV94
  have hB := hB.trans (bV94.mono hB.size)
  have zV94 : V0.heap.size < V94.heap.size := (qs.1 gV94).1
  have gD := Am gV94
  refine hK.out _ _ trivial (fun _ => ?_)
  clear hK K3
  try (simp only [Act.put, qA, qB, qC, qD, qE, qF])
  refine wpAnyH_ready (rs := [0, 4]) (by kernel_rfl) (by simp) ?_
  refine AllReadyH.cons (o := _) rfl (fun K1 hK => ?_) (AllReadyH.cons (o := _) rfl (fun K2 hK => ?_) AllReadyH.nil)
  ·go_simp
   obtain ⟨V95, hV95, gV95, bV95⟩ := A3 V94 (.cells #[int i64 1152921504606846976] 3)
   rw [hV95]
   clear hV95
   have gD := gD.below bV95 (by have := gD.lt; omega)
   have hB := hB.trans (bV95.mono hB.size)
   have zV95 : V94.heap.size < V95.heap.size := (qs.1 gV95).1
   have gA := gV95
   refine hK.out _ _ trivial (fun _ => ?_)
   clear hK K1
   try (simp only [Act.put, qA, qB, qC, qD, qE, qF])
   refine wpAnyH_ready (rs := [2, 4]) (by kernel_rfl) (by simp) ?_
   refine AllReadyH.cons (o := _) rfl (fun K1 hK => ?_) (AllReadyH.cons (o := _) rfl (fun K2 hK => ?_) AllReadyH.nil)
   ·go_simp
    go_at_call 83
    refine (AM 1152921504606846976 m hm0 (V94.heap.size) V95 (qs.1 gA).1 (A0 gA 0 rfl)).mono ?_
    rintro e V96 ⟨G96, rfl, hG96, gB, bV96⟩
    have gD := gD.below bV96 (by have := gD.lt; omega)
    have gA := (bV96.block _ (qs.1 gA).1).trans gA
    have hB := hB.trans (bV96.mono hB.size)
    have zV96 := bV96.size
    have yV96 := gB.lt
    refine hK.out _ _ trivial (fun _ => ?_)
    clear hK K1
    try (simp only [Act.put, qA, qB, qC, qD, qE, qF])
    refine wpAnyH_ready (rs := [4, 7]) (by kernel_rfl) (by simp) ?_
    refine AllReadyH.cons (o := _) rfl (fun K1 hK => ?_) (AllReadyH.cons (o := _) rfl (fun K2 hK => ?_) AllReadyH.nil)
    ·go_simp
     obtain ⟨V97, hV97, gV97, bV97⟩ := A3 V96 (.cells (Array.replicate m (int i64 0)) 3)
     rw [hV97]
     clear hV97
     have gD := gD.below bV97 (by have := gD.lt; omega)
     have gA := (bV97.block _ (qs.1 gA).1).trans gA
     have gB := gB.below bV97 (by have := gB.lt; omega)
     have hB := hB.trans (bV97.mono hB.size)
     have zV97 : V96.heap.size < V97.heap.size := (qs.1 gV97).1
     have gF := A7 gV97
     refine hK.out _ _ trivial (fun _ => ?_)
     clear hK K1
     try (simp only [Act.put, qA, qB, qC, qD, qE, qF])
     refine tr 7 _ (by kernel_rfl) rfl fun K1 hK => ?_
     go_simp
     refine hK.out _ _ trivial (fun _ => ?_)
     clear hK K1
     try (simp only [Act.put, qA, qB, qC, qD, qE, qF])
     refine tr 8 _ (by kernel_rfl) rfl fun K1 hK => ?_
     go_simp
     refine hK.out _ _ trivial (fun _ => ?_)
     clear hK K1
     try (simp only [Act.put, qA, qB, qC, qD, qE, qF])
     refine tr 9 _ (by kernel_rfl) rfl fun K1 hK => ?_
     go_simp
     refine hK.out _ _ trivial (fun _ => ?_)
     clear hK K1
     try (simp only [Act.put, qA, qB, qC, qD, qE, qF])
     refine wpAnyH_done (by kernel_rfl) ?_ _
     exact HX.out _ _ _ _ _ _ _ _ _ _ _ hB gB gF gD ⟨by omega, by omega, by omega⟩ ⟨by omega, by omega, by omega⟩
    ·go_simp
     refine hK.out _ _ trivial (fun _ => ?_)
     clear hK K2
     try (simp only [Act.put, qA, qB, qC, qD, qE, qF])
     refine tr 4 _ (by kernel_rfl) rfl fun K1 hK => ?_
     go_simp
     obtain ⟨V102, hV102, gV102, bV102⟩ := A3 V96 (.cells (Array.replicate m (int i64 0)) 3)
     rw [hV102]
     clear hV102
     have gD := gD.below bV102 (by have := gD.lt; omega)
     have gA := (bV102.block _ (qs.1 gA).1).trans gA
     have gB := gB.below bV102 (by have := gB.lt; omega)
     have hB := hB.trans (bV102.mono hB.size)
     have zV102 : V96.heap.size < V102.heap.size := (qs.1 gV102).1
     have gF := A7 gV102
     refine hK.out _ _ trivial (fun _ => ?_)
     clear hK K1
     try (simp only [Act.put, qA, qB, qC, qD, qE, qF])
     refine tr 8 _ (by kernel_rfl) rfl fun K1 hK => ?_
     go_simp
     refine hK.out _ _ trivial (fun _ => ?_)
     clear hK K1
     try (simp only [Act.put, qA, qB, qC, qD, qE, qF])
     refine tr 9 _ (by kernel_rfl) rfl fun K1 hK => ?_
     go_simp
     refine hK.out _ _ trivial (fun _ => ?_)
     clear hK K1
     try (simp only [Act.put, qA, qB, qC, qD, qE, qF])
     refine wpAnyH_done (by kernel_rfl) ?_ _
     exact HX.out _ _ _ _ _ _ _ _ _ _ _ hB gB gF gD ⟨by omega, by omega, by omega⟩ ⟨by omega, by omega, by omega⟩
   ·go_simp
    obtain ⟨V105, hV105, gV105, bV105⟩ := A3 V95 (.cells (Array.replicate m (int i64 0)) 3)
    rw [hV105]
    clear hV105
    have gD := gD.below bV105 (by have := gD.lt; omega)
    have gA := (bV105.block _ (qs.1 gA).1).trans gA
    have hB := hB.trans (bV105.mono hB.size)
    have zV105 : V95.heap.size < V105.heap.size := (qs.1 gV105).1
    have gF := A7 gV105
    refine hK.out _ _ trivial (fun _ => ?_)
    clear hK K2
    try (simp only [Act.put, qA, qB, qC, qD, qE, qF])
    refine tr 2 _ (by kernel_rfl) rfl fun K1 hK => ?_
    go_simp
    go_at_call 83
    refine (AM 1152921504606846976 m hm0 (V94.heap.size) V105 (qs.1 gA).1 (A0 gA 0 rfl)).mono ?_
    rintro e V106 ⟨G106, rfl, hG106, gB, bV106⟩
    have gD := gD.below bV106 (by have := gD.lt; omega)
    have gA := (bV106.block _ (qs.1 gA).1).trans gA
    have gF := gF.below bV106 (by have := gF.lt; omega)
    have hB := hB.trans (bV106.mono hB.size)
    have zV106 := bV106.size
    have yV106 := gB.lt
    refine hK.out _ _ trivial (fun _ => ?_)
    clear hK K1
    try (simp only [Act.put, qA, qB, qC, qD, qE, qF])
    refine tr 7 _ (by kernel_rfl) rfl fun K1 hK => ?_
    go_simp
    refine hK.out _ _ trivial (fun _ => ?_)
    clear hK K1
    try (simp only [Act.put, qA, qB, qC, qD, qE, qF])
    refine tr 8 _ (by kernel_rfl) rfl fun K1 hK => ?_
    go_simp
    refine hK.out _ _ trivial (fun _ => ?_)
    clear hK K1
    try (simp only [Act.put, qA, qB, qC, qD, qE, qF])
    refine tr 9 _ (by kernel_rfl) rfl fun K1 hK => ?_
    go_simp
    refine hK.out _ _ trivial (fun _ => ?_)
    clear hK K1
    try (simp only [Act.put, qA, qB, qC, qD, qE, qF])
    refine wpAnyH_done (by kernel_rfl) ?_ _
    exact HX.out _ _ _ _ _ _ _ _ _ _ _ hB gB gF gD ⟨by omega, by omega, by omega⟩ ⟨by omega, by omega, by omega⟩
  ·go_simp
   obtain ⟨V110, hV110, gV110, bV110⟩ := A3 V94 (.cells (Array.replicate m (int i64 0)) 3)
   rw [hV110]
   clear hV110
   have gD := gD.below bV110 (by have := gD.lt; omega)
   have hB := hB.trans (bV110.mono hB.size)
   have zV110 : V94.heap.size < V110.heap.size := (qs.1 gV110).1
   have gF := A7 gV110
   refine hK.out _ _ trivial (fun _ => ?_)
   clear hK K2
   try (simp only [Act.put, qA, qB, qC, qD, qE, qF])
   refine tr 0 _ (by kernel_rfl) rfl fun K1 hK => ?_
   go_simp
   obtain ⟨V111, hV111, gV111, bV111⟩ := A3 V110 (.cells #[int i64 1152921504606846976] 3)
   rw [hV111]
   clear hV111
   have gD := gD.below bV111 (by have := gD.lt; omega)
   have gF := gF.below bV111 (by have := gF.lt; omega)
   have hB := hB.trans (bV111.mono hB.size)
   have zV111 : V110.heap.size < V111.heap.size := (qs.1 gV111).1
   have gA := gV111
   refine hK.out _ _ trivial (fun _ => ?_)
   clear hK K1
   try (simp only [Act.put, qA, qB, qC, qD, qE, qF])
   refine tr 2 _ (by kernel_rfl) rfl fun K1 hK => ?_
   go_simp
   go_at_call 83
   refine (AM 1152921504606846976 m hm0 (V110.heap.size) V111 (qs.1 gA).1 (A0 gA 0 rfl)).mono ?_
   rintro e V112 ⟨G112, rfl, hG112, gB, bV112⟩
   have gD := gD.below bV112 (by have := gD.lt; omega)
   have gF := gF.below bV112 (by have := gF.lt; omega)
   have gA := (bV112.block _ (qs.1 gA).1).trans gA
   have hB := hB.trans (bV112.mono hB.size)
   have zV112 := bV112.size
   have yV112 := gB.lt
   refine hK.out _ _ trivial (fun _ => ?_)
   clear hK K1
   try (simp only [Act.put, qA, qB, qC, qD, qE, qF])
   refine tr 7 _ (by kernel_rfl) rfl fun K1 hK => ?_
   go_simp
   refine hK.out _ _ trivial (fun _ => ?_)
   clear hK K1
   try (simp only [Act.put, qA, qB, qC, qD, qE, qF])
   refine tr 8 _ (by kernel_rfl) rfl fun K1 hK => ?_
   go_simp
   refine hK.out _ _ trivial (fun _ => ?_)
   clear hK K1
   try (simp only [Act.put, qA, qB, qC, qD, qE, qF])
   refine tr 9 _ (by kernel_rfl) rfl fun K1 hK => ?_
   go_simp
   refine hK.out _ _ trivial (fun _ => ?_)
   clear hK K1
   try (simp only [Act.put, qA, qB, qC, qD, qE, qF])
   refine wpAnyH_done (by kernel_rfl) ?_ _
   exact HX.out _ _ _ _ _ _ _ _ _ _ _ hB gB gF gD ⟨by omega, by omega, by omega⟩ ⟨by omega, by omega, by omega⟩
end
end Go.Proofs.YtggcbblikgankaaGreatDoor
