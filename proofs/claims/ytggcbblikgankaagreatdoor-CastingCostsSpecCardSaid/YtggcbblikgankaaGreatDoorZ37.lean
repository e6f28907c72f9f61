/- Contracts and plain laws on the way to the statement: part 37. -/
import Derived.Test.YtggcbblikgankaaGreatDoorZ36
import Derived.Test.YtggcbblikgankaaGreatDoorZ26
import Derived.Test.YtggcbblikgankaaGreatDoorZ29
import Derived.Test.YtggcbblikgankaaGreatDoorZ8
import Derived.Test.YtggcbblikgankaaGreatDoorZ30
import Derived.Test.YtggcbblikgankaaGreatDoorZ3
set_option linter.unusedVariables false
set_option linter.unusedSimpArgs false
set_option maxRecDepth 100000
set_option maxHeartbeats 16000000
namespace Go.Proofs.YtggcbblikgankaaGreatDoor
open Go.Value (int)
open Go.IntKind (i64)
section
open Go Go.RowKit Go.Deep
noncomputable def Hx : Code := Bu (Ag 6 DM)
theorem Bc {w : World} {g : Nat} {x : Value} {t : TypeId} (h : w.heap[g]? = some (.cells #[x] t (0, 0))) (v : Value) : ∃ w', w.setCell ⟨g, 0, none⟩ v = w' ∧ w'.heap[g]? = some (.cells #[v] t (0, 0)) ∧ (∀ q, q ≠ g → w'.heap[q]? = w.heap[q]?) ∧ (∀ B w0, Below B w0 w → B ≤ g → Below B w0 w') ∧ w'.heap.size ≤ w.heap.size ∧ w.heap.size ≤ w'.heap.size := by
 refine ⟨_, rfl, ?_, fun q hq => heap_setCell (a := ⟨g, 0, none⟩) hq, fun B w0 hb hg => hb.setCell (p := ⟨g, 0, none⟩) hg v, ?_, ?_⟩
 ·simp only [World.setCell, Array.getElem?_modify, h, if_true, Option.map_some]
  simp
 ·simp [World.setCell]
 ·simp [World.setCell]
theorem NX (kM m : Nat) (hm0 : m ≤ 1000) (w : World) (hM : w.cell? ⟨kM, 0, none⟩ = some (int i64 m)) (hkM : kM < w.heap.size) (e0 e1 e2 e3 e4 e5 e7 e8 e9 ea eb ec ed ee ef eg eh ei ej ek el em en eo ep eq er es et eu ev ew ex ey ez eA eB eC eD eE eF eG eH eI eJ eK eL eM eN eO eP eQ eR eS eT eU eV eW eX eY eZ aa ab ac ad ae af ag ah ai aj ak al am an ao ap aq ar au av aw ax ay : Value) (Q : Exit → Act → World → Prop) (X : Code)
  (hX : ∀ (w' : World) (kS kT D : Nat) (az aA : Value), Below w.heap.size w w' → w'.heap[kS]? = some (.cells #[int i64 0] 3 (0, 0)) → w'.heap[kT]? = some (.cells #[.slice (some ⟨D, 0, none⟩) m m] 97 (0, 0)) → w'.heap[D]? = some (.cells (Array.replicate m (.bool false)) 4 (0, 0)) → (w.heap.size ≤ kS ∧ w.heap.size ≤ kT ∧ w.heap.size ≤ D) → (kS ≠ kT ∧ kS ≠ D ∧ kT ≠ D) → Code.wp Tryz.prog X Q { tmps := #[e0, e1, e2, e3, e4, e5, .pointer (some ⟨kM, 0, none⟩), e7, e8, e9, ea, eb, .pointer (some ⟨kS, 0, none⟩), .pointer (some ⟨kT, 0, none⟩), ee, ef, eg, eh, ei, ej, ek, el, em, en, eo, ep, eq, er, es, et, eu, ev, ew, ex, ey, ez, eA, eB, eC, eD, eE, eF, eG, eH, eI, eJ, eK, eL, eM, eN, eO, az, aA, eR, eS, eT, eU, eV, eW, eX, eY, eZ, aa, ab, ac, ad, ae, af, ag, ah, ai, aj, ak, al, am, an, ao, ap, aq, ar, au, av, aw, ax, ay], defers := [] } w') :
  Code.wp Tryz.prog (.seq Hx X) Q { tmps := #[e0, e1, e2, e3, e4, e5, .pointer (some ⟨kM, 0, none⟩), e7, e8, e9, ea, eb, ec, ed, ee, ef, eg, eh, ei, ej, ek, el, em, en, eo, ep, eq, er, es, et, eu, ev, ew, ex, ey, ez, eA, eB, eC, eD, eE, eF, eG, eH, eI, eJ, eK, eL, eM, eN, eO, eP, eQ, eR, eS, eT, eU, eV, eW, eX, eY, eZ, aa, ab, ac, ad, ae, af, ag, ah, ai, aj, ak, al, am, an, ao, ap, aq, ar, au, av, aw, ax, ay], defers := [] } w := by
 have HX := qh hX; have HM := qh hM; have HKM := qh hkM
 clear hX hM hkM
 have hmk2 := fun (W : World) => Hu m hm0 W
 have hB : Below w.heap.size w w.drew := (Below.refl _ w).drew
 unfold Hx DM
 conv => arg 2; arg 1; whnf
 refine wp_seq (wp_mono (Q := noP (Exit.then (Code.wp Tryz.prog X Q) Q)) ?_ (M9 _))
 refine wp_region_held (S := fun w2 => w2.cell? ⟨kM, 0, none⟩ = some (int i64 m)) (by kernel_rfl) ?_
 change wpAnyH _ _ _ _ _ _ _ _ w.drew
 have hz0 : w.heap.size = w.drew.heap.size := rfl
 generalize w.drew = V0 at *
 refine tq 0 _ (int i64 m) rfl (by kernel_rfl) (fun _ _ _ h => h) (Or.inl ⟨by rfl, fun w hw => by go_simp⟩) (((hB).cell (p := ⟨kM, 0, none⟩) HKM.out).trans HM.out) ?_
 try (simp only [Act.put, qA, qB, qC, qD, qE, qF])
 refine wpAnyH_ready (rs := [1, 2, 3]) (by kernel_rfl) (by simp) ?_
 refine AllReadyH.cons (o := _) rfl (fun K1 hK => ?_) (AllReadyH.cons (o := _) rfl (fun K2 hK => ?_) (AllReadyH.cons (o := _) rfl (fun K3 hK => ?_) AllReadyH.nil))
 ·go_simp
  obtain ⟨V1, hV1, gV1, bV1⟩ := A3 V0 (.cells (Array.replicate m (.bool false)) 4)
  rw [hV1]
  clear hV1
  have hB := hB.trans (bV1.mono hB.size)
  have zV1 : V0.heap.size < V1.heap.size := (qs.1 gV1).1
  have gD := gV1
  refine hK.out _ _ (((hB).cell (p := ⟨kM, 0, none⟩) HKM.out).trans HM.out) (fun _ => ?_)
  clear hK
  try (simp only [Act.put, qA, qB, qC, qD, qE, qF])
  refine wpAnyH_ready (rs := [2, 3]) (by kernel_rfl) (by simp) ?_
  refine AllReadyH.cons (o := _) rfl (fun K1 hK => ?_) (AllReadyH.cons (o := _) rfl (fun K2 hK => ?_) AllReadyH.nil)
  ·go_simp
   obtain ⟨V2, hV2, gV2, bV2⟩ := A3 V1 (.cells #[int i64 0] 3)
   rw [hV2]
   clear hV2
   have gD := (bV2.block _ (qs.1 gD).1).trans gD
   have hB := hB.trans (bV2.mono hB.size)
   have zV2 : V1.heap.size < V2.heap.size := (qs.1 gV2).1
   have gS := gV2
   refine hK.out _ _ (((hB).cell (p := ⟨kM, 0, none⟩) HKM.out).trans HM.out) (fun _ => ?_)
   clear hK
   try (simp only [Act.put, qA, qB, qC, qD, qE, qF])
   refine tr 3 _ (by kernel_rfl) rfl fun K1 hK => ?_
   go_simp
   obtain ⟨V3, hV3, gV3, bV3⟩ := A3 V2 (.cells #[.slice none 0 0] 97)
   rw [hV3]
   clear hV3
   have gD := (bV3.block _ (qs.1 gD).1).trans gD
   have gS := (bV3.block _ (qs.1 gS).1).trans gS
   have hB := hB.trans (bV3.mono hB.size)
   have zV3 : V2.heap.size < V3.heap.size := (qs.1 gV3).1
   have gT := gV3
   refine hK.out _ _ (((hB).cell (p := ⟨kM, 0, none⟩) HKM.out).trans HM.out) (fun _ => ?_)
   clear hK
   try (simp only [Act.put, qA, qB, qC, qD, qE, qF])
   refine tr 4 _ (by kernel_rfl) rfl fun K1 hK => ?_
   have cc := A0 gS 0 rfl
   have ff : V3.frozen? ⟨V1.heap.size, 0, none⟩ = false := by simp [World.frozen?, gS]
   go_simp
   obtain ⟨V4, hV4, gV4, oV4, bV4, zV4, yV4⟩ := Bc gS (int i64 0)
   rw [hV4]
   clear hV4 cc ff
   have gD := (oV4 _ (by omega)).trans gD
   have gT := (oV4 _ (by omega)).trans gT
   have hB := bV4 _ _ hB (by have := hB.size; omega)
   have gS := gV4
   refine hK.out _ _ (((hB).cell (p := ⟨kM, 0, none⟩) HKM.out).trans HM.out) (fun _ => ?_)
   clear hK
   try (simp only [Act.put, qA, qB, qC, qD, qE, qF])
   refine tr 5 _ (by kernel_rfl) rfl fun K1 hK => ?_
   have cc := A0 gT 0 rfl
   have ff : V4.frozen? ⟨V2.heap.size, 0, none⟩ = false := by simp [World.frozen?, gT]
   go_simp
   obtain ⟨V5, hV5, gV5, oV5, bV5, zV5, yV5⟩ := Bc gT (.slice (some ⟨V0.heap.size, 0, none⟩) m m)
   rw [hV5]
   clear hV5 cc ff
   have gD := (oV5 _ (by omega)).trans gD
   have gS := (oV5 _ (by omega)).trans gS
   have hB := bV5 _ _ hB (by have := hB.size; omega)
   have gT := gV5
   refine hK.out _ _ (((hB).cell (p := ⟨kM, 0, none⟩) HKM.out).trans HM.out) (fun _ => ?_)
   clear hK
   try (simp only [Act.put, qA, qB, qC, qD, qE, qF])
   refine wpAnyH_done (by kernel_rfl) ?_ _
   exact HX.out _ _ _ _ _ _ hB gS gT gD ⟨by omega, by omega, by omega⟩ ⟨by omega, by omega, by omega⟩
  ·go_simp
   obtain ⟨V6, hV6, gV6, bV6⟩ := A3 V1 (.cells #[.slice none 0 0] 97)
   rw [hV6]
   clear hV6
   have gD := (bV6.block _ (qs.1 gD).1).trans gD
   have hB := hB.trans (bV6.mono hB.size)
   have zV6 : V1.heap.size < V6.heap.size := (qs.1 gV6).1
   have gT := gV6
   refine hK.out _ _ (((hB).cell (p := ⟨kM, 0, none⟩) HKM.out).trans HM.out) (fun _ => ?_)
   clear hK
   try (simp only [Act.put, qA, qB, qC, qD, qE, qF])
   refine tr 2 _ (by kernel_rfl) rfl fun K1 hK => ?_
   go_simp
   obtain ⟨V7, hV7, gV7, bV7⟩ := A3 V6 (.cells #[int i64 0] 3)
   rw [hV7]
   clear hV7
   have gD := (bV7.block _ (qs.1 gD).1).trans gD
   have gT := (bV7.block _ (qs.1 gT).1).trans gT
   have hB := hB.trans (bV7.mono hB.size)
   have zV7 : V6.heap.size < V7.heap.size := (qs.1 gV7).1
   have gS := gV7
   refine hK.out _ _ (((hB).cell (p := ⟨kM, 0, none⟩) HKM.out).trans HM.out) (fun _ => ?_)
   clear hK
   try (simp only [Act.put, qA, qB, qC, qD, qE, qF])
   refine tr 4 _ (by kernel_rfl) rfl fun K1 hK => ?_
   have cc := A0 gS 0 rfl
   have ff : V7.frozen? ⟨V6.heap.size, 0, none⟩ = false := by simp [World.frozen?, gS]
   go_simp
   obtain ⟨V8, hV8, gV8, oV8, bV8, zV8, yV8⟩ := Bc gS (int i64 0)
   rw [hV8]
   clear hV8 cc ff
   have gD := (oV8 _ (by omega)).trans gD
   have gT := (oV8 _ (by omega)).trans gT
   have hB := bV8 _ _ hB (by have := hB.size; omega)
   have gS := gV8
   refine hK.out _ _ (((hB).cell (p := ⟨kM, 0, none⟩) HKM.out).trans HM.out) (fun _ => ?_)
   clear hK
   try (simp only [Act.put, qA, qB, qC, qD, qE, qF])
   refine tr 5 _ (by kernel_rfl) rfl fun K1 hK => ?_
   have cc := A0 gT 0 rfl
   have ff : V8.frozen? ⟨V1.heap.size, 0, none⟩ = false := by simp [World.frozen?, gT]
   go_simp
   obtain ⟨V9, hV9, gV9, oV9, bV9, zV9, yV9⟩ := Bc gT (.slice (some ⟨V0.heap.size, 0, none⟩) m m)
   rw [hV9]
   clear hV9 cc ff
   have gD := (oV9 _ (by omega)).trans gD
   have gS := (oV9 _ (by omega)).trans gS
   have hB := bV9 _ _ hB (by have := hB.size; omega)
   have gT := gV9
   refine hK.out _ _ (((hB).cell (p := ⟨kM, 0, none⟩) HKM.out).trans HM.out) (fun _ => ?_)
   clear hK
   try (simp only [Act.put, qA, qB, qC, qD, qE, qF])
   refine wpAnyH_done (by kernel_rfl) ?_ _
   exact HX.out _ _ _ _ _ _ hB gS gT gD ⟨by omega, by omega, by omega⟩ ⟨by omega, by omega, by omega⟩
 ·go_simp
  obtain ⟨V10, hV10, gV10, bV10⟩ := A3 V0 (.cells #[int i64 0] 3)
  rw [hV10]
  clear hV10
  have hB := hB.trans (bV10.mono hB.size)
  have zV10 : V0.heap.size < V10.heap.size := (qs.1 gV10).1
  have gS := gV10
  refine hK.out _ _ (((hB).cell (p := ⟨kM, 0, none⟩) HKM.out).trans HM.out) (fun _ => ?_)
  clear hK
  try (simp only [Act.put, qA, qB, qC, qD, qE, qF])
  refine wpAnyH_ready (rs := [1, 3]) (by kernel_rfl) (by simp) ?_
  refine AllReadyH.cons (o := _) rfl (fun K1 hK => ?_) (AllReadyH.cons (o := _) rfl (fun K2 hK => ?_) AllReadyH.nil)
  ·go_simp
   obtain ⟨V11, hV11, gV11, bV11⟩ := A3 V10 (.cells (Array.replicate m (.bool false)) 4)
   rw [hV11]
   clear hV11
   have gS := (bV11.block _ (qs.1 gS).1).trans gS
   have hB := hB.trans (bV11.mono hB.size)
   have zV11 : V10.heap.size < V11.heap.size := (qs.1 gV11).1
   have gD := gV11
   refine hK.out _ _ (((hB).cell (p := ⟨kM, 0, none⟩) HKM.out).trans HM.out) (fun _ => ?_)
   clear hK
   try (simp only [Act.put, qA, qB, qC, qD, qE, qF])
   refine tr 3 _ (by kernel_rfl) rfl fun K1 hK => ?_
   go_simp
   obtain ⟨V12, hV12, gV12, bV12⟩ := A3 V11 (.cells #[.slice none 0 0] 97)
   rw [hV12]
   clear hV12
   have gS := (bV12.block _ (qs.1 gS).1).trans gS
   have gD := (bV12.block _ (qs.1 gD).1).trans gD
   have hB := hB.trans (bV12.mono hB.size)
   have zV12 : V11.heap.size < V12.heap.size := (qs.1 gV12).1
   have gT := gV12
   refine hK.out _ _ (((hB).cell (p := ⟨kM, 0, none⟩) HKM.out).trans HM.out) (fun _ => ?_)
   clear hK
   try (simp only [Act.put, qA, qB, qC, qD, qE, qF])
   refine tr 4 _ (by kernel_rfl) rfl fun K1 hK => ?_
   have cc := A0 gS 0 rfl
   have ff : V12.frozen? ⟨V0.heap.size, 0, none⟩ = false := by simp [World.frozen?, gS]
   go_simp
   obtain ⟨V13, hV13, gV13, oV13, bV13, zV13, yV13⟩ := Bc gS (int i64 0)
   rw [hV13]
   clear hV13 cc ff
   have gD := (oV13 _ (by omega)).trans gD
   have gT := (oV13 _ (by omega)).trans gT
   have hB := bV13 _ _ hB (by have := hB.size; omega)
   have gS := gV13
   refine hK.out _ _ (((hB).cell (p := ⟨kM, 0, none⟩) HKM.out).trans HM.out) (fun _ => ?_)
   clear hK
   try (simp only [Act.put, qA, qB, qC, qD, qE, qF])
   refine tr 5 _ (by kernel_rfl) rfl fun K1 hK => ?_
   have cc := A0 gT 0 rfl
   have ff : V13.frozen? ⟨V11.heap.size, 0, none⟩ = false := by simp [World.frozen?, gT]
   go_simp
   obtain ⟨V14, hV14, gV14, oV14, bV14, zV14, yV14⟩ := Bc gT (.slice (some ⟨V10.heap.size, 0, none⟩) m m)
   rw [hV14]
   clear hV14 cc ff
   have gS := (oV14 _ (by omega)).trans gS
   have gD := (oV14 _ (by omega)).trans gD
   have hB := bV14 _ _ hB (by have := hB.size; omega)
   have gT := gV14
   refine hK.out _ _ (((hB).cell (p := ⟨kM, 0, none⟩) HKM.out).trans HM.out) (fun _ => ?_)
   clear hK
   try (simp only [Act.put, qA, qB, qC, qD, qE, qF])
   refine wpAnyH_done (by kernel_rfl) ?_ _
   exact HX.out _ _ _ _ _ _ hB gS gT gD ⟨by omega, by omega, by omega⟩ ⟨by omega, by omega, by omega⟩
  ·go_simp
   obtain ⟨V15, hV15, gV15, bV15⟩ := A3 V10 (.cells #[.slice none 0 0] 97)
   rw [hV15]
   clear hV15
   have gS := (bV15.block _ (qs.1 gS).1).trans gS
   have hB := hB.trans (bV15.mono hB.size)
   have zV15 : V10.heap.size < V15.heap.size := (qs.1 gV15).1
   have gT := gV15
   refine hK.out _ _ (((hB).cell (p := ⟨kM, 0, none⟩) HKM.out).trans HM.out) (fun _ => ?_)
   clear hK
   try (simp only [Act.put, qA, qB, qC, qD, qE, qF])
   refine wpAnyH_ready (rs := [1, 4]) (by kernel_rfl) (by simp) ?_
   refine AllReadyH.cons (o := _) rfl (fun K1 hK => ?_) (AllReadyH.cons (o := _) rfl (fun K2 hK => ?_) AllReadyH.nil)
   ·go_simp
    obtain ⟨V16, hV16, gV16, bV16⟩ := A3 V15 (.cells (Array.replicate m (.bool false)) 4)
    rw [hV16]
    clear hV16
    have gS := (bV16.block _ (qs.1 gS).1).trans gS
    have gT := (bV16.block _ (qs.1 gT).1).trans gT
    have hB := hB.trans (bV16.mono hB.size)
    have zV16 : V15.heap.size < V16.heap.size := (qs.1 gV16).1
    have gD := gV16
    refine hK.out _ _ (((hB).cell (p := ⟨kM, 0, none⟩) HKM.out).trans HM.out) (fun _ => ?_)
    clear hK
    try (simp only [Act.put, qA, qB, qC, qD, qE, qF])
    refine tr 4 _ (by kernel_rfl) rfl fun K1 hK => ?_
    have cc := A0 gS 0 rfl
    have ff : V16.frozen? ⟨V0.heap.size, 0, none⟩ = false := by simp [World.frozen?, gS]
    go_simp
    obtain ⟨V17, hV17, gV17, oV17, bV17, zV17, yV17⟩ := Bc gS (int i64 0)
    rw [hV17]
    clear hV17 cc ff
    have gT := (oV17 _ (by omega)).trans gT
    have gD := (oV17 _ (by omega)).trans gD
    have hB := bV17 _ _ hB (by have := hB.size; omega)
    have gS := gV17
    refine hK.out _ _ (((hB).cell (p := ⟨kM, 0, none⟩) HKM.out).trans HM.out) (fun _ => ?_)
    clear hK
    try (simp only [Act.put, qA, qB, qC, qD, qE, qF])
    refine tr 5 _ (by kernel_rfl) rfl fun K1 hK => ?_
    have cc := A0 gT 0 rfl
    have ff : V17.frozen? ⟨V10.heap.size, 0, none⟩ = false := by simp [World.frozen?, gT]
    go_simp
    obtain ⟨V18, hV18, gV18, oV18, bV18, zV18, yV18⟩ := Bc gT (.slice (some ⟨V15.heap.size, 0, none⟩) m m)
    rw [hV18]
    clear hV18 cc ff
    have gS := (oV18 _ (by omega)).trans gS
    have gD := (oV18 _ (by omega)).trans gD
    have hB := bV18 _ _ hB (by have := hB.size; omega)
    have gT := gV18
    refine hK.out _ _ (((hB).cell (p := ⟨kM, 0, none⟩) HKM.out).trans HM.out) (fun _ => ?_)
    clear hK
    try (simp only [Act.put, qA, qB, qC, qD, qE, qF])
    refine wpAnyH_done (by kernel_rfl) ?_ _
    exact HX.out _ _ _ _ _ _ hB gS gT gD ⟨by omega, by omega, by omega⟩ ⟨by omega, by omega, by omega⟩
   ·have cc := A0 gS 0 rfl
    have ff : V15.frozen? ⟨V0.heap.size, 0, none⟩ = false := by simp [World.frozen?, gS]
    go_simp
    obtain ⟨V19, hV19, gV19, oV19, bV19, zV19, yV19⟩ := Bc gS (int i64 0)
    rw [hV19]
    clear hV19 cc ff
    have gT := (oV19 _ (by omega)).trans gT
    have hB := bV19 _ _ hB (by have := hB.size; omega)
    have gS := gV19
    refine hK.out _ _ (((hB).cell (p := ⟨kM, 0, none⟩) HKM.out).trans HM.out) (fun _ => ?_)
    clear hK
    try (simp only [Act.put, qA, qB, qC, qD, qE, qF])
    refine tr 1 _ (by kernel_rfl) rfl fun K1 hK => ?_
    go_simp
    obtain ⟨V20, hV20, gV20, bV20⟩ := A3 V19 (.cells (Array.replicate m (.bool false)) 4)
    rw [hV20]
    clear hV20
    have gS := (bV20.block _ (qs.1 gS).1).trans gS
    have gT := (bV20.block _ (qs.1 gT).1).trans gT
    have hB := hB.trans (bV20.mono hB.size)
    have zV20 : V19.heap.size < V20.heap.size := (qs.1 gV20).1
    have gD := gV20
    refine hK.out _ _ (((hB).cell (p := ⟨kM, 0, none⟩) HKM.out).trans HM.out) (fun _ => ?_)
    clear hK
    try (simp only [Act.put, qA, qB, qC, qD, qE, qF])
    refine tr 5 _ (by kernel_rfl) rfl fun K1 hK => ?_
    have cc := A0 gT 0 rfl
    have ff : V20.frozen? ⟨V10.heap.size, 0, none⟩ = false := by simp [World.frozen?, gT]
    go_simp
    obtain ⟨V21, hV21, gV21, oV21, bV21, zV21, yV21⟩ := Bc gT (.slice (some ⟨V19.heap.size, 0, none⟩) m m)
    rw [hV21]
    clear hV21 cc ff
    have gS := (oV21 _ (by omega)).trans gS
    have gD := (oV21 _ (by omega)).trans gD
    have hB := bV21 _ _ hB (by have := hB.size; omega)
    have gT := gV21
    refine hK.out _ _ (((hB).cell (p := ⟨kM, 0, none⟩) HKM.out).trans HM.out) (fun _ => ?_)
    clear hK
    try (simp only [Act.put, qA, qB, qC, qD, qE, qF])
    refine wpAnyH_done (by kernel_rfl) ?_ _
    exact HX.out _ _ _ _ _ _ hB gS gT gD ⟨by omega, by omega, by omega⟩ ⟨by omega, by omega, by omega⟩
 ·go_simp
  obtain ⟨V22, hV22, gV22, bV22⟩ := A3 V0 (.cells #[.slice none 0 0] 97)
  rw [hV22]
  clear hV22
  have hB := hB.trans (bV22.mono hB.size)
  have zV22 : V0.heap.size < V22.heap.size := (qs.1 gV22).1
  have gT := gV22
  refine hK.out _ _ (((hB).cell (p := ⟨kM, 0, none⟩) HKM.out).trans HM.out) (fun _ => ?_)
  clear hK
  try (simp only [Act.put, qA, qB, qC, qD, qE, qF])
  refine wpAnyH_ready (rs := [1, 2]) (by kernel_rfl) (by simp) ?_
  refine AllReadyH.cons (o := _) rfl (fun K1 hK => ?_) (AllReadyH.cons (o := _) rfl (fun K2 hK => ?_) AllReadyH.nil)
  ·go_simp
   obtain ⟨V23, hV23, gV23, bV23⟩ := A3 V22 (.cells (Array.replicate m (.bool false)) 4)
   rw [hV23]
   clear hV23
   have gT := (bV23.block _ (qs.1 gT).1).trans gT
   have hB := hB.trans (bV23.mono hB.size)
   have zV23 : V22.heap.size < V23.heap.size := (qs.1 gV23).1
   have gD := gV23
   refine hK.out _ _ (((hB).cell (p := ⟨kM, 0, none⟩) HKM.out).trans HM.out) (fun _ => ?_)
   clear hK
   try (simp only [Act.put, qA, qB, qC, qD, qE, qF])
   refine tr 2 _ (by kernel_rfl) rfl fun K1 hK => ?_
   go_simp
   obtain ⟨V24, hV24, gV24, bV24⟩ := A3 V23 (.cells #[int i64 0] 3)
   rw [hV24]
   clear hV24
   have gT := (bV24.block _ (qs.1 gT).1).trans gT
   have gD := (bV24.block _ (qs.1 gD).1).trans gD
   have hB := hB.trans (bV24.mono hB.size)
   have zV24 : V23.heap.size < V24.heap.size := (qs.1 gV24).1
   have gS := gV24
   refine hK.out _ _ (((hB).cell (p := ⟨kM, 0, none⟩) HKM.out).trans HM.out) (fun _ => ?_)
   clear hK
   try (simp only [Act.put, qA, qB, qC, qD, qE, qF])
   refine tr 4 _ (by kernel_rfl) rfl fun K1 hK => ?_
   have cc := A0 gS 0 rfl
   have ff : V24.frozen? ⟨V23.heap.size, 0, none⟩ = false := by simp [World.frozen?, gS]
   go_simp
   obtain ⟨V25, hV25, gV25, oV25, bV25, zV25, yV25⟩ := Bc gS (int i64 0)
   rw [hV25]
   clear hV25 cc ff
   have gT := (oV25 _ (by omega)).trans gT
   have gD := (oV25 _ (by omega)).trans gD
   have hB := bV25 _ _ hB (by have := hB.size; omega)
   have gS := gV25
   refine hK.out _ _ (((hB).cell (p := ⟨kM, 0, none⟩) HKM.out).trans HM.out) (fun _ => ?_)
   clear hK
   try (simp only [Act.put, qA, qB, qC, qD, qE, qF])
   refine tr 5 _ (by kernel_rfl) rfl fun K1 hK => ?_
   have cc := A0 gT 0 rfl
   have ff : V25.frozen? ⟨V0.heap.size, 0, none⟩ = false := by simp [World.frozen?, gT]
   go_simp
   obtain ⟨V26, hV26, gV26, oV26, bV26, zV26, yV26⟩ := Bc gT (.slice (some ⟨V22.heap.size, 0, none⟩) m m)
   rw [hV26]
   clear hV26 cc ff
   have gD := (oV26 _ (by omega)).trans gD
   have gS := (oV26 _ (by omega)).trans gS
   have hB := bV26 _ _ hB (by have := hB.size; omega)
   have gT := gV26
   refine hK.out _ _ (((hB).cell (p := ⟨kM, 0, none⟩) HKM.out).trans HM.out) (fun _ => ?_)
   clear hK
   try (simp only [Act.put, qA, qB, qC, qD, qE, qF])
   refine wpAnyH_done (by kernel_rfl) ?_ _
   exact HX.out _ _ _ _ _ _ hB gS gT gD ⟨by omega, by omega, by omega⟩ ⟨by omega, by omega, by omega⟩
  ·go_simp
   obtain ⟨V27, hV27, gV27, bV27⟩ := A3 V22 (.cells #[int i64 0] 3)
   rw [hV27]
   clear hV27
   have gT := (bV27.block _ (qs.1 gT).1).trans gT
   have hB := hB.trans (bV27.mono hB.size)
   have zV27 : V22.heap.size < V27.heap.size := (qs.1 gV27).1
   have gS := gV27
   refine hK.out _ _ (((hB).cell (p := ⟨kM, 0, none⟩) HKM.out).trans HM.out) (fun _ => ?_)
   clear hK
   try (simp only [Act.put, qA, qB, qC, qD, qE, qF])
   refine wpAnyH_ready (rs := [1, 4]) (by kernel_rfl) (by simp) ?_
   refine AllReadyH.cons (o := _) rfl (fun K1 hK => ?_) (AllReadyH.cons (o := _) rfl (fun K2 hK => ?_) AllReadyH.nil)
   ·go_simp
    obtain ⟨V28, hV28, gV28, bV28⟩ := A3 V27 (.cells (Array.replicate m (.bool false)) 4)
    rw [hV28]
    clear hV28
    have gT := (bV28.block _ (qs.1 gT).1).trans gT
    have gS := (bV28.block _ (qs.1 gS).1).trans gS
    have hB := hB.trans (bV28.mono hB.size)
    have zV28 : V27.heap.size < V28.heap.size := (qs.1 gV28).1
    have gD := gV28
    refine hK.out _ _ (((hB).cell (p := ⟨kM, 0, none⟩) HKM.out).trans HM.out) (fun _ => ?_)
    clear hK
    try (simp only [Act.put, qA, qB, qC, qD, qE, qF])
    refine tr 4 _ (by kernel_rfl) rfl fun K1 hK => ?_
    have cc := A0 gS 0 rfl
    have ff : V28.frozen? ⟨V22.heap.size, 0, none⟩ = false := by simp [World.frozen?, gS]
    go_simp
    obtain ⟨V29, hV29, gV29, oV29, bV29, zV29, yV29⟩ := Bc gS (int i64 0)
    rw [hV29]
    clear hV29 cc ff
    have gT := (oV29 _ (by omega)).trans gT
    have gD := (oV29 _ (by omega)).trans gD
    have hB := bV29 _ _ hB (by have := hB.size; omega)
    have gS := gV29
    refine hK.out _ _ (((hB).cell (p := ⟨kM, 0, none⟩) HKM.out).trans HM.out) (fun _ => ?_)
    clear hK
    try (simp only [Act.put, qA, qB, qC, qD, qE, qF])
    refine tr 5 _ (by kernel_rfl) rfl fun K1 hK => ?_
    have cc := A0 gT 0 rfl
    have ff : V29.frozen? ⟨V0.heap.size, 0, none⟩ = false := by simp [World.frozen?, gT]
    go_simp
    obtain ⟨V30, hV30, gV30, oV30, bV30, zV30, yV30⟩ := Bc gT (.slice (some ⟨V27.heap.size, 0, none⟩) m m)
    rw [hV30]
    clear hV30 cc ff
    have gS := (oV30 _ (by omega)).trans gS
    have gD := (oV30 _ (by omega)).trans gD
    have hB := bV30 _ _ hB (by have := hB.size; omega)
    have gT := gV30
    refine hK.out _ _ (((hB).cell (p := ⟨kM, 0, none⟩) HKM.out).trans HM.out) (fun _ => ?_)
    clear hK
    try (simp only [Act.put, qA, qB, qC, qD, qE, qF])
    refine wpAnyH_done (by kernel_rfl) ?_ _
    exact HX.out _ _ _ _ _ _ hB gS gT gD ⟨by omega, by omega, by omega⟩ ⟨by omega, by omega, by omega⟩
   ·have cc := A0 gS 0 rfl
    have ff : V27.frozen? ⟨V22.heap.size, 0, none⟩ = false := by simp [World.frozen?, gS]
    go_simp
    obtain ⟨V31, hV31, gV31, oV31, bV31, zV31, yV31⟩ := Bc gS (int i64 0)
    rw [hV31]
    clear hV31 cc ff
    have gT := (oV31 _ (by omega)).trans gT
    have hB := bV31 _ _ hB (by have := hB.size; omega)
    have gS := gV31
    refine hK.out _ _ (((hB).cell (p := ⟨kM, 0, none⟩) HKM.out).trans HM.out) (fun _ => ?_)
    clear hK
    try (simp only [Act.put, qA, qB, qC, qD, qE, qF])
    refine tr 1 _ (by kernel_rfl) rfl fun K1 hK => ?_
    go_simp
    obtain ⟨V32, hV32, gV32, bV32⟩ := A3 V31 (.cells (Array.replicate m (.bool false)) 4)
    rw [hV32]
    clear hV32
    have gT := (bV32.block _ (qs.1 gT).1).trans gT
    have gS := (bV32.block _ (qs.1 gS).1).trans gS
    have hB := hB.trans (bV32.mono hB.size)
    have zV32 : V31.heap.size < V32.heap.size := (qs.1 gV32).1
    have gD := gV32
    refine hK.out _ _ (((hB).cell (p := ⟨kM, 0, none⟩) HKM.out).trans HM.out) (fun _ => ?_)
    clear hK
    try (simp only [Act.put, qA, qB, qC, qD, qE, qF])
    refine tr 5 _ (by kernel_rfl) rfl fun K1 hK => ?_
    have cc := A0 gT 0 rfl
    have ff : V32.frozen? ⟨V0.heap.size, 0, none⟩ = false := by simp [World.frozen?, gT]
    go_simp
    obtain ⟨V33, hV33, gV33, oV33, bV33, zV33, yV33⟩ := Bc gT (.slice (some ⟨V31.heap.size, 0, none⟩) m m)
    rw [hV33]
    clear hV33 cc ff
    have gS := (oV33 _ (by omega)).trans gS
    have gD := (oV33 _ (by omega)).trans gD
    have hB := bV33 _ _ hB (by have := hB.size; omega)
    have gT := gV33
    refine hK.out _ _ (((hB).cell (p := ⟨kM, 0, none⟩) HKM.out).trans HM.out) (fun _ => ?_)
    clear hK
    try (simp only [Act.put, qA, qB, qC, qD, qE, qF])
    refine wpAnyH_done (by kernel_rfl) ?_ _
    exact HX.out _ _ _ _ _ _ hB gS gT gD ⟨by omega, by omega, by omega⟩ ⟨by omega, by omega, by omega⟩
end
section
open Go Go.RowKit Go.Deep
def Ks (cost : List (List Int)) (w : World) (e : Ending) (w' : World) : Prop :=
  Below w.heap.size w w' ∧
  ((Ak cost ≠ 0 ∧ e = .returned (.tuple #[.slice none 0 0, int i64 0, .bool false, int i64 (Ak cost)])) ∨
   (Ak cost = 0 ∧ (∀ t, ¬ CastN cost.length (AS cost) (cI cost) t) ∧ e = .returned (.tuple #[.slice none 0 0, int i64 0, .bool false, int i64 0])) ∨
   (Ak cost = 0 ∧ ∃ (v : Value) (t : Nat → Nat) (taken : List Bool) (best : Int), e = .returned (.tuple #[v, int i64 best, .bool true, int i64 0]) ∧ (∀ s, CastN cost.length (AS cost) (cI cost) s → best ≤ A6 (fun r => cI cost r (s r)) cost.length) ∧ FirstOk cost.length (AS cost) (cI cost) best cost.length t taken ∧ w'.ownsRow w.heap.size 3 1 v cost.length (As (toL t cost.length))))
theorem DY (tmps : Array Value) (w : World) (p : Addr) (x : Value) (h3 : tmps.getD 3 undef = .pointer (some p)) (hc : w.cell? p = some x) :
    (results Tryz.f20 tmps).run Tryz.prog w = .ok (.tuple #[tmps.getD 2 undef, x, tmps.getD 4 undef, tmps.getD 5 undef]) w := by
  have h4 : tmps[3]?.getD undef = .pointer (some p) := by simpa using h3
  simp [results, h4, hc, go_sem]
theorem NK (w : World) (x y : Value) (s t : TypeId) : ∃ W, (w.alloc (.cells #[x] s)).alloc (.cells #[y] t) = W ∧ W.heap[w.heap.size]? = some (.cells #[x] s (0, 0)) ∧ W.heap[w.heap.size + 1]? = some (.cells #[y] t (0, 0)) ∧ Below w.heap.size w W ∧ w.heap.size + 2 ≤ W.heap.size := by
  obtain ⟨A, hA, gA, bA⟩ := A3 w (.cells #[x] s)
  have hs : A.heap.size = w.heap.size + 1 := by rw [← hA]; simp
  obtain ⟨C, hC, gC, bC⟩ := A3 A (.cells #[y] t)
  have hs2 : C.heap.size = A.heap.size + 1 := by rw [← hC]; simp
  refine ⟨C, by rw [hA, hC], (bC.block _ (by omega)).trans gA, by rw [← hs]; exact gC, bA.trans (bC.mono (by omega)), by omega⟩
theorem PF (cost : List (List Int)) (aoC : Option Addr) (ccC : Nat) (w : World) (h : IsMat w (.slice aoC cost.length ccC) cost) (hce : Ak cost ≠ 0) :
    Calls Tryz.prog 20 #[.slice aoC cost.length ccC] w (Ks cost w) := by
  have HC := qh (fun W (hb : Below w.heap.size w W) => BK W (h.below hb (qn _)))
  have HE := qh hce
  have hP : ∀ W, Below w.heap.size w W → Ks cost w (.returned (.tuple #[.slice none 0 0, int i64 0, .bool false, int i64 (Ak cost)])) W := fun W hb => ⟨hb, Or.inl ⟨hce, rfl⟩⟩
  have HP := qh hP
  have hne : (Ak cost != 0) = true := by simp [hce]
  clear hP h hce
  generalize Ak cost = ce at *
  generalize cost.length = n at *
  go_enter Tryz.func20, Tryz.ntmps20
  go_wp2_with fail
  obtain ⟨W, hW, g1, g2, hb, hs⟩ := NK w (.slice aoC n ccC) (int i64 0) 50 3
  rw [hW]
  refine (HC.out W hb).mono ?_
  rintro e w2 ⟨rfl, hb2⟩
  have g3 := (hb2.block (w.heap.size + 1) (by omega)).trans g2
  have hb3 := hb.trans (hb2.mono hb.size)
  have c3 := A0 g3 0 rfl
  have f3 : w2.frozen? ⟨w.heap.size + 1, 0, none⟩ = false := by simp [World.frozen?, g3]
  have HB3 := qh hb3
  clear hW g1 g2 hb hs hb2 g3 hb3 HC
  go_wp2_with fail
  have c4 : (w2.setCell ⟨w.heap.size + 1, 0, none⟩ (int i64 0)).cell? ⟨w.heap.size + 1, 0, none⟩ = some (int i64 0) := World.cell?_setCell_same _ _ _ c3
  refine bodyPost_ret (DY _ _ _ _ rfl c4) rfl ?_
  exact HP.out _ (HB3.out.setCell (p := ⟨w.heap.size + 1, 0, none⟩) (Nat.le_succ _) _)
end
section
open Go Go.RowKit Go.Deep
noncomputable def JL : Code := (Tryz.f87.body).getD .skip
noncomputable def FC : Code := Ag 4 JL
theorem C2 {w : World} {Z B e s n : Nat} {v : Value} {xs : List Value} (h : w.ownsRow Z e s v n xs) (hB : B ≤ Z) : w.ownsRow B e s v n xs := by
  refine ⟨h.1, ?_⟩
  rcases h.2 with q | ⟨g, cap, cur, e, h1, h2⟩
  · exact Or.inl q
  · exact Or.inr ⟨g, cap, cur, e, Nat.le_trans hB h1, h2⟩
theorem DW {w : World} {Z e s n : Nat} {v : Value} {xs : List Value} (h : w.ownsRow Z e s v n xs) : ∀ k, v.ownBlock = some k → Z ≤ k := by
  intro k hk
  rcases h.2 with ⟨q, _⟩ | ⟨g, cap, cur, q, h1, _⟩
  · subst q; cases hk
  · subst q; cases hk; exact h1
theorem Cs {w w' : World} {Z e s n : Nat} {v : Value} {xs : List Value} (h : w.ownsRow Z e s v n xs) (hb : Below w.heap.size w w') : w'.ownsRow Z e s v n xs := by
  refine ⟨h.1, ?_⟩
  rcases h.2 with q | ⟨g, cap, cur, e1, h1, hg, h2⟩
  · exact Or.inl q
  · exact Or.inr ⟨g, cap, cur, e1, h1, (hb.block g (qs.1 hg).1).trans hg, h2⟩
theorem O7 (xs : List Int) (n B : Nat) (hn : xs.length = n) (hb : n ≤ 1000) (v : Value) (w : World) (h : w.ownsRow B 3 1 v n (As xs)) :
    Calls Tryz.prog 48 #[v] w fun e w' => ∃ v', e = .returned v' ∧ w'.ownsRow w.heap.size 3 1 v' n (As xs) ∧ Below w.heap.size w w' := by
  have hrow := Cp h hn
  rcases h.2 with ⟨rfl, h1⟩ | ⟨g, cap, cur, rfl, _⟩
  · subst h1
    obtain rfl : xs = [] := List.length_eq_zero_iff.1 hn
    refine (Tryz.slices_Clone_int_nil 0 0 w).mono ?_
    rintro e w' ⟨rfl, hw⟩
    rw [hw]
    exact ⟨_, rfl, World.ownsRow_nil _ _ _ _, Below.refl _ _⟩
  · have hc := Tryz.slices_Clone_int g 0 n cap xs w (by omega) (by omega) (fun j hj => by
      obtain ⟨b, o, e, hc, _⟩ := hrow.int hj
      have e2 := Option.some.inj e
      injection e2 with e3 e4
      subst e3 e4
      rw [hc]
      unfold gi
      rw [List.getD_eq_getElem?_getD])
    refine hc.mono ?_
    rintro e w' ⟨v', rfl, ho, _, hb2⟩
    rw [List.take_of_length_le (by omega)] at ho
    exact ⟨v', rfl, ho, hb2⟩
theorem ExtP.past {n R : Nat} {J Jx : List (Value × List Nat) → World → Prop} {pre : List (Value × List Nat)} {L : List (List Nat)} {W W' : World} {e : Ending} (h : ExtP n R J Jx pre L W e W') : Mm R W W' := by
  rcases h with ⟨_, _, _, _, h⟩ | ⟨_, _, _, _, h⟩
  · exact h.past
  · exact h
theorem L3 {fr i : Nat} (h : fr ≤ i) (f : Nat → List (List Nat)) : (List.range' fr (i + 1 - fr)).flatMap f = (List.range' fr (i - fr)).flatMap f ++ f i := by
  rw [show i + 1 - fr = (i - fr) + 1 by omega, List.range'_1_concat, List.flatMap_append, show fr + (i - fr) = i by omega]
  simp
theorem Ru {fr i q : Nat} (h : fr ≤ i) (hi : i < q) (f : Nat → List (List Nat)) {A : List (List Nat)} (hA : A <+: f i) : (List.range' fr (i - fr)).flatMap f ++ A <+: (List.range' fr (q - fr)).flatMap f := by
  obtain ⟨B, hB⟩ := hA
  have h1 : List.range' fr (q - fr) = List.range' fr (i + 1 - fr) ++ List.range' (i + 1) (q - (i + 1)) := by
    have := List.range'_append_1 (s := fr) (m := i + 1 - fr) (n := q - (i + 1))
    rw [show fr + (i + 1 - fr) = i + 1 by omega, show i + 1 - fr + (q - (i + 1)) = q - fr by omega] at this
    exact this.symm
  refine ⟨B ++ (List.range' (i + 1) (q - (i + 1))).flatMap f, ?_⟩
  rw [h1, List.flatMap_append, L3 h, ← hB]
  simp
theorem Ml (l : List Nat) (i : Nat) : Bg (l ++ [i]) = Bg l ++ [(i : Int)] := by unfold Bg; simp
theorem F9 (l : List Int) (i : Int) : As (l ++ [i]) = As l ++ [int i64 i] := by unfold As; simp
theorem Qj (lp R kB yB nB eB n k B d : Nat) (hk : k ≤ n) (hn : n ≤ 16) (hRB : R < B) (J Jx : List (Value × List Nat) → World → Prop) (hJ : Er J)
    (ls : List Nat) (hls : ls.length + (d + 1) = k)
    (hI : ∀ (i : Nat) (v' : Value) (pre : List (Value × List Nat)) (W : World), E4 ls ≤ i → i < n - d → ExtW R kB yB nB eB lp n k W → B ≤ W.heap.size → J pre W → W.ownsRow B 3 1 v' (ls.length + 1) (As (Bg (ls ++ [i]))) → Calls Tryz.prog 87 #[v', .pointer (some ⟨kB, 0, none⟩), .pointer (some ⟨yB, 0, none⟩), .pointer (some ⟨nB, 0, none⟩), .pointer (some ⟨eB, 0, none⟩)] W (ExtP n R J Jx pre (ext n d (ls ++ [i])) W))
    (ao : Option Addr) (c : Nat) (pre : List (Value × List Nat)) (W : World) (hW : ExtW R kB yB nB eB lp n k W) (hB : B ≤ W.heap.size) (hj : J pre W) (ho : W.ownsRow B 3 1 (.slice ao ls.length c) ls.length (As (Bg ls)))
    (e5 e8 e9 ea eb ec ed ee ef eg eh ei ej ek el em en eo ep eq er es et eu ev ew ex ey ez eA eC eD eE eF eG eH eI eJ : Value) :
    Code.wp Tryz.prog FC (bodyPost Tryz.prog Tryz.f87 (ExtP n R J Jx pre (ext n (d + 1) ls) W)) { tmps := #[.slice ao ls.length c, .pointer (some ⟨kB, 0, none⟩), .pointer (some ⟨yB, 0, none⟩), .pointer (some ⟨nB, 0, none⟩), .pointer (some ⟨eB, 0, none⟩), e5, .bool false, int i64 (E4 ls), e8, e9, ea, eb, ec, ed, ee, ef, eg, eh, ei, ej, ek, el, em, en, eo, ep, eq, er, es, et, eu, ev, ew, ex, ey, ez, eA, eC, eD, eE, eF, eG, eH, eI, eJ], defers := [] } W := by
  have hI2 : ∀ (i : Nat) (v' : Value) (pre : List (Value × List Nat)) (W : World), E4 ls ≤ i → i < n - d → ExtW R kB yB nB eB lp n k W → B ≤ W.heap.size → J pre W → W.ownsRow B 3 1 v' (ls.length + 1) (As (Bg ls) ++ [int i64 (i : Int)]) → Calls Tryz.prog 87 #[v', .pointer (some ⟨kB, 0, none⟩), .pointer (some ⟨yB, 0, none⟩), .pointer (some ⟨nB, 0, none⟩), .pointer (some ⟨eB, 0, none⟩)] W (fun e W' => ∃ b : Bool, e = .returned (.bool b) ∧ Hid (ExtP n R J Jx pre (ext n d (ls ++ [i])) W (.returned (.bool b)) W')) := by
    intro i v' pre W h1 h2 h3 h4 h5 h6
    rw [← F9, ← Ml] at h6
    refine (hI i v' pre W h1 h2 h3 h4 h5 h6).mono ?_
    intro e W' h
    have h' := h
    rcases h with ⟨rfl, _⟩ | ⟨rfl, _⟩
    · exact ⟨true, rfl, qh h'⟩
    · exact ⟨false, rfl, qh h'⟩
  have hlI := Ci ls
  have HJ := qh hJ; have HI := qh hI2; have HW := qh hW; have HO := qh ho; have HLI := qh hlI; have H0 := qh hj
  clear hJ hI hI2 hW ho hlI hj
  unfold FC JL
  conv => arg 2; whnf
  generalize hfr : E4 ls = fr at *
  generalize hlen : ls.length = len at *
  have HFR := qh hfr
  clear hfr hlen
  go_wp2_with fail
  go_loopw [8] (fun iv wr => ∃ (i : Nat) (xs : List (Value × List Nat)), iv = int i64 i ∧ fr ≤ i ∧ i - fr ≤ n - d - fr ∧ Hid (xs.map (·.2) = (List.range' fr (i - fr)).flatMap fun i => ext n d (ls ++ [i])) ∧ Hid (J (pre ++ xs) wr) ∧ Hid (ButOne R W wr)) (fun iv _ => fr + n + 1 - (intOf iv).toNat)
  case atStart => exact ⟨fr, [], rfl, qn _, by omega, qh (by simp), qh (by simpa using H0.out), qh (ButOne.of_below (Below.refl _ _))⟩
  case round =>
    obtain ⟨i, xs, rfl, hfi, hin, hxs, hjx, hbo⟩ := hrel
    have hB1 := hbo.out.size
    have hEW := HW.out.keep hbo.out
    have ck := A0 hEW.bk 0 rfl
    have cn := A0 hEW.bn 0 rfl
    have ce := A0 hEW.be 0 rfl
    have hle := (qs.1 hEW.be).1
    have HEW := qh hEW; have HE := qh ce
    by_cases hi : i < n - d
    · have hi' : (i : Int) ≤ (n : Int) - (k : Int) + (len : Int) := by omega
      have hown := QE HO.out hbo.out hRB
      have CLN : ∀ w', Below wr.heap.size wr w' → Calls Tryz.prog 48 #[.slice ao len c] w' (fun e w2 => ∃ v', e = .returned v' ∧ w2.ownsRow w'.heap.size 3 1 v' len (As (Bg ls)) ∧ Below w'.heap.size w' w2) := fun w' hw' => O7 _ _ _ HLI.out (by omega) _ _ (Cs hown hw')
      have HCLN := qh CLN
      obtain ⟨i3, hi3, hz3, hs3, hb3⟩ := Jb
      clear hown CLN hEW
      go_wp2_with fail
      have hS0 : Below wr.heap.size wr wr.drew := (Below.refl _ _).drew
      have hkeep : ∀ w2, Below wr.heap.size wr w2 → w2.cell? ⟨eB, 0, none⟩ = some (.func (.func 87) #[] #[.pointer (some ⟨kB, 0, none⟩), .pointer (some ⟨yB, 0, none⟩), .pointer (some ⟨nB, 0, none⟩), .pointer (some ⟨eB, 0, none⟩)]) := fun w2 h => (h.cell (p := ⟨eB, 0, none⟩) hle).trans HE.out
      have HK := qh hkeep
      clear hkeep
      have hene := HEW.out.ne.2.2.2
      go_region_held3 (fun w2 => w2.cell? ⟨eB, 0, none⟩ = some (.func (.func 87) #[] #[.pointer (some ⟨kB, 0, none⟩), .pointer (some ⟨yB, 0, none⟩), .pointer (some ⟨nB, 0, none⟩), .pointer (some ⟨eB, 0, none⟩)])) (first | assumption | exact HE.out | exact HK.out _ (hS0.alloc hS0.size _) | exact HK.out _ (hbw5.alloc hbw5.size _))
        (first
        | (go_at_call 48; refine (HCLN.out _ (hS0)).mono ?_; rintro e w5 ⟨v5, rfl, ho5, hb5⟩; have hbw5 : Below wr.heap.size wr w5 := Below.trans (hS0) (hb5.mono (Below.size (hS0))); have hc5 := HK.out _ hbw5; have ho5b := C2 (B := wr.heap.size) ho5 (Below.size (hS0)))
        | (go_at_call 48; refine (HCLN.out _ (hS0.alloc hS0.size _)).mono ?_; rintro e w5 ⟨v5, rfl, ho5, hb5⟩; have hbw5 : Below wr.heap.size wr w5 := Below.trans (hS0.alloc hS0.size _) (hb5.mono (Below.size (hS0.alloc hS0.size _))); have hc5 := HK.out _ hbw5; have ho5b := C2 (B := wr.heap.size) ho5 (Below.size (hS0.alloc hS0.size _)))
        | (rw [if_pos (by rfl)]
           refine wp_append_own _ _ _ 55 rfl wr.heap.size 3 i3 (int i64 0) 1 8 Tryz.underlying55 hi3 hz3 hs3 hb3 rfl (by decide) v5 len (As (Bg ls)) rfl (ho5b.alloc _) ⟨w5.heap.size, 0, none⟩ 1 1 [int i64 (i : Int)] rfl rfl (cell_one_new _ _ _) (by intro u hu; simp at hu; subst hu; rfl) (by simp only [maxLen]; omega) (by omega) (by have := Below.size hbw5; simp; omega) ?_
           intro v6 w6 ho6 hg6 _
           have hbw6 : Below wr.heap.size wr w6 := (hbw5.alloc hbw5.size _).grown hg6 (by have := hbw5.size; simp; omega) (DW ho5b)
           have hc6 := HK.out _ hbw6)
        | (rw [if_pos (by rfl)]
           refine wp_append_own _ _ _ 55 rfl wr.heap.size 3 i3 (int i64 0) 1 8 Tryz.underlying55 hi3 hz3 hs3 hb3 rfl (by decide) v5 len (As (Bg ls)) rfl (ho5b) ⟨wr.drew.heap.size, 0, none⟩ 1 1 [int i64 (i : Int)] rfl rfl (fun j u hj => (hb5.cell (by rw [Bj]; simp)).trans (cell_one_new _ _ _ j u hj)) (by intro u hu; simp at hu; subst hu; rfl) (by simp only [maxLen]; omega) (by omega) (Below.size hbw5) ?_
           intro v6 w6 ho6 hg6 _
           have hbw6 : Below wr.heap.size wr w6 := hbw5.grown hg6 hbw5.size (DW ho5b)
           have hc6 := HK.out _ hbw6)
        | (go_at_call 87; refine (HI.out i v6 (pre ++ xs) w6 hfi hi (HEW.out.keep (ButOne.of_below hbw6)) (by have := hbw6.size; omega) (HJ.out _ _ _ hjx.out hbw6) (C2 ho6 (by omega))).mono ?_; rintro e w7 ⟨b7, rfl, hx7⟩; have hc7 := (World.cell?_of_block (a := ⟨eB, 0, none⟩) (hx7.out.past eB hene (Nat.lt_of_lt_of_le hle hbw6.size))).trans hc6))
      all_goals
        have HX7 := hx7
        have HB6 := qh (hbo.out.trans (ButOne.of_below (hbw6.mono (qn _)) : ButOne R wr w6))
        clear hx7 hc7 hg6 hbw6 hc6 hbw5 hc5 hb5 ho5 ho5b ho6 hS0
        cases b7 with
        | false =>
          go_wp2_with fail
          go_ret
          rcases HX7.out with ⟨q, _⟩ | ⟨_, ys, hys, hjy, hpy⟩
          · cases q
          · refine Or.inr ⟨rfl, xs ++ ys, ?_, by rw [← List.append_assoc]; exact hjy, HB6.out.then_past hpy⟩
            rw [List.map_append, hxs.out]
            have := Ru hfi hi (fun i => ext n d (ls ++ [i])) hys
            rw [← HFR.out] at this ⊢
            exact this
        | true =>
          obtain ⟨ys, hys, hjy, hby⟩ : ∃ ys, ys.map (·.2) = ext n d (ls ++ [i]) ∧ J (pre ++ xs ++ ys) w7 ∧ ButOne R w6 w7 := by
            rcases HX7.out with ⟨_, ys, h⟩ | ⟨q, _⟩
            · exact ⟨ys, h⟩
            · cases q
          have H1 := qh hys; have H2 := qh hjy; have H3 := qh (HB6.out.trans hby)
          clear hys hjy hby HX7
          go_wp2_with fail
          go_roundw
          case rel => exact ⟨i + 1, xs ++ ys, by go_num, by omega, by omega, qh (by rw [List.map_append, hxs.out, H1.out, L3 hfi]), qh (by rw [← List.append_assoc]; exact H2.out), H3⟩
          case measure => simp [intOf]; omega
    · have hi' : ¬ (i : Int) ≤ (n : Int) - (k : Int) + (len : Int) := by omega
      have hii : i - fr = n - d - fr := by omega
      clear hEW
      go_wp2_with fail
      go_ret
      refine Or.inl ⟨rfl, xs, ?_, hjx.out, hbo.out⟩
      rw [hxs.out, hii, ← HFR.out]; rfl
end
section
open Go Go.RowKit Go.Deep
theorem QI {w : World} {B : Nat} {ao : Option Addr} {c : Nat} {r : List Nat} {a : Nat} (h : w.ownsRow B 3 1 (.slice ao (r.length + 1) c) (r.length + 1) (As (Bg (r ++ [a])))) : ∃ g, ao = some ⟨g, 0, none⟩ ∧ w.cell? ⟨g, r.length, none⟩ = some (int i64 (a : Int)) := by
 have hl : (Bg (r ++ [a])).length = r.length + 1 := by rw [Ci]; simp
 have hrow := Cp h hl
 rcases h.2 with ⟨e, h1⟩ | ⟨g, cap, cur, e, _⟩
 ·omega
 ·injection e with e1
  subst e1
  obtain ⟨b, o, e2, hc, _⟩ := hrow.int (j := r.length) (by omega)
  have e3 := Option.some.inj e2
  injection e3 with e4 e5
  subst e4 e5
  refine ⟨g, rfl, ?_⟩
  rw [Nat.zero_add] at hc
  rw [hc]
  unfold gi Bg
  simp
theorem Qk (lp R kB yB nB eB n k B d : Nat) (hk : k ≤ n) (hn : n ≤ 16) (hRB : R < B) (J Jx : List (Value × List Nat) → World → Prop) (hJ : Er J)
  (ls : List Nat) (hls : ls.length + (d + 1) = k) (hinc : Inc n ls)
  (hI : ∀ (i : Nat) (v' : Value) (pre : List (Value × List Nat)) (W : World), E4 ls ≤ i → i < n - d → ExtW R kB yB nB eB lp n k W → B ≤ W.heap.size → J pre W → W.ownsRow B 3 1 v' (ls.length + 1) (As (Bg (ls ++ [i]))) → Calls Tryz.prog 87 #[v', .pointer (some ⟨kB, 0, none⟩), .pointer (some ⟨yB, 0, none⟩), .pointer (some ⟨nB, 0, none⟩), .pointer (some ⟨eB, 0, none⟩)] W (ExtP n R J Jx pre (ext n d (ls ++ [i])) W))
  (v : Value) (pre : List (Value × List Nat)) (W : World) (hW : ExtW R kB yB nB eB lp n k W) (hB : B ≤ W.heap.size) (hj : J pre W) (ho : W.ownsRow B 3 1 v ls.length (As (Bg ls))) :
  Calls Tryz.prog 87 #[v, .pointer (some ⟨kB, 0, none⟩), .pointer (some ⟨yB, 0, none⟩), .pointer (some ⟨nB, 0, none⟩), .pointer (some ⟨eB, 0, none⟩)] W (ExtP n R J Jx pre (ext n (d + 1) ls) W) := by
 obtain ⟨ao, c, e, _⟩ := Cp ho (Ci ls)
 rw [Ci] at e
 subst e
 have hloop := Qj lp R kB yB nB eB n k B d hk hn hRB J Jx hJ ls hls hI ao c pre W hW hB hj ho
 have ck := A0 hW.bk 0 rfl
 rcases List.eq_nil_or_concat ls with rfl | ⟨r, a, rfl⟩
 ·have h0 : ((E4 [] : Nat) : Int) = 0 := rfl
  rw [h0] at hloop
  have hl : ([] : List Nat).length = 0 := rfl
  rw [hl] at hloop hls ⊢
  have hk0 : ((0 : Int) == (k : Int)) = false := by simp; omega
  have HL := qh hloop
  clear hloop hI ho hW hj hinc hJ h0 hl
  go_enter Tryz.func87, Tryz.ntmps87
  change Code.wp Tryz.prog (A8 4 JL FC) _ _ _
  conv => arg 2; whnf
  go_wp2_with fail
  conv => arg 2; whnf
  go_wp2_with fail
  conv => arg 2; whnf
  go_wp2_with fail
  conv => arg 2; whnf
  go_wp2_with fail
  exact HL.out _ _ _ _ _ _ _ _ _ _ _ _ _ _ _ _ _ _ _ _ _ _ _ _ _ _ _ _ _ _ _ _ _ _ _ _ _ _
 ·rw [List.concat_eq_append] at *
  have hlen : (r ++ [a]).length = r.length + 1 := by simp
  rw [hlen] at hls ho hloop ⊢
  obtain ⟨g, rfl, ca⟩ := QI ho
  have ha : a < n := hinc.2 a (by simp)
  rw [Ij] at hloop
  have hcast : ((a + 1 : Nat) : Int) = (a : Int) + 1 := by omega
  rw [hcast] at hloop
  have HL := qh hloop
  generalize r.length = m at *
  have hk0 : (((m : Int) + 1) == (k : Int)) = false := by simp; omega
  have hk1 : (((m + 1 : Nat) : Int) == (k : Int)) = false := by simp; omega
  clear hloop hI ho hW hj hinc hJ hlen
  go_enter Tryz.func87, Tryz.ntmps87
  change Code.wp Tryz.prog (A8 4 JL FC) _ _ _
  conv => arg 2; whnf
  go_wp2_with fail
  conv => arg 2; whnf
  go_wp2_with fail
  conv => arg 2; whnf
  go_wp2_with fail
  conv => arg 2; whnf
  go_wp2_with fail
  exact HL.out _ _ _ _ _ _ _ _ _ _ _ _ _ _ _ _ _ _ _ _ _ _ _ _ _ _ _ _ _ _ _ _ _ _ _ _ _ _
theorem Nx (lp R kB yB nB eB n k B : Nat) (hk : k ≤ n) (hn : n ≤ 16) (hRB : R < B) (J Jx : List (Value × List Nat) → World → Prop) (hJ : Er J)
  (hY : ∀ pre (x : Value × List Nat) W1, J pre W1 → GU B n k x W1 → ∀ m, YieldAt Fence.wide m Tryz.prog lp #[x.1] W1 (QA R J Jx pre x W1)) :
  ∀ (d : Nat) (ls : List Nat) (v : Value) (pre : List (Value × List Nat)) (W : World), ls.length + d = k → Inc n ls → ExtW R kB yB nB eB lp n k W → B ≤ W.heap.size → J pre W → W.ownsRow B 3 1 v ls.length (As (Bg ls)) →
   Calls Tryz.prog 87 #[v, .pointer (some ⟨kB, 0, none⟩), .pointer (some ⟨yB, 0, none⟩), .pointer (some ⟨nB, 0, none⟩), .pointer (some ⟨eB, 0, none⟩)] W (ExtP n R J Jx pre (ext n d ls) W)
 | 0, ls, v, pre, W, hls, hinc, hW, _, hj, ho => QK lp R kB yB nB eB n k B hk hn J Jx hY ls v pre W hls hinc hW hj ho
 | d + 1, ls, v, pre, W, hls, hinc, hW, hB, hj, ho => Qk lp R kB yB nB eB n k B d hk hn hRB J Jx hJ ls hls hinc (fun i v' pre W h1 h2 h3 h4 h5 h6 =>
   Nx lp R kB yB nB eB n k B hk hn hRB J Jx hJ hY d (ls ++ [i]) v' pre W (by simp; omega) (hinc.snoc h1 (by omega)) h3 h4 h5 (by rw [List.length_append]; exact h6)) v pre W hW hB hj ho
theorem Df (w : World) (x : Value) (t : TypeId) : ∃ w', w.alloc (.cells #[x] t) = w' ∧ w'.heap[w.heap.size]? = some (.cells #[x] t (0, 0)) ∧ Below w.heap.size w w' ∧ w'.heap.size = w.heap.size + 1 :=
 ⟨_, rfl, World.alloc_heap_new w _, (Below.refl _ w).alloc (qn _) _, by simp⟩
theorem Iv (P : Program) (w : World) (a : Addr) (m : Mode) (f : Fn) (cs bs : Array Value) : (store a (.func f cs bs) m).run P w = stored P w a (.func f cs bs) m := run_store P w a _ m rfl
attribute [local go_sem] Iv
theorem BG {w : World} {g : Nat} {x : Value} {t : TypeId} (h : w.heap[g]? = some (.cells #[x] t (0, 0))) (v : Value) : ∃ w', w.setCell ⟨g, 0, none⟩ v = w' ∧ w'.heap[g]? = some (.cells #[v] t (0, 0)) ∧ (∀ q, q ≠ g → w'.heap[q]? = w.heap[q]?) ∧ (∀ B w0, Below B w0 w → B ≤ g → Below B w0 w') ∧ w'.heap.size = w.heap.size := by
 refine ⟨_, rfl, ?_, fun q hq => Below.heap_setCell _ _ _ _ hq, fun B w0 hb hg => hb.setCell (p := ⟨g, 0, none⟩) hg v, ?_⟩
 ·simp only [World.setCell, Array.getElem?_modify, h, if_true, Option.map_some]
  simp
 ·simp [World.setCell]
theorem Lh (N kB nB n k : Nat) (hk : k ≤ n) (hn : n ≤ 16) (w : World) (hkB : w.heap[kB]? = some (.cells #[int i64 k] 3 (0, 0))) (hnB : w.heap[nB]? = some (.cells #[int i64 n] 3 (0, 0))) :
  JD Fence.wide N Tryz.prog 86 #[.pointer (some ⟨kB, 0, none⟩), .pointer (some ⟨nB, 0, none⟩)] (fun x : Value × List Nat => #[x.1]) (GU w.heap.size n k) (fun xs => xs.map (·.2) = ext n k []) (fun xs => xs.map (·.2) <+: ext n k []) w := by
 intro l R J Jx W hb hR1 hR2 hJ hY h0
 have hkl := (qs.1 hkB).1
 have hnl := (qs.1 hnB).1
 have hkW := (hb.block _ hkl).trans hkB
 have hnW := (hb.block _ hnl).trans hnB
 obtain ⟨W1, e1, g1, b1, s1⟩ := Df W (.func (.yield l) #[] #[]) 102
 obtain ⟨W2, e2, g2, b2, s2⟩ := Df W1 .nilFunc 102
 obtain ⟨W3, e3, g3, o3, b3, s3⟩ := BG g2 (.func (.func 87) #[] #[.pointer (some ⟨kB, 0, none⟩), .pointer (some ⟨W.heap.size, 0, none⟩), .pointer (some ⟨nB, 0, none⟩), .pointer (some ⟨W1.heap.size, 0, none⟩)])
 have hb3 : Below W.heap.size W W3 := b3 _ _ (b1.trans (b2.mono (by omega))) (by omega)
 have hE : ExtW R kB W.heap.size nB W1.heap.size l n k W3 := ⟨(hb3.block _ (by have := hb.size; omega)).trans hkW, (o3 _ (by omega)).trans ((b2.block _ (by omega)).trans g1), (hb3.block _ (by have := hb.size; omega)).trans hnW, g3, by omega, by omega, by omega, by omega⟩
 have hany := Nx l R kB W.heap.size nB W1.heap.size n k W.heap.size hk hn hR2 J Jx hJ (fun pre x W1 hj hG m => YieldAt.anyDepth rfl m (hY pre x W1 hj ⟨hG.1, hG.2.1, hG.2.2.1, fun g hg => Nat.le_trans hb.size (hG.2.2.2 g hg)⟩)) k [] (.slice none 0 0) [] W3 (by simp) RZ hE hb3.size (hJ _ _ _ h0 hb3) (World.ownsRow_nil _ _ _ _)
 rw [s1] at hany
 have HA := qh hany
 have c2 : W2.cell? ⟨W1.heap.size, 0, none⟩ = some .nilFunc := A0 g2 0 rfl
 have f2 : W2.frozen? ⟨W1.heap.size, 0, none⟩ = false := by simp [World.frozen?, g2]
 have c3 := A0 g3 0 rfl
 rw [s1] at c2 f2 c3 e3
 have HC3 := qh c3
 clear hany hE hY hb hkB hnB hkW hnW o3 b3 b1 b2 hb3 h0
 refine callsIn_wide.2 ?_
 show Calls Tryz.prog 86 #[.func (.yield l) #[] #[], .pointer (some ⟨kB, 0, none⟩), .pointer (some ⟨nB, 0, none⟩)] W _
 go_enter Tryz.func86, Tryz.ntmps86
 go_wp2_with fail
 refine HA.out.mono ?_
 rintro e W' (⟨rfl, xs, hxs, hjx, _⟩ | ⟨rfl, xs, hxs, hjx, _⟩)
 ·have H1 := qh hxs; have H2 := qh hjx
  clear hxs hjx HA
  go_wp2_with fail
  go_end0
  exact ⟨⟨_, rfl⟩, Or.inl ⟨xs, H1.out, H2.out⟩⟩
 ·have H1 := qh hxs; have H2 := qh hjx
  clear hxs hjx HA
  go_wp2_with fail
  go_end0
  exact ⟨⟨_, rfl⟩, Or.inr ⟨xs, H1.out, H2.out⟩⟩
theorem OK (n k : Int) (w : World) : Calls Tryz.prog 56 #[int i64 n, int i64 k] w fun e w' => e = .returned (.func (.func 86) #[] #[.pointer (some ⟨w.heap.size + 1, 0, none⟩), .pointer (some ⟨w.heap.size, 0, none⟩)]) ∧ w'.heap[w.heap.size]? = some (.cells #[int i64 n] 3 (0, 0)) ∧ w'.heap[w.heap.size + 1]? = some (.cells #[int i64 k] 3 (0, 0)) ∧ Below w.heap.size w w' ∧ w'.heap.size = w.heap.size + 2 := by
 obtain ⟨W1, e1, g1, b1, s1⟩ := Df w (int i64 n) 3
 obtain ⟨W2, e2, g2, b2, s2⟩ := Df W1 (int i64 k) 3
 rw [s1] at g2 b2
 have G1 := qh ((b2.block _ (by omega)).trans g1); have G2 := qh g2; have HB := qh (b1.trans (b2.mono (by omega))); have S2 := qh (show W2.heap.size = w.heap.size + 2 by omega)
 clear g1 g2 b1 b2 s2
 go_enter Tryz.func56, Tryz.ntmps56
 go_wp2_with fail
 go_ret
 exact ⟨rfl, G1.out, G2.out, HB.out, S2.out⟩
end
section
open Go Go.RowKit Go.Deep
noncomputable def H7 : Code := (Tryz.f27.body).getD .skip
def F7 : Code → Option (Code × Code)
 | .rangeFunc _ _ a b => some (a, b)
 | .seq a b => (F7 a).or (F7 b)
 | .block _ c => F7 c
 | .loop c => F7 c
 | .cond _ a b => (F7 a).or (F7 b)
 | _ => none
noncomputable def body33 : Code := ((F7 H7).getD (.skip, .skip)).2
def IE (c : Nat → Nat → Int) (l : List Nat) (j : Nat) : Nat := ((List.range j).filter fun j => l.any fun i => decide (0 ≤ c i j)).length
theorem O8 (c : Nat → Nat → Int) (l : List Nat) (j : Nat) : IE c l (j + 1) = IE c l j + if l.any (fun i => decide (0 ≤ c i j)) then 1 else 0 := by
 unfold IE
 rw [List.range_succ, List.filter_append, List.length_append]
 congr 1
 by_cases h : l.any (fun i => decide (0 ≤ c i j)) = true
 ·rw [if_pos h, List.filter_cons_of_pos (by simpa using h)]; rfl
 ·rw [if_neg h, List.filter_cons_of_neg (by simpa using h)]; rfl
theorem Ro (c : Nat → Nat → Int) (l : List Nat) (j : Nat) : IE c l j ≤ j := by
 unfold IE
 exact Nat.le_trans (List.length_filter_le _ _) (by rw [List.length_range]; exact qn _)
theorem NM (cost : List (List Int)) (j : Nat) (l : List Nat) : (Bg l).any (Kr cost j) = l.any fun i => decide (0 ≤ cI cost i j) := by
 unfold Bg
 rw [List.any_map]
 congr 1
theorem Eb {W W' : World} (h : Below W.heap.size W W') : KeepsOthers W W' := ⟨h.size, fun k o hk _ => (h.block k (qs.1 hk).1).trans hk⟩
section
attribute [local go_sem] Oper.semAt_some
theorem Of (lr nn : Nat) (hnn : 4 ≤ nn) (cost : List (List Int)) (n m k : Nat) (hl : cost.length = n) (hrl : ∀ r ∈ cost, r.length = m) (hw : AS cost = m) (hn : n ≤ 16) (hm : m ≤ 16) (aoC : Option Addr) (ccC kC B2 B3 B4 kB : Nat) (l : List Nat) (hlk : l.length = k) (hkn : k ≤ n) (hln : ∀ i ∈ l, i < n) (v : Value)
  (W : World) (hM : IsMat W (.slice aoC n ccC) cost) (hC : W.cell? ⟨kC, 0, none⟩ = some (.slice aoC n ccC)) (hkC : kC < W.heap.size) (hK : W.cell? ⟨kB, 0, none⟩ = some (int i64 k)) (hkB : kB < W.heap.size) (hV : IsRow AX 1 W v (Bg l))
  (x2 x3 x4 : Value) (h2 : W.heap[B2]? = some (.cells #[x2] 55 (0, 0))) (h3 : W.heap[B3]? = some (.cells #[x3] 4 (0, 0))) (h4 : W.heap[B4]? = some (.cells #[x4] 41 (0, 0))) (hne : B2 ≠ B3 ∧ B2 ≠ B4 ∧ B3 ≠ B4)
  (e0 e7 e8 e9 ea eb ec ed ee ef eg eh ei ej ek el em en eo ep eq er es et eu ew ex ey ez eA eB eC eD eE eF : Value) (Q : Exit → Act → World → Prop)
  (hN : E1 (cI cost) m l = false → ∀ a W', Below W.heap.size W W' → Q .normal a W')
  (hR : E1 (cI cost) m l = true → ∀ a W' W'', Below W.heap.size W W' → W'' = ((W'.setCell ⟨B2, 0, none⟩ v).setCell ⟨B3, 0, none⟩ (.bool true)).setCell ⟨B4, 0, none⟩ (int i64 0) → Q .ret a W'') :
  body33.wpIn (Fence.wide.inRound lr) nn Tryz.prog Q { tmps := #[e0, .pointer (some ⟨kC, 0, none⟩), .pointer (some ⟨B2, 0, none⟩), .pointer (some ⟨B3, 0, none⟩), .pointer (some ⟨B4, 0, none⟩), .pointer (some ⟨kB, 0, none⟩), v, e7, e8, e9, ea, eb, ec, ed, ee, ef, eg, eh, ei, ej, ek, el, em, en, eo, ep, eq, er, es, et, eu, ew, ex, ey, ez, eA, eB, eC, eD, eE, eF], defers := [] } W := by
 have hfew : E1 (cI cost) m l = decide (IE (cI cost) l m < k) := by unfold E1 Sd IE; rw [hlk]
 have hwd := D1 W hM
 rw [hw] at hwd
 have hV2 := hV
 obtain ⟨ao, c, ev, _⟩ := hV
 rw [Ci, hlk] at ev
 subst ev
 have HWD := qh hwd; have HM := qh hM; have HV := qh hV2; have HN := qh hN; have HR := qh hR; have HF := qh hfew; have HL := qh hl; have HRL := qh hrl; have HLN := qh hln; have HC := qh hC; have HK := qh hK; have H2 := qh h2; have H3 := qh h3; have H4 := qh h4; have HLK := qh hlk
 clear hwd hM hV2 hN hR hfew hl hrl hln hK h2 h3 h4 hlk hw
 unfold body33 H7
 conv => arg 4; whnf
 gi_wp2_with fail
 refine ⟨trivial, fun _ => by omega, ?_⟩
 refine (callsIn_wide.2 HWD.out).mono ?_
 rintro e w2 ⟨rfl, hw2⟩
 rw [hw2]
 clear hw2 w2 HWD
 gi_wp2_with fail
 gi_loopw [7, 27] (fun mv jv wr => ∃ j : Nat, jv = int i64 j ∧ j ≤ m ∧ mv = int i64 (IE (cI cost) l j) ∧ Hid (Below W.heap.size W wr)) (fun _ jv _ => m - (intOf jv).toNat)
 case atStart => exact ⟨0, rfl, Nat.zero_le _, rfl, qh (Below.refl _ _)⟩
 case round =>
  obtain ⟨j, rfl, hjm, rfl, hB⟩ := hrel
  have hcle := Ro (cI cost) l j
  by_cases hj : j < m
  ·have hj' : (j : Int) < (m : Int) := by omega
   obtain ⟨V1, e1, g1, b1, s1⟩ := Df wr (int i64 0) 3
   obtain ⟨V2, e2, g2, o2, b2, s2⟩ := BG g1 (int i64 j)
   have hsz := hB.out.size
   have hb2 : Below W.heap.size W V2 := b2 _ _ (hB.out.trans (b1.mono hsz)) hsz
   have c1 : V1.cell? ⟨wr.heap.size, 0, none⟩ = some (int i64 0) := A0 g1 0 rfl
   have f1 : V1.frozen? ⟨wr.heap.size, 0, none⟩ = false := by simp [World.frozen?, g1]
   have h8 : V2.cell? ⟨wr.heap.size, 0, none⟩ = some (int i64 j) := A0 g2 0 rfl
   have hcon := Dt (Kr cost j) 57 #[.pointer (some ⟨kC, 0, none⟩), .pointer (some ⟨wr.heap.size, 0, none⟩)] (enters_of Tryz.func57 (by kernel_rfl) rfl) (Bg l) k (by rw [Ci, HLK.out]) ao c V2 (HV.out.below hb2 (qn _)) (fun x hx W' hW' => by
    obtain ⟨i, hi, rfl⟩ : ∃ i, i ∈ l ∧ (i : Int) = x := by
     unfold Bg at hx
     obtain ⟨i, h1, h2⟩ := List.mem_map.1 hx
     exact ⟨i, h1, h2⟩
    have hz := Nat.lt_of_lt_of_le hkC hb2.size
    have hbw : Below W.heap.size W W' := hb2.trans (hW'.mono hb2.size)
    refine (Pn cost n m i j HL.out HRL.out hn hm (HLN.out i hi) hj aoC ccC kC wr.heap.size W' (HM.out.below hbw (qn _)) ((hbw.cell (p := ⟨kC, 0, none⟩) hkC).trans HC.out) ((hW'.cell (p := ⟨wr.heap.size, 0, none⟩) (by show wr.heap.size < V2.heap.size; omega)).trans h8)).mono ?_
    exact fun _ _ h => h)
   rw [NM] at hcon
   have cC := (hB.out.cell (p := ⟨kC, 0, none⟩) hkC).trans HC.out
   have hsucc := O8 (cI cost) l j
   have HCON := qh hcon; have HB2 := qh hb2; have HS := qh hsucc
   clear hcon hb2 g2 o2 b2 s2 b1 g1 s1 h8 hsucc hB
   generalize (l.any fun i => decide (0 ≤ cI cost i j)) = bb at *
   generalize IE (cI cost) l j = q at *
   gi_wp2_with fail
   refine ⟨trivial, fun _ => by omega, ?_⟩
   refine (callsIn_wide.2 HCON.out).mono ?_
   rintro e w9 ⟨rfl, hb9⟩
   have HB9 := qh (HB2.out.trans (hb9.mono HB2.out.size))
   clear hb9 HCON HB2 e1 e2 c1 f1
   cases bb with
   | true =>
    gi_wp2_with fail
    go_roundw
    case rel => exact ⟨j + 1, by go_num, by omega, by rw [HS.out]; simp, HB9⟩
    case measure => simp [intOf]; omega
   | false =>
    gi_wp2_with fail
    go_roundw
    case rel => exact ⟨j + 1, by go_num, by omega, by rw [HS.out]; simp, HB9⟩
    case measure => simp [intOf]; omega
  ·obtain rfl : j = m := by omega
   have hj' : ¬ (j : Int) < (j : Int) := by omega
   have cK := (hB.out.cell (p := ⟨kB, 0, none⟩) hkB).trans HK.out
   have l2 := (qs.1 H2.out).1
   have l3 := (qs.1 H3.out).1
   have l4 := (qs.1 H4.out).1
   have g2 := (hB.out.block _ l2).trans H2.out
   have g3 := (hB.out.block _ l3).trans H3.out
   have g4 := (hB.out.block _ l4).trans H4.out
   have HFF := HF.out
   clear HF HM HV HLN HL HRL HC H2 H3 H4
   generalize IE (cI cost) l j = q at *
   by_cases hqk : q < k
   ·have hqk' : (q : Int) < (k : Int) := by omega
    have hfew : E1 (cI cost) j l = true := by rw [HFF]; simpa using hqk
    obtain ⟨V1, e1, a2, o1, _, _⟩ := BG g2 (.slice ao k c)
    have a3 := (o1 B3 (by omega)).trans g3
    have a4 := (o1 B4 (by omega)).trans g4
    obtain ⟨V2, e2, b3, o2, _, _⟩ := BG a3 (.bool true)
    have b4 := (o2 B4 (by omega)).trans a4
    have c2 : wr.cell? ⟨B2, 0, none⟩ = some x2 := A0 g2 0 rfl
    have f2 : wr.frozen? ⟨B2, 0, none⟩ = false := by simp [World.frozen?, g2]
    have c3 : V1.cell? ⟨B3, 0, none⟩ = some x3 := A0 a3 0 rfl
    have f3 : V1.frozen? ⟨B3, 0, none⟩ = false := by simp [World.frozen?, a3]
    have c4 : V2.cell? ⟨B4, 0, none⟩ = some x4 := A0 b4 0 rfl
    have f4 : V2.frozen? ⟨B4, 0, none⟩ = false := by simp [World.frozen?, b4]
    have hans := fun a => HR.out hfew a wr _ hB.out rfl
    rw [e1, e2] at hans
    have HANS := qh hans
    clear hans hfew HR HN HFF g2 g3 g4 a2 a3 a4 b3 b4 o1 o2 hB
    gi_wp2_with fail
    exact HANS.out _
   ·have hqk' : ¬ (q : Int) < (k : Int) := by omega
    have hfew : E1 (cI cost) j l = false := by rw [HFF]; simpa using hqk
    have hans := fun a => HN.out hfew a wr hB.out
    have HANS := qh hans
    clear hans hfew HR HN HFF g2 g3 g4 hB
    gi_wp2_with fail
    exact HANS.out _
end
end
section
open Go Go.RowKit Go.Deep
noncomputable def part33n2 : Code := Ag 2 H7
def Nh (cost : List (List Int)) (w : World) (e : Ending) (w' : World) : Prop :=
  Below w.heap.size w w' ∧
  ((Ak cost ≠ 0 ∧ e = .returned (.tuple #[.slice none 0 0, .bool false, int i64 (Ak cost)])) ∨
   (Ak cost = 0 ∧ Fx (cI cost) cost.length (AS cost) = none ∧ e = .returned (.tuple #[.slice none 0 0, .bool false, int i64 0])) ∨
   (Ak cost = 0 ∧ ∃ (v : Value) (l : List Nat), Fx (cI cost) cost.length (AS cost) = some l ∧ e = .returned (.tuple #[v, .bool true, int i64 0]) ∧ IsRow AX 1 w' v (Bg l)))
theorem Kf (tmps : Array Value) (w : World) (p2 p3 p4 : Addr) (x y z : Value) (h2 : tmps.getD 2 undef = .pointer (some p2)) (h3 : tmps.getD 3 undef = .pointer (some p3)) (h4 : tmps.getD 4 undef = .pointer (some p4)) (c2 : w.cell? p2 = some x) (c3 : w.cell? p3 = some y) (c4 : w.cell? p4 = some z) :
    (results Tryz.f27 tmps).run Tryz.prog w = .ok (.tuple #[x, y, z]) w := by
  have h2' : tmps[2]?.getD undef = .pointer (some p2) := by simpa using h2
  have h3' : tmps[3]?.getD undef = .pointer (some p3) := by simpa using h3
  have h4' : tmps[4]?.getD undef = .pointer (some p4) := by simpa using h4
  simp [results, h2', h3', h4', c2, c3, c4, go_sem]
theorem Gs {w w' : World} {v : Value} {xs : List Int} {row : Option Nat} (h : IsRow AX 1 w v xs) (hg : w.grownBy w' row) (hr : ∀ r, row = some r → ∃ o : Obj, w.heap[r]? = some o ∧ o.isCells = false) : IsRow AX 1 w' v xs := by
  obtain ⟨ao, c, e, hl, h⟩ := h
  refine ⟨ao, c, e, hl, ?_⟩
  rcases h with h | ⟨b, o, e2, ha, hlt⟩
  · exact Or.inl h
  · cases xs with
    | nil => exact Or.inl rfl
    | cons x xs =>
      have h0 := ha 0 x rfl 0 _ rfl
      have hb : w'.heap[b]? = w.heap[b]? := hg.block b hlt (fun e => by
        obtain ⟨ob, ho, hc⟩ := hr b e.symm
        unfold World.cell? at h0
        rw [show (⟨b, o + 0 * 1 + 0, none⟩ : Addr).block = b from rfl, ho] at h0
        cases ob <;> simp_all [Obj.isCells])
      refine Or.inr ⟨b, o, e2, fun i y hy j u hu => ?_, Nat.lt_of_lt_of_le hlt hg.size⟩
      rw [World.cell?_of_block (a := ⟨b, o + i * 1 + j, none⟩) hb]
      exact ha i y hy j u hu
theorem Mn {Ds : List Nat} {w : World} {v : Value} {xs : List Int} (h : IsRow AX 1 w v xs) (hD : DS Ds w) : IsRow AX 1 (Bo Ds w) v xs := by
  obtain ⟨ao, c, e, hl, h⟩ := h
  refine ⟨ao, c, e, hl, ?_⟩
  rcases h with h | ⟨b, o, e2, ha, hlt⟩
  · exact Or.inl h
  · cases xs with
    | nil => exact Or.inl rfl
    | cons x xs =>
      have h0 := ha 0 x rfl 0 _ rfl
      have hb : (Bo Ds w).heap[b]? = w.heap[b]? := DR Ds w b fun hm => by
        have := hD.2 b hm
        unfold World.cell? at h0
        rw [show (⟨b, o + 0 * 1 + 0, none⟩ : Addr).block = b from rfl, this] at h0
        cases h0
      refine Or.inr ⟨b, o, e2, fun i y hy j u hu => ?_, by rw [Gh]; exact hlt⟩
      rw [World.cell?_of_block (a := ⟨b, o + i * 1 + j, none⟩) hb]
      exact ha i y hy j u hu
structure DenyEnd (c : Nat → Nat → Int) (m B2 B3 B4 : Nat) (W1 : World) (xs : List (Value × List Nat)) (V : World) : Prop where
  found : ∃ A x, xs = A ++ [x] ∧ (A.map (·.2)).find? (E1 c m) = none ∧ E1 c m x.2 = true ∧ V.heap[B2]? = some (.cells #[x.1] 55 (0, 0)) ∧ IsRow AX 1 V x.1 (Bg x.2)
  b3 : V.heap[B3]? = some (.cells #[.bool true] 4 (0, 0))
  b4 : V.heap[B4]? = some (.cells #[int i64 0] 41 (0, 0))
  os : V.os = W1.os
  tape : V.tape = W1.tape
  output : V.output = W1.output
  size : W1.heap.size ≤ V.heap.size
  block : ∀ b, b < W1.heap.size → b ≠ B2 → b ≠ B3 → b ≠ B4 → V.heap[b]? = W1.heap[b]?
theorem DenyEnd.own (c : Nat → Nat → Int) (m B2 B3 B4 : Nat) (W1 : World) (h2 : B2 < W1.heap.size) (h3 : B3 < W1.heap.size) (h4 : B4 < W1.heap.size) : OwnFrom W1.heap.size (DenyEnd c m B2 B3 B4 W1) := by
  intro xs W W' row h hg hr
  have hb : ∀ b, b < W1.heap.size → W'.heap[b]? = W.heap[b]? := fun b hb => hg.block b (Nat.lt_of_lt_of_le hb h.size) (fun e => by have := (hr b e.symm).1; omega)
  obtain ⟨A, x, e1, e2, e3, e4, e5⟩ := h.found
  exact ⟨⟨A, x, e1, e2, e3, (hb _ h2).trans e4, Gs e5 hg fun r e => (hr r e).2⟩, (hb _ h3).trans h.b3, (hb _ h4).trans h.b4, hg.os.trans h.os, hg.tape.trans h.tape, hg.output.trans h.output, Nat.le_trans h.size hg.size, fun b h1 q2 q3 q4 => (hb b h1).trans (h.block b h1 q2 q3 q4)⟩
theorem DenyEnd.make (c : Nat → Nat → Int) (m B2 B3 B4 : Nat) (W1 V W' W'' : World) (xs : List (Value × List Nat)) (A : List (Value × List Nat)) (x : Value × List Nat) (he : xs = A ++ [x]) (hA : (A.map (·.2)).find? (E1 c m) = none) (hx : E1 c m x.2 = true) (hne : B2 ≠ B3 ∧ B2 ≠ B4 ∧ B3 ≠ B4) (hV : Below W1.heap.size W1 V) (hW : Below V.heap.size V W') (hr : IsRow AX 1 V x.1 (Bg x.2))
    (x2 x3 x4 : Value) (g2 : W1.heap[B2]? = some (.cells #[x2] 55 (0, 0))) (g3 : W1.heap[B3]? = some (.cells #[x3] 4 (0, 0))) (g4 : W1.heap[B4]? = some (.cells #[x4] 41 (0, 0)))
    (hrb : ∀ g, x.1.ownBlock = some g → W1.heap.size ≤ g)
    (hs : W'' = ((W'.setCell ⟨B2, 0, none⟩ x.1).setCell ⟨B3, 0, none⟩ (.bool true)).setCell ⟨B4, 0, none⟩ (int i64 0)) :
    DenyEnd c m B2 B3 B4 W1 xs W'' ∧ KeepsOthers V W'' ∧ ∀ b, W1.heap.size ≤ b → b < V.heap.size → W''.heap[b]? = V.heap[b]? := by
  have l2 := (qs.1 g2).1
  have l3 := (qs.1 g3).1
  have l4 := (qs.1 g4).1
  have hVW : Below W1.heap.size W1 W' := hV.trans (hW.mono hV.size)
  have q2 := (hVW.block _ l2).trans g2
  have q3 := (hVW.block _ l3).trans g3
  have q4 := (hVW.block _ l4).trans g4
  obtain ⟨V1, e1, a2, o1, _, s1⟩ := BG q2 x.1
  have a3 := (o1 B3 (by omega)).trans q3
  have a4 := (o1 B4 (by omega)).trans q4
  obtain ⟨V2, e2, b3, o2, _, s2⟩ := BG a3 (.bool true)
  have b2 := (o2 B2 (by omega)).trans a2
  have b4 := (o2 B4 (by omega)).trans a4
  obtain ⟨V3, e3, c4, o3, _, s3⟩ := BG b4 (int i64 0)
  have c2 := (o3 B2 (by omega)).trans b2
  have c3 := (o3 B3 (by omega)).trans b3
  have hK1 : KeepsOthers W' V1 := by rw [← e1]; exact KeepsOthers.setCell _ _ _
  have hK2 : KeepsOthers V1 V2 := by rw [← e2]; exact KeepsOthers.setCell _ _ _
  have hK3 : KeepsOthers V2 V3 := by rw [← e3]; exact KeepsOthers.setCell _ _ _
  have hos : V3.os = W'.os ∧ V3.tape = W'.tape ∧ V3.output = W'.output := by rw [← e3, ← e2, ← e1]; exact ⟨rfl, rfl, rfl⟩
  have hoth : ∀ b, b ≠ B2 → b ≠ B3 → b ≠ B4 → V3.heap[b]? = W'.heap[b]? := fun b h2 h3 h4 => (o3 b h4).trans ((o2 b h3).trans (o1 b h2))
  rw [e1, e2, e3] at hs
  subst hs
  have hsz := hV.size
  have hszW := hW.size
  refine ⟨⟨⟨A, x, he, hA, hx, c2, ?_⟩, c3, c4, hos.1.trans hVW.os, hos.2.1.trans hVW.tape, hos.2.2.trans hVW.output, ?_, fun b hb h2 h3 h4 => (hoth b h2 h3 h4).trans (hVW.block b hb)⟩, ((Eb hW).trans hK1).trans (hK2.trans hK3), fun b hb1 hb2 => (hoth b (by omega) (by omega) (by omega)).trans (hW.block b hb2)⟩
  · have hr2 := hr.below hW (qn _)
    obtain ⟨ao, cc, e, hl, h⟩ := hr2
    refine ⟨ao, cc, e, hl, ?_⟩
    rcases h with h | ⟨b, o, ea, ha, hlt⟩
    · exact Or.inl h
    · have hbg : W1.heap.size ≤ b := hrb b (by rw [e, ea]; rfl)
      have hbb := hoth b (by omega) (by omega) (by omega)
      refine Or.inr ⟨b, o, ea, fun i y hy j u hu => ?_, by omega⟩
      rw [World.cell?_of_block (a := ⟨b, o + i * 1 + j, none⟩) hbb]
      exact ha i y hy j u hu
  · have := hVW.size; omega
end
section
open Go Go.RowKit Go.Deep
def Mg (n : Nat) (a : Act) (w : World) : Nat := n + 2 - (match a.tmps.getD 5 undef with | .pointer (some p) => (match w.cell? p with | some (.int _ k) => k.toNat | _ => 0) | _ => 0)
theorem Jh {n k kB : Nat} {a : Act} {w : World} (h1 : a.tmps.getD 5 undef = .pointer (some ⟨kB, 0, none⟩)) (h2 : w.heap[kB]? = some (.cells #[int i64 k] 3 (0, 0))) : Mg n a w = n + 2 - k := by
 have h3 : w.cell? ⟨kB, 0, none⟩ = some (int i64 k) := A0 h2 0 rfl
 unfold Mg
 rw [h1]
 simp only [h3, Int.toNat_natCast]
structure DenyS (c : Nat → Nat → Int) (n m : Nat) (Z : World) (k kB : Nat) (Ds : List Nat) (W : World) : Prop where
 below : Below Z.heap.size Z W
 marks : DS Ds W
 far : ∀ D ∈ Ds, Z.heap.size ≤ D
 box : W.heap[kB]? = some (.cells #[int i64 k] 3 (0, 0))
 kfar : Z.heap.size ≤ kB
 none_ : ((List.range (k - 1)).flatMap fun k => ext n (k + 1) []).find? (E1 c m) = none
theorem DenyS.keep {c : Nat → Nat → Int} {n m : Nat} {Z : World} {k kB : Nat} {Ds : List Nat} {W W' : World} (h : DenyS c n m Z k kB Ds W) (hb : Below W.heap.size W W') : DenyS c n m Z k kB Ds W' :=
 ⟨h.below.trans (hb.mono h.below.size), ⟨h.marks.1, fun D hD => (hb.block _ (qs.1 (h.marks.2 D hD)).1).trans (h.marks.2 D hD)⟩, h.far, (hb.block _ (qs.1 h.box).1).trans h.box, h.kfar, h.none_⟩
theorem JA {W : World} {B2 B3 B4 : Nat} {x2 x3 x4 : Value} (y2 y3 y4 : Value) (h2 : W.heap[B2]? = some (.cells #[x2] 55 (0, 0))) (h3 : W.heap[B3]? = some (.cells #[x3] 4 (0, 0))) (h4 : W.heap[B4]? = some (.cells #[x4] 41 (0, 0))) (hne : B2 ≠ B3 ∧ B2 ≠ B4 ∧ B3 ≠ B4) :
  ∃ V1 V2 V3, W.setCell ⟨B2, 0, none⟩ y2 = V1 ∧ V1.setCell ⟨B3, 0, none⟩ y3 = V2 ∧ V2.setCell ⟨B4, 0, none⟩ y4 = V3 ∧ (W.cell? ⟨B2, 0, none⟩ = some x2 ∧ W.frozen? ⟨B2, 0, none⟩ = false) ∧ (V1.cell? ⟨B3, 0, none⟩ = some x3 ∧ V1.frozen? ⟨B3, 0, none⟩ = false) ∧ (V2.cell? ⟨B4, 0, none⟩ = some x4 ∧ V2.frozen? ⟨B4, 0, none⟩ = false) ∧
   Hid ((V3.heap[B2]? = some (.cells #[y2] 55 (0, 0)) ∧ V3.heap[B3]? = some (.cells #[y3] 4 (0, 0)) ∧ V3.heap[B4]? = some (.cells #[y4] 41 (0, 0))) ∧ (∀ b, b ≠ B2 → b ≠ B3 → b ≠ B4 → V3.heap[b]? = W.heap[b]?) ∧ ∀ B w0, Below B w0 W → B ≤ B2 → B ≤ B3 → B ≤ B4 → Below B w0 V3) := by
 obtain ⟨V1, e1, a2, o1, b1, s1⟩ := BG h2 y2
 have a3 := (o1 B3 (by omega)).trans h3
 have a4 := (o1 B4 (by omega)).trans h4
 obtain ⟨V2, e2, b3, o2, d2, s2⟩ := BG a3 y3
 have b2 := (o2 B2 (by omega)).trans a2
 have b4 := (o2 B4 (by omega)).trans a4
 obtain ⟨V3, e3, c4, o3, d3, s3⟩ := BG b4 y4
 refine ⟨V1, V2, V3, e1, e2, e3, ⟨A0 h2 0 rfl, by simp [World.frozen?, h2]⟩, ⟨A0 a3 0 rfl, by simp [World.frozen?, a3]⟩, ⟨A0 b4 0 rfl, by simp [World.frozen?, b4]⟩, qh ⟨⟨(o3 B2 (by omega)).trans b2, (o3 B3 (by omega)).trans b3, c4⟩, fun b q2 q3 q4 => (o3 b q4).trans ((o2 b q3).trans (o1 b q2)), fun B w0 hb q2 q3 q4 => d3 _ _ (d2 _ _ (b1 _ _ hb q2) q3) q4⟩⟩
theorem F6 {cost : List (List Int)} {w0 V : World} {Ds : List Nat} {tmps : Array Value} {B2 B3 B4 : Nat} {y2 y3 y4 : Value} (hD : DS Ds V) (t2 : tmps.getD 2 undef = .pointer (some ⟨B2, 0, none⟩)) (t3 : tmps.getD 3 undef = .pointer (some ⟨B3, 0, none⟩)) (t4 : tmps.getD 4 undef = .pointer (some ⟨B4, 0, none⟩))
  (h2 : V.heap[B2]? = some (.cells #[y2] 55 (0, 0))) (h3 : V.heap[B3]? = some (.cells #[y3] 4 (0, 0))) (h4 : V.heap[B4]? = some (.cells #[y4] 41 (0, 0))) (hP : Nh cost w0 (.returned (.tuple #[y2, y3, y4])) (Bo Ds V)) :
  LeavesInM Fence.wide 20 Tryz.prog Tryz.f27 tmps (Nh cost w0) (GL Ds) .returning V := by
 refine Fi Ds V hD ⟨_, Kf tmps _ _ _ _ y2 y3 y4 t2 t3 t4 ?_ ?_ ?_, hP⟩
 ·exact A0 (EU hD h2 rfl) 0 rfl
 ·exact A0 (EU hD h3 rfl) 0 rfl
 ·exact A0 (EU hD h4 rfl) 0 rfl
section
attribute [local go_sem] Oper.semAt_some
theorem Og (w0 Z : World) (cost : List (List Int)) (n m : Nat) (hl : cost.length = n) (hrl : ∀ r ∈ cost, r.length = m) (hw : AS cost = m) (hn : n ≤ 16) (hm : m ≤ 16) (hce : Ak cost = 0) (aoC : Option Addr) (ccC kC B2 B3 B4 : Nat) (hM : IsMat Z (.slice aoC n ccC) cost) (hC : Z.cell? ⟨kC, 0, none⟩ = some (.slice aoC n ccC)) (hkC : kC < Z.heap.size)
  (x2 x3 x4 : Value) (h2 : Z.heap[B2]? = some (.cells #[x2] 55 (0, 0))) (h3 : Z.heap[B3]? = some (.cells #[x3] 4 (0, 0))) (h4 : Z.heap[B4]? = some (.cells #[x4] 41 (0, 0))) (hne : B2 ≠ B3 ∧ B2 ≠ B4 ∧ B3 ≠ B4) (hw0 : Below w0.heap.size w0 Z) (hB : w0.heap.size ≤ B2 ∧ w0.heap.size ≤ B3 ∧ w0.heap.size ≤ B4)
  (e0 f5 f6 f7 f8 f9 ea eb ec ed ee ef eg eh ei ej ek el em en eo ep eq er es et eu ev ew ex ey ez eA eB eC eD eE : Value) :
  part33n2.wpIn Fence.wide 20 Tryz.prog (bodyPostM Fence.wide 20 Tryz.prog Tryz.f27 (Nh cost w0)) { tmps := #[e0, .pointer (some ⟨kC, 0, none⟩), .pointer (some ⟨B2, 0, none⟩), .pointer (some ⟨B3, 0, none⟩), .pointer (some ⟨B4, 0, none⟩), f5, f6, f7, f8, f9, ea, eb, ec, ed, ee, ef, eg, eh, ei, ej, ek, el, em, en, eo, ep, eq, er, es, et, eu, ev, ew, ex, ey, ez, eA, eB, eC, eD, eE], defers := [] } Z := by
 have HM := qh hM; have HC := qh hC; have H2 := qh h2; have H3 := qh h3; have H4 := qh h4; have HW0 := qh hw0; have HL := qh hl; have HRL := qh hrl; have HWI := qh hw; have HCE := qh hce
 have l2 := (qs.1 h2).1
 have l3 := (qs.1 h3).1
 have l4 := (qs.1 h4).1
 clear hM hC h2 h3 h4 hw0 hl hrl hw hce
 obtain ⟨V1, e1, g1, b1, s1⟩ := Df Z (int i64 0) 3
 obtain ⟨V2, e2, g2, o2, b2, s2⟩ := BG g1 (int i64 1)
 have hS : DenyS (cI cost) n m Z 1 Z.heap.size [] V2 := ⟨b2 _ _ b1 (qn _), ⟨List.nodup_nil, by simp⟩, by simp, g2, qn _, rfl⟩
 have c1 : V1.cell? ⟨Z.heap.size, 0, none⟩ = some (int i64 0) := A0 g1 0 rfl
 have f1' : V1.frozen? ⟨Z.heap.size, 0, none⟩ = false := by simp [World.frozen?, g1]
 have HS := qh hS
 clear hS g1 b1 s1 g2 o2 b2 s2
 unfold part33n2 H7
 conv => arg 4; whnf
 gi_wp2_with fail
 refine wpIn_loop (fun a W => ∃ (k kB : Nat) (Ds : List Nat) (f6 f7 f8 f9 ea eb ec ed ee ef eg eh ei ej ek el em en eo ep eq er es et eu ev ew ex ey ez eA eB eC eD eE : Value), a = { tmps := #[e0, .pointer (some ⟨kC, 0, none⟩), .pointer (some ⟨B2, 0, none⟩), .pointer (some ⟨B3, 0, none⟩), .pointer (some ⟨B4, 0, none⟩), .pointer (some ⟨kB, 0, none⟩), f6, f7, f8, f9, ea, eb, ec, ed, ee, ef, eg, eh, ei, ej, ek, el, em, en, eo, ep, eq, er, es, et, eu, ev, ew, ex, ey, ez, eA, eB, eC, eD, eE], defers := GL Ds } ∧ 1 ≤ k ∧ k ≤ n + 1 ∧ Hid (DenyS (cI cost) n m Z k kB Ds W)) (Mg n) ⟨1, Z.heap.size, [], _, _, _, _, _, _, _, _, _, _, _, _, _, _, _, _, _, _, _, _, _, _, _, _, _, _, _, _, _, _, _, _, _, _, _, rfl, qn _, by omega, HS⟩ ?_
 rintro a W ⟨k, kB, Ds, f6, f7, f8, f9, ea, eb, ec, ed, ee, ef, eg, eh, ei, ej, ek, el, em, en, eo, ep, eq, er, es, et, eu, ev, ew, ex, ey, ez, eA, eB, eC, eD, eE, rfl, hk1, hkn, hS⟩
 have hmu := Jh (n := n) (a := { tmps := #[e0, .pointer (some ⟨kC, 0, none⟩), .pointer (some ⟨B2, 0, none⟩), .pointer (some ⟨B3, 0, none⟩), .pointer (some ⟨B4, 0, none⟩), .pointer (some ⟨kB, 0, none⟩), f6, f7, f8, f9, ea, eb, ec, ed, ee, ef, eg, eh, ei, ej, ek, el, em, en, eo, ep, eq, er, es, et, eu, ev, ew, ex, ey, ez, eA, eB, eC, eD, eE], defers := GL Ds }) rfl hS.out.box
 rw [hmu]
 clear hmu HS
 have cK : W.cell? ⟨kB, 0, none⟩ = some (int i64 k) := A0 hS.out.box 0 rfl
 have cC := (hS.out.below.cell (p := ⟨kC, 0, none⟩) hkC).trans HC.out
 by_cases hk : k ≤ n
 ·have hk' : (k : Int) ≤ (n : Int) := by omega
  gi_wp2_with fail
  try refine ⟨trivial, ?_⟩
  refine (callsIn_wide.2 (OK n k W)).mono ?_
  rintro e W1 ⟨rfl, gN, gK, hb1, hs1⟩
  have hS1 := hS.out.keep hb1
  have hZ1 := hS1.below.size
  have GN := qh gN; have GK := qh gK; have HS1 := qh hS1; have HB1 := qh hb1
  clear gN gK hS1 hb1 cK cC hS
  gi_wp2_with fail
  refine Ei rfl (by omega) (gf := 86) (lb := #[.pointer (some ⟨W.heap.size + 1, 0, none⟩), .pointer (some ⟨W.heap.size, 0, none⟩)]) rfl trivial (enters_of Tryz.func86 (by kernel_rfl) rfl) (encs := fun x : Value × List Nat => #[x.1]) (G := GU W1.heap.size n k) (S := fun xs => xs.map (·.2) = ext n k []) (Sp := fun xs => xs.map (·.2) <+: ext n k [])
   (Lh _ _ _ n k hk hn W1 GK.out GN.out) (fun _ => rfl)
   (fun pre V => Below W1.heap.size W1 V ∧ (pre.map (·.2)).find? (E1 (cI cost) m) = none) (DenyEnd (cI cost) m B2 B3 B4 W1)
   (OwnFrom.and (ownFrom_below (qn _) (qn _)) (ownFrom_pure _ _)) (DenyEnd.own _ _ _ _ _ _ (by omega) (by omega) (by omega)) (fun pre V V' h hb => ⟨h.1.trans (hb.mono h.1.size), h.2⟩) ⟨Below.refl _ _, rfl⟩
   (fun x a' V => (∃ (g7 g8 g9 g10 g11 g12 g13 g14 g15 g16 g17 g18 g19 g20 g21 g22 g23 g24 g25 g26 g27 g28 g29 g30 g31 g32 g33 g34 g35 g36 g37 g38 g39 g40 : Value), a' = { tmps := #[e0, .pointer (some ⟨kC, 0, none⟩), .pointer (some ⟨B2, 0, none⟩), .pointer (some ⟨B3, 0, none⟩), .pointer (some ⟨B4, 0, none⟩), .pointer (some ⟨kB, 0, none⟩), x.1, g7, g8, g9, g10, g11, g12, g13, g14, g15, g16, g17, g18, g19, g20, g21, g22, g23, g24, g25, g26, g27, g28, g29, g30, g31, g32, g33, g34, g35, g36, g37, g38, g39, g40], defers := [] }) ∧ GU W1.heap.size n k x V)
   ?hAx ?assign ?body ?done ?stop
  case hAx =>
   rintro x a' _ X Y row ⟨h, h1, h2, h3, h4⟩ hg hr
   exact ⟨h, Gs h1 hg (fun r e => (hr r e).2), h2, h3, h4⟩
  case assign =>
   intro lr pre x V K _ hG hK
   have HKK := qh hK; have HG := qh hG
   clear hK hG
   gi_wp2_with fail
   exact HKK.out _ _ (KeepsOthers.refl _) (Below.refl _ _) ⟨⟨_, _, _, _, _, _, _, _, _, _, _, _, _, _, _, _, _, _, _, _, _, _, _, _, _, _, _, _, _, _, _, _, _, _, rfl⟩, HG.out⟩
  case body =>
   rintro lr pre x a' V ⟨hb, hf⟩ ⟨⟨g7, g8, g9, g10, g11, g12, g13, g14, g15, g16, g17, g18, g19, g20, g21, g22, g23, g24, g25, g26, g27, g28, g29, g30, g31, g32, g33, g34, g35, g36, g37, g38, g39, g40, rfl⟩, hG⟩
   obtain ⟨r1, r2, r3, r4⟩ := hG
   have hZV : Below Z.heap.size Z V := HS1.out.below.trans (hb.mono HS1.out.below.size)
   have gB := (hb.block _ (qs.1 HS1.out.box).1).trans HS1.out.box
   have gBl := (qs.1 gB).1
   have q2 := (HS1.out.below.block _ l2).trans H2.out
   have q3 := (HS1.out.below.block _ l3).trans H3.out
   have q4 := (HS1.out.below.block _ l4).trans H4.out
   have lC : kC < V.heap.size := Nat.lt_of_lt_of_le hkC hZV.size
   have cC : V.cell? ⟨kC, 0, none⟩ = some (.slice aoC n ccC) := (hZV.cell (p := ⟨kC, 0, none⟩) hkC).trans HC.out
   have cK : V.cell? ⟨kB, 0, none⟩ = some (int i64 k) := A0 gB 0 rfl
   refine Of lr _ (by decide) cost n m k HL.out HRL.out HWI.out hn hm aoC ccC kC B2 B3 B4 kB x.2 r2 hk r3.2 x.1 V (HM.out.below hZV (qn _)) cC lC cK gBl r1 x2 x3 x4 ((hb.block _ (by omega)).trans q2) ((hb.block _ (by omega)).trans q3) ((hb.block _ (by omega)).trans q4) hne _ _ _ _ _ _ _ _ _ _ _ _ _ _ _ _ _ _ _ _ _ _ _ _ _ _ _ _ _ _ _ _ _ _ _ _ ?_ ?_
   ·intro hfew a V' hV'
    refine ⟨Eb hV', hV', hb.trans (hV'.mono hb.size), ?_⟩
    rw [List.map_append, List.find?_append, hf]
    simp [hfew]
   ·intro hfew a V' V'' hV' hs
    obtain ⟨z1, z2, z3⟩ := DenyEnd.make (cI cost) m B2 B3 B4 W1 V V' V'' (pre ++ [x]) pre x rfl hf hfew hne hb hV' r1 x2 x3 x4 q2 q3 q4 r4 hs
    exact ⟨z2, z1, z3⟩
  case done =>
   rintro D xs V hD hxs ⟨hb, hf⟩ hDD
   have hS' := HS1.out.keep hb
   have hnD : D ∉ Ds := fun hm => by
    have := (qs.1 (HS1.out.marks.2 D hm)).1
    omega
   have hDl := (qs.1 hDD).1
   have hZV := hS'.below.size
   have hk1' : k - 1 + 1 = k := by omega
   have hfs := P8 (k := k - 1) hS'.none_ (by rw [hk1', ← hxs]; exact hf)
   rw [hk1'] at hfs
   obtain ⟨U1, d1, a1, b1', s1'⟩ := Df V (int i64 0) 3
   obtain ⟨U2, d2, a2, o2', b2', s2'⟩ := BG a1 (int i64 k)
   obtain ⟨U3, d3, a3, o3', b3', s3'⟩ := BG a2 (int i64 ((k : Int) + 1))
   have hbU : Below V.heap.size V U3 := b3' _ _ (b2' _ _ b1' (qn _)) (qn _)
   have hS2 := hS'.keep hbU
   have hSn : DenyS (cI cost) n m Z (k + 1) V.heap.size (D :: Ds) U3 := by
    refine ⟨hS2.below, ⟨List.nodup_cons.2 ⟨hnD, hS2.marks.1⟩, fun E hE => ?_⟩, fun E hE => ?_, by rw [a3]; rfl, hZV, hfs⟩
    ·rcases List.mem_cons.1 hE with rfl | hE
     ·exact (hbU.block _ hDl).trans hDD
     ·exact hS2.marks.2 E hE
    ·rcases List.mem_cons.1 hE with rfl | hE
     ·omega
     ·exact hS2.far E hE
   have cK : V.cell? ⟨kB, 0, none⟩ = some (int i64 k) := A0 hS'.box 0 rfl
   have k1 : U1.cell? ⟨V.heap.size, 0, none⟩ = some (int i64 0) := A0 a1 0 rfl
   have k2 : U1.frozen? ⟨V.heap.size, 0, none⟩ = false := by simp [World.frozen?, a1]
   have k3 : U2.cell? ⟨V.heap.size, 0, none⟩ = some (int i64 k) := A0 a2 0 rfl
   have k4 : U2.frozen? ⟨V.heap.size, 0, none⟩ = false := by simp [World.frozen?, a2]
   have HSN := qh hSn
   clear hS' hS2 hSn hfs hf hb hDD hbU a1 a2 a3 o2' o3' b1' b2' b3' s1' s2' s3' hxs
   gi_wp2_with fail
   refine ⟨⟨k + 1, V.heap.size, D :: Ds, _, _, _, _, _, _, _, _, _, _, _, _, _, _, _, _, _, _, _, _, _, _, _, _, _, _, _, _, _, _, _, _, _, _, _, rfl, by omega, by omega, HSN⟩, ?_⟩
   rw [Jh (n := n) (k := k + 1) (kB := V.heap.size) rfl HSN.out.box]
   omega
  case stop =>
   rintro D xs V hD hxs hE hDD
   have HE := qh hE; have HXS := qh hxs; have HDD := qh hDD
   clear hE hxs hDD
   gi_wp2_with fail
   have hE := HE.out
   obtain ⟨A, x, rfl, hA, hx, g2, hr⟩ := hE.found
   have hfar := HS1.out.far
   have hnD : D ∉ Ds := fun hm => by
    have := (qs.1 (HS1.out.marks.2 D hm)).1
    omega
   have hmk : DS (D :: Ds) V := by
    refine ⟨List.nodup_cons.2 ⟨hnD, HS1.out.marks.1⟩, fun E hm => ?_⟩
    rcases List.mem_cons.1 hm with rfl | hm
    ·exact HDD.out
    ·have h0 := HS1.out.marks.2 E hm
     have hf := hfar E hm
     exact (hE.block E (qs.1 h0).1 (by omega) (by omega) (by omega)).trans h0
   have hw01 : Below w0.heap.size w0 W1 := HW0.out.trans (HS1.out.below.mono HW0.out.size)
   have hw0V : Below w0.heap.size w0 V := ⟨hE.os.trans hw01.os, hE.tape.trans hw01.tape, hE.output.trans hw01.output, Nat.le_trans hw01.size hE.size, fun b hb => (hE.block b (Nat.lt_of_lt_of_le hb hw01.size) (by omega) (by omega) (by omega)).trans (hw01.block b hb)⟩
   have hk1' : k - 1 + 1 = k := by omega
   refine F6 hmk rfl rfl rfl g2 hE.b3 hE.b4 ⟨hw0V.trans (Il fun E hm => ?_), Or.inr (Or.inr ⟨HCE.out, x.1, x.2, ?_, rfl, Mn hr hmk⟩)⟩
   ·have := HW0.out.size
    rcases List.mem_cons.1 hm with rfl | hm
    ·omega
    ·have hf := hfar E hm; omega
   ·rw [HL.out, HWI.out]
    refine MO (k := k - 1) (by omega) HS1.out.none_ hA hx ?_
    have := HXS.out
    rw [List.map_append] at this
    rw [hk1']
    exact this
 ·obtain rfl : k = n + 1 := by omega
  have hk' : ¬ ((n + 1 : Nat) : Int) ≤ (n : Int) := by omega
  have q2 := (hS.out.below.block _ l2).trans H2.out
  have q3 := (hS.out.below.block _ l3).trans H3.out
  have q4 := (hS.out.below.block _ l4).trans H4.out
  obtain ⟨U1, U2, U3, d1, d2, d3, ⟨p2, r2⟩, ⟨p3, r3⟩, ⟨p4, r4⟩, hU⟩ := JA (.slice none 0 0) (.bool false) (int i64 0) q2 q3 q4 hne
  clear q2 q3 q4
  gi_wp2_with fail
  obtain ⟨⟨u2, u3, u4⟩, uo, ub⟩ := hU.out
  have hmk : DS Ds U3 := ⟨hS.out.marks.1, fun D hD => (uo D (by have := hS.out.far D hD; omega) (by have := hS.out.far D hD; omega) (by have := hS.out.far D hD; omega)).trans (hS.out.marks.2 D hD)⟩
  refine F6 hmk rfl rfl rfl u2 u3 u4 ⟨(ub _ _ (HW0.out.trans (hS.out.below.mono HW0.out.size)) hB.1 hB.2.1 hB.2.2).trans (Il fun D hD => by have := hS.out.far D hD; have := HW0.out.size; omega), Or.inr (Or.inl ⟨HCE.out, ?_, rfl⟩)⟩
  have := hS.out.none_
  rw [HL.out, HWI.out]
  exact this
end
end
section
open Go Go.RowKit Go.Deep
section
attribute [local go_sem] Oper.semAt_some
theorem KU {v : Value} {cost : List (List Int)} (w : World) (h : IsMat w v cost) : Calls Tryz.prog 27 #[v] w (Nh cost w) := by
 obtain ⟨ao, c, rfl⟩ := h.form
 obtain ⟨V1, e1, g1, b1, s1⟩ := Df w (.slice ao cost.length c) 50
 obtain ⟨V2, e2, g2, b2, s2⟩ := Df V1 (.slice none 0 0) 55
 obtain ⟨V3, e3, g3, b3, s3⟩ := Df V2 (.bool false) 4
 obtain ⟨V4, e4, g4, b4, s4⟩ := Df V3 (int i64 0) 41
 have t2 : V2.heap.size = w.heap.size + 1 + 1 := by omega
 have t3 : V3.heap.size = w.heap.size + 1 + 1 + 1 := by omega
 rw [s1] at g2 b2
 rw [t2] at g3 b3
 rw [t3] at g4 b4
 have hb4 : Below w.heap.size w V4 := ((b1.trans (b2.mono (by omega))).trans (b3.mono (by omega))).trans (b4.mono (by omega))
 have q1 := (b4.block _ (by omega)).trans ((b3.block _ (by omega)).trans ((b2.block _ (by omega)).trans g1))
 have q2 := (b4.block _ (by omega)).trans ((b3.block _ (by omega)).trans g2)
 have q3 := (b4.block _ (by omega)).trans g3
 have hch := BK V4 (h.below hb4 (qn _))
 have hM4 := h.below hb4 (qn _)
 have c1 : V4.cell? ⟨w.heap.size, 0, none⟩ = some (.slice ao cost.length c) := A0 q1 0 rfl
 have HCH := qh hch; have HM := qh hM4; have Q1 := qh q1; have Q2 := qh q2; have Q3 := qh q3; have Q4 := qh g4; have HB4 := qh hb4
 have s4' : V4.heap.size = w.heap.size + 4 := by omega
 have HH := qh h
 clear hch hM4 q1 q2 q3 g1 g2 g3 g4 b1 b2 b3 b4 hb4 h
 refine (callsIn_wide (n := 20)).1 ?_
 refine callsIn_of_wp_marks Tryz.func27 rfl trivial ?_ rfl
 simp only [Tryz.ntmps27, List.size_toArray, List.length_cons, List.length_nil, Nat.reduceAdd, Nat.reduceSub, Array.replicate_succ, Array.replicate_zero, List.push_toArray, List.append_toArray, List.nil_append, List.cons_append]
 change Code.wpIn _ _ _ (A8 2 H7 part33n2) _ _ _
 conv => arg 4; whnf
 gi_wp2_with fail
 conv => arg 4; whnf
 gi_wp2_with fail
 refine ⟨trivial, ?_⟩
 refine (callsIn_wide.2 HCH.out).mono ?_
 rintro e w5 ⟨rfl, hb5⟩
 have p2 := (hb5.block _ (by omega)).trans Q2.out
 have p3 := (hb5.block _ (by omega)).trans Q3.out
 have p4 := (hb5.block _ (by omega)).trans Q4.out
 obtain ⟨Z, e5, g5, o5, b5, s5⟩ := BG p4 (int i64 (Ak cost))
 have z1 := (o5 w.heap.size (by omega)).trans ((hb5.block _ (by omega)).trans Q1.out)
 have z2 := (o5 _ (by omega)).trans p2
 have z3 := (o5 _ (by omega)).trans p3
 have hwZ : Below w.heap.size w Z := b5 _ _ (HB4.out.trans (hb5.mono (by omega))) (by omega)
 have k4 : w5.cell? ⟨w.heap.size + 1 + 1 + 1, 0, none⟩ = some (int i64 0) := A0 p4 0 rfl
 have f4 : w5.frozen? ⟨w.heap.size + 1 + 1 + 1, 0, none⟩ = false := by simp [World.frozen?, p4]
 have k5 : Z.cell? ⟨w.heap.size + 1 + 1 + 1, 0, none⟩ = some (int i64 (Ak cost)) := A0 g5 0 rfl
 have k1 : Z.cell? ⟨w.heap.size, 0, none⟩ = some (.slice ao cost.length c) := A0 z1 0 rfl
 have HZ := qh hwZ; have Z2 := qh z2; have Z3 := qh z3; have Z4 := qh g5
 have hzs : w.heap.size + 4 ≤ Z.heap.size := by have := hb5.size; omega
 have hMZ : IsMat Z (.slice ao cost.length c) cost := HH.out.below hwZ (qn _)
 have HMZ := qh hMZ
 clear p2 p3 p4 o5 b5 s5 z1 z2 z3 g5 hwZ hb5 HCH Q1 Q2 Q3 Q4 HB4 HM hMZ
 by_cases hce : Ak cost = 0
 ·have hne : (Ak cost != 0) = false := by simp [hce]
  obtain ⟨r1, r2, r3, r4, r5⟩ := FF hce
  have hloop := Og w Z cost cost.length (AS cost) rfl r3 rfl r1 r2 hce ao c w.heap.size (w.heap.size + 1) (w.heap.size + 1 + 1) (w.heap.size + 1 + 1 + 1) HMZ.out k1 (by omega) _ _ _ Z2.out Z3.out Z4.out ⟨by omega, by omega, by omega⟩ HZ.out ⟨by omega, by omega, by omega⟩
  have HLO := qh hloop
  clear r1 r2 r3 r4 r5 hloop hce
  gi_wp2_with fail
  exact HLO.out _ _ _ _ _ _ _ _ _ _ _ _ _ _ _ _ _ _ _ _ _ _ _ _ _ _ _ _ _ _ _ _ _ _ _ _ _ 
 ·have hne : (Ak cost != 0) = true := by simpa using hce
  have HCE := qh hce
  obtain ⟨U1, U2, U3, d1, d2, d3, ⟨p2, r2⟩, ⟨p3, r3⟩, ⟨p4, r4⟩, hU⟩ := JA (W := Z.drew) (.slice none 0 0) (.bool false) (int i64 (Ak cost)) Z2.out Z3.out Z4.out ⟨by omega, by omega, by omega⟩
  have hu := hU.out
  have u1 : U1.cell? ⟨w.heap.size + 1 + 1 + 1, 0, none⟩ = some (int i64 (Ak cost)) := by
   rw [← d1]
   exact (World.cell?_of_block (a := ⟨w.heap.size + 1 + 1 + 1, 0, none⟩) (Below.heap_setCell _ _ _ _ (by show w.heap.size + 1 + 1 + 1 ≠ w.heap.size + 1; omega))).trans k5
  have u3 : U3.cell? ⟨w.heap.size + 1 + 1 + 1, 0, none⟩ = some (int i64 (Ak cost)) := A0 hu.1.2.2 0 rfl
  clear hu
  gi_wp2_with fail
  refine wpIn_wide.2 ?_
  go_region_held3 (fun w2 => w2.cell? ⟨w.heap.size + 1 + 1 + 1, 0, none⟩ = some (int i64 (Ak cost))) (first | assumption | exact k5) (fail)
  gi_wp2_with fail
  obtain ⟨⟨m2, m3, m4⟩, _, ub⟩ := hU.out
  exact F6 (Ds := []) ⟨List.nodup_nil, by simp⟩ rfl rfl rfl m2 m3 m4 ⟨ub _ _ HZ.out.drew (by omega) (by omega) (by omega), Or.inl ⟨HCE.out, rfl⟩⟩
end
end
section
open Go Go.RowKit Go.Deep
def CO : List (List Int) := [[1, 2], [1, 4]]
def Gc : List (List Int) := [[1, 2], [3, -1], [4, -1]]
theorem DK : Ak CO = 0 := by kernel_rfl
theorem LP : Ak Gc = 0 := by kernel_rfl
theorem Mz : Ak [[]] = 0 := by kernel_rfl
theorem OT : Ak [[-2]] = 470 := by kernel_rfl
theorem RP : Ak [[1, 2], [1]] = 470 := by kernel_rfl
theorem Qs : Ak (List.replicate 17 []) = 2 := by kernel_rfl
theorem Hb : Fx (cI Gc) 3 2 = some [1, 2] := by kernel_rfl
theorem Qf : Fx (cI CO) 2 2 = none := by kernel_rfl
theorem Pq {t : Nat → Nat} (h : CastN 2 2 (cI CO) t) : (t 0 = 0 ∧ t 1 = 1) ∨ (t 0 = 1 ∧ t 1 = 0) := by
 have h0 := h.lt 0 (by omega)
 have h1 := h.lt 1 (by omega)
 have hne : t 0 ≠ t 1 := fun e => by have := h.inj 0 1 (by omega) (by omega) e; omega
 omega
def LO : Nat → Nat := fun r => if r = 0 then 1 else 0
theorem IA : CastN 2 2 (cI CO) LO := by
 refine ⟨fun r hr => ?_, fun r hr => ?_, fun r r' hr hr' e => ?_⟩
 ·unfold LO; split <;> omega
 ·have : r = 0 ∨ r = 1 := by omega
  rcases this with rfl | rfl
  ·decide
  ·decide
 ·unfold LO at e
  split at e <;> split at e <;> omega
theorem RX {t : Nat → Nat} : A6 (fun r => cI CO r (t r)) 2 = cI CO 0 (t 0) + cI CO 1 (t 1) := by
 show (0 : Int) + _ + _ = _
 rw [Int.zero_add]
theorem Rb {t : Nat → Nat} {taken : List Bool} {best : Int} (hmin : ∀ s, CastN 2 2 (cI CO) s → best ≤ A6 (fun r => cI CO r (s r)) 2) (h : FirstOk 2 2 (cI CO) best 2 t taken) : best = 3 ∧ toL t 2 = [1, 0] := by
 obtain ⟨s, h1, h2, h3⟩ := h.ex
 have e0 := h2 0 (by omega)
 have e1 := h2 1 (by omega)
 have hb := hmin LO IA
 rw [RX] at hb h3
 have hv : cI CO 0 (LO 0) + cI CO 1 (LO 1) = 3 := by decide
 rw [hv] at hb
 have hL : toL t 2 = [(t 0 : Int), (t 1 : Int)] := rfl
 rcases Pq h1 with ⟨a, b⟩ | ⟨a, b⟩
 ·exfalso
  rw [a, b] at h3
  have : cI CO 0 0 + cI CO 1 1 = 5 := by decide
  omega
 ·rw [a, b] at h3
  have : cI CO 0 1 + cI CO 1 0 = 3 := by decide
  refine ⟨by omega, ?_⟩
  rw [hL, ← e0, ← e1, a, b]; rfl
theorem OU (t : Nat → Nat) : ¬ CastN 1 0 (cI [[]]) t := fun h => by have := h.lt 0 (by omega); omega
end
section
open Go Go.RowKit Go.Deep
theorem Ny {l : List Int} {i : Nat} (h : i < l.length) : l[i]? = some (gi l i) := by
 unfold gi; rw [qg h]; rfl
theorem G7 (ao bo : Option Addr) (n n' c d : Nat) (xs ys : List Int) (hnx : xs.length = n) (hny : ys.length = n') (w : World) (hx : IsRow AX 1 w (.slice ao n c) xs) (hy : IsRow AX 1 w (.slice bo n' d) ys) :
  Calls Tryz.prog 24 #[.slice ao n c, .slice bo n' d] w fun e w' => e = .returned (.bool (decide (xs = ys))) ∧ ∃ k, w' = w.drewN k := by
 have hmx : n ≤ maxLen := by obtain ⟨_, _, _, h, _⟩ := hx; omega
 simp only [maxLen] at hmx
 by_cases hl : n = n'
 ·subst hl
  have hno : ∀ i, i < n → gi xs i ≠ gi ys i → decide (xs = ys) = false := fun i _ h => decide_eq_false fun e => h (by rw [e])
  have hyes : (∀ i, i < n → gi xs i = gi ys i) → decide (xs = ys) = true := fun h => by
   refine decide_eq_true (List.ext_getElem? fun i => ?_)
   by_cases hi : i < n
   ·rw [Ny (by omega), Ny (by omega), h i hi]
   ·rw [List.getElem?_eq_none (by omega), List.getElem?_eq_none (by omega)]
  have HNO := qh hno; have HYES := qh hyes; have HX := qh hx; have HY := qh hy; have HNX := qh hnx; have HNY := qh hny
  clear hno hyes hx hy hnx hny
  generalize decide (xs = ys) = bb at *
  go_enter Tryz.func24, Tryz.ntmps24
  go_wp2_with fail
  go_loopw [5] (fun iv wr => ∃ (i k : Nat), iv = int i64 i ∧ i ≤ n ∧ wr = w.drewN k ∧ Hid (∀ q, q < i → gi xs q = gi ys q)) (fun iv _ => n - (intOf iv).toNat)
  case atStart => exact ⟨0, 0, rfl, Nat.zero_le _, (w.drewN_zero).symm, qh fun q hq => by omega⟩
  case round =>
   obtain ⟨i, k, rfl, hin, rfl, hall⟩ := hrel
   by_cases hi : i < n
   ·obtain ⟨b1, o1, e1, p1, _⟩ := HX.out.int (j := i) (by rw [HNX.out]; exact hi)
    obtain ⟨b2, o2, e2, p2, _⟩ := HY.out.int (j := i) (by rw [HNY.out]; exact hi)
    subst e1; subst e2
    have hi' : (i : Int) < (n : Int) := by omega
    have hst : ∀ (h : gi xs i = gi ys i), ∀ q, q < i + 1 → gi xs q = gi ys q := fun h q hq => by
     by_cases e : q = i
     ·subst e; exact h
     ·exact hall.out q (by omega)
    have hf := HNO.out i hi
    have HST := qh hst; have HF := qh hf
    clear hst hf
    generalize gi xs i = x at *
    generalize gi ys i = y at *
    by_cases hxy : x = y
    ·have hne : (x != y) = false := by simp [hxy]
     have H2 := qh (HST.out hxy)
     clear HST HF hxy
     go_wp2_with fail
     go_quiet (fail)
     go_wp2_with fail
     go_roundw
     case rel => exact ⟨i + 1, k + nq, by go_num, by omega, by simp [World.drewN], H2⟩
     case measure => simp [intOf]; omega
    ·have hne : (x != y) = true := by simpa using hxy
     have H2 := qh (HF.out hxy)
     clear HST HF hxy
     go_wp2_with fail
     go_quiet (fail)
     go_wp2_with fail
     go_ret
     exact ⟨by rw [H2.out]; rfl, k + nq, by simp [World.drewN, Nat.add_assoc]⟩
   ·obtain rfl : i = n := by omega
    have hi' : ¬ (i : Int) < (i : Int) := by omega
    have H2 := qh (HYES.out hall.out)
    go_wp2_with fail
    go_ret
    exact ⟨by rw [H2.out]; rfl, k, rfl⟩
 ·have hne : ((n : Int) != (n' : Int)) = true := by simp; omega
  have hd : decide (xs = ys) = false := decide_eq_false fun e => hl (by rw [← hnx, ← hny, e])
  have HD := qh hd
  clear hd hx hy
  go_enter Tryz.func24, Tryz.ntmps24
  go_wp2_with fail
  go_ret
  exact ⟨by rw [HD.out]; rfl, 0, (w.drewN_zero).symm⟩
end
section
open Go Go.RowKit Go.Deep
def CD (cost : List (List Int)) (i : Nat) : List Int := cost[i]?.getD []
theorem LH {cost : List (List Int)} {i : Nat} (h : i < cost.length) : cost[i]? = some (CD cost i) := by
 unfold CD; rw [qg h]; rfl
theorem Js (ao bo : Option Addr) (n n' c d : Nat) (xs ys : List (List Int)) (hnx : xs.length = n) (hny : ys.length = n') (w : World) (hx : IsMat w (.slice ao n c) xs) (hy : IsMat w (.slice bo n' d) ys) :
  Calls Tryz.prog 18 #[.slice ao n c, .slice bo n' d] w fun e w' => e = .returned (.bool (decide (xs = ys))) ∧ Below w.heap.size w w' := by
 have hmx : n ≤ maxLen := by have := hx.len; omega
 simp only [maxLen] at hmx
 by_cases hl : n = n'
 ·subst hl
  have hno : ∀ i, i < n → decide (CD xs i = CD ys i) = false → decide (xs = ys) = false := fun i _ h => decide_eq_false fun e => (of_decide_eq_false h) (by rw [e])
  have hyes : (∀ i, i < n → CD xs i = CD ys i) → decide (xs = ys) = true := fun h => by
   refine decide_eq_true (List.ext_getElem? fun i => ?_)
   by_cases hi : i < n
   ·rw [LH (by omega), LH (by omega), h i hi]
   ·rw [List.getElem?_eq_none (by omega), List.getElem?_eq_none (by omega)]
  have HNO := qh hno; have HYES := qh hyes; have HX := qh hx; have HY := qh hy; have HNX := qh hnx; have HNY := qh hny
  clear hno hyes hx hy hnx hny
  generalize decide (xs = ys) = bb at *
  go_enter Tryz.func18, Tryz.ntmps18
  go_wp2_with fail
  go_loopw [5] (fun iv wr => ∃ i : Nat, iv = int i64 i ∧ i ≤ n ∧ Hid (Below w.heap.size w wr) ∧ Hid (∀ q, q < i → CD xs q = CD ys q)) (fun iv _ => n - (intOf iv).toNat)
  case atStart => exact ⟨0, rfl, Nat.zero_le _, qh (Below.refl _ _), qh fun q hq => by omega⟩
  case round =>
   obtain ⟨i, rfl, hin, hW, hall⟩ := hrel
   by_cases hi : i < n
   ·obtain ⟨b1, o1, e1, a1, c1, p1, r1, _⟩ := (HX.out.below hW.out (qn _)).at_ (i := i) (by rw [HNX.out]; exact hi)
    obtain ⟨b2, o2, e2, a2, c2, p2, r2, _⟩ := (HY.out.below hW.out (qn _)).at_ (i := i) (by rw [HNY.out]; exact hi)
    subst e1; subst e2
    have hi' : (i : Int) < (n : Int) := by omega
    have hst : ∀ (h : CD xs i = CD ys i), ∀ q, q < i + 1 → CD xs q = CD ys q := fun h q hq => by
     by_cases e : q = i
     ·subst e; exact h
     ·exact hall.out q (by omega)
    have hcall := G7 a1 a2 _ _ c1 c2 (CD xs i) (CD ys i) rfl rfl wr.drew r1 r2
    have hf := HNO.out i hi
    have HST := qh hst; have HF := qh hf; have HC := qh hcall
    change wr.cell? _ = some (.slice a1 (CD xs i).length c1) at p1
    change wr.cell? _ = some (.slice a2 (CD ys i).length c2) at p2
    clear hst hf hcall r1 r2
    go_wp2_with fail
    refine Cf (fun w2 => w2 = wr.drew) 8 (by kernel_rfl) (by kernel_rfl) rfl ?_
    intro w2 hS
    subst hS
    simp only [List.take_succ_cons, List.take_zero, List.drop_succ_cons, List.drop_zero]
    repeat still_step
    refine wpStill_nil ?_
    go_wp2_with fail
    refine HC.out.mono ?_
    rintro e w3 ⟨rfl, k, hw⟩
    have HW3 := qh (show Below w.heap.size w w3 by rw [hw]; exact A5 hW.out.drew k)
    clear hw
    clear HC p1 p2
    cases hd : decide (CD xs i = CD ys i) with
    | true =>
     have H2 := qh (HST.out (of_decide_eq_true hd))
     clear HST HF hd
     go_wp2_with fail
     go_roundw
     case rel => exact ⟨i + 1, by go_num, by omega, HW3, H2⟩
     case measure => simp [intOf]; omega
    | false =>
     have H2 := qh (HF.out hd)
     clear HST HF hd
     go_wp2_with fail
     go_ret
     exact ⟨by rw [H2.out]; rfl, HW3.out⟩
   ·obtain rfl : i = n := by omega
    have hi' : ¬ (i : Int) < (i : Int) := by omega
    have H2 := qh (HYES.out hall.out)
    go_wp2_with fail
    go_ret
    exact ⟨by rw [H2.out]; rfl, hW.out⟩
 ·have hne : ((n : Int) != (n' : Int)) = true := by simp; omega
  have hd : decide (xs = ys) = false := decide_eq_false fun e => hl (by rw [← hnx, ← hny, e])
  have HD := qh hd
  clear hd hx hy
  go_enter Tryz.func18, Tryz.ntmps18
  go_wp2_with fail
  go_ret
  exact ⟨by rw [HD.out]; rfl, Below.refl _ _⟩
end
section
open Go Go.RowKit Go.Deep
noncomputable def F5 : Code := (Tryz.f16.body).getD .skip
noncomputable def I4 : Code := Bu (Ag 4 F5)
def He (b : Bod) : List Value := (A1 b).toList
theorem Qi (b : Bod) : (He b).length = 17 := rfl
def E8 (A B : Nat) : Value := .func (.func 43) #[] #[.pointer (some ⟨A, 0, none⟩), .pointer (some ⟨B, 0, none⟩)]
structure PeopleW (Z A : Nat) (bs : List Bod) (v : Value) (Bs : List Nat) (W : World) : Prop where
 own : W.ownsRow Z 92 1 v bs.length (Bs.map (E8 A))
 len : Bs.length = bs.length
 at_ : ∀ (q : Nat) (b : Bod) (B : Nat), bs[q]? = some b → Bs[q]? = some B → W.heap[B]? = some (.cells (A1 b) 35 (0, 0))
theorem Rz : (Tryz.prog.info? 92).map (fun i => (i.zero, i.size, i.bytes)) = some (some (.agg #[.nilFunc]), 1, 8) := by kernel_rfl
theorem EE {w w' : World} {Z Z' e e' s s' n n' : Nat} {v v' : Value} {xs xs' : List Value} (h : w.ownsRow Z e s v n xs) (h' : w.ownsRow Z' e' s' v' n' xs') (hne : e ≠ e') (hg : w.grownBy w' v'.ownBlock) : w'.ownsRow Z e s v n xs := by
 refine ⟨h.1, ?_⟩
 rcases h.2 with q | ⟨g, cap, cur, e1, h1, hgg, h2⟩
 ·exact Or.inl q
 ·refine Or.inr ⟨g, cap, cur, e1, h1, (hg.block g (qs.1 hgg).1 fun e2 => ?_).trans hgg, h2⟩
  rcases h'.2 with ⟨q, _⟩ | ⟨g', cap', cur', q, _, hg', _⟩
  ·rw [q] at e2; cases e2
  ·rw [q] at e2
   have : g = g' := by simpa [Value.ownBlock] using e2
   subst this
   rw [hgg] at hg'
   injection hg' with e3
   injection e3 with _ e4
   exact hne e4
theorem Gl {w w' : World} {b Z' e e' s' n' : Nat} {v' : Value} {xs' : List Value} {cs : Array Value} (hb : w.heap[b]? = some (.cells cs e (0, 0))) (h' : w.ownsRow Z' e' s' v' n' xs') (hne : e ≠ e') (hg : w.grownBy w' v'.ownBlock) : w'.heap[b]? = some (.cells cs e (0, 0)) := by
 refine (hg.block b (qs.1 hb).1 fun e2 => ?_).trans hb
 rcases h'.2 with ⟨q, _⟩ | ⟨g', cap', cur', q, _, hg', _⟩
 ·rw [q] at e2; cases e2
 ·rw [q] at e2
  have : b = g' := by simpa [Value.ownBlock] using e2
  subst this
  rw [hb] at hg'
  injection hg' with e3
  injection e3 with _ e4
  exact hne e4
theorem JM (bs : List Bod) (nb : Nat) (hbl : bs.length = nb) (hnb : nb ≤ 16) (hbn : ∀ b ∈ bs, b.name.length ≤ maxLen) (aB : Option Addr) (cB A : Nat) (w : World) (hrow : IsRow He 17 w (.slice aB nb cB) bs) (e0 e3 e5 e7 e8 e9 ea eb ec ed ee ef eg eh ei ej ek el em en eo ep eq er es et eu ev ew ex ey ez eA eB eC eD eE eF eG eH eI eJ eK eL eM eN eO eP eQ eR eS eT eU eV eW eX eY eZ aa ab ac ad ae af ag ah ai : Value) (R : Ending → World → Prop) (X : Code)
  (hE : ∀ w', Below w.heap.size w w' → bs.all AG = false → R (.returned (.tuple #[.slice none 0 0, int i64 250])) w')
  (hX : ∀ (w' : World) (v6 : Value) (Bs : List Nat) (f5 f8 ak al am an ao ap aq ar au av aw ax ay az aA aC aD : Value), Below w.heap.size w w' → bs.all AG = true → PeopleW w.heap.size A bs v6 Bs w' → Code.wp Tryz.prog X (bodyPost Tryz.prog Tryz.f16 R) { tmps := #[e0, .slice aB nb cB, .pointer (some ⟨A, 0, none⟩), e3, .slice none 0 0, f5, v6, e7, f8, e9, ea, eb, ec, ed, ee, ef, eg, eh, ei, ej, ek, el, em, en, eo, ep, eq, ak, al, am, an, ao, ap, aq, ar, au, av, aw, ax, ay, az, aA, aC, aD, eI, eJ, eK, eL, eM, eN, eO, eP, eQ, eR, eS, eT, eU, eV, eW, eX, eY, eZ, aa, ab, ac, ad, ae, af, ag, ah, ai], defers := [] } w') :
  Code.wp Tryz.prog (.seq I4 X) (bodyPost Tryz.prog Tryz.f16 R) { tmps := #[e0, .slice aB nb cB, .pointer (some ⟨A, 0, none⟩), e3, .slice none 0 0, e5, .slice none 0 0, e7, e8, e9, ea, eb, ec, ed, ee, ef, eg, eh, ei, ej, ek, el, em, en, eo, ep, eq, er, es, et, eu, ev, ew, ex, ey, ez, eA, eB, eC, eD, eE, eF, eG, eH, eI, eJ, eK, eL, eM, eN, eO, eP, eQ, eR, eS, eT, eU, eV, eW, eX, eY, eZ, aa, ab, ac, ad, ae, af, ag, ah, ai], defers := [] } w := by
 have HE := qh hE; have HX := qh hX; have HROW := qh hrow; have HBN := qh hbn; have HBL := qh hbl
 obtain ⟨i0, hi0, hz0, hz1, hz2⟩ := info_parts Rz
 clear hE hX hrow hbn hbl
 unfold I4 F5
 conv => arg 2; arg 1; whnf
 go_wp2_with fail
 go_loopw [4, 6, 29] (fun cv pv iv wr => ∃ (i : Nat) (Bs : List Nat), cv = .slice none 0 0 ∧ i ≤ nb ∧ iv = int i64 i ∧ Hid ((bs.take i).all AG = true) ∧ Hid (PeopleW w.heap.size A (bs.take i) pv Bs wr) ∧ Hid (Below w.heap.size w wr)) (fun _ _ iv _ => nb - (intOf iv).toNat)
 case atStart => exact ⟨0, [], rfl, Nat.zero_le _, rfl, qh (by simp), qh ⟨World.ownsRow_nil _ _ _ _, by simp, fun q b B h => by simp at h⟩, qh (Below.refl _ _)⟩
 case round =>
  obtain ⟨i, Bs, rfl, hin, rfl, hall, hP, hW⟩ := hrel
  by_cases hi : i < nb
  ·obtain ⟨b, hb⟩ : ∃ b, bs[i]? = some b := ⟨_, qg (by rw [HBL.out]; exact hi)⟩
   have htk : bs.take (i + 1) = bs.take i ++ [b] := by rw [List.take_add_one, hb]; rfl
   have hlt : (bs.take i).length = i := by rw [List.length_take, HBL.out]; omega
   obtain ⟨b1, o1, hp1, hat, hb1⟩ := (HROW.out.below hW.out (qn _)).block hb
   subst hp1
   have p0 : wr.cell? ⟨b1, o1 + i * 17, none⟩ = some (.string ⟨b.name.toArray⟩) := hat i b hb 0 _ rfl
   have p1 : wr.cell? ⟨b1, o1 + i * 17 + 1, none⟩ = some (int i64 b.weight) := hat i b hb 1 _ rfl
   have p2 : wr.cell? ⟨b1, o1 + i * 17 + 2, none⟩ = some (int i64 b.lift) := hat i b hb 2 _ rfl
   have p3 : wr.cell? ⟨b1, o1 + i * 17 + 3, none⟩ = some (int i64 b.girth) := hat i b hb 3 _ rfl
   have p4 : wr.cell? ⟨b1, o1 + i * 17 + 4, none⟩ = some (int i64 b.step) := hat i b hb 4 _ rfl
   have p5 : wr.cell? ⟨b1, o1 + i * 17 + 5, none⟩ = some (int i64 b.jump) := hat i b hb 5 _ rfl
   have p6 : wr.cell? ⟨b1, o1 + i * 17 + 6, none⟩ = some (int i64 b.r0) := hat i b hb 6 _ rfl
   have p7 : wr.cell? ⟨b1, o1 + i * 17 + 7, none⟩ = some (int i64 b.r1) := hat i b hb 7 _ rfl
   have p8 : wr.cell? ⟨b1, o1 + i * 17 + 8, none⟩ = some (int i64 b.r2) := hat i b hb 8 _ rfl
   have p9 : wr.cell? ⟨b1, o1 + i * 17 + 9, none⟩ = some (int i64 b.s0) := hat i b hb 9 _ rfl
   have p10 : wr.cell? ⟨b1, o1 + i * 17 + 10, none⟩ = some (int i64 b.s1) := hat i b hb 10 _ rfl
   have p11 : wr.cell? ⟨b1, o1 + i * 17 + 11, none⟩ = some (int i64 b.s2) := hat i b hb 11 _ rfl
   have p12 : wr.cell? ⟨b1, o1 + i * 17 + 12, none⟩ = some (int i64 b.t0) := hat i b hb 12 _ rfl
   have p13 : wr.cell? ⟨b1, o1 + i * 17 + 13, none⟩ = some (int i64 b.t1) := hat i b hb 13 _ rfl
   have p14 : wr.cell? ⟨b1, o1 + i * 17 + 14, none⟩ = some (int i64 b.t2) := hat i b hb 14 _ rfl
   have p15 : wr.cell? ⟨b1, o1 + i * 17 + 15, none⟩ = some (int i64 b.effort) := hat i b hb 15 _ rfl
   have p16 : wr.cell? ⟨b1, o1 + i * 17 + 16, none⟩ = some (int i64 b.recover) := hat i b hb 16 _ rfl
   have hi' : (i : Int) < (nb : Int) := by omega
   have HSA : Hid ((A1 b).all (·.oneCell') = true) := qh (by simp [A1, Value.oneCell'])
   have hW1 : Below w.heap.size w (wr.alloc (.cells (A1 b) 35)) := hW.out.alloc hW.out.size _
   have hck := DN b (HBN.out b (List.mem_of_getElem? hb)) (wr.alloc (.cells (A1 b) 35))
   have X0 := qh (heap_alloc_new wr (.cells (A1 b) 35))
   have HTK := qh htk; have HLT := qh hlt; have HB := qh hb; have HW1 := qh hW1; have HCK := qh hck
   clear hat hb1 htk hlt hb hW1 hck
   go_wp2_with (first | (refine wpList_store_row rfl 35 _ _ rfl wr.heap.size (A1 b) rfl rfl 35 _ (heap_alloc_new wr _) (by kernel_rfl) rfl HSA.out ?_; rw [World.setRow_alloc_new]) | (refine wpList_load_row rfl 35 _ rfl wr.heap.size rfl 35 (A1 b) (0, 0) _ X0.out Tryz.underlying35 rfl (by kernel_rfl) ?_; simp only [Act.put, qD, qE, qF]))
   refine HCK.out.mono ?_
   rintro e w2 ⟨rfl, hb2⟩
   have hW2 := HW1.out.trans (hb2.mono HW1.out.size)
   have hs1 : (wr.alloc (.cells (A1 b) 35)).heap.size = wr.heap.size + 1 := by simp
   have y0 := (hb2.block wr.heap.size (by rw [hs1]; omega)).trans X0.out
   have hb02 : Below wr.heap.size wr w2 := ((Below.refl wr.heap.size wr).alloc (qn _) (.cells (A1 b) 35)).trans (hb2.mono (by omega))
   have HY0 := qh y0; have HW2 := qh hW2; have HB02 := qh hb02
   clear hb2 hW2 hs1 y0 hb02 HW1 X0 HCK HSA p0 p1 p2 p3 p4 p5 p6 p7 p8 p9 p10 p11 p12 p13 p14 p15 p16
   cases hbb : AG b with
   | false =>
    have hne : ((250 : Int) != 0) = true := rfl
    have hall2 : bs.all AG = false := by
     rw [Bool.eq_false_iff]
     intro h
     have := List.all_eq_true.1 h b (List.mem_of_getElem? HB.out)
     rw [hbb] at this; cases this
    have HE2 := qh (HE.out w2 HW2.out hall2)
    have hcd : AP false 250 = 250 := rfl
    rw [hcd]
    clear hall2 hbb
    go_wp2_with fail
    exact HE2.out
   | true =>
    have hcd : AP true 250 = 0 := rfl
    rw [hcd]
    have hall2 : (bs.take (i + 1)).all AG = true := by
     rw [HTK.out, List.all_append, hall.out]; simp [hbb]
    have HALL2 := qh hall2
    have hown0 := DO hP.out.own HB02.out
    rw [HLT.out] at hown0
    have hbsz := HB02.out.size
    have hWsz := hW.out.size
    have HO := qh (hown0.alloc (.cells #[E8 A wr.heap.size] 92))
    have HO0 := qh hown0
    clear hall2 hbb hcd hown0
    unfold E8 at HO
    go_wp2_with (at_builtin; refine wpList_append_own _ rfl _ _ 89 rfl w.heap.size 92 i0 (.agg #[.nilFunc]) 1 8 Tryz.underlying89 hi0 hz0 hz1 hz2 rfl (by decide) u6 i (Bs.map (E8 A)) rfl HO.out ⟨w2.heap.size, 0, none⟩ 1 1 [E8 A wr.heap.size] rfl rfl (cell_one_new _ _ _) (by intro u hu; simp at hu; subst hu; rfl) (by simp only [maxLen]; omega) (by omega) (by simp; omega) ?_; intro v' w4 hown hgrow _)
    have hge := DW HO0.out
    have hbz : Below w.heap.size w w4 := by
     refine (HW2.out.alloc HW2.out.size (.cells #[E8 A wr.heap.size] 92)).grown hgrow (by simp; have := HW2.out.size; omega) hge
    have hks : ∀ (B : Nat) (cs : Array Value), w2.heap[B]? = some (.cells cs 35 (0, 0)) → w4.heap[B]? = some (.cells cs 35 (0, 0)) := fun B cs hB =>
     Gl ((Below.heap_alloc w2 (.cells #[E8 A wr.heap.size] 92) B (qs.1 hB).1).trans hB) HO.out (by decide) hgrow
    have hP2 : PeopleW w.heap.size A (bs.take (i + 1)) v' (Bs ++ [wr.heap.size]) w4 := by
     have hl1 : (bs.take (i + 1)).length = i + 1 := by rw [HTK.out, List.length_append, HLT.out]; rfl
     have hl2 : Bs.length = i := hP.out.len.trans HLT.out
     refine ⟨by rw [hl1, List.map_append]; exact hown, by rw [hl1, List.length_append, hl2]; rfl, fun q b' B hq hB => ?_⟩
     by_cases hqi : q < i
     ·rw [HTK.out, List.getElem?_append_left (by rw [HLT.out]; exact hqi)] at hq
      rw [List.getElem?_append_left (by rw [hl2]; exact hqi)] at hB
      have h0 := hP.out.at_ q b' B hq hB
      exact hks B _ ((HB02.out.block B (qs.1 h0).1).trans h0)
     ·have hqe : q = i := by
       have := (ql.1 hq).1
       omega
      subst hqe
      rw [HTK.out, List.getElem?_append_right (by rw [HLT.out]; exact qn _), HLT.out, Nat.sub_self] at hq
      rw [List.getElem?_append_right (by rw [hl2]; exact qn _), hl2, Nat.sub_self] at hB
      have e1 : b = b' := by simpa using hq
      have e2 : wr.heap.size = B := by simpa using hB
      subst e1 e2
      exact hks _ _ HY0.out
    have HP2 := qh hP2; have HBZ := qh hbz
    clear hown hgrow hks hP2 hbz hge
    go_roundw
    case rel =>
     exact ⟨i + 1, Bs ++ [wr.heap.size], rfl, by omega, by go_num, HALL2, HP2, HBZ⟩
    case measure => simp [intOf]; omega
  ·obtain rfl : i = nb := by omega
   have hi' : ¬ (i : Int) < (i : Int) := by omega
   have htk : bs.take i = bs := List.take_of_length_le (by rw [HBL.out]; exact qn _)
   rw [htk] at hall hP
   clear htk
   go_wp2_with fail
   exact HX.out _ _ Bs _ _ _ _ _ _ _ _ _ _ _ _ _ _ _ _ _ _ _ hW.out hall.out hP.out
end
end Go.Proofs.YtggcbblikgankaaGreatDoor
