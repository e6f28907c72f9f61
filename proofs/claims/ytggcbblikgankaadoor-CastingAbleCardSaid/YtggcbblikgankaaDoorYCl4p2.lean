/- The walk of the statement: part 2. -/
import Derived.Test.YtggcbblikgankaaDoorZ45
import Derived.Test.YtggcbblikgankaaDoorYCl4p1
import Derived.Test.YtggcbblikgankaaDoorZ48
import Derived.Test.YtggcbblikgankaaDoorZ46
import Derived.Deep.MidRow
set_option linter.unusedVariables false
set_option linter.unusedSimpArgs false
section
namespace Go.Proofs.YtggcbblikgankaaDoor
open Go Go.RowKit Go.Deep
theorem cost_own' {k : Wrk} {s : Sgn} {b : Bod} (hk : wrkE k = 0) (hs : s ∈ k.signs) (hb : bodB b = true) {o : Rea} {l : List Rea} (h : optR k s.id b = o :: l) : costE k s.id o = 0 := by
 obtain ⟨h1, h2⟩ := idF_own (wrk_sorted hk) hs
 rw [(opt_own hk hs hb).2] at h
 obtain ⟨h3, h4, _⟩ := (opt_facts hk hs hb).form 0 o (by rw [h]; rfl)
 unfold costE
 rw [if_neg (by simpa using hk), if_pos h1, h2, h4, h3]
 simp
theorem encB_range {w : World} {b o kk : Nat} {bs : List Bod} {x : Bod} (h : AtRow encB 17 w b o bs) (hx : bs[kk]? = some x) : w.rangeAt b (o + kk * 17) (encB x) := fun j v hv => h kk x hx j v hv
set_option maxRecDepth 100000 in
set_option maxHeartbeats 8000000 in
theorem able_any (k : Wrk) (b : Bod) (role : Int) (hk : wrkE k = 0) (hb : bodB b = true) (hbn : b.name.length ≤ maxLen) (hsg : k.signs.length ≤ 1048576) (ws : Array Value) (A B5 : Nat) (aB : Option Addr) (nb cB kk : Nat) (bs : List Bod) (hbl : bs.length = nb) (hbk : bs[kk]? = some b) (w : World) (hE : Env w) (hz : 2 ≤ w.heap.size) (hWk : WkAt k ws w) (hA : w.heap[A]? = some (.cells ws 32 (0, 0))) (hB : w.cell? ⟨B5, 0, none⟩ = some (.slice aB nb cB)) (hBl : B5 < w.heap.size) (hrowB : IsRow encB 17 w (.slice aB nb cB) bs) :
  Calls Tryd.prog 40 #[.int .i64 role, .int .i64 kk, .pointer (some ⟨A, 0, none⟩), .pointer (some ⟨B5, 0, none⟩)] w fun e w' => e = .returned (.int .i64 (priceM k b role k.signs 0)) ∧ Below w.heap.size w w' := by
 have hkn : kk < nb := by rw [← hbl]; exact (List.getElem?_eq_some_iff.1 hbk).1
 have hkn' : (kk : Int) < (nb : Int) := by omega
 obtain ⟨bb, bo, eB, hatB, hbbl⟩ := hrowB.block hbk
 subst eB
 have hrg := encB_range hatB hbk
 have HOE := Lib.hid (fun x (hx : x ∈ k.signs) => (opt_own hk hx hb).1)
 have HCE := Lib.hid (fun x (hx : x ∈ k.signs) o l (h : optR k x.id b = o :: l) => cost_own' hk hx hb h)
 have HRG := Lib.hid hrg
 clear hatB hrg hrowB hbk hbl hk hb
 have hOPT := fun (n : Int) (W : World) (hb : Below w.heap.size w W) => (hWk.below hb (Nat.le_refl _)).options (Env.two hE hz hb) (Nat.le_trans hz hb.size) n b hbn
 have hCOST := fun (n : Int) (r : Rea) (W : World) (hb : Below w.heap.size w W) => (hWk.below hb (Nat.le_refl _)).cost (Env.two hE hz hb) n r
 have hsz := hWk.size
 have hAl := (Array.getElem?_eq_some_iff.1 hA).1
 obtain ⟨cS, n, aS, hcS, hrow, hn⟩ : ∃ (cS n : Nat) (aS : Option Addr), w.cell? ⟨A, 10, none⟩ = some (.slice aS n cS) ∧ IsRow encS 14 w (.slice aS n cS) k.signs ∧ k.signs.length = n := by
  obtain ⟨aR, aT, aP, aX, aS, cR, cT, cP, cX, cS, rfl, _, _, _, _, hS⟩ := hWk
  exact ⟨cS, k.signs.length, aS, cell_at hA 10 rfl, hS, rfl⟩
 have HOPT := Lib.hid hOPT; have HCOST := Lib.hid hCOST; have HSZ := Lib.hid hsz; have HA := Lib.hid hA; have HB := Lib.hid hB; have HROW := Lib.hid hrow; have HN := Lib.hid hn
 have hnm : n ≤ 1048576 := by have := HN.out; omega
 clear hOPT hCOST hsz hA hB hrow hn hWk hE
 go_enter Tryd.func40, Tryd.ntmps40
 go_wp2_with fail
 go_loopw [6, 16] (fun sv iv wr => ∃ (i : Nat) (s : Int), i ≤ n ∧ iv = .int .i64 i ∧ sv = .int .i64 s ∧ 0 ≤ s ∧ s ≤ 64 * i ∧ Hid (priceM k b role (k.signs.drop i) s = priceM k b role k.signs 0) ∧ Hid (Below w.heap.size w wr)) (fun _ iv _ => n - (intOf iv).toNat)
 case atStart => exact ⟨0, 0, Nat.zero_le _, rfl, rfl, Int.le_refl _, by omega, Lib.hid rfl, Lib.hid (Below.refl _ _)⟩
 case round =>
  obtain ⟨i, s, hin, rfl, rfl, hs0, hs1, hP, hW⟩ := hrel
  by_cases hi : i < n
  ·obtain ⟨x, hx⟩ : ∃ x, k.signs[i]? = some x := ⟨_, List.getElem?_eq_getElem (by rw [HN.out]; exact hi)⟩
   have hd : k.signs.drop i = x :: k.signs.drop (i + 1) := by
    obtain ⟨h1, h2⟩ := List.getElem?_eq_some_iff.1 hx
    rw [List.drop_eq_getElem_cons h1, h2]
   have hp2 := hP.out
   rw [hd, priceM_cons] at hp2
   obtain ⟨b1, o1, hp1, hat, hb1⟩ := (HROW.out.below hW.out (Nat.le_refl _)).block hx
   subst hp1
   have p0 : wr.cell? ⟨b1, o1 + i * 14, none⟩ = some (.int .i64 x.id) := hat i x hx 0 _ rfl
   have p1 : wr.cell? ⟨b1, o1 + i * 14 + 1, none⟩ = some (.int .i64 x.role) := hat i x hx 1 _ rfl
   have p2 : wr.cell? ⟨b1, o1 + i * 14 + 2, none⟩ = some (.int .i64 x.bar) := hat i x hx 2 _ rfl
   have p3 : wr.cell? ⟨b1, o1 + i * 14 + 3, none⟩ = some (.int .i64 x.mark) := hat i x hx 3 _ rfl
   have p4 : wr.cell? ⟨b1, o1 + i * 14 + 4, none⟩ = some (.int .i64 x.kind) := hat i x hx 4 _ rfl
   have p5 : wr.cell? ⟨b1, o1 + i * 14 + 5, none⟩ = some (.int .i64 x.side) := hat i x hx 5 _ rfl
   have p6 : wr.cell? ⟨b1, o1 + i * 14 + 6, none⟩ = some (.int .i64 x.dir) := hat i x hx 6 _ rfl
   have p7 : wr.cell? ⟨b1, o1 + i * 14 + 7, none⟩ = some (.int .i64 x.level) := hat i x hx 7 _ rfl
   have p8 : wr.cell? ⟨b1, o1 + i * 14 + 8, none⟩ = some (.int .i64 x.size) := hat i x hx 8 _ rfl
   have p9 : wr.cell? ⟨b1, o1 + i * 14 + 9, none⟩ = some (.int .i64 x.wth) := hat i x hx 9 _ rfl
   have p10 : wr.cell? ⟨b1, o1 + i * 14 + 10, none⟩ = some (.int .i64 x.fn) := hat i x hx 10 _ rfl
   have p11 : wr.cell? ⟨b1, o1 + i * 14 + 11, none⟩ = some (.int .i64 x.fd) := hat i x hx 11 _ rfl
   have p12 : wr.cell? ⟨b1, o1 + i * 14 + 12, none⟩ = some (.int .i64 x.tn) := hat i x hx 12 _ rfl
   have p13 : wr.cell? ⟨b1, o1 + i * 14 + 13, none⟩ = some (.int .i64 x.td) := hat i x hx 13 _ rfl
   have hi' : (i : Int) < (n : Int) := by omega
   have hW1 : Below w.heap.size w (wr.alloc (.cells (sgnA x) 41)) := hW.out.alloc hW.out.size _
   have x0 : (wr.alloc (.cells (sgnA x) 41)).cell? ⟨wr.heap.size, 0, none⟩ = some (.int .i64 x.id) := cell_at (heap_alloc_new wr _) 0 rfl
   have x1 : (wr.alloc (.cells (sgnA x) 41)).cell? ⟨wr.heap.size, 1, none⟩ = some (.int .i64 x.role) := cell_at (heap_alloc_new wr _) 1 rfl
   have HSA : Hid ((sgnA x).all (·.oneCell') = true) := Lib.hid (by simp [sgnA, Value.oneCell'])
   have HX := Lib.hid hx; have HP2 := Lib.hid hp2; have HW1 := Lib.hid hW1
   have X0 := Lib.hid (heap_alloc_new wr (.cells (sgnA x) 41))
   clear hx hp2 hW1 hat hb1 hd hP
   have hA1 := (Below.heap_alloc wr (.cells (sgnA x) 41) A (Nat.lt_of_lt_of_le hAl hW.out.size)).trans ((hW.out.block A hAl).trans HA.out)
   have hB1 : (wr.alloc (.cells (sgnA x) 41)).cell? ⟨B5, 0, none⟩ = some (.slice (some ⟨bb, bo, none⟩) nb cB) := (HW1.out.cell (p := ⟨B5, 0, none⟩) hBl).trans HB.out
   have hG1 : (wr.alloc (.cells (sgnA x) 41)).rangeAt bb (bo + kk * 17) (encB b) := fun j v hv => (HW1.out.cell (p := ⟨bb, bo + kk * 17 + j, none⟩) hbbl).trans (HRG.out j v hv)
   have hxm : x ∈ k.signs := List.mem_of_getElem? HX.out
   have hoe := HOE.out x hxm
   have hce := HCE.out x hxm
   have HOE1 := Lib.hid hoe; have HCE1 := Lib.hid hce
   clear hxm hoe hce
   have GA := Lib.hid hA1; have GB := Lib.hid hB1; have GR := Lib.hid hG1
   clear hA1 hB1 hG1
   by_cases hr : x.role = role
   ·have hne : (x.role != role) = false := by simp [hr]
    have HR := Lib.hid hr
    have hP3 := HP2.out
    rw [if_pos hr] at hP3
    have HP3 := Lib.hid hP3
    clear hr hP3 HP2
    go_wp2_with (first | (refine wpList_store_row rfl 41 _ _ rfl wr.heap.size (sgnA x) rfl rfl 41 _ (heap_alloc_new wr _) (by kernel_rfl) rfl HSA.out ?_; rw [World.setRow_alloc_new]))
    refine wp_region_noPanic ?_
    refine wp_region_held (S := fun w3 => w3.heap[A]? = some (.cells ws 32 (0, 0)) ∧ w3.cell? ⟨wr.heap.size, 0, none⟩ = some (.int .i64 x.id) ∧ w3.cell? ⟨B5, 0, none⟩ = some (.slice (some ⟨bb, bo, none⟩) nb cB) ∧ w3.rangeAt bb (bo + kk * 17) (encB b)) (by kernel_rfl) ?_
    generalize hV1 : wr.alloc (.cells (sgnA x) 41) = V1 at *
    change wpAnyH _ _ _ _ _ _ _ _ V1.drew
    have hS0 : (fun w3 : World => w3.heap[A]? = some (.cells ws 32 (0, 0)) ∧ w3.cell? ⟨wr.heap.size, 0, none⟩ = some (.int .i64 x.id) ∧ w3.cell? ⟨B5, 0, none⟩ = some (.slice (some ⟨bb, bo, none⟩) nb cB) ∧ w3.rangeAt bb (bo + kk * 17) (encB b)) V1.drew := ⟨GA.out, x0, GB.out, GR.out⟩
    refine wpAnyH_take (i := 0) (oi := _) (v := .agg ws) rfl (by kernel_rfl) (by kernel_rfl) (by kernel_rfl) (fun _ _ _ h => h) (yieldsIf_rowH rfl 32 _ rfl A rfl 32 ws (0, 0) _ (fun _ h => h.1) Tryd.underlying32 rfl HSZ.out) hS0 ?_
    simp only [Act.put, List.setIfInBounds_toArray, List.set_cons_zero, List.set_cons_succ]
    refine wpAnyH_take (i := 1) (oi := _) (v := .pointer (some ⟨wr.heap.size, 0, none⟩)) rfl (by kernel_rfl) (by kernel_rfl) (by kernel_rfl) (fun _ _ _ h => h) (Or.inl ⟨by rfl, fun w hw => by obtain ⟨h1, h2, h3, h4⟩ := hw; go_simp⟩) hS0 ?_
    simp only [Act.put, List.setIfInBounds_toArray, List.set_cons_zero, List.set_cons_succ]
    refine wpAnyH_take (i := 2) (oi := _) (v := .int .i64 x.id) rfl (by kernel_rfl) (by kernel_rfl) (by kernel_rfl) (fun _ _ _ h => h) (Or.inl ⟨by rfl, fun w hw => by obtain ⟨h1, h2, h3, h4⟩ := hw; go_simp⟩) hS0 ?_
    simp only [Act.put, List.setIfInBounds_toArray, List.set_cons_zero, List.set_cons_succ]
    refine wpAnyH_take (i := 3) (oi := _) (v := .slice (some ⟨bb, bo, none⟩) nb cB) rfl (by kernel_rfl) (by kernel_rfl) (by kernel_rfl) (fun _ _ _ h => h) (Or.inl ⟨by rfl, fun w hw => by obtain ⟨h1, h2, h3, h4⟩ := hw; go_simp⟩) hS0 ?_
    simp only [Act.put, List.setIfInBounds_toArray, List.set_cons_zero, List.set_cons_succ]
    refine wpAnyH_take (i := 4) (oi := _) (v := .int .i64 kk) rfl (by kernel_rfl) (by kernel_rfl) (by kernel_rfl) (fun _ _ _ h => h) (Or.inl ⟨by rfl, fun w hw => by obtain ⟨h1, h2, h3, h4⟩ := hw; go_simp⟩) hS0 ?_
    simp only [Act.put, List.setIfInBounds_toArray, List.set_cons_zero, List.set_cons_succ]
    refine wpAnyH_take (i := 5) (oi := _) (v := .pointer (some ⟨bb, bo + kk * 17, none⟩)) rfl (by kernel_rfl) (by kernel_rfl) (by kernel_rfl) (fun _ _ _ h => h) (Or.inl ⟨by rfl, fun w hw => by obtain ⟨h1, h2, h3, h4⟩ := hw; go_simp⟩) hS0 ?_
    simp only [Act.put, List.setIfInBounds_toArray, List.set_cons_zero, List.set_cons_succ]
    refine wpAnyH_take (i := 6) (oi := _) (v := .agg (encB b).toArray) rfl (by kernel_rfl) (by kernel_rfl) (by kernel_rfl) (fun _ _ _ h => h) (yieldsIf_load_mid rfl 36 _ rfl bb (bo + kk * 17) rfl (encB b) _ (fun _ h => h.2.2.2) Tryd.underlying36 rfl (by kernel_rfl)) hS0 ?_
    simp only [Act.put, List.setIfInBounds_toArray, List.set_cons_zero, List.set_cons_succ]
    refine wpAnyH_ready (rs := [7]) (by kernel_rfl) (by simp) ?_
    refine AllReadyH.cons (o := _) rfl (fun K1 hK => ?_) AllReadyH.nil
    go_simp
    have HOQ := Lib.hid (HOPT.out x.id V1.drew HW1.out.drew)
    refine HOQ.out.mono ?_
    rintro e w2 ⟨v, rfl, ho, hb2⟩
    obtain ⟨ao, c, rfl, hlm, _⟩ := owns_isRow encRea_len ho rfl
    rw [HOE1.out]
    have hW2 := HW1.out.drew.trans (hb2.mono HW1.out.drew.size)
    have hs2 : V1.heap.size = wr.heap.size + 1 := by rw [← hV1]; simp
    have hwz := hW.out.size
    have y0 : w2.cell? ⟨wr.heap.size, 0, none⟩ = some (.int .i64 x.id) := (hb2.cell (p := ⟨wr.heap.size, 0, none⟩) (by show wr.heap.size < V1.heap.size; omega)).trans x0
    have hwl : wr.heap.size < w2.heap.size := by have h9 : V1.heap.size ≤ w2.heap.size := hb2.size; omega
    have yA : w2.heap[A]? = some (.cells ws 32 (0, 0)) := (hb2.block A (by show A < V1.heap.size; omega)).trans GA.out
    have yB : w2.cell? ⟨B5, 0, none⟩ = some (.slice (some ⟨bb, bo, none⟩) nb cB) := (hb2.cell (p := ⟨B5, 0, none⟩) (by show B5 < V1.heap.size; omega)).trans GB.out
    have yR : w2.rangeAt bb (bo + kk * 17) (encB b) := fun j v hv => (hb2.cell (p := ⟨bb, bo + kk * 17 + j, none⟩) (by show bb < V1.heap.size; omega)).trans (GR.out j v hv)
    have hS2 : (fun w3 : World => w3.heap[A]? = some (.cells ws 32 (0, 0)) ∧ w3.cell? ⟨wr.heap.size, 0, none⟩ = some (.int .i64 x.id) ∧ w3.cell? ⟨B5, 0, none⟩ = some (.slice (some ⟨bb, bo, none⟩) nb cB) ∧ w3.rangeAt bb (bo + kk * 17) (encB b)) w2 := ⟨yA, y0, yB, yR⟩
    refine hK.out _ _ hS2 (fun _ => ?_)
    clear hK K1
    have HO := Lib.hid ho; have HW2 := Lib.hid hW2; have YA := Lib.hid yA
    clear ho hb2 hW2 GA GB GR x0 x1 X0 HW1 HSA p0 p1 p2 p3 p4 p5 p6 p7 p8 p9 p10 p11 p12 p13 hs2 yA yB yR HOQ hS0
    refine wpAnyH_take (i := 8) (oi := _) (v := .tuple #[.slice ao (optR k x.id b).length c, .int .i64 0]) rfl (by kernel_rfl) (by kernel_rfl) (by kernel_rfl) (fun _ _ _ h => h) (Or.inl ⟨by rfl, fun w hw => by go_simp⟩) hS2 ?_
    simp only [Act.put, List.setIfInBounds_toArray, List.set_cons_zero, List.set_cons_succ]
    refine wpAnyH_take (i := 9) (oi := _) (v := .slice ao (optR k x.id b).length c) rfl (by kernel_rfl) (by kernel_rfl) (by kernel_rfl) (fun _ _ _ h => h) (Or.inl ⟨by rfl, fun w hw => by go_simp⟩) hS2 ?_
    simp only [Act.put, List.setIfInBounds_toArray, List.set_cons_zero, List.set_cons_succ]
    refine wpAnyH_take (i := 10) (oi := _) (v := .int .i64 0) rfl (by kernel_rfl) (by kernel_rfl) (by kernel_rfl) (fun _ _ _ h => h) (Or.inl ⟨by rfl, fun w hw => by go_simp⟩) hS2 ?_
    simp only [Act.put, List.setIfInBounds_toArray, List.set_cons_zero, List.set_cons_succ]
    refine wpAnyH_take (i := 11) (oi := _) (v := .slice ao (optR k x.id b).length c) rfl (by kernel_rfl) (by kernel_rfl) (by kernel_rfl) (fun _ _ _ h => h) (Or.inl ⟨by rfl, fun w hw => by go_simp⟩) hS2 ?_
    simp only [Act.put, List.setIfInBounds_toArray, List.set_cons_zero, List.set_cons_succ]
    refine wpAnyH_take (i := 12) (oi := _) (v := .int .i64 0) rfl (by kernel_rfl) (by kernel_rfl) (by kernel_rfl) (fun _ _ _ h => h) (Or.inl ⟨by rfl, fun w hw => by go_simp⟩) hS2 ?_
    simp only [Act.put, List.setIfInBounds_toArray, List.set_cons_zero, List.set_cons_succ]
    refine wpAnyH_done (by kernel_rfl) ?_ _
    refine NoPanic.normal ?_
    clear hS2
    skip
    ·rcases hl : optR k x.id b with _ | ⟨o, l⟩
     ·have HP4 := HP3.out
      rw [hl] at HP4 HO
      have HP5 := Lib.hid HP4
      clear HP4 hl
      go_wp2_with fail
      go_ret
      exact ⟨by rw [← HP5.out]; rfl, HW2.out⟩
     ·have HP4 := HP3.out
      have hrow := owns_isRow encRea_len HO.out rfl
      rw [hl] at HP4 hrow
      have HP5 : Hid (priceM k b role (k.signs.drop (i + 1)) (s + costI k x.id o) = priceM k b role k.signs 0) := Lib.hid HP4
      have hll : (o :: l).length = l.length + 1 := rfl
      rw [hll] at hrow
      have hr0 : (o :: l)[0]? = some o := rfl
      obtain ⟨g, og, eg, hat, hgl⟩ := hrow.block hr0
      subst eg
      obtain ⟨q0, q1, q2, q3⟩ := atRea hat hr0
      rw [hll]
      have hln : ((l.length + 1 : Nat) : Int) ≠ 0 := by omega
      have hln2 : (((l.length : Int) + 1) == 0) = false := by simp; omega
      have hce0 := HCE1.out o l hl
      clear HP4 hl hrow hr0 hat hll HO
      generalize l.length = ll at *
      go_wp2_with fail
      have hcost := HCOST.out x.id o
      have hcb := costI_bd k x.id o
      have HCC := Lib.hid hcost
      clear hcost
      generalize costI k x.id o = ci at *
      generalize costE k x.id o = ce at *
      subst hce0
      refine wp_region_noPanic ?_
      refine wp_region_held (S := fun w3 => w3.heap[A]? = some (.cells ws 32 (0, 0)) ∧ w3.cell? ⟨wr.heap.size, 0, none⟩ = some (.int .i64 x.id) ∧ w3.cell? ⟨g, og, none⟩ = some (.int .i64 o.sign) ∧ w3.cell? ⟨g, og + 1, none⟩ = some (.int .i64 o.dir) ∧ w3.cell? ⟨g, og + 2, none⟩ = some (.int .i64 o.level) ∧ w3.cell? ⟨g, og + 3, none⟩ = some (.bool o.drop)) (by kernel_rfl) ?_
      change wpAnyH _ _ _ _ _ _ _ _ w2.drew
      have hS0 : w2.drew.heap[A]? = some (.cells ws 32 (0, 0)) ∧ w2.drew.cell? ⟨wr.heap.size, 0, none⟩ = some (.int .i64 x.id) ∧ w2.drew.cell? ⟨g, og, none⟩ = some (.int .i64 o.sign) ∧ w2.drew.cell? ⟨g, og + 1, none⟩ = some (.int .i64 o.dir) ∧ w2.drew.cell? ⟨g, og + 2, none⟩ = some (.int .i64 o.level) ∧ w2.drew.cell? ⟨g, og + 3, none⟩ = some (.bool o.drop) := ⟨YA.out, y0, q0, q1, q2, q3⟩
      refine wpAnyH_take (i := 0) (oi := _) (v := .agg ws) rfl (by kernel_rfl) (by kernel_rfl) (by kernel_rfl) (fun _ _ _ h => h) (yieldsIf_rowH rfl 32 _ rfl A rfl 32 ws (0, 0) _ (fun _ h => h.1) Tryd.underlying32 rfl HSZ.out) hS0 ?_
      simp only [Act.put, List.setIfInBounds_toArray, List.set_cons_zero, List.set_cons_succ]
      refine wpAnyH_take (i := 1) (oi := _) (v := .pointer (some ⟨wr.heap.size, 0, none⟩)) rfl (by kernel_rfl) (by kernel_rfl) (by kernel_rfl) (fun _ _ _ h => h) (Or.inl ⟨by rfl, fun w hw => by obtain ⟨h1, h2, h3, h4, h5, h6⟩ := hw; go_simp⟩) hS0 ?_
      simp only [Act.put, List.setIfInBounds_toArray, List.set_cons_zero, List.set_cons_succ]
      refine wpAnyH_take (i := 2) (oi := _) (v := .int .i64 x.id) rfl (by kernel_rfl) (by kernel_rfl) (by kernel_rfl) (fun _ _ _ h => h) (Or.inl ⟨by rfl, fun w hw => by obtain ⟨h1, h2, h3, h4, h5, h6⟩ := hw; go_simp⟩) hS0 ?_
      simp only [Act.put, List.setIfInBounds_toArray, List.set_cons_zero, List.set_cons_succ]
      refine wpAnyH_take (i := 3) (oi := _) (v := .slice (some ⟨g, og, none⟩) (ll + 1) c) rfl (by kernel_rfl) (by kernel_rfl) (by kernel_rfl) (fun _ _ _ h => h) (Or.inl ⟨by rfl, fun w hw => by obtain ⟨h1, h2, h3, h4, h5, h6⟩ := hw; go_simp⟩) hS0 ?_
      simp only [Act.put, List.setIfInBounds_toArray, List.set_cons_zero, List.set_cons_succ]
      refine wpAnyH_take (i := 4) (oi := _) (v := .pointer (some ⟨g, og, none⟩)) rfl (by kernel_rfl) (by kernel_rfl) (by kernel_rfl) (fun _ _ _ h => h) (Or.inl ⟨by rfl, fun w hw => by obtain ⟨h1, h2, h3, h4, h5, h6⟩ := hw; go_simp⟩) hS0 ?_
      simp only [Act.put, List.setIfInBounds_toArray, List.set_cons_zero, List.set_cons_succ]
      refine wpAnyH_take (i := 5) (oi := _) (v := .agg #[.int .i64 o.sign, .int .i64 o.dir, .int .i64 o.level, .bool o.drop]) rfl (by kernel_rfl) (by kernel_rfl) (by kernel_rfl) (fun _ _ _ h => h) (Or.inl ⟨by rfl, fun w hw => by obtain ⟨h1, h2, h3, h4, h5, h6⟩ := hw; go_simp⟩) hS0 ?_
      simp only [Act.put, List.setIfInBounds_toArray, List.set_cons_zero, List.set_cons_succ]
      refine wpAnyH_ready (rs := [6]) (by kernel_rfl) (by simp) ?_
      refine AllReadyH.cons (o := _) rfl (fun K1 hK => ?_) AllReadyH.nil
      go_simp
      refine (HCC.out w2.drew HW2.out.drew).mono ?_
      rintro e w7 ⟨rfl, hb7⟩
      have hS1 : w7.heap[A]? = some (.cells ws 32 (0, 0)) ∧ w7.cell? ⟨wr.heap.size, 0, none⟩ = some (.int .i64 x.id) ∧ w7.cell? ⟨g, og, none⟩ = some (.int .i64 o.sign) ∧ w7.cell? ⟨g, og + 1, none⟩ = some (.int .i64 o.dir) ∧ w7.cell? ⟨g, og + 2, none⟩ = some (.int .i64 o.level) ∧ w7.cell? ⟨g, og + 3, none⟩ = some (.bool o.drop) :=
       ⟨(hb7.block A (Array.getElem?_eq_some_iff.1 YA.out).1).trans YA.out, (hb7.cell (p := ⟨wr.heap.size, 0, none⟩) hwl).trans y0, (hb7.cell (p := ⟨g, og, none⟩) hgl).trans q0, (hb7.cell (p := ⟨g, og + 1, none⟩) hgl).trans q1, (hb7.cell (p := ⟨g, og + 2, none⟩) hgl).trans q2, (hb7.cell (p := ⟨g, og + 3, none⟩) hgl).trans q3⟩
      have HW7 := Lib.hid (HW2.out.drew.trans (hb7.mono HW2.out.drew.size))
      refine hK.out _ _ hS1 (fun _ => ?_)
      clear hK K1 hS0 hb7
      refine wpAnyH_take (i := 7) (oi := _) (v := .tuple #[.int .i64 ci, .int .i64 0]) rfl (by kernel_rfl) (by kernel_rfl) (by kernel_rfl) (fun _ _ _ h => h) (Or.inl ⟨by rfl, fun w hw => by go_simp⟩) hS1 ?_
      simp only [Act.put, List.setIfInBounds_toArray, List.set_cons_zero, List.set_cons_succ]
      refine wpAnyH_take (i := 8) (oi := _) (v := .int .i64 ci) rfl (by kernel_rfl) (by kernel_rfl) (by kernel_rfl) (fun _ _ _ h => h) (Or.inl ⟨by rfl, fun w hw => by go_simp⟩) hS1 ?_
      simp only [Act.put, List.setIfInBounds_toArray, List.set_cons_zero, List.set_cons_succ]
      refine wpAnyH_take (i := 9) (oi := _) (v := .int .i64 0) rfl (by kernel_rfl) (by kernel_rfl) (by kernel_rfl) (fun _ _ _ h => h) (Or.inl ⟨by rfl, fun w hw => by go_simp⟩) hS1 ?_
      simp only [Act.put, List.setIfInBounds_toArray, List.set_cons_zero, List.set_cons_succ]
      refine wpAnyH_take (i := 10) (oi := _) (v := .int .i64 ci) rfl (by kernel_rfl) (by kernel_rfl) (by kernel_rfl) (fun _ _ _ h => h) (Or.inl ⟨by rfl, fun w hw => by go_simp⟩) hS1 ?_
      simp only [Act.put, List.setIfInBounds_toArray, List.set_cons_zero, List.set_cons_succ]
      refine wpAnyH_take (i := 11) (oi := _) (v := .int .i64 0) rfl (by kernel_rfl) (by kernel_rfl) (by kernel_rfl) (fun _ _ _ h => h) (Or.inl ⟨by rfl, fun w hw => by go_simp⟩) hS1 ?_
      simp only [Act.put, List.setIfInBounds_toArray, List.set_cons_zero, List.set_cons_succ]
      refine wpAnyH_done (by kernel_rfl) ?_ _
      refine NoPanic.normal ?_
      clear hS1 q0 q1 q2 q3 y0 YA
      go_wp2_with fail
      go_roundw
      case rel => exact ⟨i + 1, s + ci, by omega, by go_num, rfl, by omega, by omega, HP5, HW7⟩
      case measure => simp [intOf]; omega
   ·have hne : (x.role != role) = true := by simpa using hr
    have hP3 := HP2.out
    rw [if_neg hr] at hP3
    have HP3 := Lib.hid hP3
    clear hr hP3 HP2 GA GB
    go_wp2_with (refine wpList_store_row rfl 41 _ _ rfl wr.heap.size (sgnA x) rfl rfl 41 _ (heap_alloc_new wr _) (by kernel_rfl) rfl HSA.out ?_; rw [World.setRow_alloc_new])
    go_roundw
    case rel => exact ⟨i + 1, s, by omega, by go_num, rfl, hs0, by omega, HP3, HW1⟩
    case measure => simp [intOf]; omega
  ·obtain rfl : i = n := by omega
   have hi' : ¬ (i : Int) < (i : Int) := by omega
   have hp := hP.out
   rw [List.drop_eq_nil_of_le (by rw [HN.out]; exact Nat.le_refl _)] at hp
   have HP := Lib.hid (show s = priceM k b role k.signs 0 from hp)
   clear hp hP
   go_wp2_with fail
   go_ret
   exact ⟨by rw [← HP.out]; rfl, hW.out⟩
end Go.Proofs.YtggcbblikgankaaDoor
end
section
namespace Go.Proofs.YtggcbblikgankaaDoor
open Go Go.RowKit Go.Deep
theorem first_cast {n m : Nat} {c : Nat → Nat → Int} {best : Int} {t : Nat → Nat} {taken : List Bool} (h : FirstOk n m c best n t taken) : CastN n m c t ∧ sumT (fun r => c r (t r)) n = best := by
 obtain ⟨s, h1, h2, h3⟩ := h.ex
 refine ⟨⟨h.pre.lt, h.pre.ok, h.pre.inj⟩, ?_⟩
 rw [← h3]
 exact sumT_congr fun r hr => by rw [h2 r hr]
theorem castE_zero {cost : List (List Int)} (m : Nat) (h1 : cost.length ≤ 16) (hm : m ≤ 16) (hr : ∀ r ∈ cost, r.length = m ∧ ∀ x ∈ r, -1 ≤ x ∧ x ≤ 1048576) : castE cost = 0 := by
 have h2 : longB cost = false := by
  unfold longB
  rw [List.any_eq_false]
  intro r hrm
  have := (hr r hrm).1
  simp
  omega
 have h3 : cost.any (badB (widN cost)) = false := by
  rw [List.any_eq_false]
  intro r hrm
  have hw : widN cost = m := by
   unfold widN
   cases cost with
   | nil => cases hrm
   | cons a l => exact (hr a (by simp)).1
  have h4 := hr r hrm
  unfold badB
  rw [hw, decide_eq_false (by omega : ¬ r.length ≠ m), Bool.false_or]
  rw [Bool.not_eq_true, List.any_eq_false]
  intro x hx
  have := h4.2 x hx
  unfold oddB
  simp
  omega
 unfold castE
 rw [if_neg (by rw [h2]; simp; omega), h3]
 rfl
section
variable {cost : List (List Int)} {k : Nat}
end
section
variable {cost : List (List Int)} {column : List Int}
end
end Go.Proofs.YtggcbblikgankaaDoor
end
section
namespace Go.Proofs.YtggcbblikgankaaDoor
open Go Go.RowKit Go.Deep
theorem priceM_bd (k : Wrk) (b : Bod) (role : Int) : ∀ (l : List Sgn) (s : Int), 0 ≤ s → -1 ≤ priceM k b role l s ∧ priceM k b role l s ≤ s + 64 * l.length
 | [], s, h => by
  show -1 ≤ s ∧ s ≤ s + 64 * ((0 : Nat) : Int)
  omega
 | x :: r, s, h => by
  rw [priceM_cons, List.length_cons]
  split
  ·split
   ·omega
   ·rename_i o l _
    have h1 := costI_bd k x.id o
    have h2 := priceM_bd k b role r (s + costI k x.id o) (by omega)
    push_cast
    omega
  ·have h2 := priceM_bd k b role r s h
   push_cast
   omega
theorem costs_facts {k : Wrk} {bs : List Bod} (h : costsE k bs = 0) : wrkE k = 0 ∧ 0 < k.roles.length ∧ k.roles.length ≤ 16 ∧ bs.length ≤ 16 ∧ (∀ b ∈ bs, bodB b = true) ∧ castE (costsM k bs) = 0 ∧ (costsM k bs).length = k.roles.length ∧ widN (costsM k bs) = bs.length ∧ (∀ i j b, i < k.roles.length → bs[j]? = some b → cI (costsM k bs) i j = priceM k b i k.signs 0) ∧ k.signs.length ≤ 4096 := by
 have hk : wrkE k = 0 := by
  unfold costsE at h
  by_cases hk : wrkE k = 0
  ·exact hk
  ·rw [if_pos hk] at h; exact absurd h hk
 unfold costsE at h
 rw [if_neg (by simpa using hk)] at h
 by_cases h16 : 16 < k.roles.length ∨ 16 < bs.length
 ·rw [if_pos h16] at h; cases h
 rw [if_neg h16] at h
 have hall : bs.all bodB = true := by
  by_cases hb : bs.all bodB = true
  ·exact hb
  ·rw [if_neg hb] at h; cases h
 have hw := hk
 unfold wrkE at hw
 have hlim : wrkLim k = true := by
  by_cases hl : wrkLim k = true
  ·exact hl
  ·rw [if_neg hl] at hw; cases hw
 rw [if_pos hlim] at hw
 have hwb : wrkB k = true := by
  by_cases hc : clkE k.clock = 0
  ·rw [if_neg (by simpa using hc)] at hw
   by_cases hb : wrkB k = true
   ·exact hb
   ·rw [if_neg hb] at hw; cases hw
  ·rw [if_pos hc] at hw; exact absurd hw hc
 have hne : k.roles ≠ [] := by
  unfold wrkB wrkHead at hwb
  simp only [Bool.and_eq_true, decide_eq_true_eq] at hwb
  exact hwb.1.1.2
 have hsg : k.signs.length ≤ 4096 := by
  unfold wrkLim at hlim
  simp only [Bool.and_eq_true, decide_eq_true_eq] at hlim
  exact hlim.2
 have h0 : 0 < k.roles.length := List.length_pos_iff.2 hne
 have hl : (costsM k bs).length = k.roles.length := by unfold costsM; simp
 have hrow : ∀ i, i < k.roles.length → (costsM k bs)[i]? = some (rowM k bs i) := fun i hi => by
  unfold costsM
  rw [List.getElem?_map, List.getElem?_range hi]; rfl
 have hrl : ∀ i : Nat, (rowM k bs i).length = bs.length := fun i => by unfold rowM; simp
 refine ⟨hk, h0, by omega, by omega, fun b hb => List.all_eq_true.1 hall b hb, ?_, hl, ?_, fun i j b hi hb => ?_, hsg⟩
 ·refine castE_zero bs.length (by omega) (by omega) fun r hr => ?_
  obtain ⟨i, hi⟩ := List.getElem?_of_mem hr
  have hil : i < k.roles.length := by rw [← hl]; exact (List.getElem?_eq_some_iff.1 hi).1
  rw [hrow i hil] at hi
  obtain rfl := Option.some.inj hi
  refine ⟨hrl i, fun x hx => ?_⟩
  unfold rowM at hx
  obtain ⟨b, _, rfl⟩ := List.mem_map.1 hx
  have := priceM_bd k b i k.signs 0 (Int.le_refl _)
  omega
 ·unfold widN
  rw [hrow 0 h0]
  exact hrl 0
 ·unfold cI gi
  rw [hrow i hi, Option.getD_some]
  unfold rowM
  rw [List.getElem?_map, hb]; rfl
set_option maxRecDepth 100000 in
set_option maxHeartbeats 8000000 in
theorem few38_any (k : Wrk) (nb : Nat) (ws : Array Value) (aB : Option Addr) (cB : Nat) (w : World) (hWk : WkAt k ws w) :
  Calls Tryd.prog 38 #[.agg ws, .slice aB nb cB] w fun e w' => e = .returned (.bool (fewB k && decide (nb ≤ 40))) ∧ Below w.heap.size w w' := by
 have hws := hWk.size
 obtain ⟨V, hV⟩ : ∃ V, w.alloc (.cells ws 32) = V := ⟨_, rfl⟩
 have hBV : Below w.heap.size w V := by rw [← hV]; exact (Below.refl _ w).alloc (Nat.le_refl _) _
 have hVA : V.heap[w.heap.size]? = some (.cells ws 32 (0, 0)) := by rw [← hV]; exact heap_alloc_new w _
 have hsV : w.heap.size ≤ V.heap.size := hBV.size
 have hf := hWk.few V
 have HF := Lib.hid hf; have HV := Lib.hid hBV; have HA := Lib.hid hVA; have HS := Lib.hid hws
 clear hf hBV hVA hws hWk
 go_enter Tryd.func38, Tryd.ntmps38
 go_wp2_with (refine wpList_load_row rfl 32 _ rfl w.heap.size rfl 32 _ (0, 0) _ HA.out Tryd.underlying32 rfl HS.out ?_; simp only [Act.put, List.setIfInBounds_toArray, List.set_cons_zero, List.set_cons_succ])
 refine HF.out.mono ?_
 rintro e w2 ⟨rfl, hb2⟩
 have B2 := Lib.hid (HV.out.trans (hb2.mono hsV))
 clear hb2 HA HV HF hV
 cases hfb : fewB k with
 | false =>
  have HFB := Lib.hid hfb
  clear hfb
  go_wp2_with fail
  go_ret
  exact ⟨by rw [HFB.out]; rfl, B2.out⟩
 | true =>
  have HFB := Lib.hid hfb
  clear hfb
  by_cases hn : nb ≤ 40
  ·have hn' : (nb : Int) ≤ 40 := by omega
   have HN := Lib.hid hn
   clear hn
   go_wp2_with fail
   go_ret
   exact ⟨by rw [HFB.out, decide_eq_true HN.out]; rfl, B2.out⟩
  ·have hn' : ¬ (nb : Int) ≤ 40 := by omega
   have HN := Lib.hid hn
   clear hn
   go_wp2_with fail
   go_ret
   refine ⟨?_, B2.out⟩
   show Ending.returned (.bool (decide ((nb : Int) ≤ 40))) = _
   rw [HFB.out, decide_eq_false HN.out, decide_eq_false (by have := HN.out; omega)]; rfl
end Go.Proofs.YtggcbblikgankaaDoor
end
section
namespace Go.Proofs.YtggcbblikgankaaDoor
open Go Go.RowKit Go.Deep
theorem toL_len' (t : Nat → Nat) (n : Nat) : (toL t n).length = n := by unfold toL; simp
theorem toL_gi' {t : Nat → Nat} {n i : Nat} (h : i < n) : gi (toL t n) i = (t i : Int) := by
 unfold gi toL
 rw [List.getElem?_map, List.getElem?_range h]; rfl
set_option maxRecDepth 100000 in
set_option maxHeartbeats 16000000 in
theorem able10_any (k : Wrk) (bs : List Bod) (nb : Nat) (hbl : bs.length = nb) (hbn : ∀ b ∈ bs, b.name.length ≤ maxLen) (ws : Array Value) (aB : Option Addr) (cB : Nat) (r q : Nat) (hr8 : r < 256) (hq8 : q < 256) (w : World) (hE : Env w) (hz : 2 ≤ w.heap.size) (hWk : WkAt k ws w) (hrow : IsRow encB 17 w (.slice aB nb cB) bs) :
  Calls Tryd.prog 10 #[.agg ws, .slice aB nb cB, .int .u8 r, .int .u8 q] w (trueP w) := by
 have hmb : nb ≤ maxLen := by obtain ⟨_, _, _, h, _⟩ := hrow; omega
 simp only [maxLen] at hmb
 have hws := hWk.size
 obtain ⟨V1, hV1⟩ : ∃ V, w.alloc (.cells ws 32) = V := ⟨_, rfl⟩
 have s1 : V1.heap.size = w.heap.size + 1 := by rw [← hV1]; simp
 obtain ⟨V2, hV2⟩ : ∃ V, V1.alloc (.cells #[.slice aB nb cB] 93) = V := ⟨_, rfl⟩
 have s2 : V2.heap.size = w.heap.size + 2 := by rw [← hV2]; simp [s1]
 have hB1 : Below w.heap.size w V1 := by rw [← hV1]; exact (Below.refl _ w).alloc (Nat.le_refl _) _
 have hB2 : Below w.heap.size w V2 := by rw [← hV2]; exact hB1.alloc hB1.size _
 have hA : V2.heap[w.heap.size]? = some (.cells ws 32 (0, 0)) := by
  rw [← hV2, Below.heap_alloc V1 _ _ (by omega), ← hV1]; exact heap_alloc_new w _
 have hC : V2.cell? ⟨w.heap.size + 1, 0, none⟩ = some (.slice aB nb cB) := by
  rw [← hV2, ← s1]; exact cell_at (heap_alloc_new V1 _) 0 rfl
 have hSA := sane47_any V2 (Env.two hE hz hB2) (Nat.le_trans hz hB2.size)
 obtain ⟨cR, aR, hcR⟩ : ∃ (cR : Nat) (aR : Option Addr), ∀ (W : World) (A : Nat), W.heap[A]? = some (.cells ws 32 (0, 0)) → W.cell? ⟨A, 5, none⟩ = some (.slice aR k.roles.length cR) := by
  obtain ⟨aR, aT, aP, aX, aS, cR, cT, cP, cX, cS, rfl, _⟩ := hWk
  exact ⟨cR, aR, fun W A h => cell_at h 5 rfl⟩
 have HCR := Lib.hid hcR
 clear hcR
 have HSA := Lib.hid hSA; have HB2 := Lib.hid hB2; have HA := Lib.hid hA; have HC := Lib.hid hC; have HS := Lib.hid hws; have HWK := Lib.hid hWk; have HE := Lib.hid hE; have HR := Lib.hid hrow; have HBN := Lib.hid hbn; have HBL := Lib.hid hbl; have HZ := Lib.hid hz
 clear hSA hB1 hB2 hA hC hws hWk hE hrow hbn hbl hz
 go_enter Tryd.func10, Tryd.ntmps10
 go_wp2_with fail
 refine HSA.out.mono ?_
 rintro e W1 ⟨rfl, hb1⟩
 have HB1 := Lib.hid (HB2.out.trans (hb1.mono HB2.out.size))
 have HA1 := Lib.hid ((hb1.block w.heap.size (by omega)).trans HA.out)
 have c1 := (hb1.cell (p := ⟨w.heap.size + 1, 0, none⟩) (by show w.heap.size + 1 < V2.heap.size; omega)).trans HC.out
 have t1 : w.heap.size + 2 ≤ W1.heap.size := by have := hb1.size; omega
 have HFW := Lib.hid (few38_any k nb ws aB cB W1 (HWK.out.below HB1.out (Nat.le_refl _)))
 clear hb1 HSA HB2 HA HC hV1 hV2 s1 s2
 go_wp2_with (refine wpList_load_row rfl 32 _ rfl w.heap.size rfl 32 _ (0, 0) _ HA1.out Tryd.underlying32 rfl HS.out ?_; simp only [Act.put, List.setIfInBounds_toArray, List.set_cons_zero, List.set_cons_succ])
 refine HFW.out.mono ?_
 rintro e W2 ⟨rfl, hb2⟩
 have HB2 := Lib.hid (HB1.out.trans (hb2.mono HB1.out.size))
 have HA2 := Lib.hid ((hb2.block w.heap.size (by omega)).trans HA1.out)
 have c2 := (hb2.cell (p := ⟨w.heap.size + 1, 0, none⟩) (by show w.heap.size + 1 < W1.heap.size; omega)).trans c1
 have t2 : w.heap.size + 2 ≤ W2.heap.size := by have := hb2.size; omega
 have HCO := Lib.hid (costs_any k bs nb HBL.out HBN.out ws aB cB W2 (Env.two HE.out HZ.out HB2.out) (Nat.le_trans HZ.out HB2.out.size) (HWK.out.below HB2.out (Nat.le_refl _)) (HR.out.below HB2.out (Nat.le_refl _)))
 clear hb2 HFW HB1 HA1 c1 t1
 cases hfw : (fewB k && decide (nb ≤ 40)) with
 | false =>
  clear hfw
  go_wp2_with fail
  go_ret
  exact ⟨rfl, HB2.out⟩
 | true =>
  clear hfw
  go_wp2_with (refine wpList_load_row rfl 32 _ rfl w.heap.size rfl 32 _ (0, 0) _ HA2.out Tryd.underlying32 rfl HS.out ?_; simp only [Act.put, List.setIfInBounds_toArray, List.set_cons_zero, List.set_cons_succ])
  refine HCO.out.mono ?_
  rintro e W3 ⟨hb3, ⟨hce, rfl⟩ | ⟨hce, v, hs, rfl, hRW⟩⟩
  ·have HB3 := Lib.hid (HB2.out.trans (hb3.mono HB2.out.size))
   have hne : (costsE k bs != 0) = true := by simpa using hce
   clear hb3 HCO hce
   generalize costsE k bs = ce at *
   go_wp2_with fail
   go_ret
   exact ⟨rfl, HB3.out⟩
  ·obtain ⟨f1, f2, f3, f4, f5, f6, f7, f8, f9, f10⟩ := costs_facts hce
   have HB3 := Lib.hid (HB2.out.trans (hb3.mono HB2.out.size))
   have HA3 := Lib.hid ((hb3.block w.heap.size (by omega)).trans HA2.out)
   have c3 := (hb3.cell (p := ⟨w.heap.size + 1, 0, none⟩) (by show w.heap.size + 1 < W2.heap.size; omega)).trans c2
   have t3 : w.heap.size + 2 ≤ W3.heap.size := by have := hb3.size; omega
   have hM := hRW.mat
   have hcap0 := hRW.own
   obtain ⟨nr, hnr⟩ : ∃ n, k.roles.length = n := ⟨_, rfl⟩
   rw [f7, hnr] at hcap0
   obtain ⟨aM, cM, rfl, hm1, hm2⟩ : ∃ ao c, v = .slice ao nr c ∧ nr ≤ c ∧ c ≤ maxLen := by
    rcases hcap0.2 with ⟨e1, h0⟩ | ⟨g, cap, cur, e1, _, _, h1, h2, _⟩
    ·exact ⟨none, 0, by rw [e1, h0], by omega, Nat.zero_le _⟩
    ·exact ⟨_, cap, e1, h1, h2⟩
   have HM := Lib.hid hM
   have HBE := Lib.hid (best_any (costsM k bs) aM nr cM (f7.trans hnr) hm1 hm2 W3 hM)
   have F1 := Lib.hid f1; have F5 := Lib.hid f5; have F6 := Lib.hid f6; have F7 := Lib.hid (f7.trans hnr); have F8 := Lib.hid f8; have F9 := Lib.hid f9; have F10 := Lib.hid f10; have HNR := Lib.hid hnr
   rw [hnr] at f2 f3
   rw [HBL.out] at f4
   clear hb3 HCO hce f1 f5 f6 f7 f8 f9 f10 hM hcap0 hRW HB2 HA2 c2 t2 hnr
   go_wp2_with fail
   refine HBE.out.mono ?_
   rintro e W4 ⟨hb4, hbest⟩
   have HB4 := Lib.hid (HB3.out.trans (hb4.mono HB3.out.size))
   have HA4 := Lib.hid ((hb4.block w.heap.size (by omega)).trans HA3.out)
   have c4 := (hb4.cell (p := ⟨w.heap.size + 1, 0, none⟩) (by show w.heap.size + 1 < W3.heap.size; omega)).trans c3
   have t4 : w.heap.size + 2 ≤ W4.heap.size := by have := hb4.size; omega
   have d4 := HCR.out W4 _ HA4.out
   rw [HNR.out] at d4
   have HM4 := Lib.hid (HM.out.below hb4 (Nat.le_refl _))
   clear hb4 HBE HB3 HA3 c3 t3 HM
   rcases hbest with ⟨h, _⟩ | ⟨_, _, rfl⟩ | ⟨_, v, t, taken, best, rfl, hmin, hF, hown⟩
   ·exact absurd F6.out h
   ·by_cases hb0 : nb = 0
    ·subst hb0
     go_wp2_with fail
     go_ret
     exact ⟨rfl, HB4.out⟩
    have hb0' : ((nb : Int) == 0) = false := by simp; omega
    go_wp2_with fail
    have hz1 : ¬ (nr : Int) = 0 := by omega
    have hz2 : ¬ (nb : Int) = 0 := by omega
    obtain ⟨i, hi⟩ : ∃ i, r % nr = i := ⟨_, rfl⟩
    obtain ⟨j, hj⟩ : ∃ j, q % nb = j := ⟨_, rfl⟩
    have hin : i < nr := by rw [← hi]; exact Nat.mod_lt _ (by omega)
    have hjn : j < nb := by rw [← hj]; exact Nat.mod_lt _ (by omega)
    have hm1 : Int.tmod (r : Int) (nr : Int) = (i : Int) := by rw [← hi]; rfl
    have hm2 : Int.tmod (q : Int) (nb : Int) = (j : Int) := by rw [← hj]; rfl
    clear hi hj
    go_quiet (fail)
    go_wp2_with fail
    obtain ⟨b, hbj⟩ : ∃ b, bs[j]? = some b := ⟨_, List.getElem?_eq_getElem (by rw [HBL.out]; exact hjn)⟩
    obtain ⟨bM, oM, eM, ai, ci, g1, g2, g3⟩ := HM4.out.at_ (i := i) (by rw [F7.out]; exact hin)
    subst eM
    have hrl : ((costsM k bs)[i]?.getD []).length = nb := by
     rw [(right_of F6.out).2.2.1 _ (by rw [List.getElem?_eq_getElem (by rw [F7.out]; exact hin)]; exact List.getElem_mem _), F8.out, HBL.out]
    have g2' := g2.int (j := j) (by rw [hrl]; exact hjn)
    rw [hrl] at g1
    obtain ⟨bi, oi, ei, g4, g5⟩ := g2'
    subst ei
    have hpr := F9.out i j b (by rw [HNR.out]; exact hin) hbj
    have hpi : gi ((costsM k bs)[i]?.getD []) j = priceM k b i k.signs 0 := hpr
    rw [hpi] at g4
    have hab := able_any k b i F1.out (F5.out b (List.mem_of_getElem? hbj)) (HBN.out b (List.mem_of_getElem? hbj)) (by have := F10.out; omega) ws w.heap.size (w.heap.size + 1) aB nb cB j bs HBL.out hbj (W4.drewN nq).drew (Env.two HE.out HZ.out (below_drewN HB4.out nq).drew) (Nat.le_trans HZ.out HB4.out.size) (HWK.out.below (below_drewN HB4.out nq).drew (Nat.le_refl _)) HA4.out c4 (by show w.heap.size + 1 < W4.heap.size; omega) (HR.out.below (below_drewN HB4.out nq).drew (Nat.le_refl _))
    generalize priceM k b i k.signs 0 = p at *
    have HAB := Lib.hid hab
    clear hab hpr hpi hrl g2 hbj
    refine wp_region_noPanic ?_
    refine wp_region_held (S := fun w3 => w3.cell? ⟨bM, oM + i, none⟩ = some (.slice (some ⟨bi, oi, none⟩) nb ci) ∧ w3.cell? ⟨w.heap.size + 1, 0, none⟩ = some (.slice aB nb cB) ∧ w3.cell? ⟨bi, oi + j, none⟩ = some (.int .i64 p)) (by kernel_rfl) ?_
    change wpAnyH _ _ _ _ _ _ _ _ (W4.drewN nq).drew
    have hS : (fun w3 : World => w3.cell? ⟨bM, oM + i, none⟩ = some (.slice (some ⟨bi, oi, none⟩) nb ci) ∧ w3.cell? ⟨w.heap.size + 1, 0, none⟩ = some (.slice aB nb cB) ∧ w3.cell? ⟨bi, oi + j, none⟩ = some (.int .i64 p)) (W4.drewN nq).drew := ⟨g1, c4, g4⟩
    have hin' : (i : Int) < (nr : Int) := by omega
    have hjn' : (j : Int) < (nb : Int) := by omega
    refine wpAnyH_take (i := 0) (oi := _) (v := .slice (some ⟨bM, oM, none⟩) nr cM) rfl (by kernel_rfl) (by kernel_rfl) (by kernel_rfl) (fun _ _ _ h => h) (Or.inl ⟨by rfl, fun w hw => by obtain ⟨h1, h2, h3⟩ := hw; go_simp⟩) hS ?_
    simp only [Act.put, List.setIfInBounds_toArray, List.set_cons_zero, List.set_cons_succ]
    refine wpAnyH_take (i := 1) (oi := _) (v := .int .i64 i) rfl (by kernel_rfl) (by kernel_rfl) (by kernel_rfl) (fun _ _ _ h => h) (Or.inl ⟨by rfl, fun w hw => by obtain ⟨h1, h2, h3⟩ := hw; go_simp⟩) hS ?_
    simp only [Act.put, List.setIfInBounds_toArray, List.set_cons_zero, List.set_cons_succ]
    refine wpAnyH_take (i := 2) (oi := _) (v := .pointer (some ⟨bM, oM + i, none⟩)) rfl (by kernel_rfl) (by kernel_rfl) (by kernel_rfl) (fun _ _ _ h => h) (Or.inl ⟨by rfl, fun w hw => by obtain ⟨h1, h2, h3⟩ := hw; go_simp⟩) hS ?_
    simp only [Act.put, List.setIfInBounds_toArray, List.set_cons_zero, List.set_cons_succ]
    refine wpAnyH_take (i := 3) (oi := _) (v := .slice (some ⟨bi, oi, none⟩) nb ci) rfl (by kernel_rfl) (by kernel_rfl) (by kernel_rfl) (fun _ _ _ h => h) (Or.inl ⟨by rfl, fun w hw => by obtain ⟨h1, h2, h3⟩ := hw; go_simp⟩) hS ?_
    simp only [Act.put, List.setIfInBounds_toArray, List.set_cons_zero, List.set_cons_succ]
    refine wpAnyH_take (i := 4) (oi := _) (v := .int .i64 nb) rfl (by kernel_rfl) (by kernel_rfl) (by kernel_rfl) (fun _ _ _ h => h) (Or.inl ⟨by rfl, fun w hw => by obtain ⟨h1, h2, h3⟩ := hw; go_simp⟩) hS ?_
    simp only [Act.put, List.setIfInBounds_toArray, List.set_cons_zero, List.set_cons_succ]
    refine wpAnyH_take (i := 5) (oi := _) (v := .slice aB nb cB) rfl (by kernel_rfl) (by kernel_rfl) (by kernel_rfl) (fun _ _ _ h => h) (Or.inl ⟨by rfl, fun w hw => by obtain ⟨h1, h2, h3⟩ := hw; go_simp⟩) hS ?_
    simp only [Act.put, List.setIfInBounds_toArray, List.set_cons_zero, List.set_cons_succ]
    refine wpAnyH_take (i := 6) (oi := _) (v := .int .i64 nb) rfl (by kernel_rfl) (by kernel_rfl) (by kernel_rfl) (fun _ _ _ h => h) (Or.inl ⟨by rfl, fun w hw => by obtain ⟨h1, h2, h3⟩ := hw; go_simp⟩) hS ?_
    simp only [Act.put, List.setIfInBounds_toArray, List.set_cons_zero, List.set_cons_succ]
    refine wpAnyH_take (i := 7) (oi := _) (v := .bool true) rfl (by kernel_rfl) (by kernel_rfl) (by kernel_rfl) (fun _ _ _ h => h) (Or.inl ⟨by rfl, fun w hw => by obtain ⟨h1, h2, h3⟩ := hw; go_simp⟩) hS ?_
    simp only [Act.put, List.setIfInBounds_toArray, List.set_cons_zero, List.set_cons_succ]
    refine wpAnyH_take (i := 8) (oi := _) (v := .bool true) rfl (by kernel_rfl) (by kernel_rfl) (by kernel_rfl) (fun _ _ _ h => h) (Or.inl ⟨by rfl, fun w hw => by obtain ⟨h1, h2, h3⟩ := hw; go_simp⟩) hS ?_
    simp only [Act.put, List.setIfInBounds_toArray, List.set_cons_zero, List.set_cons_succ]
    refine wpAnyH_take (i := 9) (oi := _) (v := .slice (some ⟨bM, oM, none⟩) nr cM) rfl (by kernel_rfl) (by kernel_rfl) (by kernel_rfl) (fun _ _ _ h => h) (Or.inl ⟨by kernel_rfl, fun w hw => by obtain ⟨h1, h2, h3⟩ := hw; go_simp⟩) hS ?_
    simp only [Act.put, List.setIfInBounds_toArray, List.set_cons_zero, List.set_cons_succ]
    refine wpAnyH_take (i := 10) (oi := _) (v := .int .i64 i) rfl (by kernel_rfl) (by kernel_rfl) (by kernel_rfl) (fun _ _ _ h => h) (Or.inl ⟨by kernel_rfl, fun w hw => by obtain ⟨h1, h2, h3⟩ := hw; go_simp⟩) hS ?_
    simp only [Act.put, List.setIfInBounds_toArray, List.set_cons_zero, List.set_cons_succ]
    refine wpAnyH_take (i := 11) (oi := _) (v := .pointer (some ⟨bM, oM + i, none⟩)) rfl (by kernel_rfl) (by kernel_rfl) (by kernel_rfl) (fun _ _ _ h => h) (Or.inl ⟨by kernel_rfl, fun w hw => by obtain ⟨h1, h2, h3⟩ := hw; go_simp⟩) hS ?_
    simp only [Act.put, List.setIfInBounds_toArray, List.set_cons_zero, List.set_cons_succ]
    refine wpAnyH_take (i := 12) (oi := _) (v := .slice (some ⟨bi, oi, none⟩) nb ci) rfl (by kernel_rfl) (by kernel_rfl) (by kernel_rfl) (fun _ _ _ h => h) (Or.inl ⟨by kernel_rfl, fun w hw => by obtain ⟨h1, h2, h3⟩ := hw; go_simp⟩) hS ?_
    simp only [Act.put, List.setIfInBounds_toArray, List.set_cons_zero, List.set_cons_succ]
    refine wpAnyH_take (i := 13) (oi := _) (v := .int .i64 j) rfl (by kernel_rfl) (by kernel_rfl) (by kernel_rfl) (fun _ _ _ h => h) (Or.inl ⟨by kernel_rfl, fun w hw => by obtain ⟨h1, h2, h3⟩ := hw; go_simp⟩) hS ?_
    simp only [Act.put, List.setIfInBounds_toArray, List.set_cons_zero, List.set_cons_succ]
    refine wpAnyH_take (i := 14) (oi := _) (v := .pointer (some ⟨bi, oi + j, none⟩)) rfl (by kernel_rfl) (by kernel_rfl) (by kernel_rfl) (fun _ _ _ h => h) (Or.inl ⟨by kernel_rfl, fun w hw => by obtain ⟨h1, h2, h3⟩ := hw; go_simp⟩) hS ?_
    simp only [Act.put, List.setIfInBounds_toArray, List.set_cons_zero, List.set_cons_succ]
    refine wpAnyH_take (i := 15) (oi := _) (v := .int .i64 p) rfl (by kernel_rfl) (by kernel_rfl) (by kernel_rfl) (fun _ _ _ h => h) (Or.inl ⟨by kernel_rfl, fun w hw => by obtain ⟨h1, h2, h3⟩ := hw; go_simp⟩) hS ?_
    simp only [Act.put, List.setIfInBounds_toArray, List.set_cons_zero, List.set_cons_succ]
    refine wpAnyH_take (i := 16) (oi := _) (v := .func (.func 40) #[] #[.pointer (some ⟨w.heap.size, 0, none⟩), .pointer (some ⟨w.heap.size + 1, 0, none⟩)]) rfl (by kernel_rfl) (by kernel_rfl) (by kernel_rfl) (fun _ _ _ h => h) (Or.inl ⟨by kernel_rfl, fun w hw => by obtain ⟨h1, h2, h3⟩ := hw; go_simp⟩) hS ?_
    simp only [Act.put, List.setIfInBounds_toArray, List.set_cons_zero, List.set_cons_succ]
    refine wpAnyH_take (i := 17) (oi := _) (v := .int .i64 i) rfl (by kernel_rfl) (by kernel_rfl) (by kernel_rfl) (fun _ _ _ h => h) (Or.inl ⟨by kernel_rfl, fun w hw => by obtain ⟨h1, h2, h3⟩ := hw; go_simp⟩) hS ?_
    simp only [Act.put, List.setIfInBounds_toArray, List.set_cons_zero, List.set_cons_succ]
    refine wpAnyH_take (i := 18) (oi := _) (v := .int .i64 j) rfl (by kernel_rfl) (by kernel_rfl) (by kernel_rfl) (fun _ _ _ h => h) (Or.inl ⟨by kernel_rfl, fun w hw => by obtain ⟨h1, h2, h3⟩ := hw; go_simp⟩) hS ?_
    simp only [Act.put, List.setIfInBounds_toArray, List.set_cons_zero, List.set_cons_succ]
    refine wpAnyH_ready (rs := [19]) (by kernel_rfl) (by simp) ?_
    refine AllReadyH.cons (o := _) rfl (fun K1 hK => ?_) AllReadyH.nil
    go_simp
    refine HAB.out.mono ?_
    rintro e W5 ⟨rfl, hb5⟩
    have hS2 : (fun w3 : World => w3.cell? ⟨bM, oM + i, none⟩ = some (.slice (some ⟨bi, oi, none⟩) nb ci) ∧ w3.cell? ⟨w.heap.size + 1, 0, none⟩ = some (.slice aB nb cB) ∧ w3.cell? ⟨bi, oi + j, none⟩ = some (.int .i64 p)) W5 := ⟨(hb5.cell (p := ⟨bM, oM + i, none⟩) g3).trans g1, (hb5.cell (p := ⟨w.heap.size + 1, 0, none⟩) (by show w.heap.size + 1 < W4.heap.size; omega)).trans c4, (hb5.cell (p := ⟨bi, oi + j, none⟩) g5).trans g4⟩
    have HB5 := Lib.hid ((below_drewN HB4.out nq).drew.trans (hb5.mono (below_drewN HB4.out nq).drew.size))
    refine hK.out _ _ hS2 (fun _ => ?_)
    clear hK K1 hS hb5
    refine wpAnyH_take (i := 20) (oi := _) (v := .bool true) rfl (by kernel_rfl) (by kernel_rfl) (by kernel_rfl) (fun _ _ _ h => h) (Or.inl ⟨by kernel_rfl, fun w hw => by obtain ⟨h1, h2, h3⟩ := hw; go_simp⟩) hS2 ?_
    simp only [Act.put, List.setIfInBounds_toArray, List.set_cons_zero, List.set_cons_succ]
    refine wpAnyH_take (i := 21) (oi := _) (v := .bool true) rfl (by kernel_rfl) (by kernel_rfl) (by kernel_rfl) (fun _ _ _ h => h) (Or.inl ⟨by rfl, fun w hw => by obtain ⟨h1, h2, h3⟩ := hw; go_simp⟩) hS2 ?_
    simp only [List.getElem_toArray, List.getElem_cons_zero, List.getElem_cons_succ, Act.put, List.setIfInBounds_toArray, List.set_cons_zero, List.set_cons_succ]
    refine wpAnyH_take (i := 22) (oi := _) (v := .bool true) rfl (by kernel_rfl) (by kernel_rfl) (by kernel_rfl) (fun _ _ _ h => h) (Or.inl ⟨by rfl, fun w hw => by obtain ⟨h1, h2, h3⟩ := hw; go_simp⟩) hS2 ?_
    simp only [List.getElem_toArray, List.getElem_cons_zero, List.getElem_cons_succ, Act.put, List.setIfInBounds_toArray, List.set_cons_zero, List.set_cons_succ]
    refine wpAnyH_done (by kernel_rfl) ?_ _
    refine NoPanic.normal ?_
    clear hS2
    go_wp2_with fail
    go_ret
    exact ⟨rfl, HB5.out⟩
   ·have hcast := first_cast hF
    have hrow2 := own_ints hown (toL_len' t _)
    obtain ⟨ao, c, e3, _⟩ := id hrow2
    subst e3
    rw [toL_len', F7.out] at hrow2 ⊢
    rw [F7.out, F8.out, HBL.out] at hcast
    have HROW2 := Lib.hid hrow2; have HCA := Lib.hid hcast.1; have HSU := Lib.hid hcast.2
    have hcb : ∀ i, i < nr → 0 ≤ cI (costsM k bs) i (t i) ∧ cI (costsM k bs) i (t i) ≤ 1048576 := fun i hi => ⟨hcast.1.ok i hi, (right_of F6.out).2.2.2.1 i (t i)⟩
    have HCB := Lib.hid hcb
    clear hcast hrow2 hown hF hmin hcb
    go_wp2_with fail
    go_loopw [16, 71] (fun sv iv wr => ∃ i : Nat, i ≤ nr ∧ iv = .int .i64 i ∧ sv = .int .i64 (sumT (fun r => cI (costsM k bs) r (t r)) i) ∧ 0 ≤ sumT (fun r => cI (costsM k bs) r (t r)) i ∧ sumT (fun r => cI (costsM k bs) r (t r)) i ≤ 1048576 * i ∧ Hid (Below W4.heap.size W4 wr)) (fun _ iv _ => nr - (intOf iv).toNat)
    case atStart => exact ⟨0, Nat.zero_le _, rfl, rfl, Int.le_refl _, by simp [sumT], Lib.hid (Below.refl _ _)⟩
    case round =>
     obtain ⟨i, hin, rfl, rfl, hs0, hs1, hQ⟩ := hrel
     have HW := Lib.hid (HB4.out.trans (hQ.out.mono HB4.out.size))
     have cw := (hQ.out.cell (p := ⟨w.heap.size + 1, 0, none⟩) (by show w.heap.size + 1 < W4.heap.size; omega)).trans c4
     have HAw := Lib.hid ((hQ.out.block w.heap.size (by omega)).trans HA4.out)
     have hqz := hQ.out.size
     by_cases hi : i < nr
     ·have hi' : (i : Int) < (nr : Int) := by omega
      have htl := HCA.out.lt i hi
      obtain ⟨b, hbj⟩ : ∃ b, bs[t i]? = some b := ⟨_, List.getElem?_eq_getElem (by rw [HBL.out]; exact htl)⟩
      obtain ⟨b1, o1, e1, p1, _⟩ := (HROW2.out.below hQ.out (Nat.le_refl _)).int (j := i) (by rw [toL_len']; exact hi)
      subst e1
      rw [toL_gi' hi] at p1
      have hab := able_any k b i F1.out (F5.out b (List.mem_of_getElem? hbj)) (HBN.out b (List.mem_of_getElem? hbj)) (by have := F10.out; omega) ws w.heap.size (w.heap.size + 1) aB nb cB (t i) bs HBL.out hbj wr (Env.two HE.out HZ.out HW.out) (Nat.le_trans HZ.out HW.out.size) (HWK.out.below HW.out (Nat.le_refl _)) HAw.out cw (by omega) (HR.out.below HW.out (Nat.le_refl _))
      rw [← F9.out i (t i) b (by rw [HNR.out]; exact hi) hbj] at hab
      have HAB := Lib.hid hab
      have hcb := HCB.out i hi
      have hsum : sumT (fun r => cI (costsM k bs) r (t r)) i + cI (costsM k bs) i (t i) = sumT (fun r => cI (costsM k bs) r (t r)) (i + 1) := rfl
      have HSUM := Lib.hid hsum
      clear hab hbj hsum
      generalize t i = j at *
      generalize cI (costsM k bs) i j = p at *
      generalize sumT (fun r => cI (costsM k bs) r (t r)) i = sv at *
      have hj0 : ¬ (j : Int) < 0 := by omega
      have hjn : ¬ (nb : Int) ≤ (j : Int) := by omega
      have hp0 : ¬ p < 0 := by omega
      go_wp2_with fail
      refine HAB.out.mono ?_
      rintro e W5 ⟨rfl, hb5⟩
      have HQ5 := Lib.hid (hQ.out.trans (hb5.mono hqz))
      clear hb5 HAB cw p1 hQ
      go_wp2_with fail
      go_roundw
      case rel => exact ⟨i + 1, by omega, by go_num, by rw [← HSUM.out], by rw [← HSUM.out]; omega, by rw [← HSUM.out]; omega, HQ5⟩
      case measure => simp [intOf]; omega
     ·have hin2 : nr = i := by omega
      subst hin2
      have hsu := HSU.out
      rw [hsu] at hs0 hs1 ⊢
      have HMw := Lib.hid (HM4.out.below hQ.out (Nat.le_refl _))
      have dw := HCR.out wr _ HAw.out
      rw [HNR.out] at dw
      have hi' : ¬ (nr : Int) < (nr : Int) := by omega
      clear hsu HSU HCA HCB d4 c4 HA4 HM4
      by_cases hb0 : nb = 0
      ·subst hb0
       go_wp2_with fail
       go_ret
       exact ⟨rfl, HW.out⟩
      have hb0' : ((nb : Int) == 0) = false := by simp; omega
      go_wp2_with fail
      have hz1 : ¬ (nr : Int) = 0 := by omega
      have hz2 : ¬ (nb : Int) = 0 := by omega
      obtain ⟨i, hi⟩ : ∃ i, r % nr = i := ⟨_, rfl⟩
      obtain ⟨j, hj⟩ : ∃ j, q % nb = j := ⟨_, rfl⟩
      have hin : i < nr := by rw [← hi]; exact Nat.mod_lt _ (by omega)
      have hjn : j < nb := by rw [← hj]; exact Nat.mod_lt _ (by omega)
      have hm1 : Int.tmod (r : Int) (nr : Int) = (i : Int) := by rw [← hi]; rfl
      have hm2 : Int.tmod (q : Int) (nb : Int) = (j : Int) := by rw [← hj]; rfl
      clear hi hj
      go_quiet (fail)
      go_wp2_with fail
      obtain ⟨b, hbj⟩ : ∃ b, bs[j]? = some b := ⟨_, List.getElem?_eq_getElem (by rw [HBL.out]; exact hjn)⟩
      obtain ⟨bM, oM, eM, ai, ci, g1, g2, g3⟩ := HMw.out.at_ (i := i) (by rw [F7.out]; exact hin)
      subst eM
      have hrl : ((costsM k bs)[i]?.getD []).length = nb := by
       rw [(right_of F6.out).2.2.1 _ (by rw [List.getElem?_eq_getElem (by rw [F7.out]; exact hin)]; exact List.getElem_mem _), F8.out, HBL.out]
      have g2' := g2.int (j := j) (by rw [hrl]; exact hjn)
      rw [hrl] at g1
      obtain ⟨bi, oi, ei, g4, g5⟩ := g2'
      subst ei
      have hpr := F9.out i j b (by rw [HNR.out]; exact hin) hbj
      have hpi : gi ((costsM k bs)[i]?.getD []) j = priceM k b i k.signs 0 := hpr
      rw [hpi] at g4
      have hab := able_any k b i F1.out (F5.out b (List.mem_of_getElem? hbj)) (HBN.out b (List.mem_of_getElem? hbj)) (by have := F10.out; omega) ws w.heap.size (w.heap.size + 1) aB nb cB j bs HBL.out hbj (wr.drewN nq).drew (Env.two HE.out HZ.out (below_drewN HW.out nq).drew) (Nat.le_trans HZ.out HW.out.size) (HWK.out.below (below_drewN HW.out nq).drew (Nat.le_refl _)) HAw.out cw (by show w.heap.size + 1 < wr.heap.size; omega) (HR.out.below (below_drewN HW.out nq).drew (Nat.le_refl _))
      generalize priceM k b i k.signs 0 = p at *
      have HAB := Lib.hid hab
      clear hab hpr hpi hrl g2 hbj
      refine wp_region_noPanic ?_
      refine wp_region_held (S := fun w3 => w3.cell? ⟨bM, oM + i, none⟩ = some (.slice (some ⟨bi, oi, none⟩) nb ci) ∧ w3.cell? ⟨w.heap.size + 1, 0, none⟩ = some (.slice aB nb cB) ∧ w3.cell? ⟨bi, oi + j, none⟩ = some (.int .i64 p)) (by kernel_rfl) ?_
      change wpAnyH _ _ _ _ _ _ _ _ (wr.drewN nq).drew
      have hS : (fun w3 : World => w3.cell? ⟨bM, oM + i, none⟩ = some (.slice (some ⟨bi, oi, none⟩) nb ci) ∧ w3.cell? ⟨w.heap.size + 1, 0, none⟩ = some (.slice aB nb cB) ∧ w3.cell? ⟨bi, oi + j, none⟩ = some (.int .i64 p)) (wr.drewN nq).drew := ⟨g1, cw, g4⟩
      have hin' : (i : Int) < (nr : Int) := by omega
      have hjn' : (j : Int) < (nb : Int) := by omega
      refine wpAnyH_take (i := 0) (oi := _) (v := .slice (some ⟨bM, oM, none⟩) nr cM) rfl (by kernel_rfl) (by kernel_rfl) (by kernel_rfl) (fun _ _ _ h => h) (Or.inl ⟨by rfl, fun w hw => by obtain ⟨h1, h2, h3⟩ := hw; go_simp⟩) hS ?_
      simp only [Act.put, List.setIfInBounds_toArray, List.set_cons_zero, List.set_cons_succ]
      refine wpAnyH_take (i := 1) (oi := _) (v := .int .i64 i) rfl (by kernel_rfl) (by kernel_rfl) (by kernel_rfl) (fun _ _ _ h => h) (Or.inl ⟨by rfl, fun w hw => by obtain ⟨h1, h2, h3⟩ := hw; go_simp⟩) hS ?_
      simp only [Act.put, List.setIfInBounds_toArray, List.set_cons_zero, List.set_cons_succ]
      refine wpAnyH_take (i := 2) (oi := _) (v := .pointer (some ⟨bM, oM + i, none⟩)) rfl (by kernel_rfl) (by kernel_rfl) (by kernel_rfl) (fun _ _ _ h => h) (Or.inl ⟨by rfl, fun w hw => by obtain ⟨h1, h2, h3⟩ := hw; go_simp⟩) hS ?_
      simp only [Act.put, List.setIfInBounds_toArray, List.set_cons_zero, List.set_cons_succ]
      refine wpAnyH_take (i := 3) (oi := _) (v := .slice (some ⟨bi, oi, none⟩) nb ci) rfl (by kernel_rfl) (by kernel_rfl) (by kernel_rfl) (fun _ _ _ h => h) (Or.inl ⟨by rfl, fun w hw => by obtain ⟨h1, h2, h3⟩ := hw; go_simp⟩) hS ?_
      simp only [Act.put, List.setIfInBounds_toArray, List.set_cons_zero, List.set_cons_succ]
      refine wpAnyH_take (i := 4) (oi := _) (v := .int .i64 nb) rfl (by kernel_rfl) (by kernel_rfl) (by kernel_rfl) (fun _ _ _ h => h) (Or.inl ⟨by rfl, fun w hw => by obtain ⟨h1, h2, h3⟩ := hw; go_simp⟩) hS ?_
      simp only [Act.put, List.setIfInBounds_toArray, List.set_cons_zero, List.set_cons_succ]
      refine wpAnyH_take (i := 5) (oi := _) (v := .slice aB nb cB) rfl (by kernel_rfl) (by kernel_rfl) (by kernel_rfl) (fun _ _ _ h => h) (Or.inl ⟨by rfl, fun w hw => by obtain ⟨h1, h2, h3⟩ := hw; go_simp⟩) hS ?_
      simp only [Act.put, List.setIfInBounds_toArray, List.set_cons_zero, List.set_cons_succ]
      refine wpAnyH_take (i := 6) (oi := _) (v := .int .i64 nb) rfl (by kernel_rfl) (by kernel_rfl) (by kernel_rfl) (fun _ _ _ h => h) (Or.inl ⟨by rfl, fun w hw => by obtain ⟨h1, h2, h3⟩ := hw; go_simp⟩) hS ?_
      simp only [Act.put, List.setIfInBounds_toArray, List.set_cons_zero, List.set_cons_succ]
      refine wpAnyH_take (i := 7) (oi := _) (v := .bool true) rfl (by kernel_rfl) (by kernel_rfl) (by kernel_rfl) (fun _ _ _ h => h) (Or.inl ⟨by rfl, fun w hw => by obtain ⟨h1, h2, h3⟩ := hw; go_simp⟩) hS ?_
      simp only [Act.put, List.setIfInBounds_toArray, List.set_cons_zero, List.set_cons_succ]
      refine wpAnyH_take (i := 8) (oi := _) (v := .bool true) rfl (by kernel_rfl) (by kernel_rfl) (by kernel_rfl) (fun _ _ _ h => h) (Or.inl ⟨by rfl, fun w hw => by obtain ⟨h1, h2, h3⟩ := hw; go_simp⟩) hS ?_
      simp only [Act.put, List.setIfInBounds_toArray, List.set_cons_zero, List.set_cons_succ]
      refine wpAnyH_take (i := 9) (oi := _) (v := .slice (some ⟨bM, oM, none⟩) nr cM) rfl (by kernel_rfl) (by kernel_rfl) (by kernel_rfl) (fun _ _ _ h => h) (Or.inl ⟨by kernel_rfl, fun w hw => by obtain ⟨h1, h2, h3⟩ := hw; go_simp⟩) hS ?_
      simp only [Act.put, List.setIfInBounds_toArray, List.set_cons_zero, List.set_cons_succ]
      refine wpAnyH_take (i := 10) (oi := _) (v := .int .i64 i) rfl (by kernel_rfl) (by kernel_rfl) (by kernel_rfl) (fun _ _ _ h => h) (Or.inl ⟨by kernel_rfl, fun w hw => by obtain ⟨h1, h2, h3⟩ := hw; go_simp⟩) hS ?_
      simp only [Act.put, List.setIfInBounds_toArray, List.set_cons_zero, List.set_cons_succ]
      refine wpAnyH_take (i := 11) (oi := _) (v := .pointer (some ⟨bM, oM + i, none⟩)) rfl (by kernel_rfl) (by kernel_rfl) (by kernel_rfl) (fun _ _ _ h => h) (Or.inl ⟨by kernel_rfl, fun w hw => by obtain ⟨h1, h2, h3⟩ := hw; go_simp⟩) hS ?_
      simp only [Act.put, List.setIfInBounds_toArray, List.set_cons_zero, List.set_cons_succ]
      refine wpAnyH_take (i := 12) (oi := _) (v := .slice (some ⟨bi, oi, none⟩) nb ci) rfl (by kernel_rfl) (by kernel_rfl) (by kernel_rfl) (fun _ _ _ h => h) (Or.inl ⟨by kernel_rfl, fun w hw => by obtain ⟨h1, h2, h3⟩ := hw; go_simp⟩) hS ?_
      simp only [Act.put, List.setIfInBounds_toArray, List.set_cons_zero, List.set_cons_succ]
      refine wpAnyH_take (i := 13) (oi := _) (v := .int .i64 j) rfl (by kernel_rfl) (by kernel_rfl) (by kernel_rfl) (fun _ _ _ h => h) (Or.inl ⟨by kernel_rfl, fun w hw => by obtain ⟨h1, h2, h3⟩ := hw; go_simp⟩) hS ?_
      simp only [Act.put, List.setIfInBounds_toArray, List.set_cons_zero, List.set_cons_succ]
      refine wpAnyH_take (i := 14) (oi := _) (v := .pointer (some ⟨bi, oi + j, none⟩)) rfl (by kernel_rfl) (by kernel_rfl) (by kernel_rfl) (fun _ _ _ h => h) (Or.inl ⟨by kernel_rfl, fun w hw => by obtain ⟨h1, h2, h3⟩ := hw; go_simp⟩) hS ?_
      simp only [Act.put, List.setIfInBounds_toArray, List.set_cons_zero, List.set_cons_succ]
      refine wpAnyH_take (i := 15) (oi := _) (v := .int .i64 p) rfl (by kernel_rfl) (by kernel_rfl) (by kernel_rfl) (fun _ _ _ h => h) (Or.inl ⟨by kernel_rfl, fun w hw => by obtain ⟨h1, h2, h3⟩ := hw; go_simp⟩) hS ?_
      simp only [Act.put, List.setIfInBounds_toArray, List.set_cons_zero, List.set_cons_succ]
      refine wpAnyH_take (i := 16) (oi := _) (v := .func (.func 40) #[] #[.pointer (some ⟨w.heap.size, 0, none⟩), .pointer (some ⟨w.heap.size + 1, 0, none⟩)]) rfl (by kernel_rfl) (by kernel_rfl) (by kernel_rfl) (fun _ _ _ h => h) (Or.inl ⟨by kernel_rfl, fun w hw => by obtain ⟨h1, h2, h3⟩ := hw; go_simp⟩) hS ?_
      simp only [Act.put, List.setIfInBounds_toArray, List.set_cons_zero, List.set_cons_succ]
      refine wpAnyH_take (i := 17) (oi := _) (v := .int .i64 i) rfl (by kernel_rfl) (by kernel_rfl) (by kernel_rfl) (fun _ _ _ h => h) (Or.inl ⟨by kernel_rfl, fun w hw => by obtain ⟨h1, h2, h3⟩ := hw; go_simp⟩) hS ?_
      simp only [Act.put, List.setIfInBounds_toArray, List.set_cons_zero, List.set_cons_succ]
      refine wpAnyH_take (i := 18) (oi := _) (v := .int .i64 j) rfl (by kernel_rfl) (by kernel_rfl) (by kernel_rfl) (fun _ _ _ h => h) (Or.inl ⟨by kernel_rfl, fun w hw => by obtain ⟨h1, h2, h3⟩ := hw; go_simp⟩) hS ?_
      simp only [Act.put, List.setIfInBounds_toArray, List.set_cons_zero, List.set_cons_succ]
      refine wpAnyH_ready (rs := [19]) (by kernel_rfl) (by simp) ?_
      refine AllReadyH.cons (o := _) rfl (fun K1 hK => ?_) AllReadyH.nil
      go_simp
      refine HAB.out.mono ?_
      rintro e W5 ⟨rfl, hb5⟩
      have hS2 : (fun w3 : World => w3.cell? ⟨bM, oM + i, none⟩ = some (.slice (some ⟨bi, oi, none⟩) nb ci) ∧ w3.cell? ⟨w.heap.size + 1, 0, none⟩ = some (.slice aB nb cB) ∧ w3.cell? ⟨bi, oi + j, none⟩ = some (.int .i64 p)) W5 := ⟨(hb5.cell (p := ⟨bM, oM + i, none⟩) g3).trans g1, (hb5.cell (p := ⟨w.heap.size + 1, 0, none⟩) (by show w.heap.size + 1 < wr.heap.size; omega)).trans cw, (hb5.cell (p := ⟨bi, oi + j, none⟩) g5).trans g4⟩
      have HB5 := Lib.hid ((below_drewN HW.out nq).drew.trans (hb5.mono (below_drewN HW.out nq).drew.size))
      refine hK.out _ _ hS2 (fun _ => ?_)
      clear hK K1 hS hb5
      refine wpAnyH_take (i := 20) (oi := _) (v := .bool true) rfl (by kernel_rfl) (by kernel_rfl) (by kernel_rfl) (fun _ _ _ h => h) (Or.inl ⟨by kernel_rfl, fun w hw => by obtain ⟨h1, h2, h3⟩ := hw; go_simp⟩) hS2 ?_
      simp only [Act.put, List.setIfInBounds_toArray, List.set_cons_zero, List.set_cons_succ]
      refine wpAnyH_take (i := 21) (oi := _) (v := .bool true) rfl (by kernel_rfl) (by kernel_rfl) (by kernel_rfl) (fun _ _ _ h => h) (Or.inl ⟨by rfl, fun w hw => by obtain ⟨h1, h2, h3⟩ := hw; go_simp⟩) hS2 ?_
      simp only [List.getElem_toArray, List.getElem_cons_zero, List.getElem_cons_succ, Act.put, List.setIfInBounds_toArray, List.set_cons_zero, List.set_cons_succ]
      refine wpAnyH_take (i := 22) (oi := _) (v := .bool true) rfl (by kernel_rfl) (by kernel_rfl) (by kernel_rfl) (fun _ _ _ h => h) (Or.inl ⟨by rfl, fun w hw => by obtain ⟨h1, h2, h3⟩ := hw; go_simp⟩) hS2 ?_
      simp only [List.getElem_toArray, List.getElem_cons_zero, List.getElem_cons_succ, Act.put, List.setIfInBounds_toArray, List.set_cons_zero, List.set_cons_succ]
      refine wpAnyH_done (by kernel_rfl) ?_ _
      refine NoPanic.normal ?_
      clear hS2
      go_wp2_with fail
      go_ret
      exact ⟨rfl, HB5.out⟩
end Go.Proofs.YtggcbblikgankaaDoor
end
