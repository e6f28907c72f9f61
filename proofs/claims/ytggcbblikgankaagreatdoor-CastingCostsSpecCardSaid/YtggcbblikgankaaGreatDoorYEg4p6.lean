/- The walk of the statement: part 6. -/
import Derived.Test.YtggcbblikgankaaGreatDoorYEg4p5
import Derived.Test.YtggcbblikgankaaGreatDoorZ38
import Derived.Test.YtggcbblikgankaaGreatDoorYEg4p3
import Derived.Test.YtggcbblikgankaaGreatDoorZ40
import Derived.Test.YtggcbblikgankaaGreatDoorZ3
set_option linter.unusedVariables false
set_option linter.unusedSimpArgs false
set_option maxRecDepth 100000
set_option maxHeartbeats 16000000
namespace Go.Proofs.YtggcbblikgankaaGreatDoor
open Go.Value (int)
open Go.IntKind (i64)
section
open Go Go.RowKit Go.Deep Go.Sort
theorem IX {w : World} {b1 o1 i : Nat} {bs : List Bod} {b : Bod} (hat : AtRow He 17 w b1 o1 bs) (hb : bs[i]? = some b) : w.cell? ⟨b1, o1 + i * 17, none⟩ = some (.string ⟨b.name.toArray⟩) ∧ w.cell? ⟨b1, o1 + i * 17 + 1, none⟩ = some (int i64 b.weight) ∧ w.cell? ⟨b1, o1 + i * 17 + 2, none⟩ = some (int i64 b.lift) ∧ w.cell? ⟨b1, o1 + i * 17 + 3, none⟩ = some (int i64 b.girth) ∧ w.cell? ⟨b1, o1 + i * 17 + 4, none⟩ = some (int i64 b.step) ∧ w.cell? ⟨b1, o1 + i * 17 + 5, none⟩ = some (int i64 b.jump) ∧ w.cell? ⟨b1, o1 + i * 17 + 6, none⟩ = some (int i64 b.r0) ∧ w.cell? ⟨b1, o1 + i * 17 + 7, none⟩ = some (int i64 b.r1) ∧ w.cell? ⟨b1, o1 + i * 17 + 8, none⟩ = some (int i64 b.r2) ∧ w.cell? ⟨b1, o1 + i * 17 + 9, none⟩ = some (int i64 b.s0) ∧ w.cell? ⟨b1, o1 + i * 17 + 10, none⟩ = some (int i64 b.s1) ∧ w.cell? ⟨b1, o1 + i * 17 + 11, none⟩ = some (int i64 b.s2) ∧ w.cell? ⟨b1, o1 + i * 17 + 12, none⟩ = some (int i64 b.t0) ∧ w.cell? ⟨b1, o1 + i * 17 + 13, none⟩ = some (int i64 b.t1) ∧ w.cell? ⟨b1, o1 + i * 17 + 14, none⟩ = some (int i64 b.t2) ∧ w.cell? ⟨b1, o1 + i * 17 + 15, none⟩ = some (int i64 b.effort) ∧ w.cell? ⟨b1, o1 + i * 17 + 16, none⟩ = some (int i64 b.recover) :=
 ⟨hat i b hb 0 _ rfl, hat i b hb 1 _ rfl, hat i b hb 2 _ rfl, hat i b hb 3 _ rfl, hat i b hb 4 _ rfl, hat i b hb 5 _ rfl, hat i b hb 6 _ rfl, hat i b hb 7 _ rfl, hat i b hb 8 _ rfl, hat i b hb 9 _ rfl, hat i b hb 10 _ rfl, hat i b hb 11 _ rfl, hat i b hb 12 _ rfl, hat i b hb 13 _ rfl, hat i b hb 14 _ rfl, hat i b hb 15 _ rfl, hat i b hb 16 _ rfl⟩
def M0 (E : Int) (M : List (List Int)) (w : World) (e : Ending) (w' : World) : Prop := Below w.heap.size w w' ∧ ∃ v, e = .returned (.tuple #[v, int i64 E]) ∧ IsMat w' v M
theorem Ft (w : World) : IsMat w (.slice none 0 0) [] := ⟨[], ⟨none, 0, rfl, Nat.zero_le _, Or.inl rfl⟩, rfl, fun i h row hh => by simp at hh⟩
noncomputable def JH : Code := (Tryz.f17.body).getD .skip
noncomputable def MM : Code := Ag 5 JH
theorem IL (k : Wrk) (bs : List Bod) (i nr : Nat) (hbl : bs.length = i) (hall : bs.all AG = true) (hn16 : i ≤ 16) (hr16 : nr ≤ 16) (M : List (List Int)) (hM : M = (List.range nr).map (BV k bs)) (wd dp ta tb tc bars : Int) (vT vP vX vS : Value) (aR aB : Option Addr) (cR cB : Nat) (w wr : World)
  (hpr : ∀ (b : Bod), AG b = true → ∀ (q : Int) (W : World), Below w.heap.size w W → Calls Tryz.prog 44 #[.agg #[int i64 wd, int i64 dp, int i64 ta, int i64 tb, int i64 tc, .slice aR nr cR, int i64 bars, vT, vP, vX, vS], .agg #[.string ⟨b.name.toArray⟩, int i64 b.weight, int i64 b.lift, int i64 b.girth, int i64 b.step, int i64 b.jump, int i64 b.r0, int i64 b.r1, int i64 b.r2, int i64 b.s0, int i64 b.s1, int i64 b.s2, int i64 b.t0, int i64 b.t1, int i64 b.t2, int i64 b.effort, int i64 b.recover], int i64 q] W fun e w' => e = .returned (int i64 (Av k b q k.signs 0)) ∧ Below W.heap.size W w')
  (hrow : IsRow He 17 w (.slice aB i cB) bs) (hA : wr.heap[w.heap.size]? = some (.cells #[int i64 wd, int i64 dp, int i64 ta, int i64 tb, int i64 tc, .slice aR nr cR, int i64 bars, vT, vP, vX, vS] 32 (0, 0))) (hB : Below w.heap.size w wr) (e0 e3 e4 e5 e6 e7 e8 e9 ea eb ec ed ee ef eg eh ei ej ek el em en eo ep eq er es et eu ew ex ey ez eA eB eC eD eE eF eG eH eI eJ eK eL eM eN eO eP eQ eR eS eT eU eV eW eX eY eZ aa ab ac ad ae af ag ah ai aj : Value) :
  Code.wp Tryz.prog MM (bodyPost Tryz.prog Tryz.f17 (M0 0 M w)) { tmps := #[e0, .slice aB i cB, .pointer (some ⟨w.heap.size, 0, none⟩), e3, e4, e5, e6, e7, e8, e9, ea, eb, ec, ed, ee, ef, eg, eh, ei, ej, ek, el, em, en, eo, ep, eq, er, es, et, eu, ew, ex, ey, ez, eA, eB, eC, eD, eE, eF, eG, eH, eI, eJ, eK, eL, eM, eN, eO, eP, eQ, eR, eS, eT, eU, eV, eW, eX, eY, eZ, aa, ab, ac, ad, ae, af, ag, ah, ai, aj], defers := [] } wr := by
   obtain ⟨i55, hi55, hz0, hz1, hz2⟩ := info_parts Fq
   obtain ⟨i3, hi3, hz3, hs3, hb3⟩ := Jb
   have HBL := qh hbl; have HM := qh hM; have HALL := qh hall; have HPR := qh hpr; have HROW := qh hrow; have hA := qh hA; have hB := qh hB
   clear hbl hall hpr hrow hM
   unfold MM JH
   conv => arg 2; whnf
   have hA3 : (wr.alloc (.cells #[] 55)).heap[w.heap.size]? = some (.cells #[int i64 wd, int i64 dp, int i64 ta, int i64 tb, int i64 tc, .slice aR nr cR, int i64 bars, vT, vP, vX, vS] 32 (0, 0)) := (Below.heap_alloc wr (.cells #[] 55) _ (qs.1 hA.out).1).trans hA.out
   have hB3 := hB.out.alloc hB.out.size (.cells #[] 55)
   have hO3 := World.ownsRow_lit (base := w.heap.size) (e := 55) (size := 1) wr #[] 0 hB.out.size (by decide) rfl
   have hR3 : RowsW w.heap.size ((List.range 0).map (BV k bs)) (.slice (some ⟨wr.heap.size, 0, none⟩) 0 0) [] (wr.alloc (.cells #[] 55)) := ⟨hO3, fun q h row hh => by simp at hh⟩
   have HA3 := qh hA3; have HB3 := qh hB3; have HR3 := qh hR3
   clear hA3 hB3 hO3 hR3 hA hB
   go_wp2_with fail
   generalize wr.alloc (.cells #[] 55) = w3 at *
   go_loopw [9, 10] (fun cv iv wr => ∃ (r : Nat) (hs : List Value), r ≤ nr ∧ iv = int i64 r ∧ Hid (RowsW w.heap.size ((List.range r).map (BV k bs)) cv hs wr) ∧ Hid (wr.heap[w.heap.size]? = some (.cells #[int i64 wd, int i64 dp, int i64 ta, int i64 tb, int i64 tc, .slice aR nr cR, int i64 bars, vT, vP, vX, vS] 32 (0, 0))) ∧ Hid (Below w.heap.size w wr)) (fun _ iv _ => nr - (intOf iv).toNat)
   case atStart => exact ⟨0, [], Nat.zero_le _, rfl, HR3, HA3, HB3⟩
   case round =>
    clear HR3 HA3 HB3
    obtain ⟨r, hs, hrn, rfl, hR, hA, hW⟩ := hrel
    have c5 := A0 hA.out 5 rfl
    by_cases hr : r < nr
    ·have hr' : (r : Int) < (nr : Int) := by omega
     generalize wr = wi at *
     go_wp2_with fail
     clear c5
     go_loopw [11, 12] (fun rv jv wr => ∃ j : Nat, j ≤ i ∧ jv = int i64 j ∧ Hid (wr.ownsRow wi.heap.size 3 1 rv j (As ((BV k bs r).take j))) ∧ Hid (Below wi.heap.size wi wr)) (fun _ jv _ => i - (intOf jv).toNat)
     case atStart =>
      refine ⟨0, Nat.zero_le _, rfl, qh ⟨rfl, Or.inr ⟨wi.heap.size, 0, #[], rfl, qn _, heap_alloc_new _ _, qn _, Nat.zero_le _, rfl, rfl⟩⟩, qh ((Below.refl _ _).alloc (qn _) _)⟩
     case round =>
      obtain ⟨j, hjn, rfl, hO, hQ⟩ := hrel
      have hrl : (BV k bs r).length = i := by unfold BV; rw [List.length_map, HBL.out]
      by_cases hj : j < i
      ·obtain ⟨b, hb⟩ : ∃ b, bs[j]? = some b := ⟨_, qg (by rw [HBL.out]; exact hj)⟩
       obtain ⟨b1, o1, hp1, hat, hb1⟩ := (HROW.out.below hW.out (qn _)).block hb
       subst hp1
       have hbb : AG b = true := List.all_eq_true.1 HALL.out b (List.mem_of_getElem? hb)
       have htk : (BV k bs r).take (j + 1) = (BV k bs r).take j ++ [Av k b r k.signs 0] := by
        rw [List.take_add_one]
        congr 1
        unfold BV
        rw [List.getElem?_map, hb]; rfl
       have hAl : w.heap.size < wi.heap.size := (qs.1 hA.out).1
       have KS := qh (fun (W : World) (h : Below wi.heap.size wi W) => IX (hat.below h hb1) hb)
       have HCALL := qh (fun (W : World) (h : Below wi.heap.size wi W) => HPR.out b hbb r W (hW.out.trans (h.mono hW.out.size)))
       have HTK := qh htk
       have hj' : (j : Int) < (i : Int) := by omega
       have hqsz := hQ.out.size
       clear htk hat hb1 hb hbb
       generalize Av k b r k.signs 0 = pr at *
       go_wp2_with fail
       refine wp_region_noPanic ?_
       refine wp_region_held (S := fun W => Below wi.heap.size wi W) (by kernel_rfl) ?_
       change wpAnyH _ _ _ _ _ _ _ _ wr.drew
       have hS := hQ.out.drew
       refine tq 0 _ u11 rfl (by kernel_rfl) (fun _ _ _ h => h) (Or.inl ⟨by kernel_rfl, fun W hW => by go_simp⟩) hS ?_
       simp only [qA, qB, qC, Act.put, qD, qE, qF]
       refine tq 1 _ (.agg #[int i64 wd, int i64 dp, int i64 ta, int i64 tb, int i64 tc, .slice aR nr cR, int i64 bars, vT, vP, vX, vS]) rfl (by kernel_rfl) (fun _ _ _ h => h) (Or.inl ⟨by kernel_rfl, fun W hW => by have hr := (hW.block _ hAl).trans hA.out; have c0 := A0 hr 0 rfl; have c1 := A0 hr 1 rfl; have c2 := A0 hr 2 rfl; have c3 := A0 hr 3 rfl; have c4 := A0 hr 4 rfl; have c5 := A0 hr 5 rfl; have c6 := A0 hr 6 rfl; have c7 := A0 hr 7 rfl; have c8 := A0 hr 8 rfl; have c9 := A0 hr 9 rfl; have c10 := A0 hr 10 rfl; go_simp⟩) hS ?_
       simp only [qA, qB, qC, Act.put, qD, qE, qF]
       refine tq 2 _ (.slice (some ⟨b1, o1, none⟩) i cB) rfl (by kernel_rfl) (fun _ _ _ h => h) (Or.inl ⟨by kernel_rfl, fun W hW => by go_simp⟩) hS ?_
       simp only [qA, qB, qC, Act.put, qD, qE, qF]
       refine tq 3 _ (int i64 j) rfl (by kernel_rfl) (fun _ _ _ h => h) (Or.inl ⟨by kernel_rfl, fun W hW => by go_simp⟩) hS ?_
       simp only [qA, qB, qC, Act.put, qD, qE, qF]
       refine tq 4 _ (.pointer (some ⟨b1, o1 + j * 17, none⟩)) rfl (by kernel_rfl) (fun _ _ _ h => h) (Or.inl ⟨by kernel_rfl, fun W hW => by go_simp⟩) hS ?_
       simp only [qA, qB, qC, Act.put, qD, qE, qF]
       refine tq 5 _ (.agg #[.string ⟨b.name.toArray⟩, int i64 b.weight, int i64 b.lift, int i64 b.girth, int i64 b.step, int i64 b.jump, int i64 b.r0, int i64 b.r1, int i64 b.r2, int i64 b.s0, int i64 b.s1, int i64 b.s2, int i64 b.t0, int i64 b.t1, int i64 b.t2, int i64 b.effort, int i64 b.recover]) rfl (by kernel_rfl) (fun _ _ _ h => h) (Or.inl ⟨by kernel_rfl, fun W hW => by obtain ⟨q0, q1, q2, q3, q4, q5, q6, q7, q8, q9, q10, q11, q12, q13, q14, q15, q16⟩ := KS.out W hW; go_simp⟩) hS ?_
       simp only [qA, qB, qC, Act.put, qD, qE, qF]
       refine tq 6 _ (int i64 r) rfl (by kernel_rfl) (fun _ _ _ h => h) (Or.inl ⟨by kernel_rfl, fun W hW => by go_simp⟩) hS ?_
       simp only [qA, qB, qC, Act.put, qD, qE, qF]
       refine tr 7 _ (by kernel_rfl) rfl fun K1 hK => ?_
       go_simp
       refine (HCALL.out _ hS).mono ?_
       rintro e w5 ⟨rfl, hb5⟩
       have hb5' : Below wr.heap.size wr w5 := (Below.refl wr.heap.size wr).drew.trans hb5
       have ho5 := Cs hO.out hb5'
       have hQ5 : Below wi.heap.size wi w5 := hQ.out.trans (hb5'.mono hqsz)
       have hsz5 := hQ5.size
       refine hK.out _ _ hQ5 (fun _ => ?_)
       clear hK K1 hS hb5 hb5'
       try simp only [qA, qB, qC, Act.put, qD, qE, qF]
       have HO5 := qh (ho5.alloc (.cells #[int i64 pr] 3)); have HO5' := qh ho5; have HQ5 := qh hQ5
       clear ho5 hQ5
       refine tr 8 _ (by kernel_rfl) rfl fun K1 hK => ?_
       go_simp
       refine hK.out _ _ (HQ5.out.alloc hsz5 (.cells #[int i64 pr] 3)) (fun _ => ?_)
       clear hK K1
       try simp only [qA, qB, qC, Act.put, qD, qE, qF]
       refine tr 9 _ (by kernel_rfl) rfl fun K1 hK => ?_
       rw [if_pos]
       rotate_left
       ·rfl
       refine wp_append_own _ _ _ 55 rfl wi.heap.size 3 i3 (int i64 0) 1 8 Tryz.underlying55 hi3 hz3 hs3 hb3 rfl (by decide) u11 j (As ((BV k bs r).take j)) rfl HO5.out ⟨w5.heap.size, 0, none⟩ 1 1 [int i64 pr] rfl rfl (cell_one_new _ _ _) (by intro u hu; simp at hu; subst hu; rfl) (by simp only [maxLen]; omega) (by omega) (by simp; omega) ?_
       intro v' w6 hown hgrow _
       have HB6 := qh ((HQ5.out.alloc hsz5 (.cells #[int i64 pr] 3)).grown hgrow (by simp; omega) (DW HO5'.out))
       have HO6 := qh hown
       refine hK.out _ _ HB6.out (fun _ => ?_)
       clear hK K1 hown hgrow
       try simp only [qA, qB, qC, Act.put, qD, qE, qF]
       refine tq 10 _ v' rfl (by kernel_rfl) (fun _ _ _ h => h) (Or.inl ⟨by kernel_rfl, fun W hW => by go_simp⟩) HB6.out ?_
       simp only [qA, qB, qC, Act.put, qD, qE, qF]
       refine wpAnyH_done (by kernel_rfl) ?_ _
       refine NoPanic.normal ?_
       go_wp2_with fail
       go_roundw
       case rel => exact ⟨j + 1, by omega, by go_num, qh (by rw [HTK.out, F9]; exact HO6.out), HB6⟩
       case measure => simp [intOf]; omega
      ·obtain rfl : j = i := by omega
       have hj' : ¬ (j : Int) < (j : Int) := by omega
       have hfull : (BV k bs r).take j = BV k bs r := List.take_of_length_le (by omega)
       have hrow := hO.out
       rw [hfull] at hrow
       obtain ⟨ao2, c2, ev, _⟩ := Cp hrow hrl
       rw [hrl] at ev
       subst ev
       have hR4 := hR.out.below hQ.out
       have hA4 := (hQ.out.block _ (qs.1 hA.out).1).trans hA.out
       have hlr : ((List.range r).map (BV k bs)).length = r := by simp
       have hown4 := hR4.own
       rw [hlr] at hown4
       have hwsz := hW.out.size
       have hqsz := hQ.out.size
       have HO4 := qh (hown4.alloc (.cells #[.slice ao2 j c2] 55)); have HO4' := qh hown4; have HR4 := qh hR4; have HROW2 := qh hrow; have HA4 := qh hA4
       clear hfull hrow hR4 hlr hown4 hO hA4
       go_wp2_with (at_builtin; refine wpList_append_own _ rfl _ _ 50 rfl w.heap.size 55 i55 (.slice none 0 0) 1 24 Tryz.underlying50 hi55 hz0 hz1 hz2 rfl (by decide) u9 r hs rfl HO4.out ⟨wr.heap.size, 0, none⟩ 1 1 [.slice ao2 j c2] rfl rfl (cell_one_new _ _ _) (by intro u hu; simp at hu; subst hu; rfl) (by simp only [maxLen]; omega) (by omega) (by simp; omega) ?_; intro v' w6 hown hgrow _)
       have hb6 : Below w.heap.size w w6 := ((hW.out.trans (hQ.out.mono hwsz)).alloc (by omega) (.cells #[.slice ao2 j c2] 55)).grown hgrow (by simp; omega) (DW HO4'.out)
       have hA6 := Gl ((Below.heap_alloc wr (.cells #[.slice ao2 j c2] 55) w.heap.size (qs.1 HA4.out).1).trans HA4.out) HO4.out (by decide) hgrow
       have hR6 : RowsW w.heap.size ((List.range (r + 1)).map (BV k bs)) v' (hs ++ [.slice ao2 j c2]) w6 := by
        have hl6 : ((List.range (r + 1)).map (BV k bs)).length = r + 1 := by simp
        have hhs : hs.length = r := by have := HO4.out.1; omega
        refine ⟨by rw [hl6]; exact hown, fun q h row hq hr => ?_⟩
        have hqi : q < r + 1 := by have := (ql.1 hr).1; omega
        have hrow2 : row = BV k bs q := by
         rw [List.getElem?_map, List.getElem?_range hqi] at hr
         exact (Option.some.inj hr).symm
        by_cases hq2 : q < r
        ·rw [List.getElem?_append_left (by omega)] at hq
         have h0 := HR4.out.at_ q h row hq (by rw [List.getElem?_map, List.getElem?_range hq2, hrow2]; rfl)
         exact EE (h0.alloc (.cells #[.slice ao2 j c2] 55)) HO4.out (by decide) hgrow
        ·obtain rfl : q = r := by omega
         rw [List.getElem?_append_right (by omega), hhs, Nat.sub_self] at hq
         have e1 : Value.slice ao2 j c2 = h := by simpa using hq
         subst e1 hrow2
         have h0 := C2 (B := w.heap.size) HROW2.out hwsz
         rw [hrl]
         exact EE (h0.alloc (.cells #[.slice ao2 j c2] 55)) HO4.out (by decide) hgrow
       have HR6 := qh hR6; have HB6 := qh hb6; have HA6 := qh hA6
       clear hR6 hb6 hown hgrow hA6
       go_roundw
       case rel => exact ⟨r + 1, hs ++ [.slice ao2 j c2], by omega, by go_num, HR6, HA6, HB6⟩
       case measure => simp [intOf]; omega
    ·obtain rfl : r = nr := by omega
     have hr' : ¬ (r : Int) < (r : Int) := by omega
     have HMAT := qh hR.out.mat
     clear hR
     go_wp2_with fail
     go_ret2
     exact ⟨hW.out, _, rfl, by rw [HM.out]; exact HMAT.out⟩
theorem Ke (k : Wrk) (bs : List Bod) (nb : Nat) (hbl : bs.length = nb) (hbn : ∀ b ∈ bs, b.name.length ≤ maxLen) (ws : Array Value) (aB : Option Addr) (cB : Nat) (w : World) (hWk : WkAt k ws w) (hrow : IsRow He 17 w (.slice aB nb cB) bs) :
  Calls Tryz.prog 17 #[.agg ws, .slice aB nb cB] w (M0 (AT k bs) (if AT k bs = 0 then Dc k bs else []) w) := by
 obtain ⟨i55, hi55, hz0, hz1, hz2⟩ := info_parts Fq
 obtain ⟨i3, hi3, hz3, hs3, hb3⟩ := Jb
 have hs32 := hWk.size
 have hnbm : nb ≤ maxLen := by obtain ⟨_, _, _, h, _⟩ := hrow; omega
 obtain ⟨E, hE⟩ : ∃ E, AT k bs = E := ⟨_, rfl⟩
 obtain ⟨M, hM⟩ : ∃ M, (if E = 0 then Dc k bs else []) = M := ⟨_, rfl⟩
 rw [hE, hM]
 have h1 : Ao k ≠ 0 → E = Ao k ∧ M = [] := fun h => by
  have e : E = Ao k := by rw [← hE]; unfold AT; rw [if_pos h]
  exact ⟨e, by rw [← hM, if_neg (by rw [e]; exact h)]⟩
 have h2 : Ao k = 0 → (16 < k.roles.length ∨ 16 < nb) → E = 2 ∧ M = [] := fun h h16 => by
  have e : E = 2 := by rw [← hE]; unfold AT; rw [if_neg (by simpa using h), if_pos (by rw [hbl]; exact h16)]
  exact ⟨e, by rw [← hM, if_neg (by rw [e]; decide)]⟩
 have h3 : Ao k = 0 → ¬ (16 < k.roles.length ∨ 16 < nb) → bs.all AG = false → E = 250 ∧ M = [] := fun h h16 hb => by
  have e : E = 250 := by rw [← hE]; unfold AT; rw [if_neg (by simpa using h), if_neg (by rw [hbl]; exact h16), hb]; rfl
  exact ⟨e, by rw [← hM, if_neg (by rw [e]; decide)]⟩
 have h4 : Ao k = 0 → ¬ (16 < k.roles.length ∨ 16 < nb) → bs.all AG = true → E = 0 ∧ M = Dc k bs := fun h h16 hb => by
  have e : E = 0 := by rw [← hE]; unfold AT; rw [if_neg (by simpa using h), if_neg (by rw [hbl]; exact h16), hb]; rfl
  exact ⟨e, by rw [← hM, if_pos e]⟩
 have hck : ∀ W, Below w.heap.size w W → Calls Tryz.prog 36 #[.agg ws] W fun e w' => e = .returned (int i64 (Ao k)) ∧ Below W.heap.size W w' := fun W hb => LE (hWk.below hb (qn _))
 have hbc := fun (b : Bod) (hb : b ∈ bs) (W : World) => L5 b (hbn b hb) W
 have hpr := fun (b : Bod) (hb : AG b = true) (i : Int) (hk : Ao k = 0) (hsg : k.signs.length ≤ 4096) (W : World) (hbw : Below w.heap.size w W) => Kg k b i hk hb hsg ws W (hWk.below hbw (qn _))
 have hsg : Ao k = 0 → k.signs.length ≤ 4096 := fun h => by
  have hl := (D2 h).1
  first | exact (D2 h).2.1 | omega | simp_all
 have hcm : Dc k bs = (List.range k.roles.length).map (BV k bs) := rfl
 obtain ⟨aR, aT, aP, aX, aS, cR, cT, cP, cX, cS, rfl, _, _, _, _, _⟩ := hWk
 unfold Bh at hbc hpr
 have H1 := qh h1; have H2 := qh h2; have H3 := qh h3; have H4 := qh h4; have HCK := qh hck; have HBC := qh hbc; have HPR := qh hpr; have HSG := qh hsg; have HCM := qh hcm; have HS32 := qh hs32; have HROW := qh hrow; have HBL := qh hbl
 clear h1 h2 h3 h4 hck hbc hpr hsg hcm hs32 hrow hE hM hbn hbl
 generalize k.roles.length = nr at *
 generalize k.width = wd at *
 generalize k.depth = dp at *
 generalize k.ta = ta at *
 generalize k.tb = tb at *
 generalize k.tc = tc at *
 generalize k.clock.bars = bars at *
 generalize Value.slice aT k.clock.tempos.length cT = vT at *
 generalize Value.slice aP k.clock.pauses.length cP = vP at *
 generalize Value.slice aX k.clock.spans.length cX = vX at *
 generalize Value.slice aS k.signs.length cS = vS at *
 have hA0 := heap_alloc_new w (.cells #[int i64 wd, int i64 dp, int i64 ta, int i64 tb, int i64 tc, .slice aR nr cR, int i64 bars, vT, vP, vX, vS] 32)
 have hB0 : Below w.heap.size w (w.alloc (.cells #[int i64 wd, int i64 dp, int i64 ta, int i64 tb, int i64 tc, .slice aR nr cR, int i64 bars, vT, vP, vX, vS] 32)) := (Below.refl _ w).alloc (qn _) _
 have hz0w : w.heap.size < (w.alloc (.cells #[int i64 wd, int i64 dp, int i64 ta, int i64 tb, int i64 tc, .slice aR nr cR, int i64 bars, vT, vP, vX, vS] 32)).heap.size := by simp
 have HA0 := qh hA0; have HB0 := qh hB0
 clear hA0 hB0
 go_enter Tryz.func17, Tryz.ntmps17
 change Code.wp Tryz.prog (A8 5 JH MM) _ _ _
 conv => arg 2; whnf
 go_wp2_with fail
 conv => arg 2; whnf
 go_wp2_with (refine wpList_load_row rfl 32 _ rfl w.heap.size rfl 32 _ (0, 0) _ HA0.out Tryz.underlying32 rfl HS32.out ?_; simp only [Act.put, qD, qE, qF])
 generalize w.alloc (.cells #[int i64 wd, int i64 dp, int i64 ta, int i64 tb, int i64 tc, .slice aR nr cR, int i64 bars, vT, vP, vX, vS] 32) = w0 at *
 refine (HCK.out w0 HB0.out).mono ?_
 rintro e w1 ⟨rfl, hb⟩
 have HA1 := qh ((hb.block _ hz0w).trans HA0.out)
 have HB1 := qh (HB0.out.trans (hb.mono HB0.out.size))
 have hz1w : w.heap.size < w1.heap.size := Nat.lt_of_lt_of_le hz0w hb.size
 clear hb
 have c5 := A0 HA1.out 5 rfl
 go_wp2_with fail
 conv => arg 2; whnf
 by_cases hk : Ao k = 0
 case neg =>
  obtain ⟨e1, e2⟩ := H1.out hk
  have f1 : (Ao k != 0) = true := by simpa using hk
  subst e1; subst e2
  clear hk
  go_wp2_with fail
  go_ret2
  exact ⟨HB1.out, _, rfl, Ft _⟩
 have HK := qh hk
 have f1 : (Ao k != 0) = false := by simp [hk]
 clear hk
 go_wp2_with fail
 conv => arg 2; whnf
 by_cases q1 : 16 < nr
 ·obtain ⟨rfl, rfl⟩ := H2.out HK.out (Or.inl q1)
  have q1' : (16 : Int) < (nr : Int) := by omega
  go_wp2_with fail
  go_ret2
  exact ⟨HB1.out, _, rfl, Ft _⟩
 have q1' : ¬ (16 : Int) < (nr : Int) := by omega
 by_cases q2 : 16 < nb
 ·obtain ⟨rfl, rfl⟩ := H2.out HK.out (Or.inr q2)
  have q2' : (16 : Int) < (nb : Int) := by omega
  go_wp2_with fail
  go_ret2
  exact ⟨HB1.out, _, rfl, Ft _⟩
 have q2' : ¬ (16 : Int) < (nb : Int) := by omega
 have hn16 : ¬ (16 < nr ∨ 16 < nb) := by omega
 have H3' := qh (H3.out HK.out hn16)
 have H4' := qh (H4.out HK.out hn16)
 clear H1 H2 H3 H4 HCK
 go_wp2_with fail
 conv => arg 2; whnf
 go_wp2_with fail
 clear c5 q1' q2' hn16 f1
 have HT0 : Hid ((bs.take 0).all AG = true) := qh (by simp)
 go_loopw [7] (fun iv wr => ∃ i : Nat, i ≤ nb ∧ iv = int i64 i ∧ Hid ((bs.take i).all AG = true) ∧ Hid (wr.heap[w.heap.size]? = some (.cells #[int i64 wd, int i64 dp, int i64 ta, int i64 tb, int i64 tc, .slice aR nr cR, int i64 bars, vT, vP, vX, vS] 32 (0, 0))) ∧ Hid (Below w.heap.size w wr)) (fun iv _ => nb - (intOf iv).toNat)
 case atStart => exact ⟨0, Nat.zero_le _, rfl, HT0, HA1, HB1⟩
 case round =>
  clear HT0 HA1 HB1
  obtain ⟨i, hi, rfl, hall, hA, hB⟩ := hrel
  by_cases hin : i < nb
  ·have hin' : (i : Int) < (nb : Int) := by omega
   obtain ⟨b, hb⟩ : ∃ b, bs[i]? = some b := ⟨_, qg (by rw [HBL.out]; exact hin)⟩
   obtain ⟨b1, o1, hp1, hat, hb1⟩ := (HROW.out.below hB.out (qn _)).block hb
   subst hp1
   obtain ⟨p0, p1, p2, p3, p4, p5, p6, p7, p8, p9, p10, p11, p12, p13, p14, p15, p16⟩ := IX hat hb
   have HOK : Hid (AG b = true → (bs.take (i + 1)).all AG = true) := qh fun h => It hall.out hb h
   have HBAD : Hid (AG b = false → bs.all AG = false) := qh fun h => JV hb h
   have HC := qh (HBC.out b (List.mem_of_getElem? hb) wr)
   have hzr : w.heap.size < wr.heap.size := (qs.1 hA.out).1
   clear hat hb1 hb hall
   go_wp2_with fail
   refine HC.out.mono ?_
   rintro e w2 ⟨rfl, hb2⟩
   have HA2 := qh ((hb2.block _ hzr).trans hA.out)
   have HB2 := qh (hB.out.trans (hb2.mono hB.out.size))
   clear hb2 p0 p1 p2 p3 p4 p5 p6 p7 p8 p9 p10 p11 p12 p13 p14 p15 p16 hA hB
   cases hbb : AG b with
   | false =>
    obtain ⟨rfl, rfl⟩ := H3'.out (HBAD.out hbb)
    have f2 : (AP false 250 != 0) = true := rfl
    have f3 : AP false 250 = 250 := rfl
    clear hbb
    rw [f3]
    go_wp2_with fail
    go_ret2
    exact ⟨HB2.out, _, rfl, Ft _⟩
   | true =>
    have HT2 := qh (HOK.out hbb)
    have f2 : (AP true 250 != 0) = false := rfl
    clear hbb
    go_wp2_with fail
    go_roundw
    case rel => exact ⟨i + 1, by omega, by go_num, HT2, HA2, HB2⟩
    case measure => simp [intOf]; omega
  ·obtain rfl : i = nb := by omega
   have hin' : ¬ (i : Int) < (i : Int) := by omega
   have HALL : Hid (bs.all AG = true) := qh (by
    have := hall.out
    rwa [List.take_of_length_le (by rw [HBL.out]; exact qn _)] at this)
   obtain ⟨rfl, hMe⟩ := H4'.out HALL.out
   have HME := qh (hMe.trans HCM.out)
   have HPR2 := qh (fun (b : Bod) (hb : AG b = true) (q : Int) (W : World) (hbw : Below w.heap.size w W) => HPR.out b hb q HK.out (HSG.out HK.out) W hbw)
   clear hMe hall H3' H4' HCM hin
   go_wp2_with fail
   exact IL k bs i nr HBL.out HALL.out (by omega) (by omega) M HME.out wd dp ta tb tc bars vT vP vX vS aR aB cR cB w wr HPR2.out HROW.out hA.out hB.out _ _ _ _ _ _ _ _ _ _ _ _ _ _ _ _ _ _ _ _ _ _ _ _ _ _ _ _ _ _ _ _ _ _ _ _ _ _ _ _ _ _ _ _ _ _ _ _ _ _ _ _ _ _ _ _ _ _ _ _ _ _ _ _ _ _ _ _ _
end
section
open Go Go.RowKit Go.Deep
section
variable {cost : List (List Int)} {k : Nat}
end
section
variable {cost : List (List Int)} {column : List Int}
end
end
section
open Go Go.RowKit Go.Deep
theorem Om (k : Wrk) (nb : Nat) (ws : Array Value) (aB : Option Addr) (cB : Nat) (w : World) (hWk : WkAt k ws w) :
  Calls Tryz.prog 15 #[.agg ws, .slice aB nb cB] w fun e w' => e = .returned (.bool (Mi k && decide (nb ≤ 40))) ∧ Below w.heap.size w w' := by
 have hws := hWk.size
 obtain ⟨V, hV⟩ : ∃ V, w.alloc (.cells ws 32) = V := ⟨_, rfl⟩
 have hBV : Below w.heap.size w V := by rw [← hV]; exact (Below.refl _ w).alloc (qn _) _
 have hVA : V.heap[w.heap.size]? = some (.cells ws 32 (0, 0)) := by rw [← hV]; exact heap_alloc_new w _
 have hsV : w.heap.size ≤ V.heap.size := hBV.size
 have hf := hWk.few V
 have HF := qh hf; have HV := qh hBV; have HA := qh hVA; have HS := qh hws
 clear hf hBV hVA hws hWk
 go_enter Tryz.func15, Tryz.ntmps15
 go_wp2_with (refine wpList_load_row rfl 32 _ rfl w.heap.size rfl 32 _ (0, 0) _ HA.out Tryz.underlying32 rfl HS.out ?_; simp only [Act.put, qD, qE, qF])
 refine HF.out.mono ?_
 rintro e w2 ⟨rfl, hb2⟩
 have B2 := qh (HV.out.trans (hb2.mono hsV))
 clear hb2 HA HV HF hV
 cases hfb : Mi k with
 | false =>
  have HFB := qh hfb
  clear hfb
  go_wp2_with fail
  go_ret
  exact ⟨by rw [HFB.out]; rfl, B2.out⟩
 | true =>
  have HFB := qh hfb
  clear hfb
  by_cases hn : nb ≤ 40
  ·have hn' : (nb : Int) ≤ 40 := by omega
   have HN := qh hn
   clear hn
   go_wp2_with fail
   go_ret
   exact ⟨by rw [HFB.out, decide_eq_true HN.out]; rfl, B2.out⟩
  ·have hn' : ¬ (nb : Int) ≤ 40 := by omega
   have HN := qh hn
   clear hn
   go_wp2_with fail
   go_ret
   refine ⟨?_, B2.out⟩
   show Ending.returned (.bool (decide ((nb : Int) ≤ 40))) = _
   rw [HFB.out, decide_eq_false HN.out, decide_eq_false (by have := HN.out; omega)]; rfl
end
section
open Go Go.RowKit Go.Deep Go.Sort
theorem Md {k : Wrk} {bs : List Bod} {w w' : World} {e : Ending} (h : LX k bs w e w') : M0 (AT k bs) (if AT k bs = 0 then Dc k bs else []) w e w' := by
 obtain ⟨hb, h⟩ := h
 rcases h with ⟨h0, rfl⟩ | ⟨h0, v, hs, rfl, hR⟩
 ·rw [if_neg h0]; exact ⟨hb, _, rfl, Ft _⟩
 ·rw [if_pos h0, h0]; exact ⟨hb, _, rfl, hR.mat⟩
theorem Po (k : Wrk) (ws : Array Value) (bs : List Bod) (nb : Nat) (hbl : bs.length = nb) (hbn : ∀ b ∈ bs, b.name.length ≤ maxLen) (aB : Option Addr) (cB : Nat) (w : World) (hE : Env w) (hz : 2 ≤ w.heap.size) (hWk : WkAt k ws w) (hrow : IsRow He 17 w (.slice aB nb cB) bs) : Calls Tryz.prog 4 #[.agg ws, .slice aB nb cB] w (Qo w) := by
 have hs32 := hWk.size
 have hsan := fun (W : World) (hb : Below w.heap.size w W) => N1 W (Env.two hE hz hb) (Nat.le_trans hz hb.size)
 have hfew := fun (W : World) (hb : Below w.heap.size w W) => Om k nb ws aB cB W (hWk.below hb (qn _))
 have hcst := fun (W : World) (hb : Below w.heap.size w W) => (Jg k bs nb hbl hbn ws aB cB W (Env.two hE hz hb) (Nat.le_trans hz hb.size) (hWk.below hb (qn _)) (hrow.below hb (qn _))).mono fun _ _ h => Md h
 have hrct := fun (W : World) (hb : Below w.heap.size w W) => Ke k bs nb hbl hbn ws aB cB W (hWk.below hb (qn _)) (hrow.below hb (qn _))
 have hmx : nb ≤ maxLen := by obtain ⟨_, _, _, h, _⟩ := hrow; omega
 obtain ⟨M, hM⟩ : ∃ M, (if AT k bs = 0 then Dc k bs else []) = M := ⟨_, rfl⟩
 rw [hM] at hrct
 simp only [hM] at hcst
 generalize AT k bs = E at *
 have hb0 : Below w.heap.size w (w.alloc (.cells ws 32)) := (Below.refl _ w).alloc (qn _) _
 have HA0 := qh (heap_alloc_new w (.cells ws 32))
 have HS32 := qh hs32; have HSAN := qh hsan; have HFEW := qh hfew; have HCST := qh hcst; have HRCT := qh hrct; have HB0 := qh hb0
 have hz0 : w.heap.size < (w.alloc (.cells ws 32)).heap.size := by simp
 clear hs32 hsan hfew hcst hrct hb0 hE hz hWk hrow hM hbl hbn
 go_enter Tryz.func4, Tryz.ntmps4
 go_wp2_with fail
 generalize w.alloc (.cells ws 32) = w0 at *
 refine (HSAN.out w0 HB0.out).mono ?_
 rintro e w1 ⟨rfl, hb⟩
 have HA1 := qh ((hb.block _ hz0).trans HA0.out)
 have HB1 := qh (HB0.out.trans (hb.mono HB0.out.size))
 have hz1 := Nat.lt_of_lt_of_le hz0 hb.size
 clear hb
 go_wp2_with (refine wpList_load_row rfl 32 _ rfl w.heap.size rfl 32 _ (0, 0) _ HA1.out Tryz.underlying32 rfl HS32.out ?_; simp only [Act.put, qD, qE, qF])
 refine (HFEW.out w1 HB1.out).mono ?_
 rintro e w2 ⟨rfl, hb⟩
 have HA2 := qh ((hb.block _ hz1).trans HA1.out)
 have HB2 := qh (HB1.out.trans (hb.mono HB1.out.size))
 have hz2 := Nat.lt_of_lt_of_le hz1 hb.size
 clear hb
 cases hf : (Mi k && decide (nb ≤ 40)) with
 | false =>
  clear hf
  go_wp2_with fail
  go_ret
  exact ⟨rfl, HB2.out⟩
 | true =>
 clear hf
 go_wp2_with (refine wpList_load_row rfl 32 _ rfl w.heap.size rfl 32 _ (0, 0) _ HA2.out Tryz.underlying32 rfl HS32.out ?_; simp only [Act.put, qD, qE, qF])
 refine (HCST.out w2 HB2.out).mono ?_
 rintro e w3 ⟨hb, v1, rfl, hm1⟩
 have HA3 := qh ((hb.block _ hz2).trans HA2.out)
 have HB3 := qh (HB2.out.trans (hb.mono HB2.out.size))
 have hz3 := Nat.lt_of_lt_of_le hz2 hb.size
 have HM1 := qh hm1
 clear hb hm1
 go_wp2_with (refine wpList_load_row rfl 32 _ rfl w.heap.size rfl 32 _ (0, 0) _ HA3.out Tryz.underlying32 rfl HS32.out ?_; simp only [Act.put, qD, qE, qF])
 refine (HRCT.out w3 HB3.out).mono ?_
 rintro e w4 ⟨hb, v2, rfl, hm2⟩
 have HB4 := qh (HB3.out.trans (hb.mono HB3.out.size))
 have hm1 := HM1.out.below hb (qn _)
 obtain ⟨ao, c, hve⟩ := hm1.form
 obtain ⟨bo, d, hve2⟩ := hm2.form
 subst hve
 subst hve2
 have hsl := Js ao bo M.length M.length c d M M rfl rfl w4 hm1 hm2
 rw [decide_eq_true (rfl : M = M)] at hsl
 have HSL := qh hsl
 clear hb hm1 hm2 hsl HM1
 generalize M.length = N at *
 go_wp2_with fail
 refine HSL.out.mono ?_
 rintro e w5 ⟨rfl, hb5⟩
 have HB5 := qh (HB4.out.trans (hb5.mono HB4.out.size))
 clear hb5
 go_wp2_with fail
 go_ret
 exact ⟨rfl, HB5.out⟩
end
end Go.Proofs.YtggcbblikgankaaGreatDoor
