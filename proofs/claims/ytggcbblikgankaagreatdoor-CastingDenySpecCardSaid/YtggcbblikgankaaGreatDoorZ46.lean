/- Contracts and plain laws on the way to the statement: part 46. -/
import Derived.Test.YtggcbblikgankaaGreatDoorZ45
import Derived.Test.YtggcbblikgankaaGreatDoorZ42
import Derived.Test.YtggcbblikgankaaGreatDoorZ36
import Derived.Test.YtggcbblikgankaaGreatDoorZ43
import Derived.Test.YtggcbblikgankaaGreatDoorZ44
set_option linter.unusedVariables false
set_option linter.unusedSimpArgs false
section
namespace Go.Proofs.YtggcbblikgankaaGreatDoor
open Go Go.RowKit Go.Deep
noncomputable def part39n5 : Code := fstC (lastPart 5 code39)
noncomputable def part39n6 : Code := lastPart 6 code39
def rowM (k : Wrk) (bs : List Bod) (i : Nat) : List Int := bs.map fun b => priceM k b i k.signs 0
def costsM (k : Wrk) (bs : List Bod) : List (List Int) := (List.range k.roles.length).map (rowM k bs)
structure RowsW (Z : Nat) (rows : List (List Int)) (v : Value) (hs : List Value) (W : World) : Prop where
 own : W.ownsRow Z 55 1 v rows.length hs
 at_ : ∀ (i : Nat) (h : Value) (row : List Int), hs[i]? = some h → rows[i]? = some row → W.ownsRow Z 3 1 h row.length (intsL row)
theorem own_vals {w : World} {B e n : Nat} {v : Value} {xs : List Value} (h : w.ownsRow B e 1 v n xs) (hn : xs.length = n) : IsRow encH 1 w v xs := by
 have e1 : ∀ ys : List Value, ys.flatMap encH = ys := by
  intro ys
  induction ys with
  | nil => rfl
  | cons y ys ih => rw [List.flatMap_cons, ih]; rfl
 exact owns_isRow (fun _ => rfl) (by rw [e1]; exact h) hn
theorem RowsW.mat {Z : Nat} {rows : List (List Int)} {v : Value} {hs : List Value} {W : World} (h : RowsW Z rows v hs W) : IsMat W v rows := by
 have hl : hs.length = rows.length := by have := h.own.1; omega
 exact ⟨hs, own_vals h.own hl, hl, fun i x row hx hr => own_ints (h.at_ i x row hx hr) rfl⟩
theorem RowsW.below {Z : Nat} {rows : List (List Int)} {v : Value} {hs : List Value} {W W' : World} (h : RowsW Z rows v hs W) (hb : Below W.heap.size W W') : RowsW Z rows v hs W' :=
 ⟨own_at_below h.own hb, fun i x row hx hr => own_at_below (h.at_ i x row hx hr) hb⟩
set_option maxRecDepth 100000 in
set_option maxHeartbeats 8000000 in
theorem costs_rows (k : Wrk) (bs : List Bod) (nb nr : Nat) (hbl : bs.length = nb) (hnb : nb ≤ 16) (hnr : k.roles.length = nr) (hnr16 : nr ≤ 16) (hbn : ∀ b ∈ bs, b.name.length ≤ maxLen) (hsg : k.signs.length ≤ 1048576) (ws : Array Value) (A Z0 : Nat) (v6 : Value) (Bs : List Nat) (w : World) (hE : Env w) (hz : 2 ≤ w.heap.size) (hWk : WkAt k ws w) (hA : w.heap[A]? = some (.cells ws 32 (0, 0))) (hP : PeopleW Z0 A bs v6 Bs w)
  (e0 e1 e3 e5 e7 e8 e9 e10 e11 e12 e13 e14 e15 e16 e17 e18 e19 e20 e21 e22 e23 e24 e25 e26 e27 e28 e29 e30 e31 e32 e33 e34 e35 e36 e37 e38 e39 e40 e41 e42 e43 e44 e45 e46 e47 e48 e49 e50 e51 e52 e53 e54 e55 e56 e57 e58 e59 e60 e61 e62 e63 e64 e65 e66 e67 e68 e69 e70 : Value) (Q : Exit → Act → World → Prop) (X : Code)
  (hX : ∀ (w' : World) (v4 : Value) (hs : List Value) (f9 f10 f12 f44 f45 f46 f47 f48 f49 f50 f51 f52 f53 f54 f55 f56 f57 f58 f59 f60 f61 f62 f63 f64 f65 f66 f67 f68 f69 : Value), Below w.heap.size w w' → RowsW w.heap.size (costsM k bs) v4 hs w' → Code.wp Tryz.prog X Q { tmps := #[e0, e1, .pointer (some ⟨A, 0, none⟩), e3, v4, e5, v6, e7, e8, f9, f10, e11, f12, e13, e14, e15, e16, e17, e18, e19, e20, e21, e22, e23, e24, e25, e26, e27, e28, e29, e30, e31, e32, e33, e34, e35, e36, e37, e38, e39, e40, e41, e42, e43, f44, f45, f46, f47, f48, f49, f50, f51, f52, f53, f54, f55, f56, f57, f58, f59, f60, f61, f62, f63, f64, f65, f66, f67, f68, f69, e70], defers := [] } w') :
  Code.wp Tryz.prog (.seq part39n5 X) Q { tmps := #[e0, e1, .pointer (some ⟨A, 0, none⟩), e3, .slice none 0 0, e5, v6, e7, e8, e9, e10, e11, e12, e13, e14, e15, e16, e17, e18, e19, e20, e21, e22, e23, e24, e25, e26, e27, e28, e29, e30, e31, e32, e33, e34, e35, e36, e37, e38, e39, e40, e41, e42, e43, e44, e45, e46, e47, e48, e49, e50, e51, e52, e53, e54, e55, e56, e57, e58, e59, e60, e61, e62, e63, e64, e65, e66, e67, e68, e69, e70], defers := [] } w := by
 have hlB : Bs.length = nb := hP.len.trans hbl
 have hrowP : IsRow encH 1 w v6 (Bs.map (manV A)) := own_vals hP.own (by rw [List.length_map, hP.len])
 have hrowP0 := hrowP
 obtain ⟨ap, cp, ev, _⟩ := hrowP
 rw [List.length_map, hlB] at ev
 subst ev
 obtain ⟨cR, aR, cRR⟩ : ∃ (cR : Nat) (aR : Option Addr), w.cell? ⟨A, 5, none⟩ = some (.slice aR nr cR) := by
  obtain ⟨aR, aT, aP, aX, aS, cR, cT, cP, cX, cS, rfl, _⟩ := hWk
  exact ⟨cR, aR, by rw [← hnr]; exact cell_at hA 5 rfl⟩
 have hPR : ∀ (q : Nat) (b : Bod) (B i : Nat) (W : World), bs[q]? = some b → Bs[q]? = some B → Below w.heap.size w W → Calls Tryz.prog 43 #[.int .i64 i, .pointer (some ⟨A, 0, none⟩), .pointer (some ⟨B, 0, none⟩)] W fun e w' => e = .returned (.int .i64 (priceM k b i k.signs 0)) ∧ Below W.heap.size W w' := by
  intro q b B i W hq hB hb
  have h0 := hP.at_ q b B hq hB
  exact price_any k b i (hbn b (List.mem_of_getElem? hq)) hsg ws A B W (Env.two hE hz hb) (Nat.le_trans hz hb.size) (hWk.below hb (Nat.le_refl _)) ((hb.block A (Array.getElem?_eq_some_iff.1 hA).1).trans hA) ((hb.block B (Array.getElem?_eq_some_iff.1 h0).1).trans h0)
 have HPR := Lib.hid hPR; have HX := Lib.hid hX; have HBL := Lib.hid hbl; have HLB := Lib.hid hlB; have HRP := Lib.hid hrowP0; have HNR := Lib.hid hnr
 obtain ⟨i79, hi79, hz0, hz1, hz2⟩ := info_parts info79b
 obtain ⟨i3, hi3, hz3, hs3, hb3⟩ := info3
 clear hPR hX hbl hlB hrowP0 hP hE hWk hA hbn hnr
 unfold part39n5 code39
 conv => arg 2; arg 1; whnf
 go_wp2_with fail
 go_loopw [4, 47] (fun cv iv wr => ∃ (i : Nat) (hs : List Value), i ≤ nr ∧ iv = .int .i64 i ∧ Hid (RowsW w.heap.size ((List.range i).map (rowM k bs)) cv hs wr) ∧ Hid (Below w.heap.size w wr)) (fun _ iv _ => nr - (intOf iv).toNat)
 case atStart => exact ⟨0, [], Nat.zero_le _, rfl, Lib.hid ⟨World.ownsRow_nil _ _ _ _, fun i h row hh => by simp at hh⟩, Lib.hid (Below.refl _ _)⟩
 case round =>
  obtain ⟨i, hs, hin, rfl, hR, hW⟩ := hrel
  by_cases hi : i < nr
  ·have hi' : (i : Int) < (nr : Int) := by omega
   generalize wr = wi at *
   go_wp2_with fail
   go_loopw [10, 53] (fun rv jv wr => ∃ j : Nat, j ≤ nb ∧ jv = .int .i64 j ∧ Hid (wr.ownsRow wi.heap.size 3 1 rv j (intsL ((rowM k bs i).take j))) ∧ Hid (Below wi.heap.size wi wr)) (fun _ jv _ => nb - (intOf jv).toNat)
   case atStart =>
    refine ⟨0, Nat.zero_le _, rfl, Lib.hid ⟨rfl, Or.inr ⟨wi.heap.size, 0, #[], rfl, Nat.le_refl _, heap_alloc_new _ _, Nat.le_refl _, Nat.zero_le _, rfl, rfl⟩⟩, Lib.hid ((Below.refl _ _).alloc (Nat.le_refl _) _)⟩
   case round =>
    obtain ⟨j, hjn, rfl, hO, hQ⟩ := hrel
    have hrl : (rowM k bs i).length = nb := by unfold rowM; rw [List.length_map, HBL.out]
    by_cases hj : j < nb
    ·obtain ⟨b, hb⟩ : ∃ b, bs[j]? = some b := ⟨_, List.getElem?_eq_getElem (by rw [HBL.out]; exact hj)⟩
     obtain ⟨B, hB⟩ : ∃ B, Bs[j]? = some B := ⟨_, List.getElem?_eq_getElem (by rw [HLB.out]; exact hj)⟩
     have hbw : Below w.heap.size w wr := hW.out.trans (hQ.out.mono hW.out.size)
     have hx : (Bs.map (manV A))[j]? = some (manV A B) := by rw [List.getElem?_map, hB]; rfl
     obtain ⟨b1, o1, hp1, hat, hb1⟩ := (HRP.out.below hbw (Nat.le_refl _)).block hx
     subst hp1
     have p0 : wr.cell? ⟨b1, o1 + j, none⟩ = some (manV A B) := by
      have := hat j _ hx 0 _ rfl
      rw [Nat.mul_one, Nat.add_zero] at this; exact this
     have hbw2 : Below w.heap.size w (wr.alloc (.cells #[manV A B] 92)) := hbw.alloc hbw.size _
     have hcall := HPR.out j b B i _ hb hB hbw2
     have htk : (rowM k bs i).take (j + 1) = (rowM k bs i).take j ++ [priceM k b i k.signs 0] := by
      rw [List.take_add_one]
      congr 1
      unfold rowM
      rw [List.getElem?_map, hb]; rfl
     have hq0 := heap_alloc_new wr (.cells #[manV A B] 92)
     have c0 : (wr.alloc (.cells #[manV A B] 92)).cell? ⟨wr.heap.size, 0, none⟩ = some (manV A B) := cell_at hq0 0 rfl
     have hj' : (j : Int) < (nb : Int) := by omega
     have hqsz := hQ.out.size
     have HCALL := Lib.hid hcall; have HTK := Lib.hid htk; have HQ0 := Lib.hid hq0; have HBW := Lib.hid hbw2
     have HMV : Hid (#[manV A B].all (·.oneCell') = true) := Lib.hid (by simp [manV, Value.oneCell'])
     clear hcall htk hq0 hbw hbw2 hat hb1 hx hb hB
     unfold manV at HCALL p0 c0 HMV HQ0 HBW
     generalize priceM k b i k.signs 0 = pr at *
     go_wp2_with (refine wpList_store_row rfl 92 _ _ rfl wr.heap.size #[.func (.func 43) #[] #[.pointer (some ⟨A, 0, none⟩), .pointer (some ⟨B, 0, none⟩)]] rfl rfl 92 _ (heap_alloc_new wr _) (by kernel_rfl) rfl HMV.out ?_; rw [World.setRow_alloc_new])
     refine HCALL.out.mono ?_
     rintro e w5 ⟨rfl, hb5⟩
     have ho5 := own_at_below (hO.out.alloc (.cells #[.func (.func 43) #[] #[.pointer (some ⟨A, 0, none⟩), .pointer (some ⟨B, 0, none⟩)]] 92)) hb5
     have hs5 := hb5.size
     have hss : (wr.alloc (.cells #[.func (.func 43) #[] #[.pointer (some ⟨A, 0, none⟩), .pointer (some ⟨B, 0, none⟩)]] 92)).heap.size = wr.heap.size + 1 := by simp
     have hQ5 : Below wi.heap.size wi w5 := (hQ.out.alloc hqsz (.cells #[.func (.func 43) #[] #[.pointer (some ⟨A, 0, none⟩), .pointer (some ⟨B, 0, none⟩)]] 92)).trans (hb5.mono (by omega))
     have hsz5 := hQ5.size
     have HO5 := Lib.hid (ho5.alloc (.cells #[.int .i64 pr] 3)); have HO5' := Lib.hid ho5; have HQ5 := Lib.hid hQ5
     clear ho5 hb5 hQ5 hs5 hss HCALL HQ0 HBW HMV c0 p0
     go_wp2_with (at_builtin; refine wpList_append_own _ rfl _ _ 55 rfl wi.heap.size 3 i3 (.int .i64 0) 1 8 Tryz.underlying55 hi3 hz3 hs3 hb3 rfl (by decide) u10 j (intsL ((rowM k bs i).take j)) rfl HO5.out ⟨w5.heap.size, 0, none⟩ 1 1 [.int .i64 pr] rfl rfl (cell_one_new _ _ _) (by intro u hu; simp at hu; subst hu; rfl) (by simp only [maxLen]; omega) (by omega) (by simp; omega) ?_; intro v' w6 hown hgrow _)
     have HB6 := Lib.hid ((HQ5.out.alloc hsz5 (.cells #[.int .i64 pr] 3)).grown hgrow (by simp; omega) (own_ge' HO5'.out))
     have HO6 := Lib.hid hown
     clear hown hgrow
     go_roundw
     case rel => exact ⟨j + 1, by omega, by go_num, Lib.hid (by rw [HTK.out, intsL_snoc]; exact HO6.out), HB6⟩
     case measure => simp [intOf]; omega
    ·obtain rfl : j = nb := by omega
     have hj' : ¬ (j : Int) < (j : Int) := by omega
     have hfull : (rowM k bs i).take j = rowM k bs i := List.take_of_length_le (by omega)
     have hrow := hO.out
     rw [hfull] at hrow
     obtain ⟨ao2, c2, ev, _⟩ := own_ints hrow hrl
     rw [hrl] at ev
     subst ev
     have hR4 := hR.out.below hQ.out
     have hlr : ((List.range i).map (rowM k bs)).length = i := by simp
     have hown4 := hR4.own
     rw [hlr] at hown4
     have hwsz := hW.out.size
     have hqsz := hQ.out.size
     have HO4 := Lib.hid (hown4.alloc (.cells #[.slice ao2 j c2] 55)); have HO4' := Lib.hid hown4; have HR4 := Lib.hid hR4; have HROW := Lib.hid hrow
     clear hfull hrow hR4 hlr hown4 hO
     go_wp2_with (at_builtin; refine wpList_append_own _ rfl _ _ 50 rfl w.heap.size 55 i79 (.slice none 0 0) 1 24 Tryz.underlying50 hi79 hz0 hz1 hz2 rfl (by decide) u4 i hs rfl HO4.out ⟨wr.heap.size, 0, none⟩ 1 1 [.slice ao2 j c2] rfl rfl (cell_one_new _ _ _) (by intro u hu; simp at hu; subst hu; rfl) (by simp only [maxLen]; omega) (by omega) (by simp; omega) ?_; intro v' w6 hown hgrow _)
     have hb6 : Below w.heap.size w w6 := ((hW.out.trans (hQ.out.mono hwsz)).alloc (by omega) (.cells #[.slice ao2 j c2] 55)).grown hgrow (by simp; omega) (own_ge' HO4'.out)
     have hR6 : RowsW w.heap.size ((List.range (i + 1)).map (rowM k bs)) v' (hs ++ [.slice ao2 j c2]) w6 := by
      have hl6 : ((List.range (i + 1)).map (rowM k bs)).length = i + 1 := by simp
      have hhs : hs.length = i := by have := HO4.out.1; omega
      refine ⟨by rw [hl6]; exact hown, fun q h row hq hr => ?_⟩
      have hqi : q < i + 1 := by have := (List.getElem?_eq_some_iff.1 hr).1; omega
      have hrow2 : row = rowM k bs q := by
       rw [List.getElem?_map, List.getElem?_range hqi] at hr
       exact (Option.some.inj hr).symm
      by_cases hq2 : q < i
      ·rw [List.getElem?_append_left (by omega)] at hq
       have h0 := HR4.out.at_ q h row hq (by rw [List.getElem?_map, List.getElem?_range hq2, hrow2]; rfl)
       exact own_other (h0.alloc (.cells #[.slice ao2 j c2] 55)) HO4.out (by decide) hgrow
      ·obtain rfl : q = i := by omega
       rw [List.getElem?_append_right (by omega), hhs, Nat.sub_self] at hq
       have e1 : Value.slice ao2 j c2 = h := by simpa using hq
       subst e1 hrow2
       have h0 := own_lower' (B := w.heap.size) HROW.out hwsz
       rw [hrl]
       exact own_other (h0.alloc (.cells #[.slice ao2 j c2] 55)) HO4.out (by decide) hgrow
     have HR6 := Lib.hid hR6; have HB6 := Lib.hid hb6
     clear hR6 hb6 hown hgrow
     go_roundw
     case rel => exact ⟨i + 1, hs ++ [.slice ao2 j c2], by omega, by go_num, HR6, HB6⟩
     case measure => simp [intOf]; omega
  ·obtain rfl : i = nr := by omega
   have hi' : ¬ (i : Int) < (i : Int) := by omega
   have hc : (List.range i).map (rowM k bs) = costsM k bs := by unfold costsM; rw [HNR.out]
   rw [hc] at hR
   clear hc
   go_wp2_with fail
   exact HX.out _ _ hs _ _ _ _ _ _ _ _ _ _ _ _ _ _ _ _ _ _ _ _ _ _ _ _ _ _ _ _ _ hW.out hR.out
end Go.Proofs.YtggcbblikgankaaGreatDoor
end
section
namespace Go.Proofs.YtggcbblikgankaaGreatDoor
open Go Go.RowKit Go.Deep
def costsE (k : Wrk) (bs : List Bod) : Int := if wrkE k ≠ 0 then wrkE k else if 16 < k.roles.length ∨ 16 < bs.length then 2 else if bs.all bodB then 0 else 250
def CostsP (k : Wrk) (bs : List Bod) (w : World) (e : Ending) (w' : World) : Prop :=
 Below w.heap.size w w' ∧ ((costsE k bs ≠ 0 ∧ e = .returned (.tuple #[.slice none 0 0, .int .i64 (costsE k bs)])) ∨
  (costsE k bs = 0 ∧ ∃ v hs, e = .returned (.tuple #[v, .int .i64 0]) ∧ RowsW w.heap.size (costsM k bs) v hs w'))
theorem wrkE_small {k : Wrk} (h : wrkE k = 0) : k.roles.length ≤ 64 ∧ k.signs.length ≤ 1048576 := by
 unfold wrkE at h
 by_cases hl : wrkLim k = true
 ·unfold wrkLim at hl
  simp at hl
  omega
 ·rw [if_neg hl] at h; cases h
set_option maxRecDepth 100000 in
set_option maxHeartbeats 8000000 in
theorem costs_any (k : Wrk) (bs : List Bod) (nb : Nat) (hbl : bs.length = nb) (hbn : ∀ b ∈ bs, b.name.length ≤ maxLen) (ws : Array Value) (aB : Option Addr) (cB : Nat) (w : World) (hE : Env w) (hz : 2 ≤ w.heap.size) (hWk : WkAt k ws w) (hrow : IsRow encB 17 w (.slice aB nb cB) bs) :
  Calls Tryz.prog 16 #[.agg ws, .slice aB nb cB] w (CostsP k bs w) := by
 obtain ⟨cR, aR, nr, hnr, hcR, hws⟩ : ∃ (cR : Nat) (aR : Option Addr) (nr : Nat), k.roles.length = nr ∧ (w.alloc (.cells ws 32)).cell? ⟨w.heap.size, 5, none⟩ = some (.slice aR nr cR) ∧ (Tryz.prog.info? 32).map (·.size) = some ws.size := by
  have hs := hWk.size
  obtain ⟨aR, aT, aP, aX, aS, cR, cT, cP, cX, cS, rfl, _⟩ := hWk
  exact ⟨cR, aR, _, rfl, cell_at (heap_alloc_new w _) 5 rfl, hs⟩
 obtain ⟨V, hV⟩ : ∃ V, w.alloc (.cells ws 32) = V := ⟨_, rfl⟩
 have hBV : Below w.heap.size w V := by rw [← hV]; exact (Below.refl _ w).alloc (Nat.le_refl _) _
 have hVA : V.heap[w.heap.size]? = some (.cells ws 32 (0, 0)) := by rw [← hV]; exact heap_alloc_new w _
 rw [hV] at hcR
 have hsV : V.heap.size = w.heap.size + 1 := by rw [← hV]; simp
 have hch := (hWk.below hBV (Nat.le_refl _)).check (Env.two hE hz hBV)
 have HCH := Lib.hid hch; have HV := Lib.hid hBV; have HA := Lib.hid hVA; have HS := Lib.hid hws; have HWK := Lib.hid hWk; have HE := Lib.hid hE; have HR := Lib.hid hrow; have HBN := Lib.hid hbn; have HBL := Lib.hid hbl; have HNR := Lib.hid hnr
 clear hch hBV hVA hws hWk hE hrow hbn hbl hnr
 go_enter Tryz.func16, Tryz.ntmps16
 change Code.wp Tryz.prog (withLast 4 code39 (.seq part39n4 (.seq part39n5 part39n6))) _ _ _
 conv => arg 2; whnf
 go_wp2_with fail
 conv => arg 2; whnf
 go_wp2_with (refine wpList_load_row rfl 32 _ rfl w.heap.size rfl 32 _ (0, 0) _ HA.out Tryz.underlying32 rfl HS.out ?_; simp only [Act.put, List.setIfInBounds_toArray, List.set_cons_zero, List.set_cons_succ])
 refine HCH.out.mono ?_
 rintro e w2 ⟨rfl, hb2⟩
 have c5 := (hb2.cell (p := ⟨w.heap.size, 5, none⟩) (by show w.heap.size < V.heap.size; omega)).trans hcR
 have A2 := Lib.hid ((hb2.block w.heap.size (by omega)).trans HA.out)
 have B2 := Lib.hid (HV.out.trans (hb2.mono (by omega)))
 have hs2 : w.heap.size + 1 ≤ w2.heap.size := by have := hb2.size; omega
 clear hb2 hcR HCH HA HV hV
 by_cases hk : wrkE k = 0
 ·have hne : (wrkE k != 0) = false := by simp [hk]
  obtain ⟨hr64, hsg⟩ := wrkE_small hk
  by_cases h16 : 16 < nr ∨ 16 < nb
  ·have hce : costsE k bs = 2 := by unfold costsE; rw [if_neg (by simpa using hk), if_pos (by rw [HNR.out, HBL.out]; exact h16)]
   have HCE := Lib.hid hce
   clear hce hk
   by_cases hn16 : 16 < nr
   ·have h1 : (16 : Int) < (nr : Int) := by omega
    go_wp2_with fail
    conv => arg 2; whnf
    go_wp2_with fail
    refine bodyPost_ret (results_tmp2 rfl _ _ _) rfl ?_
    exact ⟨B2.out, Or.inl ⟨by rw [HCE.out]; decide, by rw [HCE.out]; rfl⟩⟩
   ·have h1 : ¬ (16 : Int) < (nr : Int) := by omega
    have h2 : (16 : Int) < (nb : Int) := by omega
    go_wp2_with fail
    conv => arg 2; whnf
    go_wp2_with fail
    refine bodyPost_ret (results_tmp2 rfl _ _ _) rfl ?_
    exact ⟨B2.out, Or.inl ⟨by rw [HCE.out]; decide, by rw [HCE.out]; rfl⟩⟩
  ·have h1 : ¬ (16 : Int) < (nr : Int) := by omega
   have h2 : ¬ (16 : Int) < (nb : Int) := by omega
   have hce : costsE k bs = if bs.all bodB then 0 else 250 := by unfold costsE; rw [if_neg (by simpa using hk), if_neg (by rw [HNR.out, HBL.out]; exact h16)]
   have HCE := Lib.hid hce
   clear hce hk
   go_wp2_with fail
   conv => arg 2; whnf
   go_wp2_with fail
   conv => arg 2; whnf
   go_wp2_with fail
   refine costs_people bs nb HBL.out (by omega) HBN.out aB cB w.heap.size w2 (HR.out.below B2.out (Nat.le_refl _)) _ _ _ _ _ _ _ _ _ _ _ _ _ _ _ _ _ _ _ _ _ _ _ _ _ _ _ _ _ _ _ _ _ _ _ _ _ _ _ _ _ _ _ _ _ _ _ _ _ _ _ _ _ _ _ _ _ _ _ _ _ _ _ _ _ _ _ (CostsP k bs w) _ ?_ ?_
   ·intro w' hb hall
    have hc2 : costsE k bs = 250 := by rw [HCE.out, hall]; rfl
    exact ⟨B2.out.trans (hb.mono (by omega)), Or.inl ⟨by rw [hc2]; decide, by rw [hc2]⟩⟩
   ·intro w3 v6 Bs _ _ _ _ _ _ _ _ _ _ _ _ _ _ _ _ _ _ _ hb3 hall hP
    have hB3 := B2.out.trans (hb3.mono (by omega))
    refine costs_rows k bs nb nr HBL.out (by omega) HNR.out (by omega) HBN.out hsg ws w.heap.size w2.heap.size v6 Bs w3 (Env.two HE.out hz hB3) (Nat.le_trans hz hB3.size) (HWK.out.below hB3 (Nat.le_refl _)) ((hb3.block _ (Array.getElem?_eq_some_iff.1 A2.out).1).trans A2.out) hP _ _ _ _ _ _ _ _ _ _ _ _ _ _ _ _ _ _ _ _ _ _ _ _ _ _ _ _ _ _ _ _ _ _ _ _ _ _ _ _ _ _ _ _ _ _ _ _ _ _ _ _ _ _ _ _ _ _ _ _ _ _ _ _ _ _ _ _  _ _ ?_
    intro w4 v4 hs _ _ _ _ _ _ _ _ _ _ _ _ _ _ _ _ _ _ _ _ _ _ _ _ _ _ _ _ _ hb4 hR4
    have hc2 : costsE k bs = 0 := by rw [HCE.out, hall]; rfl
    have HR4 := Lib.hid hR4; have HB4 := Lib.hid (hB3.trans (hb4.mono hB3.size)); have HC2 := Lib.hid hc2
    have hB3s := hB3.size
    clear hR4 hb4 hc2 hP hB3 hb3 hall
    unfold part39n6 code39
    conv => arg 2; whnf
    go_wp2_with fail
    refine bodyPost_ret (results_tmp2 rfl _ _ _) rfl ?_
    exact ⟨HB4.out, Or.inr ⟨HC2.out, v4, hs, rfl, ⟨own_lower' HR4.out.own hB3s, fun i h row hh hr => own_lower' (HR4.out.at_ i h row hh hr) hB3s⟩⟩⟩
 ·have hne : (wrkE k != 0) = true := by simpa using hk
  have hce : costsE k bs = wrkE k := by unfold costsE; rw [if_pos hk]
  have HCE := Lib.hid hce; have HK := Lib.hid hk
  clear hce hk
  go_wp2_with fail
  refine bodyPost_ret (results_tmp2 rfl _ _ _) rfl ?_
  exact ⟨B2.out, Or.inl ⟨by rw [HCE.out]; exact HK.out, by rw [HCE.out]; rfl⟩⟩
end Go.Proofs.YtggcbblikgankaaGreatDoor
end
section
namespace Go.Proofs.YtggcbblikgankaaGreatDoor
open Go Go.RowKit
def stepS : Sgn := ⟨2, 0, 0, 2, 1, 1, 1, 0, 3, 0, 0, 1, 1, 1⟩
def jumpS : Sgn := ⟨3, 0, 0, 1, 2, 0, 1, 0, 2, 0, 0, 1, 1, 1⟩
def caseW : Wrk := ⟨9, 9, 1, 0, 1, [⟨[], 0, 0, 0⟩, ⟨[], 0, 0, 0⟩], ⟨1, [⟨0, 9, 0⟩], [], []⟩, [stepS, jumpS]⟩
def caseA : Bod := ⟨[97], 50, 0, 1, 2, 2, 1, 1, 1, 9, 9, 9, 3, 3, 3, 0, 0⟩
def caseB : Bod := ⟨[97], 50, 0, 1, 9, 1, 1, 1, 1, 9, 9, 9, 3, 3, 3, 0, 0⟩
theorem case_right : costsE caseW [caseA, caseB] = 0 := by kernel_rfl
theorem case_costs : costsM caseW [caseA, caseB] = [[16, -1], [0, 0]] := by kernel_rfl
end Go.Proofs.YtggcbblikgankaaGreatDoor
end
section
namespace Go.Proofs.YtggcbblikgankaaGreatDoor
open Go Go.RowKit Go.Deep
theorem own_lower {w : World} {Z B e s n : Nat} {v : Value} {xs : List Value} (h : w.ownsRow Z e s v n xs) (hB : B ≤ Z) : w.ownsRow B e s v n xs := by
  refine ⟨h.1, ?_⟩
  rcases h.2 with q | ⟨g, cap, cur, e, h1, h2⟩
  · exact Or.inl q
  · exact Or.inr ⟨g, cap, cur, e, Nat.le_trans hB h1, h2⟩
theorem own_set {w : World} {B e s n b : Nat} {v : Value} {xs : List Value} (h : w.ownsRow B e s v n xs) (hb : ∀ g, v.ownBlock = some g → g ≠ b) (x : Value) : (w.setCell ⟨b, 0, none⟩ x).ownsRow B e s v n xs := by
  refine ⟨h.1, ?_⟩
  rcases h.2 with q | ⟨g, cap, cur, rfl, h1, hg, h2⟩
  · exact Or.inl q
  · exact Or.inr ⟨g, cap, cur, rfl, h1, (heap_setCell (a := ⟨b, 0, none⟩) (hb g rfl)).trans hg, h2⟩
set_option maxRecDepth 100000 in
set_option maxHeartbeats 8000000 in
theorem best_right (cost : List (List Int)) (aoC : Option Addr) (ccC : Nat) (w : World) (h : IsMat w (.slice aoC cost.length ccC) cost) (hcap : cost.length ≤ ccC) (hcc : ccC ≤ maxLen) (hce : castE cost = 0) :
    Calls Tryz.prog 20 #[.slice aoC cost.length ccC] w (BestP cost w) := by
  obtain ⟨r1, r2, r3, r4, r5⟩ := right_of hce
  have HC := Lib.hid (fun W (hb : Below w.heap.size w W) => ccheck_any W (h.below hb (Nat.le_refl _)))
  have HWD := Lib.hid (fun W (hb : Below w.heap.size w W) => width_any W (h.below hb (Nat.le_refl _)))
  have HM := Lib.hid (fun W (hb : Below w.heap.size w W) => h.below hb (Nat.le_refl _))
  have HS := Lib.hid (fun W (hb : Below w.heap.size w W) => solve_right cost aoC ccC (widN cost) W (h.below hb (Nat.le_refl _)) r3 r1 r2 r4 r5)
  have HP : Hid (∀ e W, BestP cost w e W ↔ Below w.heap.size w W ∧ ((castE cost ≠ 0 ∧ e = .returned (.tuple #[.slice none 0 0, .int .i64 0, .bool false, .int .i64 (castE cost)])) ∨
   (castE cost = 0 ∧ (∀ t, ¬ CastN cost.length (widN cost) (cI cost) t) ∧ e = .returned (.tuple #[.slice none 0 0, .int .i64 0, .bool false, .int .i64 0])) ∨
   (castE cost = 0 ∧ ∃ (v : Value) (t : Nat → Nat) (taken : List Bool) (best : Int), e = .returned (.tuple #[v, .int .i64 best, .bool true, .int .i64 0]) ∧ (∀ s, CastN cost.length (widN cost) (cI cost) s → best ≤ sumT (fun r => cI cost r (s r)) cost.length) ∧ FirstOk cost.length (widN cost) (cI cost) best cost.length t taken ∧ W.ownsRow w.heap.size 3 1 v cost.length (intsL (toL t cost.length))))) := Lib.hid fun _ _ => Iff.rfl
  have HCE := Lib.hid hce; have HL := Lib.hid (show cost.length = cost.length from rfl)
  have HRL := Lib.hid r3; have HC4 := Lib.hid r4; have HC5 := Lib.hid r5
  rw [hce] at HC
  clear h hce r3 r4 r5
  generalize hn : cost.length = n at *
  generalize hm : widN cost = m at *
  go_enter Tryz.func20, Tryz.ntmps20
  change Code.wp Tryz.prog (withLast 5 code32 (.seq part32n5 (.seq part32n6 (.seq part32n7 (.seq part32n8 (lastPart 9 code32)))))) _ _ _
  conv => arg 2; whnf
  go_wp2_with fail
  obtain ⟨W, hW, g1, g2, hb, hs⟩ := two_new w (.slice aoC n ccC) (.int .i64 0) 50 3
  rw [hW]
  clear hW
  have c1 : W.cell? ⟨w.heap.size, 0, none⟩ = some (.slice aoC n ccC) := cell_at g1 0 rfl
  conv => arg 2; whnf
  go_wp2_with fail
  refine (HC.out W hb).mono ?_
  rintro e w2 ⟨rfl, hb2⟩
  have g12 := (hb2.block w.heap.size (by omega)).trans g1
  have g22 := (hb2.block (w.heap.size + 1) (by omega)).trans g2
  have hB2 := hb.trans (hb2.mono hb.size)
  have hs2 := Nat.le_trans hs hb2.size
  have c12 : w2.cell? ⟨w.heap.size, 0, none⟩ = some (.slice aoC n ccC) := cell_at g12 0 rfl
  clear c1 g1 g2 hb hs hb2
  go_wp2_with fail
  conv => arg 2; whnf
  go_wp2_with fail
  refine (HWD.out w2 hB2).mono ?_
  rintro e w3 ⟨rfl, hw3⟩
  rw [hw3]
  clear hw3 w3 HWD
  go_wp2_with fail
  obtain ⟨w3, h3, gM, b3⟩ := mk_step w2 (.cells #[.int .i64 (m : Int)] 3)
  rw [h3]
  clear h3
  have g13 := (b3.block w.heap.size (by omega)).trans g12
  have g23 := (b3.block (w.heap.size + 1) (by omega)).trans g22
  have hB3 := hB2.trans (b3.mono hB2.size)
  have hlt3 : w2.heap.size < w3.heap.size := (Array.getElem?_eq_some_iff.1 gM).1
  have c13 : w3.cell? ⟨w.heap.size, 0, none⟩ = some (.slice aoC n ccC) := cell_at g13 0 rfl
  have cM3 : w3.cell? ⟨w2.heap.size, 0, none⟩ = some (.int .i64 m) := cell_at gM 0 rfl
  obtain ⟨res, _, hres, c65⟩ := HS.out w3 hB3
  have HRES := Lib.hid hres
  clear c12 g12 g22 hB2 b3 HS HC hres
  conv => arg 2; whnf
  go_wp2_with (go_at_call 46; refine c65.mono ?_)
  cases res with
  | none =>
    rintro e w4 ⟨rfl, hb4⟩
    have g24 := (hb4.block (w.heap.size + 1) (by omega)).trans g23
    have hB4 := hB3.trans (hb4.mono hB3.size)
    have c24 := cell_at g24 0 rfl
    have f24 : w4.frozen? ⟨w.heap.size + 1, 0, none⟩ = false := by simp [World.frozen?, g24]
    have c4 : (w4.setCell ⟨w.heap.size + 1, 0, none⟩ (.int .i64 0)).cell? ⟨w.heap.size + 1, 0, none⟩ = some (.int .i64 0) := World.cell?_setCell_same _ _ _ c24
    have HB4 := Lib.hid hB4
    have C4 := Lib.hid c4
    clear c4 hB4 g24 hB3 c65 hb4 c13 cM3 g13 g23 gM
    go_wp2_with fail
    conv => arg 2; whnf
    go_wp2_with fail
    refine bodyPost_ret (results_best _ _ _ _ rfl C4.out) rfl ?_
    exact (HP.out _ _).2 ⟨HB4.out.setCell (p := ⟨w.heap.size + 1, 0, none⟩) (Nat.le_succ _) _, Or.inr (Or.inl ⟨HCE.out, fun t ht => hall_none HRES.out t ht, rfl⟩)⟩
  | some s =>
    rintro e w4 ⟨T, U, V, rfl, hT, _, _, ⟨hT2, _, _⟩, hb4⟩
    have hok : SolOk n m (cI cost) s := HRES.out
    have g14 := (hb4.block w.heap.size (by omega)).trans g13
    have g24 := (hb4.block (w.heap.size + 1) (by omega)).trans g23
    have gM4 := (hb4.block w2.heap.size hlt3).trans gM
    have hB4 := hB3.trans (hb4.mono hB3.size)
    have hs4 := hb4.size
    have hok2 : ∀ r, r < n → 0 ≤ gi s.to r ∧ gi s.to r < (m : Int) := fun r hr => by obtain ⟨q, hq, e, _⟩ := hok.cast r hr; omega
    have hsum : ∀ k, k ≤ n → 0 ≤ sumT (fun r => cI cost r (gi s.to r).toNat) k ∧ sumT (fun r => cI cost r (gi s.to r).toNat) k ≤ 1048576 * (k : Int) := by
      intro k
      induction k with
      | zero => intro _; exact ⟨Int.le_refl _, Int.le_refl _⟩
      | succ k ih =>
        intro hk
        have h1 := ih (by omega)
        have h2 := hok.castN.ok k (by omega)
        have h3 : cI cost k (gi s.to k).toNat ≤ 1048576 := HC4.out k _
        unfold sumT
        omega
    have HOK := Lib.hid hok
    clear c65 hb4 c13 cM3 g13 g23 gM
    go_wp2_with fail
    conv => arg 2; whnf
    go_wp2_with fail
    conv => arg 2; whnf
    refine cost_loop cost n m s.to aoC ccC T w.heap.size (w.heap.size + 1) w.heap.size hn HRL.out HOK.out.lt hok2 (fun k hk => by have := hsum k hk; omega) (by omega) w4 (fun W hW => HM.out W (hB4.trans hW)) hT (cell_at g14 0 rfl) (by omega) (by omega) (by omega) (cell_at g24 0 rfl) (by simp [World.frozen?, g24]) _ _ _ _ _ _ _ _ _ _ _ _ _ _ _ _ _ _ _ _ _ _ _ _ _ _ _ _ _ _ _ _ _ _ _ _ _ _ _ _ _ _ _ _ _ _ _ _ _ _ _ _ _ _ _ _ _ _ _ _ _ _ _ _ _ _ _ _ _ _ _ _ _ _ _ _ _ _ _ _ _ _ _ _ ?_
    intro w5 _ _ _ _ _ _ _ _ _ _ _ _ _ _ _ _ _ _ _ hb5 hO5 cB5 fB5
    have gM5 := (hO5 w2.heap.size (by omega)).trans gM4
    have g15 := (hO5 w.heap.size (by omega)).trans g14
    have hB5 := hB4.trans hb5
    have hs5 := hb5.size
    clear hO5 gM4 g14 g24 hb5 hT
    refine best_make w2.heap.size m (by omega) w5 (cell_at gM5 0 rfl) (by omega) _ _ _ _ _ _ _ _ _ _ _ _ _ _ _ _ _ _ _ _ _ _ _ _ _ _ _ _ _ _ _ _ _ _ _ _ _ _ _ _ _ _ _ _ _ _ _ _ _ _ _ _ _ _ _ _ _ _ _ _ _ _ _ _ _ _ _ _ _ _ _ _ _ _ _ _ _ _ _ _ _ _ _ _ _ _ ?_
    intro w6 kS kT D _ _ hb6 gS gT gD hlo hne
    have lS := (Array.getElem?_eq_some_iff.1 gS).1
    have lT := (Array.getElem?_eq_some_iff.1 gT).1
    have lD := (Array.getElem?_eq_some_iff.1 gD).1
    have hs6 := hb6.size
    obtain ⟨n1, n2, n3⟩ := hne
    obtain ⟨m1, m2, m3⟩ := hlo
    refine best_loop w.heap.size w6.heap.size w kT w.heap.size w2.heap.size kS (w.heap.size + 1) D n m cost aoC ccC (sumT (fun r => cI cost r (gi s.to r).toNat) n) hn HRL.out r2 r1 hcap hcc HC4.out HC5.out (fun t ht => HOK.out.opt ht) ⟨_, HOK.out.castN, rfl⟩ ⟨by omega, by omega, by omega, by omega, by omega, by omega, by omega, by omega, by omega, by omega, ⟨lT, by omega, by omega, lS, by omega, lD⟩, ⟨by omega, by omega, by omega⟩⟩ HM.out w6
      ⟨hB5.trans (hb6.mono hB5.size), (hb6.cell (p := ⟨w.heap.size, 0, none⟩) (by show w.heap.size < _; omega)).trans (cell_at g15 0 rfl), cell_at gT 0 rfl, (hb6.cell (p := ⟨w2.heap.size, 0, none⟩) (by show w2.heap.size < _; omega)).trans (cell_at gM5 0 rfl), cell_at gS 0 rfl, (hb6.cell (p := ⟨w.heap.size + 1, 0, none⟩) (by show w.heap.size + 1 < _; omega)).trans cB5, made_bools gD, by simp [World.frozen?, gS], (hb6.frozen (p := ⟨w.heap.size + 1, 0, none⟩) (by show w.heap.size + 1 < _; omega)).trans fB5, Nat.le_refl _, ⟨rfl, Or.inl ⟨rfl, rfl⟩⟩⟩ _ _ _ _ _ _ _ _ _ _ _ _ _ _ _ _ _ _ _ _ _ _ _ _ _ _ _ _ _ _ _ _ _ _ _ _ _ _ _ _ _ _ _ _ _ _ _ _ _ _ _ _ _ _ _ _ _ _ _ _ _ _ _ _ _ _ _ _ _ _ _ _ _ _ _ _ _ _ _ _ _ ?_
    intro w7 v t taken spent _ _ _ _ _ _ _ _ _ _ _ _ _ _ _ _ _ _ _ _ _ _ _ _ _ _ _ _ _ _ _ _ _ hF7 hW7
    have HF7 := Lib.hid hF7; have HW7 := Lib.hid hW7
    have c7 := hW7.boxB
    have f7 : w7.frozen? ⟨w.heap.size + 1, 0, none⟩ = false := hW7.freeB
    have hz : w.heap.size ≤ w6.heap.size := by omega
    have hz2 : w.heap.size + 1 < w6.heap.size := by omega
    have hopt : ∀ t, CastN n m (cI cost) t → sumT (fun r => cI cost r (gi s.to r).toNat) n ≤ sumT (fun r => cI cost r (t r)) n := fun t ht => HOK.out.opt ht
    have HOPT := Lib.hid hopt
    clear hF7 hW7 hb6 gS gT gD cB5 fB5 gM5 g15 hB4 hB5 hs4 hs5 hs6
    generalize sumT (fun r => cI cost r (gi s.to r).toNat) n = best at *
    have cs : (w7.setCell ⟨w.heap.size + 1, 0, none⟩ (.int .i64 best)).cell? ⟨w.heap.size + 1, 0, none⟩ = some (.int .i64 best) := World.cell?_setCell_same _ _ _ c7
    have cw : w7.cell? ⟨w.heap.size + 1, 0, none⟩ = some (.int .i64 best) := c7
    conv => arg 2; whnf
    go_wp2_with fail
    go_region_held3 (fun w2 => w2.cell? ⟨w.heap.size + 1, 0, none⟩ = some (.int .i64 best)) (first | assumption | exact cs) (fail)
    go_wp2_with fail
    refine bodyPost_ret (results_best _ _ (⟨w.heap.size + 1, 0, none⟩ : Addr) (.int .i64 best) rfl (by first | exact cs | exact c7)) rfl ?_
    refine (HP.out _ _).2 ⟨?_, Or.inr (Or.inr ⟨HCE.out, v, t, taken, best, rfl, HOPT.out, HF7.out, ?_⟩)⟩
    · first | exact (HW7.out.below.setCell (p := ⟨w.heap.size + 1, 0, none⟩) (Nat.le_succ _) _).drew | exact (HW7.out.below.drew.setCell (p := ⟨w.heap.size + 1, 0, none⟩) (Nat.le_succ _) _)
    · have ho := own_lower HW7.out.own hz
      refine own_set ho (b := w.heap.size + 1) (fun g hg => ?_) _
      have := own_ge HW7.out.own g hg
      omega
end Go.Proofs.YtggcbblikgankaaGreatDoor
end
section
namespace Go.Proofs.YtggcbblikgankaaGreatDoor
open Go Go.RowKit Go.Deep
theorem mk_blk (w : World) (x : Obj) : ∃ w', w.alloc x = w' ∧ w'.heap[w.heap.size]? = some x ∧ Below w.heap.size w w' ∧ w'.heap.size = w.heap.size + 1 := ⟨_, rfl, heap_alloc_new w x, (Below.refl _ w).alloc (Nat.le_refl _) _, by simp⟩
theorem ints_at {W : World} {g : Nat} {l : List Int} {cs : Array Value} {n : Nat} (h : W.heap[g]? = some (.cells cs 3 (0, 0))) (hc : cs.toList = intsL l) (hn : l.length = n) (hb : n ≤ 1000) : IsRow encI 1 W (.slice (some ⟨g, 0, none⟩) n n) l :=
 isRow_block (enc := encI) (k := 1) (fun _ => rfl) h hn (by simp only [maxLen]; omega) (by rw [← intsL_flat]; exact hc)
theorem vals_flat : ∀ ys : List Value, ys.flatMap encH = ys
 | [] => rfl
 | y :: ys => by rw [List.flatMap_cons, vals_flat ys]; rfl
theorem vals_at {W : World} {g : Nat} {cs : Array Value} {n : Nat} (h : W.heap[g]? = some (.cells cs 55 (0, 0))) (hn : cs.toList.length = n) (hb : n ≤ 1000) : IsRow encH 1 W (.slice (some ⟨g, 0, none⟩) n n) cs.toList :=
 isRow_block (enc := encH) (k := 1) (fun _ => rfl) h hn (by simp only [maxLen]; omega) (vals_flat _).symm
theorem mat_two {W : World} {v x y : Value} {a b : List Int} (h : IsRow encH 1 W v [x, y]) (hx : IsRow encI 1 W x a) (hy : IsRow encI 1 W y b) : IsMat W v [a, b] := by
 refine ⟨[x, y], h, rfl, fun i u row hu hr => ?_⟩
 match i with
 | 0 => cases hu; cases hr; exact hx
 | 1 => cases hu; cases hr; exact hy
 | i + 2 => simp at hu
theorem mat_three {W : World} {v x y z : Value} {a b c : List Int} (h : IsRow encH 1 W v [x, y, z]) (hx : IsRow encI 1 W x a) (hy : IsRow encI 1 W y b) (hz : IsRow encI 1 W z c) : IsMat W v [a, b, c] := by
 refine ⟨[x, y, z], h, rfl, fun i u row hu hr => ?_⟩
 match i with
 | 0 => cases hu; cases hr; exact hx
 | 1 => cases hu; cases hr; exact hy
 | 2 => cases hu; cases hr; exact hz
 | i + 3 => simp at hu
theorem mat_one {W : World} {v x : Value} {a : List Int} (h : IsRow encH 1 W v [x]) (hx : IsRow encI 1 W x a) : IsMat W v [a] := by
 refine ⟨[x], h, rfl, fun i u row hu hr => ?_⟩
 match i with
 | 0 => cases hu; cases hr; exact hx
 | i + 1 => simp at hu
theorem best_any (cost : List (List Int)) (aoC : Option Addr) (n ccC : Nat) (hl : cost.length = n) (hcap : n ≤ ccC) (hcc : ccC ≤ maxLen) (w : World) (h : IsMat w (.slice aoC n ccC) cost) : Calls Tryz.prog 20 #[.slice aoC n ccC] w (BestP cost w) := by
 subst hl
 by_cases hce : castE cost = 0
 ·exact best_right cost aoC ccC w h hcap hcc hce
 ·exact best_odd cost aoC ccC w h hce
theorem best_two (g : Nat) (w : World) (h : IsMat w (.slice (some ⟨g, 0, none⟩) 2 2) twoC) : Calls Tryz.prog 20 #[.slice (some ⟨g, 0, none⟩) 2 2] w fun e w' => ∃ ao c, e = .returned (.tuple #[.slice ao 2 c, .int .i64 3, .bool true, .int .i64 0]) ∧ IsRow encI 1 w' (.slice ao 2 c) [1, 0] ∧ Below w.heap.size w w' := by
 refine (best_any twoC _ 2 2 rfl (Nat.le_refl _) (by simp only [maxLen]; omega) w h).mono ?_
 rintro e w' ⟨hb, ⟨h1, _⟩ | ⟨_, h1, _⟩ | ⟨_, v, t, taken, best, rfl, hmin, hF, ho⟩⟩
 ·exact absurd two_right h1
 ·exact absurd two_cast (h1 tenT)
 ·obtain ⟨e1, e2⟩ := two_best hmin hF
  have ho2 : w'.ownsRow w.heap.size 3 1 v 2 (intsL (toL t 2)) := ho
  rw [e2] at ho2
  have hr := own_ints ho2 rfl
  obtain ⟨ao, c, e3, _⟩ := hr
  have e4 : v = .slice ao 2 c := e3
  subst e4
  exact ⟨ao, c, by rw [e1], own_ints ho2 rfl, hb⟩
theorem best_none (g : Nat) (w : World) (h : IsMat w (.slice (some ⟨g, 0, none⟩) 1 1) [[]]) : Calls Tryz.prog 20 #[.slice (some ⟨g, 0, none⟩) 1 1] w fun e w' => e = .returned (.tuple #[.slice none 0 0, .int .i64 0, .bool false, .int .i64 0]) ∧ Below w.heap.size w w' := by
 refine (best_any [[]] _ 1 1 rfl (Nat.le_refl _) (by simp only [maxLen]; omega) w h).mono ?_
 rintro e w' ⟨hb, ⟨h1, _⟩ | ⟨_, _, rfl⟩ | ⟨_, v, t, taken, best, _, _, hF, _⟩⟩
 ·exact absurd none_right h1
 ·exact ⟨rfl, hb⟩
 ·obtain ⟨s, h1, _⟩ := hF.ex
  exact absurd h1 (none_cast s)
theorem deny_two' (v : Value) (w : World) (h : IsMat w v twoC) : Calls Tryz.prog 27 #[v] w fun e w' => e = .returned (.tuple #[.slice none 0 0, .bool false, .int .i64 0]) ∧ Below w.heap.size w w' := by
 refine (deny_any w h).mono ?_
 rintro e w' ⟨hb, ⟨h1, _⟩ | ⟨_, _, rfl⟩ | ⟨_, x, l, h1, _⟩⟩
 ·exact absurd two_right h1
 ·exact ⟨rfl, hb⟩
 ·have h2 : denyF (cI twoC) 2 2 = some l := h1
  rw [deny_two] at h2; cases h2
theorem deny_three' (v : Value) (w : World) (h : IsMat w v threeC) : Calls Tryz.prog 27 #[v] w fun e w' => ∃ ao c, e = .returned (.tuple #[.slice ao 2 c, .bool true, .int .i64 0]) ∧ IsRow encI 1 w' (.slice ao 2 c) [1, 2] ∧ Below w.heap.size w w' := by
 refine (deny_any w h).mono ?_
 rintro e w' ⟨hb, ⟨h1, _⟩ | ⟨_, h1, _⟩ | ⟨_, x, l, h1, rfl, hr⟩⟩
 ·exact absurd three_right h1
 ·have h2 : denyF (cI threeC) 3 2 = none := h1
  rw [deny_three] at h2; cases h2
 ·have h2 : denyF (cI threeC) 3 2 = some l := h1
  rw [deny_three] at h2
  obtain rfl := Option.some.inj h2
  have hr2 : IsRow encI 1 w' x [1, 2] := hr
  have hr3 := hr2
  obtain ⟨ao, c, e3, _⟩ := hr3
  have e4 : x = .slice ao 2 c := e3
  subst e4
  exact ⟨ao, c, rfl, hr2, hb⟩
theorem prices_two (v : Value) (w : World) (h : IsMat w v twoC) : Calls Tryz.prog 29 #[v] w fun e w' => ∃ U V, e = .returned (.tuple #[.slice (some ⟨U, 0, none⟩) 2 2, .slice (some ⟨V, 0, none⟩) 2 2, .bool true, .int .i64 0]) ∧ Below w.heap.size w w' := by
 refine (prices_any w h).mono ?_
 rintro e w' (⟨h1, _⟩ | ⟨_, res, _, h2⟩)
 ·exact absurd two_right h1
 ·cases res with
  | none => exact absurd two_cast (hall_none h2.1 tenT)
  | some s =>
   obtain ⟨_, U, V, rfl, _, _, hb⟩ := h2
   exact ⟨U, V, rfl, hb⟩
end Go.Proofs.YtggcbblikgankaaGreatDoor
end
section
namespace Go.Proofs.YtggcbblikgankaaGreatDoor
open Go Go.RowKit Go.Deep
noncomputable def code30 : Code := (Tryz.f14.body).getD .skip
noncomputable def part30n9 : Code := lastPart 9 code30
set_option maxRecDepth 100000 in
set_option maxHeartbeats 16000000 in
theorem sane_calls (w : World) (R : Ending → World → Prop) (X : Code) (e0 e1 e2 e3 e4 e5 e6 e7 e8 e9 e10 e11 e12 e13 e14 e15 e16 e17 e18 e19 e20 e21 e22 e23 e24 e25 e26 e27 e28 e29 e30 e31 e32 e33 e34 e35 e36 e37 e38 e39 e40 e41 e42 e43 e44 e45 e46 e47 e48 e49 e50 e51 e52 e53 e54 e55 e56 e57 e58 e59 e60 e61 e62 e63 e64 e65 e66 e67 e68 e69 e70 e71 e72 e73 e74 e75 e76 e77 e78 e79 e80 e81 e82 e83 e84 e85 e86 e87 e88 e89 e90 e91 e92 e93 e94 e95 e96 e97 e98 e99 e100 e101 e102 e103 e104 e105 e106 e107 e108 e109 e110 e111 e112 e113 e114 e115 e116 e117 e118 e119 e120 e121 e122 e123 e124 e125 e126 e127 e128 e129 e130 e131 e132 e133 e134 e135 e136 e137 e138 e139 e140 e141 e142 e143 e144 e145 e146 e147 e148 e149 e150 e151 e152 e153 e154 e155 e156 e157 e158 e159 e160 e161 e162 e163 e164 e165 e166 e167 e168 e169 e170 e171 e172 e173 e174 e175 e176 e177 e178 e179 e180 e181 e182 e183 e184 e185 e186 e187 e188 e189 e190 e191 e192 e193 e194 e195 e196 e197 e198 e199 e200 e201 e202 e203 e204 e205 e206 e207 e208 e209 e210 e211 e212 e213 e214 e215 e216 e217 e218 e219 : Value)
  (hX : ∀ (W : World) (g : Nat) (a2 : Option Addr) (c2 : Nat) (a12 : Option Addr) (c12 U V : Nat) (f9 f15 f22 f23 f31 f32 f33 f34 f35 f36 f37 f38 f39 f40 f41 f42 f43 f44 f45 f46 f47 f48 f49 f50 f51 f52 f53 f54 f55 f56 f57 f58 f59 f60 f61 f62 f63 f64 f65 f66 f67 f68 f69 f70 f71 f72 f73 f74 f75 f76 f77 f78 f79 f80 f81 f82 f83 f84 f85 f86 : Value), Below w.heap.size w W → IsRow encI 1 W (.slice a2 2 c2) [1, 0] → IsRow encI 1 W (.slice a12 2 c12) [1, 2] → Code.wp Tryz.prog X (bodyPost Tryz.prog Tryz.f14 R) { tmps := #[.bool false, .slice (some ⟨g, 0, none⟩) 2 2, .slice a2 2 c2, .int .i64 3, .bool true, .int .i64 0, .int .i64 3, .bool true, .int .i64 0, f9, .bool false, .int .i64 0, .slice a12 2 c12, .bool true, .int .i64 0, f15, .bool false, .int .i64 0, .slice (some ⟨U, 0, none⟩) 2 2, .slice (some ⟨V, 0, none⟩) 2 2, .bool true, .int .i64 0, f22, f23, .bool false, .int .i64 0, e26, e27, e28, e29, e30, f31, f32, f33, f34, f35, f36, f37, f38, f39, f40, f41, f42, f43, f44, f45, f46, f47, f48, f49, f50, f51, f52, f53, f54, f55, f56, f57, f58, f59, f60, f61, f62, f63, f64, f65, f66, f67, f68, f69, f70, f71, f72, f73, f74, f75, f76, f77, f78, f79, f80, f81, f82, f83, f84, f85, f86, e87, e88, e89, e90, e91, e92, e93, e94, e95, e96, e97, e98, e99, e100, e101, e102, e103, e104, e105, e106, e107, e108, e109, e110, e111, e112, e113, e114, e115, e116, e117, e118, e119, e120, e121, e122, e123, e124, e125, e126, e127, e128, e129, e130, e131, e132, e133, e134, e135, e136, e137, e138, e139, e140, e141, e142, e143, e144, e145, e146, e147, e148, e149, e150, e151, e152, e153, e154, e155, e156, e157, e158, e159, e160, e161, e162, e163, e164, e165, e166, e167, e168, e169, e170, e171, e172, e173, e174, e175, e176, e177, e178, e179, e180, e181, e182, e183, e184, e185, e186, e187, e188, e189, e190, e191, e192, e193, e194, e195, e196, e197, e198, e199, e200, e201, e202, e203, e204, e205, e206, e207, e208, e209, e210, e211, e212, e213, e214, e215, e216, e217, e218, e219], defers := [] } W) :
  Code.wp Tryz.prog (withLast 9 code30 X) (bodyPost Tryz.prog Tryz.f14 R) { tmps := #[e0, e1, e2, e3, e4, e5, e6, e7, e8, e9, e10, e11, e12, e13, e14, e15, e16, e17, e18, e19, e20, e21, e22, e23, e24, e25, e26, e27, e28, e29, e30, e31, e32, e33, e34, e35, e36, e37, e38, e39, e40, e41, e42, e43, e44, e45, e46, e47, e48, e49, e50, e51, e52, e53, e54, e55, e56, e57, e58, e59, e60, e61, e62, e63, e64, e65, e66, e67, e68, e69, e70, e71, e72, e73, e74, e75, e76, e77, e78, e79, e80, e81, e82, e83, e84, e85, e86, e87, e88, e89, e90, e91, e92, e93, e94, e95, e96, e97, e98, e99, e100, e101, e102, e103, e104, e105, e106, e107, e108, e109, e110, e111, e112, e113, e114, e115, e116, e117, e118, e119, e120, e121, e122, e123, e124, e125, e126, e127, e128, e129, e130, e131, e132, e133, e134, e135, e136, e137, e138, e139, e140, e141, e142, e143, e144, e145, e146, e147, e148, e149, e150, e151, e152, e153, e154, e155, e156, e157, e158, e159, e160, e161, e162, e163, e164, e165, e166, e167, e168, e169, e170, e171, e172, e173, e174, e175, e176, e177, e178, e179, e180, e181, e182, e183, e184, e185, e186, e187, e188, e189, e190, e191, e192, e193, e194, e195, e196, e197, e198, e199, e200, e201, e202, e203, e204, e205, e206, e207, e208, e209, e210, e211, e212, e213, e214, e215, e216, e217, e218, e219], defers := [] } w := by
 have HX := Lib.hid hX
 clear hX
 obtain ⟨V1, d1, g1, b1, s1⟩ := mk_blk w (.cells #[.int .i64 1, .int .i64 2] 3)
 obtain ⟨V2, d2, g2, b2, s2⟩ := mk_blk V1 (.cells #[.int .i64 1, .int .i64 4] 3)
 obtain ⟨V3, d3, g3, b3, s3⟩ := mk_blk V2 (.cells #[.slice (some ⟨w.heap.size, 0, none⟩) 2 2, .slice (some ⟨w.heap.size + 1, 0, none⟩) 2 2] 55)
 have t2 : V2.heap.size = w.heap.size + 1 + 1 := by omega
 rw [s1] at g2 b2
 rw [t2] at g3 b3
 have hB3 : Below w.heap.size w V3 := (b1.trans (b2.mono (by omega))).trans (b3.mono (by omega))
 have hM3 : IsMat V3 (.slice (some ⟨w.heap.size + 1 + 1, 0, none⟩) 2 2) twoC := mat_two (vals_at g3 rfl (by omega)) (ints_at ((b3.block _ (by omega)).trans ((b2.block _ (by omega)).trans g1)) rfl rfl (by omega)) (ints_at ((b3.block _ (by omega)).trans g2) rfl rfl (by omega))
 have HB3 := Lib.hid hB3; have HM3 := Lib.hid hM3
 clear hB3 hM3 g1 g2 g3 b1 b2 b3 s2 s3
 unfold code30
 conv => arg 2; whnf
 go_wp2_with fail
 conv => arg 2; whnf
 go_wp2_with fail
 clear d1 d2 d3 s1 t2
 conv => arg 2; whnf
 go_wp2_with fail
 refine (best_two _ V3 HM3.out).mono ?_
 rintro e W2 ⟨a2, c2, rfl, hr2, hb2⟩
 have HB2 := Lib.hid (HB3.out.trans (hb2.mono HB3.out.size)); have HR2 := Lib.hid hr2; have HM2 := Lib.hid (HM3.out.below hb2 (Nat.le_refl _))
 clear hr2 hb2 HB3 HM3
 generalize w.heap.size + 1 + 1 = g at *
 go_wp2_with fail
 obtain ⟨P1, d1, g1, b1, s1⟩ := mk_blk W2 (.cells #[.int .i64 2, .int .i64 2] 3)
 obtain ⟨P2, d2, g2, b2, s2⟩ := mk_blk P1 (.cells #[.int .i64 (-1), .int .i64 0] 3)
 rw [s1] at g2 b2
 have hBP : Below W2.heap.size W2 P2 := b1.trans (b2.mono (by omega))
 have hU := ints_at (n := 2) ((b2.block _ (by omega)).trans g1) (l := [2, 2]) rfl rfl (by omega)
 have hV := ints_at (n := 2) g2 (l := [-1, 0]) rfl rfl (by omega)
 have HBP := Lib.hid (HB2.out.trans (hBP.mono HB2.out.size)); have HMP := Lib.hid (HM2.out.below hBP (Nat.le_refl _)); have HUP := Lib.hid hU; have HVP := Lib.hid hV
 have HR2p := Lib.hid (HR2.out.below hBP (Nat.le_refl _))
 clear hBP hU hV g1 g2 b1 b2 s2 HB2 HM2 HR2
 conv => arg 2; whnf
 go_wp2_with fail
 refine (proves_any [2, 2] [-1, 0] 2 2 rfl rfl _ _ _ _ P2 HMP.out HUP.out HVP.out).mono ?_
 rintro e W3 ⟨rfl, hb⟩
 have HB3 := Lib.hid (HBP.out.trans (hb.mono HBP.out.size)); have HM3 := Lib.hid (HMP.out.below hb (Nat.le_refl _))
 have HR2 := Lib.hid (HR2p.out.below hb (Nat.le_refl _))
 have hp : (provN twoC [2, 2] [-1, 0], provB twoC [2, 2] [-1, 0]) = (3, true) := by kernel_rfl
 have hp1 := congrArg Prod.fst hp
 have hp2 := congrArg Prod.snd hp
 simp only at hp1 hp2
 rw [hp1, hp2, two_right]
 have hd0 : (decide ((0 : Int) = 0)) = true := by decide
 rw [hd0]
 clear hb HBP HMP HUP HVP d1 d2 s1 hp hp1 hp2 hd0 HR2p
 go_wp2_with fail
 obtain ⟨P1, d1, g1, b1, s1⟩ := mk_blk W3 (.cells #[.int .i64 2, .int .i64 2] 3)
 obtain ⟨P2, d2, g2, b2, s2⟩ := mk_blk P1 (.cells #[.int .i64 0, .int .i64 0] 3)
 rw [s1] at g2 b2
 have hBP : Below W3.heap.size W3 P2 := b1.trans (b2.mono (by omega))
 have hU := ints_at (n := 2) ((b2.block _ (by omega)).trans g1) (l := [2, 2]) rfl rfl (by omega)
 have hV := ints_at (n := 2) g2 (l := [0, 0]) rfl rfl (by omega)
 have HBP := Lib.hid (HB3.out.trans (hBP.mono HB3.out.size)); have HMP := Lib.hid (HM3.out.below hBP (Nat.le_refl _)); have HUP := Lib.hid hU; have HVP := Lib.hid hV
 have HR2p := Lib.hid (HR2.out.below hBP (Nat.le_refl _))
 clear hBP hU hV g1 g2 b1 b2 s2 HB3 HM3 HR2
 conv => arg 2; whnf
 go_wp2_with fail
 refine (proves_any [2, 2] [0, 0] 2 2 rfl rfl _ _ _ _ P2 HMP.out HUP.out HVP.out).mono ?_
 rintro e W4 ⟨rfl, hb⟩
 have HB4 := Lib.hid (HBP.out.trans (hb.mono HBP.out.size)); have HM4 := Lib.hid (HMP.out.below hb (Nat.le_refl _))
 have HR2 := Lib.hid (HR2p.out.below hb (Nat.le_refl _))
 have hp : (provN twoC [2, 2] [0, 0], provB twoC [2, 2] [0, 0]) = (0, false) := by kernel_rfl
 have hp1 := congrArg Prod.fst hp
 have hp2 := congrArg Prod.snd hp
 simp only at hp1 hp2
 rw [hp1, hp2, two_right]
 have hd0 : (decide ((0 : Int) = 0)) = true := by decide
 rw [hd0]
 clear hb HBP HMP HUP HVP d1 d2 s1 hp hp1 hp2 hd0 HR2p
 go_wp2_with fail
 obtain ⟨P1, d1, g1, b1, s1⟩ := mk_blk W4 (.cells #[.int .i64 1, .int .i64 2] 3)
 obtain ⟨P2, d2, g2, b2, s2⟩ := mk_blk P1 (.cells #[.int .i64 3, .int .i64 (-1)] 3)
 obtain ⟨P3, d3, g3, b3, s3⟩ := mk_blk P2 (.cells #[.int .i64 4, .int .i64 (-1)] 3)
 obtain ⟨P4, d4, g4, b4, s4⟩ := mk_blk P3 (.cells #[.slice (some ⟨W4.heap.size, 0, none⟩) 2 2, .slice (some ⟨W4.heap.size + 1, 0, none⟩) 2 2, .slice (some ⟨W4.heap.size + 1 + 1, 0, none⟩) 2 2] 55)
 have t2 : P2.heap.size = W4.heap.size + 1 + 1 := by omega
 have t3 : P3.heap.size = W4.heap.size + 1 + 1 + 1 := by omega
 rw [s1] at g2 b2
 rw [t2] at g3 b3
 rw [t3] at g4 b4
 have hBP : Below W4.heap.size W4 P4 := ((b1.trans (b2.mono (by omega))).trans (b3.mono (by omega))).trans (b4.mono (by omega))
 have hMP : IsMat P4 (.slice (some ⟨W4.heap.size + 1 + 1 + 1, 0, none⟩) 3 3) threeC := mat_three (vals_at g4 rfl (by omega)) (ints_at ((b4.block _ (by omega)).trans ((b3.block _ (by omega)).trans ((b2.block _ (by omega)).trans g1))) rfl rfl (by omega)) (ints_at ((b4.block _ (by omega)).trans ((b3.block _ (by omega)).trans g2)) rfl rfl (by omega)) (ints_at ((b4.block _ (by omega)).trans g3) rfl rfl (by omega))
 have HBP := Lib.hid (HB4.out.trans (hBP.mono HB4.out.size)); have HMP := Lib.hid (HM4.out.below hBP (Nat.le_refl _)); have HR2p := Lib.hid (HR2.out.below hBP (Nat.le_refl _)); have HM3 := Lib.hid hMP
 clear hBP hMP g1 g2 g3 g4 b1 b2 b3 b4 s2 s3 s4 HB4 HM4 HR2
 conv => arg 2; whnf
 go_wp2_with fail
 refine (deny_three' _ P4 HM3.out).mono ?_
 rintro e W5 ⟨a12, c12, rfl, hr, hb⟩
 have HB5 := Lib.hid (HBP.out.trans (hb.mono HBP.out.size)); have HM5 := Lib.hid (HMP.out.below hb (Nat.le_refl _)); have HR2 := Lib.hid (HR2p.out.below hb (Nat.le_refl _)); have HR12 := Lib.hid hr
 clear hb hr HBP HMP HR2p HM3 d1 d2 d3 d4 s1 t2 t3
 go_wp2_with fail
 conv => arg 2; whnf
 go_wp2_with fail
 refine (deny_two' _ W5 HM5.out).mono ?_
 rintro e W6 ⟨rfl, hb⟩
 have HB6 := Lib.hid (HB5.out.trans (hb.mono HB5.out.size)); have HM6 := Lib.hid (HM5.out.below hb (Nat.le_refl _)); have HR2p := Lib.hid (HR2.out.below hb (Nat.le_refl _)); have HR12p := Lib.hid (HR12.out.below hb (Nat.le_refl _))
 clear hb HB5 HM5 HR2 HR12
 go_wp2_with fail
 conv => arg 2; whnf
 go_wp2_with fail
 refine (prices_two _ W6 HM6.out).mono ?_
 rintro e W7 ⟨U, V, rfl, hb⟩
 have HB7 := Lib.hid (HB6.out.trans (hb.mono HB6.out.size)); have HR2 := Lib.hid (HR2p.out.below hb (Nat.le_refl _)); have HR12 := Lib.hid (HR12p.out.below hb (Nat.le_refl _))
 clear hb HB6 HM6 HR2p HR12p
 go_wp2_with fail
 obtain ⟨P1, d1, g1, b1, s1⟩ := mk_blk W7 (.cells #[] 3)
 obtain ⟨P2, d2, g2, b2, s2⟩ := mk_blk P1 (.cells #[.slice (some ⟨W7.heap.size, 0, none⟩) 0 0] 55)
 rw [s1] at g2 b2
 have hBP : Below W7.heap.size W7 P2 := b1.trans (b2.mono (by omega))
 have hMP : IsMat P2 (.slice (some ⟨W7.heap.size + 1, 0, none⟩) 1 1) [[]] := mat_one (vals_at g2 rfl (by omega)) IsRow.nil
 have HBP := Lib.hid (HB7.out.trans (hBP.mono HB7.out.size)); have HR2p := Lib.hid (HR2.out.below hBP (Nat.le_refl _)); have HR12p := Lib.hid (HR12.out.below hBP (Nat.le_refl _)); have HM3 := Lib.hid hMP
 clear hBP hMP g1 g2 b1 b2 s2 HB7 HR2 HR12
 conv => arg 2; whnf
 go_wp2_with fail
 refine (best_none _ P2 HM3.out).mono ?_
 rintro e W8 ⟨rfl, hb⟩
 have HB8 := Lib.hid (HBP.out.trans (hb.mono HBP.out.size)); have HR2 := Lib.hid (HR2p.out.below hb (Nat.le_refl _)); have HR12 := Lib.hid (HR12p.out.below hb (Nat.le_refl _))
 clear hb HBP HR2p HR12p HM3 d1 d2 s1
 go_wp2_with fail
 exact HX.out W8 g a2 c2 a12 c12 U V _ _ _ _ _ _ _ _ _ _ _ _ _ _ _ _ _ _ _ _ _ _ _ _ _ _ _ _ _ _ _ _ _ _ _ _ _ _ _ _ _ _ _ _ _ _ _ _ _ _ _ _ _ _ _ _ _ _ _ _ HB8.out HR2.out HR12.out
end Go.Proofs.YtggcbblikgankaaGreatDoor
end
