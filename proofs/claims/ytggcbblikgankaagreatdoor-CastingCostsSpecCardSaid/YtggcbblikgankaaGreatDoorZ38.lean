/- Contracts and plain laws on the way to the statement: part 38. -/
import Derived.Test.YtggcbblikgankaaGreatDoorZ37
import Derived.Test.YtggcbblikgankaaGreatDoorZ36
import Derived.Test.YtggcbblikgankaaGreatDoorZ29
import Derived.Test.YtggcbblikgankaaGreatDoorZ30
import Derived.Test.YtggcbblikgankaaGreatDoorZ3
set_option linter.unusedVariables false
set_option linter.unusedSimpArgs false
set_option maxRecDepth 100000
set_option maxHeartbeats 16000000
namespace Go.Proofs.YtggcbblikgankaaGreatDoor
open Go.Value (int)
open Go.IntKind (i64)
section
open Go Go.RowKit Go.Deep
noncomputable def I5 : Code := Bu (Ag 5 F5)
noncomputable def Lx : Code := Ag 6 F5
def BV (k : Wrk) (bs : List Bod) (i : Nat) : List Int := bs.map fun b => Av k b i k.signs 0
def Dc (k : Wrk) (bs : List Bod) : List (List Int) := (List.range k.roles.length).map (BV k bs)
structure RowsW (Z : Nat) (rows : List (List Int)) (v : Value) (hs : List Value) (W : World) : Prop where
 own : W.ownsRow Z 55 1 v rows.length hs
 at_ : ∀ (i : Nat) (h : Value) (row : List Int), hs[i]? = some h → rows[i]? = some row → W.ownsRow Z 3 1 h row.length (As row)
theorem Lv {w : World} {B e n : Nat} {v : Value} {xs : List Value} (h : w.ownsRow B e 1 v n xs) (hn : xs.length = n) : IsRow G9 1 w v xs := by
 have e1 : ∀ ys : List Value, ys.flatMap G9 = ys := by
  intro ys
  induction ys with
  | nil => rfl
  | cons y ys ih => rw [List.flatMap_cons, ih]; rfl
 exact CI (fun _ => rfl) (by rw [e1]; exact h) hn
theorem RowsW.mat {Z : Nat} {rows : List (List Int)} {v : Value} {hs : List Value} {W : World} (h : RowsW Z rows v hs W) : IsMat W v rows := by
 have hl : hs.length = rows.length := by have := h.own.1; omega
 exact ⟨hs, Lv h.own hl, hl, fun i x row hx hr => Cp (h.at_ i x row hx hr) rfl⟩
theorem RowsW.below {Z : Nat} {rows : List (List Int)} {v : Value} {hs : List Value} {W W' : World} (h : RowsW Z rows v hs W) (hb : Below W.heap.size W W') : RowsW Z rows v hs W' :=
 ⟨Cs h.own hb, fun i x row hx hr => Cs (h.at_ i x row hx hr) hb⟩
theorem Me (k : Wrk) (bs : List Bod) (nb nr : Nat) (hbl : bs.length = nb) (hnb : nb ≤ 16) (hnr : k.roles.length = nr) (hnr16 : nr ≤ 16) (hbn : ∀ b ∈ bs, b.name.length ≤ maxLen) (hsg : k.signs.length ≤ 1048576) (ws : Array Value) (A Z0 : Nat) (v6 : Value) (Bs : List Nat) (w : World) (hE : Env w) (hz : 2 ≤ w.heap.size) (hWk : WkAt k ws w) (hA : w.heap[A]? = some (.cells ws 32 (0, 0))) (hP : PeopleW Z0 A bs v6 Bs w)
  (e0 e1 e3 e5 e7 e8 e9 ea eb ec ed ee ef eg eh ei ej ek el em en eo ep eq er es et eu ew ex ey ez eA eB eC eD eE eF eG eH eI eJ eK eL eM eN eO eP eQ eR eS eT eU eV eW eX eY eZ aa ab ac ad ae af ag ah ai aj : Value) (Q : Exit → Act → World → Prop) (X : Code)
  (hX : ∀ (w' : World) (v4 : Value) (hs : List Value) (f9 ak al am an ao aq ar au av aw ax ay az aA aB aC aD aE aF aG aH aI aJ aK aL aM aN aO : Value), Below w.heap.size w w' → RowsW w.heap.size (Dc k bs) v4 hs w' → Code.wp Tryz.prog X Q { tmps := #[e0, e1, .pointer (some ⟨A, 0, none⟩), e3, v4, e5, v6, e7, e8, f9, ak, eb, al, ed, ee, ef, eg, eh, ei, ej, ek, el, em, en, eo, ep, eq, er, es, et, eu, ew, ex, ey, ez, eA, eB, eC, eD, eE, eF, eG, eH, eI, am, an, ao, aq, ar, au, av, aw, ax, ay, az, aA, aB, aC, aD, aE, aF, aG, aH, aI, aJ, aK, aL, aM, aN, aO, aj], defers := [] } w') :
  Code.wp Tryz.prog (.seq I5 X) Q { tmps := #[e0, e1, .pointer (some ⟨A, 0, none⟩), e3, .slice none 0 0, e5, v6, e7, e8, e9, ea, eb, ec, ed, ee, ef, eg, eh, ei, ej, ek, el, em, en, eo, ep, eq, er, es, et, eu, ew, ex, ey, ez, eA, eB, eC, eD, eE, eF, eG, eH, eI, eJ, eK, eL, eM, eN, eO, eP, eQ, eR, eS, eT, eU, eV, eW, eX, eY, eZ, aa, ab, ac, ad, ae, af, ag, ah, ai, aj], defers := [] } w := by
 have hlB : Bs.length = nb := hP.len.trans hbl
 have hrowP : IsRow G9 1 w v6 (Bs.map (E8 A)) := Lv hP.own (by rw [List.length_map, hP.len])
 have hrowP0 := hrowP
 obtain ⟨ap, cp, ev, _⟩ := hrowP
 rw [List.length_map, hlB] at ev
 subst ev
 obtain ⟨cR, aR, cRR⟩ : ∃ (cR : Nat) (aR : Option Addr), w.cell? ⟨A, 5, none⟩ = some (.slice aR nr cR) := by
  obtain ⟨aR, aT, aP, aX, aS, cR, cT, cP, cX, cS, rfl, _⟩ := hWk
  exact ⟨cR, aR, by rw [← hnr]; exact A0 hA 5 rfl⟩
 have hPR : ∀ (q : Nat) (b : Bod) (B i : Nat) (W : World), bs[q]? = some b → Bs[q]? = some B → Below w.heap.size w W → Calls Tryz.prog 43 #[int i64 i, .pointer (some ⟨A, 0, none⟩), .pointer (some ⟨B, 0, none⟩)] W fun e w' => e = .returned (int i64 (Av k b i k.signs 0)) ∧ Below W.heap.size W w' := by
  intro q b B i W hq hB hb
  have h0 := hP.at_ q b B hq hB
  exact OY k b i (hbn b (List.mem_of_getElem? hq)) hsg ws A B W (Env.two hE hz hb) (Nat.le_trans hz hb.size) (hWk.below hb (qn _)) ((hb.block A (qs.1 hA).1).trans hA) ((hb.block B (qs.1 h0).1).trans h0)
 have HPR := qh hPR; have HX := qh hX; have HBL := qh hbl; have HLB := qh hlB; have HRP := qh hrowP0; have HNR := qh hnr
 obtain ⟨i79, hi79, hz0, hz1, hz2⟩ := info_parts Fq
 obtain ⟨i3, hi3, hz3, hs3, hb3⟩ := Jb
 clear hPR hX hbl hlB hrowP0 hP hE hWk hA hbn hnr
 unfold I5 F5
 conv => arg 2; arg 1; whnf
 go_wp2_with fail
 go_loopw [4, 47] (fun cv iv wr => ∃ (i : Nat) (hs : List Value), i ≤ nr ∧ iv = int i64 i ∧ Hid (RowsW w.heap.size ((List.range i).map (BV k bs)) cv hs wr) ∧ Hid (Below w.heap.size w wr)) (fun _ iv _ => nr - (intOf iv).toNat)
 case atStart => exact ⟨0, [], Nat.zero_le _, rfl, qh ⟨World.ownsRow_nil _ _ _ _, fun i h row hh => by simp at hh⟩, qh (Below.refl _ _)⟩
 case round =>
  obtain ⟨i, hs, hin, rfl, hR, hW⟩ := hrel
  by_cases hi : i < nr
  ·have hi' : (i : Int) < (nr : Int) := by omega
   generalize wr = wi at *
   go_wp2_with fail
   go_loopw [10, 53] (fun rv jv wr => ∃ j : Nat, j ≤ nb ∧ jv = int i64 j ∧ Hid (wr.ownsRow wi.heap.size 3 1 rv j (As ((BV k bs i).take j))) ∧ Hid (Below wi.heap.size wi wr)) (fun _ jv _ => nb - (intOf jv).toNat)
   case atStart =>
    refine ⟨0, Nat.zero_le _, rfl, qh ⟨rfl, Or.inr ⟨wi.heap.size, 0, #[], rfl, qn _, heap_alloc_new _ _, qn _, Nat.zero_le _, rfl, rfl⟩⟩, qh ((Below.refl _ _).alloc (qn _) _)⟩
   case round =>
    obtain ⟨j, hjn, rfl, hO, hQ⟩ := hrel
    have hrl : (BV k bs i).length = nb := by unfold BV; rw [List.length_map, HBL.out]
    by_cases hj : j < nb
    ·obtain ⟨b, hb⟩ : ∃ b, bs[j]? = some b := ⟨_, qg (by rw [HBL.out]; exact hj)⟩
     obtain ⟨B, hB⟩ : ∃ B, Bs[j]? = some B := ⟨_, qg (by rw [HLB.out]; exact hj)⟩
     have hbw : Below w.heap.size w wr := hW.out.trans (hQ.out.mono hW.out.size)
     have hx : (Bs.map (E8 A))[j]? = some (E8 A B) := by rw [List.getElem?_map, hB]; rfl
     obtain ⟨b1, o1, hp1, hat, hb1⟩ := (HRP.out.below hbw (qn _)).block hx
     subst hp1
     have p0 : wr.cell? ⟨b1, o1 + j, none⟩ = some (E8 A B) := by
      have := hat j _ hx 0 _ rfl
      rw [Nat.mul_one, Nat.add_zero] at this; exact this
     have hbw2 : Below w.heap.size w (wr.alloc (.cells #[E8 A B] 92)) := hbw.alloc hbw.size _
     have hcall := HPR.out j b B i _ hb hB hbw2
     have htk : (BV k bs i).take (j + 1) = (BV k bs i).take j ++ [Av k b i k.signs 0] := by
      rw [List.take_add_one]
      congr 1
      unfold BV
      rw [List.getElem?_map, hb]; rfl
     have hq0 := heap_alloc_new wr (.cells #[E8 A B] 92)
     have c0 : (wr.alloc (.cells #[E8 A B] 92)).cell? ⟨wr.heap.size, 0, none⟩ = some (E8 A B) := A0 hq0 0 rfl
     have hj' : (j : Int) < (nb : Int) := by omega
     have hqsz := hQ.out.size
     have HCALL := qh hcall; have HTK := qh htk; have HQ0 := qh hq0; have HBW := qh hbw2
     have HMV : Hid (#[E8 A B].all (·.oneCell') = true) := qh (by simp [E8, Value.oneCell'])
     clear hcall htk hq0 hbw hbw2 hat hb1 hx hb hB
     unfold E8 at HCALL p0 c0 HMV HQ0 HBW
     generalize Av k b i k.signs 0 = pr at *
     go_wp2_with (refine wpList_store_row rfl 92 _ _ rfl wr.heap.size #[.func (.func 43) #[] #[.pointer (some ⟨A, 0, none⟩), .pointer (some ⟨B, 0, none⟩)]] rfl rfl 92 _ (heap_alloc_new wr _) (by kernel_rfl) rfl HMV.out ?_; rw [World.setRow_alloc_new])
     refine HCALL.out.mono ?_
     rintro e w5 ⟨rfl, hb5⟩
     have ho5 := Cs (hO.out.alloc (.cells #[.func (.func 43) #[] #[.pointer (some ⟨A, 0, none⟩), .pointer (some ⟨B, 0, none⟩)]] 92)) hb5
     have hs5 := hb5.size
     have hss : (wr.alloc (.cells #[.func (.func 43) #[] #[.pointer (some ⟨A, 0, none⟩), .pointer (some ⟨B, 0, none⟩)]] 92)).heap.size = wr.heap.size + 1 := by simp
     have hQ5 : Below wi.heap.size wi w5 := (hQ.out.alloc hqsz (.cells #[.func (.func 43) #[] #[.pointer (some ⟨A, 0, none⟩), .pointer (some ⟨B, 0, none⟩)]] 92)).trans (hb5.mono (by omega))
     have hsz5 := hQ5.size
     have HO5 := qh (ho5.alloc (.cells #[int i64 pr] 3)); have HO5' := qh ho5; have HQ5 := qh hQ5
     clear ho5 hb5 hQ5 hs5 hss HCALL HQ0 HBW HMV c0 p0
     go_wp2_with (at_builtin; refine wpList_append_own _ rfl _ _ 55 rfl wi.heap.size 3 i3 (int i64 0) 1 8 Tryz.underlying55 hi3 hz3 hs3 hb3 rfl (by decide) u10 j (As ((BV k bs i).take j)) rfl HO5.out ⟨w5.heap.size, 0, none⟩ 1 1 [int i64 pr] rfl rfl (cell_one_new _ _ _) (by intro u hu; simp at hu; subst hu; rfl) (by simp only [maxLen]; omega) (by omega) (by simp; omega) ?_; intro v' w6 hown hgrow _)
     have HB6 := qh ((HQ5.out.alloc hsz5 (.cells #[int i64 pr] 3)).grown hgrow (by simp; omega) (DW HO5'.out))
     have HO6 := qh hown
     clear hown hgrow
     go_roundw
     case rel => exact ⟨j + 1, by omega, by go_num, qh (by rw [HTK.out, F9]; exact HO6.out), HB6⟩
     case measure => simp [intOf]; omega
    ·obtain rfl : j = nb := by omega
     have hj' : ¬ (j : Int) < (j : Int) := by omega
     have hfull : (BV k bs i).take j = BV k bs i := List.take_of_length_le (by omega)
     have hrow := hO.out
     rw [hfull] at hrow
     obtain ⟨ao2, c2, ev, _⟩ := Cp hrow hrl
     rw [hrl] at ev
     subst ev
     have hR4 := hR.out.below hQ.out
     have hlr : ((List.range i).map (BV k bs)).length = i := by simp
     have hown4 := hR4.own
     rw [hlr] at hown4
     have hwsz := hW.out.size
     have hqsz := hQ.out.size
     have HO4 := qh (hown4.alloc (.cells #[.slice ao2 j c2] 55)); have HO4' := qh hown4; have HR4 := qh hR4; have HROW := qh hrow
     clear hfull hrow hR4 hlr hown4 hO
     go_wp2_with (at_builtin; refine wpList_append_own _ rfl _ _ 50 rfl w.heap.size 55 i79 (.slice none 0 0) 1 24 Tryz.underlying50 hi79 hz0 hz1 hz2 rfl (by decide) u4 i hs rfl HO4.out ⟨wr.heap.size, 0, none⟩ 1 1 [.slice ao2 j c2] rfl rfl (cell_one_new _ _ _) (by intro u hu; simp at hu; subst hu; rfl) (by simp only [maxLen]; omega) (by omega) (by simp; omega) ?_; intro v' w6 hown hgrow _)
     have hb6 : Below w.heap.size w w6 := ((hW.out.trans (hQ.out.mono hwsz)).alloc (by omega) (.cells #[.slice ao2 j c2] 55)).grown hgrow (by simp; omega) (DW HO4'.out)
     have hR6 : RowsW w.heap.size ((List.range (i + 1)).map (BV k bs)) v' (hs ++ [.slice ao2 j c2]) w6 := by
      have hl6 : ((List.range (i + 1)).map (BV k bs)).length = i + 1 := by simp
      have hhs : hs.length = i := by have := HO4.out.1; omega
      refine ⟨by rw [hl6]; exact hown, fun q h row hq hr => ?_⟩
      have hqi : q < i + 1 := by have := (ql.1 hr).1; omega
      have hrow2 : row = BV k bs q := by
       rw [List.getElem?_map, List.getElem?_range hqi] at hr
       exact (Option.some.inj hr).symm
      by_cases hq2 : q < i
      ·rw [List.getElem?_append_left (by omega)] at hq
       have h0 := HR4.out.at_ q h row hq (by rw [List.getElem?_map, List.getElem?_range hq2, hrow2]; rfl)
       exact EE (h0.alloc (.cells #[.slice ao2 j c2] 55)) HO4.out (by decide) hgrow
      ·obtain rfl : q = i := by omega
       rw [List.getElem?_append_right (by omega), hhs, Nat.sub_self] at hq
       have e1 : Value.slice ao2 j c2 = h := by simpa using hq
       subst e1 hrow2
       have h0 := C2 (B := w.heap.size) HROW.out hwsz
       rw [hrl]
       exact EE (h0.alloc (.cells #[.slice ao2 j c2] 55)) HO4.out (by decide) hgrow
     have HR6 := qh hR6; have HB6 := qh hb6
     clear hR6 hb6 hown hgrow
     go_roundw
     case rel => exact ⟨i + 1, hs ++ [.slice ao2 j c2], by omega, by go_num, HR6, HB6⟩
     case measure => simp [intOf]; omega
  ·obtain rfl : i = nr := by omega
   have hi' : ¬ (i : Int) < (i : Int) := by omega
   have hc : (List.range i).map (BV k bs) = Dc k bs := by unfold Dc; rw [HNR.out]
   rw [hc] at hR
   clear hc
   go_wp2_with fail
   exact HX.out _ _ hs _ _ _ _ _ _ _ _ _ _ _ _ _ _ _ _ _ _ _ _ _ _ _ _ _ _ _ _ _ hW.out hR.out
end
section
open Go Go.RowKit Go.Deep
def AT (k : Wrk) (bs : List Bod) : Int := if Ao k ≠ 0 then Ao k else if 16 < k.roles.length ∨ 16 < bs.length then 2 else if bs.all AG then 0 else 250
def LX (k : Wrk) (bs : List Bod) (w : World) (e : Ending) (w' : World) : Prop :=
 Below w.heap.size w w' ∧ ((AT k bs ≠ 0 ∧ e = .returned (.tuple #[.slice none 0 0, int i64 (AT k bs)])) ∨
  (AT k bs = 0 ∧ ∃ v hs, e = .returned (.tuple #[v, int i64 0]) ∧ RowsW w.heap.size (Dc k bs) v hs w'))
theorem Nf {k : Wrk} (h : Ao k = 0) : k.roles.length ≤ 64 ∧ k.signs.length ≤ 1048576 := by
 unfold Ao at h
 by_cases hl : Eg k = true
 ·unfold Eg at hl
  simp at hl
  omega
 ·rw [if_neg hl] at h; cases h
theorem Jg (k : Wrk) (bs : List Bod) (nb : Nat) (hbl : bs.length = nb) (hbn : ∀ b ∈ bs, b.name.length ≤ maxLen) (ws : Array Value) (aB : Option Addr) (cB : Nat) (w : World) (hE : Env w) (hz : 2 ≤ w.heap.size) (hWk : WkAt k ws w) (hrow : IsRow He 17 w (.slice aB nb cB) bs) :
  Calls Tryz.prog 16 #[.agg ws, .slice aB nb cB] w (LX k bs w) := by
 obtain ⟨cR, aR, nr, hnr, hcR, hws⟩ : ∃ (cR : Nat) (aR : Option Addr) (nr : Nat), k.roles.length = nr ∧ (w.alloc (.cells ws 32)).cell? ⟨w.heap.size, 5, none⟩ = some (.slice aR nr cR) ∧ (Tryz.prog.info? 32).map (·.size) = some ws.size := by
  have hs := hWk.size
  obtain ⟨aR, aT, aP, aX, aS, cR, cT, cP, cX, cS, rfl, _⟩ := hWk
  exact ⟨cR, aR, _, rfl, A0 (heap_alloc_new w _) 5 rfl, hs⟩
 obtain ⟨V, hV⟩ : ∃ V, w.alloc (.cells ws 32) = V := ⟨_, rfl⟩
 have hBV : Below w.heap.size w V := by rw [← hV]; exact (Below.refl _ w).alloc (qn _) _
 have hVA : V.heap[w.heap.size]? = some (.cells ws 32 (0, 0)) := by rw [← hV]; exact heap_alloc_new w _
 rw [hV] at hcR
 have hsV : V.heap.size = w.heap.size + 1 := by rw [← hV]; simp
 have hch := (hWk.below hBV (qn _)).check (Env.two hE hz hBV)
 have HCH := qh hch; have HV := qh hBV; have HA := qh hVA; have HS := qh hws; have HWK := qh hWk; have HE := qh hE; have HR := qh hrow; have HBN := qh hbn; have HBL := qh hbl; have HNR := qh hnr
 clear hch hBV hVA hws hWk hE hrow hbn hbl hnr
 go_enter Tryz.func16, Tryz.ntmps16
 change Code.wp Tryz.prog (A8 4 F5 (.seq I4 (.seq I5 Lx))) _ _ _
 conv => arg 2; whnf
 go_wp2_with fail
 conv => arg 2; whnf
 go_wp2_with (refine wpList_load_row rfl 32 _ rfl w.heap.size rfl 32 _ (0, 0) _ HA.out Tryz.underlying32 rfl HS.out ?_; simp only [Act.put, qD, qE, qF])
 refine HCH.out.mono ?_
 rintro e w2 ⟨rfl, hb2⟩
 have c5 := (hb2.cell (p := ⟨w.heap.size, 5, none⟩) (by show w.heap.size < V.heap.size; omega)).trans hcR
 have A2 := qh ((hb2.block w.heap.size (by omega)).trans HA.out)
 have B2 := qh (HV.out.trans (hb2.mono (by omega)))
 have hs2 : w.heap.size + 1 ≤ w2.heap.size := by have := hb2.size; omega
 clear hb2 hcR HCH HA HV hV
 by_cases hk : Ao k = 0
 ·have hne : (Ao k != 0) = false := by simp [hk]
  obtain ⟨hr64, hsg⟩ := Nf hk
  by_cases h16 : 16 < nr ∨ 16 < nb
  ·have hce : AT k bs = 2 := by unfold AT; rw [if_neg (by simpa using hk), if_pos (by rw [HNR.out, HBL.out]; exact h16)]
   have HCE := qh hce
   clear hce hk
   by_cases hn16 : 16 < nr
   ·have h1 : (16 : Int) < (nr : Int) := by omega
    go_wp2_with fail
    conv => arg 2; whnf
    go_wp2_with fail
    refine bodyPost_ret (results_tmp2 rfl _ _ _) rfl ?_
    exact ⟨B2.out, Or.inl ⟨by rw [HCE.out]; decide, by rw [HCE.out]; rfl⟩⟩
   ·have h1 : ¬ (16 : Int) < (nr : Int) := by omega
    have h2 : (16 : Int) < (nb : Int) := by omega
    go_wp2_with fail
    conv => arg 2; whnf
    go_wp2_with fail
    refine bodyPost_ret (results_tmp2 rfl _ _ _) rfl ?_
    exact ⟨B2.out, Or.inl ⟨by rw [HCE.out]; decide, by rw [HCE.out]; rfl⟩⟩
  ·have h1 : ¬ (16 : Int) < (nr : Int) := by omega
   have h2 : ¬ (16 : Int) < (nb : Int) := by omega
   have hce : AT k bs = if bs.all AG then 0 else 250 := by unfold AT; rw [if_neg (by simpa using hk), if_neg (by rw [HNR.out, HBL.out]; exact h16)]
   have HCE := qh hce
   clear hce hk
   go_wp2_with fail
   conv => arg 2; whnf
   go_wp2_with fail
   conv => arg 2; whnf
   go_wp2_with fail
   refine JM bs nb HBL.out (by omega) HBN.out aB cB w.heap.size w2 (HR.out.below B2.out (qn _)) _ _ _ _ _ _ _ _ _ _ _ _ _ _ _ _ _ _ _ _ _ _ _ _ _ _ _ _ _ _ _ _ _ _ _ _ _ _ _ _ _ _ _ _ _ _ _ _ _ _ _ _ _ _ _ _ _ _ _ _ _ _ _ _ _ _ _ (LX k bs w) _ ?_ ?_
   ·intro w' hb hall
    have hc2 : AT k bs = 250 := by rw [HCE.out, hall]; rfl
    exact ⟨B2.out.trans (hb.mono (by omega)), Or.inl ⟨by rw [hc2]; decide, by rw [hc2]⟩⟩
   ·intro w3 v6 Bs _ _ _ _ _ _ _ _ _ _ _ _ _ _ _ _ _ _ _ hb3 hall hP
    have hB3 := B2.out.trans (hb3.mono (by omega))
    refine Me k bs nb nr HBL.out (by omega) HNR.out (by omega) HBN.out hsg ws w.heap.size w2.heap.size v6 Bs w3 (Env.two HE.out hz hB3) (Nat.le_trans hz hB3.size) (HWK.out.below hB3 (qn _)) ((hb3.block _ (qs.1 A2.out).1).trans A2.out) hP _ _ _ _ _ _ _ _ _ _ _ _ _ _ _ _ _ _ _ _ _ _ _ _ _ _ _ _ _ _ _ _ _ _ _ _ _ _ _ _ _ _ _ _ _ _ _ _ _ _ _ _ _ _ _ _ _ _ _ _ _ _ _ _ _ _ _ _  _ _ ?_
    intro w4 v4 hs _ _ _ _ _ _ _ _ _ _ _ _ _ _ _ _ _ _ _ _ _ _ _ _ _ _ _ _ _ hb4 hR4
    have hc2 : AT k bs = 0 := by rw [HCE.out, hall]; rfl
    have HR4 := qh hR4; have HB4 := qh (hB3.trans (hb4.mono hB3.size)); have HC2 := qh hc2
    have hB3s := hB3.size
    clear hR4 hb4 hc2 hP hB3 hb3 hall
    unfold Lx F5
    conv => arg 2; whnf
    go_wp2_with fail
    refine bodyPost_ret (results_tmp2 rfl _ _ _) rfl ?_
    exact ⟨HB4.out, Or.inr ⟨HC2.out, v4, hs, rfl, ⟨C2 HR4.out.own hB3s, fun i h row hh hr => C2 (HR4.out.at_ i h row hh hr) hB3s⟩⟩⟩
 ·have hne : (Ao k != 0) = true := by simpa using hk
  have hce : AT k bs = Ao k := by unfold AT; rw [if_pos hk]
  have HCE := qh hce; have HK := qh hk
  clear hce hk
  go_wp2_with fail
  refine bodyPost_ret (results_tmp2 rfl _ _ _) rfl ?_
  exact ⟨B2.out, Or.inl ⟨by rw [HCE.out]; exact HK.out, by rw [HCE.out]; rfl⟩⟩
end
section
open Go Go.RowKit
def T6 : Sgn := ⟨2, 0, 0, 2, 1, 1, 1, 0, 3, 0, 0, 1, 1, 1⟩
def SL : Sgn := ⟨3, 0, 0, 1, 2, 0, 1, 0, 2, 0, 0, 1, 1, 1⟩
def caseW : Wrk := ⟨9, 9, 1, 0, 1, [⟨[], 0, 0, 0⟩, ⟨[], 0, 0, 0⟩], ⟨1, [⟨0, 9, 0⟩], [], []⟩, [T6, SL]⟩
def KH : Bod := ⟨[97], 50, 0, 1, 2, 2, 1, 1, 1, 9, 9, 9, 3, 3, 3, 0, 0⟩
def KI : Bod := ⟨[97], 50, 0, 1, 9, 1, 1, 1, 1, 9, 9, 9, 3, 3, 3, 0, 0⟩
theorem M6 : AT caseW [KH, KI] = 0 := by kernel_rfl
theorem M5 : Dc caseW [KH, KI] = [[16, -1], [0, 0]] := by kernel_rfl
end
section
open Go Go.RowKit Go.Deep
theorem OX {w : World} {Z B e s n : Nat} {v : Value} {xs : List Value} (h : w.ownsRow Z e s v n xs) (hB : B ≤ Z) : w.ownsRow B e s v n xs := by
  refine ⟨h.1, ?_⟩
  rcases h.2 with q | ⟨g, cap, cur, e, h1, h2⟩
  · exact Or.inl q
  · exact Or.inr ⟨g, cap, cur, e, Nat.le_trans hB h1, h2⟩
theorem RO {w : World} {B e s n b : Nat} {v : Value} {xs : List Value} (h : w.ownsRow B e s v n xs) (hb : ∀ g, v.ownBlock = some g → g ≠ b) (x : Value) : (w.setCell ⟨b, 0, none⟩ x).ownsRow B e s v n xs := by
  refine ⟨h.1, ?_⟩
  rcases h.2 with q | ⟨g, cap, cur, rfl, h1, hg, h2⟩
  · exact Or.inl q
  · exact Or.inr ⟨g, cap, cur, rfl, h1, (heap_setCell (a := ⟨b, 0, none⟩) (hb g rfl)).trans hg, h2⟩
theorem M4 (cost : List (List Int)) (aoC : Option Addr) (ccC : Nat) (w : World) (h : IsMat w (.slice aoC cost.length ccC) cost) (hcap : cost.length ≤ ccC) (hcc : ccC ≤ maxLen) (hce : Ak cost = 0) :
    Calls Tryz.prog 20 #[.slice aoC cost.length ccC] w (Ks cost w) := by
  obtain ⟨r1, r2, r3, r4, r5⟩ := FF hce
  have HC := qh (fun W (hb : Below w.heap.size w W) => BK W (h.below hb (qn _)))
  have HWD := qh (fun W (hb : Below w.heap.size w W) => D1 W (h.below hb (qn _)))
  have HM := qh (fun W (hb : Below w.heap.size w W) => h.below hb (qn _))
  have HS := qh (fun W (hb : Below w.heap.size w W) => Ey cost aoC ccC (AS cost) W (h.below hb (qn _)) r3 r1 r2 r4 r5)
  have HP : Hid (∀ e W, Ks cost w e W ↔ Below w.heap.size w W ∧ ((Ak cost ≠ 0 ∧ e = .returned (.tuple #[.slice none 0 0, int i64 0, .bool false, int i64 (Ak cost)])) ∨
   (Ak cost = 0 ∧ (∀ t, ¬ CastN cost.length (AS cost) (cI cost) t) ∧ e = .returned (.tuple #[.slice none 0 0, int i64 0, .bool false, int i64 0])) ∨
   (Ak cost = 0 ∧ ∃ (v : Value) (t : Nat → Nat) (taken : List Bool) (best : Int), e = .returned (.tuple #[v, int i64 best, .bool true, int i64 0]) ∧ (∀ s, CastN cost.length (AS cost) (cI cost) s → best ≤ A6 (fun r => cI cost r (s r)) cost.length) ∧ FirstOk cost.length (AS cost) (cI cost) best cost.length t taken ∧ W.ownsRow w.heap.size 3 1 v cost.length (As (toL t cost.length))))) := qh fun _ _ => Iff.rfl
  have HCE := qh hce; have HL := qh (show cost.length = cost.length from rfl)
  have HRL := qh r3; have HC4 := qh r4; have HC5 := qh r5
  rw [hce] at HC
  clear h hce r3 r4 r5
  generalize hn : cost.length = n at *
  generalize hm : AS cost = m at *
  go_enter Tryz.func20, Tryz.ntmps20
  change Code.wp Tryz.prog (A8 5 DM (.seq Hp (.seq Hx (.seq Hy (.seq I3 (Ag 9 DM)))))) _ _ _
  conv => arg 2; whnf
  go_wp2_with fail
  obtain ⟨W, hW, g1, g2, hb, hs⟩ := NK w (.slice aoC n ccC) (int i64 0) 50 3
  rw [hW]
  clear hW
  have c1 : W.cell? ⟨w.heap.size, 0, none⟩ = some (.slice aoC n ccC) := A0 g1 0 rfl
  conv => arg 2; whnf
  go_wp2_with fail
  refine (HC.out W hb).mono ?_
  rintro e w2 ⟨rfl, hb2⟩
  have g12 := (hb2.block w.heap.size (by omega)).trans g1
  have g22 := (hb2.block (w.heap.size + 1) (by omega)).trans g2
  have hB2 := hb.trans (hb2.mono hb.size)
  have hs2 := Nat.le_trans hs hb2.size
  have c12 : w2.cell? ⟨w.heap.size, 0, none⟩ = some (.slice aoC n ccC) := A0 g12 0 rfl
  clear c1 g1 g2 hb hs hb2
  go_wp2_with fail
  conv => arg 2; whnf
  go_wp2_with fail
  refine (HWD.out w2 hB2).mono ?_
  rintro e w3 ⟨rfl, hw3⟩
  rw [hw3]
  clear hw3 w3 HWD
  go_wp2_with fail
  obtain ⟨w3, h3, gM, b3⟩ := A3 w2 (.cells #[int i64 (m : Int)] 3)
  rw [h3]
  clear h3
  have g13 := (b3.block w.heap.size (by omega)).trans g12
  have g23 := (b3.block (w.heap.size + 1) (by omega)).trans g22
  have hB3 := hB2.trans (b3.mono hB2.size)
  have hlt3 : w2.heap.size < w3.heap.size := (qs.1 gM).1
  have c13 : w3.cell? ⟨w.heap.size, 0, none⟩ = some (.slice aoC n ccC) := A0 g13 0 rfl
  have cM3 : w3.cell? ⟨w2.heap.size, 0, none⟩ = some (int i64 m) := A0 gM 0 rfl
  obtain ⟨res, _, hres, c65⟩ := HS.out w3 hB3
  have HRES := qh hres
  clear c12 g12 g22 hB2 b3 HS HC hres
  conv => arg 2; whnf
  go_wp2_with (go_at_call 46; refine c65.mono ?_)
  cases res with
  | none =>
    rintro e w4 ⟨rfl, hb4⟩
    have g24 := (hb4.block (w.heap.size + 1) (by omega)).trans g23
    have hB4 := hB3.trans (hb4.mono hB3.size)
    have c24 := A0 g24 0 rfl
    have f24 : w4.frozen? ⟨w.heap.size + 1, 0, none⟩ = false := by simp [World.frozen?, g24]
    have c4 : (w4.setCell ⟨w.heap.size + 1, 0, none⟩ (int i64 0)).cell? ⟨w.heap.size + 1, 0, none⟩ = some (int i64 0) := World.cell?_setCell_same _ _ _ c24
    have HB4 := qh hB4
    have C4 := qh c4
    clear c4 hB4 g24 hB3 c65 hb4 c13 cM3 g13 g23 gM
    go_wp2_with fail
    conv => arg 2; whnf
    go_wp2_with fail
    refine bodyPost_ret (DY _ _ _ _ rfl C4.out) rfl ?_
    exact (HP.out _ _).2 ⟨HB4.out.setCell (p := ⟨w.heap.size + 1, 0, none⟩) (Nat.le_succ _) _, Or.inr (Or.inl ⟨HCE.out, fun t ht => FH HRES.out t ht, rfl⟩)⟩
  | some s =>
    rintro e w4 ⟨T, U, V, rfl, hT, _, _, ⟨hT2, _, _⟩, hb4⟩
    have hok : SolOk n m (cI cost) s := HRES.out
    have g14 := (hb4.block w.heap.size (by omega)).trans g13
    have g24 := (hb4.block (w.heap.size + 1) (by omega)).trans g23
    have gM4 := (hb4.block w2.heap.size hlt3).trans gM
    have hB4 := hB3.trans (hb4.mono hB3.size)
    have hs4 := hb4.size
    have hok2 : ∀ r, r < n → 0 ≤ gi s.to r ∧ gi s.to r < (m : Int) := fun r hr => by obtain ⟨q, hq, e, _⟩ := hok.cast r hr; omega
    have hsum : ∀ k, k ≤ n → 0 ≤ A6 (fun r => cI cost r (gi s.to r).toNat) k ∧ A6 (fun r => cI cost r (gi s.to r).toNat) k ≤ 1048576 * (k : Int) := by
      intro k
      induction k with
      | zero => intro _; exact ⟨Int.le_refl _, Int.le_refl _⟩
      | succ k ih =>
        intro hk
        have h1 := ih (by omega)
        have h2 := hok.castN.ok k (by omega)
        have h3 : cI cost k (gi s.to k).toNat ≤ 1048576 := HC4.out k _
        unfold A6
        omega
    have HOK := qh hok
    clear c65 hb4 c13 cM3 g13 g23 gM
    go_wp2_with fail
    conv => arg 2; whnf
    go_wp2_with fail
    conv => arg 2; whnf
    refine Ob cost n m s.to aoC ccC T w.heap.size (w.heap.size + 1) w.heap.size hn HRL.out HOK.out.lt hok2 (fun k hk => by have := hsum k hk; omega) (by omega) w4 (fun W hW => HM.out W (hB4.trans hW)) hT (A0 g14 0 rfl) (by omega) (by omega) (by omega) (A0 g24 0 rfl) (by simp [World.frozen?, g24]) _ _ _ _ _ _ _ _ _ _ _ _ _ _ _ _ _ _ _ _ _ _ _ _ _ _ _ _ _ _ _ _ _ _ _ _ _ _ _ _ _ _ _ _ _ _ _ _ _ _ _ _ _ _ _ _ _ _ _ _ _ _ _ _ _ _ _ _ _ _ _ _ _ _ _ _ _ _ _ _ _ _ _ _ ?_
    intro w5 _ _ _ _ _ _ _ _ _ _ _ _ _ _ _ _ _ _ _ hb5 hO5 cB5 fB5
    have gM5 := (hO5 w2.heap.size (by omega)).trans gM4
    have g15 := (hO5 w.heap.size (by omega)).trans g14
    have hB5 := hB4.trans hb5
    have hs5 := hb5.size
    clear hO5 gM4 g14 g24 hb5 hT
    refine NX w2.heap.size m (by omega) w5 (A0 gM5 0 rfl) (by omega) _ _ _ _ _ _ _ _ _ _ _ _ _ _ _ _ _ _ _ _ _ _ _ _ _ _ _ _ _ _ _ _ _ _ _ _ _ _ _ _ _ _ _ _ _ _ _ _ _ _ _ _ _ _ _ _ _ _ _ _ _ _ _ _ _ _ _ _ _ _ _ _ _ _ _ _ _ _ _ _ _ _ _ _ _ _ ?_
    intro w6 kS kT D _ _ hb6 gS gT gD hlo hne
    have lS := (qs.1 gS).1
    have lT := (qs.1 gT).1
    have lD := (qs.1 gD).1
    have hs6 := hb6.size
    obtain ⟨n1, n2, n3⟩ := hne
    obtain ⟨m1, m2, m3⟩ := hlo
    refine NU w.heap.size w6.heap.size w kT w.heap.size w2.heap.size kS (w.heap.size + 1) D n m cost aoC ccC (A6 (fun r => cI cost r (gi s.to r).toNat) n) hn HRL.out r2 r1 hcap hcc HC4.out HC5.out (fun t ht => HOK.out.opt ht) ⟨_, HOK.out.castN, rfl⟩ ⟨by omega, by omega, by omega, by omega, by omega, by omega, by omega, by omega, by omega, by omega, ⟨lT, by omega, by omega, lS, by omega, lD⟩, ⟨by omega, by omega, by omega⟩⟩ HM.out w6
      ⟨hB5.trans (hb6.mono hB5.size), (hb6.cell (p := ⟨w.heap.size, 0, none⟩) (by show w.heap.size < _; omega)).trans (A0 g15 0 rfl), A0 gT 0 rfl, (hb6.cell (p := ⟨w2.heap.size, 0, none⟩) (by show w2.heap.size < _; omega)).trans (A0 gM5 0 rfl), A0 gS 0 rfl, (hb6.cell (p := ⟨w.heap.size + 1, 0, none⟩) (by show w.heap.size + 1 < _; omega)).trans cB5, Am gD, by simp [World.frozen?, gS], (hb6.frozen (p := ⟨w.heap.size + 1, 0, none⟩) (by show w.heap.size + 1 < _; omega)).trans fB5, qn _, ⟨rfl, Or.inl ⟨rfl, rfl⟩⟩⟩ _ _ _ _ _ _ _ _ _ _ _ _ _ _ _ _ _ _ _ _ _ _ _ _ _ _ _ _ _ _ _ _ _ _ _ _ _ _ _ _ _ _ _ _ _ _ _ _ _ _ _ _ _ _ _ _ _ _ _ _ _ _ _ _ _ _ _ _ _ _ _ _ _ _ _ _ _ _ _ _ _ ?_
    intro w7 v t taken spent _ _ _ _ _ _ _ _ _ _ _ _ _ _ _ _ _ _ _ _ _ _ _ _ _ _ _ _ _ _ _ _ _ hF7 hW7
    have HF7 := qh hF7; have HW7 := qh hW7
    have c7 := hW7.boxB
    have f7 : w7.frozen? ⟨w.heap.size + 1, 0, none⟩ = false := hW7.freeB
    have hz : w.heap.size ≤ w6.heap.size := by omega
    have hz2 : w.heap.size + 1 < w6.heap.size := by omega
    have hopt : ∀ t, CastN n m (cI cost) t → A6 (fun r => cI cost r (gi s.to r).toNat) n ≤ A6 (fun r => cI cost r (t r)) n := fun t ht => HOK.out.opt ht
    have HOPT := qh hopt
    clear hF7 hW7 hb6 gS gT gD cB5 fB5 gM5 g15 hB4 hB5 hs4 hs5 hs6
    generalize A6 (fun r => cI cost r (gi s.to r).toNat) n = best at *
    have cs : (w7.setCell ⟨w.heap.size + 1, 0, none⟩ (int i64 best)).cell? ⟨w.heap.size + 1, 0, none⟩ = some (int i64 best) := World.cell?_setCell_same _ _ _ c7
    have cw : w7.cell? ⟨w.heap.size + 1, 0, none⟩ = some (int i64 best) := c7
    conv => arg 2; whnf
    go_wp2_with fail
    go_region_held3 (fun w2 => w2.cell? ⟨w.heap.size + 1, 0, none⟩ = some (int i64 best)) (first | assumption | exact cs) (fail)
    go_wp2_with fail
    refine bodyPost_ret (DY _ _ (⟨w.heap.size + 1, 0, none⟩ : Addr) (int i64 best) rfl (by first | exact cs | exact c7)) rfl ?_
    refine (HP.out _ _).2 ⟨?_, Or.inr (Or.inr ⟨HCE.out, v, t, taken, best, rfl, HOPT.out, HF7.out, ?_⟩)⟩
    · first | exact (HW7.out.below.setCell (p := ⟨w.heap.size + 1, 0, none⟩) (Nat.le_succ _) _).drew | exact (HW7.out.below.drew.setCell (p := ⟨w.heap.size + 1, 0, none⟩) (Nat.le_succ _) _)
    · have ho := OX HW7.out.own hz
      refine RO ho (b := w.heap.size + 1) (fun g hg => ?_) _
      have := QG HW7.out.own g hg
      omega
end
section
open Go Go.RowKit Go.Deep
theorem Au (w : World) (x : Obj) : ∃ w', w.alloc x = w' ∧ w'.heap[w.heap.size]? = some x ∧ Below w.heap.size w w' ∧ w'.heap.size = w.heap.size + 1 := ⟨_, rfl, heap_alloc_new w x, (Below.refl _ w).alloc (qn _) _, by simp⟩
theorem B9 {W : World} {g : Nat} {l : List Int} {cs : Array Value} {n : Nat} (h : W.heap[g]? = some (.cells cs 3 (0, 0))) (hc : cs.toList = As l) (hn : l.length = n) (hb : n ≤ 1000) : IsRow AX 1 W (.slice (some ⟨g, 0, none⟩) n n) l :=
 AQ (enc := AX) (k := 1) (fun _ => rfl) h hn (by simp only [maxLen]; omega) (by rw [← Id]; exact hc)
theorem Gi : ∀ ys : List Value, ys.flatMap G9 = ys
 | [] => rfl
 | y :: ys => by rw [List.flatMap_cons, Gi ys]; rfl
theorem EK {W : World} {g : Nat} {cs : Array Value} {n : Nat} (h : W.heap[g]? = some (.cells cs 55 (0, 0))) (hn : cs.toList.length = n) (hb : n ≤ 1000) : IsRow G9 1 W (.slice (some ⟨g, 0, none⟩) n n) cs.toList :=
 AQ (enc := G9) (k := 1) (fun _ => rfl) h hn (by simp only [maxLen]; omega) (Gi _).symm
theorem JP {W : World} {v x y : Value} {a b : List Int} (h : IsRow G9 1 W v [x, y]) (hx : IsRow AX 1 W x a) (hy : IsRow AX 1 W y b) : IsMat W v [a, b] := by
 refine ⟨[x, y], h, rfl, fun i u row hu hr => ?_⟩
 match i with
 | 0 => cases hu; cases hr; exact hx
 | 1 => cases hu; cases hr; exact hy
 | i + 2 => simp at hu
theorem OR {W : World} {v x y z : Value} {a b c : List Int} (h : IsRow G9 1 W v [x, y, z]) (hx : IsRow AX 1 W x a) (hy : IsRow AX 1 W y b) (hz : IsRow AX 1 W z c) : IsMat W v [a, b, c] := by
 refine ⟨[x, y, z], h, rfl, fun i u row hu hr => ?_⟩
 match i with
 | 0 => cases hu; cases hr; exact hx
 | 1 => cases hu; cases hr; exact hy
 | 2 => cases hu; cases hr; exact hz
 | i + 3 => simp at hu
theorem NF {W : World} {v x : Value} {a : List Int} (h : IsRow G9 1 W v [x]) (hx : IsRow AX 1 W x a) : IsMat W v [a] := by
 refine ⟨[x], h, rfl, fun i u row hu hr => ?_⟩
 match i with
 | 0 => cases hu; cases hr; exact hx
 | i + 1 => simp at hu
theorem Kx (cost : List (List Int)) (aoC : Option Addr) (n ccC : Nat) (hl : cost.length = n) (hcap : n ≤ ccC) (hcc : ccC ≤ maxLen) (w : World) (h : IsMat w (.slice aoC n ccC) cost) : Calls Tryz.prog 20 #[.slice aoC n ccC] w (Ks cost w) := by
 subst hl
 by_cases hce : Ak cost = 0
 ·exact M4 cost aoC ccC w h hcap hcc hce
 ·exact PF cost aoC ccC w h hce
theorem PG (g : Nat) (w : World) (h : IsMat w (.slice (some ⟨g, 0, none⟩) 2 2) CO) : Calls Tryz.prog 20 #[.slice (some ⟨g, 0, none⟩) 2 2] w fun e w' => ∃ ao c, e = .returned (.tuple #[.slice ao 2 c, int i64 3, .bool true, int i64 0]) ∧ IsRow AX 1 w' (.slice ao 2 c) [1, 0] ∧ Below w.heap.size w w' := by
 refine (Kx CO _ 2 2 rfl (qn _) (by simp only [maxLen]; omega) w h).mono ?_
 rintro e w' ⟨hb, ⟨h1, _⟩ | ⟨_, h1, _⟩ | ⟨_, v, t, taken, best, rfl, hmin, hF, ho⟩⟩
 ·exact absurd DK h1
 ·exact absurd IA (h1 LO)
 ·obtain ⟨e1, e2⟩ := Rb hmin hF
  have ho2 : w'.ownsRow w.heap.size 3 1 v 2 (As (toL t 2)) := ho
  rw [e2] at ho2
  have hr := Cp ho2 rfl
  obtain ⟨ao, c, e3, _⟩ := hr
  have e4 : v = .slice ao 2 c := e3
  subst e4
  exact ⟨ao, c, by rw [e1], Cp ho2 rfl, hb⟩
theorem NZ (g : Nat) (w : World) (h : IsMat w (.slice (some ⟨g, 0, none⟩) 1 1) [[]]) : Calls Tryz.prog 20 #[.slice (some ⟨g, 0, none⟩) 1 1] w fun e w' => e = .returned (.tuple #[.slice none 0 0, int i64 0, .bool false, int i64 0]) ∧ Below w.heap.size w w' := by
 refine (Kx [[]] _ 1 1 rfl (qn _) (by simp only [maxLen]; omega) w h).mono ?_
 rintro e w' ⟨hb, ⟨h1, _⟩ | ⟨_, _, rfl⟩ | ⟨_, v, t, taken, best, _, _, hF, _⟩⟩
 ·exact absurd Mz h1
 ·exact ⟨rfl, hb⟩
 ·obtain ⟨s, h1, _⟩ := hF.ex
  exact absurd h1 (OU s)
theorem Oh (v : Value) (w : World) (h : IsMat w v CO) : Calls Tryz.prog 27 #[v] w fun e w' => e = .returned (.tuple #[.slice none 0 0, .bool false, int i64 0]) ∧ Below w.heap.size w w' := by
 refine (KU w h).mono ?_
 rintro e w' ⟨hb, ⟨h1, _⟩ | ⟨_, _, rfl⟩ | ⟨_, x, l, h1, _⟩⟩
 ·exact absurd DK h1
 ·exact ⟨rfl, hb⟩
 ·have h2 : Fx (cI CO) 2 2 = some l := h1
  rw [Qf] at h2; cases h2
theorem KV (v : Value) (w : World) (h : IsMat w v Gc) : Calls Tryz.prog 27 #[v] w fun e w' => ∃ ao c, e = .returned (.tuple #[.slice ao 2 c, .bool true, int i64 0]) ∧ IsRow AX 1 w' (.slice ao 2 c) [1, 2] ∧ Below w.heap.size w w' := by
 refine (KU w h).mono ?_
 rintro e w' ⟨hb, ⟨h1, _⟩ | ⟨_, h1, _⟩ | ⟨_, x, l, h1, rfl, hr⟩⟩
 ·exact absurd LP h1
 ·have h2 : Fx (cI Gc) 3 2 = none := h1
  rw [Hb] at h2; cases h2
 ·have h2 : Fx (cI Gc) 3 2 = some l := h1
  rw [Hb] at h2
  obtain rfl := Option.some.inj h2
  have hr2 : IsRow AX 1 w' x [1, 2] := hr
  have hr3 := hr2
  obtain ⟨ao, c, e3, _⟩ := hr3
  have e4 : x = .slice ao 2 c := e3
  subst e4
  exact ⟨ao, c, rfl, hr2, hb⟩
theorem MJ (v : Value) (w : World) (h : IsMat w v CO) : Calls Tryz.prog 29 #[v] w fun e w' => ∃ U V, e = .returned (.tuple #[.slice (some ⟨U, 0, none⟩) 2 2, .slice (some ⟨V, 0, none⟩) 2 2, .bool true, int i64 0]) ∧ Below w.heap.size w w' := by
 refine (MH w h).mono ?_
 rintro e w' (⟨h1, _⟩ | ⟨_, res, _, h2⟩)
 ·exact absurd DK h1
 ·cases res with
  | none => exact absurd IA (FH h2.1 LO)
  | some s =>
   obtain ⟨_, U, V, rfl, _, _, hb⟩ := h2
   exact ⟨U, V, rfl, hb⟩
end
section
open Go Go.RowKit Go.Deep
noncomputable def EV : Code := (Tryz.f14.body).getD .skip
noncomputable def DD : Code := Ag 9 EV
theorem N5 (w : World) (R : Ending → World → Prop) (X : Code) (e0 e1 e2 e3 e4 e5 e6 e7 e8 e9 ea eb ec ed ee ef eg eh ei ej ek el em en eo ep eq er es et eu ev ew ex ey ez eA eB eC eD eE eF eG eH eI eJ eK eL eM eN eO eP eQ eR eS eT eU eV eW eX eY eZ aa ab ac ad ae af ag ah ai aj ak al am an ao ap aq ar au av aw ax ay az aA aB aC aD aE aF aG aH aI aJ aK aL aM aN aO aP aQ aR aS aT aU aV aW aX aY aZ ba bb bc bd be bf bg bh bi bj bk bl bm bn bo bp bq br bs bt bu bv bw bx bz bA bB bC bD bE bF bG bH bI bJ bK bL bM bN bO bP bQ bR bS bT bU bV bW bX bY bZ ca cb cc cd ce cf cg ch ci cj ck cl cm cn co cp cq cr cs ct cu cv cw cx cy cz cA cB cC cD cE cF cG cH cI cJ cK cL cM cN cO cP cQ cR cS cT cU cV cW cX cY cZ da db dc dd de : Value)
  (hX : ∀ (W : World) (g : Nat) (a2 : Option Addr) (c2 : Nat) (a12 : Option Addr) (c12 U V : Nat) (f9 dg dh di dj dk dl dm dn dp dq dr ds dt du dv dw dx dy dz dA dB dC dD dE dF dG dH dI dJ dK dL dM dN dO dP dQ dR dS dT dU dV dW dX dY dZ fa fb fc fd fe ff fg fh fi fj fk fl fm fn : Value), Below w.heap.size w W → IsRow AX 1 W (.slice a2 2 c2) [1, 0] → IsRow AX 1 W (.slice a12 2 c12) [1, 2] → Code.wp Tryz.prog X (bodyPost Tryz.prog Tryz.f14 R) { tmps := #[.bool false, .slice (some ⟨g, 0, none⟩) 2 2, .slice a2 2 c2, int i64 3, .bool true, int i64 0, int i64 3, .bool true, int i64 0, f9, .bool false, int i64 0, .slice a12 2 c12, .bool true, int i64 0, dg, .bool false, int i64 0, .slice (some ⟨U, 0, none⟩) 2 2, .slice (some ⟨V, 0, none⟩) 2 2, .bool true, int i64 0, dh, di, .bool false, int i64 0, eq, er, es, et, eu, dj, dk, dl, dm, dn, dp, dq, dr, ds, dt, du, dv, dw, dx, dy, dz, dA, dB, dC, dD, dE, dF, dG, dH, dI, dJ, dK, dL, dM, dN, dO, dP, dQ, dR, dS, dT, dU, dV, dW, dX, dY, dZ, fa, fb, fc, fd, fe, ff, fg, fh, fi, fj, fk, fl, fm, fn, aB, aC, aD, aE, aF, aG, aH, aI, aJ, aK, aL, aM, aN, aO, aP, aQ, aR, aS, aT, aU, aV, aW, aX, aY, aZ, ba, bb, bc, bd, be, bf, bg, bh, bi, bj, bk, bl, bm, bn, bo, bp, bq, br, bs, bt, bu, bv, bw, bx, bz, bA, bB, bC, bD, bE, bF, bG, bH, bI, bJ, bK, bL, bM, bN, bO, bP, bQ, bR, bS, bT, bU, bV, bW, bX, bY, bZ, ca, cb, cc, cd, ce, cf, cg, ch, ci, cj, ck, cl, cm, cn, co, cp, cq, cr, cs, ct, cu, cv, cw, cx, cy, cz, cA, cB, cC, cD, cE, cF, cG, cH, cI, cJ, cK, cL, cM, cN, cO, cP, cQ, cR, cS, cT, cU, cV, cW, cX, cY, cZ, da, db, dc, dd, de], defers := [] } W) :
  Code.wp Tryz.prog (A8 9 EV X) (bodyPost Tryz.prog Tryz.f14 R) { tmps := #[e0, e1, e2, e3, e4, e5, e6, e7, e8, e9, ea, eb, ec, ed, ee, ef, eg, eh, ei, ej, ek, el, em, en, eo, ep, eq, er, es, et, eu, ev, ew, ex, ey, ez, eA, eB, eC, eD, eE, eF, eG, eH, eI, eJ, eK, eL, eM, eN, eO, eP, eQ, eR, eS, eT, eU, eV, eW, eX, eY, eZ, aa, ab, ac, ad, ae, af, ag, ah, ai, aj, ak, al, am, an, ao, ap, aq, ar, au, av, aw, ax, ay, az, aA, aB, aC, aD, aE, aF, aG, aH, aI, aJ, aK, aL, aM, aN, aO, aP, aQ, aR, aS, aT, aU, aV, aW, aX, aY, aZ, ba, bb, bc, bd, be, bf, bg, bh, bi, bj, bk, bl, bm, bn, bo, bp, bq, br, bs, bt, bu, bv, bw, bx, bz, bA, bB, bC, bD, bE, bF, bG, bH, bI, bJ, bK, bL, bM, bN, bO, bP, bQ, bR, bS, bT, bU, bV, bW, bX, bY, bZ, ca, cb, cc, cd, ce, cf, cg, ch, ci, cj, ck, cl, cm, cn, co, cp, cq, cr, cs, ct, cu, cv, cw, cx, cy, cz, cA, cB, cC, cD, cE, cF, cG, cH, cI, cJ, cK, cL, cM, cN, cO, cP, cQ, cR, cS, cT, cU, cV, cW, cX, cY, cZ, da, db, dc, dd, de], defers := [] } w := by
 have HX := qh hX
 clear hX
 obtain ⟨V1, d1, g1, b1, s1⟩ := Au w (.cells #[int i64 1, int i64 2] 3)
 obtain ⟨V2, d2, g2, b2, s2⟩ := Au V1 (.cells #[int i64 1, int i64 4] 3)
 obtain ⟨V3, d3, g3, b3, s3⟩ := Au V2 (.cells #[.slice (some ⟨w.heap.size, 0, none⟩) 2 2, .slice (some ⟨w.heap.size + 1, 0, none⟩) 2 2] 55)
 have t2 : V2.heap.size = w.heap.size + 1 + 1 := by omega
 rw [s1] at g2 b2
 rw [t2] at g3 b3
 have hB3 : Below w.heap.size w V3 := (b1.trans (b2.mono (by omega))).trans (b3.mono (by omega))
 have hM3 : IsMat V3 (.slice (some ⟨w.heap.size + 1 + 1, 0, none⟩) 2 2) CO := JP (EK g3 rfl (by omega)) (B9 ((b3.block _ (by omega)).trans ((b2.block _ (by omega)).trans g1)) rfl rfl (by omega)) (B9 ((b3.block _ (by omega)).trans g2) rfl rfl (by omega))
 have HB3 := qh hB3; have HM3 := qh hM3
 clear hB3 hM3 g1 g2 g3 b1 b2 b3 s2 s3
 unfold EV
 conv => arg 2; whnf
 go_wp2_with fail
 conv => arg 2; whnf
 go_wp2_with fail
 clear d1 d2 d3 s1 t2
 conv => arg 2; whnf
 go_wp2_with fail
 refine (PG _ V3 HM3.out).mono ?_
 rintro e W2 ⟨a2, c2, rfl, hr2, hb2⟩
 have HB2 := qh (HB3.out.trans (hb2.mono HB3.out.size)); have HR2 := qh hr2; have HM2 := qh (HM3.out.below hb2 (qn _))
 clear hr2 hb2 HB3 HM3
 generalize w.heap.size + 1 + 1 = g at *
 go_wp2_with fail
 obtain ⟨P1, d1, g1, b1, s1⟩ := Au W2 (.cells #[int i64 2, int i64 2] 3)
 obtain ⟨P2, d2, g2, b2, s2⟩ := Au P1 (.cells #[int i64 (-1), int i64 0] 3)
 rw [s1] at g2 b2
 have hBP : Below W2.heap.size W2 P2 := b1.trans (b2.mono (by omega))
 have hU := B9 (n := 2) ((b2.block _ (by omega)).trans g1) (l := [2, 2]) rfl rfl (by omega)
 have hV := B9 (n := 2) g2 (l := [-1, 0]) rfl rfl (by omega)
 have HBP := qh (HB2.out.trans (hBP.mono HB2.out.size)); have HMP := qh (HM2.out.below hBP (qn _)); have HUP := qh hU; have HVP := qh hV
 have HR2p := qh (HR2.out.below hBP (qn _))
 clear hBP hU hV g1 g2 b1 b2 s2 HB2 HM2 HR2
 conv => arg 2; whnf
 go_wp2_with fail
 refine (Iq [2, 2] [-1, 0] 2 2 rfl rfl _ _ _ _ P2 HMP.out HUP.out HVP.out).mono ?_
 rintro e W3 ⟨rfl, hb⟩
 have HB3 := qh (HBP.out.trans (hb.mono HBP.out.size)); have HM3 := qh (HMP.out.below hb (qn _))
 have HR2 := qh (HR2p.out.below hb (qn _))
 have hp : (In CO [2, 2] [-1, 0], DH CO [2, 2] [-1, 0]) = (3, true) := by kernel_rfl
 have hp1 := congrArg Prod.fst hp
 have hp2 := congrArg Prod.snd hp
 simp only at hp1 hp2
 rw [hp1, hp2, DK]
 have hd0 : (decide ((0 : Int) = 0)) = true := by decide
 rw [hd0]
 clear hb HBP HMP HUP HVP d1 d2 s1 hp hp1 hp2 hd0 HR2p
 go_wp2_with fail
 obtain ⟨P1, d1, g1, b1, s1⟩ := Au W3 (.cells #[int i64 2, int i64 2] 3)
 obtain ⟨P2, d2, g2, b2, s2⟩ := Au P1 (.cells #[int i64 0, int i64 0] 3)
 rw [s1] at g2 b2
 have hBP : Below W3.heap.size W3 P2 := b1.trans (b2.mono (by omega))
 have hU := B9 (n := 2) ((b2.block _ (by omega)).trans g1) (l := [2, 2]) rfl rfl (by omega)
 have hV := B9 (n := 2) g2 (l := [0, 0]) rfl rfl (by omega)
 have HBP := qh (HB3.out.trans (hBP.mono HB3.out.size)); have HMP := qh (HM3.out.below hBP (qn _)); have HUP := qh hU; have HVP := qh hV
 have HR2p := qh (HR2.out.below hBP (qn _))
 clear hBP hU hV g1 g2 b1 b2 s2 HB3 HM3 HR2
 conv => arg 2; whnf
 go_wp2_with fail
 refine (Iq [2, 2] [0, 0] 2 2 rfl rfl _ _ _ _ P2 HMP.out HUP.out HVP.out).mono ?_
 rintro e W4 ⟨rfl, hb⟩
 have HB4 := qh (HBP.out.trans (hb.mono HBP.out.size)); have HM4 := qh (HMP.out.below hb (qn _))
 have HR2 := qh (HR2p.out.below hb (qn _))
 have hp : (In CO [2, 2] [0, 0], DH CO [2, 2] [0, 0]) = (0, false) := by kernel_rfl
 have hp1 := congrArg Prod.fst hp
 have hp2 := congrArg Prod.snd hp
 simp only at hp1 hp2
 rw [hp1, hp2, DK]
 have hd0 : (decide ((0 : Int) = 0)) = true := by decide
 rw [hd0]
 clear hb HBP HMP HUP HVP d1 d2 s1 hp hp1 hp2 hd0 HR2p
 go_wp2_with fail
 obtain ⟨P1, d1, g1, b1, s1⟩ := Au W4 (.cells #[int i64 1, int i64 2] 3)
 obtain ⟨P2, d2, g2, b2, s2⟩ := Au P1 (.cells #[int i64 3, int i64 (-1)] 3)
 obtain ⟨P3, d3, g3, b3, s3⟩ := Au P2 (.cells #[int i64 4, int i64 (-1)] 3)
 obtain ⟨P4, d4, g4, b4, s4⟩ := Au P3 (.cells #[.slice (some ⟨W4.heap.size, 0, none⟩) 2 2, .slice (some ⟨W4.heap.size + 1, 0, none⟩) 2 2, .slice (some ⟨W4.heap.size + 1 + 1, 0, none⟩) 2 2] 55)
 have t2 : P2.heap.size = W4.heap.size + 1 + 1 := by omega
 have t3 : P3.heap.size = W4.heap.size + 1 + 1 + 1 := by omega
 rw [s1] at g2 b2
 rw [t2] at g3 b3
 rw [t3] at g4 b4
 have hBP : Below W4.heap.size W4 P4 := ((b1.trans (b2.mono (by omega))).trans (b3.mono (by omega))).trans (b4.mono (by omega))
 have hMP : IsMat P4 (.slice (some ⟨W4.heap.size + 1 + 1 + 1, 0, none⟩) 3 3) Gc := OR (EK g4 rfl (by omega)) (B9 ((b4.block _ (by omega)).trans ((b3.block _ (by omega)).trans ((b2.block _ (by omega)).trans g1))) rfl rfl (by omega)) (B9 ((b4.block _ (by omega)).trans ((b3.block _ (by omega)).trans g2)) rfl rfl (by omega)) (B9 ((b4.block _ (by omega)).trans g3) rfl rfl (by omega))
 have HBP := qh (HB4.out.trans (hBP.mono HB4.out.size)); have HMP := qh (HM4.out.below hBP (qn _)); have HR2p := qh (HR2.out.below hBP (qn _)); have HM3 := qh hMP
 clear hBP hMP g1 g2 g3 g4 b1 b2 b3 b4 s2 s3 s4 HB4 HM4 HR2
 conv => arg 2; whnf
 go_wp2_with fail
 refine (KV _ P4 HM3.out).mono ?_
 rintro e W5 ⟨a12, c12, rfl, hr, hb⟩
 have HB5 := qh (HBP.out.trans (hb.mono HBP.out.size)); have HM5 := qh (HMP.out.below hb (qn _)); have HR2 := qh (HR2p.out.below hb (qn _)); have HR12 := qh hr
 clear hb hr HBP HMP HR2p HM3 d1 d2 d3 d4 s1 t2 t3
 go_wp2_with fail
 conv => arg 2; whnf
 go_wp2_with fail
 refine (Oh _ W5 HM5.out).mono ?_
 rintro e W6 ⟨rfl, hb⟩
 have HB6 := qh (HB5.out.trans (hb.mono HB5.out.size)); have HM6 := qh (HM5.out.below hb (qn _)); have HR2p := qh (HR2.out.below hb (qn _)); have HR12p := qh (HR12.out.below hb (qn _))
 clear hb HB5 HM5 HR2 HR12
 go_wp2_with fail
 conv => arg 2; whnf
 go_wp2_with fail
 refine (MJ _ W6 HM6.out).mono ?_
 rintro e W7 ⟨U, V, rfl, hb⟩
 have HB7 := qh (HB6.out.trans (hb.mono HB6.out.size)); have HR2 := qh (HR2p.out.below hb (qn _)); have HR12 := qh (HR12p.out.below hb (qn _))
 clear hb HB6 HM6 HR2p HR12p
 go_wp2_with fail
 obtain ⟨P1, d1, g1, b1, s1⟩ := Au W7 (.cells #[] 3)
 obtain ⟨P2, d2, g2, b2, s2⟩ := Au P1 (.cells #[.slice (some ⟨W7.heap.size, 0, none⟩) 0 0] 55)
 rw [s1] at g2 b2
 have hBP : Below W7.heap.size W7 P2 := b1.trans (b2.mono (by omega))
 have hMP : IsMat P2 (.slice (some ⟨W7.heap.size + 1, 0, none⟩) 1 1) [[]] := NF (EK g2 rfl (by omega)) IsRow.nil
 have HBP := qh (HB7.out.trans (hBP.mono HB7.out.size)); have HR2p := qh (HR2.out.below hBP (qn _)); have HR12p := qh (HR12.out.below hBP (qn _)); have HM3 := qh hMP
 clear hBP hMP g1 g2 b1 b2 s2 HB7 HR2 HR12
 conv => arg 2; whnf
 go_wp2_with fail
 refine (NZ _ P2 HM3.out).mono ?_
 rintro e W8 ⟨rfl, hb⟩
 have HB8 := qh (HBP.out.trans (hb.mono HBP.out.size)); have HR2 := qh (HR2p.out.below hb (qn _)); have HR12 := qh (HR12p.out.below hb (qn _))
 clear hb HBP HR2p HR12p HM3 d1 d2 s1
 go_wp2_with fail
 exact HX.out W8 g a2 c2 a12 c12 U V _ _ _ _ _ _ _ _ _ _ _ _ _ _ _ _ _ _ _ _ _ _ _ _ _ _ _ _ _ _ _ _ _ _ _ _ _ _ _ _ _ _ _ _ _ _ _ _ _ _ _ _ _ _ _ _ _ _ _ _ HB8.out HR2.out HR12.out
end
end Go.Proofs.YtggcbblikgankaaGreatDoor
