/- Contracts and plain laws on the way to the statement: part 45. -/
import Derived.Test.YtggcbblikgankaaGreatDoorZ36
import Derived.Test.YtggcbblikgankaaGreatDoorZ44
set_option linter.unusedVariables false
set_option linter.unusedSimpArgs false
section
namespace Go.Proofs.YtggcbblikgankaaGreatDoor
open Go Go.RowKit Go.Deep
noncomputable def code39 : Code := (Tryz.f16.body).getD .skip
noncomputable def part39n4 : Code := fstC (lastPart 4 code39)
def encB (b : Bod) : List Value := (bodCells b).toList
theorem encB_len (b : Bod) : (encB b).length = 17 := rfl
def manV (A B : Nat) : Value := .func (.func 43) #[] #[.pointer (some ⟨A, 0, none⟩), .pointer (some ⟨B, 0, none⟩)]
structure PeopleW (Z A : Nat) (bs : List Bod) (v : Value) (Bs : List Nat) (W : World) : Prop where
 own : W.ownsRow Z 92 1 v bs.length (Bs.map (manV A))
 len : Bs.length = bs.length
 at_ : ∀ (q : Nat) (b : Bod) (B : Nat), bs[q]? = some b → Bs[q]? = some B → W.heap[B]? = some (.cells (bodCells b) 35 (0, 0))
theorem info157 : (Tryz.prog.info? 92).map (fun i => (i.zero, i.size, i.bytes)) = some (some (.agg #[.nilFunc]), 1, 8) := by kernel_rfl
theorem own_other {w w' : World} {Z Z' e e' s s' n n' : Nat} {v v' : Value} {xs xs' : List Value} (h : w.ownsRow Z e s v n xs) (h' : w.ownsRow Z' e' s' v' n' xs') (hne : e ≠ e') (hg : w.grownBy w' v'.ownBlock) : w'.ownsRow Z e s v n xs := by
 refine ⟨h.1, ?_⟩
 rcases h.2 with q | ⟨g, cap, cur, e1, h1, hgg, h2⟩
 ·exact Or.inl q
 ·refine Or.inr ⟨g, cap, cur, e1, h1, (hg.block g (Array.getElem?_eq_some_iff.1 hgg).1 fun e2 => ?_).trans hgg, h2⟩
  rcases h'.2 with ⟨q, _⟩ | ⟨g', cap', cur', q, _, hg', _⟩
  ·rw [q] at e2; cases e2
  ·rw [q] at e2
   have : g = g' := by simpa [Value.ownBlock] using e2
   subst this
   rw [hgg] at hg'
   injection hg' with e3
   injection e3 with _ e4
   exact hne e4
theorem cells_other {w w' : World} {b Z' e e' s' n' : Nat} {v' : Value} {xs' : List Value} {cs : Array Value} (hb : w.heap[b]? = some (.cells cs e (0, 0))) (h' : w.ownsRow Z' e' s' v' n' xs') (hne : e ≠ e') (hg : w.grownBy w' v'.ownBlock) : w'.heap[b]? = some (.cells cs e (0, 0)) := by
 refine (hg.block b (Array.getElem?_eq_some_iff.1 hb).1 fun e2 => ?_).trans hb
 rcases h'.2 with ⟨q, _⟩ | ⟨g', cap', cur', q, _, hg', _⟩
 ·rw [q] at e2; cases e2
 ·rw [q] at e2
  have : b = g' := by simpa [Value.ownBlock] using e2
  subst this
  rw [hb] at hg'
  injection hg' with e3
  injection e3 with _ e4
  exact hne e4
set_option maxRecDepth 100000 in
set_option maxHeartbeats 8000000 in
theorem costs_people (bs : List Bod) (nb : Nat) (hbl : bs.length = nb) (hnb : nb ≤ 16) (hbn : ∀ b ∈ bs, b.name.length ≤ maxLen) (aB : Option Addr) (cB A : Nat) (w : World) (hrow : IsRow encB 17 w (.slice aB nb cB) bs) (e0 e3 e5 e7 e8 e9 e10 e11 e12 e13 e14 e15 e16 e17 e18 e19 e20 e21 e22 e23 e24 e25 e26 e27 e28 e29 e30 e31 e32 e33 e34 e35 e36 e37 e38 e39 e40 e41 e42 e43 e44 e45 e46 e47 e48 e49 e50 e51 e52 e53 e54 e55 e56 e57 e58 e59 e60 e61 e62 e63 e64 e65 e66 e67 e68 e69 e70 : Value) (R : Ending → World → Prop) (X : Code)
  (hE : ∀ w', Below w.heap.size w w' → bs.all bodB = false → R (.returned (.tuple #[.slice none 0 0, .int .i64 250])) w')
  (hX : ∀ (w' : World) (v6 : Value) (Bs : List Nat) (f5 f8 f27 f28 f29 f30 f31 f32 f33 f34 f35 f36 f37 f38 f39 f40 f41 f42 f43 : Value), Below w.heap.size w w' → bs.all bodB = true → PeopleW w.heap.size A bs v6 Bs w' → Code.wp Tryz.prog X (bodyPost Tryz.prog Tryz.f16 R) { tmps := #[e0, .slice aB nb cB, .pointer (some ⟨A, 0, none⟩), e3, .slice none 0 0, f5, v6, e7, f8, e9, e10, e11, e12, e13, e14, e15, e16, e17, e18, e19, e20, e21, e22, e23, e24, e25, e26, f27, f28, f29, f30, f31, f32, f33, f34, f35, f36, f37, f38, f39, f40, f41, f42, f43, e44, e45, e46, e47, e48, e49, e50, e51, e52, e53, e54, e55, e56, e57, e58, e59, e60, e61, e62, e63, e64, e65, e66, e67, e68, e69, e70], defers := [] } w') :
  Code.wp Tryz.prog (.seq part39n4 X) (bodyPost Tryz.prog Tryz.f16 R) { tmps := #[e0, .slice aB nb cB, .pointer (some ⟨A, 0, none⟩), e3, .slice none 0 0, e5, .slice none 0 0, e7, e8, e9, e10, e11, e12, e13, e14, e15, e16, e17, e18, e19, e20, e21, e22, e23, e24, e25, e26, e27, e28, e29, e30, e31, e32, e33, e34, e35, e36, e37, e38, e39, e40, e41, e42, e43, e44, e45, e46, e47, e48, e49, e50, e51, e52, e53, e54, e55, e56, e57, e58, e59, e60, e61, e62, e63, e64, e65, e66, e67, e68, e69, e70], defers := [] } w := by
 have HE := Lib.hid hE; have HX := Lib.hid hX; have HROW := Lib.hid hrow; have HBN := Lib.hid hbn; have HBL := Lib.hid hbl
 obtain ⟨i0, hi0, hz0, hz1, hz2⟩ := info_parts info157
 clear hE hX hrow hbn hbl
 unfold part39n4 code39
 conv => arg 2; arg 1; whnf
 go_wp2_with fail
 go_loopw [4, 6, 29] (fun cv pv iv wr => ∃ (i : Nat) (Bs : List Nat), cv = .slice none 0 0 ∧ i ≤ nb ∧ iv = .int .i64 i ∧ Hid ((bs.take i).all bodB = true) ∧ Hid (PeopleW w.heap.size A (bs.take i) pv Bs wr) ∧ Hid (Below w.heap.size w wr)) (fun _ _ iv _ => nb - (intOf iv).toNat)
 case atStart => exact ⟨0, [], rfl, Nat.zero_le _, rfl, Lib.hid (by simp), Lib.hid ⟨World.ownsRow_nil _ _ _ _, by simp, fun q b B h => by simp at h⟩, Lib.hid (Below.refl _ _)⟩
 case round =>
  obtain ⟨i, Bs, rfl, hin, rfl, hall, hP, hW⟩ := hrel
  by_cases hi : i < nb
  ·obtain ⟨b, hb⟩ : ∃ b, bs[i]? = some b := ⟨_, List.getElem?_eq_getElem (by rw [HBL.out]; exact hi)⟩
   have htk : bs.take (i + 1) = bs.take i ++ [b] := by rw [List.take_add_one, hb]; rfl
   have hlt : (bs.take i).length = i := by rw [List.length_take, HBL.out]; omega
   obtain ⟨b1, o1, hp1, hat, hb1⟩ := (HROW.out.below hW.out (Nat.le_refl _)).block hb
   subst hp1
   have p0 : wr.cell? ⟨b1, o1 + i * 17, none⟩ = some (.string ⟨b.name.toArray⟩) := hat i b hb 0 _ rfl
   have p1 : wr.cell? ⟨b1, o1 + i * 17 + 1, none⟩ = some (.int .i64 b.weight) := hat i b hb 1 _ rfl
   have p2 : wr.cell? ⟨b1, o1 + i * 17 + 2, none⟩ = some (.int .i64 b.lift) := hat i b hb 2 _ rfl
   have p3 : wr.cell? ⟨b1, o1 + i * 17 + 3, none⟩ = some (.int .i64 b.girth) := hat i b hb 3 _ rfl
   have p4 : wr.cell? ⟨b1, o1 + i * 17 + 4, none⟩ = some (.int .i64 b.step) := hat i b hb 4 _ rfl
   have p5 : wr.cell? ⟨b1, o1 + i * 17 + 5, none⟩ = some (.int .i64 b.jump) := hat i b hb 5 _ rfl
   have p6 : wr.cell? ⟨b1, o1 + i * 17 + 6, none⟩ = some (.int .i64 b.r0) := hat i b hb 6 _ rfl
   have p7 : wr.cell? ⟨b1, o1 + i * 17 + 7, none⟩ = some (.int .i64 b.r1) := hat i b hb 7 _ rfl
   have p8 : wr.cell? ⟨b1, o1 + i * 17 + 8, none⟩ = some (.int .i64 b.r2) := hat i b hb 8 _ rfl
   have p9 : wr.cell? ⟨b1, o1 + i * 17 + 9, none⟩ = some (.int .i64 b.s0) := hat i b hb 9 _ rfl
   have p10 : wr.cell? ⟨b1, o1 + i * 17 + 10, none⟩ = some (.int .i64 b.s1) := hat i b hb 10 _ rfl
   have p11 : wr.cell? ⟨b1, o1 + i * 17 + 11, none⟩ = some (.int .i64 b.s2) := hat i b hb 11 _ rfl
   have p12 : wr.cell? ⟨b1, o1 + i * 17 + 12, none⟩ = some (.int .i64 b.t0) := hat i b hb 12 _ rfl
   have p13 : wr.cell? ⟨b1, o1 + i * 17 + 13, none⟩ = some (.int .i64 b.t1) := hat i b hb 13 _ rfl
   have p14 : wr.cell? ⟨b1, o1 + i * 17 + 14, none⟩ = some (.int .i64 b.t2) := hat i b hb 14 _ rfl
   have p15 : wr.cell? ⟨b1, o1 + i * 17 + 15, none⟩ = some (.int .i64 b.effort) := hat i b hb 15 _ rfl
   have p16 : wr.cell? ⟨b1, o1 + i * 17 + 16, none⟩ = some (.int .i64 b.recover) := hat i b hb 16 _ rfl
   have hi' : (i : Int) < (nb : Int) := by omega
   have HSA : Hid ((bodCells b).all (·.oneCell') = true) := Lib.hid (by simp [bodCells, Value.oneCell'])
   have hW1 : Below w.heap.size w (wr.alloc (.cells (bodCells b) 35)) := hW.out.alloc hW.out.size _
   have hck := bcheck_any b (HBN.out b (List.mem_of_getElem? hb)) (wr.alloc (.cells (bodCells b) 35))
   have X0 := Lib.hid (heap_alloc_new wr (.cells (bodCells b) 35))
   have HTK := Lib.hid htk; have HLT := Lib.hid hlt; have HB := Lib.hid hb; have HW1 := Lib.hid hW1; have HCK := Lib.hid hck
   clear hat hb1 htk hlt hb hW1 hck
   go_wp2_with (first | (refine wpList_store_row rfl 35 _ _ rfl wr.heap.size (bodCells b) rfl rfl 35 _ (heap_alloc_new wr _) (by kernel_rfl) rfl HSA.out ?_; rw [World.setRow_alloc_new]) | (refine wpList_load_row rfl 35 _ rfl wr.heap.size rfl 35 (bodCells b) (0, 0) _ X0.out Tryz.underlying35 rfl (by kernel_rfl) ?_; simp only [Act.put, List.setIfInBounds_toArray, List.set_cons_zero, List.set_cons_succ]))
   refine HCK.out.mono ?_
   rintro e w2 ⟨rfl, hb2⟩
   have hW2 := HW1.out.trans (hb2.mono HW1.out.size)
   have hs1 : (wr.alloc (.cells (bodCells b) 35)).heap.size = wr.heap.size + 1 := by simp
   have y0 := (hb2.block wr.heap.size (by rw [hs1]; omega)).trans X0.out
   have hb02 : Below wr.heap.size wr w2 := ((Below.refl wr.heap.size wr).alloc (Nat.le_refl _) (.cells (bodCells b) 35)).trans (hb2.mono (by omega))
   have HY0 := Lib.hid y0; have HW2 := Lib.hid hW2; have HB02 := Lib.hid hb02
   clear hb2 hW2 hs1 y0 hb02 HW1 X0 HCK HSA p0 p1 p2 p3 p4 p5 p6 p7 p8 p9 p10 p11 p12 p13 p14 p15 p16
   cases hbb : bodB b with
   | false =>
    have hne : ((250 : Int) != 0) = true := rfl
    have hall2 : bs.all bodB = false := by
     rw [Bool.eq_false_iff]
     intro h
     have := List.all_eq_true.1 h b (List.mem_of_getElem? HB.out)
     rw [hbb] at this; cases this
    have HE2 := Lib.hid (HE.out w2 HW2.out hall2)
    have hcd : codeI false 250 = 250 := rfl
    rw [hcd]
    clear hall2 hbb
    go_wp2_with fail
    exact HE2.out
   | true =>
    have hcd : codeI true 250 = 0 := rfl
    rw [hcd]
    have hall2 : (bs.take (i + 1)).all bodB = true := by
     rw [HTK.out, List.all_append, hall.out]; simp [hbb]
    have HALL2 := Lib.hid hall2
    have hown0 := owns_below hP.out.own HB02.out
    rw [HLT.out] at hown0
    have hbsz := HB02.out.size
    have hWsz := hW.out.size
    have HO := Lib.hid (hown0.alloc (.cells #[manV A wr.heap.size] 92))
    have HO0 := Lib.hid hown0
    clear hall2 hbb hcd hown0
    unfold manV at HO
    go_wp2_with (at_builtin; refine wpList_append_own _ rfl _ _ 89 rfl w.heap.size 92 i0 (.agg #[.nilFunc]) 1 8 Tryz.underlying89 hi0 hz0 hz1 hz2 rfl (by decide) u6 i (Bs.map (manV A)) rfl HO.out ⟨w2.heap.size, 0, none⟩ 1 1 [manV A wr.heap.size] rfl rfl (cell_one_new _ _ _) (by intro u hu; simp at hu; subst hu; rfl) (by simp only [maxLen]; omega) (by omega) (by simp; omega) ?_; intro v' w4 hown hgrow _)
    have hge := own_ge' HO0.out
    have hbz : Below w.heap.size w w4 := by
     refine (HW2.out.alloc HW2.out.size (.cells #[manV A wr.heap.size] 92)).grown hgrow (by simp; have := HW2.out.size; omega) hge
    have hks : ∀ (B : Nat) (cs : Array Value), w2.heap[B]? = some (.cells cs 35 (0, 0)) → w4.heap[B]? = some (.cells cs 35 (0, 0)) := fun B cs hB =>
     cells_other ((Below.heap_alloc w2 (.cells #[manV A wr.heap.size] 92) B (Array.getElem?_eq_some_iff.1 hB).1).trans hB) HO.out (by decide) hgrow
    have hP2 : PeopleW w.heap.size A (bs.take (i + 1)) v' (Bs ++ [wr.heap.size]) w4 := by
     have hl1 : (bs.take (i + 1)).length = i + 1 := by rw [HTK.out, List.length_append, HLT.out]; rfl
     have hl2 : Bs.length = i := hP.out.len.trans HLT.out
     refine ⟨by rw [hl1, List.map_append]; exact hown, by rw [hl1, List.length_append, hl2]; rfl, fun q b' B hq hB => ?_⟩
     by_cases hqi : q < i
     ·rw [HTK.out, List.getElem?_append_left (by rw [HLT.out]; exact hqi)] at hq
      rw [List.getElem?_append_left (by rw [hl2]; exact hqi)] at hB
      have h0 := hP.out.at_ q b' B hq hB
      exact hks B _ ((HB02.out.block B (Array.getElem?_eq_some_iff.1 h0).1).trans h0)
     ·have hqe : q = i := by
       have := (List.getElem?_eq_some_iff.1 hq).1
       omega
      subst hqe
      rw [HTK.out, List.getElem?_append_right (by rw [HLT.out]; exact Nat.le_refl _), HLT.out, Nat.sub_self] at hq
      rw [List.getElem?_append_right (by rw [hl2]; exact Nat.le_refl _), hl2, Nat.sub_self] at hB
      have e1 : b = b' := by simpa using hq
      have e2 : wr.heap.size = B := by simpa using hB
      subst e1 e2
      exact hks _ _ HY0.out
    have HP2 := Lib.hid hP2; have HBZ := Lib.hid hbz
    clear hown hgrow hks hP2 hbz hge
    go_roundw
    case rel =>
     exact ⟨i + 1, Bs ++ [wr.heap.size], rfl, by omega, by go_num, HALL2, HP2, HBZ⟩
    case measure => simp [intOf]; omega
  ·obtain rfl : i = nb := by omega
   have hi' : ¬ (i : Int) < (i : Int) := by omega
   have htk : bs.take i = bs := List.take_of_length_le (by rw [HBL.out]; exact Nat.le_refl _)
   rw [htk] at hall hP
   clear htk
   go_wp2_with fail
   exact HX.out _ _ Bs _ _ _ _ _ _ _ _ _ _ _ _ _ _ _ _ _ _ _ hW.out hall.out hP.out
end Go.Proofs.YtggcbblikgankaaGreatDoor
end
