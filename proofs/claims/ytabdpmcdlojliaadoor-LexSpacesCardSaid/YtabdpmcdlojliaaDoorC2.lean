/- The examples of the chapter hold: sane returns true. -/
import Derived.Test.YtabdpmcdlojliaaDoorC1
namespace Go.Proofs.YtabdpmcdlojliaaDoor
open Go.RowKit

def S0 : List Tok := [⟨0, [], 0, 0⟩]
def S9 : List Tok := [⟨1, [97], 0, 9⟩]
theorem text6 : textL S6 = [97, 32, 61, 32, 49] := by
  unfold textL S6 wordT
  have h : Lib.itoa (1 : Int) = [49] := by
    rw [show (1 : Int) = ((1 : Nat) : Int) from rfl, Lib.itoa_nonneg, Lib.decDigits_one (by omega)]; rfl
  simp only [List.map]
  rw [if_neg (by decide), if_neg (by decide), if_pos (by decide), h]
  rfl
theorem valid6 : S6.all validT = true := by kernel_rfl
theorem valid0 : S0.all validT = false := by kernel_rfl
theorem name1 : nameOk (⟨#[66, 95, 49, 50]⟩ : ByteArray).data.toList = true := by kernel_rfl
theorem name2 : nameOk (⟨#[95, 49, 50]⟩ : ByteArray).data.toList = false := by kernel_rfl
theorem eq11 : equalT S1 S1 = true := by decide
theorem same46 : sameT S4 S6 = false := by kernel_rfl
theorem same49 : sameT S4 S9 = true := by kernel_rfl

/-- One token in a new block. -/
theorem tokAt_one {w : World} {g : Nat} {t : TypeId} (k n p : Int) (x : List UInt8) (h : w.heap[g]? = some (.cells #[.int .i64 k, .string ⟨x.toArray⟩, .int .i64 n, .int .i64 p] t (0, 0))) : TokAt w g 0 [⟨k, x, n, p⟩] := by
  intro i t' ht
  cases i with
  | zero =>
    simp at ht; subst ht
    refine ⟨?_, ?_, ?_, ?_⟩ <;> simp [World.cell?, h]
  | succ i => simp at ht
theorem tokAt_three {w : World} {g : Nat} {t : TypeId} (a b c : Tok) (h : w.heap[g]? = some (.cells #[.int .i64 a.kind, .string ⟨a.text.toArray⟩, .int .i64 a.num, .int .i64 a.pos, .int .i64 b.kind, .string ⟨b.text.toArray⟩, .int .i64 b.num, .int .i64 b.pos,
    .int .i64 c.kind, .string ⟨c.text.toArray⟩, .int .i64 c.num, .int .i64 c.pos] t (0, 0))) : TokAt w g 0 [a, b, c] := by
  intro i t' ht
  match i, ht with
  | 0, ht => simp at ht; subst ht; refine ⟨?_, ?_, ?_, ?_⟩ <;> simp [World.cell?, h]
  | 1, ht => simp at ht; subst ht; refine ⟨?_, ?_, ?_, ?_⟩ <;> simp [World.cell?, h]
  | 2, ht => simp at ht; subst ht; refine ⟨?_, ?_, ?_, ?_⟩ <;> simp [World.cell?, h]
  | i + 3, ht => simp at ht

set_option maxRecDepth 100000 in
set_option maxHeartbeats 1000000 in
theorem sane_any (w : World) (hE : Env w) : Calls Tryd.prog 11 #[] w fun e w' => e = .returned (.bool true) ∧ Below w.heap.size w w' := by
  have HE := Lib.hid hE; clear hE
  go_enter Tryd.func11, Tryd.ntmps11
  go_wp2_with fail
  refine (lex_some _ S1 3 w HE.out (by decide) L1 rfl (by decide)).mono ?_
  rintro e w1 ⟨g1, c1, rfl, t1, l1, b1⟩
  have BW := Lib.hid b1; have T1 := Lib.hid t1; clear b1 t1
  go_wp2_with fail
  have tw := tokAt_three (w := w1.alloc (.cells #[.int .i64 1, .string ⟨#[115, 117, 109]⟩, .int .i64 0, .int .i64 0, .int .i64 2, .string ⟨#[]⟩, .int .i64 30, .int .i64 4, .int .i64 3, .string ⟨#[59]⟩, .int .i64 0, .int .i64 6] 35)) (g := w1.heap.size) (t := 35) ⟨1, [115, 117, 109], 0, 0⟩ ⟨2, [], 30, 4⟩ ⟨3, [59], 0, 6⟩ (heap_alloc_new w1 _)
  have lw : w1.heap.size < (w1.alloc (.cells #[.int .i64 1, .string ⟨#[115, 117, 109]⟩, .int .i64 0, .int .i64 0, .int .i64 2, .string ⟨#[]⟩, .int .i64 30, .int .i64 4, .int .i64 3, .string ⟨#[59]⟩, .int .i64 0, .int .i64 6] 35)).heap.size := by simp
  have bw : Below w1.heap.size w1 (w1.alloc (.cells #[.int .i64 1, .string ⟨#[115, 117, 109]⟩, .int .i64 0, .int .i64 0, .int .i64 2, .string ⟨#[]⟩, .int .i64 30, .int .i64 4, .int .i64 3, .string ⟨#[59]⟩, .int .i64 0, .int .i64 6] 35)) := (Below.refl _ _).alloc (Nat.le_refl _) _
  generalize w1.alloc (.cells #[.int .i64 1, .string ⟨#[115, 117, 109]⟩, .int .i64 0, .int .i64 0, .int .i64 2, .string ⟨#[]⟩, .int .i64 30, .int .i64 4, .int .i64 3, .string ⟨#[59]⟩, .int .i64 0, .int .i64 6] 35) = w2 at *
  have hz1 := bw.size
  replace T1 := Lib.hid (T1.out.below bw (by omega))
  replace BW := Lib.hid (BW.out.trans (bw.mono (by have := BW.out.size; omega)))
  clear bw
  generalize w1.heap.size = gw at *
  have TW := Lib.hid tw; clear tw
  refine (lex_err _ 0 w2 (HE.out.below BW.out) (by decide) L2).mono ?_
  rintro e w3 ⟨rfl, b3⟩
  have hz2 := b3.size
  replace T1 := Lib.hid (T1.out.below b3 (by omega))
  replace TW := Lib.hid (TW.out.below b3 (by omega))
  replace BW := Lib.hid (BW.out.trans (b3.mono (by have := BW.out.size; omega)))
  clear b3
  go_wp2_with fail
  refine (lex_some _ S3 1 w3 (HE.out.below BW.out) (by decide) L3 rfl (by decide)).mono ?_
  rintro e w4 ⟨g3, c3, rfl, t3, l3, b4⟩
  have hz3 := b4.size
  replace T1 := Lib.hid (T1.out.below b4 (by omega))
  replace TW := Lib.hid (TW.out.below b4 (by omega))
  replace BW := Lib.hid (BW.out.trans (b4.mono (by have := BW.out.size; omega)))
  clear b4
  have T3 := Lib.hid t3; clear t3
  go_wp2_with fail
  refine (lex_some _ S4 1 w4 (HE.out.below BW.out) (by decide) L4 rfl (by decide)).mono ?_
  rintro e w5 ⟨g4, c4, rfl, t4, l4, b5⟩
  have hz4 := b5.size
  replace T1 := Lib.hid (T1.out.below b5 (by omega))
  replace TW := Lib.hid (TW.out.below b5 (by omega))
  replace T3 := Lib.hid (T3.out.below b5 (by omega))
  replace BW := Lib.hid (BW.out.trans (b5.mono (by have := BW.out.size; omega)))
  clear b5
  have T4 := Lib.hid t4; clear t4
  go_wp2_with fail
  refine (lex_err _ 2 w5 (HE.out.below BW.out) (by decide) L5).mono ?_
  rintro e w6 ⟨rfl, b6⟩
  have hz5 := b6.size
  replace T1 := Lib.hid (T1.out.below b6 (by omega))
  replace TW := Lib.hid (TW.out.below b6 (by omega))
  replace T3 := Lib.hid (T3.out.below b6 (by omega))
  replace T4 := Lib.hid (T4.out.below b6 (by omega))
  replace BW := Lib.hid (BW.out.trans (b6.mono (by have := BW.out.size; omega)))
  clear b6
  go_wp2_with fail
  refine (lex_some _ S6 3 w6 (HE.out.below BW.out) (by decide) L6 rfl (by decide)).mono ?_
  rintro e w7 ⟨g6, c6, rfl, t6, l6, b7⟩
  have hz6 := b7.size
  replace T1 := Lib.hid (T1.out.below b7 (by omega))
  replace TW := Lib.hid (TW.out.below b7 (by omega))
  replace T3 := Lib.hid (T3.out.below b7 (by omega))
  replace T4 := Lib.hid (T4.out.below b7 (by omega))
  replace BW := Lib.hid (BW.out.trans (b7.mono (by have := BW.out.size; omega)))
  clear b7
  have T6 := Lib.hid t6; clear t6
  go_wp2_with fail
  refine (text_any _ S6 w7 (HE.out.below BW.out) (Or.inr ⟨g6, 0, c6, rfl, T6.out, l6⟩) (by decide) (by decide) (fun h => Nat.le_trans (textL_len h) (by decide))).mono ?_
  rintro e w8 ⟨h8, b8⟩
  rw [if_pos valid6] at h8
  subst h8
  have hz7 := b8.size
  replace T1 := Lib.hid (T1.out.below b8 (by omega))
  replace TW := Lib.hid (TW.out.below b8 (by omega))
  replace T3 := Lib.hid (T3.out.below b8 (by omega))
  replace T4 := Lib.hid (T4.out.below b8 (by omega))
  replace T6 := Lib.hid (T6.out.below b8 (by omega))
  replace BW := Lib.hid (BW.out.trans (b8.mono (by have := BW.out.size; omega)))
  clear b8
  rw [text6]
  go_wp2_with fail
  refine (lex_none _ w8 (HE.out.below BW.out) (by decide) L7).mono ?_
  rintro e w9 ⟨a9, c9, rfl, b9⟩
  have hz8 := b9.size
  replace T1 := Lib.hid (T1.out.below b9 (by omega))
  replace TW := Lib.hid (TW.out.below b9 (by omega))
  replace T3 := Lib.hid (T3.out.below b9 (by omega))
  replace T4 := Lib.hid (T4.out.below b9 (by omega))
  replace T6 := Lib.hid (T6.out.below b9 (by omega))
  replace BW := Lib.hid (BW.out.trans (b9.mono (by have := BW.out.size; omega)))
  clear b9
  go_wp2_with fail
  have tz := tokAt_one (w := (w9.alloc (.cells #[.int .i64 0, .string ⟨#[]⟩, .int .i64 0, .int .i64 0] 35))) (g := w9.heap.size) (t := 35) 0 0 0 [] (heap_alloc_new w9 _)
  have lz : w9.heap.size < (w9.alloc (.cells #[.int .i64 0, .string ⟨#[]⟩, .int .i64 0, .int .i64 0] 35)).heap.size := by simp
  have bz : Below w9.heap.size w9 (w9.alloc (.cells #[.int .i64 0, .string ⟨#[]⟩, .int .i64 0, .int .i64 0] 35)) := (Below.refl _ _).alloc (Nat.le_refl _) _
  generalize (w9.alloc (.cells #[.int .i64 0, .string ⟨#[]⟩, .int .i64 0, .int .i64 0] 35)) = w10 at *
  have hz21 := bz.size
  replace T1 := Lib.hid (T1.out.below bz (by omega))
  replace TW := Lib.hid (TW.out.below bz (by omega))
  replace T3 := Lib.hid (T3.out.below bz (by omega))
  replace T4 := Lib.hid (T4.out.below bz (by omega))
  replace T6 := Lib.hid (T6.out.below bz (by omega))
  replace BW := Lib.hid (BW.out.trans (bz.mono (by have := BW.out.size; omega)))
  clear bz
  generalize w9.heap.size = gz at *
  have TZ := Lib.hid tz; clear tz
  refine (text_any _ S0 w10 (HE.out.below BW.out) (Or.inr ⟨gz, 0, 1, rfl, TZ.out, lz⟩) (by decide) (by decide) (fun h => by rw [valid0] at h; cases h)).mono ?_
  rintro e w11 ⟨h11, b11⟩
  rw [if_neg (by rw [valid0]; decide)] at h11
  subst h11
  have hz22 := b11.size
  replace T1 := Lib.hid (T1.out.below b11 (by omega))
  replace TW := Lib.hid (TW.out.below b11 (by omega))
  replace T3 := Lib.hid (T3.out.below b11 (by omega))
  replace T4 := Lib.hid (T4.out.below b11 (by omega))
  replace T6 := Lib.hid (T6.out.below b11 (by omega))
  replace BW := Lib.hid (BW.out.trans (b11.mono (by have := BW.out.size; omega)))
  clear b11
  clear TZ
  have m3 := (T3.out 0 ⟨2, [], 1099511627776, 0⟩ rfl).2.2.1
  have m4 := (T4.out 0 ⟨1, [97], 0, 0⟩ rfl).2.1
  simp at m3 m4
  go_wp2_with fail
  have he := equal_any (.slice (some ⟨g1, 0, none⟩) 3 c1) (.slice (some ⟨gw, 0, none⟩) 3 3) S1 S1 w11 (Or.inr ⟨g1, 0, c1, rfl, T1.out, by omega⟩) (Or.inr ⟨gw, 0, 3, rfl, TW.out, by omega⟩) (by decide)
  rw [eq11] at he
  refine he.mono ?_
  rintro e w12 ⟨rfl, n12, rfl⟩
  clear he
  replace T4 := Lib.hid (T4.out.drewN n12)
  replace T6 := Lib.hid (T6.out.drewN n12)
  replace BW := Lib.hid (below_drewN' n12 BW.out)
  have hz40 : w11.heap.size ≤ (w11.drewN n12).heap.size := Nat.le_refl _
  have m3' : (w11.drewN n12).cell? ⟨g3, 2, none⟩ = some (.int .i64 1099511627776) := m3
  have m4' : (w11.drewN n12).cell? ⟨g4, 1, none⟩ = some (.string ⟨#[97]⟩) := m4
  clear m3 m4 T1 TW T3
  generalize w11.drewN n12 = w12 at *
  go_wp2_with fail
  refine (lname_any ⟨#[66, 95, 49, 50]⟩ _ (by unfold maxLen; decide)).mono ?_
  rw [name1]
  rintro e w' ⟨rfl, rfl⟩
  go_wp2_with fail
  refine (lname_any ⟨#[95, 49, 50]⟩ _ (by unfold maxLen; decide)).mono ?_
  rw [name2]
  rintro e w' ⟨rfl, rfl⟩
  go_wp2_with fail
  refine (lsame_any _ _ S4 S6 w12 (Or.inr ⟨g4, 0, c4, rfl, T4.out, by omega⟩) (Or.inr ⟨g6, 0, c6, rfl, T6.out, by omega⟩) (by decide)).mono ?_
  rw [same46]
  rintro e w13 ⟨rfl, b13⟩
  have hz41 := b13.size
  replace T4 := Lib.hid (T4.out.below b13 (by omega))
  replace BW := Lib.hid (BW.out.trans (b13.mono (by have := BW.out.size; omega)))
  clear b13 m3' m4' T6
  go_wp2_with fail
  have t9 := tokAt_one (w := w13.alloc (.cells #[.int .i64 1, .string ⟨#[97]⟩, .int .i64 0, .int .i64 9] 35)) (g := w13.heap.size) (t := 35) 1 0 9 [97] (heap_alloc_new w13 _)
  have l9 : w13.heap.size < (w13.alloc (.cells #[.int .i64 1, .string ⟨#[97]⟩, .int .i64 0, .int .i64 9] 35)).heap.size := by simp
  have b9 : Below w13.heap.size w13 (w13.alloc (.cells #[.int .i64 1, .string ⟨#[97]⟩, .int .i64 0, .int .i64 9] 35)) := (Below.refl _ _).alloc (Nat.le_refl _) _
  generalize w13.alloc (.cells #[.int .i64 1, .string ⟨#[97]⟩, .int .i64 0, .int .i64 9] 35) = w14 at *
  have hz42 := b9.size
  replace T4 := Lib.hid (T4.out.below b9 (by omega))
  replace BW := Lib.hid (BW.out.trans (b9.mono (by have := BW.out.size; omega)))
  clear b9
  generalize w13.heap.size = g9 at *
  refine (lsame_any _ _ S4 S9 w14 (Or.inr ⟨g4, 0, c4, rfl, T4.out, by omega⟩) (Or.inr ⟨g9, 0, 1, rfl, t9, by omega⟩) (by decide)).mono ?_
  rw [same49]
  rintro e w15 ⟨rfl, b15⟩
  replace BW := Lib.hid (BW.out.trans (b15.mono (by have := BW.out.size; omega)))
  clear b15 t9 T4
  go_wp2_with fail
  go_ret
  exact ⟨rfl, BW.out⟩
end Go.Proofs.YtabdpmcdlojliaaDoor
