/- The law LexTextSpec: it returns true. -/
import Derived.Test.YtabdpmcdlojliaaDoorI1
import Derived.Test.YtabdpmcdlojliaaDoorJ4
namespace Go.Proofs.YtabdpmcdlojliaaDoor
open Go.RowKit

set_option maxHeartbeats 2000000 in
set_option maxRecDepth 100000 in
theorem lexTextSpec_many1 (v1 v2 : Value) (xs : List Tok) (s : ByteArray) (w : World) (hE : Env w) (h1 : IsToks w v1 xs) (hn1 : xs.length ≤ 3518437208784) (ht1 : ∀ t ∈ xs, t.text.length ≤ 140737488351232) (hf : fewT xs = false) :
    Calls Tryd.prog 4 #[v1, v2, .string s] w fun e w' => e = .returned (.bool true) ∧ Below w.heap.size w w' := by
  have HE := Lib.hid hE; clear hE
  have H1 := Lib.hid h1; clear h1
  have HT := Lib.hid ht1; clear ht1
  have HF := Lib.hid hf; clear hf
  go_enter Tryd.func4, Tryd.ntmps4
  go_wp2_with fail
  refine (sane_any _ HE.out).mono ?_
  rintro e w1 ⟨rfl, b1⟩
  have BW := Lib.hid b1; clear b1
  go_wp2_with fail
  refine (few_any v1 xs w1 (H1.out.below BW.out (Nat.le_refl _)) hn1 HT.out).mono ?_
  rw [HF.out]
  rintro e w' ⟨rfl, rfl⟩
  go_wp2_with fail
  go_ret
  exact ⟨rfl, BW.out⟩

set_option maxHeartbeats 2000000 in
set_option maxRecDepth 100000 in
theorem lexTextSpec_many2 (v1 v2 : Value) (xs ys : List Tok) (s : ByteArray) (w : World) (hE : Env w) (h1 : IsToks w v1 xs) (hf1 : fewT xs = true) (h2 : IsToks w v2 ys) (hn2 : ys.length ≤ 3518437208784) (ht2 : ∀ t ∈ ys, t.text.length ≤ 140737488351232) (hf : fewT ys = false) :
    Calls Tryd.prog 4 #[v1, v2, .string s] w fun e w' => e = .returned (.bool true) ∧ Below w.heap.size w w' := by
  have HE := Lib.hid hE; clear hE
  have H1 := Lib.hid h1; clear h1
  have H2 := Lib.hid h2; clear h2
  have hfp := few_parts hf1
  have hn := hfp.1
  have ht : ∀ t ∈ xs, t.text.length ≤ 2000 := fun t h => Nat.le_trans (textSum_mem h) hfp.2
  have HT1 := Lib.hid ht; clear ht hfp
  have HT := Lib.hid ht2; clear ht2
  have HF := Lib.hid hf; clear hf
  have HF1 := Lib.hid hf1; clear hf1
  go_enter Tryd.func4, Tryd.ntmps4
  go_wp2_with fail
  refine (sane_any _ HE.out).mono ?_
  rintro e w1 ⟨rfl, b1⟩
  have BW := Lib.hid b1; clear b1
  go_wp2_with fail
  refine (few_any v1 xs w1 (H1.out.below BW.out (Nat.le_refl _)) (by omega) (fun t h => by have := HT1.out t h; omega)).mono ?_
  rw [HF1.out]
  rintro e w' ⟨rfl, rfl⟩
  go_wp2_with fail
  refine (few_any v2 ys w1 (H2.out.below BW.out (Nat.le_refl _)) hn2 HT.out).mono ?_
  rw [HF.out]
  rintro e w' ⟨rfl, rfl⟩
  go_wp2_with fail
  go_ret
  exact ⟨rfl, BW.out⟩

set_option maxHeartbeats 2000000 in
set_option maxRecDepth 100000 in
theorem lexTextSpec_few (v1 v2 : Value) (xs ys : List Tok) (s : ByteArray) (w : World) (hE : Env w) (h1 : IsToks w v1 xs) (hf1 : fewT xs = true) (h2 : IsToks w v2 ys) (hf2 : fewT ys = true) (hs : s.size ≤ 140737488351232) :
    Calls Tryd.prog 4 #[v1, v2, .string s] w fun e w' => e = .returned (.bool true) ∧ Below w.heap.size w w' := by
  have HE := Lib.hid hE; clear hE
  have H1 := Lib.hid h1; clear h1
  have H2 := Lib.hid h2; clear h2
  have hfp := few_parts hf1
  have hn := hfp.1
  have ht : ∀ t ∈ xs, t.text.length ≤ 2000 := fun t h => Nat.le_trans (textSum_mem h) hfp.2
  have HT1 := Lib.hid ht; clear ht hfp
  have hfp := few_parts hf2
  have hn2 := hfp.1
  have ht : ∀ t ∈ ys, t.text.length ≤ 2000 := fun t h => Nat.le_trans (textSum_mem h) hfp.2
  have HT2 := Lib.hid ht; clear ht hfp
  have HF2 := Lib.hid hf2; clear hf2
  have HF1 := Lib.hid hf1; clear hf1
  by_cases hbig : 1000 < s.size
  · go_enter Tryd.func4, Tryd.ntmps4
    go_wp2_with fail
    refine (sane_any _ HE.out).mono ?_
    rintro e w1 ⟨rfl, b1⟩
    have BW := Lib.hid b1; clear b1
    go_wp2_with fail
    refine (few_any v1 xs w1 (H1.out.below BW.out (Nat.le_refl _)) (by omega) (fun t h => by have := HT1.out t h; omega)).mono ?_
    rw [HF1.out]
    rintro e w' ⟨rfl, rfl⟩
    go_wp2_with fail
    refine (few_any v2 ys w1 (H2.out.below BW.out (Nat.le_refl _)) (by omega) (fun t h => by have := HT2.out t h; omega)).mono ?_
    rw [HF2.out]
    rintro e w' ⟨rfl, rfl⟩
    go_wp2_with fail
    go_ret
    exact ⟨rfl, BW.out⟩
  · go_enter Tryd.func4, Tryd.ntmps4
    go_wp2_with fail
    refine (sane_any _ HE.out).mono ?_
    rintro e w1 ⟨rfl, b1⟩
    have hz1 := b1.size
    have BW := Lib.hid b1; clear b1
    go_wp2_with fail
    refine (few_any v1 xs w1 (H1.out.below BW.out (Nat.le_refl _)) (by omega) (fun t h => by have := HT1.out t h; omega)).mono ?_
    rw [HF1.out]
    rintro e w' ⟨rfl, rfl⟩
    go_wp2_with fail
    refine (few_any v2 ys w1 (H2.out.below BW.out (Nat.le_refl _)) (by omega) (fun t h => by have := HT2.out t h; omega)).mono ?_
    rw [HF2.out]
    rintro e w' ⟨rfl, rfl⟩
    go_wp2_with fail
    refine (text_any v1 xs w1 (HE.out.below BW.out) (H1.out.below BW.out (Nat.le_refl _)) (by omega) (fun t h => by have := HT1.out t h; unfold maxLen; omega) (fun h => by have := textL_len h; omega)).mono ?_
    rintro e w2 ⟨e2, b2⟩
    have hz2 := b2.size
    replace BW := Lib.hid (BW.out.trans (b2.mono (by omega)))
    clear b2
    by_cases hval : xs.all validT = true
    · have HVAL := Lib.hid hval; clear hval
      rw [HVAL.out, if_pos rfl] at e2
      subst e2
      go_wp2_with fail
      refine (rtext_any v1 xs w2 (H1.out.below BW.out (Nat.le_refl _)) (by omega) (fun t h => by have := HT1.out t h; unfold maxLen; omega)).mono ?_
      rintro e w3 ⟨e3, b3⟩
      have hz3 := b3.size
      replace BW := Lib.hid (BW.out.trans (b3.mono (by omega)))
      clear b3
      rw [HVAL.out, if_pos rfl] at e3
      subst e3
      go_wp2_with fail
      refine (lsame_any v1 v2 xs ys w3 (H1.out.below BW.out (Nat.le_refl _)) (H2.out.below BW.out (Nat.le_refl _)) (by omega)).mono ?_
      rintro e w4 ⟨rfl, b4⟩
      have hz4 := b4.size
      replace BW := Lib.hid (BW.out.trans (b4.mono (by omega)))
      clear b4
      go_wp2_with fail
      refine (rsame_any v1 v2 xs ys w4 (H1.out.below BW.out (Nat.le_refl _)) (H2.out.below BW.out (Nat.le_refl _)) (by omega)).mono ?_
      rintro e w5 ⟨rfl, nd, rfl⟩
      have hz5 : w4.heap.size ≤ (w4.drewN nd).heap.size := Nat.le_refl _
      replace BW := Lib.hid (below_drewN' nd BW.out)
      generalize w4.drewN nd = w5 at *
      generalize sameT xs ys = bs
      have hbs : (bs == bs) = true := by simp
      go_wp2_with fail
      refine (lsame_any v1 v1 xs xs w5 (H1.out.below BW.out (Nat.le_refl _)) (H1.out.below BW.out (Nat.le_refl _)) (by omega)).mono ?_
      rw [sameT_self]
      rintro e w6 ⟨rfl, b6⟩
      replace BW := Lib.hid (BW.out.trans (b6.mono (by omega)))
      clear b6
      go_wp2_with fail
      refine (lname_any s _ (by unfold maxLen; omega)).mono ?_
      rintro e w' ⟨rfl, rfl⟩
      go_wp2_with fail
      refine (rname_any s _ (by unfold maxLen; omega)).mono ?_
      rintro e w' ⟨rfl, rfl⟩
      generalize nameOk s.data.toList = bn
      have hbn : (bn == bn) = true := by simp
      go_wp2_with fail
      go_ret
      exact ⟨rfl, BW.out⟩
    · have hval' : xs.all validT = false := by simpa using hval
      have HVAL := Lib.hid hval'; clear hval hval'
      rw [HVAL.out, if_neg (by decide)] at e2
      subst e2
      go_wp2_with fail
      refine (rtext_any v1 xs w2 (H1.out.below BW.out (Nat.le_refl _)) (by omega) (fun t h => by have := HT1.out t h; unfold maxLen; omega)).mono ?_
      rintro e w3 ⟨e3, b3⟩
      have hz3 := b3.size
      replace BW := Lib.hid (BW.out.trans (b3.mono (by omega)))
      clear b3
      rw [HVAL.out, if_neg (by decide)] at e3
      subst e3
      go_wp2_with fail
      refine (lsame_any v1 v2 xs ys w3 (H1.out.below BW.out (Nat.le_refl _)) (H2.out.below BW.out (Nat.le_refl _)) (by omega)).mono ?_
      rintro e w4 ⟨rfl, b4⟩
      have hz4 := b4.size
      replace BW := Lib.hid (BW.out.trans (b4.mono (by omega)))
      clear b4
      go_wp2_with fail
      refine (rsame_any v1 v2 xs ys w4 (H1.out.below BW.out (Nat.le_refl _)) (H2.out.below BW.out (Nat.le_refl _)) (by omega)).mono ?_
      rintro e w5 ⟨rfl, nd, rfl⟩
      have hz5 : w4.heap.size ≤ (w4.drewN nd).heap.size := Nat.le_refl _
      replace BW := Lib.hid (below_drewN' nd BW.out)
      generalize w4.drewN nd = w5 at *
      generalize sameT xs ys = bs
      have hbs : (bs == bs) = true := by simp
      go_wp2_with fail
      refine (lsame_any v1 v1 xs xs w5 (H1.out.below BW.out (Nat.le_refl _)) (H1.out.below BW.out (Nat.le_refl _)) (by omega)).mono ?_
      rw [sameT_self]
      rintro e w6 ⟨rfl, b6⟩
      replace BW := Lib.hid (BW.out.trans (b6.mono (by omega)))
      clear b6
      go_wp2_with fail
      refine (lname_any s _ (by unfold maxLen; omega)).mono ?_
      rintro e w' ⟨rfl, rfl⟩
      go_wp2_with fail
      refine (rname_any s _ (by unfold maxLen; omega)).mono ?_
      rintro e w' ⟨rfl, rfl⟩
      generalize nameOk s.data.toList = bn
      have hbn : (bn == bn) = true := by simp
      go_wp2_with fail
      go_ret
      exact ⟨rfl, BW.out⟩

theorem lexTextSpec_any (v1 v2 : Value) (xs ys : List Tok) (s : ByteArray) (w : World) (hE : Env w) (h1 : IsToks w v1 xs) (hn1 : xs.length ≤ 3518437208784) (ht1 : ∀ t ∈ xs, t.text.length ≤ 140737488351232)
    (h2 : IsToks w v2 ys) (hn2 : ys.length ≤ 3518437208784) (ht2 : ∀ t ∈ ys, t.text.length ≤ 140737488351232) (hs : s.size ≤ 140737488351232) :
    Calls Tryd.prog 4 #[v1, v2, .string s] w fun e w' => e = .returned (.bool true) ∧ Below w.heap.size w w' := by
  cases hf1 : fewT xs with
  | false => exact lexTextSpec_many1 v1 v2 xs s w hE h1 hn1 ht1 hf1
  | true =>
    cases hf2 : fewT ys with
    | false => exact lexTextSpec_many2 v1 v2 xs ys s w hE h1 hf1 h2 hn2 ht2 hf2
    | true => exact lexTextSpec_few v1 v2 xs ys s w hE h1 hf1 h2 hf2 hs
end Go.Proofs.YtabdpmcdlojliaaDoor
