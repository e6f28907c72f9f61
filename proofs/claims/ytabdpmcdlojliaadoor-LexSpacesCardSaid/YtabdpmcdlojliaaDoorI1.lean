/- The law LexBack: it returns true. -/
import Derived.Test.YtabdpmcdlojliaaDoorH1
import Derived.Test.YtabdpmcdlojliaaDoorP7
import Derived.Test.YtabdpmcdlojliaaDoorE3
namespace Go.Proofs.YtabdpmcdlojliaaDoor
open Go.RowKit

/-- The second half of the law: of the source. -/
theorem few_parts {ts : List Tok} (h : fewT ts = true) : ts.length ≤ 200 ∧ textSum ts ≤ 2000 := by
  unfold fewT at h; simpa using h
theorem textSum_mem {ts : List Tok} {t : Tok} (h : t ∈ ts) : t.text.length ≤ textSum ts := by
  induction ts with
  | nil => cases h
  | cons u r ih =>
    unfold textSum
    rcases List.mem_cons.1 h with rfl | h
    · simp
    · have := ih h; unfold textSum at this; simp; omega

set_option maxHeartbeats 2000000 in
set_option maxRecDepth 100000 in
theorem lexBack_many (v : Value) (ts : List Tok) (s : ByteArray) (w : World) (hE : Env w) (hv : IsToks w v ts) (hn : ts.length ≤ 3518437208784) (ht : ∀ t ∈ ts, t.text.length ≤ 140737488351232) (hs : s.size ≤ 140737488351232)
    (hbig : fewT ts = false ∨ 3000 < s.size) :
    Calls Tryd.prog 5 #[v, .string s] w fun e w' => e = .returned (.bool true) ∧ Below w.heap.size w w' := by
  have HE := Lib.hid hE; clear hE
  have HV := Lib.hid hv; clear hv
  have HT := Lib.hid ht; clear ht
  cases hf : fewT ts with
  | false =>
    have HF := Lib.hid hf; clear hf hbig
    go_enter Tryd.func5, Tryd.ntmps5
    go_wp2_with fail
    refine (sane_any _ HE.out).mono ?_
    rintro e w1 ⟨rfl, b1⟩
    have BW := Lib.hid b1; clear b1
    go_wp2_with fail
    refine (few_any v ts w1 (HV.out.below BW.out (Nat.le_refl _)) hn HT.out).mono ?_
    rw [HF.out]
    rintro e w' ⟨rfl, rfl⟩
    go_wp2_with fail
    go_ret
    exact ⟨rfl, BW.out⟩
  | true =>
    have hb : 3000 < s.size := by
      rcases hbig with h | h
      · rw [hf] at h; cases h
      · exact h
    have HF := Lib.hid hf; clear hf hbig
    go_enter Tryd.func5, Tryd.ntmps5
    go_wp2_with fail
    refine (sane_any _ HE.out).mono ?_
    rintro e w1 ⟨rfl, b1⟩
    have BW := Lib.hid b1; clear b1
    go_wp2_with fail
    refine (few_any v ts w1 (HV.out.below BW.out (Nat.le_refl _)) hn HT.out).mono ?_
    rw [HF.out]
    rintro e w' ⟨rfl, rfl⟩
    go_wp2_with fail
    go_ret
    exact ⟨rfl, BW.out⟩

set_option maxHeartbeats 2000000 in
set_option maxRecDepth 100000 in
theorem lexBack_yesOk (v : Value) (ts : List Tok) (s : ByteArray) (w : World) (hE : Env w) (hv : IsToks w v ts) (hf : fewT ts = true) (hs : s.size ≤ 3000)
    (hval : ts.all validT = true) (xs : List Tok) (hl : lexAt 0 s.data.toList = .ok xs) :
    Calls Tryd.prog 5 #[v, .string s] w fun e w' => e = .returned (.bool true) ∧ Below w.heap.size w w' := by
  have HE := Lib.hid hE; clear hE
  have HV := Lib.hid hv; clear hv
  have hfp := few_parts hf
  have hn := hfp.1
  have ht : ∀ t ∈ ts, t.text.length ≤ 2000 := fun t h => Nat.le_trans (textSum_mem h) hfp.2
  have HT := Lib.hid ht; clear ht hfp
  have HF := Lib.hid hf; clear hf
  have HVAL := Lib.hid hval; clear hval
  have HL := Lib.hid hl; clear hl
  go_enter Tryd.func5, Tryd.ntmps5
  go_wp2_with fail
  refine (sane_any _ HE.out).mono ?_
  rintro e w1 ⟨rfl, b1⟩
  have hz1 := b1.size
  have BW := Lib.hid b1; clear b1
  go_wp2_with fail
  refine (few_any v ts w1 (HV.out.below BW.out (Nat.le_refl _)) (by omega) (fun t h => by have := HT.out t h; omega)).mono ?_
  rw [HF.out]
  rintro e w' ⟨rfl, rfl⟩
  go_wp2_with fail
  refine (text_any v ts w1 (HE.out.below BW.out) (HV.out.below BW.out (Nat.le_refl _)) (by omega) (fun t h => by have := HT.out t h; unfold maxLen; omega) (fun h => by have := textL_len h; omega)).mono ?_
  rintro e w2 ⟨h2, b2⟩
  have hz2 := b2.size
  replace BW := Lib.hid (BW.out.trans (b2.mono (by omega)))
  clear b2
  rw [HVAL.out, if_pos rfl] at h2
  subst h2
  obtain ⟨us, hu, hsame⟩ := text_lex ts 0 HVAL.out
  have HU := Lib.hid hu; have HSAME := Lib.hid hsame; clear hu hsame
  have htl : (⟨(textL ts).toArray⟩ : ByteArray).size ≤ 6600 := by
    have := textL_len HVAL.out
    show (textL ts).toArray.size ≤ 6600
    simp; omega
  go_wp2_with fail
  refine (lex_ok _ us w2 (HE.out.below BW.out) (by omega) HU.out).mono ?_
  rintro e w3 ⟨vm, rfl, om, b3⟩
  have hz3 := b3.size
  replace BW := Lib.hid (BW.out.trans (b3.mono (by omega)))
  clear b3
  have OM := Lib.hid (isToks_own om); clear om
  go_wp2_with fail
  refine (lsame_any v vm ts us w3 (HV.out.below BW.out (Nat.le_refl _)) OM.out (by omega)).mono ?_
  rw [HSAME.out]
  rintro e w4 ⟨rfl, b4⟩
  have hz4 := b4.size
  replace BW := Lib.hid (BW.out.trans (b4.mono (by omega)))
  clear b4 OM
  go_wp2_with fail
  refine (lex_ok s xs w4 (HE.out.below BW.out) (by omega) HL.out).mono ?_
  rintro e w5 ⟨vx, rfl, ox, b5⟩
  have hz5 := b5.size
  replace BW := Lib.hid (BW.out.trans (b5.mono (by omega)))
  clear b5
  have OX := Lib.hid (isToks_own ox); clear ox
  have xlen := lexAt_len 0 _ _ HL.out
  have xval := Lib.hid (lexAt_valid 0 _ _ HL.out)
  have xtext := lexAt_text_len 0 _ _ HL.out
  have xwords := lexAt_words 0 _ _ HL.out
  rw [list_size] at xlen xtext xwords
  have XT := Lib.hid xtext; clear xtext
  have xtl := textL_words xs
  have htl2 : (⟨(textL xs).toArray⟩ : ByteArray).size ≤ 6000 := by
    show (textL xs).toArray.size ≤ 6000
    simp; omega
  have htl3 : (textL xs).length ≤ 6000 := by omega
  go_wp2_with fail
  refine (text_any vx xs w5 (HE.out.below BW.out) OX.out (by omega) (fun t h => by have := XT.out t h; unfold maxLen; omega) (fun h => by omega)).mono ?_
  rintro e w6 ⟨h6, b6⟩
  have hz6 := b6.size
  replace BW := Lib.hid (BW.out.trans (b6.mono (by omega)))
  replace OX := Lib.hid (OX.out.below b6 (Nat.le_refl _))
  clear b6
  rw [xval.out, if_pos rfl] at h6
  subst h6
  obtain ⟨ys, hy, hsame2⟩ := text_lex xs 0 xval.out
  have HY := Lib.hid hy; have HSAME2 := Lib.hid hsame2; clear hy hsame2
  go_wp2_with fail
  refine (lex_ok _ ys w6 (HE.out.below BW.out) (by omega) HY.out).mono ?_
  rintro e w7 ⟨vy, rfl, oy, b7⟩
  have hz7 := b7.size
  replace BW := Lib.hid (BW.out.trans (b7.mono (by omega)))
  replace OX := Lib.hid (OX.out.below b7 (Nat.le_refl _))
  clear b7
  have OY := Lib.hid (isToks_own oy); clear oy
  go_wp2_with fail
  refine (lsame_any vx vy xs ys w7 OX.out OY.out (by omega)).mono ?_
  rw [HSAME2.out]
  rintro e w8 ⟨rfl, b8⟩
  replace BW := Lib.hid (BW.out.trans (b8.mono (by omega)))
  clear b8 OX OY
  go_wp2_with fail
  go_ret
  exact ⟨rfl, BW.out⟩

set_option maxHeartbeats 2000000 in
set_option maxRecDepth 100000 in
theorem lexBack_yesErr (v : Value) (ts : List Tok) (s : ByteArray) (w : World) (hE : Env w) (hv : IsToks w v ts) (hf : fewT ts = true) (hs : s.size ≤ 3000)
    (hval : ts.all validT = true) (p : Nat) (hl : lexAt 0 s.data.toList = .error p) :
    Calls Tryd.prog 5 #[v, .string s] w fun e w' => e = .returned (.bool true) ∧ Below w.heap.size w w' := by
  have HE := Lib.hid hE; clear hE
  have HV := Lib.hid hv; clear hv
  have hfp := few_parts hf
  have hn := hfp.1
  have ht : ∀ t ∈ ts, t.text.length ≤ 2000 := fun t h => Nat.le_trans (textSum_mem h) hfp.2
  have HT := Lib.hid ht; clear ht hfp
  have HF := Lib.hid hf; clear hf
  have HVAL := Lib.hid hval; clear hval
  have HL := Lib.hid hl; clear hl
  go_enter Tryd.func5, Tryd.ntmps5
  go_wp2_with fail
  refine (sane_any _ HE.out).mono ?_
  rintro e w1 ⟨rfl, b1⟩
  have hz1 := b1.size
  have BW := Lib.hid b1; clear b1
  go_wp2_with fail
  refine (few_any v ts w1 (HV.out.below BW.out (Nat.le_refl _)) (by omega) (fun t h => by have := HT.out t h; omega)).mono ?_
  rw [HF.out]
  rintro e w' ⟨rfl, rfl⟩
  go_wp2_with fail
  refine (text_any v ts w1 (HE.out.below BW.out) (HV.out.below BW.out (Nat.le_refl _)) (by omega) (fun t h => by have := HT.out t h; unfold maxLen; omega) (fun h => by have := textL_len h; omega)).mono ?_
  rintro e w2 ⟨h2, b2⟩
  have hz2 := b2.size
  replace BW := Lib.hid (BW.out.trans (b2.mono (by omega)))
  clear b2
  rw [HVAL.out, if_pos rfl] at h2
  subst h2
  obtain ⟨us, hu, hsame⟩ := text_lex ts 0 HVAL.out
  have HU := Lib.hid hu; have HSAME := Lib.hid hsame; clear hu hsame
  have htl : (⟨(textL ts).toArray⟩ : ByteArray).size ≤ 6600 := by
    have := textL_len HVAL.out
    show (textL ts).toArray.size ≤ 6600
    simp; omega
  go_wp2_with fail
  refine (lex_ok _ us w2 (HE.out.below BW.out) (by omega) HU.out).mono ?_
  rintro e w3 ⟨vm, rfl, om, b3⟩
  have hz3 := b3.size
  replace BW := Lib.hid (BW.out.trans (b3.mono (by omega)))
  clear b3
  have OM := Lib.hid (isToks_own om); clear om
  go_wp2_with fail
  refine (lsame_any v vm ts us w3 (HV.out.below BW.out (Nat.le_refl _)) OM.out (by omega)).mono ?_
  rw [HSAME.out]
  rintro e w4 ⟨rfl, b4⟩
  have hz4 := b4.size
  replace BW := Lib.hid (BW.out.trans (b4.mono (by omega)))
  clear b4 OM
  go_wp2_with fail
  refine (lex_err s p w4 (HE.out.below BW.out) (by omega) HL.out).mono ?_
  rintro e w5 ⟨rfl, b5⟩
  replace BW := Lib.hid (BW.out.trans (b5.mono (by omega)))
  go_wp2_with fail
  go_ret
  exact ⟨rfl, BW.out⟩

set_option maxHeartbeats 2000000 in
set_option maxRecDepth 100000 in
theorem lexBack_noOk (v : Value) (ts : List Tok) (s : ByteArray) (w : World) (hE : Env w) (hv : IsToks w v ts) (hf : fewT ts = true) (hs : s.size ≤ 3000)
    (hval : ts.all validT = false) (xs : List Tok) (hl : lexAt 0 s.data.toList = .ok xs) :
    Calls Tryd.prog 5 #[v, .string s] w fun e w' => e = .returned (.bool true) ∧ Below w.heap.size w w' := by
  have HE := Lib.hid hE; clear hE
  have HV := Lib.hid hv; clear hv
  have hfp := few_parts hf
  have hn := hfp.1
  have ht : ∀ t ∈ ts, t.text.length ≤ 2000 := fun t h => Nat.le_trans (textSum_mem h) hfp.2
  have HT := Lib.hid ht; clear ht hfp
  have HF := Lib.hid hf; clear hf
  have HVAL := Lib.hid hval; clear hval
  have HL := Lib.hid hl; clear hl
  go_enter Tryd.func5, Tryd.ntmps5
  go_wp2_with fail
  refine (sane_any _ HE.out).mono ?_
  rintro e w1 ⟨rfl, b1⟩
  have hz1 := b1.size
  have BW := Lib.hid b1; clear b1
  go_wp2_with fail
  refine (few_any v ts w1 (HV.out.below BW.out (Nat.le_refl _)) (by omega) (fun t h => by have := HT.out t h; omega)).mono ?_
  rw [HF.out]
  rintro e w' ⟨rfl, rfl⟩
  go_wp2_with fail
  refine (text_any v ts w1 (HE.out.below BW.out) (HV.out.below BW.out (Nat.le_refl _)) (by omega) (fun t h => by have := HT.out t h; unfold maxLen; omega) (fun h => by have := textL_len h; omega)).mono ?_
  rintro e w2 ⟨h2, b2⟩
  have hz2 := b2.size
  replace BW := Lib.hid (BW.out.trans (b2.mono (by omega)))
  clear b2
  rw [HVAL.out, if_neg (by decide)] at h2
  subst h2
  have hz3 := Nat.le_refl w2.heap.size
  have hz4 := Nat.le_refl w2.heap.size
  generalize w2 = w4 at *
  go_wp2_with fail
  refine (lex_ok s xs w4 (HE.out.below BW.out) (by omega) HL.out).mono ?_
  rintro e w5 ⟨vx, rfl, ox, b5⟩
  have hz5 := b5.size
  replace BW := Lib.hid (BW.out.trans (b5.mono (by omega)))
  clear b5
  have OX := Lib.hid (isToks_own ox); clear ox
  have xlen := lexAt_len 0 _ _ HL.out
  have xval := Lib.hid (lexAt_valid 0 _ _ HL.out)
  have xtext := lexAt_text_len 0 _ _ HL.out
  have xwords := lexAt_words 0 _ _ HL.out
  rw [list_size] at xlen xtext xwords
  have XT := Lib.hid xtext; clear xtext
  have xtl := textL_words xs
  have htl2 : (⟨(textL xs).toArray⟩ : ByteArray).size ≤ 6000 := by
    show (textL xs).toArray.size ≤ 6000
    simp; omega
  have htl3 : (textL xs).length ≤ 6000 := by omega
  go_wp2_with fail
  refine (text_any vx xs w5 (HE.out.below BW.out) OX.out (by omega) (fun t h => by have := XT.out t h; unfold maxLen; omega) (fun h => by omega)).mono ?_
  rintro e w6 ⟨h6, b6⟩
  have hz6 := b6.size
  replace BW := Lib.hid (BW.out.trans (b6.mono (by omega)))
  replace OX := Lib.hid (OX.out.below b6 (Nat.le_refl _))
  clear b6
  rw [xval.out, if_pos rfl] at h6
  subst h6
  obtain ⟨ys, hy, hsame2⟩ := text_lex xs 0 xval.out
  have HY := Lib.hid hy; have HSAME2 := Lib.hid hsame2; clear hy hsame2
  go_wp2_with fail
  refine (lex_ok _ ys w6 (HE.out.below BW.out) (by omega) HY.out).mono ?_
  rintro e w7 ⟨vy, rfl, oy, b7⟩
  have hz7 := b7.size
  replace BW := Lib.hid (BW.out.trans (b7.mono (by omega)))
  replace OX := Lib.hid (OX.out.below b7 (Nat.le_refl _))
  clear b7
  have OY := Lib.hid (isToks_own oy); clear oy
  go_wp2_with fail
  refine (lsame_any vx vy xs ys w7 OX.out OY.out (by omega)).mono ?_
  rw [HSAME2.out]
  rintro e w8 ⟨rfl, b8⟩
  replace BW := Lib.hid (BW.out.trans (b8.mono (by omega)))
  clear b8 OX OY
  go_wp2_with fail
  go_ret
  exact ⟨rfl, BW.out⟩

set_option maxHeartbeats 2000000 in
set_option maxRecDepth 100000 in
theorem lexBack_noErr (v : Value) (ts : List Tok) (s : ByteArray) (w : World) (hE : Env w) (hv : IsToks w v ts) (hf : fewT ts = true) (hs : s.size ≤ 3000)
    (hval : ts.all validT = false) (p : Nat) (hl : lexAt 0 s.data.toList = .error p) :
    Calls Tryd.prog 5 #[v, .string s] w fun e w' => e = .returned (.bool true) ∧ Below w.heap.size w w' := by
  have HE := Lib.hid hE; clear hE
  have HV := Lib.hid hv; clear hv
  have hfp := few_parts hf
  have hn := hfp.1
  have ht : ∀ t ∈ ts, t.text.length ≤ 2000 := fun t h => Nat.le_trans (textSum_mem h) hfp.2
  have HT := Lib.hid ht; clear ht hfp
  have HF := Lib.hid hf; clear hf
  have HVAL := Lib.hid hval; clear hval
  have HL := Lib.hid hl; clear hl
  go_enter Tryd.func5, Tryd.ntmps5
  go_wp2_with fail
  refine (sane_any _ HE.out).mono ?_
  rintro e w1 ⟨rfl, b1⟩
  have hz1 := b1.size
  have BW := Lib.hid b1; clear b1
  go_wp2_with fail
  refine (few_any v ts w1 (HV.out.below BW.out (Nat.le_refl _)) (by omega) (fun t h => by have := HT.out t h; omega)).mono ?_
  rw [HF.out]
  rintro e w' ⟨rfl, rfl⟩
  go_wp2_with fail
  refine (text_any v ts w1 (HE.out.below BW.out) (HV.out.below BW.out (Nat.le_refl _)) (by omega) (fun t h => by have := HT.out t h; unfold maxLen; omega) (fun h => by have := textL_len h; omega)).mono ?_
  rintro e w2 ⟨h2, b2⟩
  have hz2 := b2.size
  replace BW := Lib.hid (BW.out.trans (b2.mono (by omega)))
  clear b2
  rw [HVAL.out, if_neg (by decide)] at h2
  subst h2
  have hz3 := Nat.le_refl w2.heap.size
  have hz4 := Nat.le_refl w2.heap.size
  generalize w2 = w4 at *
  go_wp2_with fail
  refine (lex_err s p w4 (HE.out.below BW.out) (by omega) HL.out).mono ?_
  rintro e w5 ⟨rfl, b5⟩
  replace BW := Lib.hid (BW.out.trans (b5.mono (by omega)))
  go_wp2_with fail
  go_ret
  exact ⟨rfl, BW.out⟩

theorem lexBack_any (v : Value) (ts : List Tok) (s : ByteArray) (w : World) (hE : Env w) (hv : IsToks w v ts) (hn : ts.length ≤ 3518437208784) (ht : ∀ t ∈ ts, t.text.length ≤ 140737488351232) (hs : s.size ≤ 140737488351232) :
    Calls Tryd.prog 5 #[v, .string s] w fun e w' => e = .returned (.bool true) ∧ Below w.heap.size w w' := by
  cases hf : fewT ts with
  | false => exact lexBack_many v ts s w hE hv hn ht hs (Or.inl hf)
  | true =>
    by_cases hb : 3000 < s.size
    · exact lexBack_many v ts s w hE hv hn ht hs (Or.inr hb)
    cases hval : ts.all validT <;> cases hl : lexAt 0 s.data.toList
    · exact lexBack_noErr v ts s w hE hv hf (by omega) hval _ hl
    · exact lexBack_noOk v ts s w hE hv hf (by omega) hval _ hl
    · exact lexBack_yesErr v ts s w hE hv hf (by omega) hval _ hl
    · exact lexBack_yesOk v ts s w hE hv hf (by omega) hval _ hl
end Go.Proofs.YtabdpmcdlojliaaDoor
