/- The walk of the statement: part 5. -/
import Derived.Test.YtpnbpepkoekkoaaYYR15p4
import Derived.Test.YtpnbpepkoekkoaaZ17
import Derived.Test.YtpnbpepkoekkoaaZ14
set_option linter.unusedVariables false
set_option linter.unusedSimpArgs false
section
namespace Go.Proofs.Ytpnbpepkoekkoaa
open Go Go.RowKit
def wordsA : List Nm := [[119, 111, 114, 107], [102, 108, 111, 111, 114], [98, 97, 114, 115], [116, 111, 108, 101, 114, 97, 110, 99, 101], [114, 111, 108, 101], [97, 116], [102, 97, 99, 105, 110, 103], [116, 101, 109, 112, 111], [116, 105, 99, 107, 115], [108, 111, 110, 103, 101, 114], [115, 104, 111, 114, 116, 101, 114], [112, 97, 117, 115, 101], [99, 97, 108, 108, 101, 100], [102, 114, 111, 109], [116, 111], [115, 112, 97, 110], [112, 104, 114, 97, 115, 101], [100, 97, 110, 99, 101], [109, 105, 114, 114, 111, 114], [98, 97, 114], [114, 101, 112, 101, 97, 116], [117, 115, 101], [112, 108, 97, 99, 101]]
def wordsB : List Nm := [[102, 111, 114, 101], [102, 111, 114, 101, 114, 105, 103, 104, 116], [114, 105, 103, 104, 116], [98, 97, 99, 107, 114, 105, 103, 104, 116], [98, 97, 99, 107], [98, 97, 99, 107, 108, 101, 102, 116], [108, 101, 102, 116], [102, 111, 114, 101, 108, 101, 102, 116]]
def wordsC : List Nm := [[108, 111, 119], [109, 105, 100, 100, 108, 101], [104, 105, 103, 104]]
def wordsD : List Nm := [[101, 115, 115, 101, 110, 116, 105, 97, 108], [111, 112, 116, 105, 111, 110, 97, 108], [104, 97, 98, 105, 116]]
def wordsE : List Nm := [[115, 116, 101, 112], [106, 117, 109, 112], [108, 101, 103], [97, 114, 109], [116, 114, 117, 110, 107], [116, 117, 114, 110], [108, 105, 102, 116], [114, 105, 100, 101], [102, 114, 101, 101]]
def refWords : List Nm := wordsA ++ wordsB ++ wordsC ++ wordsD ++ wordsE
def StrP (xs : List Nm) (w : World) (e : Ending) (w' : World) : Prop := ∃ v, e = .returned v ∧ w'.ownsRow w.heap.size 9 1 v xs.length (xs.map sv) ∧ Below w.heap.size w w'
theorem own_lit {w : World} {xs : List Nm} {n : Nat} (hn : xs.length = n) (hm : n ≤ maxLen) : (w.alloc (.cells (xs.map sv).toArray 9)).ownsRow w.heap.size 9 1 (.slice (some ⟨w.heap.size, 0, none⟩) n n) n (xs.map sv) :=
 ⟨by simp [hn], Or.inr ⟨w.heap.size, n, (xs.map sv).toArray, rfl, Nat.le_refl _, heap_alloc_new w _, Nat.le_refl _, hm, by simp [hn], by simpa using List.take_of_length_le (by simp [hn])⟩⟩
set_option maxRecDepth 100000 in
set_option maxHeartbeats 4000000 in
theorem words94 (w : World) : Calls Try.prog 94 #[] w (StrP wordsB w) := by
 have ho := own_lit (w := w) (xs := wordsB) (n := 8) rfl (by unfold maxLen; decide)
 have HO := Lib.hid ho
 have HB := Lib.hid ((Below.refl w.heap.size w).alloc (Nat.le_refl _) (.cells (wordsB.map sv).toArray 9))
 clear ho
 go_enter Try.func94, Try.ntmps94
 go_wp2_with fail
 go_ret
 exact ⟨_, rfl, HO.out, HB.out⟩
set_option maxRecDepth 100000 in
set_option maxHeartbeats 4000000 in
theorem words95 (w : World) : Calls Try.prog 95 #[] w (StrP wordsC w) := by
 have ho := own_lit (w := w) (xs := wordsC) (n := 3) rfl (by unfold maxLen; decide)
 have HO := Lib.hid ho
 have HB := Lib.hid ((Below.refl w.heap.size w).alloc (Nat.le_refl _) (.cells (wordsC.map sv).toArray 9))
 clear ho
 go_enter Try.func95, Try.ntmps95
 go_wp2_with fail
 go_ret
 exact ⟨_, rfl, HO.out, HB.out⟩
set_option maxRecDepth 100000 in
set_option maxHeartbeats 4000000 in
theorem words96 (w : World) : Calls Try.prog 96 #[] w (StrP wordsD w) := by
 have ho := own_lit (w := w) (xs := wordsD) (n := 3) rfl (by unfold maxLen; decide)
 have HO := Lib.hid ho
 have HB := Lib.hid ((Below.refl w.heap.size w).alloc (Nat.le_refl _) (.cells (wordsD.map sv).toArray 9))
 clear ho
 go_enter Try.func96, Try.ntmps96
 go_wp2_with fail
 go_ret
 exact ⟨_, rfl, HO.out, HB.out⟩
set_option maxRecDepth 100000 in
set_option maxHeartbeats 4000000 in
theorem words97 (w : World) : Calls Try.prog 97 #[] w (StrP wordsE w) := by
 have ho := own_lit (w := w) (xs := wordsE) (n := 9) rfl (by unfold maxLen; decide)
 have HO := Lib.hid ho
 have HB := Lib.hid ((Below.refl w.heap.size w).alloc (Nat.le_refl _) (.cells (wordsE.map sv).toArray 9))
 clear ho
 go_enter Try.func97, Try.ntmps97
 go_wp2_with fail
 go_ret
 exact ⟨_, rfl, HO.out, HB.out⟩
theorem info9w : (Try.prog.info? 9).map (fun i => (i.zero, i.size, i.bytes)) = some (some (.string ⟨#[]⟩), 1, 16) := by kernel_rfl
theorem sv_one (xs : List Nm) : ∀ u ∈ xs.map sv, u.oneCell' = true := by
 intro u hu
 obtain ⟨x, _, rfl⟩ := List.mem_map.1 hu
 rfl
theorem str_src {w w' : World} {v : Value} {xs : List Nm} {n : Nat} (hn : xs.length = n) (ho : w'.ownsRow w.heap.size 9 1 v xs.length (xs.map sv)) :
  ∃ ao c, v = .slice ao n c ∧ (ao = none → n = 0) ∧ ∀ ad, ao = some ad → ∀ j u, (xs.map sv)[j]? = some u → w'.cell? (ad.add j) = some u := by
 obtain ⟨ao, c, rfl, _, h0, hf, _, hc⟩ := own_new (by decide) ho
 refine ⟨ao, c, by rw [hn], fun e => by rw [← hn]; exact h0 e, fun ad ha j u hj => ?_⟩
 rcases hf with e | e
 ·rw [e] at ha; cases ha
 ·rw [e] at ha; cases ha
  rw [addr_plain]; exact hc j u hj
set_option maxRecDepth 100000 in
set_option maxHeartbeats 8000000 in
theorem words_any (w : World) : Calls Try.prog 81 #[] w (StrP refWords w) := by
 obtain ⟨i0, hi85, hz0, hz1, hz2⟩ := info_parts info9w
 have ho := own_lit (w := w) (xs := wordsA) (n := 23) rfl (by unfold maxLen; decide)
 have hb1 : Below w.heap.size w (w.alloc (.cells (wordsA.map sv).toArray 9)) := (Below.refl w.heap.size w).alloc (Nat.le_refl _) _
 have HI := Lib.hid (And.intro hi85 (And.intro hz0 (And.intro hz1 hz2)))
 have HO := Lib.hid ho; have HB := Lib.hid hb1
 clear ho hb1 hi85 hz0 hz1 hz2
 go_enter Try.func81, Try.ntmps81
 go_wp2_with (first | (go_at_call 94; refine (words94 _).mono ?_; rintro e w2 ⟨v2, rfl, ho2, hb2⟩; have hsrc := str_src (n := 8) rfl ho2; obtain ⟨ao2, c2, rfl, s1, s2⟩ := hsrc; have HN := Lib.hid (And.intro (show (wordsB.map sv).length = 8 * 1 from rfl) (And.intro s1 (And.intro s2 (sv_one wordsB)))); have HO2 := Lib.hid (own_below HO.out hb2); have HB2 := Lib.hid (HB.out.trans (hb2.mono HB.out.size)); clear ho2 hb2 s1 s2 HO HB; have HO := HO2; have HB := HB2; clear HO2 HB2) | (go_at_call 95; refine (words95 _).mono ?_; rintro e w2 ⟨v2, rfl, ho2, hb2⟩; have hsrc := str_src (n := 3) rfl ho2; obtain ⟨ao2, c2, rfl, s1, s2⟩ := hsrc; have HN := Lib.hid (And.intro (show (wordsC.map sv).length = 3 * 1 from rfl) (And.intro s1 (And.intro s2 (sv_one wordsC)))); have HO2 := Lib.hid (own_below HO.out hb2); have HB2 := Lib.hid (HB.out.trans (hb2.mono HB.out.size)); clear ho2 hb2 s1 s2 HO HB; have HO := HO2; have HB := HB2; clear HO2 HB2) | (go_at_call 96; refine (words96 _).mono ?_; rintro e w2 ⟨v2, rfl, ho2, hb2⟩; have hsrc := str_src (n := 3) rfl ho2; obtain ⟨ao2, c2, rfl, s1, s2⟩ := hsrc; have HN := Lib.hid (And.intro (show (wordsD.map sv).length = 3 * 1 from rfl) (And.intro s1 (And.intro s2 (sv_one wordsD)))); have HO2 := Lib.hid (own_below HO.out hb2); have HB2 := Lib.hid (HB.out.trans (hb2.mono HB.out.size)); clear ho2 hb2 s1 s2 HO HB; have HO := HO2; have HB := HB2; clear HO2 HB2) | (go_at_call 97; refine (words97 _).mono ?_; rintro e w2 ⟨v2, rfl, ho2, hb2⟩; have hsrc := str_src (n := 9) rfl ho2; obtain ⟨ao2, c2, rfl, s1, s2⟩ := hsrc; have HN := Lib.hid (And.intro (show (wordsE.map sv).length = 9 * 1 from rfl) (And.intro s1 (And.intro s2 (sv_one wordsE)))); have HO2 := Lib.hid (own_below HO.out hb2); have HB2 := Lib.hid (HB.out.trans (hb2.mono HB.out.size)); clear ho2 hb2 s1 s2 HO HB; have HO := HO2; have HB := HB2; clear HO2 HB2) | (at_builtin; refine wpList_append_row rfl _ _ 50 rfl w.heap.size 9 i0 _ 1 16 Try.underlying50 HI.out.1 HI.out.2.1 HI.out.2.2.1 HI.out.2.2.2 rfl (by decide) _ _ _ rfl HO.out _ _ _ _ rfl HN.out.1 HN.out.2.1 HN.out.2.2.1 HN.out.2.2.2 (by unfold maxLen; omega) (by omega) HB.out.size ?_; intro v9 w9 ho9 hg9 ha9; have HO9 := Lib.hid ho9; have HB9 := Lib.hid (HB.out.grown hg9 HB.out.size (fun k hk => (HO.out.lt k hk).1)); clear ho9 hg9 ha9 HO HB HN; have HO := HO9; have HB := HB9; clear HO9 HB9))
 go_ret
 refine ⟨_, rfl, ?_, HB.out⟩
 rw [show refWords.length = 46 from rfl, show refWords.map sv = wordsA.map sv ++ wordsB.map sv ++ wordsC.map sv ++ wordsD.map sv ++ wordsE.map sv by unfold refWords; simp only [List.map_append]]
 exact HO.out
theorem str_row {w w' : World} {v : Value} {xs : List Nm} {n : Nat} (hn : xs.length = n) (h0 : 0 < n) (ho : w'.ownsRow w.heap.size 9 1 v xs.length (xs.map sv)) :
  ∃ g c, v = .slice (some ⟨g, 0, none⟩) n c ∧ ∀ j nm, xs[j]? = some nm → w'.cell? ⟨g, j, none⟩ = some (sv nm) := by
 obtain ⟨ao, c, rfl, hf, _, _, _, hc⟩ := own_new (by decide) ho
 obtain ⟨e, _, _⟩ := hf.resolve_left (by omega)
 refine ⟨blk ao, c, by rw [hn, ← e], fun j nm hj => ?_⟩
 have := hc j (sv nm) (by rw [List.getElem?_map, hj]; rfl)
 rwa [Nat.zero_add] at this
set_option maxHeartbeats 4000000 in
theorem word56 (s : Nm) (w : World) : Calls Try.prog 56 #[sv s] w fun e w' => e = .returned (.bool (decide (s ∈ refWords))) ∧ Below w.heap.size w w' := by
 have HC := Lib.hid (words_any w)
 unfold StrP at HC
 go_enter Try.func56, Try.ntmps56
 go_wp2_with (first | (go_at_call 81; refine HC.out.mono ?_; rintro e w2 ⟨v2, rfl, ho2, hb2⟩; obtain ⟨g, c, rfl, hrow⟩ := str_row (n := 46) rfl (by decide) ho2; have HB := Lib.hid hb2; have HR := Lib.hid hrow; clear ho2 hb2 hrow) | (go_at_call 80; refine (index80 refWords _ 46 _ _ _ HR.out rfl (by unfold maxLen; decide)).mono ?_; rintro e w3 ⟨⟨k, rfl, hk⟩, rfl⟩; have HK := Lib.hid hk; clear hk))
 go_ret
 refine ⟨ret_bool ?_, HB.out⟩
 rw [Bool.eq_iff_iff, decide_eq_true_eq, decide_eq_true_eq]
 exact HK.out
set_option maxHeartbeats 4000000 in
theorem name23 (s : Nm) (w : World) (hs : s.length ≤ maxLen) : Calls Try.prog 23 #[sv s] w fun e w' => e = .returned (.bool (nameOk s && !decide (s ∈ refWords))) ∧ Below w.heap.size w w' := by
 have C : Calls Try.prog 55 #[sv s] w fun e w' => e = .returned (.bool (nameOk s)) ∧ w = w' := rname_any ⟨s.toArray⟩ w hs
 have HC := Lib.hid C
 have HC2 := Lib.hid (word56 s w)
 clear C
 generalize nameOk s = b at *
 generalize decide (s ∈ refWords) = d at *
 go_enter Try.func23, Try.ntmps23
 cases b with
 | true =>
  go_wp2_with (first | (go_at_call 55; refine HC.out.mono ?_; rintro e w2 ⟨rfl, rfl⟩) | (go_at_call 56; refine HC2.out.mono ?_; rintro e w3 ⟨rfl, hb⟩; have HB := Lib.hid hb; clear hb))
  go_ret
  exact ⟨by simp, HB.out⟩
 | false =>
  go_wp2_with (first | (go_at_call 55; refine HC.out.mono ?_; rintro e w2 ⟨rfl, rfl⟩))
  go_ret
  exact ⟨by simp, Below.refl _ _⟩
theorem pre_token : ∀ (s r : Nm), (∀ c ∈ s, c ≠ 32) → (s ++ [32]) <+: r → r.takeWhile (fun c => c != 32) = s
 | [], r, _, ⟨t, h⟩ => by
  rw [← h]; rfl
 | c :: s, r, hc, ⟨t, h⟩ => by
  rw [← h, List.cons_append, List.cons_append, List.takeWhile_cons_of_pos (by simpa using hc c (by simp))]
  rw [pre_token s ((s ++ [32]) ++ t) (fun x hx => hc x (by simp [hx])) ⟨t, rfl⟩]
theorem words_tokens : (List.range words.length).all (fun p => words.getD p 0 != 32 || ((words.drop (p + 1)).takeWhile (fun c => c != 32) == [] || refWords.contains ((words.drop (p + 1)).takeWhile (fun c => c != 32)))) = true := by kernel_rfl
end Go.Proofs.Ytpnbpepkoekkoaa
end
section
namespace Go.Proofs.Ytpnbpepkoekkoaa
open Go Go.RowKit
theorem nameB_of {s : Nm} (h1 : nameOk s = true) (h2 : s ∉ refWords) : nameB s = true := by
 unfold nameB
 rw [h1]
 cases hc : Lib.contains words (32 :: (s ++ [32])) with
 | false => rfl
 | true =>
  exfalso
  unfold Lib.contains at hc
  have hc := of_decide_eq_true hc
  rcases Lib.index_spec words (32 :: (s ++ [32])) with ⟨h, _⟩ | ⟨i, _, hi, ho, _⟩
  ·omega
  ·unfold Lib.occAt at ho
   obtain ⟨t, ht⟩ := List.isPrefixOf_iff_prefix.1 ho
   have hlt : i < words.length := by
    rcases Nat.lt_or_ge i words.length with h | h
    ·exact h
    ·rw [List.drop_of_length_le h] at ht; simp at ht
   have hdrop := List.drop_eq_getElem_cons hlt
   rw [hdrop, List.cons_append] at ht
   injection ht with e1 e2
   have hw : words.getD i 0 = 32 := by rw [List.getD_eq_getElem?_getD, List.getElem?_eq_getElem hlt]; exact e1.symm
   have hs32 : ∀ c ∈ s, c ≠ 32 := fun c hc e => by
    subst e
    unfold nameOk at h1
    simp only [Bool.and_eq_true] at h1
    have := List.all_eq_true.1 h1.2 32 hc
    revert this
    decide
   have htok := pre_token s (words.drop (i + 1)) hs32 ⟨t, e2⟩
   have hall := List.all_eq_true.1 words_tokens i (List.mem_range.2 hlt)
   rw [htok, hw] at hall
   rcases (by simpa using hall : s = [] ∨ s ∈ refWords) with e | e
   ·rw [e] at h1; cases h1
   ·exact h2 e
end Go.Proofs.Ytpnbpepkoekkoaa
end
