/- Plain laws: the word of a token is lexed to this token; the text of tokens has the same tokens. -/
import Derived.Test.YtabdpmcdlojliaaDoorB5
import Derived.Test.YtabdpmcdlojliaaDoorP6
namespace Go.Proofs.YtabdpmcdlojliaaDoor

def atPos (t : Tok) (pos : Nat) : Tok := ⟨t.kind, t.text, t.num, pos⟩

/-- A token's word stands where it was found. -/
theorem step_word {pos : Nat} {c : UInt8} {r : List UInt8} {k : Nat} {t : Tok} (h : stepL pos c (c :: r) = .tok k t) : wordT t = (c :: r).take k ∧ t.pos = pos := by
  rcases stepL_tok h with ⟨hl, rfl, h32, rfl⟩ | ⟨hd, rfl, hok, rfl⟩ | ⟨hs, rfl, h47, rfl⟩
  · exact ⟨by unfold wordT; rw [if_neg (by show ¬ (1 : Int) = 2; decide)], rfl⟩
  · refine ⟨?_, rfl⟩
    unfold wordT; rw [if_pos rfl]
    have hne : (c :: r).take (runLen isDigit (c :: r)) ≠ [] := by rw [runLen_cons_pos hd]; simp
    exact (itoa_iff hne (all_run isDigit _)).2 ((numOk_iff _).1 hok).1
  · exact ⟨by unfold wordT; rw [if_neg (by show ¬ (3 : Int) = 2; decide)]; simp, rfl⟩

theorem wordT_ne {t : Tok} (h : validT t = true) : ∃ x r, wordT t = x :: r ∧ ¬ (x :: r).take 2 = [47, 47] ∧ ∀ pos, stepL pos x (x :: r) = .tok (x :: r).length (atPos t pos) := by
  obtain ⟨kd, tx, nm, ps⟩ := t
  unfold validT at h
  by_cases h1 : kd = 1
  · subst h1
    rw [if_pos rfl, Bool.and_eq_true] at h
    obtain ⟨hn, hz⟩ := h
    have hz' : nm = 0 := by simpa using hz
    subst hz'
    obtain ⟨c, r, hcr, hc, hl, ha⟩ := nameOk_parts hn
    have hcr' : tx = c :: r := hcr
    subst hcr'
    refine ⟨c, r, by unfold wordT; rw [if_neg (by show ¬ (1 : Int) = 2; decide)], ?_, ?_⟩
    · intro e
      have := cl_sign_47 rfl e; subst this
      revert hc; decide
    · intro pos
      have hr := runLen_all ha
      unfold stepL
      rw [if_neg (by simp [isSpace_not_letter hc]), if_pos hc, hr, if_pos hl, List.take_length]; rfl
  rw [if_neg h1] at h
  by_cases h2 : kd = 2
  · subst h2
    rw [if_pos rfl] at h
    simp only [Bool.and_eq_true, decide_eq_true_eq] at h
    obtain ⟨⟨hx, h0⟩, hm⟩ := h
    subst hx
    obtain ⟨u, rfl⟩ := Int.eq_ofNat_of_zero_le h0
    have hw : wordT ⟨2, [], (u : Int), ps⟩ = Lib.decDigits u := by unfold wordT; rw [if_pos rfl]; exact Lib.itoa_nonneg u
    have hd := decDigits_all u
    have hl := decDigits_lead u
    have hv := value_decDigits u
    rw [hw]
    cases hdd : Lib.decDigits u with
    | nil => exact absurd hdd (decDigits_ne u)
    | cons x r =>
      rw [hdd] at hd hl hv
      have hx : isDigit x = true := by rw [List.all_cons, Bool.and_eq_true] at hd; exact hd.1
      refine ⟨x, r, rfl, ?_, ?_⟩
      · intro e
        have := cl_sign_47 rfl e; subst this
        revert hx; decide
      · intro pos
        have hr := runLen_all hd
        unfold stepL
        rw [if_neg (by simp [(isDigit_not hx).1]), if_neg (by simp [(isDigit_not hx).2]), if_pos hx, hr, List.take_length, if_pos ((numOk_iff _).2 ⟨hl, by rw [hv]; omega⟩), hv]; rfl
  rw [if_neg h2] at h
  by_cases h3 : kd = 3
  · subst h3
    rw [if_pos rfl, Bool.and_eq_true] at h
    obtain ⟨hx, hz⟩ := h
    have hz' : nm = 0 := by simpa using hz
    subst hz'
    cases tx with
    | nil => cases hx
    | cons c r =>
      cases r with
      | cons d s => cases hx
      | nil =>
        have hs : isSign c = true := hx
        refine ⟨c, [], by unfold wordT; rw [if_neg (by show ¬ (3 : Int) = 2; decide)], by simp, ?_⟩
        intro pos
        unfold stepL
        rw [if_neg (by simp [(isSign_not hs).1]), if_neg (by simp [(isSign_not hs).2.1]), if_neg (by simp [(isSign_not hs).2.2]), if_pos hs, if_neg (by simp)]; rfl
  rw [if_neg h3] at h; cases h

theorem word_lex {t : Tok} (h : validT t = true) (pos : Nat) (rest : List UInt8) (hr : rest = [] ∨ ∃ c m, rest = c :: m ∧ isSpace c = true) :
    lexAt pos (wordT t ++ rest) = consT (atPos t pos) (lexAt (pos + (wordT t).length) rest) := by
  obtain ⟨x, r, hw, h47, hst⟩ := wordT_ne h
  rw [hw]
  have hstep : stepL pos x (x :: r ++ rest) = .tok (x :: r).length (atPos t pos) := by
    rcases hr with rfl | ⟨c, m, rfl, hc⟩
    · rw [List.append_nil]; exact hst pos
    · rw [step_app hc (Or.inr (Or.inl h47))]; exact hst pos
  rw [List.cons_append, lexAt_tok (by rw [← List.cons_append]; exact hstep), ← List.cons_append, List.drop_left]

theorem lexAt_space1 {c : UInt8} (hc : isSpace c = true) (pos : Nat) (m : List UInt8) : lexAt pos (c :: m) = lexAt (pos + 1) m :=
  lexAt_skip (by unfold stepL; rw [if_pos hc])

theorem eqT_atPos (t : Tok) (pos : Nat) : eqT t (atPos t pos) = true := by unfold eqT atPos; simp

/-- The text of valid tokens has the same tokens. -/
theorem text_lex : ∀ (ts : List Tok) (pos : Nat), ts.all validT = true → ∃ us, lexAt pos (textL ts) = .ok us ∧ sameT ts us = true
  | [], pos, _ => ⟨[], rfl, rfl⟩
  | [t], pos, h => by
    have hv : validT t = true := by simpa using h
    have := word_lex hv pos [] (Or.inl rfl)
    rw [List.append_nil, lexAt_nil] at this
    refine ⟨[atPos t pos], ?_, ?_⟩
    · unfold textL; rw [List.map_cons, List.map_nil, Lib.join_one]; exact this
    · unfold sameT; rw [eqT_atPos]; rfl
  | t :: u :: r, pos, h => by
    rw [List.all_cons, Bool.and_eq_true] at h
    have e : textL (t :: u :: r) = wordT t ++ 32 :: textL (u :: r) := by unfold textL; simp [Lib.join, List.intercalate]
    obtain ⟨us, hu, hs⟩ := text_lex (u :: r) (pos + (wordT t).length + 1) h.2
    rw [e, word_lex h.1 pos _ (Or.inr ⟨32, _, rfl, by decide⟩), lexAt_space1 (by decide), hu]
    refine ⟨atPos t pos :: us, rfl, ?_⟩
    unfold sameT; rw [eqT_atPos, hs]; rfl

def wordsLen (ts : List Tok) : Nat := (ts.map fun t => (wordT t).length).sum
theorem lexAt_words (pos : Nat) (l : List UInt8) : ∀ ts, lexAt pos l = .ok ts → wordsLen ts ≤ l.length := by
  refine lex_induct (motive := fun pos l => ∀ ts, lexAt pos l = .ok ts → wordsLen ts ≤ l.length) ?_ ?_ ?_ ?_ l.length pos l (Nat.le_refl _)
  · intro pos ts h; rw [lexAt_nil] at h; injection h with h; subst h; exact Nat.le_refl _
  · intro pos c r hs ts h; rw [lexAt_err hs] at h; cases h
  · intro pos c r k hs _ ih ts h
    rw [lexAt_skip hs] at h
    have := ih ts h
    rw [List.length_drop] at this; omega
  · intro pos c r k t hs _ ih ts h
    have hk := step_len.2 k t hs
    rw [lexAt_tok hs] at h
    obtain ⟨us, hx, rfl⟩ := consT_ok h
    have := ih us hx
    have hw := (step_word hs).1
    have e : wordsLen (t :: us) = (wordT t).length + wordsLen us := rfl
    rw [e, hw, List.length_take]
    rw [List.length_drop] at this; omega
theorem textL_words : ∀ (ts : List Tok), (textL ts).length ≤ wordsLen ts + ts.length
  | [] => Nat.le_refl _
  | [t] => by
    unfold textL; rw [List.map_cons, List.map_nil, Lib.join_one]
    show (wordT t).length ≤ wordsLen [t] + 1
    unfold wordsLen; simp
  | t :: u :: r => by
    have e : textL (t :: u :: r) = wordT t ++ 32 :: textL (u :: r) := by unfold textL; simp [Lib.join, List.intercalate]
    have ih := textL_words (u :: r)
    have e2 : wordsLen (t :: u :: r) = (wordT t).length + wordsLen (u :: r) := rfl
    rw [e, e2, List.length_append, List.length_cons, List.length_cons]
    omega
end Go.Proofs.YtabdpmcdlojliaaDoor
