/- Plain laws: one step of the lexer, in the words of the scanner's contracts. -/
import Derived.Test.YtabdpmcdlojliaaDoorP2
namespace Go.Proofs.YtabdpmcdlojliaaDoor

theorem takeWhile_take (p : UInt8 → Bool) (l : List UInt8) : l.take (runLen p l) = l.takeWhile p := (List.prefix_iff_eq_take.1 (List.takeWhile_prefix p)).symm
theorem runLen_cons_pos {p : UInt8 → Bool} {c : UInt8} {r : List UInt8} (h : p c = true) : runLen p (c :: r) = runLen p r + 1 := by
  unfold runLen; rw [List.takeWhile_cons_of_pos h]; rfl
theorem runLen_cons_neg {p : UInt8 → Bool} {c : UInt8} {r : List UInt8} (h : p c = false) : runLen p (c :: r) = 0 := by
  unfold runLen; rw [List.takeWhile_cons_of_neg (by simp [h])]; rfl
theorem isPart_letter {c : UInt8} (h : isLetter c = true) : isPart c = true := by unfold isPart; unfold isLetter at h; simp [h]
theorem isSpace_not_letter {c : UInt8} (h : isLetter c = true) : isSpace c = false := by
  unfold isLetter at h; unfold isSpace; simp at h ⊢; rw [h]; decide
theorem isDigit_not {c : UInt8} (h : isDigit c = true) : isSpace c = false ∧ isLetter c = false := by
  unfold isDigit at h; unfold isSpace isLetter; simp at h; rw [h]; decide
theorem isSign_not {c : UInt8} (h : isSign c = true) : isSpace c = false ∧ isLetter c = false ∧ isDigit c = false := by
  unfold isSign at h; unfold isSpace isLetter isDigit; simp at h; rw [h]; decide

theorem lexAt_spaces : ∀ (l : List UInt8) (a : Nat), lexAt a l = lexAt (a + runLen isSpace l) (l.drop (runLen isSpace l))
  | [], a => rfl
  | c :: r, a => by
    by_cases h : isSpace c = true
    · rw [runLen_cons_pos h, lexAt_skip (k := 1) (by unfold stepL; rw [if_pos h])]
      show lexAt (a + 1) r = lexAt (a + (runLen isSpace r + 1)) (r.drop (runLen isSpace r))
      rw [lexAt_spaces r (a + 1), show a + 1 + runLen isSpace r = a + (runLen isSpace r + 1) by omega]
    · rw [runLen_cons_neg (by simpa using h)]; rfl

theorem nameOk_run {c : UInt8} {r : List UInt8} (h : isLetter c = true) : nameOk ((c :: r).take (runLen isPart (c :: r))) = decide (runLen isPart (c :: r) ≤ 32) := by
  rw [takeWhile_take]
  have e : (c :: r).takeWhile isPart = c :: r.takeWhile isPart := List.takeWhile_cons_of_pos (isPart_letter h)
  have ha : ((c :: r).takeWhile isPart).all isPart = true := List.all_takeWhile
  unfold nameOk
  rw [ha]
  show ((match (c :: r).takeWhile isPart with | [] => false | c :: _ => isLetter c) && decide (((c :: r).takeWhile isPart).length ≤ 32) && true) = decide (((c :: r).takeWhile isPart).length ≤ 32)
  rw [e]
  simp [h]

theorem lexAt_name {c : UInt8} {r : List UInt8} {a : Nat} (h : isLetter c = true) (hok : nameOk ((c :: r).take (runLen isPart (c :: r))) = true) :
    lexAt a (c :: r) = consT ⟨1, (c :: r).take (runLen isPart (c :: r)), 0, a⟩ (lexAt (a + runLen isPart (c :: r)) ((c :: r).drop (runLen isPart (c :: r)))) := by
  rw [nameOk_run h] at hok
  exact lexAt_tok (by unfold stepL; rw [if_neg (by simp [isSpace_not_letter h]), if_pos h, if_pos (by simpa using hok)])
theorem lexAt_name_bad {c : UInt8} {r : List UInt8} {a : Nat} (h : isLetter c = true) (hok : nameOk ((c :: r).take (runLen isPart (c :: r))) = false) : lexAt a (c :: r) = .error a := by
  rw [nameOk_run h] at hok
  exact lexAt_err (by unfold stepL; rw [if_neg (by simp [isSpace_not_letter h]), if_pos h, if_neg (by simpa using hok)])
theorem lexAt_number {c : UInt8} {r : List UInt8} {a : Nat} (h : isDigit c = true) (hok : numOk ((c :: r).take (runLen isDigit (c :: r))) = true) :
    lexAt a (c :: r) = consT ⟨2, [], value ((c :: r).take (runLen isDigit (c :: r))), a⟩ (lexAt (a + runLen isDigit (c :: r)) ((c :: r).drop (runLen isDigit (c :: r)))) :=
  lexAt_tok (by unfold stepL; rw [if_neg (by simp [(isDigit_not h).1]), if_neg (by simp [(isDigit_not h).2]), if_pos h, if_pos hok])
theorem lexAt_number_bad {c : UInt8} {r : List UInt8} {a : Nat} (h : isDigit c = true) (hok : numOk ((c :: r).take (runLen isDigit (c :: r))) = false) : lexAt a (c :: r) = .error a :=
  lexAt_err (by unfold stepL; rw [if_neg (by simp [(isDigit_not h).1]), if_neg (by simp [(isDigit_not h).2]), if_pos h, if_neg (by simp [hok])])
theorem lexAt_comment {c : UInt8} {r : List UInt8} {a : Nat} (h : isSign c = true) (hc : (c :: r).take 2 = [47, 47]) :
    lexAt a (c :: r) = lexAt (a + runLen (· != 10) (c :: r)) ((c :: r).drop (runLen (· != 10) (c :: r))) :=
  lexAt_skip (by unfold stepL; rw [if_neg (by simp [(isSign_not h).1]), if_neg (by simp [(isSign_not h).2.1]), if_neg (by simp [(isSign_not h).2.2]), if_pos h, if_pos hc])
theorem lexAt_sign {c : UInt8} {r : List UInt8} {a : Nat} (h : isSign c = true) (hc : ¬ (c :: r).take 2 = [47, 47]) :
    lexAt a (c :: r) = consT ⟨3, [c], 0, a⟩ (lexAt (a + 1) r) :=
  lexAt_tok (by unfold stepL; rw [if_neg (by simp [(isSign_not h).1]), if_neg (by simp [(isSign_not h).2.1]), if_neg (by simp [(isSign_not h).2.2]), if_pos h, if_neg hc])
theorem lexAt_wrong {c : UInt8} {r : List UInt8} {a : Nat} (h1 : isSpace c = false) (h2 : isLetter c = false) (h3 : isDigit c = false) (h4 : isSign c = false) : lexAt a (c :: r) = .error a :=
  lexAt_err (by unfold stepL; rw [if_neg (by simp [h1]), if_neg (by simp [h2]), if_neg (by simp [h3]), if_neg (by simp [h4])])
theorem drop_cons {l : List UInt8} {a : Nat} {c : UInt8} (h : l[a]? = some c) : l.drop a = c :: l.drop (a + 1) := by
  rw [List.drop_eq_getElem_cons (by
    rcases Nat.lt_or_ge a l.length with h1 | h1
    · exact h1
    · rw [List.getElem?_eq_none h1] at h; cases h)]
  congr 1
  have : a < l.length := by
    rcases Nat.lt_or_ge a l.length with h1 | h1
    · exact h1
    · rw [List.getElem?_eq_none h1] at h; cases h
  rw [List.getElem?_eq_getElem this] at h; injection h
end Go.Proofs.YtabdpmcdlojliaaDoor
