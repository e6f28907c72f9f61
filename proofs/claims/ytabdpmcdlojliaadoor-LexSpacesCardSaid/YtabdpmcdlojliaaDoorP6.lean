/- Plain laws: a text is cut at its error, is shifted, is joined to another. -/
import Derived.Test.YtabdpmcdlojliaaDoorP5
namespace Go.Proofs.YtabdpmcdlojliaaDoor

def shiftT (d : Nat) (t : Tok) : Tok := ⟨t.kind, t.text, t.num, t.pos + d⟩
def shiftE (d : Nat) (x : Except Nat (List Tok)) : Except Nat (List Tok) := match x with | .ok ts => .ok (ts.map (shiftT d)) | .error p => .error (p + d)
def shiftS (d : Nat) (x : StepR) : StepR := match x with | .err => .err | .skip k => .skip k | .tok k t => .tok k (shiftT d t)
def joinE (ts : List Tok) (x : Except Nat (List Tok)) : Except Nat (List Tok) := match x with | .ok us => .ok (ts ++ us) | .error p => .error p

theorem stepL_shift {pos d : Nat} {c : UInt8} {l : List UInt8} : stepL (pos + d) c l = shiftS d (stepL pos c l) := by
  unfold stepL
  repeat' split
  all_goals first | rfl | (unfold shiftS shiftT; simp)

theorem shiftE_cons {d : Nat} {t : Tok} {x : Except Nat (List Tok)} : shiftE d (consT t x) = consT (shiftT d t) (shiftE d x) := by cases x <;> rfl
theorem joinE_nil {x : Except Nat (List Tok)} : joinE [] x = x := by cases x <;> rfl
theorem joinE_cons {t : Tok} {ts : List Tok} {x : Except Nat (List Tok)} : joinE (t :: ts) x = consT t (joinE ts x) := by cases x <;> rfl

theorem lexAt_shift (d pos : Nat) (l : List UInt8) : lexAt (pos + d) l = shiftE d (lexAt pos l) := by
  refine lex_induct (motive := fun pos l => lexAt (pos + d) l = shiftE d (lexAt pos l)) ?_ ?_ ?_ ?_ l.length pos l (Nat.le_refl _)
  · intro pos; rfl
  · intro pos c r hs
    rw [lexAt_err hs, lexAt_err (by rw [stepL_shift, hs]; rfl)]; rfl
  · intro pos c r k hs _ ih
    rw [lexAt_skip hs, lexAt_skip (k := k) (by rw [stepL_shift, hs]; rfl), ← ih]
    congr 1; omega
  · intro pos c r k t hs _ ih
    rw [lexAt_tok hs, lexAt_tok (k := k) (t := shiftT d t) (by rw [stepL_shift, hs]; rfl), shiftE_cons, ← ih]
    congr 2; omega

/-- Two texts with a line feed between them. -/
theorem lexAt_join (m : List UInt8) (pos : Nat) (l : List UInt8) :
    lexAt pos (l ++ 10 :: m) = (match lexAt pos l with | .error p => .error p | .ok ts => joinE ts (lexAt (pos + l.length) (10 :: m))) := by
  refine lex_induct (motive := fun pos l => lexAt pos (l ++ 10 :: m) = (match lexAt pos l with | .error p => .error p | .ok ts => joinE ts (lexAt (pos + l.length) (10 :: m)))) ?_ ?_ ?_ ?_ l.length pos l (Nat.le_refl _)
  · intro pos; rw [lexAt_nil]; exact joinE_nil.symm
  · intro pos c r hs
    rw [lexAt_err hs, List.cons_append, lexAt_err (by rw [← List.cons_append, step_app (by decide) (Or.inl rfl), hs])]
  · intro pos c r k hs _ ih
    have hk := step_len.1 k hs
    rw [lexAt_skip hs, List.cons_append, lexAt_skip (k := k) (by rw [← List.cons_append, step_app (by decide) (Or.inl rfl), hs]), ← List.cons_append,
      List.drop_append_of_le_length hk, ih, show pos + k + ((c :: r).drop k).length = pos + (c :: r).length by rw [List.length_drop]; omega]
  · intro pos c r k t hs _ ih
    have hk := step_len.2 k t hs
    rw [lexAt_tok hs, List.cons_append, lexAt_tok (k := k) (t := t) (by rw [← List.cons_append, step_app (by decide) (Or.inl rfl), hs]), ← List.cons_append,
      List.drop_append_of_le_length hk, ih, show pos + k + ((c :: r).drop k).length = pos + (c :: r).length by rw [List.length_drop]; omega]
    cases lexAt (pos + k) ((c :: r).drop k) with
    | error p => rfl
    | ok ts => exact joinE_cons.symm

/-- An error stays, whatever follows a space. -/
theorem lexAt_err_app {s : UInt8} (hs : isSpace s = true) (m : List UInt8) (pos : Nat) (l : List UInt8) : ∀ p, lexAt pos l = .error p → lexAt pos (l ++ s :: m) = .error p := by
  have key : ∀ (pos : Nat) (c : UInt8) (r : List UInt8) (p : Nat), lexAt pos (c :: r) = .error p → stepL pos c (c :: r ++ s :: m) = stepL pos c (c :: r) := by
    intro pos c r p h
    refine step_app hs ?_
    by_cases h47 : (c :: r).take 2 = [47, 47]
    · refine Or.inr (Or.inr ?_)
      rcases Nat.lt_or_ge (runLen (· != 10) (c :: r)) (c :: r).length with h1 | h1
      · exact h1
      · exfalso
        have hc := cl_sign_47 rfl h47; subst hc
        rw [lexAt_comment (by decide) h47, List.drop_of_length_le h1, lexAt_nil] at h; cases h
    · exact Or.inr (Or.inl h47)
  refine lex_induct (motive := fun pos l => ∀ p, lexAt pos l = .error p → lexAt pos (l ++ s :: m) = .error p) ?_ ?_ ?_ ?_ l.length pos l (Nat.le_refl _)
  · intro pos p h; cases h
  · intro pos c r hst p h
    have := key pos c r p h
    rw [lexAt_err hst] at h; injection h with h; subst h
    rw [List.cons_append, lexAt_err (by rw [← List.cons_append, this, hst])]
  · intro pos c r k hst _ ih p h
    have e := key pos c r p h
    have hk := step_len.1 k hst
    rw [lexAt_skip hst] at h
    rw [List.cons_append, lexAt_skip (k := k) (by rw [← List.cons_append, e, hst]), ← List.cons_append, List.drop_append_of_le_length hk, ih p h]
  · intro pos c r k t hst _ ih p h
    have e := key pos c r p h
    have hk := step_len.2 k t hst
    rw [lexAt_tok hst] at h
    have h' := consT_err h
    rw [List.cons_append, lexAt_tok (k := k) (t := t) (by rw [← List.cons_append, e, hst]), ← List.cons_append, List.drop_append_of_le_length hk, ih p h']; rfl

theorem take_take_run {p : UInt8 → Bool} {l : List UInt8} {n : Nat} (h : runLen p l ≤ n) : (l.take n).take (runLen p l) = l.take (runLen p l) := by
  rw [List.take_take, Nat.min_eq_left h]

/-- A step does not look behind its own bytes. -/
theorem step_take {pos : Nat} {c : UInt8} {r : List UInt8} {n : Nat} (hn : 1 ≤ n) :
    (∀ k, stepL pos c (c :: r) = .skip k → k ≤ n → stepL pos c ((c :: r).take n) = .skip k) ∧
    (∀ k t, stepL pos c (c :: r) = .tok k t → k ≤ n → stepL pos c ((c :: r).take n) = .tok k t) := by
  constructor
  · intro k h hk
    unfold stepL at h
    split at h
    · rename_i hs; unfold stepL; rw [if_pos hs]; exact h
    split at h
    · split at h <;> cases h
    split at h
    · split at h <;> cases h
    split at h
    · rename_i h1 h2 h3 h4
      split at h
      · rename_i h47
        injection h with h
        have h2n : 2 ≤ n := by
          have hc := cl_sign_47 rfl h47; subst hc
          cases r with
          | nil => simp at h47
          | cons y r =>
            simp at h47; subst h47
            rw [runLen_cons_pos (by decide), runLen_cons_pos (by decide)] at h
            omega
        have h48 : ((c :: r).take n).take 2 = [47, 47] := by rw [List.take_take, Nat.min_eq_left h2n]; exact h47
        unfold stepL
        rw [if_neg h1, if_neg h2, if_neg h3, if_pos h4, if_pos h48, runLen_take (by omega), h]
      · cases h
    · cases h
  · intro k t h hk
    rcases stepL_tok h with ⟨hl, rfl, h32, rfl⟩ | ⟨hd, rfl, hok, rfl⟩ | ⟨hs, rfl, h47, rfl⟩
    · have h1 := runLen_take hk
      unfold stepL
      rw [if_neg (by simp [isSpace_not_letter hl]), if_pos hl, h1, if_pos h32, take_take_run hk]
    · have h1 := runLen_take hk
      unfold stepL
      rw [if_neg (by simp [(isDigit_not hd).1]), if_neg (by simp [(isDigit_not hd).2]), if_pos hd, h1, take_take_run hk, if_pos hok]
    · have h48 : ¬ ((c :: r).take n).take 2 = [47, 47] := by
        rw [List.take_take]
        rcases Nat.lt_or_ge n 2 with h2 | h2
        · rw [Nat.min_eq_right (by omega), show n = 1 by omega]; simp
        · rw [Nat.min_eq_left h2]; exact h47
      unfold stepL
      rw [if_neg (by simp [(isSign_not hs).1]), if_neg (by simp [(isSign_not hs).2.1]), if_neg (by simp [(isSign_not hs).2.2]), if_pos hs, if_neg h48]

/-- Where the error stands. -/
theorem lexAt_cut (pos : Nat) (l : List UInt8) : ∀ p, lexAt pos l = .error p → pos ≤ p ∧ p < pos + l.length ∧ (∃ ts, lexAt pos (l.take (p - pos)) = .ok ts) ∧ lexAt p (l.drop (p - pos)) = .error p := by
  refine lex_induct (motive := fun pos l => ∀ p, lexAt pos l = .error p → pos ≤ p ∧ p < pos + l.length ∧ (∃ ts, lexAt pos (l.take (p - pos)) = .ok ts) ∧ lexAt p (l.drop (p - pos)) = .error p) ?_ ?_ ?_ ?_ l.length pos l (Nat.le_refl _)
  · intro pos p h; cases h
  · intro pos c r hst p h
    have h0 := h
    rw [lexAt_err hst] at h; injection h with h; subst h
    rw [Nat.sub_self]
    exact ⟨Nat.le_refl _, by simp, ⟨[], rfl⟩, h0⟩
  · intro pos c r k hst hk1 ih p h
    have hk := step_len.1 k hst
    rw [lexAt_skip hst] at h
    obtain ⟨i1, i2, ⟨ts, i3⟩, i4⟩ := ih p h
    rw [List.length_drop] at i2
    refine ⟨by omega, by omega, ⟨ts, ?_⟩, ?_⟩
    · have hst' := (step_take (pos := pos) (c := c) (r := r) (n := p - pos) (by omega)).1 k hst (by omega)
      obtain ⟨n, hn⟩ : ∃ n, p - pos = n + 1 := ⟨p - pos - 1, by omega⟩
      rw [hn, List.take_succ_cons] at hst' ⊢
      rw [lexAt_skip hst', ← List.take_succ_cons, ← hn, List.drop_take, show p - pos - k = p - (pos + k) by omega]; exact i3
    · rw [List.drop_drop, show k + (p - (pos + k)) = p - pos by omega] at i4; exact i4
  · intro pos c r k t hst hk1 ih p h
    have hk := step_len.2 k t hst
    rw [lexAt_tok hst] at h
    obtain ⟨i1, i2, ⟨ts, i3⟩, i4⟩ := ih p (consT_err h)
    rw [List.length_drop] at i2
    refine ⟨by omega, by omega, ⟨t :: ts, ?_⟩, ?_⟩
    · have hst' := (step_take (pos := pos) (c := c) (r := r) (n := p - pos) (by omega)).2 k t hst (by omega)
      obtain ⟨n, hn⟩ : ∃ n, p - pos = n + 1 := ⟨p - pos - 1, by omega⟩
      rw [hn, List.take_succ_cons] at hst' ⊢
      rw [lexAt_tok hst', ← List.take_succ_cons, ← hn, List.drop_take, show p - pos - k = p - (pos + k) by omega, i3]; rfl
    · rw [List.drop_drop, show k + (p - (pos + k)) = p - pos by omega] at i4; exact i4

end Go.Proofs.YtabdpmcdlojliaaDoor
