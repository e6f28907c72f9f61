/- Plain laws: the tokens of a text are valid; a name is one token. -/
import Derived.Test.YtabdpmcdlojliaaDoorP3
namespace Go.Proofs.YtabdpmcdlojliaaDoor

/-- What holds of each text, by the lexer's steps. -/
theorem lex_induct {motive : Nat → List UInt8 → Prop} (h0 : ∀ pos, motive pos [])
    (herr : ∀ pos c r, stepL pos c (c :: r) = .err → motive pos (c :: r))
    (hskip : ∀ pos c r k, stepL pos c (c :: r) = .skip k → 1 ≤ k → motive (pos + k) ((c :: r).drop k) → motive pos (c :: r))
    (htok : ∀ pos c r k t, stepL pos c (c :: r) = .tok k t → 1 ≤ k → motive (pos + k) ((c :: r).drop k) → motive pos (c :: r)) :
    ∀ (n : Nat) (pos : Nat) (l : List UInt8), l.length ≤ n → motive pos l
  | n, pos, [], _ => h0 pos
  | 0, pos, c :: r, h => by simp at h
  | n + 1, pos, c :: r, h => by
    cases hs : stepL pos c (c :: r) with
    | err => exact herr pos c r hs
    | skip k =>
      have hk := stepL_pos.1 k hs
      exact hskip pos c r k hs hk (lex_induct h0 herr hskip htok n _ _ (by simp at h ⊢; omega))
    | tok k t =>
      have hk := stepL_pos.2 k t hs
      exact htok pos c r k t hs hk (lex_induct h0 herr hskip htok n _ _ (by simp at h ⊢; omega))

theorem all_run (p : UInt8 → Bool) (l : List UInt8) : (l.take (runLen p l)).all p = true := by rw [takeWhile_take]; exact List.all_takeWhile

theorem stepL_tok {pos : Nat} {c : UInt8} {r : List UInt8} {k : Nat} {t : Tok} (h : stepL pos c (c :: r) = .tok k t) :
    (isLetter c = true ∧ k = runLen isPart (c :: r) ∧ runLen isPart (c :: r) ≤ 32 ∧ t = ⟨1, (c :: r).take k, 0, pos⟩) ∨
    (isDigit c = true ∧ k = runLen isDigit (c :: r) ∧ numOk ((c :: r).take k) = true ∧ t = ⟨2, [], value ((c :: r).take k), pos⟩) ∨
    (isSign c = true ∧ k = 1 ∧ ¬ (c :: r).take 2 = [47, 47] ∧ t = ⟨3, [c], 0, pos⟩) := by
  unfold stepL at h
  split at h
  · cases h
  split at h
  · rename_i hl
    split at h
    · rename_i h32; injection h with h1 h2; subst h1; exact Or.inl ⟨hl, rfl, h32, h2.symm⟩
    · cases h
  split at h
  · rename_i hd
    split at h
    · rename_i hn; injection h with h1 h2; subst h1; exact Or.inr (Or.inl ⟨hd, rfl, hn, h2.symm⟩)
    · cases h
  split at h
  · rename_i hs
    split at h
    · cases h
    · rename_i h47; injection h with h1 h2; subst h1; exact Or.inr (Or.inr ⟨hs, rfl, h47, h2.symm⟩)
  · cases h

theorem step_valid {pos : Nat} {c : UInt8} {r : List UInt8} {k : Nat} {t : Tok} (h : stepL pos c (c :: r) = .tok k t) : validT t = true := by
  rcases stepL_tok h with ⟨hl, rfl, h32, rfl⟩ | ⟨hd, rfl, hn, rfl⟩ | ⟨hs, rfl, _, rfl⟩
  · unfold validT
    rw [if_pos rfl]
    show (nameOk _ && _) = true
    rw [nameOk_run hl]; simp [h32]
  · unfold validT
    rw [if_neg (by show ¬ (2 : Int) = 1; decide), if_pos rfl]
    have := ((numOk_iff _).1 hn).2
    simp; omega
  · unfold validT
    rw [if_neg (by show ¬ (3 : Int) = 1; decide), if_neg (by show ¬ (3 : Int) = 2; decide), if_pos rfl]
    simp [hs]

theorem consT_ok {t : Tok} {x : Except Nat (List Tok)} {ts : List Tok} (h : consT t x = .ok ts) : ∃ us, x = .ok us ∧ ts = t :: us := by
  cases x with
  | ok us => simp only [consT] at h; injection h with h; exact ⟨us, rfl, h.symm⟩
  | error e => simp [consT] at h
theorem consT_err {t : Tok} {x : Except Nat (List Tok)} {p : Nat} (h : consT t x = .error p) : x = .error p := by
  cases x with
  | ok us => simp [consT] at h
  | error e => simpa [consT] using h

theorem lexAt_valid (pos : Nat) (l : List UInt8) : ∀ ts, lexAt pos l = .ok ts → ts.all validT = true := by
  refine lex_induct (motive := fun pos l => ∀ ts, lexAt pos l = .ok ts → ts.all validT = true) ?_ ?_ ?_ ?_ l.length pos l (Nat.le_refl _)
  · intro pos ts h; rw [lexAt_nil] at h; injection h with h; subst h; rfl
  · intro pos c r hs ts h; rw [lexAt_err hs] at h; cases h
  · intro pos c r k hs _ ih ts h; rw [lexAt_skip hs] at h; exact ih ts h
  · intro pos c r k t hs _ ih ts h
    rw [lexAt_tok hs] at h
    obtain ⟨us, hu, rfl⟩ := consT_ok h
    rw [List.all_cons, step_valid hs, ih us hu]; rfl

theorem lexAt_len (pos : Nat) (l : List UInt8) : ∀ ts, lexAt pos l = .ok ts → ts.length ≤ l.length := by
  refine lex_induct (motive := fun pos l => ∀ ts, lexAt pos l = .ok ts → ts.length ≤ l.length) ?_ ?_ ?_ ?_ l.length pos l (Nat.le_refl _)
  · intro pos ts h; rw [lexAt_nil] at h; injection h with h; subst h; exact Nat.le_refl _
  · intro pos c r hs ts h; rw [lexAt_err hs] at h; cases h
  · intro pos c r k hs _ ih ts h
    rw [lexAt_skip hs] at h
    have := ih ts h
    rw [List.length_drop] at this; omega
  · intro pos c r k t hs _ ih ts h
    rw [lexAt_tok hs] at h
    obtain ⟨us, hu, rfl⟩ := consT_ok h
    have := ih us hu
    rw [List.length_drop] at this; simp at this ⊢; omega

theorem lexAt_text_len (pos : Nat) (l : List UInt8) : ∀ ts, lexAt pos l = .ok ts → ∀ t ∈ ts, t.text.length ≤ l.length := by
  refine lex_induct (motive := fun pos l => ∀ ts, lexAt pos l = .ok ts → ∀ t ∈ ts, t.text.length ≤ l.length) ?_ ?_ ?_ ?_ l.length pos l (Nat.le_refl _)
  · intro pos ts h; rw [lexAt_nil] at h; injection h with h; subst h; intro t ht; cases ht
  · intro pos c r hs ts h; rw [lexAt_err hs] at h; cases h
  · intro pos c r k hs _ ih ts h t ht
    rw [lexAt_skip hs] at h
    have := ih ts h t ht
    rw [List.length_drop] at this; omega
  · intro pos c r k t hs _ ih ts h u hu
    rw [lexAt_tok hs] at h
    obtain ⟨us, hx, rfl⟩ := consT_ok h
    rcases List.mem_cons.1 hu with rfl | hu
    · rcases stepL_tok hs with ⟨_, _, _, rfl⟩ | ⟨_, _, _, rfl⟩ | ⟨_, _, _, rfl⟩
      · show ((c :: r).take k).length ≤ _; rw [List.length_take]; omega
      · simp
      · simp
    · have := ih us hx u hu
      rw [List.length_drop] at this; omega

theorem nameOk_parts {l : List UInt8} (h : nameOk l = true) : ∃ c r, l = c :: r ∧ isLetter c = true ∧ l.length ≤ 32 ∧ l.all isPart = true := by
  cases l with
  | nil => cases h
  | cons c r =>
    unfold nameOk at h
    rw [Bool.and_eq_true, Bool.and_eq_true] at h
    exact ⟨c, r, rfl, h.1.1, of_decide_eq_true h.1.2, h.2⟩
theorem runLen_all {p : UInt8 → Bool} : ∀ {l : List UInt8}, l.all p = true → runLen p l = l.length
  | [], _ => rfl
  | c :: r, h => by
    rw [List.all_cons, Bool.and_eq_true] at h
    rw [runLen_cons_pos h.1, runLen_all h.2]; rfl
theorem one_name {l : List UInt8} (h : nameOk l = true) (pos : Nat) : lexAt pos l = .ok [⟨1, l, 0, pos⟩] := by
  obtain ⟨c, r, rfl, hc, hl, ha⟩ := nameOk_parts h
  have hr := runLen_all ha
  rw [lexAt_name hc (by rw [hr, List.take_length]; exact h), hr, List.take_length, List.drop_length, lexAt_nil]; rfl
theorem name_one {l : List UInt8} {pos : Nat} (h : lexAt pos l = .ok [⟨1, l, 0, pos⟩]) : nameOk l = true := by
  have := lexAt_valid pos l _ h
  rw [List.all_cons, Bool.and_eq_true] at this
  have h1 := this.1
  unfold validT at h1; rw [if_pos rfl, Bool.and_eq_true] at h1; exact h1.1
end Go.Proofs.YtabdpmcdlojliaaDoor
