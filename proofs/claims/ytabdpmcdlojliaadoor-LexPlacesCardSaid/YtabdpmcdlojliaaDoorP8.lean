/- Plain laws: where the words of the tokens stand, and what is between them. -/
import Derived.Test.YtabdpmcdlojliaaDoorP7
namespace Go.Proofs.YtabdpmcdlojliaaDoor

/-- White space and comments: whether a comment is open behind them; none: there is something else. -/
def scanG : Bool → List UInt8 → Option Bool
  | b, [] => some b
  | b, c :: r => if (c != 10 && (b || (c == 47 && r.head? == some 47))) = true then scanG true r else if isSpace c = true then scanG false r else none

theorem scanG_space {c : UInt8} {r : List UInt8} (h : isSpace c = true) : scanG false (c :: r) = scanG false r := by
  have h47 := (space_not h).2.2.2.2
  rw [scanG, if_neg (by simp [h47]), if_pos h]
theorem scanG_open {c : UInt8} {r : List UInt8} (h : c ≠ 10) : scanG true (c :: r) = scanG true r := by
  rw [scanG, if_pos (by simp [h])]
theorem scanG_all : ∀ {m x : List UInt8}, m.all (· != 10) = true → scanG true (m ++ x) = scanG true x
  | [], x, _ => rfl
  | c :: r, x, h => by
    rw [List.all_cons, Bool.and_eq_true] at h
    rw [List.cons_append, scanG_open (by simpa using h.1), scanG_all h.2]
theorem scanG_line {r : List UInt8} (b : Bool) : scanG b (10 :: r) = scanG false r := by
  rw [scanG, if_neg (by simp), if_pos (by decide)]
theorem scanG_comment {m x : List UInt8} (h : m.take 2 = [47, 47]) (ha : m.all (· != 10) = true) : scanG false (m ++ x) = scanG true x := by
  match m, h with
  | a :: b :: r, h =>
    simp at h
    obtain ⟨rfl, rfl⟩ := h
    rw [List.cons_append, scanG, if_pos (by simp)]
    rw [List.all_cons, Bool.and_eq_true] at ha
    exact scanG_all ha.2

theorem drop_run_head {p : UInt8 → Bool} : ∀ {l : List UInt8}, l.drop (runLen p l) = [] ∨ ∃ c r, l.drop (runLen p l) = c :: r ∧ p c = false
  | [] => Or.inl rfl
  | x :: r => by
    by_cases h : p x = true
    · rw [runLen_cons_pos h, List.drop_succ_cons]; exact drop_run_head
    · have h' : p x = false := by simpa using h
      rw [runLen_cons_neg h']; exact Or.inr ⟨x, r, rfl, h'⟩

theorem stepL_skip {pos : Nat} {c : UInt8} {r : List UInt8} {k : Nat} (h : stepL pos c (c :: r) = .skip k) :
    (isSpace c = true ∧ k = 1) ∨ ((c :: r).take 2 = [47, 47] ∧ k = runLen (· != 10) (c :: r)) := by
  unfold stepL at h
  split at h
  · rename_i hs; injection h with h; exact Or.inl ⟨hs, h.symm⟩
  split at h
  · split at h <;> cases h
  split at h
  · split at h <;> cases h
  split at h
  · split at h
    · rename_i h47; injection h with h; exact Or.inr ⟨h47, h.symm⟩
    · cases h
  · cases h

theorem comment_head {c : UInt8} {r : List UInt8} (h : (c :: r).take 2 = [47, 47]) : ((c :: r).take (runLen (· != 10) (c :: r))).take 2 = [47, 47] := by
  match r, h with
  | d :: s, h =>
    simp at h
    obtain ⟨rfl, rfl⟩ := h
    rw [runLen_cons_pos (by decide), runLen_cons_pos (by decide)]
    simp

/-- The next token: its word stands at its place, behind white space and comments. -/
theorem next_tok (pos : Nat) (l : List UInt8) : ∀ t us, lexAt pos l = .ok (t :: us) → ∃ g rest, l = g ++ (wordT t ++ rest) ∧ t.pos = ((pos + g.length : Nat) : Int) ∧ scanG false g = some false ∧
    lexAt (pos + g.length + (wordT t).length) rest = .ok us ∧ (∃ x m, wordT t = x :: m ∧ isSpace x = false) := by
  refine lex_induct (motive := fun pos l => ∀ t us, lexAt pos l = .ok (t :: us) → ∃ g rest, l = g ++ (wordT t ++ rest) ∧ t.pos = ((pos + g.length : Nat) : Int) ∧ scanG false g = some false ∧
    lexAt (pos + g.length + (wordT t).length) rest = .ok us ∧ (∃ x m, wordT t = x :: m ∧ isSpace x = false)) ?_ ?_ ?_ ?_ l.length pos l (Nat.le_refl _)
  · intro pos t us h; rw [lexAt_nil] at h; injection h with h; cases h
  · intro pos c r hs t us h; rw [lexAt_err hs] at h; cases h
  · intro pos c r k hs _ ih t us h
    have hk := step_len.1 k hs
    rw [lexAt_skip hs] at h
    obtain ⟨g, rest, h1, h2, h3, h4, h5⟩ := ih t us h
    have hl : ((c :: r).take k ++ g).length = k + g.length := by rw [List.length_append, List.length_take]; omega
    refine ⟨(c :: r).take k ++ g, rest, ?_, ?_, ?_, ?_, h5⟩
    · rw [List.append_assoc, ← h1, List.take_append_drop]
    · rw [h2, hl]; congr 1; omega
    · rcases stepL_skip hs with ⟨hsp, rfl⟩ | ⟨h47, rfl⟩
      · show scanG false (c :: g) = some false
        rw [scanG_space hsp]; exact h3
      · rw [scanG_comment (comment_head h47) (all_run _ _)]
        rcases drop_run_head (p := (· != 10)) (l := c :: r) with hd | ⟨d, s, hd, hp⟩
        · rw [hd, lexAt_nil] at h; injection h with h; cases h
        · have hd10 : d = 10 := by simpa using hp
          subst hd10
          rw [hd] at h1
          cases g with
          | nil =>
            obtain ⟨x, m, hw, hx⟩ := h5
            rw [hw, List.nil_append] at h1
            injection h1 with h1
            subst h1
            revert hx; decide
          | cons y g =>
            injection h1 with h1
            subst h1
            rw [scanG_line] at h3 ⊢; exact h3
    · rw [hl, show pos + (k + g.length) + (wordT t).length = pos + k + g.length + (wordT t).length by omega]; exact h4
  · intro pos c r k t' hs _ ih t us h
    have hk := step_len.2 k t' hs
    rw [lexAt_tok hs] at h
    obtain ⟨vs, hx, hc⟩ := consT_ok h
    injection hc with h1 h2
    subst h1 h2
    obtain ⟨hw, hp⟩ := step_word hs
    have hlen : (wordT t).length = k := by rw [hw, List.length_take]; omega
    refine ⟨[], (c :: r).drop k, ?_, by simpa using hp, rfl, ?_, ?_⟩
    · rw [hw, List.nil_append, List.take_append_drop]
    · rw [hlen]; exact hx
    · have hk1 := stepL_pos.2 k t hs
      refine ⟨c, r.take (k - 1), ?_, ?_⟩
      · rw [hw]; obtain ⟨n, rfl⟩ : ∃ n, k = n + 1 := ⟨k - 1, by omega⟩
        rw [List.take_succ_cons]; rfl
      · rcases stepL_tok hs with ⟨hl, _⟩ | ⟨hd, _⟩ | ⟨hg, _⟩
        · exact isSpace_not_letter hl
        · exact (isDigit_not hd).1
        · exact (isSign_not hg).1

/-- Behind the last token. -/
theorem no_tok (pos : Nat) (l : List UInt8) : lexAt pos l = .ok [] → ∃ b, scanG false l = some b := by
  refine lex_induct (motive := fun pos l => lexAt pos l = .ok [] → ∃ b, scanG false l = some b) ?_ ?_ ?_ ?_ l.length pos l (Nat.le_refl _)
  · intro pos _; exact ⟨false, rfl⟩
  · intro pos c r hs h; rw [lexAt_err hs] at h; cases h
  · intro pos c r k hs _ ih h
    rw [lexAt_skip hs] at h
    obtain ⟨b, hb⟩ := ih h
    rcases stepL_skip hs with ⟨hsp, rfl⟩ | ⟨h47, rfl⟩
    · exact ⟨b, by rw [scanG_space hsp]; exact hb⟩
    · have e : scanG false (c :: r) = scanG true ((c :: r).drop (runLen (· != 10) (c :: r))) := by
        conv => lhs; rw [← List.take_append_drop (runLen (· != 10) (c :: r)) (c :: r)]
        exact scanG_comment (comment_head h47) (all_run _ _)
      rw [e]
      rcases drop_run_head (p := (· != 10)) (l := c :: r) with hd | ⟨d, s, hd, hp⟩
      · rw [hd]; exact ⟨true, rfl⟩
      · have hd10 : d = 10 := by simpa using hp
        subst hd10
        rw [hd] at hb ⊢
        rw [scanG_line] at hb ⊢; exact ⟨b, hb⟩
  · intro pos c r k t hs _ ih h
    rw [lexAt_tok hs] at h
    obtain ⟨us, _, hc⟩ := consT_ok h
    cases hc
end Go.Proofs.YtabdpmcdlojliaaDoor
