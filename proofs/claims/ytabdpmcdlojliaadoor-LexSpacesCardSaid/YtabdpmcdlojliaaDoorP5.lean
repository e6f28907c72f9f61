/- Plain laws: texts that are joined, cut, shifted. -/
import Derived.Test.YtabdpmcdlojliaaDoorP4
namespace Go.Proofs.YtabdpmcdlojliaaDoor

theorem runLen_leP (p : UInt8 → Bool) (l : List UInt8) : runLen p l ≤ l.length := (List.takeWhile_prefix p).length_le
theorem runLen_app {p : UInt8 → Bool} {c : UInt8} {m : List UInt8} : ∀ {l : List UInt8}, (runLen p l < l.length ∨ p c = false) → runLen p (l ++ c :: m) = runLen p l
  | [], h => by
    rcases h with h | h
    · simp at h
    · exact runLen_cons_neg h
  | x :: r, h => by
    by_cases hx : p x = true
    · rw [List.cons_append, runLen_cons_pos hx, runLen_cons_pos hx, runLen_app]
      rcases h with h | h
      · left; rw [runLen_cons_pos hx] at h; simp at h; exact h
      · exact Or.inr h
    · have hx' : p x = false := by simpa using hx
      rw [List.cons_append, runLen_cons_neg hx', runLen_cons_neg hx']
theorem runLen_take {p : UInt8 → Bool} : ∀ {l : List UInt8} {n : Nat}, runLen p l ≤ n → runLen p (l.take n) = runLen p l
  | [], n, _ => by simp
  | x :: r, n, h => by
    by_cases hx : p x = true
    · rw [runLen_cons_pos hx] at h ⊢
      cases n with
      | zero => omega
      | succ n => rw [List.take_succ_cons, runLen_cons_pos hx, runLen_take (by omega)]
    · have hx' : p x = false := by simpa using hx
      cases n with
      | zero => rw [runLen_cons_neg hx']; rfl
      | succ n => rw [List.take_succ_cons, runLen_cons_neg hx', runLen_cons_neg hx']

theorem space_not {c : UInt8} (h : isSpace c = true) : isPart c = false ∧ isDigit c = false ∧ isLetter c = false ∧ isSign c = false ∧ c ≠ 47 := by
  have e : cl c = 1 := by unfold isSpace at h; simpa using h
  refine ⟨?_, ?_, ?_, ?_, ?_⟩
  · unfold isPart; rw [e]; decide
  · unfold isDigit; rw [e]; decide
  · unfold isLetter; rw [e]; decide
  · unfold isSign; rw [e]; decide
  · rintro rfl; revert h; decide

theorem take2_app {x : UInt8} {r m : List UInt8} {c : UInt8} (hc : c ≠ 47) : (x :: r ++ c :: m).take 2 = [47, 47] ↔ (x :: r).take 2 = [47, 47] := by
  cases r with
  | nil => simp [hc]
  | cons y r => simp

/-- A step does not look behind a space. -/
theorem step_app {pos : Nat} {x c : UInt8} {r m : List UInt8} (hc : isSpace c = true) (h : c = 10 ∨ ¬ (x :: r).take 2 = [47, 47] ∨ runLen (· != 10) (x :: r) < (x :: r).length) :
    stepL pos x (x :: r ++ c :: m) = stepL pos x (x :: r) := by
  obtain ⟨n1, n2, _, _, n5⟩ := space_not hc
  unfold stepL
  rw [runLen_app (Or.inr n1), runLen_app (Or.inr n2)]
  have t1 : (x :: r ++ c :: m).take (runLen isPart (x :: r)) = (x :: r).take (runLen isPart (x :: r)) := List.take_append_of_le_length (runLen_leP _ _)
  have t2 : (x :: r ++ c :: m).take (runLen isDigit (x :: r)) = (x :: r).take (runLen isDigit (x :: r)) := List.take_append_of_le_length (runLen_leP _ _)
  rw [t1, t2]
  by_cases h47 : (x :: r).take 2 = [47, 47]
  · have h' : runLen (· != 10) (x :: r ++ c :: m) = runLen (· != 10) (x :: r) := by
      rcases h with h | h | h
      · exact runLen_app (Or.inr (by rw [h]; decide))
      · exact absurd h47 h
      · exact runLen_app (Or.inl h)
    have h48 := (take2_app (x := x) (r := r) (m := m) n5).2 h47
    rw [h', if_pos h47, if_pos h48]
  · have h48 : ¬ (x :: r ++ c :: m).take 2 = [47, 47] := fun e => h47 ((take2_app n5).1 e)
    rw [if_neg h47, if_neg h48]

theorem step_len {pos : Nat} {x : UInt8} {r : List UInt8} : (∀ k, stepL pos x (x :: r) = .skip k → k ≤ (x :: r).length) ∧ (∀ k t, stepL pos x (x :: r) = .tok k t → k ≤ (x :: r).length) := by
  constructor
  · intro k h
    unfold stepL at h
    split at h
    · injection h with h; simp; omega
    split at h
    · split at h <;> cases h
    split at h
    · split at h <;> cases h
    split at h
    · split at h
      · injection h with h; rw [← h]; exact runLen_leP _ _
      · cases h
    · cases h
  · intro k t h
    rcases stepL_tok h with ⟨_, rfl, _, _⟩ | ⟨_, rfl, _, _⟩ | ⟨_, rfl, _, _⟩
    · exact runLen_leP _ _
    · exact runLen_leP _ _
    · simp


end Go.Proofs.YtabdpmcdlojliaaDoor
