/- Plain laws: white space and comments between the words of tokens. -/
import Derived.Test.YtabdpmcdlojliaaDoorI1
import Derived.Test.YtabdpmcdlojliaaDoorJ4
namespace Go.Proofs.YtabdpmcdlojliaaDoor

/-- Nothing but white space and comments that are closed. -/
def Blank (g : List UInt8) : Prop := ∀ pos rest, lexAt pos (g ++ rest) = lexAt (pos + g.length) rest

theorem Blank.app {g h : List UInt8} (hg : Blank g) (hh : Blank h) : Blank (g ++ h) := by
  intro pos rest
  rw [List.append_assoc, hg, hh, List.length_append, Nat.add_assoc]
theorem blank_one {c : UInt8} (h : isSpace c = true) : Blank [c] := fun pos rest => lexAt_space1 h pos rest
theorem blank_comment {W : List UInt8} (h : W.all (· != 10) = true) : Blank (47 :: 47 :: (W ++ [10])) := by
  intro pos rest
  have hr : runLen (· != 10) (47 :: 47 :: (W ++ [10]) ++ rest) = W.length + 2 := by
    show runLen _ (47 :: 47 :: ((W ++ [10]) ++ rest)) = _
    rw [runLen_cons_pos (by decide), runLen_cons_pos (by decide), List.append_assoc]
    show runLen _ (W ++ 10 :: rest) + 1 + 1 = _
    rw [runLen_app (Or.inr (by decide)), runLen_all h]
  have := lexAt_comment (c := 47) (r := 47 :: (W ++ [10]) ++ rest) (a := pos) (by decide) rfl
  have e : (47 :: 47 :: (W ++ [10]) ++ rest : List UInt8) = 47 :: (47 :: (W ++ [10]) ++ rest) := rfl
  rw [e] at hr ⊢
  rw [this, hr]
  have ed : (47 :: (47 :: (W ++ [10]) ++ rest)).drop (W.length + 2) = 10 :: rest := by
    show ((W ++ [10]) ++ rest).drop W.length = _
    rw [List.append_assoc, List.drop_left]; rfl
  rw [ed, lexAt_space1 (by decide)]
  congr 1
  simp; omega

/-- The gaps of the law. -/
def gapOf (W : ByteArray) : Nat → ByteArray
  | 0 => ⟨#[32]⟩ | 1 => ⟨#[9]⟩ | 2 => ⟨#[10]⟩ | 3 => ⟨#[13, 10]⟩ | 4 => ⟨#[32, 32]⟩ | 5 => ⟨#[47, 47]⟩ ++ W ++ ⟨#[10]⟩
  | 6 => ⟨#[32, 47, 47, 32, 10]⟩ | _ => ⟨#[10, 47, 47, 10]⟩

theorem gap_blank {W : ByteArray} (h : W.data.toList.all (· != 10) = true) (r : Nat) : Blank (gapOf W r).data.toList := by
  match r with
  | 0 => exact blank_one (by decide)
  | 1 => exact blank_one (by decide)
  | 2 => exact blank_one (by decide)
  | 3 => exact (blank_one (c := 13) (by decide)).app (blank_one (c := 10) (by decide))
  | 4 => exact (blank_one (c := 32) (by decide)).app (blank_one (c := 32) (by decide))
  | 5 =>
    have : (gapOf W 5).data.toList = 47 :: 47 :: (W.data.toList ++ [10]) := by
      show (⟨#[47, 47]⟩ ++ W ++ ⟨#[10]⟩ : ByteArray).data.toList = _
      simp
    rw [this]; exact blank_comment h
  | 6 => exact (blank_one (c := 32) (by decide)).app (blank_comment (W := [32]) (by decide))
  | r + 7 =>
    have : (gapOf W (r + 7)).data.toList = [10] ++ 47 :: 47 :: ([] ++ [10]) := rfl
    rw [this]; exact (blank_one (c := 10) (by decide)).app (blank_comment (W := []) (by decide))
theorem gap_size {W : ByteArray} {m : Nat} (h : W.size ≤ m) (r : Nat) : (gapOf W r).size ≤ m + 5 := by
  match r with
  | 0 => show 1 ≤ _; omega
  | 1 => show 1 ≤ _; omega
  | 2 => show 1 ≤ _; omega
  | 3 => show 2 ≤ _; omega
  | 4 => show 2 ≤ _; omega
  | 5 =>
    show (⟨#[47, 47]⟩ ++ W ++ ⟨#[10]⟩ : ByteArray).size ≤ _
    rw [ByteArray.size_append, ByteArray.size_append, show (⟨#[47, 47]⟩ : ByteArray).size = 2 from rfl, show (⟨#[10]⟩ : ByteArray).size = 1 from rfl]; omega
  | 6 => show 5 ≤ _; omega
  | r + 7 => show 4 ≤ _; omega

theorem eqT_refl_at (t : Tok) (pos : Nat) : eqT t (atPos t pos) = true := eqT_atPos t pos
theorem sameT_snoc : ∀ {xs ys : List Tok} {x y : Tok}, sameT xs ys = true → eqT x y = true → sameT (xs ++ [x]) (ys ++ [y]) = true
  | [], [], _, _, _, h => by simp [sameT, h]
  | [], _ :: _, _, _, h, _ => by simp [sameT] at h
  | _ :: _, [], _, _, h, _ => by simp [sameT] at h
  | a :: xs, b :: ys, x, y, h, h2 => by
    simp only [sameT, Bool.and_eq_true] at h
    simp only [List.cons_append, sameT, Bool.and_eq_true]
    exact ⟨h.1, sameT_snoc h.2 h2⟩

/-- What is written so far, whatever follows. -/
def Spaced (ts : List Tok) (s : ByteArray) : Prop := ∃ us, sameT ts us = true ∧ ∀ rest, lexAt 0 (s.data.toList ++ rest) = addToks us (lexAt s.size rest)

theorem addToks_nil (x : Except Nat (List Tok)) : addToks [] x = x := by cases x <;> rfl
theorem spaced_nil : Spaced [] ⟨#[10]⟩ := ⟨[], rfl, fun rest => by
  rw [addToks_nil]; exact lexAt_space1 (by decide) 0 rest⟩
theorem spaced_snoc {ts : List Tok} {s g : ByteArray} {t : Tok} (h : Spaced ts s) (hv : validT t = true) (hg : Blank g.data.toList) :
    Spaced (ts ++ [t]) (s ++ (⟨(wordT t).toArray⟩ ++ ⟨#[32]⟩ ++ g)) := by
  obtain ⟨us, h1, h2⟩ := h
  refine ⟨us ++ [atPos t s.size], sameT_snoc h1 (eqT_atPos t _), fun rest => ?_⟩
  have e : (s ++ (⟨(wordT t).toArray⟩ ++ ⟨#[32]⟩ ++ g)).data.toList ++ rest = s.data.toList ++ (wordT t ++ 32 :: (g.data.toList ++ rest)) := by simp
  rw [e, h2, word_lex hv _ _ (Or.inr ⟨_, _, rfl, by decide⟩), lexAt_space1 (by decide), hg, addToks_cons]
  congr 2
  have : g.data.toList.length = g.size := by simp
  rw [ByteArray.size_append, ByteArray.size_append, ByteArray.size_append, this, show (⟨#[32]⟩ : ByteArray).size = 1 from rfl, show (⟨(wordT t).toArray⟩ : ByteArray).size = (wordT t).length from by show (wordT t).toArray.size = _; simp]
  omega
theorem spaced_lex {ts : List Tok} {s : ByteArray} (h : Spaced ts s) : ∃ us, lexAt 0 s.data.toList = .ok us ∧ sameT ts us = true := by
  obtain ⟨us, h1, h2⟩ := h
  refine ⟨us, ?_, h1⟩
  have := h2 []
  rw [List.append_nil, lexAt_nil] at this
  rw [this]; simp [addToks]
end Go.Proofs.YtabdpmcdlojliaaDoor
