/- Plain definitions: classes of bytes, names, numbers, tokens, and the lexer as a function on lists of bytes. No program in sight. -/
import Derived.Lib.Bytealg
namespace Go.Proofs.YtabdpmcdlojliaaDoor

def signBytes : List UInt8 := [123, 125, 40, 41, 59, 44, 61, 58, 46, 60, 62, 33, 43, 45, 42, 47]

/-- The class of a byte. -/
def cls (n : Nat) : Int :=
  if (97 ≤ n ∧ n ≤ 122) ∨ (65 ≤ n ∧ n ≤ 90) then 2 else if 48 ≤ n ∧ n ≤ 57 then 3 else if n = 95 then 5
  else if n = 32 ∨ n = 9 ∨ n = 10 ∨ n = 13 then 1 else if 0 ≤ Lib.indexByte signBytes (UInt8.ofNat n) then 4 else 0

theorem cls_letter {n : Nat} (h : (97 ≤ n ∧ n ≤ 122) ∨ (65 ≤ n ∧ n ≤ 90)) : cls n = 2 := by unfold cls; rw [if_pos h]
theorem cls_digit {n : Nat} (h : 48 ≤ n ∧ n ≤ 57) : cls n = 3 := by unfold cls; rw [if_neg (by omega), if_pos h]
theorem cls_line {n : Nat} (h : n = 95) : cls n = 5 := by unfold cls; rw [if_neg (by omega), if_neg (by omega), if_pos h]
theorem cls_space {n : Nat} (h : n = 32 ∨ n = 9 ∨ n = 10 ∨ n = 13) : cls n = 1 := by
  unfold cls; rw [if_neg (by omega), if_neg (by omega), if_neg (by omega), if_pos h]
theorem cls_sign {n : Nat} (h1 : ¬ ((97 ≤ n ∧ n ≤ 122) ∨ (65 ≤ n ∧ n ≤ 90))) (h2 : ¬ (48 ≤ n ∧ n ≤ 57)) (h3 : ¬ n = 95) (h4 : ¬ (n = 32 ∨ n = 9 ∨ n = 10 ∨ n = 13))
    (h : 0 ≤ Lib.indexByte [123, 125, 40, 41, 59, 44, 61, 58, 46, 60, 62, 33, 43, 45, 42, 47] (UInt8.ofNat n)) : cls n = 4 := by
  unfold cls; rw [if_neg h1, if_neg h2, if_neg h3, if_neg h4, if_pos (by unfold signBytes; exact h)]
theorem cls_other {n : Nat} (h1 : ¬ ((97 ≤ n ∧ n ≤ 122) ∨ (65 ≤ n ∧ n ≤ 90))) (h2 : ¬ (48 ≤ n ∧ n ≤ 57)) (h3 : ¬ n = 95) (h4 : ¬ (n = 32 ∨ n = 9 ∨ n = 10 ∨ n = 13))
    (h : Lib.indexByte [123, 125, 40, 41, 59, 44, 61, 58, 46, 60, 62, 33, 43, 45, 42, 47] (UInt8.ofNat n) < 0) : cls n = 0 := by
  unfold cls; rw [if_neg h1, if_neg h2, if_neg h3, if_neg h4, if_neg (by unfold signBytes; omega)]
theorem cls_bounds (n : Nat) : 0 ≤ cls n ∧ cls n ≤ 5 := by
  unfold cls; repeat' split
  all_goals omega

def cl (c : UInt8) : Int := cls c.toNat
def isSpace (c : UInt8) : Bool := cl c == 1
def isLetter (c : UInt8) : Bool := cl c == 2
def isDigit (c : UInt8) : Bool := cl c == 3
def isSign (c : UInt8) : Bool := cl c == 4
def isPart (c : UInt8) : Bool := cl c == 2 || cl c == 3 || cl c == 5

/-- P3.2: what a name is. -/
def nameOk (l : List UInt8) : Bool := (match l with | [] => false | c :: _ => isLetter c) && decide (l.length ≤ 32) && l.all isPart
/-- The value of digits. -/
def value (l : List UInt8) : Nat := l.foldl (fun a c => 10 * a + (c.toNat - 48)) 0
/-- A number without superfluous digits, at most 2^40. -/
def numOk (l : List UInt8) : Bool := (l.length == 1 || l.head? != some 48) && decide (value l ≤ 1099511627776)

structure Tok where
  kind : Int
  text : List UInt8
  num : Int
  pos : Int
  deriving DecidableEq

def validT (t : Tok) : Bool :=
  if t.kind = 1 then nameOk t.text && decide (t.num = 0)
  else if t.kind = 2 then decide (t.text = []) && decide (0 ≤ t.num) && decide (t.num ≤ 1099511627776)
  else if t.kind = 3 then (match t.text with | [c] => isSign c | _ => false) && decide (t.num = 0)
  else false

inductive StepR where
  | err
  | skip (k : Nat)
  | tok (k : Nat) (t : Tok)
  deriving DecidableEq

def runLen (p : UInt8 → Bool) (l : List UInt8) : Nat := (l.takeWhile p).length

/-- What is done at the head of a text that is not empty. -/
def stepL (pos : Nat) (c : UInt8) (l : List UInt8) : StepR :=
  if isSpace c then .skip 1
  else if isLetter c then (if runLen isPart l ≤ 32 then .tok (runLen isPart l) ⟨1, l.take (runLen isPart l), 0, pos⟩ else .err)
  else if isDigit c then (if numOk (l.take (runLen isDigit l)) then .tok (runLen isDigit l) ⟨2, [], value (l.take (runLen isDigit l)), pos⟩ else .err)
  else if isSign c then (if l.take 2 = [47, 47] then .skip (runLen (· != 10) l) else .tok 1 ⟨3, [c], 0, pos⟩)
  else .err

/-- A token ahead of the tokens that follow. -/
def consT (t : Tok) (x : Except Nat (List Tok)) : Except Nat (List Tok) := match x with | .ok ts => .ok (t :: ts) | .error e => .error e
/-- The tokens of a text that begins at pos, or the place of an error. -/
def lexF : Nat → Nat → List UInt8 → Except Nat (List Tok)
  | 0, _, _ => .ok []
  | _ + 1, _, [] => .ok []
  | f + 1, pos, c :: r =>
    match stepL pos c (c :: r) with
    | .err => .error pos
    | .skip k => lexF f (pos + k) ((c :: r).drop k)
    | .tok k t => consT t (lexF f (pos + k) ((c :: r).drop k))

def lexAt (pos : Nat) (l : List UInt8) : Except Nat (List Tok) := lexF l.length pos l

theorem cl_sign_47 {l : List UInt8} {c : UInt8} {r : List UInt8} (hl : l = c :: r) (h : l.take 2 = [47, 47]) : c = 47 := by
  subst hl; cases r <;> simp at h; exact h.1

theorem stepL_pos {pos : Nat} {c : UInt8} {r : List UInt8} : (∀ k, stepL pos c (c :: r) = .skip k → 1 ≤ k) ∧ (∀ k t, stepL pos c (c :: r) = .tok k t → 1 ≤ k) := by
  have hp : isLetter c = true → 1 ≤ runLen isPart (c :: r) := by
    intro h; unfold runLen; rw [List.takeWhile_cons_of_pos (by unfold isPart; unfold isLetter at h; simp [h])]; simp
  have hd : isDigit c = true → 1 ≤ runLen isDigit (c :: r) := by
    intro h; unfold runLen; rw [List.takeWhile_cons_of_pos h]; simp
  constructor
  · intro k h
    unfold stepL at h
    split at h
    · injection h with h; omega
    split at h
    · split at h <;> cases h
    split at h
    · split at h <;> cases h
    split at h
    · split at h
      · rename_i h47
        injection h with h
        have := cl_sign_47 rfl h47
        subst this
        rw [← h]; unfold runLen; rw [List.takeWhile_cons_of_pos (by decide)]; simp
      · cases h
    · cases h
  · intro k t h
    unfold stepL at h
    split at h
    · cases h
    split at h
    · rename_i hl
      split at h
      · injection h with h1 h2; rw [← h1]; exact hp hl
      · cases h
    split at h
    · rename_i hl
      split at h
      · injection h with h1 h2; rw [← h1]; exact hd hl
      · cases h
    split at h
    · split at h
      · cases h
      · injection h with h1 h2; omega
    · cases h

theorem lexF_fuel : ∀ (n : Nat) (f g pos : Nat) (l : List UInt8), l.length ≤ n → l.length ≤ f → l.length ≤ g → lexF f pos l = lexF g pos l := by
  intro n
  induction n with
  | zero =>
    intro f g pos l hn _ _
    have : l = [] := List.length_eq_zero_iff.1 (by omega)
    subst this
    cases f <;> cases g <;> rfl
  | succ n ih =>
    intro f g pos l hn hf hg
    cases l with
    | nil => cases f <;> cases g <;> rfl
    | cons c r =>
      cases f with
      | zero => simp at hf
      | succ f =>
        cases g with
        | zero => simp at hg
        | succ g =>
          simp only [List.length_cons] at hn hf hg
          unfold lexF
          have hs := stepL_pos (pos := pos) (c := c) (r := r)
          cases h : stepL pos c (c :: r) with
          | err => rfl
          | skip k =>
            have hk := hs.1 k h
            exact ih _ _ _ _ (by simp; omega) (by simp; omega) (by simp; omega)
          | tok k t =>
            have hk := hs.2 k t h
            show consT t (lexF f (pos + k) ((c :: r).drop k)) = consT t (lexF g (pos + k) ((c :: r).drop k))
            rw [ih f g (pos + k) ((c :: r).drop k) (by simp; omega) (by simp; omega) (by simp; omega)]

theorem lexAt_nil (pos : Nat) : lexAt pos [] = .ok [] := rfl
theorem lexAt_err {pos : Nat} {c : UInt8} {r : List UInt8} (h : stepL pos c (c :: r) = .err) : lexAt pos (c :: r) = .error pos := by
  unfold lexAt; simp only [List.length_cons]; unfold lexF; rw [h]
theorem lexAt_skip {pos : Nat} {c : UInt8} {r : List UInt8} {k : Nat} (h : stepL pos c (c :: r) = .skip k) : lexAt pos (c :: r) = lexAt (pos + k) ((c :: r).drop k) := by
  have hk := stepL_pos.1 k h
  unfold lexAt; simp only [List.length_cons]
  conv => lhs; unfold lexF
  rw [h]
  exact lexF_fuel _ _ _ _ _ (Nat.le_refl _) (by simp; omega) (Nat.le_refl _)
theorem lexAt_tok {pos : Nat} {c : UInt8} {r : List UInt8} {k : Nat} {t : Tok} (h : stepL pos c (c :: r) = .tok k t) :
    lexAt pos (c :: r) = consT t (lexAt (pos + k) ((c :: r).drop k)) := by
  have hk := stepL_pos.2 k t h
  unfold lexAt; simp only [List.length_cons]
  conv => lhs; unfold lexF
  rw [h]
  show consT t (lexF r.length (pos + k) ((c :: r).drop k)) = consT t (lexF ((c :: r).drop k).length (pos + k) ((c :: r).drop k))
  rw [lexF_fuel _ r.length ((c :: r).drop k).length (pos + k) ((c :: r).drop k) (Nat.le_refl _) (by simp; omega) (Nat.le_refl _)]

end Go.Proofs.YtabdpmcdlojliaaDoor
