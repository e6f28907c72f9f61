/- Plain laws: digits, their value, and the numerals of strconv. No program in sight. -/
import Derived.Test.YtabdpmcdlojliaaDoorP
import Derived.Lib.AtoiAllCases
import Derived.Lib.ItoaNum
import Derived.Lib.ItoaMem
namespace Go.Proofs.YtabdpmcdlojliaaDoor

theorem isDigit_iff (c : UInt8) : isDigit c = true ↔ 48 ≤ c.toNat ∧ c.toNat ≤ 57 := by
  unfold isDigit cl cls
  constructor
  · intro h
    split at h
    · simp at h
    split at h
    · assumption
    split at h
    · simp at h
    split at h
    · simp at h
    split at h <;> simp at h
  · intro h
    rw [if_neg (by omega), if_pos h]; rfl

def foldVal (acc : Nat) (l : List UInt8) : Nat := l.foldl (fun a c => 10 * a + (c.toNat - 48)) acc
theorem foldVal_ge : ∀ (l : List UInt8) (acc : Nat), acc ≤ foldVal acc l
  | [], acc => Nat.le_refl _
  | c :: r, acc => by
    have := foldVal_ge r (10 * acc + (c.toNat - 48))
    show acc ≤ foldVal (10 * acc + (c.toNat - 48)) r
    omega
theorem value_eq (l : List UInt8) : value l = foldVal 0 l := rfl
theorem value_snoc (l : List UInt8) (c : UInt8) : value (l ++ [c]) = 10 * value l + (c.toNat - 48) := by
  unfold value; rw [List.foldl_append]; rfl

theorem parse_digits : ∀ (l : List UInt8) (acc : Nat), l.all isDigit = true → acc < 18446744073709551616 →
    (Lib.parseUint10 acc l = .ok (foldVal acc l) ∧ foldVal acc l < 18446744073709551616) ∨ (Lib.parseUint10 acc l = .range ∧ 18446744073709551616 ≤ foldVal acc l)
  | [], acc, _, ha => Or.inl ⟨rfl, ha⟩
  | c :: r, acc, h, ha => by
    rw [List.all_cons, Bool.and_eq_true] at h
    have hc := (isDigit_iff c).1 h.1
    have hg := foldVal_ge r (10 * acc + (c.toNat - 48))
    show (Lib.parseUint10 acc (c :: r) = .ok (foldVal (10 * acc + (c.toNat - 48)) r) ∧ foldVal (10 * acc + (c.toNat - 48)) r < _) ∨ (_ ∧ _ ≤ foldVal (10 * acc + (c.toNat - 48)) r)
    simp only [Lib.parseUint10]
    rw [if_pos hc]
    by_cases h1 : 1844674407370955162 ≤ acc
    · rw [if_pos h1]; right; exact ⟨rfl, by omega⟩
    rw [if_neg h1]
    by_cases h2 : 18446744073709551616 ≤ acc * 10 + (c.toNat - 48)
    · rw [if_pos h2]; right; exact ⟨rfl, by omega⟩
    rw [if_neg h2, show acc * 10 + (c.toNat - 48) = 10 * acc + (c.toNat - 48) by omega]
    exact parse_digits r _ h.2 (by omega)

theorem atoi_digits {l : List UInt8} (hne : l ≠ []) (h : l.all isDigit = true) :
    (Lib.atoiAll l = .ok (value l) ∧ value l < 9223372036854775808) ∨ (Lib.atoiAll l = .range ∧ 9223372036854775808 ≤ value l) := by
  cases l with
  | nil => exact absurd rfl hne
  | cons c r =>
    have hc := (isDigit_iff c).1 (by rw [List.all_cons, Bool.and_eq_true] at h; exact h.1)
    rw [Lib.atoiAll_plain c r (by omega) (by omega)]
    unfold Lib.parseMag
    rw [if_neg hne]
    rcases parse_digits (c :: r) 0 h (by omega) with ⟨e, hb⟩ | ⟨e, hb⟩
    · rw [e, ← value_eq]
      simp only [Lib.signless]
      by_cases hv : 9223372036854775808 ≤ value (c :: r)
      · rw [if_pos hv]; right; exact ⟨rfl, hv⟩
      · rw [if_neg hv]; left; exact ⟨rfl, by omega⟩
    · rw [e]; right; exact ⟨rfl, by rw [value_eq]; omega⟩

/-- No superfluous digit at the head. -/
def lead (l : List UInt8) : Prop := l.length = 1 ∨ l.head? ≠ some 48

theorem toNat_dig {k : Nat} (h : k < 10) : (UInt8.ofNat (48 + k)).toNat = 48 + k := by
  show (48 + k) % 256 = 48 + k; omega
theorem u8_digit {c : UInt8} (h : 48 ≤ c.toNat ∧ c.toNat ≤ 57) : UInt8.ofNat (48 + (c.toNat - 48)) = c := by
  rw [show 48 + (c.toNat - 48) = c.toNat by omega]; exact UInt8.ofNat_toNat
theorem value_pos {l : List UInt8} (hd : l.all isDigit = true) (hne : l ≠ []) (hh : l.head? ≠ some 48) : 1 ≤ value l := by
  cases l with
  | nil => exact absurd rfl hne
  | cons c r =>
    have hc := (isDigit_iff c).1 (by rw [List.all_cons, Bool.and_eq_true] at hd; exact hd.1)
    have : c.toNat ≠ 48 := fun e => hh (by simp; exact UInt8.toNat_inj.1 e)
    have hg := foldVal_ge r (10 * 0 + (c.toNat - 48))
    show 1 ≤ foldVal (10 * 0 + (c.toNat - 48)) r
    omega

theorem decDigits_value : ∀ (n : Nat) (l : List UInt8), l.length = n → l ≠ [] → l.all isDigit = true → lead l → Lib.decDigits (value l) = l
  | 0, l, hn, hne, _, _ => absurd (List.length_eq_zero_iff.1 hn) hne
  | n + 1, l, hn, hne, hd, hl => by
    obtain ⟨r, c, rfl⟩ : ∃ r c, l = r ++ [c] := ⟨l.dropLast, l.getLast hne, (List.dropLast_concat_getLast hne).symm⟩
    rw [List.all_append, Bool.and_eq_true] at hd
    have hc := (isDigit_iff c).1 (by simpa using hd.2)
    rw [value_snoc]
    by_cases hr : r = []
    · subst hr
      rw [show (10 * value [] + (c.toNat - 48)) = c.toNat - 48 by (show 10 * 0 + (c.toNat - 48) = _); omega, Lib.decDigits_one (by omega), u8_digit hc]; rfl
    · have hh : r.head? ≠ some 48 := by
        rcases hl with hl | hl
        · simp at hl; exact absurd hl hr
        · cases r with
          | nil => exact absurd rfl hr
          | cons d s => simpa using hl
      have hv := value_pos hd.1 hr hh
      rw [Lib.decDigits, dif_neg (by omega), show (10 * value r + (c.toNat - 48)) / 10 = value r by omega, show (10 * value r + (c.toNat - 48)) % 10 = c.toNat - 48 by omega,
        u8_digit hc, decDigits_value n r (by simp at hn; exact hn) hr hd.1 (Or.inr hh)]

theorem decDigits_ne (u : Nat) : Lib.decDigits u ≠ [] := by
  rw [Lib.decDigits]; split <;> simp
theorem decDigits_head : ∀ (u : Nat), 1 ≤ u → (Lib.decDigits u).head? ≠ some 48 := by
  intro u
  induction u using Nat.strongRecOn with
  | ind u ih =>
    intro h1
    rw [Lib.decDigits]
    split
    · rename_i h
      simp only [List.head?_cons, ne_eq, Option.some.injEq]
      intro e
      have := congrArg UInt8.toNat e
      rw [toNat_dig h] at this
      have h48 : (48 : UInt8).toNat = 48 := rfl
      rw [h48] at this
      omega
    · have := ih (u / 10) (by omega) (by omega)
      have hne := decDigits_ne (u / 10)
      cases h : Lib.decDigits (u / 10) with
      | nil => exact absurd h hne
      | cons d s => rw [h] at this; simpa using this
theorem decDigits_lead (u : Nat) : lead (Lib.decDigits u) := by
  by_cases h : u < 10
  · left; rw [Lib.decDigits_one h]; rfl
  · right; exact decDigits_head u (by omega)
theorem itoa_iff {l : List UInt8} (hne : l ≠ []) (hd : l.all isDigit = true) : Lib.itoa (value l : Int) = l ↔ lead l := by
  rw [Lib.itoa_nonneg]
  constructor
  · intro h; rw [← h]; exact decDigits_lead _
  · intro h; exact decDigits_value _ l rfl hne hd h
theorem numOk_iff (l : List UInt8) : numOk l = true ↔ lead l ∧ value l ≤ 1099511627776 := by
  unfold numOk lead; simp
theorem decDigits_all : ∀ (u : Nat), (Lib.decDigits u).all isDigit = true := by
  intro u
  induction u using Nat.strongRecOn with
  | ind u ih =>
    have hd : ∀ k, k < 10 → isDigit (UInt8.ofNat (48 + k)) = true := by
      intro k hk; rw [isDigit_iff, toNat_dig hk]; omega
    rw [Lib.decDigits]
    split
    · rename_i h; rw [List.all_cons, hd u h]; rfl
    · rw [List.all_append, ih (u / 10) (by omega), List.all_cons, hd (u % 10) (by omega)]; rfl
theorem value_decDigits : ∀ (u : Nat), value (Lib.decDigits u) = u := by
  intro u
  induction u using Nat.strongRecOn with
  | ind u ih =>
    rw [Lib.decDigits]
    split
    · rename_i h
      show 10 * 0 + ((UInt8.ofNat (48 + u)).toNat - 48) = u
      rw [toNat_dig h]; omega
    · rw [value_snoc, ih (u / 10) (by omega), toNat_dig (by omega)]; omega
end Go.Proofs.YtabdpmcdlojliaaDoor
