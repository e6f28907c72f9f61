/- The walk of the statement: part 1. -/
import Derived.Test.YtggcbblikgankaaGreatDoorZ5
set_option linter.unusedVariables false
set_option linter.unusedSimpArgs false
section
namespace Go.Proofs.YtggcbblikgankaaGreatDoor
open Go.RowKit
def onesN (n : Nat) : Nat := if n = 0 then 0 else n % 2 + onesN (n / 2)
termination_by n
decreasing_by omega
theorem onesN_zero : onesN 0 = 0 := by rw [onesN]; rfl
theorem onesN_step {n : Nat} (h : n ≠ 0) : onesN n = n % 2 + onesN (n / 2) := by rw [onesN, if_neg h]
theorem onesN_half (n : Nat) : onesN n = n % 2 + onesN (n / 2) := by
 by_cases h : n = 0
 ·subst h; rw [onesN_zero]
 ·exact onesN_step h
theorem bit_add : ∀ (j S k : Nat), S.testBit j = false → (S + 2 ^ j).testBit k = (decide (k = j) || S.testBit k)
 | 0, S, k, h => by
  rw [Nat.testBit_zero] at h
  have h2 : S % 2 = 0 := by have := of_decide_eq_false h; omega
  rw [Nat.pow_zero]
  rcases k with _ | k
  ·rw [Nat.testBit_zero]
   have : (S + 1) % 2 = 1 := by omega
   simp [this]
  ·rw [Nat.testBit_succ, Nat.testBit_succ, show (S + 1) / 2 = S / 2 by omega]
   simp
 | j + 1, S, k, h => by
  rw [Nat.testBit_succ] at h
  have e1 : (S + 2 ^ (j + 1)) / 2 = S / 2 + 2 ^ j := by rw [Nat.pow_succ]; omega
  have e2 : (S + 2 ^ (j + 1)) % 2 = S % 2 := by rw [Nat.pow_succ]; omega
  rcases k with _ | k
  ·rw [Nat.testBit_zero, Nat.testBit_zero, e2]
   simp
  ·rw [Nat.testBit_succ, Nat.testBit_succ, e1, bit_add j (S / 2) k h]
   simp
theorem onesN_add : ∀ (j S : Nat), S.testBit j = false → onesN (S + 2 ^ j) = onesN S + 1
 | 0, S, h => by
  rw [Nat.testBit_zero] at h
  have h2 : S % 2 = 0 := by have := of_decide_eq_false h; omega
  rw [Nat.pow_zero, onesN_half (S + 1), onesN_half S, show (S + 1) / 2 = S / 2 by omega]
  omega
 | j + 1, S, h => by
  rw [Nat.testBit_succ] at h
  have e1 : (S + 2 ^ (j + 1)) / 2 = S / 2 + 2 ^ j := by rw [Nat.pow_succ]; omega
  have e2 : (S + 2 ^ (j + 1)) % 2 = S % 2 := by rw [Nat.pow_succ]; omega
  rw [onesN_half (S + 2 ^ (j + 1)), e1, e2, onesN_add j (S / 2) h, onesN_half S]
  omega
theorem bit_out {S m k : Nat} (h : S < 2 ^ m) (hk : m ≤ k) : S.testBit k = false :=
 Nat.testBit_lt_two_pow (Nat.lt_of_lt_of_le h (Nat.pow_le_pow_right (by decide) hk))
theorem add_lt {S m j : Nat} (h : S < 2 ^ m) (hj : j < m) (hf : S.testBit j = false) : S + 2 ^ j < 2 ^ m :=
 Nat.lt_pow_two_of_testBit _ fun k hk => by
  rw [bit_add j S k hf, bit_out h hk]
  simp; omega
theorem onesN_le : ∀ (m S : Nat), S < 2 ^ m → onesN S ≤ m
 | 0, S, h => by
  have : S = 0 := by simpa using h
  subst this; rw [onesN_zero]; exact Nat.le_refl _
 | m + 1, S, h => by
  rw [onesN_half]
  have := onesN_le m (S / 2) (by rw [Nat.pow_succ] at h; omega)
  omega
section
variable {n m i j S : Nat} {c : Nat → Nat → Int} {t t' : Nat → Nat}
structure TailS (n m : Nat) (c : Nat → Nat → Int) (i S : Nat) (t : Nat → Nat) : Prop where
 lt : ∀ r, i ≤ r → r < n → t r < m
 free : ∀ r, i ≤ r → r < n → S.testBit (t r) = false
 ok : ∀ r, i ≤ r → r < n → 0 ≤ c r (t r)
 inj : ∀ r r', i ≤ r → r < n → i ≤ r' → r' < n → t r = t r' → r = r'
def tsum (n : Nat) (c : Nat → Nat → Int) (i : Nat) (t : Nat → Nat) : Int := sumT (fun r => c (i + r) (t (i + r))) (n - i)
theorem tsum_succ (hi : i < n) : tsum n c i t = c i (t i) + tsum n c (i + 1) t := by
 unfold tsum
 rw [show n - i = 1 + (n - (i + 1)) by omega, sumT_split]
 have h1 : sumT (fun r => c (i + r) (t (i + r))) 1 = c i (t i) := by
  show 0 + c (i + 0) (t (i + 0)) = c i (t i)
  rw [Nat.add_zero]; omega
 rw [h1]
 congr 1
 exact sumT_congr fun r _ => by rw [show i + (1 + r) = i + 1 + r by omega]
theorem tsum_congr (h : ∀ r, i ≤ r → r < n → t r = t' r) : tsum n c i t = tsum n c i t' := by
 unfold tsum
 exact sumT_congr fun r hr => by rw [h (i + r) (by omega) (by omega)]
theorem TailS.uncons (h : TailS n m c i S t) (hi : i < n) : t i < m ∧ S.testBit (t i) = false ∧ 0 ≤ c i (t i) ∧ TailS n m c (i + 1) (S + 2 ^ t i) t := by
 have hf := h.free i (Nat.le_refl _) hi
 refine ⟨h.lt i (Nat.le_refl _) hi, hf, h.ok i (Nat.le_refl _) hi, fun r h1 h2 => h.lt r (by omega) h2, fun r h1 h2 => ?_, fun r h1 h2 => h.ok r (by omega) h2, fun r r' h1 h2 h3 h4 => h.inj r r' (by omega) h2 (by omega) h4⟩
 rw [bit_add _ _ _ hf, h.free r (by omega) h2, Bool.or_false, decide_eq_false_iff_not]
 intro e
 have := h.inj r i (by omega) h2 (Nat.le_refl _) hi e
 omega
theorem TailS.cons (hi : i < n) (hj : j < m) (hf : S.testBit j = false) (hc : 0 ≤ c i j) (h : TailS n m c (i + 1) (S + 2 ^ j) t) :
  TailS n m c i S (fun r => if r = i then j else t r) ∧ tsum n c i (fun r => if r = i then j else t r) = c i j + tsum n c (i + 1) t := by
 have hfr : ∀ r, i + 1 ≤ r → r < n → t r ≠ j ∧ S.testBit (t r) = false := fun r h1 h2 => by
  have := h.free r h1 h2
  rw [bit_add _ _ _ hf, Bool.or_eq_false_iff, decide_eq_false_iff_not] at this
  exact this
 refine ⟨⟨fun r h1 h2 => ?_, fun r h1 h2 => ?_, fun r h1 h2 => ?_, fun r r' h1 h2 h3 h4 e => ?_⟩, ?_⟩
 ·by_cases e : r = i
  ·simp only [e, if_true]; exact hj
  ·simp only [e, if_false]; exact h.lt r (by omega) h2
 ·by_cases e : r = i
  ·simp only [e, if_true]; exact hf
  ·simp only [e, if_false]; exact (hfr r (by omega) h2).2
 ·by_cases e : r = i
  ·simp only [e, if_true]; exact hc
  ·simp only [e, if_false]; exact h.ok r (by omega) h2
 ·by_cases e1 : r = i
  ·by_cases e2 : r' = i
   ·omega
   ·simp only [e1, e2, if_true, if_false] at e
    exact absurd e.symm (hfr r' (by omega) h4).1
  ·by_cases e2 : r' = i
   ·simp only [e1, e2, if_true, if_false] at e
    exact absurd e (hfr r (by omega) h2).1
   ·simp only [e1, e2, if_false] at e
    exact h.inj r r' (by omega) h2 (by omega) h4 e
 ·rw [tsum_succ hi]
  simp only [if_true]
  congr 1
  exact tsum_congr fun r h1 _ => by rw [if_neg (by omega)]
def OptS (n m : Nat) (c : Nat → Nat → Int) (i S : Nat) (v : Int) : Prop :=
 (v = -1 ∧ ∀ t, ¬ TailS n m c i S t) ∨ (0 ≤ v ∧ (∃ t, TailS n m c i S t ∧ tsum n c i t = v) ∧ ∀ t, TailS n m c i S t → v ≤ tsum n c i t)
theorem OptS.last (h : n ≤ i) : OptS n m c i S 0 := by
 have hz : ∀ t, tsum n c i t = 0 := fun t => by unfold tsum; rw [show n - i = 0 by omega]; rfl
 exact Or.inr ⟨Int.le_refl _, ⟨fun _ => 0, ⟨fun r h1 h2 => by omega, fun r h1 h2 => by omega, fun r h1 h2 => by omega, fun r r' h1 h2 => by omega⟩, hz _⟩, fun t _ => by rw [hz]; exact Int.le_refl _⟩
theorem OptS.le {v : Int} (h : OptS n m c i S v) (ht : TailS n m c i S t) : 0 ≤ v ∧ v ≤ tsum n c i t := by
 rcases h with ⟨_, h⟩ | ⟨h1, _, h2⟩
 ·exact absurd ht (h t)
 ·exact ⟨h1, h2 t ht⟩
def stepJ (c : Nat → Nat → Int) (L : Nat → Int) (i S : Nat) (acc : Int) (j : Nat) : Int :=
 if S.testBit j = true ∨ c i j = -1 then acc else if 0 ≤ L (S + 2 ^ j) ∧ (acc < 0 ∨ c i j + L (S + 2 ^ j) < acc) then c i j + L (S + 2 ^ j) else acc
def foldJ (c : Nat → Nat → Int) (L : Nat → Int) (i S : Nat) : Nat → Int
 | 0 => -1
 | k + 1 => stepJ c L i S (foldJ c L i S k) k
def Cand (c : Nat → Nat → Int) (L : Nat → Int) (i S j : Nat) (v : Int) : Prop := S.testBit j = false ∧ 0 ≤ c i j ∧ 0 ≤ L (S + 2 ^ j) ∧ v = c i j + L (S + 2 ^ j)
theorem fold_least {L : Nat → Int} : ∀ (k : Nat), (∀ j, j < k → c i j = -1 ∨ 0 ≤ c i j) →
  (foldJ c L i S k = -1 ∧ ∀ j, j < k → ∀ v, ¬ Cand c L i S j v) ∨ (0 ≤ foldJ c L i S k ∧ (∃ j, j < k ∧ Cand c L i S j (foldJ c L i S k)) ∧ ∀ j, j < k → ∀ v, Cand c L i S j v → foldJ c L i S k ≤ v)
 | 0, _ => Or.inl ⟨rfl, fun j hj => by omega⟩
 | k + 1, hc => by
  have ih := fold_least (L := L) k (fun j hj => hc j (by omega))
  show (stepJ c L i S (foldJ c L i S k) k = -1 ∧ _) ∨ (0 ≤ stepJ c L i S (foldJ c L i S k) k ∧ (∃ j, j < k + 1 ∧ Cand c L i S j (stepJ c L i S (foldJ c L i S k) k)) ∧ ∀ j, j < k + 1 → ∀ v, Cand c L i S j v → stepJ c L i S (foldJ c L i S k) k ≤ v)
  generalize foldJ c L i S k = acc at *
  have last : ∀ {P : Nat → Prop}, (∀ j, j < k → P j) → P k → ∀ j, j < k + 1 → P j := fun h1 h2 j hj => by
   by_cases e : j = k
   ·rw [e]; exact h2
   ·exact h1 j (by omega)
  unfold stepJ
  by_cases h1 : S.testBit k = true ∨ c i k = -1
  ·have hno : ∀ v, ¬ Cand c L i S k v := fun v hv => by
    rcases h1 with h1 | h1
    ·rw [hv.1] at h1; cases h1
    ·have := hv.2.1; omega
   rw [if_pos h1]
   rcases ih with ⟨e, hn⟩ | ⟨h0, ⟨j, hj, hcj⟩, hl⟩
   ·exact Or.inl ⟨e, last hn hno⟩
   ·exact Or.inr ⟨h0, ⟨j, by omega, hcj⟩, last hl (fun v hv => absurd hv (hno v))⟩
  ·rw [if_neg h1]
   have hb : S.testBit k = false := by
    cases h : S.testBit k with
    | true => exact absurd (Or.inl h) h1
    | false => rfl
   have hck : 0 ≤ c i k := (hc k (by omega)).resolve_left fun h => h1 (Or.inr h)
   by_cases h2 : 0 ≤ L (S + 2 ^ k) ∧ (acc < 0 ∨ c i k + L (S + 2 ^ k) < acc)
   ·rw [if_pos h2]
    refine Or.inr ⟨by omega, ⟨k, by omega, hb, hck, h2.1, rfl⟩, last (fun j hj v hv => ?_) (fun v hv => by rw [hv.2.2.2]; exact Int.le_refl _)⟩
    rcases ih with ⟨_, hn⟩ | ⟨h0, _, hl⟩
    ·exact absurd hv (hn j hj v)
    ·have := hl j hj v hv; omega
   ·rw [if_neg h2]
    rcases ih with ⟨e, hn⟩ | ⟨h0, ⟨j, hj, hcj⟩, hl⟩
    ·refine Or.inl ⟨e, last hn (fun v hv => h2 ⟨hv.2.2.1, Or.inl (by omega)⟩)⟩
    ·refine Or.inr ⟨h0, ⟨j, by omega, hcj⟩, last hl (fun v hv => ?_)⟩
     have h3 := hv.2.2.1
     have h4 := hv.2.2.2
     by_cases h5 : c i k + L (S + 2 ^ k) < acc
     ·exact absurd ⟨h3, Or.inr h5⟩ h2
     ·omega
theorem fold_opt {L : Nat → Int} (hi : i < n) (hc : ∀ j, j < m → c i j = -1 ∨ 0 ≤ c i j) (hL : ∀ j, j < m → S.testBit j = false → OptS n m c (i + 1) (S + 2 ^ j) (L (S + 2 ^ j))) : OptS n m c i S (foldJ c L i S m) := by
 have key : ∀ t, TailS n m c i S t → ∃ v, Cand c L i S (t i) v ∧ v ≤ tsum n c i t := fun t ht => by
  obtain ⟨h1, h2, h3, h4⟩ := ht.uncons hi
  have h5 := (hL _ h1 h2).le h4
  exact ⟨_, ⟨h2, h3, h5.1, rfl⟩, by rw [tsum_succ hi]; omega⟩
 rcases fold_least (c := c) (i := i) (S := S) (L := L) m hc with ⟨e, hn⟩ | ⟨h0, ⟨j, hj, hb, hcj, hLj, ev⟩, hl⟩
 ·refine Or.inl ⟨e, fun t ht => ?_⟩
  obtain ⟨v, hv, _⟩ := key t ht
  exact hn _ (ht.lt i (Nat.le_refl _) hi) v hv
 ·refine Or.inr ⟨h0, ?_, fun t ht => ?_⟩
  ·rcases hL j hj hb with ⟨e, _⟩ | ⟨_, ⟨t, ht, hs⟩, _⟩
   ·omega
   ·obtain ⟨h1, h2⟩ := TailS.cons hi hj hb hcj ht
    exact ⟨_, h1, by rw [h2, hs, ev]⟩
  ·obtain ⟨v, hv, hle⟩ := key t ht
   exact Int.le_trans (hl _ (ht.lt i (Nat.le_refl _) hi) v hv) hle
structure RefAt (n m : Nat) (c : Nat → Nat → Int) (best : Int) (i : Nat) (t : Nat → Nat) (S : Nat) : Prop where
 bits : ∀ k, S.testBit k = true ↔ ∃ r, r < i ∧ t r = k
 ones : onesN S = i
 bound : S < 2 ^ m
 ex : ∃ s, CastN n m c s ∧ (∀ r, r < i → s r = t r) ∧ sumT (fun r => c r (s r)) n = best
 least : ∀ r, r < i → ∀ j, j < t r → ¬ CheapAt n m c r j t best
variable {best u v : Int}
theorem RefAt.zero (h : ∃ s, CastN n m c s ∧ sumT (fun r => c r (s r)) n = best) : RefAt n m c best 0 t 0 := by
 obtain ⟨s, h1, h2⟩ := h
 exact ⟨fun k => ⟨fun h => by simp at h, fun ⟨r, hr, _⟩ => by omega⟩, onesN_zero, Nat.pow_pos (by decide), ⟨s, h1, fun r hr => by omega, h2⟩, fun r hr => by omega⟩
theorem RefAt.tail (h : RefAt n m c best i t S) {s : Nat → Nat} (hi : i ≤ n) (hs : CastN n m c s) (hp : ∀ r, r < i → s r = t r) : TailS n m c i S s ∧ sumT (fun r => c r (s r)) n = sumT (fun r => c r (t r)) i + tsum n c i s := by
 refine ⟨⟨fun r _ h2 => hs.lt r h2, fun r h1 h2 => ?_, fun r _ h2 => hs.ok r h2, fun r r' _ h2 _ h4 e => hs.inj r r' h2 h4 e⟩, ?_⟩
 ·cases hb : S.testBit (s r) with
  | false => rfl
  | true =>
   obtain ⟨q, hq, e⟩ := (h.bits _).1 hb
   have := hs.inj q r (by omega) h2 (by rw [hp q hq, e])
   omega
 ·unfold tsum
  rw [show sumT (fun r => c r (s r)) n = sumT (fun r => c r (s r)) (i + (n - i)) by rw [show i + (n - i) = n by omega], sumT_split]
  congr 1
  exact sumT_congr fun r hr => by rw [hp r hr]
theorem RefAt.glue (h : RefAt n m c best i t S) (hi : i ≤ n) (ht : TailS n m c i S t') : CastN n m c (fun r => if r < i then t r else t' r) ∧ sumT (fun r => c r (if r < i then t r else t' r)) n = sumT (fun r => c r (t r)) i + tsum n c i t' := by
 obtain ⟨s, h1, h2, _⟩ := h.ex
 have hno : ∀ r r', r < i → i ≤ r' → r' < n → t r ≠ t' r' := fun r r' hr h3 h4 e => by
  have := ht.free r' h3 h4
  rw [(h.bits _).2 ⟨r, hr, e⟩] at this
  cases this
 refine ⟨⟨fun r hr => ?_, fun r hr => ?_, fun r r' hr hr' e => ?_⟩, ?_⟩
 ·by_cases e : r < i
  ·simp only [e, if_true]; rw [← h2 r e]; exact h1.lt r hr
  ·simp only [e, if_false]; exact ht.lt r (by omega) hr
 ·by_cases e : r < i
  ·simp only [e, if_true]; rw [← h2 r e]; exact h1.ok r hr
  ·simp only [e, if_false]; exact ht.ok r (by omega) hr
 ·by_cases e1 : r < i
  ·by_cases e2 : r' < i
   ·simp only [e1, e2, if_true] at e
    rw [← h2 r e1, ← h2 r' e2] at e
    exact h1.inj r r' hr hr' e
   ·simp only [e1, e2, if_true, if_false] at e
    exact absurd e (hno r r' e1 (by omega) hr')
  ·by_cases e2 : r' < i
   ·simp only [e1, e2, if_true, if_false] at e
    exact absurd e.symm (hno r' r e2 (by omega) hr)
   ·simp only [e1, e2, if_false] at e
    exact ht.inj r r' (by omega) hr (by omega) hr' e
 ·rw [show sumT (fun r => c r (if r < i then t r else t' r)) n = sumT (fun r => c r (if r < i then t r else t' r)) (i + (n - i)) by rw [show i + (n - i) = n by omega], sumT_split]
  unfold tsum
  congr 1
  ·exact sumT_congr fun r hr => by rw [if_pos hr]
  ·exact sumT_congr fun r _ => by rw [if_neg (by omega)]
theorem RefAt.value (h : RefAt n m c best i t S) (hi : i ≤ n) (hbest : ∀ s, CastN n m c s → best ≤ sumT (fun r => c r (s r)) n) (hv : OptS n m c i S v) : 0 ≤ v ∧ sumT (fun r => c r (t r)) i + v = best := by
 obtain ⟨s, h1, h2, h3⟩ := h.ex
 obtain ⟨h4, h5⟩ := h.tail hi h1 h2
 rcases hv with ⟨_, hn⟩ | ⟨h0, ⟨t', ht', hs⟩, hl⟩
 ·exact absurd h4 (hn s)
 ·obtain ⟨g1, g2⟩ := h.glue hi ht'
  have h6 := hbest _ g1
  have h7 := hl s h4
  exact ⟨h0, by omega⟩
theorem RefAt.cheap (h : RefAt n m c best i t S) (hi : i < n) (hbest : ∀ s, CastN n m c s → best ≤ sumT (fun r => c r (s r)) n) (hj : j < m) (hf : S.testBit j = false) (hc : 0 ≤ c i j) (hv : OptS n m c i S v) (hu : OptS n m c (i + 1) (S + 2 ^ j) u) :
  CheapAt n m c i j t best ↔ 0 ≤ u ∧ c i j + u = v := by
 obtain ⟨hv0, hval⟩ := h.value (by omega) hbest hv
 constructor
 ·rintro ⟨s, h1, h2, h3, h4⟩
  obtain ⟨h5, h6⟩ := h.tail (by omega) h1 h2
  obtain ⟨_, _, _, h7⟩ := h5.uncons hi
  rw [h3] at h7
  have h8 := hu.le h7
  have h9 := tsum_succ (c := c) (t := s) hi
  rw [h3] at h9
  refine ⟨h8.1, ?_⟩
  rcases hu with ⟨e, _⟩ | ⟨_, ⟨t', ht', hs⟩, _⟩
  ·omega
  ·obtain ⟨g1, g2⟩ := TailS.cons hi hj hf hc ht'
   have := hv.le g1
   omega
 ·rintro ⟨h0, he⟩
  rcases hu with ⟨e, _⟩ | ⟨_, ⟨t', ht', hs⟩, _⟩
  ·omega
  ·obtain ⟨g1, g2⟩ := TailS.cons hi hj hf hc ht'
   obtain ⟨k1, k2⟩ := h.glue (by omega) g1
   refine ⟨_, k1, fun r hr => if_pos hr, ?_, ?_⟩
   ·simp
   ·rw [k2]; omega
theorem RefAt.not (h : RefAt n m c best i t S) (hi : i < n) (hb : S.testBit j = true ∨ c i j < 0) : ¬ CheapAt n m c i j t best := by
 rintro ⟨s, h1, h2, h3, _⟩
 have h5 := (h.tail (by omega) h1 h2).1
 rcases hb with hb | hb
 ·have := h5.free i (Nat.le_refl _) hi
  rw [h3, hb] at this; cases this
 ·have := h5.ok i (Nat.le_refl _) hi
  rw [h3] at this; omega
theorem RefAt.found (h : RefAt n m c best i t S) (hi : i < n) : ∃ j, j < m ∧ CheapAt n m c i j t best := by
 obtain ⟨s, h1, h2, h3⟩ := h.ex
 exact ⟨s i, h1.lt i hi, s, h1, h2, rfl, h3⟩
theorem RefAt.next (h : RefAt n m c best i t S) (hi : i < n) (hj : CheapAt n m c i j t best) (hl : ∀ k, k < j → ¬ CheapAt n m c i k t best) : RefAt n m c best (i + 1) (updN t i j) (S + 2 ^ j) := by
 obtain ⟨s, h1, h2, h3, h4⟩ := hj
 obtain ⟨h5, _⟩ := h.tail (by omega) h1 h2
 have hf := h5.free i (Nat.le_refl _) hi
 have hjm := h1.lt i hi
 rw [h3] at hf hjm
 refine ⟨fun k => ?_, by rw [onesN_add j S hf, h.ones], add_lt h.bound hjm hf, ⟨s, h1, fun r hr => ?_, h4⟩, fun r hr q hq => ?_⟩
 ·rw [bit_add j S k hf, Bool.or_eq_true, decide_eq_true_eq, h.bits k]
  constructor
  ·rintro (e | ⟨r, hr, e⟩)
   ·exact ⟨i, by omega, by rw [updN_self, e]⟩
   ·exact ⟨r, by omega, by rw [updN_lt hr]; exact e⟩
  ·rintro ⟨r, hr, e⟩
   by_cases e2 : r = i
   ·subst e2
    rw [updN_self] at e
    exact Or.inl e.symm
   ·exact Or.inr ⟨r, by omega, by rw [updN_lt (by omega)] at e; exact e⟩
 ·by_cases e : r = i
  ·subst e; rw [updN_self]; exact h3
  ·rw [updN_lt (by omega)]; exact h2 r (by omega)
 ·by_cases e : r = i
  ·subst e
   rw [updN_self] at hq
   intro hc
   exact hl q hq ((cheapAt_congr fun r hr => updN_lt hr).1 hc)
  ·rw [updN_lt (by omega)] at hq
   intro hc
   exact h.least r (by omega) q hq ((cheapAt_congr fun a ha => updN_lt (by omega)).1 hc)
theorem first_one {taken : List Bool} (h : FirstOk n m c best n t taken) (h' : RefAt n m c best n t' S) : ∀ r, r < n → t r = t' r := by
 obtain ⟨s, a1, a2, a3⟩ := h.ex
 obtain ⟨s', b1, b2, b3⟩ := h'.ex
 have key : ∀ k, k ≤ n → ∀ r, r < k → t r = t' r := by
  intro k
  induction k with
  | zero => exact fun _ r hr => by omega
  | succ k ih =>
   intro hk r hr
   by_cases e : r = k
   ·subst e
    have hp := ih (by omega)
    rcases Nat.lt_trichotomy (t r) (t' r) with hlt | heq | hgt
    ·exact absurd ⟨s, a1, fun q hq => (a2 q (by omega)).trans (hp q hq), a2 r (by omega), a3⟩ (h'.least r (by omega) _ hlt)
    ·exact heq
    ·exact absurd ⟨s', b1, fun q hq => (b2 q (by omega)).trans (hp q hq).symm, b2 r (by omega), b3⟩ (h.least r (by omega) _ hgt)
   ·exact ih (by omega) r (by omega)
 exact key n (Nat.le_refl _)
end
end Go.Proofs.YtggcbblikgankaaGreatDoor
end
