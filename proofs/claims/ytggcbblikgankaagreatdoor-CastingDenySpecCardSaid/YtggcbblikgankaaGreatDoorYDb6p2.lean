/- The walk of the statement: part 2. -/
import Derived.Test.YtggcbblikgankaaGreatDoorZ5
import Derived.Test.YtggcbblikgankaaGreatDoorYDb6p1
set_option linter.unusedVariables false
set_option linter.unusedSimpArgs false
section
namespace Go.Proofs.YtggcbblikgankaaGreatDoor
open Go.RowKit
def onesN (n : Nat) : Nat := if n = 0 then 0 else n % 2 + onesN (n / 2)
termination_by n
decreasing_by omega
theorem onesN_zero : onesN 0 = 0 := by rw [onesN]; rfl
theorem onesN_step {n : Nat} (h : n ≠ 0) : onesN n = n % 2 + onesN (n / 2) := by rw [onesN, if_neg h]
theorem onesN_half (n : Nat) : onesN n = n % 2 + onesN (n / 2) := by
 by_cases h : n = 0
 ·subst h; rw [onesN_zero]
 ·exact onesN_step h
theorem bit_add : ∀ (j S k : Nat), S.testBit j = false → (S + 2 ^ j).testBit k = (decide (k = j) || S.testBit k)
 | 0, S, k, h => by
  rw [Nat.testBit_zero] at h
  have h2 : S % 2 = 0 := by have := of_decide_eq_false h; omega
  rw [Nat.pow_zero]
  rcases k with _ | k
  ·rw [Nat.testBit_zero]
   have : (S + 1) % 2 = 1 := by omega
   simp [this]
  ·rw [Nat.testBit_succ, Nat.testBit_succ, show (S + 1) / 2 = S / 2 by omega]
   simp
 | j + 1, S, k, h => by
  rw [Nat.testBit_succ] at h
  have e1 : (S + 2 ^ (j + 1)) / 2 = S / 2 + 2 ^ j := by rw [Nat.pow_succ]; omega
  have e2 : (S + 2 ^ (j + 1)) % 2 = S % 2 := by rw [Nat.pow_succ]; omega
  rcases k with _ | k
  ·rw [Nat.testBit_zero, Nat.testBit_zero, e2]
   simp
  ·rw [Nat.testBit_succ, Nat.testBit_succ, e1, bit_add j (S / 2) k h]
   simp
theorem onesN_add : ∀ (j S : Nat), S.testBit j = false → onesN (S + 2 ^ j) = onesN S + 1
 | 0, S, h => by
  rw [Nat.testBit_zero] at h
  have h2 : S % 2 = 0 := by have := of_decide_eq_false h; omega
  rw [Nat.pow_zero, onesN_half (S + 1), onesN_half S, show (S + 1) / 2 = S / 2 by omega]
  omega
 | j + 1, S, h => by
  rw [Nat.testBit_succ] at h
  have e1 : (S + 2 ^ (j + 1)) / 2 = S / 2 + 2 ^ j := by rw [Nat.pow_succ]; omega
  have e2 : (S + 2 ^ (j + 1)) % 2 = S % 2 := by rw [Nat.pow_succ]; omega
  rw [onesN_half (S + 2 ^ (j + 1)), e1, e2, onesN_add j (S / 2) h, onesN_half S]
  omega
theorem bit_out {S m k : Nat} (h : S < 2 ^ m) (hk : m ≤ k) : S.testBit k = false :=
 Nat.testBit_lt_two_pow (Nat.lt_of_lt_of_le h (Nat.pow_le_pow_right (by decide) hk))
theorem add_lt {S m j : Nat} (h : S < 2 ^ m) (hj : j < m) (hf : S.testBit j = false) : S + 2 ^ j < 2 ^ m :=
 Nat.lt_pow_two_of_testBit _ fun k hk => by
  rw [bit_add j S k hf, bit_out h hk]
  simp; omega
theorem onesN_le : ∀ (m S : Nat), S < 2 ^ m → onesN S ≤ m
 | 0, S, h => by
  have : S = 0 := by simpa using h
  subst this; rw [onesN_zero]; exact Nat.le_refl _
 | m + 1, S, h => by
  rw [onesN_half]
  have := onesN_le m (S / 2) (by rw [Nat.pow_succ] at h; omega)
  omega
section
variable {n m i j S : Nat} {c : Nat → Nat → Int} {t t' : Nat → Nat}
structure TailS (n m : Nat) (c : Nat → Nat → Int) (i S : Nat) (t : Nat → Nat) : Prop where
 lt : ∀ r, i ≤ r → r < n → t r < m
 free : ∀ r, i ≤ r → r < n → S.testBit (t r) = false
 ok : ∀ r, i ≤ r → r < n → 0 ≤ c r (t r)
 inj : ∀ r r', i ≤ r → r < n → i ≤ r' → r' < n → t r = t r' → r = r'
def tsum (n : Nat) (c : Nat → Nat → Int) (i : Nat) (t : Nat → Nat) : Int := sumT (fun r => c (i + r) (t (i + r))) (n - i)
theorem tsum_succ (hi : i < n) : tsum n c i t = c i (t i) + tsum n c (i + 1) t := by
 unfold tsum
 rw [show n - i = 1 + (n - (i + 1)) by omega, sumT_split]
 have h1 : sumT (fun r => c (i + r) (t (i + r))) 1 = c i (t i) := by
  show 0 + c (i + 0) (t (i + 0)) = c i (t i)
  rw [Nat.add_zero]; omega
 rw [h1]
 congr 1
 exact sumT_congr fun r _ => by rw [show i + (1 + r) = i + 1 + r by omega]
theorem tsum_congr (h : ∀ r, i ≤ r → r < n → t r = t' r) : tsum n c i t = tsum n c i t' := by
 unfold tsum
 exact sumT_congr fun r hr => by rw [h (i + r) (by omega) (by omega)]
theorem TailS.uncons (h : TailS n m c i S t) (hi : i < n) : t i < m ∧ S.testBit (t i) = false ∧ 0 ≤ c i (t i) ∧ TailS n m c (i + 1) (S + 2 ^ t i) t := by
 have hf := h.free i (Nat.le_refl _) hi
 refine ⟨h.lt i (Nat.le_refl _) hi, hf, h.ok i (Nat.le_refl _) hi, fun r h1 h2 => h.lt r (by omega) h2, fun r h1 h2 => ?_, fun r h1 h2 => h.ok r (by omega) h2, fun r r' h1 h2 h3 h4 => h.inj r r' (by omega) h2 (by omega) h4⟩
 rw [bit_add _ _ _ hf, h.free r (by omega) h2, Bool.or_false, decide_eq_false_iff_not]
 intro e
 have := h.inj r i (by omega) h2 (Nat.le_refl _) hi e
 omega
theorem TailS.cons (hi : i < n) (hj : j < m) (hf : S.testBit j = false) (hc : 0 ≤ c i j) (h : TailS n m c (i + 1) (S + 2 ^ j) t) :
  TailS n m c i S (fun r => if r = i then j else t r) ∧ tsum n c i (fun r => if r = i then j else t r) = c i j + tsum n c (i + 1) t := by
 have hfr : ∀ r, i + 1 ≤ r → r < n → t r ≠ j ∧ S.testBit (t r) = false := fun r h1 h2 => by
  have := h.free r h1 h2
  rw [bit_add _ _ _ hf, Bool.or_eq_false_iff, decide_eq_false_iff_not] at this
  exact this
 refine ⟨⟨fun r h1 h2 => ?_, fun r h1 h2 => ?_, fun r h1 h2 => ?_, fun r r' h1 h2 h3 h4 e => ?_⟩, ?_⟩
 ·by_cases e : r = i
  ·simp only [e, if_true]; exact hj
  ·simp only [e, if_false]; exact h.lt r (by omega) h2
 ·by_cases e : r = i
  ·simp only [e, if_true]; exact hf
  ·simp only [e, if_false]; exact (hfr r (by omega) h2).2
 ·by_cases e : r = i
  ·simp only [e, if_true]; exact hc
  ·simp only [e, if_false]; exact h.ok r (by omega) h2
 ·by_cases e1 : r = i
  ·by_cases e2 : r' = i
   ·omega
   ·simp only [e1, e2, if_true, if_false] at e
    exact absurd e.symm (hfr r' (by omega) h4).1
  ·by_cases e2 : r' = i
   ·simp only [e1, e2, if_true, if_false] at e
    exact absurd e (hfr r (by omega) h2).1
   ·simp only [e1, e2, if_false] at e
    exact h.inj r r' (by omega) h2 (by omega) h4 e
 ·rw [tsum_succ hi]
  simp only [if_true]
  congr 1
  exact tsum_congr fun r h1 _ => by rw [if_neg (by omega)]
def OptS (n m : Nat) (c : Nat → Nat → Int) (i S : Nat) (v : Int) : Prop :=
 (v = -1 ∧ ∀ t, ¬ TailS n m c i S t) ∨ (0 ≤ v ∧ (∃ t, TailS n m c i S t ∧ tsum n c i t = v) ∧ ∀ t, TailS n m c i S t → v ≤ tsum n c i t)
theorem OptS.last (h : n ≤ i) : OptS n m c i S 0 := by
 have hz : ∀ t, tsum n c i t = 0 := fun t => by unfold tsum; rw [show n - i = 0 by omega]; rfl
 exact Or.inr ⟨Int.le_refl _, ⟨fun _ => 0, ⟨fun r h1 h2 => by omega, fun r h1 h2 => by omega, fun r h1 h2 => by omega, fun r r' h1 h2 => by omega⟩, hz _⟩, fun t _ => by rw [hz]; exact Int.le_refl _⟩
theorem OptS.le {v : Int} (h : OptS n m c i S v) (ht : TailS n m c i S t) : 0 ≤ v ∧ v ≤ tsum n c i t := by
 rcases h with ⟨_, h⟩ | ⟨h1, _, h2⟩
 ·exact absurd ht (h t)
 ·exact ⟨h1, h2 t ht⟩
def stepJ (c : Nat → Nat → Int) (L : Nat → Int) (i S : Nat) (acc : Int) (j : Nat) : Int :=
 if S.testBit j = true ∨ c i j = -1 then acc else if 0 ≤ L (S + 2 ^ j) ∧ (acc < 0 ∨ c i j + L (S + 2 ^ j) < acc) then c i j + L (S + 2 ^ j) else acc
def foldJ (c : Nat → Nat → Int) (L : Nat → Int) (i S : Nat) : Nat → Int
 | 0 => -1
 | k + 1 => stepJ c L i S (foldJ c L i S k) k
def Cand (c : Nat → Nat → Int) (L : Nat → Int) (i S j : Nat) (v : Int) : Prop := S.testBit j = false ∧ 0 ≤ c i j ∧ 0 ≤ L (S + 2 ^ j) ∧ v = c i j + L (S + 2 ^ j)
theorem fold_least {L : Nat → Int} : ∀ (k : Nat), (∀ j, j < k → c i j = -1 ∨ 0 ≤ c i j) →
  (foldJ c L i S k = -1 ∧ ∀ j, j < k → ∀ v, ¬ Cand c L i S j v) ∨ (0 ≤ foldJ c L i S k ∧ (∃ j, j < k ∧ Cand c L i S j (foldJ c L i S k)) ∧ ∀ j, j < k → ∀ v, Cand c L i S j v → foldJ c L i S k ≤ v)
 | 0, _ => Or.inl ⟨rfl, fun j hj => by omega⟩
 | k + 1, hc => by
  have ih := fold_least (L := L) k (fun j hj => hc j (by omega))
  show (stepJ c L i S (foldJ c L i S k) k = -1 ∧ _) ∨ (0 ≤ stepJ c L i S (foldJ c L i S k) k ∧ (∃ j, j < k + 1 ∧ Cand c L i S j (stepJ c L i S (foldJ c L i S k) k)) ∧ ∀ j, j < k + 1 → ∀ v, Cand c L i S j v → stepJ c L i S (foldJ c L i S k) k ≤ v)
  generalize foldJ c L i S k = acc at *
  have last : ∀ {P : Nat → Prop}, (∀ j, j < k → P j) → P k → ∀ j, j < k + 1 → P j := fun h1 h2 j hj => by
   by_cases e : j = k
   ·rw [e]; exact h2
   ·exact h1 j (by omega)
  unfold stepJ
  by_cases h1 : S.testBit k = true ∨ c i k = -1
  ·have hno : ∀ v, ¬ Cand c L i S k v := fun v hv => by
    rcases h1 with h1 | h1
    ·rw [hv.1] at h1; cases h1
    ·have := hv.2.1; omega
   rw [if_pos h1]
   rcases ih with ⟨e, hn⟩ | ⟨h0, ⟨j, hj, hcj⟩, hl⟩
   ·exact Or.inl ⟨e, last hn hno⟩
   ·exact Or.inr ⟨h0, ⟨j, by omega, hcj⟩, last hl (fun v hv => absurd hv (hno v))⟩
  ·rw [if_neg h1]
   have hb : S.testBit k = false := by
    cases h : S.testBit k with
    | true => exact absurd (Or.inl h) h1
    | false => rfl
   have hck : 0 ≤ c i k := (hc k (by omega)).resolve_left fun h => h1 (Or.inr h)
   by_cases h2 : 0 ≤ L (S + 2 ^ k) ∧ (acc < 0 ∨ c i k + L (S + 2 ^ k) < acc)
   ·rw [if_pos h2]
    refine Or.inr ⟨by omega, ⟨k, by omega, hb, hck, h2.1, rfl⟩, last (fun j hj v hv => ?_) (fun v hv => by rw [hv.2.2.2]; exact Int.le_refl _)⟩
    rcases ih with ⟨_, hn⟩ | ⟨h0, _, hl⟩
    ·exact absurd hv (hn j hj v)
    ·have := hl j hj v hv; omega
   ·rw [if_neg h2]
    rcases ih with ⟨e, hn⟩ | ⟨h0, ⟨j, hj, hcj⟩, hl⟩
    ·refine Or.inl ⟨e, last hn (fun v hv => h2 ⟨hv.2.2.1, Or.inl (by omega)⟩)⟩
    ·refine Or.inr ⟨h0, ⟨j, by omega, hcj⟩, last hl (fun v hv => ?_)⟩
     have h3 := hv.2.2.1
     have h4 := hv.2.2.2
     by_cases h5 : c i k + L (S + 2 ^ k) < acc
     ·exact absurd ⟨h3, Or.inr h5⟩ h2
     ·omega
theorem fold_opt {L : Nat → Int} (hi : i < n) (hc : ∀ j, j < m → c i j = -1 ∨ 0 ≤ c i j) (hL : ∀ j, j < m → S.testBit j = false → OptS n m c (i + 1) (S + 2 ^ j) (L (S + 2 ^ j))) : OptS n m c i S (foldJ c L i S m) := by
 have key : ∀ t, TailS n m c i S t → ∃ v, Cand c L i S (t i) v ∧ v ≤ tsum n c i t := fun t ht => by
  obtain ⟨h1, h2, h3, h4⟩ := ht.uncons hi
  have h5 := (hL _ h1 h2).le h4
  exact ⟨_, ⟨h2, h3, h5.1, rfl⟩, by rw [tsum_succ hi]; omega⟩
 rcases fold_least (c := c) (i := i) (S := S) (L := L) m hc with ⟨e, hn⟩ | ⟨h0, ⟨j, hj, hb, hcj, hLj, ev⟩, hl⟩
 ·refine Or.inl ⟨e, fun t ht => ?_⟩
  obtain ⟨v, hv, _⟩ := key t ht
  exact hn _ (ht.lt i (Nat.le_refl _) hi) v hv
 ·refine Or.inr ⟨h0, ?_, fun t ht => ?_⟩
  ·rcases hL j hj hb with ⟨e, _⟩ | ⟨_, ⟨t, ht, hs⟩, _⟩
   ·omega
   ·obtain ⟨h1, h2⟩ := TailS.cons hi hj hb hcj ht
    exact ⟨_, h1, by rw [h2, hs, ev]⟩
  ·obtain ⟨v, hv, hle⟩ := key t ht
   exact Int.le_trans (hl _ (ht.lt i (Nat.le_refl _) hi) v hv) hle
structure RefAt (n m : Nat) (c : Nat → Nat → Int) (best : Int) (i : Nat) (t : Nat → Nat) (S : Nat) : Prop where
 bits : ∀ k, S.testBit k = true ↔ ∃ r, r < i ∧ t r = k
 ones : onesN S = i
 bound : S < 2 ^ m
 ex : ∃ s, CastN n m c s ∧ (∀ r, r < i → s r = t r) ∧ sumT (fun r => c r (s r)) n = best
 least : ∀ r, r < i → ∀ j, j < t r → ¬ CheapAt n m c r j t best
variable {best u v : Int}
theorem RefAt.zero (h : ∃ s, CastN n m c s ∧ sumT (fun r => c r (s r)) n = best) : RefAt n m c best 0 t 0 := by
 obtain ⟨s, h1, h2⟩ := h
 exact ⟨fun k => ⟨fun h => by simp at h, fun ⟨r, hr, _⟩ => by omega⟩, onesN_zero, Nat.pow_pos (by decide), ⟨s, h1, fun r hr => by omega, h2⟩, fun r hr => by omega⟩
theorem RefAt.tail (h : RefAt n m c best i t S) {s : Nat → Nat} (hi : i ≤ n) (hs : CastN n m c s) (hp : ∀ r, r < i → s r = t r) : TailS n m c i S s ∧ sumT (fun r => c r (s r)) n = sumT (fun r => c r (t r)) i + tsum n c i s := by
 refine ⟨⟨fun r _ h2 => hs.lt r h2, fun r h1 h2 => ?_, fun r _ h2 => hs.ok r h2, fun r r' _ h2 _ h4 e => hs.inj r r' h2 h4 e⟩, ?_⟩
 ·cases hb : S.testBit (s r) with
  | false => rfl
  | true =>
   obtain ⟨q, hq, e⟩ := (h.bits _).1 hb
   have := hs.inj q r (by omega) h2 (by rw [hp q hq, e])
   omega
 ·unfold tsum
  rw [show sumT (fun r => c r (s r)) n = sumT (fun r => c r (s r)) (i + (n - i)) by rw [show i + (n - i) = n by omega], sumT_split]
  congr 1
  exact sumT_congr fun r hr => by rw [hp r hr]
theorem RefAt.glue (h : RefAt n m c best i t S) (hi : i ≤ n) (ht : TailS n m c i S t') : CastN n m c (fun r => if r < i then t r else t' r) ∧ sumT (fun r => c r (if r < i then t r else t' r)) n = sumT (fun r => c r (t r)) i + tsum n c i t' := by
 obtain ⟨s, h1, h2, _⟩ := h.ex
 have hno : ∀ r r', r < i → i ≤ r' → r' < n → t r ≠ t' r' := fun r r' hr h3 h4 e => by
  have := ht.free r' h3 h4
  rw [(h.bits _).2 ⟨r, hr, e⟩] at this
  cases this
 refine ⟨⟨fun r hr => ?_, fun r hr => ?_, fun r r' hr hr' e => ?_⟩, ?_⟩
 ·by_cases e : r < i
  ·simp only [e, if_true]; rw [← h2 r e]; exact h1.lt r hr
  ·simp only [e, if_false]; exact ht.lt r (by omega) hr
 ·by_cases e : r < i
  ·simp only [e, if_true]; rw [← h2 r e]; exact h1.ok r hr
  ·simp only [e, if_false]; exact ht.ok r (by omega) hr
 ·by_cases e1 : r < i
  ·by_cases e2 : r' < i
   ·simp only [e1, e2, if_true] at e
    rw [← h2 r e1, ← h2 r' e2] at e
    exact h1.inj r r' hr hr' e
   ·simp only [e1, e2, if_true, if_false] at e
    exact absurd e (hno r r' e1 (by omega) hr')
  ·by_cases e2 : r' < i
   ·simp only [e1, e2, if_true, if_false] at e
    exact absurd e.symm (hno r' r e2 (by omega) hr)
   ·simp only [e1, e2, if_false] at e
    exact ht.inj r r' (by omega) hr (by omega) hr' e
 ·rw [show sumT (fun r => c r (if r < i then t r else t' r)) n = sumT (fun r => c r (if r < i then t r else t' r)) (i + (n - i)) by rw [show i + (n - i) = n by omega], sumT_split]
  unfold tsum
  congr 1
  ·exact sumT_congr fun r hr => by rw [if_pos hr]
  ·exact sumT_congr fun r _ => by rw [if_neg (by omega)]
theorem RefAt.value (h : RefAt n m c best i t S) (hi : i ≤ n) (hbest : ∀ s, CastN n m c s → best ≤ sumT (fun r => c r (s r)) n) (hv : OptS n m c i S v) : 0 ≤ v ∧ sumT (fun r => c r (t r)) i + v = best := by
 obtain ⟨s, h1, h2, h3⟩ := h.ex
 obtain ⟨h4, h5⟩ := h.tail hi h1 h2
 rcases hv with ⟨_, hn⟩ | ⟨h0, ⟨t', ht', hs⟩, hl⟩
 ·exact absurd h4 (hn s)
 ·obtain ⟨g1, g2⟩ := h.glue hi ht'
  have h6 := hbest _ g1
  have h7 := hl s h4
  exact ⟨h0, by omega⟩
theorem RefAt.cheap (h : RefAt n m c best i t S) (hi : i < n) (hbest : ∀ s, CastN n m c s → best ≤ sumT (fun r => c r (s r)) n) (hj : j < m) (hf : S.testBit j = false) (hc : 0 ≤ c i j) (hv : OptS n m c i S v) (hu : OptS n m c (i + 1) (S + 2 ^ j) u) :
  CheapAt n m c i j t best ↔ 0 ≤ u ∧ c i j + u = v := by
 obtain ⟨hv0, hval⟩ := h.value (by omega) hbest hv
 constructor
 ·rintro ⟨s, h1, h2, h3, h4⟩
  obtain ⟨h5, h6⟩ := h.tail (by omega) h1 h2
  obtain ⟨_, _, _, h7⟩ := h5.uncons hi
  rw [h3] at h7
  have h8 := hu.le h7
  have h9 := tsum_succ (c := c) (t := s) hi
  rw [h3] at h9
  refine ⟨h8.1, ?_⟩
  rcases hu with ⟨e, _⟩ | ⟨_, ⟨t', ht', hs⟩, _⟩
  ·omega
  ·obtain ⟨g1, g2⟩ := TailS.cons hi hj hf hc ht'
   have := hv.le g1
   omega
 ·rintro ⟨h0, he⟩
  rcases hu with ⟨e, _⟩ | ⟨_, ⟨t', ht', hs⟩, _⟩
  ·omega
  ·obtain ⟨g1, g2⟩ := TailS.cons hi hj hf hc ht'
   obtain ⟨k1, k2⟩ := h.glue (by omega) g1
   refine ⟨_, k1, fun r hr => if_pos hr, ?_, ?_⟩
   ·simp
   ·rw [k2]; omega
theorem RefAt.not (h : RefAt n m c best i t S) (hi : i < n) (hb : S.testBit j = true ∨ c i j < 0) : ¬ CheapAt n m c i j t best := by
 rintro ⟨s, h1, h2, h3, _⟩
 have h5 := (h.tail (by omega) h1 h2).1
 rcases hb with hb | hb
 ·have := h5.free i (Nat.le_refl _) hi
  rw [h3, hb] at this; cases this
 ·have := h5.ok i (Nat.le_refl _) hi
  rw [h3] at this; omega
theorem RefAt.found (h : RefAt n m c best i t S) (hi : i < n) : ∃ j, j < m ∧ CheapAt n m c i j t best := by
 obtain ⟨s, h1, h2, h3⟩ := h.ex
 exact ⟨s i, h1.lt i hi, s, h1, h2, rfl, h3⟩
theorem RefAt.next (h : RefAt n m c best i t S) (hi : i < n) (hj : CheapAt n m c i j t best) (hl : ∀ k, k < j → ¬ CheapAt n m c i k t best) : RefAt n m c best (i + 1) (updN t i j) (S + 2 ^ j) := by
 obtain ⟨s, h1, h2, h3, h4⟩ := hj
 obtain ⟨h5, _⟩ := h.tail (by omega) h1 h2
 have hf := h5.free i (Nat.le_refl _) hi
 have hjm := h1.lt i hi
 rw [h3] at hf hjm
 refine ⟨fun k => ?_, by rw [onesN_add j S hf, h.ones], add_lt h.bound hjm hf, ⟨s, h1, fun r hr => ?_, h4⟩, fun r hr q hq => ?_⟩
 ·rw [bit_add j S k hf, Bool.or_eq_true, decide_eq_true_eq, h.bits k]
  constructor
  ·rintro (e | ⟨r, hr, e⟩)
   ·exact ⟨i, by omega, by rw [updN_self, e]⟩
   ·exact ⟨r, by omega, by rw [updN_lt hr]; exact e⟩
  ·rintro ⟨r, hr, e⟩
   by_cases e2 : r = i
   ·subst e2
    rw [updN_self] at e
    exact Or.inl e.symm
   ·exact Or.inr ⟨r, by omega, by rw [updN_lt (by omega)] at e; exact e⟩
 ·by_cases e : r = i
  ·subst e; rw [updN_self]; exact h3
  ·rw [updN_lt (by omega)]; exact h2 r (by omega)
 ·by_cases e : r = i
  ·subst e
   rw [updN_self] at hq
   intro hc
   exact hl q hq ((cheapAt_congr fun r hr => updN_lt hr).1 hc)
  ·rw [updN_lt (by omega)] at hq
   intro hc
   exact h.least r (by omega) q hq ((cheapAt_congr fun a ha => updN_lt (by omega)).1 hc)
end
end Go.Proofs.YtggcbblikgankaaGreatDoor
end
section
namespace Go.Proofs.YtggcbblikgankaaGreatDoor
open Go.RowKit
def bitsL (n S : Nat) : List Nat := (List.range n).filter fun i => S.testBit i
theorem bitsL_mem {n S i : Nat} : i ∈ bitsL n S ↔ i < n ∧ S.testBit i = true := by
 unfold bitsL; rw [List.mem_filter, List.mem_range]
theorem bitsL_inc (n S : Nat) : Inc n (bitsL n S) := ⟨List.pairwise_lt_range.filter _, fun _ hx => (bitsL_mem.1 hx).1⟩
theorem bitsL_le (n S : Nat) : (bitsL n S).length ≤ n := Nat.le_trans (List.length_filter_le _ _) (by rw [List.length_range]; exact Nat.le_refl _)
theorem bitsL_succ (n S : Nat) : bitsL (n + 1) S = bitsL n S ++ if S.testBit n = true then [n] else [] := by
 unfold bitsL
 rw [List.range_succ, List.filter_append]
 congr 1
 rw [List.filter_cons, List.filter_nil]
theorem bitsL_len : ∀ (n S : Nat), S < 2 ^ n → (bitsL n S).length = onesN S
 | 0, S, h => by
  have : S = 0 := by simpa using h
  subst this; rw [onesN_zero]; rfl
 | n + 1, S, h => by
  rw [Nat.pow_succ] at h
  have hp : 0 < 2 ^ n := Nat.pow_pos (by decide)
  rw [bitsL_succ, List.length_append]
  by_cases e : S < 2 ^ n
  ·rw [bit_out e (Nat.le_refl n), bitsL_len n S e]; rfl
  ·obtain ⟨T, rfl⟩ : ∃ T, S = T + 2 ^ n := ⟨S - 2 ^ n, by omega⟩
   have hT : T < 2 ^ n := by omega
   have hf := bit_out hT (Nat.le_refl n)
   have h2 : bitsL n (T + 2 ^ n) = bitsL n T := by
    unfold bitsL
    refine List.filter_congr fun i hi => ?_
    rw [bit_add n T i hf]
    have := List.mem_range.1 hi
    have h3 : decide (i = n) = false := decide_eq_false (by omega)
    rw [h3, Bool.false_or]
   have h4 : (T + 2 ^ n).testBit n = true := by rw [bit_add n T n hf]; simp
   rw [h4, onesN_add n T hf, h2, bitsL_len n T hT]; rfl
theorem set_of (p : Nat → Bool) : ∀ n, ∃ S, S < 2 ^ n ∧ ∀ i, i < n → S.testBit i = p i
 | 0 => ⟨0, by decide, fun i hi => by omega⟩
 | n + 1 => by
  obtain ⟨S, h1, h2⟩ := set_of p n
  have hf := bit_out h1 (Nat.le_refl n)
  rw [Nat.pow_succ]
  cases hp : p n with
  | false =>
   refine ⟨S, by omega, fun i hi => ?_⟩
   by_cases e : i = n
   ·subst e; rw [hf, hp]
   ·exact h2 i (by omega)
  | true =>
   refine ⟨S + 2 ^ n, by omega, fun i hi => ?_⟩
   rw [bit_add n S i hf]
   by_cases e : i = n
   ·subst e; simp [hp]
   ·rw [h2 i (by omega)]; simp [e]
theorem inc_eq : ∀ (x y : List Nat), x.Pairwise (· < ·) → y.Pairwise (· < ·) → (∀ a, a ∈ x ↔ a ∈ y) → x = y
 | [], [], _, _, _ => rfl
 | [], b :: y, _, _, h => by have := (h b).2 (by simp); cases this
 | a :: x, [], _, _, h => by have := (h a).1 (by simp); cases this
 | a :: x, b :: y, h1, h2, h => by
  have p1 := List.pairwise_cons.1 h1
  have p2 := List.pairwise_cons.1 h2
  have e : a = b := by
   rcases List.mem_cons.1 ((h a).1 (by simp)) with e | e
   ·exact e
   ·rcases List.mem_cons.1 ((h b).2 (by simp)) with e2 | e2
    ·exact e2.symm
    ·have := p1.1 b e2; have := p2.1 a e; omega
  subst e
  congr 1
  refine inc_eq x y p1.2 p2.2 fun c => ⟨fun hc => ?_, fun hc => ?_⟩
  ·rcases List.mem_cons.1 ((h c).1 (List.mem_cons_of_mem _ hc)) with e | e
   ·have := p1.1 c hc; omega
   ·exact e
  ·rcases List.mem_cons.1 ((h c).2 (List.mem_cons_of_mem _ hc)) with e | e
   ·have := p2.1 c hc; omega
   ·exact e
theorem bits_of {n : Nat} {l : List Nat} (h : Inc n l) : ∃ S, S < 2 ^ n ∧ bitsL n S = l := by
 obtain ⟨S, h1, h2⟩ := set_of (fun i => decide (i ∈ l)) n
 refine ⟨S, h1, inc_eq _ _ (bitsL_inc n S).1 h.1 fun a => ?_⟩
 rw [bitsL_mem]
 constructor
 ·rintro ⟨h3, h4⟩
  rw [h2 a h3] at h4
  exact of_decide_eq_true h4
 ·intro h3
  have h4 := h.2 a h3
  exact ⟨h4, by rw [h2 a h4]; exact decide_eq_true h3⟩
section
variable {n m R S T U H best i j k p : Nat} {c : Nat → Nat → Int}
structure UnionOk (n m : Nat) (c : Nat → Nat → Int) (S U : Nat) : Prop where
 lt : U < 2 ^ m
 bit : ∀ j, j < m → (U.testBit j = true ↔ ∃ i, i < n ∧ S.testBit i = true ∧ 0 ≤ c i j)
structure HasOk (c : Nat → Nat → Int) (i k H : Nat) : Prop where
 lt : H < 2 ^ k
 bit : ∀ j, j < k → (H.testBit j = true ↔ 0 ≤ c i j)
theorem HasOk.zero : HasOk c i 0 0 := ⟨by decide, fun j hj => by omega⟩
theorem HasOk.add (h : HasOk c i k H) (hc : 0 ≤ c i k) : HasOk c i (k + 1) (H + 2 ^ k) := by
 have hf := bit_out h.lt (Nat.le_refl k)
 have hl := h.lt
 refine ⟨by rw [Nat.pow_succ]; omega, fun j hj => ?_⟩
 rw [bit_add k H j hf]
 by_cases e : j = k
 ·subst e; simp [hc]
 ·rw [← h.bit j (by omega)]; simp [e]
theorem HasOk.skip (h : HasOk c i k H) (hc : ¬ 0 ≤ c i k) : HasOk c i (k + 1) H := by
 have hf := bit_out h.lt (Nat.le_refl k)
 have hl := h.lt
 refine ⟨by rw [Nat.pow_succ]; omega, fun j hj => ?_⟩
 by_cases e : j = k
 ·subst e; simp [hf, hc]
 ·exact h.bit j (by omega)
theorem UnionOk.zero : UnionOk n m c 0 0 := ⟨Nat.pow_pos (by decide), fun j _ => ⟨fun h => by simp at h, fun ⟨i, _, h, _⟩ => by simp at h⟩⟩
theorem UnionOk.add (h : UnionOk n m c T U) (hT : T.testBit i = false) (hi : i < n) (hH : HasOk c i m H) : UnionOk n m c (T + 2 ^ i) (U ||| H) := by
 refine ⟨Nat.or_lt_two_pow h.lt hH.lt, fun j hj => ?_⟩
 rw [Nat.testBit_or, Bool.or_eq_true, h.bit j hj, hH.bit j hj]
 constructor
 ·rintro (⟨r, h1, h2, h3⟩ | h1)
  ·exact ⟨r, h1, by rw [bit_add i T r hT, h2]; simp, h3⟩
  ·exact ⟨i, hi, by rw [bit_add i T i hT]; simp, h1⟩
 ·rintro ⟨r, h1, h2, h3⟩
  rw [bit_add i T r hT, Bool.or_eq_true, decide_eq_true_eq] at h2
  rcases h2 with h2 | h2
  ·subst h2; exact Or.inr h3
  ·exact Or.inl ⟨r, h1, h2, h3⟩
def BadS (n m : Nat) (c : Nat → Nat → Int) (S : Nat) : Prop := fewC c m (bitsL n S) = true
theorem bad_iff (hS : S < 2 ^ n) (hU : UnionOk n m c S U) : BadS n m c S ↔ onesN U < onesN S := by
 have h1 : colsN c m (bitsL n S) = (bitsL m U).length := by
  unfold colsN
  show _ = ((List.range m).filter fun i => U.testBit i).length
  congr 1
  refine List.filter_congr fun j hj => ?_
  rw [Bool.eq_iff_iff, hU.bit j (List.mem_range.1 hj), List.any_eq_true]
  constructor
  ·rintro ⟨r, h1, h2⟩
   exact ⟨r, (bitsL_mem.1 h1).1, (bitsL_mem.1 h1).2, of_decide_eq_true h2⟩
  ·rintro ⟨r, h1, h2, h3⟩
   exact ⟨r, bitsL_mem.2 ⟨h1, h2⟩, decide_eq_true h3⟩
 unfold BadS fewC
 rw [decide_eq_true_eq, h1, bitsL_len n S hS, bitsL_len m U hU.lt]
def FirstAt (A B p : Nat) : Prop := A.testBit p = true ∧ B.testBit p = false ∧ ∀ q, q < p → A.testBit q = B.testBit q
theorem first_or {A B : Nat} (h : A ≠ B) : ∃ p, FirstAt A B p ∨ FirstAt B A p := by
 have key : ∀ k, (∃ p, FirstAt A B p ∨ FirstAt B A p) ∨ ∀ q, q < k → A.testBit q = B.testBit q := fun k => by
  induction k with
  | zero => exact Or.inr fun q hq => by omega
  | succ k ih =>
   rcases ih with h | h
   ·exact Or.inl h
   ·cases ha : A.testBit k <;> cases hb : B.testBit k
    ·refine Or.inr fun q hq => ?_
     by_cases e : q = k
     ·rw [e, ha, hb]
     ·exact h q (by omega)
    ·exact Or.inl ⟨k, Or.inr ⟨hb, ha, fun q hq => (h q hq).symm⟩⟩
    ·exact Or.inl ⟨k, Or.inl ⟨ha, hb, h⟩⟩
    ·refine Or.inr fun q hq => ?_
     by_cases e : q = k
     ·rw [e, ha, hb]
     ·exact h q (by omega)
 refine Classical.byContradiction fun hn => h (Nat.eq_of_testBit_eq fun q => ?_)
 rcases key (q + 1) with h2 | h2
 ·exact absurd h2 hn
 ·exact h2 q (by omega)
def Better (A B : Nat) : Prop := onesN A < onesN B ∨ (onesN A = onesN B ∧ ∃ p, FirstAt A B p)
theorem Better.trans {A B C : Nat} (h1 : Better A B) (h2 : Better B C) : Better A C := by
 rcases h1 with h1 | ⟨e1, p, a1, a2, a3⟩
 ·rcases h2 with h2 | ⟨e2, _⟩
  ·exact Or.inl (by omega)
  ·exact Or.inl (by omega)
 ·rcases h2 with h2 | ⟨e2, q, b1, b2, b3⟩
  ·exact Or.inl (by omega)
  ·refine Or.inr ⟨by omega, ?_⟩
   rcases Nat.lt_trichotomy p q with h | h | h
   ·exact ⟨p, a1, by rw [← b3 p h]; exact a2, fun r hr => (a3 r hr).trans (b3 r (by omega))⟩
   ·subst h; rw [a2] at b1; cases b1
   ·exact ⟨q, by rw [a3 q h]; exact b1, b2, fun r hr => (a3 r (by omega)).trans (b3 r hr)⟩
structure DenAt (n m : Nat) (c : Nat → Nat → Int) (R best : Nat) : Prop where
 lt : best < R
 none : best = 0 → ∀ S, 0 < S → S < R → ¬ BadS n m c S
 bad : best ≠ 0 → BadS n m c best
 least : best ≠ 0 → ∀ S, 0 < S → S < R → BadS n m c S → S = best ∨ Better best S
theorem DenAt.zero : DenAt n m c 1 0 := ⟨by decide, fun _ S h1 h2 => by omega, fun h => absurd rfl h, fun h => absurd rfl h⟩
theorem DenAt.skip (h : DenAt n m c R best) (hb : ¬ BadS n m c R ∨ (best ≠ 0 ∧ Better best R)) : DenAt n m c (R + 1) best := by
 refine ⟨by have := h.lt; omega, fun e S h1 h2 => ?_, h.bad, fun e S h1 h2 h3 => ?_⟩
 ·by_cases q : S = R
  ·subst q
   rcases hb with hb | hb
   ·exact hb
   ·exact absurd e hb.1
  ·exact h.none e S h1 (by omega)
 ·by_cases q : S = R
  ·subst q
   rcases hb with hb | hb
   ·exact absurd h3 hb
   ·exact Or.inr hb.2
  ·exact h.least e S h1 (by omega) h3
theorem DenAt.take (h : DenAt n m c R best) (hR : 0 < R) (hb : BadS n m c R) (hl : best = 0 ∨ Better R best) : DenAt n m c (R + 1) R := by
 refine ⟨by omega, fun e => by omega, fun _ => hb, fun _ S h1 h2 h3 => ?_⟩
 by_cases q : S = R
 ·exact Or.inl q
 ·right
  by_cases e : best = 0
  ·exact absurd h3 (h.none e S h1 (by omega))
  ·have hl2 := hl.resolve_left e
   rcases h.least e S h1 (by omega) h3 with h4 | h4
   ·rw [h4]; exact hl2
   ·exact hl2.trans h4
def LexB (x y : List Nat) : Prop := ∃ p a s b t, x = p ++ a :: s ∧ y = p ++ b :: t ∧ a < b
def RankB (x y : List Nat) : Prop := x.length < y.length ∨ (x.length = y.length ∧ LexB x y)
theorem ext_begins : ∀ (d : Nat) (l : List Nat), ∀ x ∈ ext n d l, ∃ s, x = l ++ s
 | 0, l, x, hx => ⟨[], by simpa [ext] using hx⟩
 | d + 1, l, x, hx => by
  simp only [ext, List.mem_flatMap] at hx
  obtain ⟨i, _, hx⟩ := hx
  obtain ⟨s, rfl⟩ := ext_begins d _ x hx
  exact ⟨i :: s, by simp⟩
theorem ext_lex : ∀ (d : Nat) (l : List Nat), (ext n d l).Pairwise LexB
 | 0, l => by simp [ext]
 | d + 1, l => by
  simp only [ext]
  rw [List.pairwise_flatMap]
  refine ⟨fun i _ => ext_lex d _, ?_⟩
  refine List.Pairwise.imp ?_ (List.pairwise_lt_range' (s := nextI l) (n := n - d - nextI l) 1)
  intro i j hij x hx y hy
  obtain ⟨s, rfl⟩ := ext_begins d _ x hx
  obtain ⟨t, rfl⟩ := ext_begins d _ y hy
  exact ⟨l, i, s, j, t, by simp, by simp, hij⟩
theorem all_rank (n : Nat) : ((List.range n).flatMap fun k => ext n (k + 1) []).Pairwise RankB := by
 rw [List.pairwise_flatMap]
 refine ⟨fun k _ => ?_, ?_⟩
 ·refine List.Pairwise.imp_of_mem (fun hx hy h => Or.inr ⟨?_, h⟩) (ext_lex (k + 1) [])
  rw [(ext_inc (k + 1) [] inc_nil _ hx).2, (ext_inc (k + 1) [] inc_nil _ hy).2]
 ·refine List.Pairwise.imp ?_ List.pairwise_lt_range
  intro a b hab x hx y hy
  left
  rw [(ext_inc (a + 1) [] inc_nil _ hx).2, (ext_inc (b + 1) [] inc_nil _ hy).2]
  omega
theorem deny_first {l x : List Nat} (h : denyF c n m = some l) (hx : Inc n x) (h1 : 1 ≤ x.length) (h2 : x.length ≤ n) (hf : fewC c m x = true) : x = l ∨ RankB l x := by
 unfold denyF at h
 obtain ⟨_, l1, l2, e, hn⟩ := List.find?_eq_some_iff_append.1 h
 have hmem : x ∈ (List.range n).flatMap fun k => ext n (k + 1) [] := by
  refine List.mem_flatMap.2 ⟨x.length - 1, List.mem_range.2 (by omega), ?_⟩
  have := ext_all x [] (by simpa using hx)
  rwa [List.nil_append, show x.length = x.length - 1 + 1 by omega] at this
 have hp := all_rank n
 rw [e] at hmem hp
 rcases List.mem_append.1 hmem with hm | hm
 ·have := hn x hm
  rw [hf] at this; cases this
 ·rcases List.mem_cons.1 hm with hm | hm
  ·exact Or.inl hm
  ·exact Or.inr ((List.pairwise_cons.1 (List.pairwise_append.1 hp).2.1).1 x hm)
theorem lex_no {B : Nat} (hl : LexB (bitsL n S) (bitsL n B)) (hp : FirstAt B S p) (hB : B < 2 ^ n) : False := by
 obtain ⟨q, a, s, b, t, e1, e2, hab⟩ := hl
 have ia := (bitsL_inc n S).1
 have ib := (bitsL_inc n B).1
 have ha : a ∈ bitsL n S := by rw [e1]; simp
 have hb : a ∉ bitsL n B := by
  rw [e1] at ia
  rw [e2] at ib ⊢
  intro h
  rcases List.mem_append.1 h with h | h
  ·have := (List.pairwise_append.1 ia).2.2 a h a (by simp)
   omega
  ·rcases List.mem_cons.1 h with h | h
   ·omega
   ·have := (List.pairwise_cons.1 (List.pairwise_append.1 ib).2.1).1 a h
    omega
 have hpn : p < n := Classical.byContradiction fun h => by
  have := bit_out hB (show n ≤ p by omega)
  rw [hp.1] at this; cases this
 have hpB : p ∈ bitsL n B := bitsL_mem.2 ⟨hpn, hp.1⟩
 have hpS : p ∉ bitsL n S := fun h => by
  have := (bitsL_mem.1 h).2
  rw [hp.2.1] at this; cases this
 rcases Nat.lt_trichotomy p a with h | h | h
 ·rw [e2] at hpB ib
  rcases List.mem_append.1 hpB with h2 | h2
  ·exact hpS (by rw [e1]; exact List.mem_append.2 (Or.inl h2))
  ·rcases List.mem_cons.1 h2 with h2 | h2
   ·omega
   ·have := (List.pairwise_cons.1 (List.pairwise_append.1 ib).2.1).1 p h2
    omega
 ·subst h; exact hb hpB
 ·have h2 := hp.2.2 a h
  have h3 := bitsL_mem.1 ha
  exact hb (bitsL_mem.2 ⟨h3.1, by rw [h2]; exact h3.2⟩)
theorem deny_both (h : DenAt n m c (2 ^ n) best) : (denyF c n m = none ∧ best = 0) ∨ (best ≠ 0 ∧ denyF c n m = some (bitsL n best)) := by
 have hlen : best ≠ 0 → 1 ≤ (bitsL n best).length := fun e => by
  rw [bitsL_len n best h.lt, onesN]
  rw [if_neg e]
  have hz : ∀ k : Nat, k ≠ 0 → 1 ≤ onesN k := fun k => by
   induction k using Nat.strongRecOn with
   | ind k ih =>
    intro hk
    rw [onesN_step hk]
    by_cases e : k / 2 = 0
    ·omega
    ·have := ih (k / 2) (by omega) e
     omega
  have := hz best e
  rwa [onesN_step e] at this
 cases hd : denyF c n m with
 | none =>
  refine Or.inl ⟨rfl, Classical.byContradiction fun e => ?_⟩
  exact denyF_none hd (few_hall (bitsL_inc n best) (h.bad e))
 | some l =>
  right
  obtain ⟨h1, h2, h3, _⟩ := denyF_some hd
  obtain ⟨S, hS, hb⟩ := bits_of h1
  have hS0 : 0 < S := Nat.pos_of_ne_zero fun e => by
   subst e
   have := bitsL_len n 0 hS
   rw [hb, onesN_zero] at this
   omega
  have hbad : BadS n m c S := by unfold BadS; rw [hb]; exact h2
  have e : best ≠ 0 := fun e => h.none e S hS0 hS hbad
  refine ⟨e, congrArg some ?_⟩
  rcases h.least e S hS0 hS hbad with h4 | h4
  ·rw [← h4]; exact hb.symm
  ·rcases deny_first hd (bitsL_inc n best) (hlen e) (bitsL_le n best) (h.bad e) with h5 | h5
   ·exact h5.symm
   ·exfalso
    have l1 := bitsL_len n S hS
    have l2 := bitsL_len n best h.lt
    rw [← hb] at h5
    rcases h4 with h4 | ⟨h4, p, hp⟩
    ·rcases h5 with h5 | ⟨h5, _⟩ <;> omega
    ·rcases h5 with h5 | ⟨_, h5⟩
     ·omega
     ·exact lex_no h5 hp h.lt
end
end Go.Proofs.YtggcbblikgankaaGreatDoor
end
