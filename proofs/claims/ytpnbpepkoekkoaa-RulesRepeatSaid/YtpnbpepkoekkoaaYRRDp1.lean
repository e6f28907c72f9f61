/- The walk of the statement: part 1. -/
import Derived.Test.YtpnbpepkoekkoaaZ1
import Derived.Test.YtpnbpepkoekkoaaZ3
set_option linter.unusedVariables false
set_option linter.unusedSimpArgs false
set_option maxRecDepth 100000
set_option maxHeartbeats 16000000
namespace Go.Proofs.Ytpnbpepkoekkoaa
open Go.Value (int)
open Go.IntKind (i64)
section
theorem Its.ok_cons (k n : Int) (un : Nm) (its : Its) (ms : List Mov) (r : Its) (d : Nat) : (Its.cons k n un its ms r).ok d = true ↔ ms.length ≤ 64 ∧ (its.len = 0 ∨ d + 1 ≤ 16) ∧ its.ok (d + 1) = true ∧ r.ok d = true := by
 simp only [Its.ok, Bool.and_eq_true, decide_eq_true_eq]
theorem Its.rest_cons (k n : Int) (un : Nm) (its : Its) (ms : List Mov) (r : Its) : (Its.cons k n un its ms r).size - (Its.cons k n un its ms r).len = its.size + (r.size - r.len) := by
 have h2 := r.len_le_size; simp only [Its.size, Its.len]; omega
theorem Its.count_eq : ∀ (t : Its) (d : Nat) (left : Int), 0 ≤ left → t.count d left = if t.ok d = true ∧ ((t.size - t.len : Nat) : Int) ≤ left then some (left - (t.size - t.len : Nat)) else none
 | .nil, d, left, h => by simp [Its.count, Its.ok, Its.size, Its.len, h]
 | .cons k n un its ms r, d, left, h => by
  have h1 := its.len_le_size; have h2 := r.len_le_size; have hok := Its.ok_cons k n un its ms r d; rw [Its.rest_cons, Its.count]; by_cases hm : ms.length ≤ 64
  ·by_cases hd : its.len = 0 ∨ d + 1 ≤ 16
   ·by_cases hl : (its.len : Int) ≤ left
    ·rw [if_pos ⟨hm, hl, hd⟩, Its.count_eq its (d + 1) (left - its.len) (by omega)]
     by_cases ho : its.ok (d + 1) = true
     ·by_cases hs : ((its.size - its.len : Nat) : Int) ≤ left - its.len
      ·rw [if_pos ⟨ho, hs⟩]
       simp only; rw [Its.count_eq r d _ (by omega)]; by_cases hr : r.ok d = true
       ·by_cases hr2 : ((r.size - r.len : Nat) : Int) ≤ left - its.len - ((its.size - its.len : Nat) : Int)
        ·rw [if_pos ⟨hr, hr2⟩, if_pos ⟨hok.2 ⟨hm, hd, ho, hr⟩, by omega⟩]
         congr 1; omega
        ·rw [if_neg (fun h => hr2 h.2), if_neg (fun h => hr2 (by omega))]
       ·rw [if_neg (fun h => hr h.1), if_neg (fun h => hr (hok.1 h.1).2.2.2)]
      ·rw [if_neg (fun h => hs h.2)]
       simp only; rw [if_neg (fun h => hs (by omega))]
     ·rw [if_neg (fun h => ho h.1)]
      simp only; rw [if_neg (fun h => ho (hok.1 h.1).2.2.1)]
    ·rw [if_neg (fun h => hl h.2.1), if_neg (fun h => hl (by omega))]
   ·rw [if_neg (fun h => hd h.2.2), if_neg (fun h => hd (hok.1 h.1).2.1)]
  ·rw [if_neg (fun h => hm h.1), if_neg (fun h => hm (hok.1 h.1).1)]
theorem Its.countL_eq (t : Its) (left : Int) (_ : 0 ≤ left) : t.countL 1 left = if t.ok 1 = true ∧ (t.size : Int) ≤ left then some (left - t.size) else none := by
 have h1 := t.len_le_size; unfold Its.countL; by_cases hl : (t.len : Int) ≤ left
 ·rw [if_pos ⟨hl, Or.inr (by omega)⟩, Its.count_eq t 1 _ (by omega)]
  by_cases ho : t.ok 1 = true
  ·by_cases hs : ((t.size - t.len : Nat) : Int) ≤ left - t.len
   ·rw [if_pos ⟨ho, hs⟩, if_pos ⟨ho, by omega⟩]
    congr 1; omega
   ·rw [if_neg (fun h => hs h.2), if_neg (fun h => hs (by omega))]
  ·rw [if_neg (fun h => ho h.1), if_neg (fun h => ho h.1)]
 ·rw [if_neg (fun h => hl h.1), if_neg (fun h => hl (by omega))]
def Qt (ps : List Phr) : Nat := (ps.map fun p => p.items.size).sum
theorem QE : ∀ (ps : List Phr) (left : Int), 0 ≤ left → countP ps left = if (ps.all fun p => p.items.ok 1) = true ∧ (Qt ps : Int) ≤ left then some (left - Qt ps) else none
 | [], left, h => by simp [countP, Qt, h]
 | p :: r, left, h => by
  have hsz : Qt (p :: r) = p.items.size + Qt r := by simp [Qt]
  unfold countP; rw [Its.countL_eq _ _ h, hsz]; by_cases ho : p.items.ok 1 = true
  ·by_cases hs : (p.items.size : Int) ≤ left
   ·rw [if_pos ⟨ho, hs⟩]
    simp only; rw [QE r _ (by omega)]; by_cases hr : (r.all fun p => p.items.ok 1) = true
    ·by_cases hr2 : (Qt r : Int) ≤ left - p.items.size
     ·rw [if_pos ⟨hr, hr2⟩, if_pos ⟨by rw [List.all_cons, ho, hr]; rfl, by omega⟩]
      congr 1; omega
     ·rw [if_neg (fun h => hr2 h.2), if_neg (fun h => hr2 (by omega))]
    ·rw [if_neg (fun h => hr h.1), if_neg (fun h => hr (by rw [List.all_cons, Bool.and_eq_true] at h; exact h.1.2))]
   ·rw [if_neg (fun h => hs h.2)]
    simp only; rw [if_neg (fun h => hs (by omega))]
  ·rw [if_neg (fun h => ho h.1)]
   simp only; rw [if_neg (fun h => ho (by rw [List.all_cons, Bool.and_eq_true] at h; exact h.1.1))]
theorem QV (s : Sc) : s.lims = true ↔ s.fit = true ∧ (∀ p ∈ s.phrases, p.items.ok 1 = true) ∧ Qt s.phrases ≤ 4096 := by
 unfold Sc.lims; rw [QE _ _ (by omega), Bool.and_eq_true]
 constructor
 ·rintro ⟨h1, h2⟩
  split at h2
  ·rename_i h
   exact ⟨h1, fun p hp => by have := List.all_eq_true.1 h.1 p hp; simpa using this, by omega⟩
  ·cases h2
 ·rintro ⟨h1, h2, h3⟩
  refine ⟨h1, ?_⟩; rw [if_pos ⟨List.all_eq_true.2 fun p hp => by simpa using h2 p hp, by omega⟩]
  rfl
theorem RV (s : Sc) : s.fit = true ↔ s.roles.length ≤ 64 ∧ s.tempos.length ≤ 4096 ∧ s.pauses.length ≤ 4096 ∧ s.spans.length ≤ 256 ∧ s.phrases.length ≤ 64 ∧ s.dances.length ≤ 256 := by
 unfold Sc.fit; simp [Bool.and_eq_true]
end
end Go.Proofs.Ytpnbpepkoekkoaa
