/- Contracts and plain laws on the way to the statement: part 8. -/
import Derived.WalkKit
import Derived.Deep.Draws
import Derived.Lib.Hide
import Derived.Deep.Slices
import Derived.Carry
import Derived.SizedLaws
import Derived.ProofKit
import Derived.Test.YtpnbpepkoekkoaaZ3
set_option linter.unusedVariables false
set_option linter.unusedSimpArgs false
set_option maxRecDepth 100000
set_option maxHeartbeats 16000000
namespace Go.Proofs.Ytpnbpepkoekkoaa
open Go.Value (int)
open Go.IntKind (i64)
section
open Go.ChangeShapes Go.WideShapes Go.ChangeAt Go.RowKit Go.Deep
def AtRow {α : Type} (enc : α → List Value) (k : Nat) (w : World) (b o : Nat) (xs : List α) : Prop :=
 ∀ (i : Nat) (x : α), xs[i]? = some x → ∀ (j : Nat) (v : Value), (enc x)[j]? = some v → w.cell? ⟨b, o + i * k + j, none⟩ = some v
def IsRow {α : Type} (enc : α → List Value) (k : Nat) (w : World) (v : Value) (xs : List α) : Prop :=
 ∃ ao c, v = .slice ao xs.length c ∧ xs.length ≤ maxLen ∧ (xs = [] ∨ ∃ b o, ao = some ⟨b, o, none⟩ ∧ AtRow enc k w b o xs ∧ b < w.heap.size)
section
variable {α : Type} {enc : α → List Value} {k : Nat}
theorem AtRow.below {w w' : World} {b o B : Nat} {xs : List α} (h : AtRow enc k w b o xs) (hb : Below B w w') (hB : b < B) : AtRow enc k w' b o xs := by
 intro i x hx j v hv; rw [hb.cell (p := ⟨b, o + i * k + j, none⟩) hB]; exact h i x hx j v hv
theorem IsRow.below {w w' : World} {v : Value} {B : Nat} {xs : List α} (h : IsRow enc k w v xs) (hb : Below B w w') (hB : w.heap.size ≤ B) : IsRow enc k w' v xs := by
 obtain ⟨ao, c, e, hl, h⟩ := h; refine ⟨ao, c, e, hl, ?_⟩; rcases h with h | ⟨b, o, e2, ha, hlt⟩
 ·exact Or.inl h
 ·exact Or.inr ⟨b, o, e2, ha.below hb (by omega), Nat.lt_of_lt_of_le hlt hb.size⟩
theorem IsRow.drewN {w : World} {v : Value} {xs : List α} (h : IsRow enc k w v xs) (n : Nat) : IsRow enc k (w.drewN n) v xs := h
theorem IsRow.nil {w : World} {ao : Option Addr} {c : Nat} : IsRow enc k w (.slice ao 0 c) ([] : List α) := ⟨ao, c, rfl, Nat.zero_le _, Or.inl rfl⟩
theorem IsRow.block {w : World} {ao : Option Addr} {n c i : Nat} {xs : List α} {x : α} (h : IsRow enc k w (.slice ao n c) xs) (hx : xs[i]? = some x) :
  ∃ b o, ao = some ⟨b, o, none⟩ ∧ AtRow enc k w b o xs ∧ b < w.heap.size := by
 obtain ⟨ao', c', e, _, h⟩ := h; injection e with e1 e2 e3; rcases h with h | ⟨b, o, e4, h1, h2⟩
 ·rw [h] at hx; simp at hx
 ·exact ⟨b, o, e1.trans e4, h1, h2⟩
end
theorem AX (b o j : Nat) : ((⟨b, o, none⟩ : Addr).add j) = ⟨b, o + j, none⟩ := by unfold Addr.add; split <;> simp_all
section
variable {H : Type} {et : TypeId × Value → H} {P : Program} {W : World} {α : Type} [Inhabited α] {enc : α → List Value}
theorem BR {t e : TypeId} {k n : Nat} {c : Value} {y : DataW H × List MemPlace} (ht : P.underlying t = some (.slice e)) (hk : P.cellsOf e = k) (hk0 : 0 < k)
  (hel : ∀ n cs y, DataW.trod et P W 0 (fun _ => true) true n e cs = some y → ∃ x : α, cs = enc x)
  (h : DataW.trod et P W 0 (fun _ => true) true n t [c] = some y) : ∃ xs : List α, IsRow enc k W c xs := by
 rcases open_slice ht h with ⟨hcs, hx⟩ | ⟨a, len, cap, m, n', D, Pl, hcs, hb, hl, hm, hmm, hx, hi⟩
 ·injection hcs with hcs _
  subst hcs; exact ⟨[], IsRow.nil⟩
 ·injection hcs with hcs _
  subst hcs; have hmc : m = cap := by simpa using hmm
  subst hmc; rw [hk] at hi
  have hall : ∀ i, i < len → ∃ x : α, ∀ j v, (enc x)[j]? = some v → W.cell? (a.add (i * k + j)) = some v := by
   intro i hil; obtain ⟨cs', h1, h2⟩ := hi i (by omega); obtain ⟨x, hx⟩ := hel _ _ _ h2; subst hx; obtain ⟨_, hcl, hat⟩ := World.cells?_some h1; refine ⟨x, fun j v hv => ?_⟩; have hj : j < k := by rw [← hcl]; exact (ql.1 hv).1
   have := hat j hj; rw [Go.Deep.add_add, hv] at this; exact this
  have hlen : ∀ i, i < len → ∃ v, W.cell? (a.add (i * k)) = some v := by
   intro i hil; obtain ⟨cs', h1, h2⟩ := hi i (by omega); obtain ⟨_, hcl, hat⟩ := World.cells?_some h1; have := hat 0 hk0; rw [Go.Deep.add_add, Nat.add_zero] at this; rw [this]; exact ⟨_, qg (by omega)⟩
  obtain ⟨f, hf2⟩ := choose_lt hall; refine ⟨(List.range len).map f, some a, m, by simp, by simp; omega, ?_⟩; by_cases h0 : len = 0
  ·subst h0; exact Or.inl rfl
  ·right
   obtain ⟨v0, hc0⟩ := hlen 0 (by omega); have hsp := World.cell?_spot hc0; obtain ⟨b, o, sp⟩ := a; have hsp' : sp = none := by simpa [Addr.add] using hsp
   subst hsp'; refine ⟨b, o, rfl, ?_, ?_⟩
   ·intro i x hx j v hv
    have hil : i < len := by
     have := ql.1 hx; obtain ⟨h1, _⟩ := this; simpa using h1
    have hfx : f i = x := by simpa [hil] using hx
    have g1 := hf2 i hil j v (by rw [hfx]; exact hv); rw [AX, ← Nat.add_assoc] at g1; exact g1
   ·have hc1 := hc0
    rw [Nat.zero_mul] at hc1; unfold World.cell? at hc1; rcases Nat.lt_or_ge b W.heap.size with h1 | h1
    ·exact h1
    ·simp [Addr.add, Array.getElem?_eq_none h1] at hc1
end
end
end Go.Proofs.Ytpnbpepkoekkoaa
