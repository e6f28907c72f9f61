/- The walk of the statement: part 2. -/
import Derived.Test.YtpnbpepkoekkoaaZ13
import Derived.Test.YtpnbpepkoekkoaaZ14
import Derived.Maps.AppendAt
import Derived.Test.YtpnbpepkoekkoaaZ3
set_option linter.unusedVariables false
set_option linter.unusedSimpArgs false
set_option maxRecDepth 100000
set_option maxHeartbeats 16000000
namespace Go.Proofs.Ytpnbpepkoekkoaa
open Go.Value (int)
open Go.IntKind (i64)
section
open Go Go.RowKit Go.Deep
theorem QM {w' : World} {B e k n : Nat} {v : Value} {news : List Value} (_ : 0 < k) (h : w'.ownsRow B e k v n news) :
  ∃ ao c, v = .slice ao n c ∧ (n = 0 ∨ (ao = some ⟨blk ao, 0, none⟩ ∧ B ≤ blk ao ∧ FreeB w' (blk ao))) ∧ (ao = none → n = 0) ∧ (ao = none ∨ ao = some ⟨blk ao, 0, none⟩) ∧ v.ownBlock = ao.map (·.block) ∧ ∀ j u, news[j]? = some u → w'.cell? ⟨blk ao, 0 + j, none⟩ = some u := by
 rcases h.2 with ⟨rfl, rfl⟩ | ⟨g, cap, cur, rfl, hg, hh, hn, _, hsz, ht⟩
 ·refine ⟨none, 0, rfl, Or.inl rfl, fun _ => rfl, Or.inl rfl, rfl, fun j u hj => ?_⟩
  have h1 := h.1; rw [Nat.zero_mul] at h1; obtain rfl := List.length_eq_zero_iff.1 h1; cases hj
 ·refine ⟨_, cap, rfl, Or.inr ⟨rfl, hg, cur, e, hh⟩, by simp, Or.inr rfl, rfl, fun j u hj => ?_⟩
  rw [← ht, List.getElem?_take] at hj
  split at hj
  ·rw [Nat.zero_add]; exact Aa hh j (by rw [← Array.getElem?_toList]; exact hj)
  ·cases hj
end
end Go.Proofs.Ytpnbpepkoekkoaa
