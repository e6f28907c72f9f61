/- The walk of the statement: part 1. -/
import Derived.Test.YtpnbpepkoekkoaaZ1
set_option linter.unusedVariables false
set_option linter.unusedSimpArgs false
section
namespace Go.Proofs.Ytpnbpepkoekkoaa
theorem idxOf_reverse {a : Nm} : ∀ {l : List Nm}, l.Nodup → a ∈ l → l.reverse.idxOf a = l.length - 1 - l.idxOf a
 | x :: t, hn, h => by
  obtain ⟨hx, ht⟩ := List.nodup_cons.1 hn
  rw [List.reverse_cons, List.idxOf_append]
  by_cases ha : a ∈ t
  ·have hne : x ≠ a := fun e => hx (e ▸ ha)
   have hlt := List.idxOf_lt_length_of_mem ha
   rw [if_pos (List.mem_reverse.2 ha), idxOf_reverse ht ha, List.idxOf_cons, show (x == a) = false by simpa using hne, cond_false, List.length_cons]
   omega
  ·rcases List.mem_cons.1 h with rfl | h
   ·rw [if_neg (fun h => ha (List.mem_reverse.1 h)), List.idxOf_cons_self, List.idxOf_cons_self]
    simp
   ·exact absurd h ha
def flipN (n : Nat) : List (Nat × Nm) → List Int → List Int
 | r :: rs, k :: ks => (if r.1 = 1 then (n : Int) - 1 - k else k) :: flipN n rs ks
 | _, _ => []
def Sc.turned (s : Sc) : Sc := { s with roles := s.roles.reverse }
theorem refIdx_turned {R P : List Nm} (hn : R.Nodup) (r : Nat × Nm) (n : Int) : refIdx R.reverse P r n = (refIdx R P r n).map fun k => if r.1 = 1 then (R.length : Int) - 1 - k else k := by
 unfold refIdx
 by_cases h0 : r.1 = 0
 ·rw [if_pos h0, if_pos h0]
  split <;> simp [h0]
 ·rw [if_neg h0, if_neg h0]
  by_cases h1 : r.1 = 1
  ·rw [if_pos h1, if_pos h1]
   by_cases hm : r.2 ∈ R
   ·rw [if_pos (List.mem_reverse.2 hm), if_pos hm, idxOf_reverse hn hm]
    have := List.idxOf_lt_length_of_mem hm
    simp only [Option.map_some, h1, if_true]
    congr 1
    omega
   ·rw [if_neg (fun h => hm (List.mem_reverse.1 h)), if_neg hm]; rfl
  ·rw [if_neg h1, if_neg h1]
   split <;> simp_all
theorem refsIdx_turned {R P : List Nm} (hn : R.Nodup) : ∀ (rs : List (Nat × Nm)) (ns : List Int), refsIdx R.reverse P rs ns = (refsIdx R P rs ns).map (flipN R.length rs)
 | [], [] => rfl
 | [], _ :: _ => rfl
 | _ :: _, [] => rfl
 | r :: rs, n :: ns => by
  unfold refsIdx
  rw [refIdx_turned hn, refsIdx_turned hn rs ns]
  cases refIdx R P r n with
  | none => rfl
  | some k =>
   cases refsIdx R P rs ns with
   | none => rfl
   | some ks => rfl
theorem turned_rnames (s : Sc) : s.turned.rnames = s.rnames.reverse := by simp [Sc.turned, Sc.rnames, List.map_reverse]
theorem idx_turned {s : Sc} (hn : s.apart = true) (ns : List Int) : s.turned.idx ns = (s.idx ns).map (flipN s.roles.length s.refs) := by
 have h1 : s.rnames.Nodup := by
  unfold Sc.apart at hn
  rw [Bool.and_eq_true] at hn
  exact of_decide_eq_true hn.1
 have hl : s.rnames.length = s.roles.length := by simp [Sc.rnames]
 unfold Sc.idx
 rw [turned_rnames]
 show (if s.kinds then refsIdx s.rnames.reverse s.pnames s.refs ns else none) = _
 rw [refsIdx_turned h1, hl]
 split <;> rfl
theorem res_turned (s : Sc) (ns : List Int) : resE s.turned ns = resE s ns := by
 have h1 : s.turned.lims = s.lims := by
  unfold Sc.lims Sc.fit
  rw [show s.turned.roles.length = s.roles.length from List.length_reverse]
  rfl
 have h2 : s.turned.named = s.named := by
  unfold Sc.named
  rw [turned_rnames, List.all_reverse]
  rfl
 have h3 : s.turned.apart = s.apart := by
  unfold Sc.apart
  rw [turned_rnames]
  have : decide s.rnames.reverse.Nodup = decide s.rnames.Nodup := by
   by_cases h : s.rnames.Nodup
   ·rw [decide_eq_true h, decide_eq_true ((List.reverse_perm _).nodup_iff.2 h)]
   ·rw [decide_eq_false h, decide_eq_false (fun h' => h ((List.reverse_perm _).nodup_iff.1 h'))]
  rw [this]
  rfl
 unfold resE
 rw [h1, h2, h3]
 by_cases ha : s.apart = true
 ·rw [idx_turned ha, Option.isSome_map]
 ·have : s.apart = false := by simpa using ha
  simp [this]
end Go.Proofs.Ytpnbpepkoekkoaa
end
