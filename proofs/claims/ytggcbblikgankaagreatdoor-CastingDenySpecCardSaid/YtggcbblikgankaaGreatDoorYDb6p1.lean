/- The walk of the statement: part 1. -/
import Derived.Test.YtggcbblikgankaaGreatDoorZ5
import Derived.Test.YtggcbblikgankaaGreatDoorZ38
import Derived.Test.YtggcbblikgankaaGreatDoorZ27
import Derived.Test.YtggcbblikgankaaGreatDoorZ49
set_option linter.unusedVariables false
set_option linter.unusedSimpArgs false
section
namespace Go.Proofs.YtggcbblikgankaaGreatDoor
open Go.RowKit
theorem ext_inc {n : Nat} : ∀ (d : Nat) (l : List Nat), Inc n l → ∀ x ∈ ext n d l, Inc n x ∧ x.length = l.length + d
 | 0, l, h, x, hx => by
  simp [ext] at hx; subst hx; exact ⟨h, rfl⟩
 | d + 1, l, h, x, hx => by
  simp only [ext, List.mem_flatMap, List.mem_range'_1] at hx
  obtain ⟨i, ⟨h1, h2⟩, hx⟩ := hx
  obtain ⟨h3, h4⟩ := ext_inc d (l ++ [i]) (h.snoc h1 (by omega)) x hx
  refine ⟨h3, ?_⟩
  rw [h4, List.length_append, List.length_singleton]; omega
theorem inc_room {n : Nat} : ∀ (t : List Nat) (i : Nat), Inc n (i :: t) → i + t.length < n
 | [], i, h => by simpa using h.2 i (by simp)
 | a :: t, i, h => by
  have h1 := List.pairwise_cons.1 h.1
  have := inc_room t a ⟨h1.2, fun x hx => h.2 x (List.mem_cons_of_mem _ hx)⟩
  have := h1.1 a (by simp)
  rw [List.length_cons]; omega
theorem ext_all {n : Nat} : ∀ (t l : List Nat), Inc n (l ++ t) → l ++ t ∈ ext n t.length l
 | [], l, _ => by simp [ext]
 | i :: t, l, h => by
  have hp := List.pairwise_append.1 h.1
  have h1 : nextI l ≤ i := by
   rcases List.eq_nil_or_concat l with rfl | ⟨r, a, rfl⟩
   ·simp [nextI]
   ·rw [List.concat_eq_append] at *
    rw [nextI_snoc]
    exact hp.2.2 a (by simp) i (by simp)
  have h2 := inc_room t i ⟨hp.2.1, fun x hx => h.2 x (by simp at hx ⊢; exact .inr hx)⟩
  rw [List.length_cons]
  simp only [ext, List.mem_flatMap, List.mem_range'_1]
  refine ⟨i, by omega, ?_⟩
  have := ext_all t (l ++ [i]) (by simpa using h)
  simpa using this
section
variable {n m : Nat} {c : Nat → Nat → Int}
theorem few_hall {l : List Nat} (hl : Inc n l) (h : fewC c m l = true) : Hall n m c := by
 refine ⟨l, (List.range m).filter fun j => l.any fun i => decide (0 ≤ c i j), hl.1.imp (fun h => Nat.ne_of_lt h), hl.2, List.nodup_range.filter _, ?_, ?_, ?_⟩
 ·intro j hj
  exact List.mem_range.1 (List.mem_filter.1 hj).1
 ·exact of_decide_eq_true h
 ·intro r hr j hj h0
  exact List.mem_filter.2 ⟨List.mem_range.2 hj, List.any_eq_true.2 ⟨r, hr, by simpa using h0⟩⟩
theorem hall_few (h : Hall n m c) : ∃ l, Inc n l ∧ 1 ≤ l.length ∧ l.length ≤ n ∧ fewC c m l = true := by
 obtain ⟨R, D, hR, hRn, hD, hDm, hlt, hsub⟩ := h
 have hnd : ((List.range n).filter (· ∈ R)).Nodup := List.nodup_range.filter _
 have hlen : ((List.range n).filter (· ∈ R)).length = R.length := by
  refine Nat.le_antisymm (nodup_sub_len R _ hnd fun x hx => by simpa using (List.mem_filter.1 hx).2) (nodup_sub_len _ R hR fun x hx => ?_)
  exact List.mem_filter.2 ⟨List.mem_range.2 (hRn x hx), by simpa using hx⟩
 refine ⟨(List.range n).filter (· ∈ R), ⟨List.pairwise_lt_range.filter _, fun x hx => List.mem_range.1 (List.mem_filter.1 hx).1⟩, by omega, ?_, ?_⟩
 ·exact Nat.le_trans (List.length_filter_le _ _) (by rw [List.length_range]; exact Nat.le_refl _)
 ·refine decide_eq_true ?_
  rw [hlen]
  refine Nat.lt_of_le_of_lt (nodup_sub_len D _ (List.nodup_range.filter _) fun j hj => ?_) hlt
  obtain ⟨h1, h2⟩ := List.mem_filter.1 hj
  obtain ⟨i, hi, h0⟩ := List.any_eq_true.1 h2
  have hi2 : i ∈ R := by simpa using (List.mem_filter.1 hi).2
  exact hsub i hi2 j (List.mem_range.1 h1) (of_decide_eq_true h0)
theorem denyF_some {l : List Nat} (h : denyF c n m = some l) : Inc n l ∧ fewC c m l = true ∧ 1 ≤ l.length ∧ Hall n m c := by
 unfold denyF at h
 have h1 := List.find?_some h
 obtain ⟨k, _, hx⟩ := List.mem_flatMap.1 (List.mem_of_find?_eq_some h)
 obtain ⟨h3, h4⟩ := ext_inc (k + 1) [] inc_nil l hx
 exact ⟨h3, h1, by rw [h4]; omega, few_hall h3 h1⟩
theorem denyF_none (h : denyF c n m = none) : ¬ Hall n m c := by
 intro hh
 obtain ⟨l, h1, h2, h3, h4⟩ := hall_few hh
 unfold denyF at h
 rw [List.find?_eq_none] at h
 refine h l (List.mem_flatMap.2 ⟨l.length - 1, List.mem_range.2 (by omega), ?_⟩) h4
 have := ext_all l [] (by simpa using h1)
 rwa [List.nil_append, show l.length = l.length - 1 + 1 by omega] at this
end
end Go.Proofs.YtggcbblikgankaaGreatDoor
end
section
set_option maxRecDepth 100000
namespace Go.Proofs.YtggcbblikgankaaGreatDoor
open Go.ChangeShapes Go.WideShapes Go.ChangeAt Go.RowKit Go.Deep
section
variable {H : Type} {enc : TypeId × Value → H} {W : World}
theorem open_ints {base : Nat} {v : Value} {d : DataW H} {p : List MemPlace} (hv : Value.okWide Tryz.prog W .any base 55 v) (h : DataW.Trod enc Tryz.prog W 0 (fun _ => true) true 55 v d p) :
  ∃ (xs : List Int) (ao : Option Addr) (c : Nat), v = .slice ao xs.length c ∧ IsRow encI 1 W (.slice ao xs.length c) xs ∧ xs.length ≤ c ∧ c ≤ maxLen := by
 obtain ⟨a0, len0, cap0, rfl⟩ := okWide_slice Tryz.underlying55 hv
 obtain ⟨fuel, hf⟩ := h
 exact open_ints' hf
theorem back79 {v : Value} {d : DataW H} {p : List MemPlace} (h : DataW.Trod enc Tryz.prog W 0 (fun _ => true) true 55 v d p) (hlt : ∀ x ∈ p, x.block < W.heap.size) {W' : World} (hb : Below W.heap.size W W') :
  DataW.Trod enc Tryz.prog W' 0 (fun b => decide (b < W.heap.size)) true 55 v d p :=
 Below.trod Tryz.laidOut (by kernel_rfl) (of_decide_eq_true (by kernel_rfl)) h hb hlt
end
end Go.Proofs.YtggcbblikgankaaGreatDoor
end
