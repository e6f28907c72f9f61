/- The walk of the statement: part 1. -/
import Derived.Test.YtggcbblikgankaaDoorZ34
set_option linter.unusedVariables false
set_option linter.unusedSimpArgs false
section
namespace Go.Proofs.YtggcbblikgankaaDoor
open Go.RowKit Go.Sort
theorem sortA_sorted (l : List Par) : (sortA l).Pairwise fun x y => y.n ≤ x.n := by
 have h := (insertionSort_holds (lt := ltOf cfP) swo_cfP l.toArray 0 l.length (Nat.zero_le _) (by simp)).2
 have hlen := sortA_len l
 rw [List.pairwise_iff_getElem]
 intro i j hi hj hij
 have h2 := h i j (Nat.zero_le _) hij (by omega)
 have e : ∀ m (hm : m < (sortA l).length), (Sort.insertionSort (ltOf cfP) l.toArray 0 l.length)[m]! = (sortA l)[m] := by
  intro m hm
  unfold sortA at hm ⊢
  rw [Array.getElem_toList, getElem!_pos _ m (by simpa using hm)]
 rw [e j hj, e i hi] at h2
 unfold ltOf cfP cmpI at h2
 simp only [decide_eq_false_iff_not] at h2
 split at h2
 ·omega
 ·split at h2 <;> omega
set_option maxRecDepth 100000 in
theorem dot_tab : ∀ a, a < 9 → ∀ l, l < 3 → ∀ d, d < 9 → ∀ v, v < 3 → dotI (a : Nat) ((l : Nat) + 1 : Int) (d : Nat) ((v : Nat) + 1 : Int) < 1073741824 := by decide
theorem mem_allL {ta tc : Int} {s : Sgn} {top m : Nat} {x : Par} : x ∈ allL ta tc s top m ↔ ∃ d, d < m ∧ ∃ v, v < top ∧ fitB ta tc s (d : Nat) ((v : Nat) + 1 : Int) = true ∧ parOf s (d : Nat) ((v : Nat) + 1 : Int) = x := by
 unfold allL lineL
 simp only [List.mem_flatMap, List.mem_range, List.mem_filterMap]
 constructor
 ·rintro ⟨d, hd, v, hv, h⟩
  split at h
  ·rename_i hf
   exact ⟨d, hd, v, hv, hf, by simpa using h⟩
  ·simp at h
 ·rintro ⟨d, hd, v, hv, hf, h⟩
  exact ⟨d, hd, v, hv, by rw [if_pos hf, h]⟩
theorem par_facts {ta tc : Int} {s : Sgn} {top : Nat} (hd : 0 ≤ s.dir ∧ s.dir ≤ 8) (hl : 1 ≤ s.level ∧ s.level ≤ 3) (ht : top ≤ 3) {x : Par} (hx : x ∈ sortA (allL ta tc s top 9)) :
  x.r.sign = s.id ∧ x.r.drop = false ∧ (0 ≤ x.r.dir ∧ x.r.dir ≤ 8) ∧ (1 ≤ x.r.level ∧ x.r.level ≤ top) ∧ ((x.r.dir = s.dir ∧ x.r.level = s.level) ∧ x.n = 1073741824 ∨ ¬ (x.r.dir = s.dir ∧ x.r.level = s.level) ∧ x.n < 1073741824) := by
 obtain ⟨d, hd9, v, hv, hf, rfl⟩ := mem_allL.1 ((sortA_perm _).mem_iff.1 hx)
 refine ⟨rfl, rfl, ?_, ?_, ?_⟩
 ·show (0 : Int) ≤ (d : Int) ∧ (d : Int) ≤ 8
  omega
 ·show (1 : Int) ≤ (v : Int) + 1 ∧ (v : Int) + 1 ≤ top
  omega
 ·show ((d : Int) = s.dir ∧ (v : Int) + 1 = s.level) ∧ keyI s d (v + 1) = 1073741824 ∨ ¬ ((d : Int) = s.dir ∧ (v : Int) + 1 = s.level) ∧ keyI s d (v + 1) < 1073741824
  unfold keyI ownB
  by_cases ho : (d : Int) = s.dir ∧ (v : Int) + 1 = s.level
  ·left; refine ⟨ho, ?_⟩; simp [ho.1, ho.2]
  ·right; refine ⟨ho, ?_⟩
   rw [if_neg (by simpa using ho)]
   have := dot_tab s.dir.toNat (by omega) (s.level - 1).toNat (by omega) d hd9 v (by omega)
   rw [show ((s.dir.toNat : Nat) : Int) = s.dir by omega, show (((s.level - 1).toNat : Nat) : Int) + 1 = s.level by omega] at this
   exact this
theorem own_mem {ta tc : Int} {s : Sgn} {top : Nat} (hd : 0 ≤ s.dir ∧ s.dir ≤ 8) (hl : 1 ≤ s.level ∧ s.level ≤ 3) (ht : s.level ≤ top) : parOf s s.dir s.level ∈ sortA (allL ta tc s top 9) := by
 refine (sortA_perm _).mem_iff.2 (mem_allL.2 ⟨s.dir.toNat, by omega, (s.level - 1).toNat, by omega, ?_, ?_⟩)
 ·rw [show ((s.dir.toNat : Nat) : Int) = s.dir by omega, show (((s.level - 1).toNat : Nat) : Int) + 1 = s.level by omega]
  unfold fitB ownB; simp
 ·rw [show ((s.dir.toNat : Nat) : Int) = s.dir by omega, show (((s.level - 1).toNat : Nat) : Int) + 1 = s.level by omega]
theorem limb_form {ta tc : Int} {s : Sgn} {top : Nat} (hm : movB s = true) (hd : 0 ≤ s.dir ∧ s.dir ≤ 8) (hl : 1 ≤ s.level ∧ s.level ≤ 3) (ht : top ≤ 3) {r : Rea} (hr : r ∈ optS ta tc s top) :
  r.sign = s.id ∧ r.drop = false ∧ formB s r = true ∧ r.level ≤ top := by
 unfold optS at hr
 obtain ⟨x, hx, rfl⟩ := List.mem_map.1 hr
 obtain ⟨h1, h2, h3, h4, _⟩ := par_facts hd hl ht hx
 refine ⟨h1, h2, ?_, h4.2⟩
 unfold formB
 rw [h2, hm]
 simp only [Bool.false_eq_true, if_false, if_true, Bool.and_eq_true, inB_iff]
 omega
theorem price_par {ta tc : Int} {s : Sgn} {top : Nat} (hm : movB s = true) (hd : 0 ≤ s.dir ∧ s.dir ≤ 8) (hl : 1 ≤ s.level ∧ s.level ≤ 3) (ht : top ≤ 3) {x : Par} (hx : x ∈ sortA (allL ta tc s top 9)) :
  priceI s x.r = if x.n = 1073741824 then 0 else 1 := by
 obtain ⟨h1, h2, h3, h4, h5⟩ := par_facts hd hl ht hx
 unfold priceI
 rw [h2, hm]
 rcases h5 with ⟨⟨a, b⟩, h⟩ | ⟨a, h⟩
 ·simp [a, b, h]
 ·rw [if_neg (by omega : ¬ x.n = 1073741824)]
  have : (decide (x.r.dir = s.dir) && decide (x.r.level = s.level)) = false := by simpa using a
  simp [this]
theorem limb_price {ta tc : Int} {s : Sgn} {top : Nat} (hm : movB s = true) (hd : 0 ≤ s.dir ∧ s.dir ≤ 8) (hl : 1 ≤ s.level ∧ s.level ≤ 3) (ht : top ≤ 3) :
  (optS ta tc s top).Pairwise fun r r' => priceI s r ≤ priceI s r' := by
 unfold optS
 rw [List.pairwise_map]
 refine (sortA_sorted _).imp_of_mem fun {x y} hx hy h => ?_
 rw [price_par hm hd hl ht hx, price_par hm hd hl ht hy]
 obtain ⟨_, _, _, _, hx5⟩ := par_facts hd hl ht hx
 obtain ⟨_, _, _, _, hy5⟩ := par_facts hd hl ht hy
 split <;> split <;> omega
theorem limb_head {ta tc : Int} {s : Sgn} {top : Nat} (hd : 0 ≤ s.dir ∧ s.dir ≤ 8) (hl : 1 ≤ s.level ∧ s.level ≤ 3) (ht : top ≤ 3) (h : s.level ≤ top) : (optS ta tc s top)[0]? = some ⟨s.id, s.dir, s.level, false⟩ := by
 have hm := own_mem (ta := ta) (tc := tc) hd hl h
 have hs := sortA_sorted (allL ta tc s top 9)
 have hf := fun (x : Par) (hx : x ∈ sortA (allL ta tc s top 9)) => par_facts hd hl ht hx
 unfold optS
 generalize sortA (allL ta tc s top 9) = L at *
 cases L with
 | nil => simp at hm
 | cons x r =>
  obtain ⟨h1, h2, _, _, h5⟩ := hf x (by simp)
  have hk : x.r.dir = s.dir ∧ x.r.level = s.level := by
   rcases List.mem_cons.1 hm with e | e
   ·rw [← e]; exact ⟨rfl, rfl⟩
   ·have := List.rel_of_pairwise_cons hs e
    have hk : (parOf s s.dir s.level).n = 1073741824 := by unfold parOf keyI ownB; simp
    rw [hk] at this
    rcases h5 with ⟨h, _⟩ | ⟨_, h⟩
    ·exact h
    ·omega
  simp only [List.map_cons, List.getElem?_cons_zero, Option.some.injEq]
  rcases x with ⟨⟨a, b, c, d⟩, n⟩
  simp only at h1 h2 hk
  rw [h1, h2, hk.1, hk.2]
theorem limb_none {ta tc : Int} {s : Sgn} {top : Nat} (hm : movB s = true) (hd : 0 ≤ s.dir ∧ s.dir ≤ 8) (hl : 1 ≤ s.level ∧ s.level ≤ 3) (ht : top ≤ 3) (h : ¬ s.level ≤ top) : ⟨s.id, s.dir, s.level, false⟩ ∉ optS ta tc s top := by
 intro hr
 have := (limb_form hm hd hl ht hr).2.2.2
 exact h this
end Go.Proofs.YtggcbblikgankaaDoor
end
section
namespace Go.Proofs.YtggcbblikgankaaDoor
open Go.RowKit Go.Sort
def canB (s : Sgn) (b : Bod) : Bool :=
 if s.kind = 1 then decide (s.size ≤ b.step) else if s.kind = 2 then decide (s.size ≤ b.jump) else if s.kind = 3 then decide (s.level ≤ b.t0) else if s.kind = 4 then decide (s.level ≤ b.t1) else if s.kind = 5 then decide (s.level ≤ b.t2) else true
def firstR (s : Sgn) (b : Bod) : Rea :=
 if s.kind = 1 ∨ s.kind = 2 then ⟨s.id, 0, 0, false⟩ else if s.kind = 9 then ⟨s.id, 0, min s.level b.t1, false⟩ else ⟨s.id, s.dir, s.level, false⟩
structure DoFacts (k : Wrk) (s : Sgn) (b : Bod) : Prop where
 form : ∀ r ∈ doL k s b, r.sign = s.id ∧ r.drop = false ∧ formB s r = true
 price : (doL k s b).Pairwise fun r r' => priceI s r ≤ priceI s r'
 can : canB s b = true → (doL k s b)[0]? = some (firstR s b) ∧ priceI s (firstR s b) = 0
 not : canB s b = false → firstR s b ∉ doL k s b
theorem right_rest {s : Sgn} {roles bars : Int} (h : rightB s roles bars = true) : (s.kind = 6 ∨ s.kind = 7 ∨ s.kind = 8 → s.dir = 0 ∧ s.level = 0) ∧ (s.kind = 9 → 1 ≤ s.level ∧ s.level ≤ 3) := by
 unfold rightB fieldsB at h
 simp only [Bool.and_eq_true] at h
 obtain ⟨⟨_, h⟩, _⟩ := h
 refine ⟨?_, ?_⟩
 ·rintro (e | e | e) <;> simp [e, inB_iff] at h <;> omega
 ·intro e; simp [e, inB_iff] at h; omega
theorem one_facts {k : Wrk} {s : Sgn} {b : Bod} {r : Rea} (hd : doL k s b = [r]) (hc : canB s b = true) (hr : firstR s b = r) (h1 : r.sign = s.id) (h2 : r.drop = false) (h3 : formB s r = true) (h4 : priceI s r = 0) : DoFacts k s b where
 form x hx := by
  rw [hd] at hx
  obtain rfl := List.mem_singleton.1 hx
  exact ⟨h1, h2, h3⟩
 price := by rw [hd]; exact List.pairwise_singleton _ _
 can _ := by rw [hd, hr]; exact ⟨rfl, h4⟩
 not h := by rw [hc] at h; cases h
theorem trav_facts {k : Wrk} {s : Sgn} {b : Bod} {n : Int} (hk : s.kind = 1 ∨ s.kind = 2) (hd : doL k s b = travL s n) (hc : canB s b = decide (s.size ≤ n)) : DoFacts k s b := by
 have hr : firstR s b = ⟨s.id, 0, 0, false⟩ := by unfold firstR; rw [if_pos hk]
 have hm : movB s = false := by unfold movB; rcases hk with h | h <;> simp [h]
 by_cases h : n < s.size
 ·have hd' : doL k s b = [] := by rw [hd]; unfold travL; rw [if_pos h]
  exact ⟨by rw [hd']; simp, by rw [hd']; exact List.Pairwise.nil, fun hc' => by rw [hc] at hc'; simp at hc'; omega, fun _ => by rw [hd']; simp⟩
 ·have hd' : doL k s b = [⟨s.id, 0, 0, false⟩] := by rw [hd]; unfold travL; rw [if_neg h]
  refine one_facts hd' (by rw [hc]; simp; omega) hr rfl rfl ?_ ?_
  ·unfold formB
   rw [hm]
   rcases hk with h | h <;> simp [h]
  ·unfold priceI; rw [hm]; simp
theorem limb_facts {k : Wrk} {s : Sgn} {b : Bod} {n : Int} (hm : movB s = true) (hne : ¬ (s.kind = 1 ∨ s.kind = 2) ∧ s.kind ≠ 9) (hd0 : 0 ≤ s.dir ∧ s.dir ≤ 8) (hl : 1 ≤ s.level ∧ s.level ≤ 3) (hn : 1 ≤ n ∧ n ≤ 3)
  (hd : doL k s b = optS k.ta k.tc s n.toNat) (hc : canB s b = decide (s.level ≤ n)) : DoFacts k s b := by
 have hr : firstR s b = ⟨s.id, s.dir, s.level, false⟩ := by unfold firstR; rw [if_neg hne.1, if_neg hne.2]
 have ht : n.toNat ≤ 3 := by omega
 refine ⟨fun r h => ?_, ?_, fun h => ?_, fun h => ?_⟩
 ·rw [hd] at h
  have := limb_form hm hd0 hl ht h
  exact ⟨this.1, this.2.1, this.2.2.1⟩
 ·rw [hd]; exact limb_price hm hd0 hl ht
 ·rw [hc] at h
  rw [hd, hr]
  refine ⟨limb_head hd0 hl ht (by have := of_decide_eq_true h; omega), ?_⟩
  unfold priceI; simp
 ·rw [hc] at h
  rw [hd, hr]
  exact limb_none hm hd0 hl ht (by have := of_decide_eq_false h; omega)
theorem do_facts {k : Wrk} {s : Sgn} {b : Bod} (hk : wrkE k = 0) (hs : s ∈ k.signs) (hb : bodB b = true) : DoFacts k s b := by
 have hR := wrk_right hk hs
 have hK := right_kind hR
 have h0 : 1 ≤ b.t0 ∧ b.t0 ≤ 3 := bod_top hb (i := 0) (by omega)
 have h1 : 1 ≤ b.t1 ∧ b.t1 ≤ 3 := bod_top hb (i := 1) (by omega)
 have h2 : 1 ≤ b.t2 ∧ b.t2 ≤ 3 := bod_top hb (i := 2) (by omega)
 have hcase : s.kind = 1 ∨ s.kind = 2 ∨ s.kind = 3 ∨ s.kind = 4 ∨ s.kind = 5 ∨ (s.kind = 6 ∨ s.kind = 7 ∨ s.kind = 8) ∨ s.kind = 9 := by omega
 rcases hcase with e | e | e | e | e | e | e
 ·exact trav_facts (n := b.step) (Or.inl e) (by unfold doL; simp [e]) (by unfold canB; simp [e])
 ·exact trav_facts (n := b.jump) (Or.inr e) (by unfold doL; simp [e]) (by unfold canB; simp [e])
 ·have hl := right_limb hR (Or.inl e)
  exact limb_facts (n := b.t0) (by unfold movB; simp [e]) (by omega) hl.1 hl.2 h0 (by unfold doL; simp [e]) (by unfold canB; simp [e])
 ·have hl := right_limb hR (Or.inr (Or.inl e))
  exact limb_facts (n := b.t1) (by unfold movB; simp [e]) (by omega) hl.1 hl.2 h1 (by unfold doL; simp [e]) (by unfold canB; simp [e])
 ·have hl := right_limb hR (Or.inr (Or.inr e))
  exact limb_facts (n := b.t2) (by unfold movB; simp [e]) (by omega) hl.1 hl.2 h2 (by unfold doL; simp [e]) (by unfold canB; simp [e])
 ·have hz := (right_rest hR).1 e
  have hm : movB s = false := by unfold movB; rcases e with e | e | e <;> simp [e]
  refine one_facts (r := ⟨s.id, 0, 0, false⟩) (by unfold doL; rcases e with e | e | e <;> simp [e]) (by unfold canB; rcases e with e | e | e <;> simp [e]) ?_ rfl rfl ?_ ?_
  ·unfold firstR; rw [hz.1, hz.2]; rcases e with e | e | e <;> simp [e]
  ·unfold formB; rw [hm]; rcases e with e | e | e <;> simp [e]
  ·unfold priceI; rw [hm]; simp
 ·have hz := (right_rest hR).2 e
  have hm : movB s = false := by unfold movB; simp [e]
  refine one_facts (r := ⟨s.id, 0, min s.level b.t1, false⟩) (by unfold doL; simp [e]) (by unfold canB; simp [e]) (by unfold firstR; simp [e]) rfl rfl ?_ ?_
  ·unfold formB; rw [hm]
   have : inB (min s.level b.t1) 1 3 = true := inB_iff.2 (by omega)
   simp [e, this]
  ·unfold priceI; rw [hm]; simp
structure OptFacts (k : Wrk) (s : Sgn) (b : Bod) : Prop where
 form : ∀ i r, (optL k s b)[i]? = some r → r.sign = s.id ∧ formB s r = true ∧ r.drop = (decide (i + 1 = (optL k s b).length) && decide (s.mark ≠ 1))
 price : (optL k s b).Pairwise fun r r' => priceI s r ≤ priceI s r'
 pos : ∀ r ∈ optL k s b, 0 ≤ priceI s r
 more : s.mark ≠ 1 → optL k s b ≠ []
 can : canB s b = true → (optL k s b)[0]? = some (firstR s b) ∧ priceI s (firstR s b) = 0 ∧ formB s (firstR s b) = true ∧ (firstR s b).sign = s.id
 not : canB s b = false → (optL k s b)[0]? ≠ some (firstR s b)
theorem first_drop (s : Sgn) (b : Bod) : (firstR s b).drop = false := by unfold firstR; split <;> (try split) <;> rfl
theorem price_nn (s : Sgn) (r : Rea) : 0 ≤ priceI s r := by unfold priceI; repeat' split <;> omega
theorem price_do {s : Sgn} {r : Rea} (h : r.drop = false) : priceI s r ≤ 1 := by unfold priceI; rw [h]; simp; split <;> omega
theorem price_drop {s : Sgn} (hm : 1 ≤ s.mark ∧ s.mark ≤ 3) : 1 ≤ priceI s ⟨s.id, 0, 0, true⟩ := by unfold priceI; simp; repeat' split <;> omega
theorem opt_facts {k : Wrk} {s : Sgn} {b : Bod} (hk : wrkE k = 0) (hs : s ∈ k.signs) (hb : bodB b = true) : OptFacts k s b := by
 obtain ⟨f1, f2, f3, f4⟩ := do_facts hk hs hb
 have hR := wrk_right hk hs
 have hm : 1 ≤ s.mark ∧ s.mark ≤ 3 := by
  unfold rightB at hR
  simp only [Bool.and_eq_true, inB_iff] at hR
  omega
 have hdrop : formB s ⟨s.id, 0, 0, true⟩ = true := by unfold formB; simp
 refine ⟨?_, ?_, fun r _ => price_nn s r, ?_, ?_, ?_⟩
 ·intro i r hr
  unfold optL at hr ⊢
  by_cases hi : i < (doL k s b).length
  ·rw [List.getElem?_append_left hi] at hr
   have := f1 r (List.mem_of_getElem? hr)
   refine ⟨this.1, this.2.2, ?_⟩
   rw [this.2.1]
   unfold dropL
   split
   ·rename_i h1; simp [h1]
   ·have h2 : ¬ (i + 1 = (doL k s b ++ [(⟨s.id, 0, 0, true⟩ : Rea)]).length) := by simp; omega
    rw [decide_eq_false h2, Bool.false_and]
  ·rw [List.getElem?_append_right (by omega)] at hr
   unfold dropL at hr ⊢
   split at hr
   ·simp at hr
   ·rename_i h1
    have hi2 : i - (doL k s b).length = 0 := by
     rcases Nat.eq_zero_or_pos (i - (doL k s b).length) with h | h
     ·exact h
     ·rw [List.getElem?_eq_none (by simp; omega)] at hr; cases hr
    rw [hi2] at hr
    simp at hr
    subst hr
    refine ⟨rfl, hdrop, ?_⟩
    rw [if_neg h1]
    have h2 : i + 1 = (doL k s b ++ [(⟨s.id, 0, 0, true⟩ : Rea)]).length := by simp; omega
    simp [h2, h1]
 ·unfold optL dropL
  rw [List.pairwise_append]
  refine ⟨f2, ?_, ?_⟩
  ·split
   ·exact List.Pairwise.nil
   ·exact List.pairwise_singleton _ _
  ·intro x hx y hy
   split at hy
   ·simp at hy
   ·obtain rfl := List.mem_singleton.1 hy
    have := price_do (s := s) (f1 x hx).2.1
    have := price_drop hm
    omega
 ·intro h
  unfold optL dropL
  rw [if_neg h]; simp
 ·intro h
  have ⟨g1, g2⟩ := f3 h
  have g3 := f1 _ (List.mem_of_getElem? g1)
  refine ⟨?_, g2, g3.2.2, g3.1⟩
  unfold optL
  obtain ⟨h0, _⟩ := List.getElem?_eq_some_iff.1 g1
  rw [List.getElem?_append_left h0]; exact g1
 ·intro h he
  unfold optL at he
  by_cases h0 : 0 < (doL k s b).length
  ·rw [List.getElem?_append_left h0] at he
   exact f4 h (List.mem_of_getElem? he)
  ·rw [List.getElem?_append_right (by omega)] at he
   unfold dropL at he
   split at he
   ·simp at he
   ·have : (0 : Nat) - (doL k s b).length = 0 := by omega
    rw [this] at he
    simp at he
    have h2 := first_drop s b
    rw [← he] at h2
    cases h2
end Go.Proofs.YtggcbblikgankaaDoor
end
