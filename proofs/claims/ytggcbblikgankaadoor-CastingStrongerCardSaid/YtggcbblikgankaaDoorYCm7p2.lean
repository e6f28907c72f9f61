/- The walk of the statement: part 2. -/
import Derived.Test.YtggcbblikgankaaDoorZ34
import Derived.Test.YtggcbblikgankaaDoorZ7
import Derived.Test.YtggcbblikgankaaDoorYCm7p1
import Derived.Test.YtggcbblikgankaaDoorZ36
import Derived.Laws.CopyOwn
import Derived.OrdersHeld
import Derived.Deep.RegionHeld
set_option linter.unusedVariables false
set_option linter.unusedSimpArgs false
section
namespace Go.Proofs.YtggcbblikgankaaDoor
open Go.RowKit Go.Sort
theorem sortA_sorted (l : List Par) : (sortA l).Pairwise fun x y => y.n ≤ x.n := by
 have h := (insertionSort_holds (lt := ltOf cfP) swo_cfP l.toArray 0 l.length (Nat.zero_le _) (by simp)).2
 have hlen := sortA_len l
 rw [List.pairwise_iff_getElem]
 intro i j hi hj hij
 have h2 := h i j (Nat.zero_le _) hij (by omega)
 have e : ∀ m (hm : m < (sortA l).length), (Sort.insertionSort (ltOf cfP) l.toArray 0 l.length)[m]! = (sortA l)[m] := by
  intro m hm
  unfold sortA at hm ⊢
  rw [Array.getElem_toList, getElem!_pos _ m (by simpa using hm)]
 rw [e j hj, e i hi] at h2
 unfold ltOf cfP cmpI at h2
 simp only [decide_eq_false_iff_not] at h2
 split at h2
 ·omega
 ·split at h2 <;> omega
set_option maxRecDepth 100000 in
theorem dot_tab : ∀ a, a < 9 → ∀ l, l < 3 → ∀ d, d < 9 → ∀ v, v < 3 → dotI (a : Nat) ((l : Nat) + 1 : Int) (d : Nat) ((v : Nat) + 1 : Int) < 1073741824 := by decide
theorem mem_allL {ta tc : Int} {s : Sgn} {top m : Nat} {x : Par} : x ∈ allL ta tc s top m ↔ ∃ d, d < m ∧ ∃ v, v < top ∧ fitB ta tc s (d : Nat) ((v : Nat) + 1 : Int) = true ∧ parOf s (d : Nat) ((v : Nat) + 1 : Int) = x := by
 unfold allL lineL
 simp only [List.mem_flatMap, List.mem_range, List.mem_filterMap]
 constructor
 ·rintro ⟨d, hd, v, hv, h⟩
  split at h
  ·rename_i hf
   exact ⟨d, hd, v, hv, hf, by simpa using h⟩
  ·simp at h
 ·rintro ⟨d, hd, v, hv, hf, h⟩
  exact ⟨d, hd, v, hv, by rw [if_pos hf, h]⟩
theorem par_facts {ta tc : Int} {s : Sgn} {top : Nat} (hd : 0 ≤ s.dir ∧ s.dir ≤ 8) (hl : 1 ≤ s.level ∧ s.level ≤ 3) (ht : top ≤ 3) {x : Par} (hx : x ∈ sortA (allL ta tc s top 9)) :
  x.r.sign = s.id ∧ x.r.drop = false ∧ (0 ≤ x.r.dir ∧ x.r.dir ≤ 8) ∧ (1 ≤ x.r.level ∧ x.r.level ≤ top) ∧ ((x.r.dir = s.dir ∧ x.r.level = s.level) ∧ x.n = 1073741824 ∨ ¬ (x.r.dir = s.dir ∧ x.r.level = s.level) ∧ x.n < 1073741824) := by
 obtain ⟨d, hd9, v, hv, hf, rfl⟩ := mem_allL.1 ((sortA_perm _).mem_iff.1 hx)
 refine ⟨rfl, rfl, ?_, ?_, ?_⟩
 ·show (0 : Int) ≤ (d : Int) ∧ (d : Int) ≤ 8
  omega
 ·show (1 : Int) ≤ (v : Int) + 1 ∧ (v : Int) + 1 ≤ top
  omega
 ·show ((d : Int) = s.dir ∧ (v : Int) + 1 = s.level) ∧ keyI s d (v + 1) = 1073741824 ∨ ¬ ((d : Int) = s.dir ∧ (v : Int) + 1 = s.level) ∧ keyI s d (v + 1) < 1073741824
  unfold keyI ownB
  by_cases ho : (d : Int) = s.dir ∧ (v : Int) + 1 = s.level
  ·left; refine ⟨ho, ?_⟩; simp [ho.1, ho.2]
  ·right; refine ⟨ho, ?_⟩
   rw [if_neg (by simpa using ho)]
   have := dot_tab s.dir.toNat (by omega) (s.level - 1).toNat (by omega) d hd9 v (by omega)
   rw [show ((s.dir.toNat : Nat) : Int) = s.dir by omega, show (((s.level - 1).toNat : Nat) : Int) + 1 = s.level by omega] at this
   exact this
theorem own_mem {ta tc : Int} {s : Sgn} {top : Nat} (hd : 0 ≤ s.dir ∧ s.dir ≤ 8) (hl : 1 ≤ s.level ∧ s.level ≤ 3) (ht : s.level ≤ top) : parOf s s.dir s.level ∈ sortA (allL ta tc s top 9) := by
 refine (sortA_perm _).mem_iff.2 (mem_allL.2 ⟨s.dir.toNat, by omega, (s.level - 1).toNat, by omega, ?_, ?_⟩)
 ·rw [show ((s.dir.toNat : Nat) : Int) = s.dir by omega, show (((s.level - 1).toNat : Nat) : Int) + 1 = s.level by omega]
  unfold fitB ownB; simp
 ·rw [show ((s.dir.toNat : Nat) : Int) = s.dir by omega, show (((s.level - 1).toNat : Nat) : Int) + 1 = s.level by omega]
theorem limb_form {ta tc : Int} {s : Sgn} {top : Nat} (hm : movB s = true) (hd : 0 ≤ s.dir ∧ s.dir ≤ 8) (hl : 1 ≤ s.level ∧ s.level ≤ 3) (ht : top ≤ 3) {r : Rea} (hr : r ∈ optS ta tc s top) :
  r.sign = s.id ∧ r.drop = false ∧ formB s r = true ∧ r.level ≤ top := by
 unfold optS at hr
 obtain ⟨x, hx, rfl⟩ := List.mem_map.1 hr
 obtain ⟨h1, h2, h3, h4, _⟩ := par_facts hd hl ht hx
 refine ⟨h1, h2, ?_, h4.2⟩
 unfold formB
 rw [h2, hm]
 simp only [Bool.false_eq_true, if_false, if_true, Bool.and_eq_true, inB_iff]
 omega
theorem price_par {ta tc : Int} {s : Sgn} {top : Nat} (hm : movB s = true) (hd : 0 ≤ s.dir ∧ s.dir ≤ 8) (hl : 1 ≤ s.level ∧ s.level ≤ 3) (ht : top ≤ 3) {x : Par} (hx : x ∈ sortA (allL ta tc s top 9)) :
  priceI s x.r = if x.n = 1073741824 then 0 else 1 := by
 obtain ⟨h1, h2, h3, h4, h5⟩ := par_facts hd hl ht hx
 unfold priceI
 rw [h2, hm]
 rcases h5 with ⟨⟨a, b⟩, h⟩ | ⟨a, h⟩
 ·simp [a, b, h]
 ·rw [if_neg (by omega : ¬ x.n = 1073741824)]
  have : (decide (x.r.dir = s.dir) && decide (x.r.level = s.level)) = false := by simpa using a
  simp [this]
theorem limb_price {ta tc : Int} {s : Sgn} {top : Nat} (hm : movB s = true) (hd : 0 ≤ s.dir ∧ s.dir ≤ 8) (hl : 1 ≤ s.level ∧ s.level ≤ 3) (ht : top ≤ 3) :
  (optS ta tc s top).Pairwise fun r r' => priceI s r ≤ priceI s r' := by
 unfold optS
 rw [List.pairwise_map]
 refine (sortA_sorted _).imp_of_mem fun {x y} hx hy h => ?_
 rw [price_par hm hd hl ht hx, price_par hm hd hl ht hy]
 obtain ⟨_, _, _, _, hx5⟩ := par_facts hd hl ht hx
 obtain ⟨_, _, _, _, hy5⟩ := par_facts hd hl ht hy
 split <;> split <;> omega
theorem limb_head {ta tc : Int} {s : Sgn} {top : Nat} (hd : 0 ≤ s.dir ∧ s.dir ≤ 8) (hl : 1 ≤ s.level ∧ s.level ≤ 3) (ht : top ≤ 3) (h : s.level ≤ top) : (optS ta tc s top)[0]? = some ⟨s.id, s.dir, s.level, false⟩ := by
 have hm := own_mem (ta := ta) (tc := tc) hd hl h
 have hs := sortA_sorted (allL ta tc s top 9)
 have hf := fun (x : Par) (hx : x ∈ sortA (allL ta tc s top 9)) => par_facts hd hl ht hx
 unfold optS
 generalize sortA (allL ta tc s top 9) = L at *
 cases L with
 | nil => simp at hm
 | cons x r =>
  obtain ⟨h1, h2, _, _, h5⟩ := hf x (by simp)
  have hk : x.r.dir = s.dir ∧ x.r.level = s.level := by
   rcases List.mem_cons.1 hm with e | e
   ·rw [← e]; exact ⟨rfl, rfl⟩
   ·have := List.rel_of_pairwise_cons hs e
    have hk : (parOf s s.dir s.level).n = 1073741824 := by unfold parOf keyI ownB; simp
    rw [hk] at this
    rcases h5 with ⟨h, _⟩ | ⟨_, h⟩
    ·exact h
    ·omega
  simp only [List.map_cons, List.getElem?_cons_zero, Option.some.injEq]
  rcases x with ⟨⟨a, b, c, d⟩, n⟩
  simp only at h1 h2 hk
  rw [h1, h2, hk.1, hk.2]
theorem limb_none {ta tc : Int} {s : Sgn} {top : Nat} (hm : movB s = true) (hd : 0 ≤ s.dir ∧ s.dir ≤ 8) (hl : 1 ≤ s.level ∧ s.level ≤ 3) (ht : top ≤ 3) (h : ¬ s.level ≤ top) : ⟨s.id, s.dir, s.level, false⟩ ∉ optS ta tc s top := by
 intro hr
 have := (limb_form hm hd hl ht hr).2.2.2
 exact h this
end Go.Proofs.YtggcbblikgankaaDoor
end
section
namespace Go.Proofs.YtggcbblikgankaaDoor
open Go.RowKit Go.Sort
def canB (s : Sgn) (b : Bod) : Bool :=
 if s.kind = 1 then decide (s.size ≤ b.step) else if s.kind = 2 then decide (s.size ≤ b.jump) else if s.kind = 3 then decide (s.level ≤ b.t0) else if s.kind = 4 then decide (s.level ≤ b.t1) else if s.kind = 5 then decide (s.level ≤ b.t2) else true
def firstR (s : Sgn) (b : Bod) : Rea :=
 if s.kind = 1 ∨ s.kind = 2 then ⟨s.id, 0, 0, false⟩ else if s.kind = 9 then ⟨s.id, 0, min s.level b.t1, false⟩ else ⟨s.id, s.dir, s.level, false⟩
structure DoFacts (k : Wrk) (s : Sgn) (b : Bod) : Prop where
 form : ∀ r ∈ doL k s b, r.sign = s.id ∧ r.drop = false ∧ formB s r = true
 price : (doL k s b).Pairwise fun r r' => priceI s r ≤ priceI s r'
 can : canB s b = true → (doL k s b)[0]? = some (firstR s b) ∧ priceI s (firstR s b) = 0
 not : canB s b = false → firstR s b ∉ doL k s b
theorem right_rest {s : Sgn} {roles bars : Int} (h : rightB s roles bars = true) : (s.kind = 6 ∨ s.kind = 7 ∨ s.kind = 8 → s.dir = 0 ∧ s.level = 0) ∧ (s.kind = 9 → 1 ≤ s.level ∧ s.level ≤ 3) := by
 unfold rightB fieldsB at h
 simp only [Bool.and_eq_true] at h
 obtain ⟨⟨_, h⟩, _⟩ := h
 refine ⟨?_, ?_⟩
 ·rintro (e | e | e) <;> simp [e, inB_iff] at h <;> omega
 ·intro e; simp [e, inB_iff] at h; omega
theorem one_facts {k : Wrk} {s : Sgn} {b : Bod} {r : Rea} (hd : doL k s b = [r]) (hc : canB s b = true) (hr : firstR s b = r) (h1 : r.sign = s.id) (h2 : r.drop = false) (h3 : formB s r = true) (h4 : priceI s r = 0) : DoFacts k s b where
 form x hx := by
  rw [hd] at hx
  obtain rfl := List.mem_singleton.1 hx
  exact ⟨h1, h2, h3⟩
 price := by rw [hd]; exact List.pairwise_singleton _ _
 can _ := by rw [hd, hr]; exact ⟨rfl, h4⟩
 not h := by rw [hc] at h; cases h
theorem trav_facts {k : Wrk} {s : Sgn} {b : Bod} {n : Int} (hk : s.kind = 1 ∨ s.kind = 2) (hd : doL k s b = travL s n) (hc : canB s b = decide (s.size ≤ n)) : DoFacts k s b := by
 have hr : firstR s b = ⟨s.id, 0, 0, false⟩ := by unfold firstR; rw [if_pos hk]
 have hm : movB s = false := by unfold movB; rcases hk with h | h <;> simp [h]
 by_cases h : n < s.size
 ·have hd' : doL k s b = [] := by rw [hd]; unfold travL; rw [if_pos h]
  exact ⟨by rw [hd']; simp, by rw [hd']; exact List.Pairwise.nil, fun hc' => by rw [hc] at hc'; simp at hc'; omega, fun _ => by rw [hd']; simp⟩
 ·have hd' : doL k s b = [⟨s.id, 0, 0, false⟩] := by rw [hd]; unfold travL; rw [if_neg h]
  refine one_facts hd' (by rw [hc]; simp; omega) hr rfl rfl ?_ ?_
  ·unfold formB
   rw [hm]
   rcases hk with h | h <;> simp [h]
  ·unfold priceI; rw [hm]; simp
theorem limb_facts {k : Wrk} {s : Sgn} {b : Bod} {n : Int} (hm : movB s = true) (hne : ¬ (s.kind = 1 ∨ s.kind = 2) ∧ s.kind ≠ 9) (hd0 : 0 ≤ s.dir ∧ s.dir ≤ 8) (hl : 1 ≤ s.level ∧ s.level ≤ 3) (hn : 1 ≤ n ∧ n ≤ 3)
  (hd : doL k s b = optS k.ta k.tc s n.toNat) (hc : canB s b = decide (s.level ≤ n)) : DoFacts k s b := by
 have hr : firstR s b = ⟨s.id, s.dir, s.level, false⟩ := by unfold firstR; rw [if_neg hne.1, if_neg hne.2]
 have ht : n.toNat ≤ 3 := by omega
 refine ⟨fun r h => ?_, ?_, fun h => ?_, fun h => ?_⟩
 ·rw [hd] at h
  have := limb_form hm hd0 hl ht h
  exact ⟨this.1, this.2.1, this.2.2.1⟩
 ·rw [hd]; exact limb_price hm hd0 hl ht
 ·rw [hc] at h
  rw [hd, hr]
  refine ⟨limb_head hd0 hl ht (by have := of_decide_eq_true h; omega), ?_⟩
  unfold priceI; simp
 ·rw [hc] at h
  rw [hd, hr]
  exact limb_none hm hd0 hl ht (by have := of_decide_eq_false h; omega)
theorem do_facts {k : Wrk} {s : Sgn} {b : Bod} (hk : wrkE k = 0) (hs : s ∈ k.signs) (hb : bodB b = true) : DoFacts k s b := by
 have hR := wrk_right hk hs
 have hK := right_kind hR
 have h0 : 1 ≤ b.t0 ∧ b.t0 ≤ 3 := bod_top hb (i := 0) (by omega)
 have h1 : 1 ≤ b.t1 ∧ b.t1 ≤ 3 := bod_top hb (i := 1) (by omega)
 have h2 : 1 ≤ b.t2 ∧ b.t2 ≤ 3 := bod_top hb (i := 2) (by omega)
 have hcase : s.kind = 1 ∨ s.kind = 2 ∨ s.kind = 3 ∨ s.kind = 4 ∨ s.kind = 5 ∨ (s.kind = 6 ∨ s.kind = 7 ∨ s.kind = 8) ∨ s.kind = 9 := by omega
 rcases hcase with e | e | e | e | e | e | e
 ·exact trav_facts (n := b.step) (Or.inl e) (by unfold doL; simp [e]) (by unfold canB; simp [e])
 ·exact trav_facts (n := b.jump) (Or.inr e) (by unfold doL; simp [e]) (by unfold canB; simp [e])
 ·have hl := right_limb hR (Or.inl e)
  exact limb_facts (n := b.t0) (by unfold movB; simp [e]) (by omega) hl.1 hl.2 h0 (by unfold doL; simp [e]) (by unfold canB; simp [e])
 ·have hl := right_limb hR (Or.inr (Or.inl e))
  exact limb_facts (n := b.t1) (by unfold movB; simp [e]) (by omega) hl.1 hl.2 h1 (by unfold doL; simp [e]) (by unfold canB; simp [e])
 ·have hl := right_limb hR (Or.inr (Or.inr e))
  exact limb_facts (n := b.t2) (by unfold movB; simp [e]) (by omega) hl.1 hl.2 h2 (by unfold doL; simp [e]) (by unfold canB; simp [e])
 ·have hz := (right_rest hR).1 e
  have hm : movB s = false := by unfold movB; rcases e with e | e | e <;> simp [e]
  refine one_facts (r := ⟨s.id, 0, 0, false⟩) (by unfold doL; rcases e with e | e | e <;> simp [e]) (by unfold canB; rcases e with e | e | e <;> simp [e]) ?_ rfl rfl ?_ ?_
  ·unfold firstR; rw [hz.1, hz.2]; rcases e with e | e | e <;> simp [e]
  ·unfold formB; rw [hm]; rcases e with e | e | e <;> simp [e]
  ·unfold priceI; rw [hm]; simp
 ·have hz := (right_rest hR).2 e
  have hm : movB s = false := by unfold movB; simp [e]
  refine one_facts (r := ⟨s.id, 0, min s.level b.t1, false⟩) (by unfold doL; simp [e]) (by unfold canB; simp [e]) (by unfold firstR; simp [e]) rfl rfl ?_ ?_
  ·unfold formB; rw [hm]
   have : inB (min s.level b.t1) 1 3 = true := inB_iff.2 (by omega)
   simp [e, this]
  ·unfold priceI; rw [hm]; simp
structure OptFacts (k : Wrk) (s : Sgn) (b : Bod) : Prop where
 form : ∀ i r, (optL k s b)[i]? = some r → r.sign = s.id ∧ formB s r = true ∧ r.drop = (decide (i + 1 = (optL k s b).length) && decide (s.mark ≠ 1))
 price : (optL k s b).Pairwise fun r r' => priceI s r ≤ priceI s r'
 pos : ∀ r ∈ optL k s b, 0 ≤ priceI s r
 more : s.mark ≠ 1 → optL k s b ≠ []
 can : canB s b = true → (optL k s b)[0]? = some (firstR s b) ∧ priceI s (firstR s b) = 0 ∧ formB s (firstR s b) = true ∧ (firstR s b).sign = s.id
 not : canB s b = false → (optL k s b)[0]? ≠ some (firstR s b)
theorem first_drop (s : Sgn) (b : Bod) : (firstR s b).drop = false := by unfold firstR; split <;> (try split) <;> rfl
theorem price_nn (s : Sgn) (r : Rea) : 0 ≤ priceI s r := by unfold priceI; repeat' split <;> omega
theorem price_do {s : Sgn} {r : Rea} (h : r.drop = false) : priceI s r ≤ 1 := by unfold priceI; rw [h]; simp; split <;> omega
theorem price_drop {s : Sgn} (hm : 1 ≤ s.mark ∧ s.mark ≤ 3) : 1 ≤ priceI s ⟨s.id, 0, 0, true⟩ := by unfold priceI; simp; repeat' split <;> omega
theorem opt_facts {k : Wrk} {s : Sgn} {b : Bod} (hk : wrkE k = 0) (hs : s ∈ k.signs) (hb : bodB b = true) : OptFacts k s b := by
 obtain ⟨f1, f2, f3, f4⟩ := do_facts hk hs hb
 have hR := wrk_right hk hs
 have hm : 1 ≤ s.mark ∧ s.mark ≤ 3 := by
  unfold rightB at hR
  simp only [Bool.and_eq_true, inB_iff] at hR
  omega
 have hdrop : formB s ⟨s.id, 0, 0, true⟩ = true := by unfold formB; simp
 refine ⟨?_, ?_, fun r _ => price_nn s r, ?_, ?_, ?_⟩
 ·intro i r hr
  unfold optL at hr ⊢
  by_cases hi : i < (doL k s b).length
  ·rw [List.getElem?_append_left hi] at hr
   have := f1 r (List.mem_of_getElem? hr)
   refine ⟨this.1, this.2.2, ?_⟩
   rw [this.2.1]
   unfold dropL
   split
   ·rename_i h1; simp [h1]
   ·have h2 : ¬ (i + 1 = (doL k s b ++ [(⟨s.id, 0, 0, true⟩ : Rea)]).length) := by simp; omega
    rw [decide_eq_false h2, Bool.false_and]
  ·rw [List.getElem?_append_right (by omega)] at hr
   unfold dropL at hr ⊢
   split at hr
   ·simp at hr
   ·rename_i h1
    have hi2 : i - (doL k s b).length = 0 := by
     rcases Nat.eq_zero_or_pos (i - (doL k s b).length) with h | h
     ·exact h
     ·rw [List.getElem?_eq_none (by simp; omega)] at hr; cases hr
    rw [hi2] at hr
    simp at hr
    subst hr
    refine ⟨rfl, hdrop, ?_⟩
    rw [if_neg h1]
    have h2 : i + 1 = (doL k s b ++ [(⟨s.id, 0, 0, true⟩ : Rea)]).length := by simp; omega
    simp [h2, h1]
 ·unfold optL dropL
  rw [List.pairwise_append]
  refine ⟨f2, ?_, ?_⟩
  ·split
   ·exact List.Pairwise.nil
   ·exact List.pairwise_singleton _ _
  ·intro x hx y hy
   split at hy
   ·simp at hy
   ·obtain rfl := List.mem_singleton.1 hy
    have := price_do (s := s) (f1 x hx).2.1
    have := price_drop hm
    omega
 ·intro h
  unfold optL dropL
  rw [if_neg h]; simp
 ·intro h
  have ⟨g1, g2⟩ := f3 h
  have g3 := f1 _ (List.mem_of_getElem? g1)
  refine ⟨?_, g2, g3.2.2, g3.1⟩
  unfold optL
  obtain ⟨h0, _⟩ := List.getElem?_eq_some_iff.1 g1
  rw [List.getElem?_append_left h0]; exact g1
 ·intro h he
  unfold optL at he
  by_cases h0 : 0 < (doL k s b).length
  ·rw [List.getElem?_append_left h0] at he
   exact f4 h (List.mem_of_getElem? he)
  ·rw [List.getElem?_append_right (by omega)] at he
   unfold dropL at he
   split at he
   ·simp at he
   ·have : (0 : Nat) - (doL k s b).length = 0 := by omega
    rw [this] at he
    simp at he
    have h2 := first_drop s b
    rw [← he] at h2
    cases h2
end Go.Proofs.YtggcbblikgankaaDoor
end
section
namespace Go.Proofs.YtggcbblikgankaaDoor
open Go Go.RowKit
end Go.Proofs.YtggcbblikgankaaDoor
end
section
namespace Go.Proofs.YtggcbblikgankaaDoor
open Go Go.RowKit Go.Deep
structure Cap where
 kind : Int
 limb : Int
 n : Int
 deriving DecidableEq
instance : Inhabited Cap := ⟨⟨0, 0, 0⟩⟩
def lmaxOf (k : Nat) : Int := if k = 1 ∨ k = 2 then 2 else 0
def ruleK (k : Nat) : Array Value := #[.func (.func (78 + k)) #[] #[], .int .i64 (loOf (k - 1)), .int .i64 (hiOf (k - 1)), .int .i64 (lmaxOf k)]
theorem rule_step {W w : World} {A : Nat} {cs : Array Value} {t : TypeId} (hb : Below W.heap.size W w) (hA : w.heap[A]? = some (.cells cs t (0, 0))) (cs' : Array Value) (t' : TypeId) : ∃ w', w.alloc (.cells cs' t') = w' ∧ w'.heap[A]? = some (.cells cs t (0, 0)) ∧ w'.heap[w.heap.size]? = some (.cells cs' t' (0, 0)) ∧ Below W.heap.size W w' ∧ w.heap.size < w'.heap.size ∧ W.heap.size ≤ w.heap.size :=
 ⟨_, rfl, (Below.heap_alloc w _ A (Array.getElem?_eq_some_iff.1 hA).1).trans hA, heap_alloc_new w _, hb.alloc hb.size _, by simp, hb.size⟩
end Go.Proofs.YtggcbblikgankaaDoor
end
section
namespace Go.Proofs.YtggcbblikgankaaDoor
open Go.RowKit Go.Sort
theorem cnt_app (p : Par → Bool) (a b : List Par) : (a ++ b).countP p = a.countP p + b.countP p := List.countP_append
theorem lineL_cnt (ta tc : Int) (s : Sgn) (d e v : Nat) (hv : 1 ≤ v) : ∀ m, (lineL ta tc s e m).countP (fun x => decide (x.r = (⟨s.id, d, v, false⟩ : Rea))) = if e = d ∧ v ≤ m ∧ fitB ta tc s d v = true then 1 else 0
 | 0 => by
  rw [if_neg (by omega)]
  simp [lineL]
 | m + 1 => by
  have ih := lineL_cnt ta tc s d e v hv m
  cases hf : fitB ta tc s e ((m : Int) + 1) with
  | true =>
   rw [lineL_yes hf, cnt_app, ih]
   by_cases h : e = d ∧ m + 1 = v
   ·obtain ⟨rfl, rfl⟩ := h
    rw [if_neg (by omega), if_pos ⟨rfl, Nat.le_refl _, by simpa using hf⟩]
    simp [parOf]
   ·have h1 : ¬ (parOf s e ((m : Int) + 1)).r = (⟨s.id, d, v, false⟩ : Rea) := by
     unfold parOf
     intro hc
     injection hc with _ h2 h3 _
     exact h ⟨by omega, by omega⟩
    rw [List.countP_cons_of_neg (by simpa using h1), List.countP_nil]
    by_cases h2 : e = d ∧ v ≤ m ∧ fitB ta tc s d v = true
    ·rw [if_pos h2, if_pos ⟨h2.1, by omega, h2.2.2⟩]
    ·rw [if_neg h2, if_neg (fun h3 => h2 ⟨h3.1, by have : ¬ (m + 1 = v) := fun h4 => h ⟨h3.1, h4⟩; omega, h3.2.2⟩)]
  | false =>
   rw [lineL_no hf, ih]
   by_cases h2 : e = d ∧ v ≤ m ∧ fitB ta tc s d v = true
   ·rw [if_pos h2, if_pos ⟨h2.1, by omega, h2.2.2⟩]
   ·rw [if_neg h2, if_neg]
    intro h3
    by_cases h4 : v = m + 1
    ·obtain ⟨rfl, _, h5⟩ := h3
     rw [h4] at h5
     have : fitB ta tc s (e : Nat) ((m : Int) + 1) = true := by simpa using h5
     rw [hf] at this; cases this
    ·exact h2 ⟨h3.1, by omega, h3.2.2⟩
theorem allL_cnt (ta tc : Int) (s : Sgn) (top d v : Nat) (hv : 1 ≤ v) : ∀ m, (allL ta tc s top m).countP (fun x => decide (x.r = (⟨s.id, d, v, false⟩ : Rea))) = if d < m ∧ v ≤ top ∧ fitB ta tc s d v = true then 1 else 0
 | 0 => by rw [if_neg (by omega)]; simp [allL]
 | m + 1 => by
  rw [allL_succ, cnt_app, allL_cnt ta tc s top d v hv m, lineL_cnt ta tc s d m v hv top]
  by_cases h : m = d
  ·subst h
   have hz : ¬ (m < m ∧ v ≤ top ∧ fitB ta tc s m v = true) := fun h => Nat.lt_irrefl _ h.1
   rw [if_neg hz]
   by_cases h2 : v ≤ top ∧ fitB ta tc s m v = true
   ·rw [if_pos ⟨rfl, h2⟩, if_pos ⟨by omega, h2⟩]
   ·rw [if_neg (fun h3 => h2 h3.2), if_neg (fun h3 => h2 h3.2)]
  ·have hz : ¬ (m = d ∧ v ≤ top ∧ fitB ta tc s d v = true) := fun h2 => h h2.1
   rw [if_neg hz]
   by_cases h2 : d < m ∧ v ≤ top ∧ fitB ta tc s d v = true
   ·rw [if_pos h2, if_pos ⟨by omega, h2.2⟩]
   ·rw [if_neg h2, if_neg (fun h3 => h2 ⟨by omega, h3.2⟩)]
theorem optS_cnt (ta tc : Int) (s : Sgn) (top d v : Nat) (hd : d < 9) (hv : 1 ≤ v) : hasN (optS ta tc s top) ⟨s.id, d, v, false⟩ = if v ≤ top ∧ fitB ta tc s d v = true then 1 else 0 := by
 unfold hasN optS
 rw [List.countP_map]
 rw [(sortA_perm _).countP_eq]
 have := allL_cnt ta tc s top d v hv 9
 rw [show ((fun x => decide (x = (⟨s.id, d, v, false⟩ : Rea))) ∘ fun x : Par => x.r) = (fun x : Par => decide (x.r = (⟨s.id, d, v, false⟩ : Rea))) from rfl, this]
 by_cases h2 : v ≤ top ∧ fitB ta tc s d v = true
 ·rw [if_pos ⟨hd, h2⟩, if_pos h2]
 ·rw [if_neg (fun h3 => h2 h3.2), if_neg h2]
theorem optS_len (ta tc : Int) (s : Sgn) (top : Nat) : (optS ta tc s top).length = (allL ta tc s top 9).length := by
 unfold optS; rw [List.length_map, sortA_len]
theorem hasN_app (a b : List Rea) (r : Rea) : hasN (a ++ b) r = hasN a r + hasN b r := List.countP_append
theorem dropL_yes (s : Sgn) : hasN (dropL s) ⟨s.id, 0, 0, true⟩ = (dropL s).length := by
 unfold dropL hasN
 split <;> simp
end Go.Proofs.YtggcbblikgankaaDoor
end
section
namespace Go.Proofs.YtggcbblikgankaaDoor
open Go.RowKit Go.Sort
theorem optS_mem {ta tc : Int} {s : Sgn} {top : Nat} {r : Rea} (h : r ∈ optS ta tc s top) : ∃ d v : Nat, d < 9 ∧ 1 ≤ v ∧ v ≤ top ∧ fitB ta tc s d v = true ∧ r = ⟨s.id, d, v, false⟩ := by
 unfold optS at h
 obtain ⟨y, hy, rfl⟩ := List.mem_map.1 h
 obtain ⟨d, hd9, v, hv, hf, rfl⟩ := mem_allL.1 ((sortA_perm _).mem_iff.1 hy)
 exact ⟨d, v + 1, hd9, by omega, by omega, by simpa using hf, by simp [parOf]⟩
theorem one_once (r : Rea) : hasN [r] r = 1 := by unfold hasN; simp
theorem doL_drop {k : Wrk} {s : Sgn} {b : Bod} {r : Rea} (h : r ∈ doL k s b) : r.drop = false := by
 unfold doL at h
 have lim : ∀ top, r ∈ optS k.ta k.tc s top → r.drop = false := fun top hr => by
  obtain ⟨d, v, _, _, _, _, rfl⟩ := optS_mem hr; rfl
 have trv : ∀ n, r ∈ travL s n → r.drop = false := fun n hr => by
  unfold travL at hr
  split at hr
  ·cases hr
  ·rw [List.mem_singleton.1 hr]
 repeat' split at h
 all_goals first | exact trv _ h | exact lim _ h | (rw [List.mem_singleton.1 h])
theorem dropL_mem {s : Sgn} {r : Rea} (h : r ∈ dropL s) : r = ⟨s.id, 0, 0, true⟩ ∧ (dropL s).length = 1 := by
 unfold dropL at h ⊢
 split at h
 ·cases h
 ·rename_i h1
  rw [if_neg h1]
  exact ⟨List.mem_singleton.1 h, rfl⟩
theorem hasN_zero {l : List Rea} {r : Rea} (h : r ∉ l) : hasN l r = 0 := by
 unfold hasN; rw [List.countP_eq_zero]; intro x hx; simp; rintro rfl; exact h hx
end Go.Proofs.YtggcbblikgankaaDoor
end
section
namespace Go.Proofs.YtggcbblikgankaaDoor
open Go Go.RowKit
def offOf (k : Nat) (limb : Int) : Nat := if k = 1 then 12 + limb.toNat else if k = 2 then 9 + limb.toNat else if k = 3 then 4 else if k = 4 then 5 else if k = 5 then 2 else 15
def bodGet (b : Bod) : Nat → Int
 | 2 => b.lift
 | 4 => b.step
 | 5 => b.jump
 | 9 => b.s0
 | 10 => b.s1
 | 11 => b.s2
 | 12 => b.t0
 | 13 => b.t1
 | 14 => b.t2
 | _ => b.effort
def bodSet (b : Bod) (v : Int) : Nat → Bod
 | 2 => { b with lift := v }
 | 4 => { b with step := v }
 | 5 => { b with jump := v }
 | 9 => { b with s0 := v }
 | 10 => { b with s1 := v }
 | 11 => { b with s2 := v }
 | 12 => { b with t0 := v }
 | 13 => { b with t1 := v }
 | 14 => { b with t2 := v }
 | _ => { b with effort := v }
def OffIn (o : Nat) : Prop := o = 2 ∨ o = 4 ∨ o = 5 ∨ o = 9 ∨ o = 10 ∨ o = 11 ∨ o = 12 ∨ o = 13 ∨ o = 14 ∨ o = 15
theorem bod_at (b : Bod) {o : Nat} (h : OffIn o) : (bodCells b)[o]? = some (.int .i64 (bodGet b o)) := by
 rcases h with rfl | rfl | rfl | rfl | rfl | rfl | rfl | rfl | rfl | rfl <;> rfl
theorem bod_set (b : Bod) (v : Int) {o : Nat} (h : OffIn o) : (bodCells b).setIfInBounds o (.int .i64 v) = bodCells (bodSet b v o) := by
 rcases h with rfl | rfl | rfl | rfl | rfl | rfl | rfl | rfl | rfl | rfl <;> rfl
structure LeB (a b : Bod) : Prop where
 name : a.name = b.name
 weight : a.weight = b.weight
 girth : a.girth = b.girth
 r0 : a.r0 = b.r0
 r1 : a.r1 = b.r1
 r2 : a.r2 = b.r2
 recover : a.recover = b.recover
 lift : a.lift ≤ b.lift
 step : a.step ≤ b.step
 jump : a.jump ≤ b.jump
 s0 : a.s0 ≤ b.s0
 s1 : a.s1 ≤ b.s1
 s2 : a.s2 ≤ b.s2
 t0 : a.t0 ≤ b.t0
 t1 : a.t1 ≤ b.t1
 t2 : a.t2 ≤ b.t2
 effort : a.effort ≤ b.effort
theorem LeB.refl (b : Bod) : LeB b b := ⟨rfl, rfl, rfl, rfl, rfl, rfl, rfl, Int.le_refl _, Int.le_refl _, Int.le_refl _, Int.le_refl _, Int.le_refl _, Int.le_refl _, Int.le_refl _, Int.le_refl _, Int.le_refl _, Int.le_refl _⟩
theorem LeB.set {a b : Bod} (h : LeB a b) {o : Nat} (ho : OffIn o) {v : Int} (hv : v ≤ bodGet a o) : LeB (bodSet a v o) b := by
 obtain ⟨h1, h2, h3, h4, h5, h6, h7, h8, h9, h10, h11, h12, h13, h14, h15, h16, h17⟩ := h
 rcases ho with rfl | rfl | rfl | rfl | rfl | rfl | rfl | rfl | rfl | rfl <;> simp only [bodGet] at hv <;> refine ⟨h1, h2, h3, h4, h5, h6, h7, ?_, ?_, ?_, ?_, ?_, ?_, ?_, ?_, ?_, ?_⟩ <;> simp only [bodSet] <;> first | assumption | omega
theorem door_any (k : Nat) (hk : 1 ≤ k ∧ k ≤ 6) (limb : Int) (h0 : 0 ≤ limb) (h2 : limb ≤ 2) (L : Nat) (w : World) : Calls Tryd.prog (78 + k) #[.pointer (some ⟨L, 0, none⟩), .int .i64 limb] w fun e w' => e = .returned (.pointer (some ⟨L, offOf k limb, none⟩)) ∧ w = w' := by
 have hkk : k = 1 ∨ k = 2 ∨ k = 3 ∨ k = 4 ∨ k = 5 ∨ k = 6 := by omega
 rcases hkk with rfl | rfl | rfl | rfl | rfl | rfl
 ·exact ctop_any L limb h0 (by omega) w
 ·exact cspeed_any L limb h0 (by omega) w
 ·exact cstep_any L limb w
 ·exact cjump_any L limb w
 ·exact clift_any L limb w
 ·exact ceffort_any L limb w
end Go.Proofs.YtggcbblikgankaaDoor
end
