/- The walk of the statement: part 4. -/
import Derived.Test.YtggcbblikgankaaDoorZ45
import Derived.Test.YtggcbblikgankaaDoorYCm7p2
import Derived.Test.YtggcbblikgankaaDoorZ48
import Derived.Test.YtggcbblikgankaaDoorZ46
import Derived.Test.YtggcbblikgankaaDoorYCm7p3
import Derived.Deep.MidRow
set_option linter.unusedVariables false
set_option linter.unusedSimpArgs false
section
namespace Go.Proofs.YtggcbblikgankaaDoor
open Go Go.RowKit Go.Deep
theorem cost_own' {k : Wrk} {s : Sgn} {b : Bod} (hk : wrkE k = 0) (hs : s ∈ k.signs) (hb : bodB b = true) {o : Rea} {l : List Rea} (h : optR k s.id b = o :: l) : costE k s.id o = 0 := by
 obtain ⟨h1, h2⟩ := idF_own (wrk_sorted hk) hs
 rw [(opt_own hk hs hb).2] at h
 obtain ⟨h3, h4, _⟩ := (opt_facts hk hs hb).form 0 o (by rw [h]; rfl)
 unfold costE
 rw [if_neg (by simpa using hk), if_pos h1, h2, h4, h3]
 simp
theorem encB_range {w : World} {b o kk : Nat} {bs : List Bod} {x : Bod} (h : AtRow encB 17 w b o bs) (hx : bs[kk]? = some x) : w.rangeAt b (o + kk * 17) (encB x) := fun j v hv => h kk x hx j v hv
end Go.Proofs.YtggcbblikgankaaDoor
end
section
namespace Go.Proofs.YtggcbblikgankaaDoor
open Go Go.RowKit Go.Deep
theorem first_cast {n m : Nat} {c : Nat → Nat → Int} {best : Int} {t : Nat → Nat} {taken : List Bool} (h : FirstOk n m c best n t taken) : CastN n m c t ∧ sumT (fun r => c r (t r)) n = best := by
 obtain ⟨s, h1, h2, h3⟩ := h.ex
 refine ⟨⟨h.pre.lt, h.pre.ok, h.pre.inj⟩, ?_⟩
 rw [← h3]
 exact sumT_congr fun r hr => by rw [h2 r hr]
theorem castE_zero {cost : List (List Int)} (m : Nat) (h1 : cost.length ≤ 16) (hm : m ≤ 16) (hr : ∀ r ∈ cost, r.length = m ∧ ∀ x ∈ r, -1 ≤ x ∧ x ≤ 1048576) : castE cost = 0 := by
 have h2 : longB cost = false := by
  unfold longB
  rw [List.any_eq_false]
  intro r hrm
  have := (hr r hrm).1
  simp
  omega
 have h3 : cost.any (badB (widN cost)) = false := by
  rw [List.any_eq_false]
  intro r hrm
  have hw : widN cost = m := by
   unfold widN
   cases cost with
   | nil => cases hrm
   | cons a l => exact (hr a (by simp)).1
  have h4 := hr r hrm
  unfold badB
  rw [hw, decide_eq_false (by omega : ¬ r.length ≠ m), Bool.false_or]
  rw [Bool.not_eq_true, List.any_eq_false]
  intro x hx
  have := h4.2 x hx
  unfold oddB
  simp
  omega
 unfold castE
 rw [if_neg (by rw [h2]; simp; omega), h3]
 rfl
section
variable {cost : List (List Int)} {k : Nat}
end
section
variable {cost : List (List Int)} {column : List Int}
end
end Go.Proofs.YtggcbblikgankaaDoor
end
section
namespace Go.Proofs.YtggcbblikgankaaDoor
open Go Go.RowKit Go.Deep
theorem priceM_bd (k : Wrk) (b : Bod) (role : Int) : ∀ (l : List Sgn) (s : Int), 0 ≤ s → -1 ≤ priceM k b role l s ∧ priceM k b role l s ≤ s + 64 * l.length
 | [], s, h => by
  show -1 ≤ s ∧ s ≤ s + 64 * ((0 : Nat) : Int)
  omega
 | x :: r, s, h => by
  rw [priceM_cons, List.length_cons]
  split
  ·split
   ·omega
   ·rename_i o l _
    have h1 := costI_bd k x.id o
    have h2 := priceM_bd k b role r (s + costI k x.id o) (by omega)
    push_cast
    omega
  ·have h2 := priceM_bd k b role r s h
   push_cast
   omega
theorem costs_facts {k : Wrk} {bs : List Bod} (h : costsE k bs = 0) : wrkE k = 0 ∧ 0 < k.roles.length ∧ k.roles.length ≤ 16 ∧ bs.length ≤ 16 ∧ (∀ b ∈ bs, bodB b = true) ∧ castE (costsM k bs) = 0 ∧ (costsM k bs).length = k.roles.length ∧ widN (costsM k bs) = bs.length ∧ (∀ i j b, i < k.roles.length → bs[j]? = some b → cI (costsM k bs) i j = priceM k b i k.signs 0) ∧ k.signs.length ≤ 4096 := by
 have hk : wrkE k = 0 := by
  unfold costsE at h
  by_cases hk : wrkE k = 0
  ·exact hk
  ·rw [if_pos hk] at h; exact absurd h hk
 unfold costsE at h
 rw [if_neg (by simpa using hk)] at h
 by_cases h16 : 16 < k.roles.length ∨ 16 < bs.length
 ·rw [if_pos h16] at h; cases h
 rw [if_neg h16] at h
 have hall : bs.all bodB = true := by
  by_cases hb : bs.all bodB = true
  ·exact hb
  ·rw [if_neg hb] at h; cases h
 have hw := hk
 unfold wrkE at hw
 have hlim : wrkLim k = true := by
  by_cases hl : wrkLim k = true
  ·exact hl
  ·rw [if_neg hl] at hw; cases hw
 rw [if_pos hlim] at hw
 have hwb : wrkB k = true := by
  by_cases hc : clkE k.clock = 0
  ·rw [if_neg (by simpa using hc)] at hw
   by_cases hb : wrkB k = true
   ·exact hb
   ·rw [if_neg hb] at hw; cases hw
  ·rw [if_pos hc] at hw; exact absurd hw hc
 have hne : k.roles ≠ [] := by
  unfold wrkB wrkHead at hwb
  simp only [Bool.and_eq_true, decide_eq_true_eq] at hwb
  exact hwb.1.1.2
 have hsg : k.signs.length ≤ 4096 := by
  unfold wrkLim at hlim
  simp only [Bool.and_eq_true, decide_eq_true_eq] at hlim
  exact hlim.2
 have h0 : 0 < k.roles.length := List.length_pos_iff.2 hne
 have hl : (costsM k bs).length = k.roles.length := by unfold costsM; simp
 have hrow : ∀ i, i < k.roles.length → (costsM k bs)[i]? = some (rowM k bs i) := fun i hi => by
  unfold costsM
  rw [List.getElem?_map, List.getElem?_range hi]; rfl
 have hrl : ∀ i : Nat, (rowM k bs i).length = bs.length := fun i => by unfold rowM; simp
 refine ⟨hk, h0, by omega, by omega, fun b hb => List.all_eq_true.1 hall b hb, ?_, hl, ?_, fun i j b hi hb => ?_, hsg⟩
 ·refine castE_zero bs.length (by omega) (by omega) fun r hr => ?_
  obtain ⟨i, hi⟩ := List.getElem?_of_mem hr
  have hil : i < k.roles.length := by rw [← hl]; exact (List.getElem?_eq_some_iff.1 hi).1
  rw [hrow i hil] at hi
  obtain rfl := Option.some.inj hi
  refine ⟨hrl i, fun x hx => ?_⟩
  unfold rowM at hx
  obtain ⟨b, _, rfl⟩ := List.mem_map.1 hx
  have := priceM_bd k b i k.signs 0 (Int.le_refl _)
  omega
 ·unfold widN
  rw [hrow 0 h0]
  exact hrl 0
 ·unfold cI gi
  rw [hrow i hi, Option.getD_some]
  unfold rowM
  rw [List.getElem?_map, hb]; rfl
set_option maxRecDepth 100000 in
set_option maxHeartbeats 8000000 in
theorem few38_any (k : Wrk) (nb : Nat) (ws : Array Value) (aB : Option Addr) (cB : Nat) (w : World) (hWk : WkAt k ws w) :
  Calls Tryd.prog 38 #[.agg ws, .slice aB nb cB] w fun e w' => e = .returned (.bool (fewB k && decide (nb ≤ 40))) ∧ Below w.heap.size w w' := by
 have hws := hWk.size
 obtain ⟨V, hV⟩ : ∃ V, w.alloc (.cells ws 32) = V := ⟨_, rfl⟩
 have hBV : Below w.heap.size w V := by rw [← hV]; exact (Below.refl _ w).alloc (Nat.le_refl _) _
 have hVA : V.heap[w.heap.size]? = some (.cells ws 32 (0, 0)) := by rw [← hV]; exact heap_alloc_new w _
 have hsV : w.heap.size ≤ V.heap.size := hBV.size
 have hf := hWk.few V
 have HF := Lib.hid hf; have HV := Lib.hid hBV; have HA := Lib.hid hVA; have HS := Lib.hid hws
 clear hf hBV hVA hws hWk
 go_enter Tryd.func38, Tryd.ntmps38
 go_wp2_with (refine wpList_load_row rfl 32 _ rfl w.heap.size rfl 32 _ (0, 0) _ HA.out Tryd.underlying32 rfl HS.out ?_; simp only [Act.put, List.setIfInBounds_toArray, List.set_cons_zero, List.set_cons_succ])
 refine HF.out.mono ?_
 rintro e w2 ⟨rfl, hb2⟩
 have B2 := Lib.hid (HV.out.trans (hb2.mono hsV))
 clear hb2 HA HV HF hV
 cases hfb : fewB k with
 | false =>
  have HFB := Lib.hid hfb
  clear hfb
  go_wp2_with fail
  go_ret
  exact ⟨by rw [HFB.out]; rfl, B2.out⟩
 | true =>
  have HFB := Lib.hid hfb
  clear hfb
  by_cases hn : nb ≤ 40
  ·have hn' : (nb : Int) ≤ 40 := by omega
   have HN := Lib.hid hn
   clear hn
   go_wp2_with fail
   go_ret
   exact ⟨by rw [HFB.out, decide_eq_true HN.out]; rfl, B2.out⟩
  ·have hn' : ¬ (nb : Int) ≤ 40 := by omega
   have HN := Lib.hid hn
   clear hn
   go_wp2_with fail
   go_ret
   refine ⟨?_, B2.out⟩
   show Ending.returned (.bool (decide ((nb : Int) ≤ 40))) = _
   rw [HFB.out, decide_eq_false HN.out, decide_eq_false (by have := HN.out; omega)]; rfl
end Go.Proofs.YtggcbblikgankaaDoor
end
section
namespace Go.Proofs.YtggcbblikgankaaDoor
open Go.RowKit
theorem hasN_mem {l : List Rea} {r : Rea} (h : hasN l r = 1) : r ∈ l := by
 by_cases hm : r ∈ l
 ·exact hm
 ·rw [hasN_zero hm] at h; cases h
theorem costI_own {k : Wrk} {s : Sgn} {b : Bod} (hk : wrkE k = 0) (hs : s ∈ k.signs) (hb : bodB b = true) {o : Rea} {l : List Rea} (h : optR k s.id b = o :: l) : costI k s.id o = priceI s o := by
 have h0 := cost_own' hk hs hb h
 unfold costI
 rw [if_pos h0, (idF_own (wrk_sorted hk) hs).2]
theorem head_le {k : Wrk} {s : Sgn} {a b : Bod} (hk : wrkE k = 0) (hs : s ∈ k.signs) (ha : bodB a = true) (hb : bodB b = true) (hle : LeB a b) {o : Rea} {l : List Rea} (h : optR k s.id a = o :: l) :
  ∃ o' l', optR k s.id b = o' :: l' ∧ costI k s.id o' ≤ costI k s.id o := by
 have h1 := (opt_own hk hs ha).2
 have h2 := (opt_own hk hs hb).2
 have hc := costI_own hk hs ha h
 rw [h] at h1
 obtain ⟨hlen, hw⟩ := weak_facts (k := k) (s := s) hle
 rcases hb2 : optR k s.id b with _ | ⟨o', l'⟩
 ·rw [h2] at hb2
  rw [← h1, hb2] at hlen
  simp at hlen
 ·refine ⟨o', l', rfl, ?_⟩
  rw [hc, costI_own hk hs hb hb2]
  rw [h2] at hb2
  have hf := (opt_facts hk hs hb).price
  by_cases h9 : s.kind = 9
  ·have e : optL k s b = ⟨s.id, 0, min s.level b.t1, false⟩ :: dropL s := by unfold optL; rw [doL_free h9]; rfl
   rw [e] at hb2
   obtain ⟨rfl, _⟩ := List.cons.inj hb2
   have hm : movB s = false := by unfold movB; simp [h9]
   have h0 : priceI s ⟨s.id, 0, min s.level b.t1, false⟩ = 0 := by unfold priceI; rw [hm]; simp
   rw [h0]
   exact price_nn _ _
  ·have hm := hasN_mem ((hw 0 o (by rw [← h1]; rfl)).2 (fun h => h9 h.1))
   rw [hb2] at hm hf
   rcases List.mem_cons.1 hm with rfl | hm
   ·exact Int.le_refl _
   ·exact (List.pairwise_cons.1 hf).1 o hm
theorem price_le {k : Wrk} {a b : Bod} (hk : wrkE k = 0) (ha : bodB a = true) (hb : bodB b = true) (hle : LeB a b) (role : Int) : ∀ (l : List Sgn), (∀ x ∈ l, x ∈ k.signs) → ∀ s s' : Int, 0 ≤ s' → s' ≤ s → 0 ≤ priceM k a role l s →
  0 ≤ priceM k b role l s' ∧ priceM k b role l s' ≤ priceM k a role l s
 | [], _, s, s', h0, h1, _ => ⟨h0, h1⟩
 | x :: r, hm, s, s', h0, h1, h2 => by
  have hr : ∀ y ∈ r, y ∈ k.signs := fun y hy => hm y (List.mem_cons_of_mem _ hy)
  rw [priceM_cons] at h2 ⊢
  rw [priceM_cons]
  by_cases hx : x.role = role
  ·rw [if_pos hx] at h2 ⊢
   rw [if_pos hx]
   rcases ho : optR k x.id a with _ | ⟨o, l⟩
   ·rw [ho] at h2
    exact absurd (show (0 : Int) ≤ -1 from h2) (by decide)
   ·obtain ⟨o', l', e, hc⟩ := head_le hk (hm x (List.mem_cons_self ..)) ha hb hle ho
    rw [ho] at h2
    rw [e]
    have := costI_bd k x.id o'
    exact price_le hk ha hb hle role r hr _ _ (by omega) (by omega) h2
  ·rw [if_neg hx] at h2 ⊢
   rw [if_neg hx]
   exact price_le hk ha hb hle role r hr _ _ h0 h1 h2
theorem all_set : ∀ (bs : List Bod) (i : Nat) (b x : Bod), bs[i]? = some b → bodB b = true → bodB x = true → (bs.set i x).all bodB = bs.all bodB
 | [], i, b, x, h, _, _ => by simp at h
 | y :: bs, 0, b, x, h, hb, hx => by
  obtain rfl : y = b := by simpa using h
  simp [hb, hx]
 | y :: bs, i + 1, b, x, h, hb, hx => by
  have := all_set bs i b x (by simpa using h) hb hx
  simp only [List.set_cons_succ, List.all_cons, this]
theorem costsE_set {k : Wrk} {bs : List Bod} {i : Nat} {b x : Bod} (h : bs[i]? = some b) (hb : bodB b = true) (hx : bodB x = true) : costsE k (bs.set i x) = costsE k bs := by
 unfold costsE
 rw [List.length_set, all_set bs i b x h hb hx]
theorem strong_facts {k : Wrk} {bs : List Bod} {i : Nat} {b x : Bod} (h : bs[i]? = some b) (hb : bodB b = true) (hx : bodB x = true) (hle : LeB b x) (h0 : costsE k bs = 0) : ∀ r j : Nat, r < k.roles.length → j < bs.length →
  (j ≠ i → cI (costsM k (bs.set i x)) r j = cI (costsM k bs) r j) ∧ (0 ≤ cI (costsM k bs) r j → 0 ≤ cI (costsM k (bs.set i x)) r j ∧ cI (costsM k (bs.set i x)) r j ≤ cI (costsM k bs) r j) := by
 obtain ⟨f1, _, _, _, _, _, _, _, f9, _⟩ := costs_facts h0
 obtain ⟨_, _, _, _, _, _, _, _, g9, _⟩ := costs_facts ((costsE_set h hb hx).trans h0)
 intro r j hr hj
 have hil := (List.getElem?_eq_some_iff.1 h).1
 by_cases hji : j = i
 ·subst hji
  rw [f9 r j b hr h, g9 r j x hr (by rw [List.getElem?_set_self hil])]
  exact ⟨fun hn => absurd rfl hn, fun hp => price_le f1 hb hx hle r k.signs (fun _ hy => hy) 0 0 (Int.le_refl _) (Int.le_refl _) hp⟩
 ·have e1 := List.getElem?_eq_getElem hj
  rw [f9 r j _ hr e1, g9 r j _ hr (by rw [List.getElem?_set_ne (fun e => hji e.symm)]; exact e1)]
  exact ⟨fun _ => rfl, fun hp => ⟨hp, Int.le_refl _⟩⟩
end Go.Proofs.YtggcbblikgankaaDoor
end
section
namespace Go.Proofs.YtggcbblikgankaaDoor
open Go Go.RowKit Go.Deep
theorem tk {P : Program} {md : Region.Mode} {ops : Array Oper} {Q : Exit → Act → World → Prop} {S : World → Prop} {oi : Oper} {fuel : Nat} {listed : Array Bool} {a : Act} {w : World} (i : Nat) (v : Value) (hS : S w)
  (h : wpAnyH P md ops Q S fuel (listed.setIfInBounds i true) (a.put oi.dst v) w) (hi : ops[i]? = some oi := by rfl)
  (hs : Region.noSelect ops = true := by kernel_rfl) (hf : Region.free md ops listed i = true := by kernel_rfl) (hr : (Region.ready md ops listed).contains i = true := by kernel_rfl)
  (hQ : ∀ c a w, Q (.panic c) (a.put oi.dst v) w → Q (.panic c) a w := by exact fun _ _ _ h => h) (hw : Region.wanted oi (yielded ops a.tmps) = true := by kernel_rfl)
  (hy : ∀ w, S w → (execOp a.eval oi).run P w = .ok (.value v) w := by (intro w hw; obtain ⟨h1, h2⟩ := hw; go_simp)) : wpAnyH P md ops Q S (fuel + 1) listed a w :=
 wpAnyH_take hi hs hf hr hQ (Or.inl ⟨hw, hy⟩) hS h
theorem encB_one (bs : List Bod) : ∀ u ∈ bs.flatMap encB, u.oneCell' = true := by
 intro u hu
 obtain ⟨s, _, hs⟩ := List.mem_flatMap.1 hu
 simp only [encB, bodCells, List.mem_cons, List.not_mem_nil, or_false] at hs
 rcases hs with rfl | rfl | rfl | rfl | rfl | rfl | rfl | rfl | rfl | rfl | rfl | rfl | rfl | rfl | rfl | rfl | rfl <;> rfl
theorem at_flatB {w : World} {b o : Nat} {xs : List Bod} (h : AtRow encB 17 w b o xs) (j : Nat) (u : Value) (hu : (xs.flatMap encB)[j]? = some u) : w.cell? ⟨b, o + j, none⟩ = some u := by
 have hlt : j < xs.length * 17 := by
  have := (List.getElem?_eq_some_iff.1 hu).1
  rwa [flat_len encB_len] at this
 have hi : j / 17 < xs.length := Nat.div_lt_of_lt_mul (by rw [Nat.mul_comm]; exact hlt)
 have hx : xs[j / 17]? = some (xs[j / 17]) := List.getElem?_eq_getElem hi
 have hm : j % 17 < 17 := Nat.mod_lt _ (by decide)
 have hj : j / 17 * 17 + j % 17 = j := by rw [Nat.mul_comm]; exact Nat.div_add_mod j 17
 have hf := flat_get encB_len xs (j / 17) (j % 17) _ hx hm
 rw [hj, hu] at hf
 have := h _ _ hx (j % 17) u hf.symm
 rw [Nat.add_assoc, hj] at this
 exact this
theorem app_bods {w3 w6 : World} {bs : List Bod} {n : Nat} {v' : Value} (hn : 0 < n) (hl : bs.length = n) (hown : w6.ownsRow w3.heap.size 36 17 v' (0 + n) ([] ++ bs.flatMap encB))
  (hgrow : (w3.alloc (.cells #[] 36)).grownBy w6 (Value.slice (some ⟨w3.heap.size, 0, none⟩) 0 0).ownBlock) :
  ∃ g cp, v' = .slice (some ⟨g, 0, none⟩) n cp ∧ w3.heap.size ≤ g ∧ Below w3.heap.size w3 w6 ∧ AtRow encB 17 w6 g 0 bs ∧ g < w6.heap.size ∧ w6.there g 0 (n * 17) ∧ n ≤ maxLen := by
 have hbe : Below w3.heap.size w3 (w3.alloc (.cells #[] 36)) := (Below.refl _ w3).alloc (Nat.le_refl _) _
 have hb6 : Below w3.heap.size (w3.alloc (.cells #[] 36)) w6 := (Below.refl _ _).grown hgrow (by simp) (fun k hk => by simp only [Value.ownBlock, Option.some.injEq] at hk; omega)
 rw [Nat.zero_add, List.nil_append] at hown
 have hrow := owns_isRow encB_len hown hl
 rcases id hown.2 with ⟨_, h⟩ | ⟨g, cap, cur, rfl, hbg, hcur, hcap, hcm, hsz, _⟩
 ·omega
 ·have h0 : bs[0]? = some bs[0] := List.getElem?_eq_getElem (by omega)
  rw [← hl] at hrow
  obtain ⟨b, o, e, hat, hlt⟩ := hrow.block h0
  injection e with e
  injection e with e1 e2
  subst e1 e2
  refine ⟨g, cap, rfl, hbg, hbe.trans hb6, hat, hlt, fun j hj => ?_, Nat.le_trans hcap hcm⟩
  have hjs : 0 + j < cur.size := by
   rw [hsz, Nat.zero_add]
   exact Nat.lt_of_lt_of_le hj (Nat.mul_le_mul_right 17 hcap)
  exact ⟨by rw [cell_at hcur (0 + j) (Array.getElem?_eq_getElem hjs)]; rfl, free_at hcur _⟩
theorem set_bod {w : World} {g i o n : Nat} {bs : List Bod} {x : Bod} (h : AtRow encB 17 w g 0 bs) (ho : o = i * 17) (hi : i < n) (hth : w.there g 0 (n * 17)) : w.there g o 17 ∧ AtRow encB 17 (w.setCells g o (bodCells x).toList) g 0 (bs.set i x) := by
 subst ho
 have ht : w.there g (i * 17) 17 := fun j hj => by
  have := hth (i * 17 + j) (by omega)
  rw [Nat.zero_add] at this
  exact this
 refine ⟨ht, ?_⟩
 intro r y hy j v hv
 have hj : j < 17 := (List.getElem?_eq_some_iff.1 hv).1
 rw [Nat.zero_add]
 by_cases e : r = i
 ·subst e
  have hr : r < bs.length := by
   have := (List.getElem?_eq_some_iff.1 hy).1
   rwa [List.length_set] at this
  rw [List.getElem?_set_self hr] at hy
  obtain rfl := Option.some.inj hy
  exact World.rangeAt_setCells_same w g (r * 17) (encB x) ht j v hv
 ·rw [List.getElem?_set_ne (fun h => e h.symm)] at hy
  have hr : w.rangeAt g (r * 17) (encB y) := fun j v hv => by
   have := h r y hy j v hv
   rwa [Nat.zero_add] at this
  refine World.rangeAt_setCells_apart hr g (i * 17) (encB x) (Or.inr ?_) j v hv
  rw [encB_len, encB_len]
  omega
theorem bod_one (x : Bod) : (bodCells x).all (·.oneCell') = true := by simp [bodCells, Value.oneCell']
theorem bod_info (x : Bod) : (Tryd.prog.info? 36).map (·.size) = some (bodCells x).size := by
 rw [show (bodCells x).size = 17 from rfl]
 kernel_rfl
theorem below_setCells {n0 : Nat} {w0 w : World} (h : Below n0 w0 w) {g : Nat} (hg : n0 ≤ g) : ∀ (vs : List Value) (o : Nat), Below n0 w0 (w.setCells g o vs) := by
 intro vs
 induction vs generalizing w with
 | nil => exact fun _ => h
 | cons v r ih => exact fun o => ih (h.setCell (p := ⟨g, o, none⟩) hg v) (o + 1)
theorem store_facts {w W3 W4 : World} {g j nb cp : Nat} {ws : Array Value} {bs : List Bod} {x : Bod} (hb3 : Below w.heap.size w W3) (b4 : Below W3.heap.size W3 W4) (hg : W3.heap.size ≤ g) (hgl : g < W4.heap.size) (hA3 : W3.heap[w.heap.size]? = some (.cells ws 32 (0, 0))) (t3 : w.heap.size + 2 ≤ W3.heap.size)
  (hst : AtRow encB 17 (W4.setCells g (j * 17) (bodCells x).toList) g 0 (bs.set j x)) (hl : bs.length = nb) (hnm : nb ≤ maxLen) :
  ∃ W5, W4.setCells g (j * 17) (bodCells x).toList = W5 ∧ Below w.heap.size w W5 ∧ W5.heap[w.heap.size]? = some (.cells ws 32 (0, 0)) ∧ w.heap.size + 2 ≤ W5.heap.size ∧ IsRow encB 17 W5 (.slice (some ⟨g, 0, none⟩) nb cp) (bs.set j x) := by
 have hb5 : Below W3.heap.size W3 (W4.setCells g (j * 17) (bodCells x).toList) := below_setCells b4 hg _ _
 have hs := (below_setCells (Below.refl g W4) (Nat.le_refl g) (bodCells x).toList (j * 17)).size
 have hsz := hb5.size
 exact ⟨_, rfl, hb3.trans (hb5.mono hb3.size), (hb5.block w.heap.size (by omega)).trans hA3, by omega, ⟨some ⟨g, 0, none⟩, cp, by rw [List.length_set, hl], by rw [List.length_set, hl]; exact hnm, Or.inr ⟨g, 0, rfl, hst, Nat.lt_of_lt_of_le hgl hs⟩⟩⟩
theorem cast_le {n m : Nat} {c d : Nat → Nat → Int} (h : ∀ r j, r < n → j < m → 0 ≤ c r j → 0 ≤ d r j ∧ d r j ≤ c r j) {t : Nat → Nat} (ht : CastN n m c t) : CastN n m d t ∧ sumT (fun r => d r (t r)) n ≤ sumT (fun r => c r (t r)) n :=
 ⟨⟨ht.lt, fun r hr => (h r _ hr (ht.lt r hr) (ht.ok r hr)).1, ht.inj⟩, sumT_le fun r hr => (h r _ hr (ht.lt r hr) (ht.ok r hr)).2⟩
theorem mat_cells {W : World} {cost : List (List Int)} {ao : Option Addr} {n c nb : Nat} (h : IsMat W (.slice ao n c) cost) (hl : cost.length = n) (hw : ∀ r ∈ cost, r.length = nb) (h0 : 0 < nb) (i : Nat) (hi : i < n) :
  ∃ b o bi oi ci, ao = some ⟨b, o, none⟩ ∧ ∀ wr, Below W.heap.size W wr → wr.cell? ⟨b, o + i, none⟩ = some (.slice (some ⟨bi, oi, none⟩) nb ci) ∧ ∀ j, j < nb → wr.cell? ⟨bi, oi + j, none⟩ = some (.int .i64 (cI cost i j)) := by
 obtain ⟨b, o, e, ar, cr, h1, h2, h3⟩ := h.at_ (i := i) (by omega)
 have hrl : (cost[i]?.getD []).length = nb := by
  rw [List.getElem?_eq_getElem (by omega)]
  exact hw _ (List.getElem_mem _)
 obtain ⟨bi, oi, ei, _, hlt⟩ := h2.int (j := 0) (by omega)
 subst ei
 rw [hrl] at h1
 refine ⟨b, o, bi, oi, cr, e, fun wr hb => ⟨(hb.cell (p := ⟨b, o + i, none⟩) h3).trans h1, fun j hj => ?_⟩⟩
 obtain ⟨bi', oi', ei', h4, _⟩ := h2.int (j := j) (by omega)
 obtain ⟨rfl, rfl⟩ : bi = bi' ∧ oi = oi' := by
  injection ei' with ei'
  injection ei' with e1 e2
  exact ⟨e1, e2⟩
 exact (hb.cell (p := ⟨bi, oi + j, none⟩) hlt).trans h4
end Go.Proofs.YtggcbblikgankaaDoor
end
section
set_option linter.unusedSimpArgs false
namespace Go.Proofs.YtggcbblikgankaaDoor
open Go Go.RowKit Go.Deep
theorem info36 : (Tryd.prog.info? 36).map (fun i => (i.zero, i.size, i.bytes)) = some (some (.agg #[.string ⟨#[]⟩, .int .i64 0, .int .i64 0, .int .i64 0, .int .i64 0, .int .i64 0, .int .i64 0, .int .i64 0, .int .i64 0, .int .i64 0, .int .i64 0, .int .i64 0, .int .i64 0, .int .i64 0, .int .i64 0, .int .i64 0, .int .i64 0]), 17, 144) := by kernel_rfl
set_option maxRecDepth 100000 in
set_option maxHeartbeats 16000000 in
theorem strong12_any (k : Wrk) (bs : List Bod) (nb : Nat) (hbl : bs.length = nb) (hbn : ∀ b ∈ bs, b.name.length ≤ maxLen) (ws : Array Value) (aB : Option Addr) (cB : Nat) (q : Nat) (hq8 : q < 256) (x : Bod) (hxn : x.name.length ≤ maxLen) (w : World) (hE : Env w) (hz : 2 ≤ w.heap.size) (hWk : WkAt k ws w) (hrow : IsRow encB 17 w (.slice aB nb cB) bs) :
  Calls Tryd.prog 12 #[.agg ws, .slice aB nb cB, .int .u8 q, bodV x] w (trueP w) := by
 have hmb : nb ≤ maxLen := by obtain ⟨_, _, _, h, _⟩ := hrow; omega
 simp only [maxLen] at hmb
 have hws := hWk.size
 obtain ⟨V1, hV1⟩ : ∃ V, w.alloc (.cells ws 32) = V := ⟨_, rfl⟩
 have s1 : V1.heap.size = w.heap.size + 1 := by rw [← hV1]; simp
 obtain ⟨V2, hV2⟩ : ∃ V, V1.alloc (.cells (bodCells x) 36) = V := ⟨_, rfl⟩
 have s2 : V2.heap.size = w.heap.size + 2 := by rw [← hV2]; simp [s1]
 have hB1 : Below w.heap.size w V1 := by rw [← hV1]; exact (Below.refl _ w).alloc (Nat.le_refl _) _
 have hB2 : Below w.heap.size w V2 := by rw [← hV2]; exact hB1.alloc hB1.size _
 have hA : V2.heap[w.heap.size]? = some (.cells ws 32 (0, 0)) := by
  rw [← hV2, Below.heap_alloc V1 _ _ (by omega), ← hV1]; exact heap_alloc_new w _
 have hC : V2.heap[w.heap.size + 1]? = some (.cells (bodCells x) 36 (0, 0)) := by
  rw [← hV2, ← s1]; exact heap_alloc_new V1 _
 have hSA := sane47_any V2 (Env.two hE hz hB2) (Nat.le_trans hz hB2.size)
 have hv : bodV x = .agg (bodCells x) := rfl
 rw [hv]
 have hWA := fun (b : Bod) (hb : b ∈ bs) (W : World) => weakerg_any b x (hbn b hb) hxn W
 have hbn2 : ∀ i, ∀ b ∈ bs.set i x, b.name.length ≤ maxLen := fun i b hb => by
  rcases List.mem_or_eq_of_mem_set hb with h | rfl
  ·exact hbn b h
  ·exact hxn
 have HSA := Lib.hid hSA; have HB2 := Lib.hid hB2; have HA := Lib.hid hA; have HC := Lib.hid hC; have HS := Lib.hid hws; have HWK := Lib.hid hWk; have HE := Lib.hid hE; have HR := Lib.hid hrow; have HBN := Lib.hid hbn; have HBN2 := Lib.hid hbn2; have HBL := Lib.hid hbl; have HZ := Lib.hid hz; have HWA := Lib.hid hWA
 clear hSA hB1 hB2 hA hC hws hWk hE hrow hbn hbn2 hbl hz hv hWA hxn
 go_enter Tryd.func12, Tryd.ntmps12
 go_wp2_with fail
 refine HSA.out.mono ?_
 rintro e W1 ⟨rfl, hb1⟩
 have HB1 := Lib.hid (HB2.out.trans (hb1.mono HB2.out.size))
 have HA1 := Lib.hid ((hb1.block w.heap.size (by omega)).trans HA.out)
 have HC1 := Lib.hid ((hb1.block (w.heap.size + 1) (by omega)).trans HC.out)
 have t1 : w.heap.size + 2 ≤ W1.heap.size := by have := hb1.size; omega
 have HFW := Lib.hid (few38_any k nb ws aB cB W1 (HWK.out.below HB1.out (Nat.le_refl _)))
 clear hb1 HSA HB2 HA HC hV1 hV2 s1 s2
 go_wp2_with (refine wpList_load_row rfl 32 _ rfl w.heap.size rfl 32 _ (0, 0) _ HA1.out Tryd.underlying32 rfl HS.out ?_; simp only [Act.put, List.setIfInBounds_toArray, List.set_cons_zero, List.set_cons_succ])
 refine HFW.out.mono ?_
 rintro e W2 ⟨rfl, hb2⟩
 have HB2 := Lib.hid (HB1.out.trans (hb2.mono HB1.out.size))
 have HA2 := Lib.hid ((hb2.block w.heap.size (by omega)).trans HA1.out)
 have HC2 := Lib.hid ((hb2.block (w.heap.size + 1) (by omega)).trans HC1.out)
 have t2 : w.heap.size + 2 ≤ W2.heap.size := by have := hb2.size; omega
 clear hb2 HFW HB1 HA1 HC1 t1
 cases hfw : (fewB k && decide (nb ≤ 40)) with
 | false =>
  clear hfw
  go_wp2_with fail
  go_ret
  exact ⟨rfl, HB2.out⟩
 | true =>
  have hn40 : nb ≤ 40 := by simp only [Bool.and_eq_true, decide_eq_true_eq] at hfw; exact hfw.2
  clear hfw
  by_cases hb0 : nb = 0
  ·subst hb0
   go_wp2_with fail
   go_ret
   exact ⟨rfl, HB2.out⟩
  have hb0' : ((nb : Int) == 0) = false := by simp; omega
  have hz2 : ¬ (nb : Int) = 0 := by omega
  obtain ⟨j, hj⟩ : ∃ j, q % nb = j := ⟨_, rfl⟩
  have hjn : j < nb := by rw [← hj]; exact Nat.mod_lt _ (by omega)
  have hm2 : Int.tmod (q : Int) (nb : Int) = (j : Int) := by rw [← hj]; rfl
  clear hj
  go_wp2_with fail
  obtain ⟨b, hbj⟩ : ∃ b, bs[j]? = some b := ⟨_, List.getElem?_eq_getElem (by rw [HBL.out]; exact hjn)⟩
  obtain ⟨bb, bo, eB, hatB, hbbl⟩ := HR.out.block hbj
  subst eB
  have hR0 := encB_range (hatB.below HB2.out hbbl) hbj
  have hjn' : (j : Int) < (nb : Int) := by omega
  have hbm := List.mem_of_getElem? hbj
  have HW29 := Lib.hid (HWA.out b hbm W2.drew)
  have HBJ := Lib.hid hbj; have HAT := Lib.hid hatB; have HBB := Lib.hid hbbl
  have HR0 := Lib.hid hR0
  clear HWA hbm hbj hatB hbbl hR0
  refine wp_region_noPanic ?_
  refine wp_region_held (S := fun w3 => w3.heap[w.heap.size + 1]? = some (.cells (bodCells x) 36 (0, 0)) ∧ w3.rangeAt bb (bo + j * 17) (encB b)) (by kernel_rfl) ?_
  change wpAnyH _ _ _ _ _ _ _ _ W2.drew
  have hS : (fun w3 : World => w3.heap[w.heap.size + 1]? = some (.cells (bodCells x) 36 (0, 0)) ∧ w3.rangeAt bb (bo + j * 17) (encB b)) W2.drew := ⟨HC2.out, HR0.out⟩
  refine tk 0 (.slice (some ⟨bb, bo, none⟩) nb cB) hS ?_
  simp only [Act.put, List.setIfInBounds_toArray, List.set_cons_zero, List.set_cons_succ]
  refine tk 1 (.int .i64 j) hS ?_
  simp only [Act.put, List.setIfInBounds_toArray, List.set_cons_zero, List.set_cons_succ]
  refine tk 2 (.pointer (some ⟨bb, bo + j * 17, none⟩)) hS ?_
  simp only [Act.put, List.setIfInBounds_toArray, List.set_cons_zero, List.set_cons_succ]
  refine wpAnyH_take (i := 3) (oi := _) (v := .agg (encB b).toArray) rfl (by kernel_rfl) (by kernel_rfl) (by kernel_rfl) (fun _ _ _ h => h) (yieldsIf_load_mid rfl 36 _ rfl bb (bo + j * 17) rfl (encB b) _ (fun _ h => h.2) Tryd.underlying36 rfl (by kernel_rfl)) hS ?_
  simp only [Act.put, List.setIfInBounds_toArray, List.set_cons_zero, List.set_cons_succ]
  refine wpAnyH_take (i := 4) (oi := _) (v := .agg (bodCells x)) rfl (by kernel_rfl) (by kernel_rfl) (by kernel_rfl) (fun _ _ _ h => h) (yieldsIf_rowH rfl 36 _ rfl (w.heap.size + 1) rfl 36 (bodCells x) (0, 0) _ (fun _ h => h.1) Tryd.underlying36 rfl (by kernel_rfl)) hS ?_
  simp only [Act.put, List.setIfInBounds_toArray, List.set_cons_zero, List.set_cons_succ]
  refine wpAnyH_ready (rs := [5]) (by kernel_rfl) (by simp) ?_
  refine AllReadyH.cons (o := _) rfl (fun K1 hK => ?_) AllReadyH.nil
  go_simp
  refine HW29.out.mono ?_
  rintro e W3 ⟨⟨r, er, rfl, hr⟩, hb3⟩
  have hS2 : (fun w3 : World => w3.heap[w.heap.size + 1]? = some (.cells (bodCells x) 36 (0, 0)) ∧ w3.rangeAt bb (bo + j * 17) (encB b)) W3 := ⟨(hb3.block _ (by show w.heap.size + 1 < W2.heap.size; omega)).trans HC2.out, fun i v hv => (hb3.cell (p := ⟨bb, bo + j * 17 + i, none⟩) (Nat.lt_of_lt_of_le HBB.out HB2.out.size)).trans (HR0.out i v hv)⟩
  have HB3 := Lib.hid (HB2.out.drew.trans (hb3.mono HB2.out.drew.size))
  have HA3 := Lib.hid ((hb3.block w.heap.size (by show w.heap.size < W2.heap.size; omega)).trans HA2.out)
  have HC3 := Lib.hid hS2.1
  have t3 : w.heap.size + 2 ≤ W3.heap.size := by have h : W2.heap.size ≤ W3.heap.size := hb3.size; omega
  have HRR := Lib.hid hr
  refine hK.out _ _ hS2 (fun _ => ?_)
  clear hK K1 hS hb3 HW29 HB2 HA2 HC2 t2 hr HR0
  refine tk 6 (.tuple #[.bool r, .int .i64 er]) hS2 ?_
  simp only [List.getElem_toArray, List.getElem_cons_zero, List.getElem_cons_succ, Act.put, List.setIfInBounds_toArray, List.set_cons_zero, List.set_cons_succ]
  refine tk 7 (.bool r) hS2 ?_
  simp only [List.getElem_toArray, List.getElem_cons_zero, List.getElem_cons_succ, Act.put, List.setIfInBounds_toArray, List.set_cons_zero, List.set_cons_succ]
  refine tk 8 (.int .i64 er) hS2 ?_
  simp only [List.getElem_toArray, List.getElem_cons_zero, List.getElem_cons_succ, Act.put, List.setIfInBounds_toArray, List.set_cons_zero, List.set_cons_succ]
  refine tk 9 (.bool r) hS2 ?_
  simp only [List.getElem_toArray, List.getElem_cons_zero, List.getElem_cons_succ, Act.put, List.setIfInBounds_toArray, List.set_cons_zero, List.set_cons_succ]
  refine tk 10 (.int .i64 er) hS2 ?_
  simp only [List.getElem_toArray, List.getElem_cons_zero, List.getElem_cons_succ, Act.put, List.setIfInBounds_toArray, List.set_cons_zero, List.set_cons_succ]
  refine wpAnyH_done (by kernel_rfl) ?_ _
  refine NoPanic.normal ?_
  clear hS2
  by_cases her : er = 0
  case neg =>
   have hne : (er != 0) = true := by simpa using her
   go_wp2_with fail
   go_ret
   exact ⟨rfl, HB3.out⟩
  subst her
  cases r with
  | false =>
   go_wp2_with fail
   go_ret
   exact ⟨rfl, HB3.out⟩
  | true =>
   obtain ⟨hle, hbb, hbx⟩ := HRR.out rfl rfl
   have HLE := Lib.hid hle; have HB0 := Lib.hid hbb; have HBX := Lib.hid hbx
   clear hle hbb hbx HRR
   obtain ⟨j0, hj0, hjz, hjs, hjb⟩ := info_parts info36
   have hln : (bs.flatMap encB).length = nb * 17 := by rw [flat_len encB_len, HBL.out]
   have hfl := fun (i : Nat) (u : Value) (hu : (bs.flatMap encB)[i]? = some u) => (HB3.out.cell (p := ⟨bb, bo + i, none⟩) HBB.out).trans (at_flatB HAT.out i u hu)
   have hbe : Below W3.heap.size W3 (W3.alloc (.cells #[] 36)) := (Below.refl _ W3).alloc (Nat.le_refl _) _
   have HJ0 := Lib.hid hj0; have HJ1 := Lib.hid hjz; have HJ2 := Lib.hid hjs; have HJ3 := Lib.hid hjb
   have HLN := Lib.hid hln; have HFL := Lib.hid hfl; have HONE := Lib.hid (encB_one bs); have HBE := Lib.hid hbe
   have HBW := Lib.hid (Nat.lt_of_lt_of_le HBB.out HB3.out.size)
   clear hj0 hjz hjs hjb hln hfl hbe
   go_wp2_with (first | (at_builtin; refine wpList_append_own _ rfl _ _ 93 rfl W3.heap.size 36 j0 _ 17 144 Tryd.underlying93 HJ0.out HJ1.out HJ2.out HJ3.out rfl (by decide) (.slice (some ⟨W3.heap.size, 0, none⟩) 0 0) 0 [] rfl ⟨rfl, Or.inr ⟨W3.heap.size, 0, #[], rfl, Nat.le_refl _, heap_alloc_new _ _, Nat.le_refl _, by decide, rfl, rfl⟩⟩ ⟨bb, bo, none⟩ nb cB (bs.flatMap encB) rfl HLN.out (fun i u h => by rw [addr_plain]; exact (HBE.out.cell (p := ⟨bb, bo + i, none⟩) HBW.out).trans (HFL.out i u h)) HONE.out (by simp only [maxLen]; omega) (by omega) HBE.out.size ?_; intro v' W4 hown hgrow _; obtain ⟨g, cp, rfl, hg, b4, hat4, hgl, hth, hnm⟩ := app_bods (by omega) HBL.out hown hgrow; have HAT4 := Lib.hid hat4; have HGL := Lib.hid hgl; have HTH := Lib.hid hth; have HG := Lib.hid hg; have B4 := Lib.hid b4; have HC4 := Lib.hid ((b4.block _ (show w.heap.size + 1 < W3.heap.size by omega)).trans HC3.out); clear hown hgrow hat4 hgl hth b4; obtain ⟨hth, hset⟩ := set_bod (x := x) HAT4.out rfl hjn HTH.out; have HT1 := Lib.hid hth; have HST := Lib.hid hset; clear hth hset) | (refine wpList_load_row rfl 36 _ rfl (w.heap.size + 1) rfl 36 (bodCells x) (0, 0) _ HC4.out Tryd.underlying36 rfl (by kernel_rfl) ?_; simp only [Act.put, List.setIfInBounds_toArray, List.set_cons_zero, List.set_cons_succ]) | (refine wpList_store_mid rfl 36 _ _ rfl g (j * 17) (bodCells x) rfl rfl HT1.out (bod_info x) (bod_one x) ?_; obtain ⟨W5, hW5, b5, a5, t5, r5⟩ := store_facts (cp := cp) HB3.out B4.out HG.out HGL.out HA3.out t3 HST.out HBL.out hnm; rw [hW5]; have HB5 := Lib.hid b5; have HA5 := Lib.hid a5; have HR5 := Lib.hid r5; clear b5 a5 r5 hW5 HST HT1) | (refine wpList_load_row rfl 32 _ rfl w.heap.size rfl 32 _ (0, 0) _ HA5.out Tryd.underlying32 rfl HS.out ?_; simp only [Act.put, List.setIfInBounds_toArray, List.set_cons_zero, List.set_cons_succ]))
   clear HTH HAT4 HGL HG B4 HC4 HJ0 HJ1 HJ2 HJ3 HLN HFL HONE HBE HBW HB3 HA3 HC3 t3
   have HCO := Lib.hid (costs_any k bs nb HBL.out HBN.out ws (some ⟨bb, bo, none⟩) cB W5 (Env.two HE.out HZ.out HB5.out) (Nat.le_trans HZ.out HB5.out.size) (HWK.out.below HB5.out (Nat.le_refl _)) (HR.out.below HB5.out (Nat.le_refl _)))
   have hset : costsE k (bs.set j x) = costsE k bs := costsE_set HBJ.out HB0.out HBX.out
   have HSE := Lib.hid hset
   clear hset
   refine HCO.out.mono ?_
   rintro e W6 ⟨hb6, h6⟩
   have HB6 := Lib.hid (HB5.out.trans (hb6.mono HB5.out.size))
   have HA6 := Lib.hid ((hb6.block w.heap.size (by omega)).trans HA5.out)
   have t6 : w.heap.size + 2 ≤ W6.heap.size := by have := hb6.size; omega
   have HCD := Lib.hid (costs_any k (bs.set j x) nb (by rw [List.length_set, HBL.out]) (HBN2.out j) ws (some ⟨g, 0, none⟩) cp W6 (Env.two HE.out HZ.out HB6.out) (Nat.le_trans HZ.out HB6.out.size) (HWK.out.below HB6.out (Nat.le_refl _)) (HR5.out.below hb6 (Nat.le_refl _)))
   clear hb6 HCO HB5 HA5 t5 HR5
   rcases h6 with ⟨hce, rfl⟩ | ⟨hce, v, hs, rfl, hRW⟩
   ·have hne : (costsE k bs != 0) = true := by simpa using hce
    go_wp2_with (refine wpList_load_row rfl 32 _ rfl w.heap.size rfl 32 _ (0, 0) _ HA6.out Tryd.underlying32 rfl HS.out ?_; simp only [Act.put, List.setIfInBounds_toArray, List.set_cons_zero, List.set_cons_succ])
    refine HCD.out.mono ?_
    rintro e W7 ⟨hb7, ⟨hce7, rfl⟩ | ⟨hce7, _, _, _, _⟩⟩
    ·have HB7 := Lib.hid (HB6.out.trans (hb7.mono HB6.out.size))
     rw [HSE.out]
     clear hb7 HCD hce hce7
     generalize costsE k bs = ce at *
     go_wp2_with fail
     go_ret
     exact ⟨rfl, HB7.out⟩
    ·exact absurd (HSE.out.symm.trans hce7) hce
   ·obtain ⟨f1, f2, f3, f4, f5, f6, f7, f8, f9, f10⟩ := costs_facts hce
    obtain ⟨g1, g2, g3, g4, g5, g6, g7, g8, g9, g10⟩ := costs_facts (HSE.out.trans hce)
    have hstr := strong_facts HBJ.out HB0.out HBX.out HLE.out hce
    obtain ⟨nr, hnr⟩ : ∃ n, k.roles.length = n := ⟨_, rfl⟩
    rw [hnr] at f2 f3 f7 g7 hstr
    rw [HBL.out] at f8 hstr
    rw [List.length_set, HBL.out] at g8
    have hM := hRW.mat
    have hown := hRW.own
    rw [f7] at hown
    obtain ⟨aM, cM, rfl, hm1, hm2'⟩ : ∃ ao c, v = .slice ao nr c ∧ nr ≤ c ∧ c ≤ maxLen := by
     rcases hown.2 with ⟨e1, h0⟩ | ⟨g, cap, cur, e1, _, _, h1, h2, _⟩
     ·exact ⟨none, 0, by rw [e1, h0], by omega, Nat.zero_le _⟩
     ·exact ⟨_, cap, e1, h1, h2⟩
    have HM := Lib.hid hM
    have H7 := Lib.hid f7; have H6 := Lib.hid f6; have H8 := Lib.hid f8; have G7 := Lib.hid g7; have G6 := Lib.hid g6; have G8 := Lib.hid g8; have HSTR := Lib.hid hstr; have HCC := Lib.hid (And.intro hm1 hm2')
    have HCE := Lib.hid hce
    clear f1 f4 f5 f6 f7 f8 f9 f10 g1 g2 g3 g4 g5 g6 g7 g8 g9 g10 hnr hM hown hRW hce hstr hm1 hm2'
    go_wp2_with (refine wpList_load_row rfl 32 _ rfl w.heap.size rfl 32 _ (0, 0) _ HA6.out Tryd.underlying32 rfl HS.out ?_; simp only [Act.put, List.setIfInBounds_toArray, List.set_cons_zero, List.set_cons_succ])
    refine HCD.out.mono ?_
    rintro e W7 ⟨hb7, ⟨hce7, _⟩ | ⟨hce7, v2, hs2, rfl, hRD⟩⟩
    ·exact absurd (HSE.out.trans HCE.out) hce7
    have HB7 := Lib.hid (HB6.out.trans (hb7.mono HB6.out.size))
    have hM2 := hRD.mat
    have hown2 := hRD.own
    rw [G7.out] at hown2
    obtain ⟨aD, cD, rfl, hd1, hd2⟩ : ∃ ao c, v2 = .slice ao nr c ∧ nr ≤ c ∧ c ≤ maxLen := by
     rcases hown2.2 with ⟨e1, h0⟩ | ⟨g, cap, cur, e1, _, _, h1, h2, _⟩
     ·exact ⟨none, 0, by rw [e1, h0], by omega, Nat.zero_le _⟩
     ·exact ⟨_, cap, e1, h1, h2⟩
    have HM7 := Lib.hid (HM.out.below hb7 (Nat.le_refl _))
    have HD7 := Lib.hid hM2; have HDC := Lib.hid (And.intro hd1 hd2)
    clear hb7 hce7 hM2 hown2 hRD hd1 hd2 HM HB6 HA6 t6 HCD
    have hwc : ∀ r ∈ costsM k bs, r.length = nb := fun r hr => by rw [(right_of H6.out).2.2.1 r hr, H8.out]
    have hwd : ∀ r ∈ costsM k (bs.set j x), r.length = nb := fun r hr => by rw [(right_of G6.out).2.2.1 r hr, G8.out]
    have hmc := mat_cells HM7.out H7.out hwc (by omega)
    have hmd := mat_cells HD7.out G7.out hwd (by omega)
    obtain ⟨bM, oM, _, _, _, eM, -⟩ := hmc 0 f2
    obtain ⟨bD, oD, _, _, _, eD, -⟩ := hmd 0 f2
    subst eM eD
    have HMC := Lib.hid hmc; have HMD := Lib.hid hmd
    clear hwc hwd hmc hmd
    go_wp2_with fail
    go_loopw [93] (fun iv wr => ∃ i : Nat, i ≤ nr ∧ iv = .int .i64 i ∧ Hid (Below W7.heap.size W7 wr)) (fun iv _ => nr - (intOf iv).toNat)
    case atStart => exact ⟨0, Nat.zero_le _, rfl, Lib.hid (Below.refl _ _)⟩
    case round =>
     obtain ⟨i, hin, rfl, hQ⟩ := hrel
     by_cases hi : i < nr
     ·have hi' : (i : Int) < (nr : Int) := by omega
      obtain ⟨b1, o1, bi, oi, ci, e1, hmi⟩ := HMC.out i hi
      obtain ⟨b2, o2, di, pi, cdi, e2, hdi⟩ := HMD.out i hi
      obtain ⟨rfl, rfl⟩ : bM = b1 ∧ oM = o1 := by
       injection e1 with e1
       injection e1 with h1 h2
       exact ⟨h1, h2⟩
      obtain ⟨rfl, rfl⟩ : bD = b2 ∧ oD = o2 := by
       injection e2 with e2
       injection e2 with h1 h2
       exact ⟨h1, h2⟩
      have u1 := (hmi wr hQ.out).1
      have v1 := (hdi wr hQ.out).1
      have HMI := Lib.hid hmi; have HDI := Lib.hid hdi
      clear hmi hdi e1 e2
      go_wp2_with fail
      clear u1 v1
      go_loopw [119] (fun jv wr2 => ∃ j2 : Nat, j2 ≤ nb ∧ jv = .int .i64 j2 ∧ Hid (Below W7.heap.size W7 wr2)) (fun jv _ => nb - (intOf jv).toNat)
      case atStart => exact ⟨0, Nat.zero_le _, rfl, hQ⟩
      case round =>
       obtain ⟨j2, hjn2, rfl, hQ2⟩ := hrel
       by_cases hj2 : j2 < nb
       ·have hj2' : (j2 : Int) < (nb : Int) := by omega
        obtain ⟨u1, u2⟩ := HMI.out _ hQ2.out
        obtain ⟨v1, v2⟩ := HDI.out _ hQ2.out
        have u3 := u2 j2 hj2
        have v3 := v2 j2 hj2
        have hst := HSTR.out i j2 hi hj2
        clear u2 v2
        generalize cI (costsM k bs) i j2 = p at *
        generalize cI (costsM k (bs.set j x)) i j2 = p' at *
        clear HLE HB0 HBX HBJ HCE HSTR HMI HDI HMC HMD H6 H7 H8 G6 G7 G8 HSE HCC HDC HM7 HD7 HS HWK HE HR HBN HBN2 HBL HZ HB7 hq8 hmb hb0 hb0' hz2 hjn hm2 hjn' HAT HBB hg hnm f2 hin
        by_cases hjk : j2 = j
        ·subst hjk
         by_cases hp : 0 ≤ p
         ·obtain ⟨hq0, hq1⟩ := hst.2 hp
          clear hst
          go_wp2_with fail
          have d0 : decide (0 ≤ p) = true := decide_eq_true hp
          have d1 : decide (p' < 0) = false := decide_eq_false (by omega)
          have d2 : decide (p < p') = false := decide_eq_false (by omega)
          clear hp hq0 hq1
          go_quiet (fail)
          go_wp2_with fail
          go_roundw
          case rel => exact ⟨j2 + 1, by omega, by go_num, Lib.hid (below_drewN hQ2.out _)⟩
          case measure => simp [intOf]; omega
         ·clear hst
          go_wp2_with fail
          have d0 : decide (0 ≤ p) = false := decide_eq_false (by omega)
          clear hp
          go_quiet (fail)
          go_wp2_with fail
          go_roundw
          case rel => exact ⟨j2 + 1, by omega, by go_num, Lib.hid (below_drewN hQ2.out _)⟩
          case measure => simp [intOf]; omega
        ·have hne : ((j2 : Int) != (j : Int)) = true := by simp; omega
         have hpp := hst.1 hjk
         subst hpp
         by_cases hp : 0 ≤ p'
         ·clear hst
          go_wp2_with fail
          have d0 : decide (0 ≤ p') = true := decide_eq_true hp
          have d1 : decide (p' < 0) = false := decide_eq_false (by omega)
          clear hp
          go_quiet (fail)
          go_wp2_with fail
          go_roundw
          case rel => exact ⟨j2 + 1, by omega, by go_num, Lib.hid (below_drewN hQ2.out _)⟩
          case measure => simp [intOf]; omega
         ·clear hst
          go_wp2_with fail
          have d0 : decide (0 ≤ p') = false := decide_eq_false (by omega)
          clear hp
          go_quiet (fail)
          go_wp2_with fail
          go_roundw
          case rel => exact ⟨j2 + 1, by omega, by go_num, Lib.hid (below_drewN hQ2.out _)⟩
          case measure => simp [intOf]; omega
       ·obtain rfl : j2 = nb := by omega
        have hj2' : ¬ (j2 : Int) < (j2 : Int) := by omega
        go_wp2_with fail
        go_roundw
        case rel => exact ⟨i + 1, by omega, by go_num, hQ2⟩
        case measure => simp [intOf]; omega
     ·obtain rfl : i = nr := by omega
      have hi' : ¬ (i : Int) < (i : Int) := by omega
      have HBE := Lib.hid (best_any (costsM k bs) (some ⟨bM, oM, none⟩) i cM H7.out HCC.out.1 HCC.out.2 wr (HM7.out.below hQ.out (Nat.le_refl _)))
      have hbd := fun (W : World) (hb : Below W7.heap.size W7 W) => best_any (costsM k (bs.set j x)) (some ⟨bD, oD, none⟩) i cD G7.out HDC.out.1 HDC.out.2 W (HD7.out.below hb (Nat.le_refl _))
      have HBD := Lib.hid hbd
      clear hbd HM7 HD7
      go_wp2_with fail
      refine HBE.out.mono ?_
      rintro e W8 ⟨hb8, hbest⟩
      have HQ8 := Lib.hid (hQ.out.trans (hb8.mono hQ.out.size))
      have hbd8 := HBD.out W8 HQ8.out
      have HB8 := Lib.hid hbd8
      clear hb8 hQ HBE HBD hbd8
      rcases hbest with ⟨h, _⟩ | ⟨_, _, rfl⟩ | ⟨_, v, t, taken, best, rfl, _, hF, _⟩
      ·exact absurd H6.out h
      ·go_wp2_with fail
       refine HB8.out.mono ?_
       rintro e W9 ⟨hb9, hbest⟩
       have HQ9 := Lib.hid (HB7.out.trans ((HQ8.out.trans (hb9.mono HQ8.out.size)).mono HB7.out.size))
       clear hb9 HB8 HQ8
       rcases hbest with ⟨h, _⟩ | ⟨_, _, rfl⟩ | ⟨_, v, t, taken, best, rfl, _, hF, _⟩
       ·exact absurd G6.out h
       ·go_wp2_with fail
        go_ret
        exact ⟨rfl, HQ9.out⟩
       ·clear hF
        go_wp2_with fail
        go_ret
        exact ⟨rfl, HQ9.out⟩
      ·have hc := first_cast hF
       rw [H7.out, H8.out] at hc
       have hl := cast_le (fun r j2 h1 h2 => (HSTR.out r j2 h1 h2).2) hc.1
       have HL := Lib.hid hl; have HCS := Lib.hid hc.2
       clear hc hl hF
       go_wp2_with fail
       refine HB8.out.mono ?_
       rintro e W9 ⟨hb9, hbest⟩
       have HQ9 := Lib.hid (HB7.out.trans ((HQ8.out.trans (hb9.mono HQ8.out.size)).mono HB7.out.size))
       clear hb9 HB8 HQ8
       rcases hbest with ⟨h, _⟩ | ⟨_, hno, rfl⟩ | ⟨_, v2, t2, taken2, best2, rfl, hmin, _, _⟩
       ·exact absurd G6.out h
       ·rw [G7.out, G8.out] at hno
        exact absurd HL.out.1 (hno t)
       ·rw [G7.out, G8.out] at hmin
        have hbb : best2 ≤ best := Int.le_trans (hmin t HL.out.1) (Int.le_trans HL.out.2 (Int.le_of_eq HCS.out))
        clear hmin HL HCS
        go_wp2_with fail
        go_ret
        exact ⟨rfl, HQ9.out⟩
end Go.Proofs.YtggcbblikgankaaDoor
end
