/- Contracts and plain laws on the way to the statement: part 2. -/
import Derived.OrdersHeld
import Derived.Deep.RegionHeld3
set_option linter.unusedVariables false
set_option linter.unusedSimpArgs false
section
namespace Go.Proofs.Ytpnbpepkoekkoaa
open Go
section
variable {P : Program} {ops : Array Oper} {Q : Exit → Act → World → Prop} {md : Region.Mode} {D1 D2 : Nat} {S1 S2 : World → Prop}
def wpAnyD (P : Program) (md : Region.Mode) (ops : Array Oper) (Q : Exit → Act → World → Prop) (D1 D2 : Nat) (S1 S2 : World → Prop) : Nat → Array Bool → Act → World → Prop
 | 0, listed, a, w => Region.ready md ops listed = [] ∧ Q .normal a w
 | fuel + 1, listed, a, w =>
  (Region.ready md ops listed = [] → Q .normal a w) ∧
  ∀ i ∈ Region.ready md ops listed, wpOp P ops Q i (fun a' w' => (((listed.setIfInBounds i true).getD D1 true = false → S1 w') ∧ ((listed.setIfInBounds i true).getD D2 true = false → S2 w')) ∧ wpAnyD P md ops Q D1 D2 S1 S2 fuel (listed.setIfInBounds i true) a' w') a w
theorem wpAny_of_D : ∀ (fuel : Nat) (listed : Array Bool) (a : Act) (w : World), wpAnyD P md ops Q D1 D2 S1 S2 fuel listed a w → wpAny P md ops Q fuel listed a w
 | 0, _, _, _, h => h
 | fuel + 1, _, _, _, h => ⟨h.1, fun i hi => wpOp_mono (fun a' w' h' => wpAny_of_D fuel _ a' w' h'.2) (h.2 i hi)⟩
theorem set_false {listed : Array Bool} {i D : Nat} (h : (listed.setIfInBounds i true).getD D true = false) : listed.getD D true = false := by
 by_cases e : i = D
 ·subst e
  rcases Nat.lt_or_ge i listed.size with h' | h'
  ·simp [h'] at h
  ·simp [h'] at h
 ·rw [getD_set_ne true e] at h; exact h
theorem wpAnyD_first {D : Nat} {S : World → Prop} (hDS : (D = D1 ∧ S = S1) ∨ (D = D2 ∧ S = S2)) {i : Nat} {oi : Oper} {v : Value} (hi : ops[i]? = some oi) (hsel : ∀ (j : Nat) (o : Oper) cs b, ops[j]? = some o → o.op ≠ .select cs b)
  (hQ : ∀ c a w, Q (.panic c) (a.put oi.dst v) w → Q (.panic c) a w) (U : List Nat) (hU : ∀ m ∈ U, ∃ o, ops[m]? = some o ∧ ∃ e ∈ o.after, Region.binds md e = true ∧ (e.on = i ∨ e.on ∈ U)) (hDU : D ∈ U) (hn1 : i ≠ D1) (hn2 : i ≠ D2) :
  ∀ (fuel : Nat) (listed : Array Bool) (a : Act) (w : World),
   (∀ j oj, ops[j]? = some oj → j ≠ i → listed.getD j true = false → (∀ e ∈ oj.after, Region.binds md e = true → e.on ≠ i) → oi.apart ops oj = true) →
   i ∈ Region.ready md ops listed → (∀ m ∈ U, listed.getD m true = false ∧ m < listed.size) → YieldsIf P ops S oi v a → (listed.getD D1 true = false → S1 w) → (listed.getD D2 true = false → S2 w) →
   wpAnyD P md ops Q D1 D2 S1 S2 fuel (listed.setIfInBounds i true) (a.put oi.dst v) w → wpAnyD P md ops Q D1 D2 S1 S2 (fuel + 1) listed a w := by
 have hSw : ∀ (listed : Array Bool) (w : World), listed.getD D true = false → (listed.getD D1 true = false → S1 w) → (listed.getD D2 true = false → S2 w) → S w := by
  intro listed w hl h1 h2
  rcases hDS with ⟨rfl, rfl⟩ | ⟨rfl, rfl⟩
  ·exact h1 hl
  ·exact h2 hl
 intro fuel
 induction fuel with
 | zero =>
  intro listed a w _ hr hl hy hC1 hC2 H
  refine ⟨fun h => (by rw [h] at hr; cases hr), fun j hj => ?_⟩
  by_cases hji : j = i
  ·subst hji; exact hy.wpOp hi (hSw listed w (hl D hDU).1 hC1 hC2) ⟨⟨fun h => hC1 (set_false h), fun h => hC2 (set_false h)⟩, H⟩
  ·have := ready_mono hj hji
   rw [H.1] at this
   cases this
 | succ fuel ih =>
  intro listed a w hfree hr hl hy hC1 hC2 H
  refine ⟨fun h => (by rw [h] at hr; cases hr), fun j hj => ?_⟩
  by_cases hji : j = i
  ·subst hji; exact hy.wpOp hi (hSw listed w (hl D hDU).1 hC1 hC2) ⟨⟨fun h => hC1 (set_false h), fun h => hC2 (set_false h)⟩, H⟩
  ·have h1 := H.2 j (ready_mono hj hji)
   obtain ⟨hjun, oj, hoj, hall⟩ := mem_ready.1 hj
   have hnot : ∀ e ∈ oj.after, Region.binds md e = true → e.on ≠ i := fun e he hb heq => by
    have h1 := hall e he hb
    have h0 := (mem_ready.1 hr).1
    rw [heq] at h1
    rcases Nat.lt_or_ge i listed.size with h' | h'
    ·simp [h'] at h0 h1; rw [h0] at h1; cases h1
    ·simp [Array.getElem?_eq_none h'] at h1
   have hjU : j ∉ U := fun e => by
    obtain ⟨oD, hoD, e1, he1, hb1, hon⟩ := hU j e
    rw [hoj] at hoD
    cases hoD
    rcases hon with hon | hon
    ·exact hnot e1 he1 hb1 hon
    ·have h1 := hall e1 he1 hb1
     obtain ⟨h2, h3⟩ := hl _ hon
     simp [h3] at h1 h2
     rw [h2] at h1; cases h1
   have h2 := wpOp_putIf hoj (hfree j oj hoj hji hjun hnot) (fun cs b => hsel i oi cs b hi) (fun cs b => hsel j oj cs b hoj) hQ hy h1
   have hfree' : ∀ k ok, ops[k]? = some ok → k ≠ i → (listed.setIfInBounds j true).getD k true = false →
     (∀ e ∈ ok.after, Region.binds md e = true → e.on ≠ i) → oi.apart ops ok = true := fun k ok hk hki hun hno => by
    refine hfree k ok hk hki ?_ hno
    exact set_false hun
   refine wpOp_mono (fun a' w' h3 => ?_) h2
   have hc1 : (listed.setIfInBounds j true).getD D1 true = false → S1 w' := fun h => h3.2.1.1 (by
    rw [Array.setIfInBounds_comm _ _ (Ne.symm hji)]
    rw [getD_set_ne true hn1]; exact h)
   have hc2 : (listed.setIfInBounds j true).getD D2 true = false → S2 w' := fun h => h3.2.1.2 (by
    rw [Array.setIfInBounds_comm _ _ (Ne.symm hji)]
    rw [getD_set_ne true hn2]; exact h)
   refine ⟨⟨hc1, hc2⟩, ih (listed.setIfInBounds j true) a' w' hfree' (ready_mono hr (Ne.symm hji)) ?_ h3.1 hc1 hc2 ?_⟩
   ·intro m hm
    have hmj : j ≠ m := fun e => hjU (e ▸ hm)
    exact ⟨by rw [getD_set_ne true hmj]; exact (hl m hm).1, by simpa using (hl m hm).2⟩
   ·rw [Array.setIfInBounds_comm _ _ hji]
    exact h3.2.2
def waitsU (md : Region.Mode) (ops : Array Oper) (listed : Array Bool) (U : List Nat) (i : Nat) : Bool := U.all fun m => (!(listed.getD m true) && decide (m < listed.size)) && match ops[m]? with
 | none => false
 | some o => o.after.any fun e => Region.binds md e && (e.on == i || U.contains e.on)
theorem waitsU_spec {listed : Array Bool} {U : List Nat} {i : Nat} (h : waitsU md ops listed U i = true) : (∀ m ∈ U, ∃ o, ops[m]? = some o ∧ ∃ e ∈ o.after, Region.binds md e = true ∧ (e.on = i ∨ e.on ∈ U)) ∧ ∀ m ∈ U, listed.getD m true = false ∧ m < listed.size := by
 unfold waitsU at h
 rw [List.all_eq_true] at h
 refine ⟨fun m hm => ?_, fun m hm => ?_⟩
 ·have := h m hm
  rw [Bool.and_eq_true] at this
  obtain ⟨_, h2⟩ := this
  split at h2
  ·cases h2
  ·rename_i o ho
   obtain ⟨e, h1, h2⟩ := Array.any_eq_true'.1 h2
   simp only [Bool.and_eq_true, Bool.or_eq_true, beq_iff_eq, List.contains_iff_mem] at h2
   exact ⟨o, ho, e, h1, h2.1, h2.2⟩
 ·have := h m hm
  rw [Bool.and_eq_true, Bool.and_eq_true, Bool.not_eq_true', decide_eq_true_eq] at this
  exact this.1
theorem wpAnyD_take2 (U : List Nat) {i : Nat} {oi : Oper} {v : Value} {fuel : Nat} {listed : Array Bool} {a : Act} {w : World} (hi : ops[i]? = some oi)
  (hs : (Region.noSelect ops && (Region.free md ops listed i && ((Region.ready md ops listed).contains i && (waitsU md ops listed U i && (U.contains D2 && (decide (i ≠ D1) && decide (i ≠ D2))))))) = true)
  (hQ : ∀ c a w, Q (.panic c) (a.put oi.dst v) w → Q (.panic c) a w) (hy : YieldsIf P ops S2 oi v a) (hC1 : listed.getD D1 true = false → S1 w) (hC2 : S2 w)
  (h : wpAnyD P md ops Q D1 D2 S1 S2 fuel (listed.setIfInBounds i true) (a.put oi.dst v) w) : wpAnyD P md ops Q D1 D2 S1 S2 (fuel + 1) listed a w := by
 simp only [Bool.and_eq_true, decide_eq_true_eq] at hs
 obtain ⟨h1, h2, h3, h4, h5, h6, h7⟩ := hs
 exact wpAnyD_first (Or.inr ⟨rfl, rfl⟩) hi (Region.noSelect_spec h1) hQ U (waitsU_spec h4).1 (by simpa using h5) h6 h7 fuel listed a w (Region.free_spec hi h2) (by simpa using h3) (waitsU_spec h4).2 hy hC1 (fun _ => hC2) h
theorem wp_region_D (D1 D2 : Nat) (S1 S2 : World → Prop) {id : Nat} {a : Act} {w : World} (hm : P.follows .mixedOrders = true)
  (h : wpAnyD P .any ops Q D1 D2 S1 S2 ops.size (Array.replicate ops.size false) a w.drew) : (Code.region id ops true).wp P Q a w :=
 wp_region_any hm (wpAny_of_D _ _ _ _ h)
theorem wpAnyD_one {i : Nat} {o : Oper} {fuel : Nat} {listed : Array Bool} {a : Act} {w : World} (hr : Region.ready md ops listed = [i]) (ho : ops[i]? = some o)
  (h : ∀ K' : Act → World → Prop, Shut (∀ a w, ((listed.setIfInBounds i true).getD D1 true = false → S1 w) → ((listed.setIfInBounds i true).getD D2 true = false → S2 w) → wpAnyD P md ops Q D1 D2 S1 S2 fuel (listed.setIfInBounds i true) a w → K' a w) → if Region.wanted o (yielded ops a.tmps) = true then Oper.wp P o a w K' Q else K' (a.put o.dst undef) w) :
  wpAnyD P md ops Q D1 D2 S1 S2 (fuel + 1) listed a w := by
 refine ⟨fun h0 => (by rw [hr] at h0; cases h0), fun j hj => ?_⟩
 rw [hr] at hj
 rw [List.mem_singleton.1 hj]
 exact wpOp_step ho (fun K' hK => h K' (fun a w h1 h2 hW => hK a w ⟨⟨h1, h2⟩, hW⟩))
theorem wpAnyD_done {listed : Array Bool} {a : Act} {w : World} (hr : Region.ready md ops listed = []) (h : Q .normal a w) :
  ∀ fuel, wpAnyD P md ops Q D1 D2 S1 S2 fuel listed a w
 | 0 => ⟨hr, h⟩
 | _ + 1 => ⟨fun _ => h, by rw [hr]; simp⟩
end
end Go.Proofs.Ytpnbpepkoekkoaa
end
