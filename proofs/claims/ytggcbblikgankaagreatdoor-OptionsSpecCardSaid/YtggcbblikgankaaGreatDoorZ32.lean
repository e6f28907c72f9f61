/- Contracts and plain laws on the way to the statement: part 32. -/
import Derived.Test.YtggcbblikgankaaGreatDoorZ31
import Derived.Test.YtggcbblikgankaaGreatDoorZ26
set_option linter.unusedVariables false
set_option linter.unusedSimpArgs false
section
namespace Go.Proofs.YtggcbblikgankaaGreatDoor
open Go.RowKit
def doL (k : Wrk) (s : Sgn) (b : Bod) : List Rea :=
 if s.kind = 1 then travL s b.step else if s.kind = 2 then travL s b.jump else if s.kind = 3 then optS k.ta k.tc s b.t0.toNat else if s.kind = 4 then optS k.ta k.tc s b.t1.toNat
 else if s.kind = 5 then optS k.ta k.tc s b.t2.toNat else if s.kind = 9 then [⟨s.id, 0, min s.level b.t1, false⟩] else [⟨s.id, 0, 0, false⟩]
def dropL (s : Sgn) : List Rea := if s.mark = 1 then [] else [⟨s.id, 0, 0, true⟩]
def optL (k : Wrk) (s : Sgn) (b : Bod) : List Rea := doL k s b ++ dropL s
def optE (k : Wrk) (n : Int) (b : Bod) : Int := if wrkE k ≠ 0 then wrkE k else if bodB b then (if idF k.signs n then 0 else 300) else 250
def optR (k : Wrk) (n : Int) (b : Bod) : List Rea := if optE k n b = 0 then optL k (k.signs[idP k.signs n]!) b else []
theorem clkE_vals (c : Clk) : clkE c = 0 ∨ clkE c = 130 ∨ clkE c = 2 := by unfold clkE; split <;> (try split) <;> simp
theorem wrkE_vals (k : Wrk) : wrkE k = 0 ∨ wrkE k = 130 ∨ wrkE k = 2 ∨ wrkE k = 190 := by
 have := clkE_vals k.clock
 unfold wrkE
 split
 ·split
  ·rcases this with h | h | h <;> simp [h]
  ·split <;> simp
 ·simp
def DoOk (W : World) (g : Nat) (lb : Array Value) (ta tb tc : Int) (s : Sgn) (b : Bod) (L : List Rea) : Prop :=
 ∀ W', Below W.heap.size W W' → Calls Tryz.prog g (#[.agg #[.int .i64 ta, .int .i64 tb, .int .i64 tc], sgnV s, bodV b] ++ lb) W' fun e w' => ∃ v, e = .returned v ∧ w'.ownsRow W'.heap.size 37 4 v L.length (L.flatMap encRea) ∧ Below W'.heap.size W' w'
theorem bod_top {b : Bod} (h : bodB b = true) {i : Nat} (hi : i < 3) : 1 ≤ topOf b i ∧ topOf b i ≤ 3 := by
 unfold bodB at h
 rw [Bool.and_eq_true] at h
 have h2 := List.all_eq_true.1 h.2 0 (by decide)
 unfold ruleB at h2
 have h3 := List.all_eq_true.1 h2 (topOf b i) (by
  rcases i with _ | _ | _ | i
  ·simp [valsOf, topOf]
  ·simp [valsOf, topOf]
  ·simp [valsOf, topOf]
  ·omega)
 have := inB_iff.1 h3
 simpa [loOf, hiOf] using this
theorem wrk_turn {k : Wrk} (h : wrkE k = 0) : 0 ≤ k.ta ∧ k.ta ≤ 32768 ∧ 1 ≤ k.tc ∧ k.tc ≤ 32768 ∧ k.ta ≤ k.tc := by
 have hb := (wrk_ok_of h).2.2.2
 unfold wrkB wrkHead trnB at hb
 simp only [Bool.and_eq_true, inB_iff, decide_eq_true_eq] at hb
 omega
theorem right_limb {s : Sgn} {roles bars : Int} (h : rightB s roles bars = true) (hk : s.kind = 3 ∨ s.kind = 4 ∨ s.kind = 5) : (0 ≤ s.dir ∧ s.dir ≤ 8) ∧ 1 ≤ s.level ∧ s.level ≤ 3 := by
 unfold rightB fieldsB at h
 simp only [Bool.and_eq_true] at h
 obtain ⟨⟨_, h⟩, _⟩ := h
 rcases hk with hk | hk | hk <;> simp [hk, inB_iff] at h <;> omega
theorem right_kind {s : Sgn} {roles bars : Int} (h : rightB s roles bars = true) : 1 ≤ s.kind ∧ s.kind ≤ 9 := by
 unfold rightB at h
 simp only [Bool.and_eq_true, inB_iff] at h
 omega
theorem do_kind {k : Wrk} {s : Sgn} {b : Bod} (hw : wrkE k = 0) (hs : s ∈ k.signs) (hb : bodB b = true) {w W : World} (hE : Env W) (hz : 2 ≤ W.heap.size) (h : KS w W (kindsKV w.heap.size) kindsB) :
  (∃ g lb, kvGet (kindsKV w.heap.size) s.kind = some (.func (.func g) #[] lb) ∧ (∀ args w, (callFunc g args).run Tryz.prog w = .ok (.enter g args) w) ∧ DoOk W g lb k.ta k.tb k.tc s b (doL k s b)) ∨ (kvGet (kindsKV w.heap.size) s.kind = none ∧ doL k s b = [⟨s.id, 0, 0, false⟩]) := by
 have hr := wrk_right hw hs
 obtain ⟨t1, t2, t3, t4, _⟩ := wrk_turn hw
 obtain ⟨_, _, hsz, hc, _⟩ := h
 have hlb : ∀ {W'}, Below W.heap.size W W' → ∀ i v, i < 5 → W.cell? ⟨w.heap.size + 1 + i, 0, none⟩ = some v → W'.cell? ⟨w.heap.size + 1 + i, 0, none⟩ = some v := fun hb i v hi h =>
  (hb.cell (p := ⟨w.heap.size + 1 + i, 0, none⟩) (by show w.heap.size + 1 + i < W.heap.size; rw [hsz]; simp [kindsB]; omega)).trans h
 have hlim : ∀ i : Nat, i < 3 → ∀ j, j = 2 + i → (s.kind = 3 ∨ s.kind = 4 ∨ s.kind = 5) → DoOk W 97 #[.pointer (some ⟨w.heap.size + 1 + j, 0, none⟩)] k.ta k.tb k.tc s b (optS k.ta k.tc s (topOf b i).toNat) := by
  intro i hi j hj hk W' hb'
  obtain ⟨q1, q2⟩ := right_limb hr hk
  obtain ⟨p1, p2⟩ := bod_top hb hi
  have hcell : W.cell? ⟨w.heap.size + 1 + j, 0, none⟩ = some (.int .i64 (i : Nat)) := hc j _ (by
   subst hj
   rcases i with _ | _ | _ | i
   ·rfl
   ·rfl
   ·rfl
   ·omega)
  exact limb1_any k.ta k.tb k.tc ⟨t1, t2⟩ ⟨t3, t4⟩ s q1 q2 b i (topOf b i).toNat hi (by omega) (by omega) _ W' (hE.below hb') (Nat.le_trans hz hb'.size) (hlb hb' j _ (by omega) hcell)
 have hkd := right_kind hr
 have hk : s.kind = 1 ∨ s.kind = 2 ∨ s.kind = 3 ∨ s.kind = 4 ∨ s.kind = 5 ∨ s.kind = 9 ∨ (s.kind = 6 ∨ s.kind = 7 ∨ s.kind = 8) := by omega
 rcases hk with hk | hk | hk | hk | hk | hk | hk
 ·refine Or.inl ⟨96, _, by rw [hk]; rfl, enters_of Tryz.func96 (by kernel_rfl) rfl, fun W' hb' => ?_⟩
  rw [show doL k s b = travL s b.step by unfold doL; rw [if_pos hk]]
  exact travel1_any k.ta k.tb k.tc s b 68 _ b.step W' (hlb hb' 0 _ (by omega) (hc 0 _ rfl)) (stepOf_any b) (enters_of Tryz.func68 (by kernel_rfl) rfl)
 ·refine Or.inl ⟨96, _, by rw [hk]; rfl, enters_of Tryz.func96 (by kernel_rfl) rfl, fun W' hb' => ?_⟩
  rw [show doL k s b = travL s b.jump by unfold doL; rw [if_neg (by omega), if_pos hk]]
  exact travel1_any k.ta k.tb k.tc s b 69 _ b.jump W' (hlb hb' 1 _ (by omega) (hc 1 _ rfl)) (jumpOf_any b) (enters_of Tryz.func69 (by kernel_rfl) rfl)
 ·refine Or.inl ⟨97, _, by rw [hk]; rfl, enters_of Tryz.func97 (by kernel_rfl) rfl, ?_⟩
  rw [show doL k s b = optS k.ta k.tc s b.t0.toNat by unfold doL; rw [if_neg (by omega), if_neg (by omega), if_pos hk]]
  exact hlim 0 (by omega) 2 rfl (by omega)
 ·refine Or.inl ⟨97, _, by rw [hk]; rfl, enters_of Tryz.func97 (by kernel_rfl) rfl, ?_⟩
  rw [show doL k s b = optS k.ta k.tc s b.t1.toNat by unfold doL; rw [if_neg (by omega), if_neg (by omega), if_neg (by omega), if_pos hk]]
  exact hlim 1 (by omega) 3 rfl (by omega)
 ·refine Or.inl ⟨97, _, by rw [hk]; rfl, enters_of Tryz.func97 (by kernel_rfl) rfl, ?_⟩
  rw [show doL k s b = optS k.ta k.tc s b.t2.toNat by unfold doL; rw [if_neg (by omega), if_neg (by omega), if_neg (by omega), if_neg (by omega), if_pos hk]]
  exact hlim 2 (by omega) 4 rfl (by omega)
 ·refine Or.inl ⟨71, _, by rw [hk]; rfl, enters_of Tryz.func71 (by kernel_rfl) rfl, fun W' hb' => ?_⟩
  rw [show doL k s b = [⟨s.id, 0, min s.level b.t1, false⟩] by unfold doL; rw [if_neg (by omega), if_neg (by omega), if_neg (by omega), if_neg (by omega), if_neg (by omega), if_pos hk]]
  exact free_any k.ta k.tb k.tc s b W'
 ·refine Or.inr ⟨?_, by unfold doL; rw [if_neg (by omega), if_neg (by omega), if_neg (by omega), if_neg (by omega), if_neg (by omega), if_neg (by omega)]⟩
  rcases hk with hk | hk | hk <;> rw [hk] <;> rfl
end Go.Proofs.YtggcbblikgankaaGreatDoor
end
