/- The walk of the statement: part 3. -/
import Derived.Test.YtggcbblikgankaaDoorYCm7p1
import Derived.Test.YtggcbblikgankaaDoorZ36
import Derived.Test.YtggcbblikgankaaDoorZ7
import Derived.Test.YtggcbblikgankaaDoorYCm7p2
import Derived.Test.YtggcbblikgankaaDoorZ34
import Derived.Test.YtggcbblikgankaaDoorZ10
import Derived.Deep.MidRow
set_option linter.unusedVariables false
set_option linter.unusedSimpArgs false
section
namespace Go.Proofs.YtggcbblikgankaaDoor
open Go Go.RowKit
end Go.Proofs.YtggcbblikgankaaDoor
end
section
namespace Go.Proofs.YtggcbblikgankaaDoor
open Go Go.RowKit
end Go.Proofs.YtggcbblikgankaaDoor
end
section
namespace Go.Proofs.YtggcbblikgankaaDoor
open Go Go.RowKit
end Go.Proofs.YtggcbblikgankaaDoor
end
section
namespace Go.Proofs.YtggcbblikgankaaDoor
open Go Go.RowKit
end Go.Proofs.YtggcbblikgankaaDoor
end
section
namespace Go.Proofs.YtggcbblikgankaaDoor
open Go Go.RowKit
end Go.Proofs.YtggcbblikgankaaDoor
end
section
namespace Go.Proofs.YtggcbblikgankaaDoor
open Go Go.RowKit Go.Deep
end Go.Proofs.YtggcbblikgankaaDoor
end
section
namespace Go.Proofs.YtggcbblikgankaaDoor
open Go Go.RowKit Go.Deep
end Go.Proofs.YtggcbblikgankaaDoor
end
section
namespace Go.Proofs.YtggcbblikgankaaDoor
open Go Go.RowKit Go.Deep
def bodZ : Bod := ⟨[], 0, 0, 0, 0, 0, 0, 0, 0, 0, 0, 0, 0, 0, 0, 0, 0⟩
structure LowAt (b : Bod) (w : World) (L Z : Nat) (wr : World) : Prop where
 below : Below w.heap.size w wr
 z : wr.heap[Z]? = some (.cells (bodCells bodZ) 36 (0, 0))
 l : ∃ a, wr.heap[L]? = some (.cells (bodCells a) 112 (0, 0)) ∧ LeB a b ∧ bodB a = true
theorem LowAt.keep {b : Bod} {w wr W : World} {L Z : Nat} (h : LowAt b w L Z wr) (hb : Below wr.heap.size wr W) : LowAt b w L Z W := by
 obtain ⟨h1, h2, a, h3, h4⟩ := h
 exact ⟨h1.trans (hb.mono h1.size), (hb.block _ (Array.getElem?_eq_some_iff.1 h2).1).trans h2, a, (hb.block _ (Array.getElem?_eq_some_iff.1 h3).1).trans h3, h4⟩
end Go.Proofs.YtggcbblikgankaaDoor
end
section
namespace Go.Proofs.YtggcbblikgankaaDoor
open Go Go.RowKit Go.Deep
end Go.Proofs.YtggcbblikgankaaDoor
end
section
namespace Go.Proofs.YtggcbblikgankaaDoor
open Go Go.RowKit Go.Deep
end Go.Proofs.YtggcbblikgankaaDoor
end
section
namespace Go.Proofs.YtggcbblikgankaaDoor
open Go Go.RowKit Go.Deep
end Go.Proofs.YtggcbblikgankaaDoor
end
section
namespace Go.Proofs.YtggcbblikgankaaDoor
open Go Go.RowKit
def mostF (b a : Bod) (os : List Nat) : Bod := os.foldl (fun p o => bodSet p (bodGet b o) o) a
end Go.Proofs.YtggcbblikgankaaDoor
end
section
namespace Go.Proofs.YtggcbblikgankaaDoor
open Go Go.RowKit Go.Deep
noncomputable def code59 : Code := (Tryd.f59.body).getD .skip
noncomputable def loop59 : Code := lopC (blkC (sndC (fstC (lastPart 1 code59))))
noncomputable def body59 : Code := blkC (fstC (sndC (sndC loop59)))
noncomputable def body59n1 : Code := lastPart 1 body59
noncomputable def body59n2 : Code := lastPart 2 body59
set_option maxRecDepth 100000 in
set_option maxHeartbeats 8000000 in
theorem most_doors (k : Nat) (hk : 1 ≤ k ∧ k ≤ 6) (x : Int) (hl0 : 0 ≤ x) (hl2 : x ≤ 2) (A B C : Nat) (w3 : World) (g0 : w3.heap[C]? = some (.cells (ruleK k) 117 (0, 0))) (e0 e4 e6 e7 e8 e9 e10 e11 e12 e13 e14 e15 e16 e17 e18 e19 e20 e21 e22 e23 e24 e25 e26 e27 e28 e29 e30 e31 e32 e33 e34 : Value) (Q : Exit → Act → World → Prop) (X : Code)
  (hX : ∀ (u14 u15 u16 u17 u18 u19 u20 u21 : Value), Code.wp Tryd.prog X Q { tmps := #[e0, .pointer (some ⟨A, 0, none⟩), .pointer (some ⟨B, 0, none⟩), .pointer (some ⟨C, 0, none⟩), e4, .int .i64 x, .pointer (some ⟨A, offOf k x, none⟩), .pointer (some ⟨B, offOf k x, none⟩), e8, e9, e10, e11, e12, e13, u14, u15, u16, u17, u18, u19, u20, u21, e22, e23, e24, e25, e26, e27, e28, e29, e30, e31, e32, e33, e34], defers := [] } w3.drew) :
  Code.wp Tryd.prog (withLast 1 body59n1 X) Q { tmps := #[e0, .pointer (some ⟨A, 0, none⟩), .pointer (some ⟨B, 0, none⟩), .pointer (some ⟨C, 0, none⟩), e4, .int .i64 x, e6, e7, e8, e9, e10, e11, e12, e13, e14, e15, e16, e17, e18, e19, e20, e21, e22, e23, e24, e25, e26, e27, e28, e29, e30, e31, e32, e33, e34], defers := [] } w3 := by
 have hkk : k = 1 ∨ k = 2 ∨ k = 3 ∨ k = 4 ∨ k = 5 ∨ k = 6 := by omega
 have HX := Lib.hid hX
 have gA0 : w3.drew.heap[C]? = some (.cells (ruleK k) 117 (0, 0)) := g0
 have hcell : ∀ w2 : World, w2.heap[C]? = some (.cells (ruleK k) 117 (0, 0)) → w2.cell? ⟨C, 0, none⟩ = some (.func (.func (78 + k)) #[] #[]) := fun w2 h => cell_at h 0 rfl
 have hd1 := fun (W : World) => door_any k hk x hl0 hl2 A W
 have hd2 := fun (W : World) => door_any k hk x hl0 hl2 B W
 have HCL := Lib.hid hcell; have HD1 := Lib.hid hd1; have HD2 := Lib.hid hd2
 clear hX g0 hcell hd1 hd2 hk hl0 hl2
 unfold body59n1 body59 loop59 code59
 conv => arg 2; whnf
 simp only [withLast]
 refine wp_seq (wp_mono (Q := noP (Exit.then (Code.wp Tryd.prog X Q) Q)) ?_ (noP_le _))
 refine wp_region_held (S := fun w2 => w2.heap[C]? = some (.cells (ruleK k) 117 (0, 0))) (by kernel_rfl) ?_
 change wpAnyH _ _ _ _ _ _ _ _ w3.drew
 generalize w3.drew = W0 at *
 refine wpAnyH_take (i := 0) (oi := _) (v := .pointer (some ⟨C, 0, none⟩)) rfl (by kernel_rfl) (by kernel_rfl) (by kernel_rfl) (fun c a w h => h) (Or.inl ⟨by rfl, fun w _ => by go_simp⟩) gA0 ?_
 try (simp only [Act.put, List.setIfInBounds_toArray, List.set_cons_zero, List.set_cons_succ])
 refine wpAnyH_take (i := 1) (oi := _) (v := .func (.func (78 + k)) #[] #[]) rfl (by kernel_rfl) (by kernel_rfl) (by kernel_rfl) (fun c a w h => h) (Or.inl ⟨by rfl, fun w h => by have := HCL.out w h; go_simp⟩) gA0 ?_
 try (simp only [Act.put, List.setIfInBounds_toArray, List.set_cons_zero, List.set_cons_succ])
 refine wpAnyH_take (i := 2) (oi := _) (v := .int .i64 x) rfl (by kernel_rfl) (by kernel_rfl) (by kernel_rfl) (fun c a w h => h) (Or.inl ⟨by rfl, fun w _ => by go_simp⟩) gA0 ?_
 try (simp only [Act.put, List.setIfInBounds_toArray, List.set_cons_zero, List.set_cons_succ])
 refine wpAnyH_take (i := 4) (oi := _) (v := .pointer (some ⟨C, 0, none⟩)) rfl (by kernel_rfl) (by kernel_rfl) (by kernel_rfl) (fun c a w h => h) (Or.inl ⟨by rfl, fun w _ => by go_simp⟩) gA0 ?_
 try (simp only [Act.put, List.setIfInBounds_toArray, List.set_cons_zero, List.set_cons_succ])
 refine wpAnyH_take (i := 5) (oi := _) (v := .func (.func (78 + k)) #[] #[]) rfl (by kernel_rfl) (by kernel_rfl) (by kernel_rfl) (fun c a w h => h) (Or.inl ⟨by rfl, fun w h => by have := HCL.out w h; go_simp⟩) gA0 ?_
 try (simp only [Act.put, List.setIfInBounds_toArray, List.set_cons_zero, List.set_cons_succ])
 refine wpAnyH_take (i := 6) (oi := _) (v := .int .i64 x) rfl (by kernel_rfl) (by kernel_rfl) (by kernel_rfl) (fun c a w h => h) (Or.inl ⟨by rfl, fun w _ => by go_simp⟩) gA0 ?_
 try (simp only [Act.put, List.setIfInBounds_toArray, List.set_cons_zero, List.set_cons_succ])
 rcases hkk with rfl | rfl | rfl | rfl | rfl | rfl
 all_goals
  refine wpAnyH_ready (rs := [3]) (by kernel_rfl) (by simp) ?_
  refine AllReadyH.cons (o := _) rfl (fun K1 hK => ?_) AllReadyH.nil
  go_simp
  refine (HD1.out W0).mono ?_
  rintro e W2 ⟨rfl, rfl⟩
  refine hK.out _ _ gA0 (fun _ => ?_)
  clear hK K1
  try (simp only [Act.put, List.setIfInBounds_toArray, List.set_cons_zero, List.set_cons_succ])
  refine wpAnyH_ready (rs := [7]) (by kernel_rfl) (by simp) ?_
  refine AllReadyH.cons (o := _) rfl (fun K1 hK => ?_) AllReadyH.nil
  go_simp
  refine (HD2.out W0).mono ?_
  rintro e W2 ⟨rfl, rfl⟩
  refine hK.out _ _ gA0 (fun _ => ?_)
  clear hK K1
  try (simp only [Act.put, List.setIfInBounds_toArray, List.set_cons_zero, List.set_cons_succ])
  refine wpAnyH_ready (rs := [8]) (by kernel_rfl) (by simp) ?_
  refine AllReadyH.cons (o := _) rfl (fun K1 hK => ?_) AllReadyH.nil
  go_simp
  refine hK.out _ _ gA0 (fun _ => ?_)
  clear hK K1
  try (simp only [Act.put, List.setIfInBounds_toArray, List.set_cons_zero, List.set_cons_succ])
  refine wpAnyH_ready (rs := [9]) (by kernel_rfl) (by simp) ?_
  refine AllReadyH.cons (o := _) rfl (fun K1 hK => ?_) AllReadyH.nil
  go_simp
  refine hK.out _ _ gA0 (fun _ => ?_)
  clear hK K1
  try (simp only [Act.put, List.setIfInBounds_toArray, List.set_cons_zero, List.set_cons_succ])
  refine wpAnyH_done (by kernel_rfl) ?_ _
  exact HX.out _ _ _ _ _ _ _ _
end Go.Proofs.YtggcbblikgankaaDoor
end
section
namespace Go.Proofs.YtggcbblikgankaaDoor
open Go Go.RowKit
def placesK (k i : Nat) : List Nat := (List.range i).map (fun j : Nat => offOf k (j : Int))
theorem most_succ (b a : Bod) (k i : Nat) : mostF b a (placesK k (i + 1)) = bodSet (mostF b a (placesK k i)) (bodGet b (offOf k i)) (offOf k i) := by
 unfold mostF placesK
 rw [List.range_succ, List.map_append, List.foldl_append]
 rfl
theorem place_in {k i : Nat} (hk : 1 ≤ k ∧ k ≤ 6) (hi : (i : Int) ≤ lmaxOf k) : OffIn (offOf k i) := by
 have hkk : k = 1 ∨ k = 2 ∨ k = 3 ∨ k = 4 ∨ k = 5 ∨ k = 6 := by omega
 unfold lmaxOf at hi
 unfold offOf OffIn
 rcases hkk with rfl | rfl | rfl | rfl | rfl | rfl <;> simp at hi ⊢ <;> omega
structure MostAt (a b : Bod) (k A B C n0 : Nat) (w : World) (i : Nat) (wr : World) : Prop where
 pa : wr.heap[A]? = some (.cells (bodCells (mostF b a (placesK k i))) 112 (0, 0))
 pb : wr.heap[B]? = some (.cells (bodCells b) 112 (0, 0))
 pc : wr.heap[C]? = some (.cells (ruleK k) 117 (0, 0))
 below : Below n0 w wr
 rest : ∀ (g : Nat) (c : Obj), g ≠ A → w.heap[g]? = some c → wr.heap[g]? = some c
theorem MostAt.drew {a b : Bod} {k A B C n0 i : Nat} {w wr : World} (h : MostAt a b k A B C n0 w i wr) : MostAt a b k A B C n0 w i wr.drew :=
 ⟨h.pa, h.pb, h.pc, h.below.drew, h.rest⟩
theorem MostAt.step {a b : Bod} {k A B C n0 i : Nat} {w wr : World} (hk : 1 ≤ k ∧ k ≤ 6) (hi : (i : Int) ≤ lmaxOf k) (hA : n0 ≤ A) (hAB : A ≠ B) (hAC : A ≠ C) (h : MostAt a b k A B C n0 w i wr) : MostAt a b k A B C n0 w (i + 1) (wr.setCell ⟨A, offOf k i, none⟩ (.int .i64 (bodGet b (offOf k i)))) := by
 have ho := place_in hk hi
 have other : ∀ g, g ≠ A → (wr.setCell ⟨A, offOf k i, none⟩ (.int .i64 (bodGet b (offOf k i)))).heap[g]? = wr.heap[g]? := fun g hg => by
  simp only [World.setCell, Array.getElem?_modify]
  rw [if_neg (fun e => hg e.symm)]
 refine ⟨?_, (other B (fun e => hAB e.symm)).trans h.pb, (other C (fun e => hAC e.symm)).trans h.pc, h.below.setCell (p := ⟨A, offOf k i, none⟩) hA _, fun g c hg hc => (other g hg).trans (h.rest g c hg hc)⟩
 rw [most_succ, ← bod_set _ _ ho]
 simp [World.setCell, Array.getElem?_modify, h.pa]
end Go.Proofs.YtggcbblikgankaaDoor
end
section
namespace Go.Proofs.YtggcbblikgankaaDoor
open Go Go.RowKit Go.Deep
end Go.Proofs.YtggcbblikgankaaDoor
end
section
namespace Go.Proofs.YtggcbblikgankaaDoor
open Go Go.RowKit Go.Deep
end Go.Proofs.YtggcbblikgankaaDoor
end
section
namespace Go.Proofs.YtggcbblikgankaaDoor
open Go Go.RowKit
def placesAll (k : Nat) : List Nat := placesK k (lmaxOf k + 1).toNat
def upto (j : Nat) : List Nat := (List.range j).flatMap (fun i => placesAll (i + 1))
theorem upto_succ (b a : Bod) (j : Nat) : mostF b a (upto (j + 1)) = mostF b (mostF b a (upto j)) (placesAll (j + 1)) := by
 unfold mostF upto
 rw [List.range_succ, List.flatMap_append, List.foldl_append]
 simp
end Go.Proofs.YtggcbblikgankaaDoor
end
section
namespace Go.Proofs.YtggcbblikgankaaDoor
open Go.RowKit Go.Sort
theorem lineL_top (ta tc : Int) (s : Sgn) (d m : Nat) : ∀ n, (lineL ta tc s d m).length ≤ (lineL ta tc s d (m + n)).length
 | 0 => Nat.le_refl _
 | n + 1 => by
  refine Nat.le_trans (lineL_top ta tc s d m n) ?_
  rw [← Nat.add_assoc]
  cases hf : fitB ta tc s d (((m + n : Nat) : Int) + 1) with
  | true => rw [lineL_yes hf, List.length_append]; omega
  | false => rw [lineL_no hf]; exact Nat.le_refl _
theorem allL_top {ta tc : Int} {s : Sgn} {top top' : Nat} (h : top ≤ top') : ∀ m, (allL ta tc s top m).length ≤ (allL ta tc s top' m).length
 | 0 => by simp [allL]
 | m + 1 => by
  rw [allL_succ, allL_succ, List.length_append, List.length_append]
  have := lineL_top ta tc s m top (top' - top)
  rw [show top + (top' - top) = top' by omega] at this
  exact Nat.add_le_add (allL_top h m) this
theorem optS_weak {ta tc : Int} {s : Sgn} {top top' : Nat} (h : top ≤ top') : (optS ta tc s top).length ≤ (optS ta tc s top').length ∧ ∀ r ∈ optS ta tc s top, hasN (optS ta tc s top') r = 1 := by
 refine ⟨by rw [optS_len, optS_len]; exact allL_top h 9, ?_⟩
 intro r hr
 obtain ⟨d, v, hd, hv, ht, hf, rfl⟩ := optS_mem hr
 rw [optS_cnt _ _ _ _ _ _ hd hv, if_pos ⟨by omega, hf⟩]
theorem travL_weak {s : Sgn} {m n : Int} (h : m ≤ n) : (travL s m).length ≤ (travL s n).length ∧ ∀ r ∈ travL s m, hasN (travL s n) r = 1 := by
 unfold travL
 by_cases h1 : m < s.size
 ·rw [if_pos h1]; exact ⟨by simp, fun r hr => by cases hr⟩
 ·rw [if_neg h1, if_neg (by omega)]
  exact ⟨Nat.le_refl _, fun r hr => by rw [List.mem_singleton.1 hr]; exact one_once _⟩
theorem doL_weak {k : Wrk} {s : Sgn} {a b : Bod} (hle : LeB a b) (h9 : s.kind ≠ 9) : (doL k s a).length ≤ (doL k s b).length ∧ ∀ r ∈ doL k s a, hasN (doL k s b) r = 1 := by
 have one : ∀ x : Rea, ([x] : List Rea).length ≤ ([x] : List Rea).length ∧ ∀ r ∈ ([x] : List Rea), hasN [x] r = 1 := fun x => ⟨Nat.le_refl _, fun r hr => by rw [List.mem_singleton.1 hr]; exact one_once x⟩
 have h0 := hle.t0; have h1 := hle.t1; have h2 := hle.t2
 unfold doL
 by_cases k1 : s.kind = 1
 ·rw [if_pos k1, if_pos k1]; exact travL_weak hle.step
 rw [if_neg k1, if_neg k1]
 by_cases k2 : s.kind = 2
 ·rw [if_pos k2, if_pos k2]; exact travL_weak hle.jump
 rw [if_neg k2, if_neg k2]
 by_cases k3 : s.kind = 3
 ·rw [if_pos k3, if_pos k3]; exact optS_weak (by omega)
 rw [if_neg k3, if_neg k3]
 by_cases k4 : s.kind = 4
 ·rw [if_pos k4, if_pos k4]; exact optS_weak (by omega)
 rw [if_neg k4, if_neg k4]
 by_cases k5 : s.kind = 5
 ·rw [if_pos k5, if_pos k5]; exact optS_weak (by omega)
 rw [if_neg k5, if_neg k5, if_neg h9, if_neg h9]
 exact one _
theorem doL_free {k : Wrk} {s : Sgn} {b : Bod} (h9 : s.kind = 9) : doL k s b = [⟨s.id, 0, min s.level b.t1, false⟩] := by
 unfold doL; simp [h9]
theorem drop_once {k : Wrk} {s : Sgn} {b : Bod} {r : Rea} (hr : r ∈ dropL s) : hasN (optL k s b) r = 1 ∧ r.drop = true := by
 obtain ⟨rfl, hl⟩ := dropL_mem hr
 refine ⟨?_, rfl⟩
 unfold optL
 rw [hasN_app, dropL_yes, hl]
 have : hasN (doL k s b) ⟨s.id, 0, 0, true⟩ = 0 := hasN_zero fun hm => by
  have := doL_drop hm; cases this
 rw [this]
theorem weak_facts {k : Wrk} {s : Sgn} {a b : Bod} (hle : LeB a b) : (optL k s a).length ≤ (optL k s b).length ∧ ∀ (i : Nat) (r : Rea), (optL k s a)[i]? = some r → (s.kind = 9 ∧ r.drop = false → ∃ y, (optL k s b)[i]? = some y ∧ r.level ≤ y.level) ∧ (¬ (s.kind = 9 ∧ r.drop = false) → hasN (optL k s b) r = 1) := by
 by_cases h9 : s.kind = 9
 ·have h1 := hle.t1
  have ea : optL k s a = ⟨s.id, 0, min s.level a.t1, false⟩ :: dropL s := by unfold optL; rw [doL_free h9]; rfl
  have eb : optL k s b = ⟨s.id, 0, min s.level b.t1, false⟩ :: dropL s := by unfold optL; rw [doL_free h9]; rfl
  refine ⟨by rw [ea, eb]; simp, ?_⟩
  intro i r hi
  rw [ea] at hi
  rcases i with _ | i
  ·obtain rfl : _ = r := by simpa using hi
   refine ⟨fun _ => ⟨_, by rw [eb]; rfl, ?_⟩, fun h => absurd ⟨h9, rfl⟩ h⟩
   show min s.level a.t1 ≤ min s.level b.t1
   omega
  ·have hm : r ∈ dropL s := List.mem_of_getElem? (by simpa using hi)
   obtain ⟨h2, h3⟩ := drop_once (k := k) (b := b) hm
   exact ⟨fun h => absurd h.2 (by rw [h3]; decide), fun _ => h2⟩
 ·obtain ⟨h1, h2⟩ := doL_weak (k := k) (s := s) hle h9
  refine ⟨by unfold optL; rw [List.length_append, List.length_append]; omega, ?_⟩
  intro i r hi
  refine ⟨fun h => absurd h.1 h9, fun _ => ?_⟩
  rcases List.mem_append.1 (show r ∈ doL k s a ++ dropL s from List.mem_of_getElem? hi) with hr | hr
  ·unfold optL
   rw [hasN_app, h2 r hr]
   have hd := doL_drop hr
   have : hasN (dropL s) r = 0 := hasN_zero fun hm => by
    rw [(dropL_mem hm).1] at hd; cases hd
   rw [this]
  ·exact (drop_once hr).1
end Go.Proofs.YtggcbblikgankaaDoor
end
section
namespace Go.Proofs.YtggcbblikgankaaDoor
open Go Go.RowKit Go.Deep
noncomputable def code29 : Code := (Tryd.f29.body).getD .skip
noncomputable def part29n1 : Code := fstC (lastPart 1 code29)
structure TwoAt (a b : Bod) (w : World) (wr : World) : Prop where
 below : Below w.heap.size w wr
 g0 : wr.heap[w.heap.size]? = some (.cells (bodCells a) 36 (0, 0))
 g1 : wr.heap[w.heap.size + 1]? = some (.cells (bodCells b) 36 (0, 0))
 s0 : wr.rangeAt (w.heap.size + 2) 0 (bodCells a).toList
 s1 : wr.rangeAt (w.heap.size + 2) 17 (bodCells b).toList
theorem range_below {w w' : World} {g o : Nat} {cs : List Value} (h : w.rangeAt g o cs) (hb : Below w.heap.size w w') : w'.rangeAt g o cs := by
 intro j v hj
 have h0 := h j v hj
 exact (hb.cell (p := ⟨g, o + j, none⟩) (cell_block_lt h0)).trans h0
theorem yieldsIf_rowX {P : Program} {ops : Array Oper} {S : World → Prop} {op : Oper} {a : Act} (hw : Region.wanted op (yielded ops a.tmps) = true) (ty : TypeId) (x : Operand) (ho : op.op = .load ty x)
  (g : Nat) (hx : a.eval x = .pointer (some ⟨g, 0, none⟩)) (t : TypeId) (cs : Array Value) (fr : Nat × Nat) (d : TypeDesc) (hS : ∀ w, S w → w.heap[g]? = some (.cells cs t fr))
  (hu : P.underlying ty = some d) (hd : (match d with | .struct _ | .array _ _ => true | _ => false) = true) (hi : (P.info? ty).map (·.size) = some cs.size) : YieldsIf P ops S op (.agg cs) a :=
 .inl ⟨hw, fun w hw' => by
  unfold execOp
  simp only [ho, hx, Instr.loadAt, Instr.sureAddr, Sem.run_bind, Sem.run_pure, Result.andThen_ok, run_loadVar_row w g t ty cs fr d (hS w hw') hu hd hi]⟩
theorem then_mono {K K' : Act → World → Prop} {Q : Exit → Act → World → Prop} (h : ∀ a w, K a w → K' a w) : ∀ e a w, Exit.then K Q e a w → Exit.then K' Q e a w := by
 intro e a w hq
 cases e <;> first | exact h _ _ hq | exact hq
theorem two_ranges (w : World) (a b : Bod) (t : TypeId) : (w.alloc (.cells ((bodCells a).toList ++ (bodCells b).toList).toArray t)).rangeAt w.heap.size 0 (bodCells a).toList ∧ (w.alloc (.cells ((bodCells a).toList ++ (bodCells b).toList).toArray t)).rangeAt w.heap.size 17 (bodCells b).toList := by
 have h := heap_alloc_new w (.cells ((bodCells a).toList ++ (bodCells b).toList).toArray t)
 have hla : (bodCells a).toList.length = 17 := rfl
 constructor
 ·intro j v hj
  have hlt := (List.getElem?_eq_some_iff.1 hj).1
  refine cell_at h (0 + j) ?_
  rw [List.getElem?_toArray, Nat.zero_add, List.getElem?_append_left hlt]
  exact hj
 ·intro j v hj
  refine cell_at h (17 + j) ?_
  rw [List.getElem?_toArray, List.getElem?_append_right (by omega), hla, Nat.add_sub_cancel_left]
  exact hj
theorem TwoAt.keep {a b : Bod} {w wr W : World} (h : TwoAt a b w wr) (hb : Below wr.heap.size wr W) : TwoAt a b w W :=
 ⟨h.below.trans (hb.mono h.below.size), (hb.block _ (Array.getElem?_eq_some_iff.1 h.g0).1).trans h.g0, (hb.block _ (Array.getElem?_eq_some_iff.1 h.g1).1).trans h.g1, range_below h.s0 hb, range_below h.s1 hb⟩
theorem TwoAt.at_ {a b : Bod} {w wr : World} (h : TwoAt a b w wr) {i : Nat} (hi : i < 2) : ∃ x, (x = a ∨ x = b) ∧ wr.rangeAt (w.heap.size + 2) (i * 17) (bodCells x).toList := by
 rcases i with _ | _ | i
 ·exact ⟨a, Or.inl rfl, h.s0⟩
 ·exact ⟨b, Or.inr rfl, h.s1⟩
 ·omega
end Go.Proofs.YtggcbblikgankaaDoor
end
section
namespace Go.Proofs.YtggcbblikgankaaDoor
open Go Go.RowKit Go.Deep
def WkG (a b : Bod) (w : World) (e : Ending) (w' : World) : Prop := (∃ (r : Bool) (er : Int), e = .returned (.tuple #[.bool r, .int .i64 er]) ∧ (r = true → er = 0 → LeB a b ∧ bodB a = true ∧ bodB b = true)) ∧ Below w.heap.size w w'
def twoB (a b : Bod) (i : Nat) : Bod := if i = 0 then a else b
theorem twoB_or (a b : Bod) (i : Nat) : twoB a b i = a ∨ twoB a b i = b := by unfold twoB; split <;> simp
theorem TwoAt.atB {a b : Bod} {w wr : World} (h : TwoAt a b w wr) {i : Nat} (hi : i < 2) : wr.rangeAt (w.heap.size + 2) (i * 17) (bodCells (twoB a b i)).toList := by
 rcases i with _ | _ | i
 ·exact h.s0
 ·exact h.s1
 ·omega
set_option maxRecDepth 100000 in
set_option maxHeartbeats 8000000 in
theorem weakg_loop (a b : Bod) (han : a.name.length ≤ maxLen) (hbn : b.name.length ≤ maxLen) (w w3 : World) (hA : TwoAt a b w w3) (e0 e1 e6 e7 e8 e9 e10 e11 e12 e13 e14 e15 e19 e20 e21 e22 e23 e24 e25 e26 e27 e28 e29 e30 e31 e32 e33 e34 e35 e36 e37 e38 e39 e40 e41 e42 e43 e44 e45 e46 e47 : Value) (X : Code)
  (hX : ∀ (w4 : World) (e0 e1 e6 e7 e8 e9 e10 e11 e12 e13 e14 e15 e16 e17 e18 e19 e20 e21 e22 e23 e24 e25 e26 e27 e28 e29 e30 e31 e32 e33 e34 e35 e36 e37 e38 e39 e40 e41 e42 e43 e44 e45 e46 e47 : Value), Below w.heap.size w w4 → w4.heap[w.heap.size]? = some (.cells (bodCells a) 36 (0, 0)) → w4.heap[w.heap.size + 1]? = some (.cells (bodCells b) 36 (0, 0)) → bodB a = true → bodB b = true → Code.wp Tryd.prog X (bodyPost Tryd.prog Tryd.f29 (WkG a b w)) { tmps := #[e0, e1, .pointer (some ⟨w.heap.size, 0, none⟩), .pointer (some ⟨(w.heap.size + 1), 0, none⟩), .bool false, .int .i64 0, e6, e7, e8, e9, e10, e11, e12, e13, e14, e15, e16, e17, e18, e19, e20, e21, e22, e23, e24, e25, e26, e27, e28, e29, e30, e31, e32, e33, e34, e35, e36, e37, e38, e39, e40, e41, e42, e43, e44, e45, e46, e47], defers := [] } w4) :
  Code.wp Tryd.prog (sndC part29n1) (Exit.then (Code.wp Tryd.prog X (bodyPost Tryd.prog Tryd.f29 (WkG a b w))) (bodyPost Tryd.prog Tryd.f29 (WkG a b w))) { tmps := #[e0, e1, .pointer (some ⟨w.heap.size, 0, none⟩), .pointer (some ⟨(w.heap.size + 1), 0, none⟩), .bool false, .int .i64 0, e6, e7, e8, e9, e10, e11, e12, e13, e14, e15, .slice (some ⟨w.heap.size + 2, 0, none⟩) 2 2, .int .i64 2, .int .i64 0, e19, e20, e21, e22, e23, e24, e25, e26, e27, e28, e29, e30, e31, e32, e33, e34, e35, e36, e37, e38, e39, e40, e41, e42, e43, e44, e45, e46, e47], defers := [] } w3 := by
 have hX2 := hX
 have HX := Lib.hid hX; have HA := Lib.hid hA
 have hbc := fun (x : Bod) (hx : x = a ∨ x = b) (W : World) => bcheck_any x (by rcases hx with rfl | rfl <;> assumption) W
 have HBC := Lib.hid hbc
 clear hX hX2 hA hbc han hbn
 unfold part29n1 code29
 conv => arg 2; whnf
 go_wp2_with fail
 go_loopw [4, 5, 18] (fun v4 v5 iv wr => v4 = .bool false ∧ v5 = .int .i64 0 ∧ ∃ i : Nat, i ≤ 2 ∧ iv = .int .i64 i ∧ Hid (TwoAt a b w wr) ∧ Hid (∀ j, j < i → bodB (twoB a b j) = true)) (fun _ _ iv _ => 2 - (intOf iv).toNat)
 case atStart => exact ⟨rfl, rfl, 0, Nat.zero_le _, rfl, HA, Lib.hid fun j hj => by omega⟩
 case round =>
  clear HA
  obtain ⟨rfl, rfl, i, hin, rfl, hM, hOK⟩ := hrel
  by_cases hi : i < 2
  ·have hi' : (i : Int) < 2 := by omega
   obtain ⟨x, hx, hat⟩ : ∃ x, x = twoB a b i ∧ wr.rangeAt (w.heap.size + 2) (i * 17) (bodCells x).toList := ⟨_, rfl, hM.out.atB hi⟩
   have hxx : x = a ∨ x = b := by rw [hx]; exact twoB_or a b i
   have HXX := Lib.hid hxx
   clear hxx
   have hz := (Array.getElem?_eq_some_iff.1 hM.out.g1).1
   have HAT := Lib.hid hat; have HX1 := Lib.hid hx
   clear hx hat hz
   go_wp2_with (first | (refine Go.wpList_load_mid rfl 36 _ rfl (w.heap.size + 2) (i * 17) (by simp [Act.eval]) [.string ⟨x.name.toArray⟩, .int .i64 x.weight, .int .i64 x.lift, .int .i64 x.girth, .int .i64 x.step, .int .i64 x.jump, .int .i64 x.r0, .int .i64 x.r1, .int .i64 x.r2, .int .i64 x.s0, .int .i64 x.s1, .int .i64 x.s2, .int .i64 x.t0, .int .i64 x.t1, .int .i64 x.t2, .int .i64 x.effort, .int .i64 x.recover] _ HAT.out Tryd.underlying36 rfl (by kernel_rfl) ?_; simp only [Act.put, List.setIfInBounds_toArray, List.set_cons_zero, List.set_cons_succ]) | (refine wpList_store_row rfl 36 _ _ rfl wr.heap.size #[.string ⟨x.name.toArray⟩, .int .i64 x.weight, .int .i64 x.lift, .int .i64 x.girth, .int .i64 x.step, .int .i64 x.jump, .int .i64 x.r0, .int .i64 x.r1, .int .i64 x.r2, .int .i64 x.s0, .int .i64 x.s1, .int .i64 x.s2, .int .i64 x.t0, .int .i64 x.t1, .int .i64 x.t2, .int .i64 x.effort, .int .i64 x.recover] rfl rfl 36 _ (heap_alloc_new wr _) (by kernel_rfl) rfl (by simp [Value.oneCell']) ?_; rw [World.setRow_alloc_new]) | (refine wpList_load_row rfl 36 _ rfl wr.heap.size rfl 36 #[.string ⟨x.name.toArray⟩, .int .i64 x.weight, .int .i64 x.lift, .int .i64 x.girth, .int .i64 x.step, .int .i64 x.jump, .int .i64 x.r0, .int .i64 x.r1, .int .i64 x.r2, .int .i64 x.s0, .int .i64 x.s1, .int .i64 x.s2, .int .i64 x.t0, .int .i64 x.t1, .int .i64 x.t2, .int .i64 x.effort, .int .i64 x.recover] (0, 0) _ (heap_alloc_new wr _) Tryd.underlying36 rfl (by kernel_rfl) ?_; simp only [Act.put, List.setIfInBounds_toArray, List.set_cons_zero, List.set_cons_succ]))
   have hba : Below wr.heap.size wr (wr.alloc (.cells #[.string ⟨x.name.toArray⟩, .int .i64 x.weight, .int .i64 x.lift, .int .i64 x.girth, .int .i64 x.step, .int .i64 x.jump, .int .i64 x.r0, .int .i64 x.r1, .int .i64 x.r2, .int .i64 x.s0, .int .i64 x.s1, .int .i64 x.s2, .int .i64 x.t0, .int .i64 x.t1, .int .i64 x.t2, .int .i64 x.effort, .int .i64 x.recover] 36)) := (Below.refl _ wr).alloc (Nat.le_refl _) _
   generalize wr.alloc (.cells #[.string ⟨x.name.toArray⟩, .int .i64 x.weight, .int .i64 x.lift, .int .i64 x.girth, .int .i64 x.step, .int .i64 x.jump, .int .i64 x.r0, .int .i64 x.r1, .int .i64 x.r2, .int .i64 x.s0, .int .i64 x.s1, .int .i64 x.s2, .int .i64 x.t0, .int .i64 x.t1, .int .i64 x.t2, .int .i64 x.effort, .int .i64 x.recover] 36) = W0 at *
   refine (HBC.out x HXX.out W0).mono ?_
   rintro e W1 ⟨rfl, b1⟩
   have HM1 := Lib.hid (hM.out.keep (hba.trans (b1.mono hba.size)))
   have HBW := Lib.hid HM1.out.below
   clear hba b1 HBC HAT hM
   cases hbx : bodB x with
   | false =>
    have hq : codeI false 250 = 250 := rfl
    rw [hq]
    clear hbx hq
    go_wp2_with fail
    go_ret2
    exact ⟨⟨_, _, rfl, fun h => by cases h⟩, HBW.out⟩
   | true =>
    have hq : codeI true 250 = 0 := rfl
    rw [hq]
    have hok : ∀ j, j < i + 1 → bodB (twoB a b j) = true := fun j hj => by
     by_cases h : j < i
     ·exact hOK.out j h
     ·obtain rfl : j = i := by omega
      rw [← HX1.out]; exact hbx
    have HOK2 := Lib.hid hok
    clear hbx hq hok hOK
    go_wp2_with fail
    go_roundw
    case rel => exact ⟨rfl, rfl, i + 1, by omega, by go_num, HM1, HOK2⟩
    case measure => simp [intOf]; omega
  ·obtain rfl : i = 2 := by omega
   go_wp2_with fail
   exact HX.out _ _ _ _ _ _ _ _ _ _ _ _ _ _ _ _ _ _ _ _ _ _ _ _ _ _ _ _ _ _ _ _ _ _ _ _ _ _ _ _ _ _ _ _ _ hM.out.below hM.out.g0 hM.out.g1 (hOK.out 0 (by omega)) (hOK.out 1 (by omega))
set_option maxRecDepth 100000 in
set_option maxHeartbeats 8000000 in
theorem weakg_head (a b : Bod) (han : a.name.length ≤ maxLen) (hbn : b.name.length ≤ maxLen) (w : World) (X : Code)
  (hX : ∀ (w4 : World) (e0 e1 e6 e7 e8 e9 e10 e11 e12 e13 e14 e15 e16 e17 e18 e19 e20 e21 e22 e23 e24 e25 e26 e27 e28 e29 e30 e31 e32 e33 e34 e35 e36 e37 e38 e39 e40 e41 e42 e43 e44 e45 e46 e47 : Value), Below w.heap.size w w4 → w4.heap[w.heap.size]? = some (.cells (bodCells a) 36 (0, 0)) → w4.heap[w.heap.size + 1]? = some (.cells (bodCells b) 36 (0, 0)) → bodB a = true → bodB b = true → Code.wp Tryd.prog X (bodyPost Tryd.prog Tryd.f29 (WkG a b w)) { tmps := #[e0, e1, .pointer (some ⟨w.heap.size, 0, none⟩), .pointer (some ⟨(w.heap.size + 1), 0, none⟩), .bool false, .int .i64 0, e6, e7, e8, e9, e10, e11, e12, e13, e14, e15, e16, e17, e18, e19, e20, e21, e22, e23, e24, e25, e26, e27, e28, e29, e30, e31, e32, e33, e34, e35, e36, e37, e38, e39, e40, e41, e42, e43, e44, e45, e46, e47], defers := [] } w4) :
  Code.wp Tryd.prog (withLast 2 code29 X) (bodyPost Tryd.prog Tryd.f29 (WkG a b w)) { tmps := #[bodV a, bodV b, undef, undef, undef, undef, undef, undef, undef, undef, undef, undef, undef, undef, undef, undef, undef, undef, undef, undef, undef, undef, undef, undef, undef, undef, undef, undef, undef, undef, undef, undef, undef, undef, undef, undef, undef, undef, undef, undef, undef, undef, undef, undef, undef, undef, undef, undef], defers := [] } w := by
 obtain ⟨g0, g1, hz, hbl⟩ := blocks2 w (.cells (bodCells a) 36) (.cells (bodCells b) 36)
 have hva : bodV a = .agg (bodCells a) := rfl
 have hvb : bodV b = .agg (bodCells b) := rfl
 rw [hva, hvb]
 have G0 := Lib.hid g0; have G1 := Lib.hid g1; have HB := Lib.hid hbl; have HZ := Lib.hid hz; have HX := Lib.hid hX
 have HLP := Lib.hid (fun (w3 : World) hA => weakg_loop a b han hbn w w3 hA)
 clear g0 g1 hz hbl hva hvb hX han hbn
 change Code.wp Tryd.prog (.seq (fstC code29) (.seq (.seq (fstC part29n1) (sndC part29n1)) X)) _ _ _
 refine wp_seq ?_
 unfold code29
 conv => arg 2; whnf
 go_wp2_with fail
 generalize hw0 : (w.alloc (.cells (bodCells a) 36)).alloc (.cells (bodCells b) 36) = w0 at *
 unfold part29n1 code29
 conv => arg 2; whnf
 go_wp2_with (first | (refine wpList_load_row rfl 36 _ rfl w.heap.size rfl 36 #[.string ⟨a.name.toArray⟩, .int .i64 a.weight, .int .i64 a.lift, .int .i64 a.girth, .int .i64 a.step, .int .i64 a.jump, .int .i64 a.r0, .int .i64 a.r1, .int .i64 a.r2, .int .i64 a.s0, .int .i64 a.s1, .int .i64 a.s2, .int .i64 a.t0, .int .i64 a.t1, .int .i64 a.t2, .int .i64 a.effort, .int .i64 a.recover] (0, 0) _ G0.out Tryd.underlying36 rfl (by kernel_rfl) ?_; simp only [Act.put, List.setIfInBounds_toArray, List.set_cons_zero, List.set_cons_succ]) | (refine wpList_load_row rfl 36 _ rfl (w.heap.size + 1) rfl 36 #[.string ⟨b.name.toArray⟩, .int .i64 b.weight, .int .i64 b.lift, .int .i64 b.girth, .int .i64 b.step, .int .i64 b.jump, .int .i64 b.r0, .int .i64 b.r1, .int .i64 b.r2, .int .i64 b.s0, .int .i64 b.s1, .int .i64 b.s2, .int .i64 b.t0, .int .i64 b.t1, .int .i64 b.t2, .int .i64 b.effort, .int .i64 b.recover] (0, 0) _ G1.out Tryd.underlying36 rfl (by kernel_rfl) ?_; simp only [Act.put, List.setIfInBounds_toArray, List.set_cons_zero, List.set_cons_succ]))
 have hz0 := HZ.out
 rw [hz0]
 refine wp_mono (Q := Exit.then (Code.wp Tryd.prog X (bodyPost Tryd.prog Tryd.f29 (WkG a b w))) (bodyPost Tryd.prog Tryd.f29 (WkG a b w))) (HLP.out _ ?_ _ _ _ _ _ _ _ _ _ _ _ _ _ _ _ _ _ _ _ _ _ _ _ _ _ _ _ _ _ _ _ _ _ _ _ _ _ _ _ _ _ X HX.out) (then_mono (by assumption))
 have hlt0 : w.heap.size < w0.heap.size := by omega
 have hlt1 : w.heap.size + 1 < w0.heap.size := by omega
 have hr := two_ranges w0 a b 36
 rw [hz0] at hr
 exact ⟨HB.out.alloc HB.out.size _, (Below.heap_alloc w0 _ _ hlt0).trans G0.out, (Below.heap_alloc w0 _ _ hlt1).trans G1.out, hr.1, hr.2⟩
end Go.Proofs.YtggcbblikgankaaDoor
end
section
namespace Go.Proofs.YtggcbblikgankaaDoor
open Go Go.RowKit Go.Deep
theorem LeB.unraise {a b : Bod} {o : Nat} (ho : OffIn o) (hle : bodGet a o ≤ bodGet b o) (h : LeB (bodSet a (bodGet b o) o) b) : LeB a b := by
 obtain ⟨h1, h2, h3, h4, h5, h6, h7, h8, h9, h10, h11, h12, h13, h14, h15, h16, h17⟩ := h
 rcases ho with rfl | rfl | rfl | rfl | rfl | rfl | rfl | rfl | rfl | rfl <;> simp only [bodSet, bodGet] at * <;> refine ⟨h1, h2, h3, h4, h5, h6, h7, ?_, ?_, ?_, ?_, ?_, ?_, ?_, ?_, ?_, ?_⟩ <;> assumption
noncomputable def part59m1 : Code := lastPart 1 code59
def MostG (a b : Bod) (k A n0 : Nat) (w : World) (e : Ending) (w' : World) : Prop :=
 Below n0 w w' ∧ ((e = .returned (.bool true) ∧ w'.heap[A]? = some (.cells (bodCells (mostF b a (placesK k (lmaxOf k + 1).toNat))) 112 (0, 0)) ∧ (LeB (mostF b a (placesK k (lmaxOf k + 1).toNat)) b → LeB a b) ∧ ∀ (g : Nat) (c : Obj), g ≠ A → w.heap[g]? = some c → w'.heap[g]? = some c) ∨ e = .returned (.bool false))
set_option maxRecDepth 100000 in
set_option maxHeartbeats 8000000 in
theorem mostg_loop (a b : Bod) (k : Nat) (hk : 1 ≤ k ∧ k ≤ 6) (A B C n0 : Nat) (hA : n0 ≤ A) (hAB : A ≠ B) (hAC : A ≠ C) (w w3 : World) (hM : MostAt a b k A B C n0 w 0 w3) (e0 e4 e5 e6 e7 e8 e9 e10 e11 e12 e13 e14 e15 e16 e17 e18 e19 e20 e21 e22 e23 e24 e25 e26 e27 e28 e29 e30 e31 e32 e33 e34 : Value) :
  Code.wp Tryd.prog part59m1 (bodyPost Tryd.prog Tryd.f59 (MostG a b k A n0 w)) { tmps := #[e0, .pointer (some ⟨A, 0, none⟩), .pointer (some ⟨B, 0, none⟩), .pointer (some ⟨C, 0, none⟩), e4, e5, e6, e7, e8, e9, e10, e11, e12, e13, e14, e15, e16, e17, e18, e19, e20, e21, e22, e23, e24, e25, e26, e27, e28, e29, e30, e31, e32, e33, e34], defers := [] } w3 := by
 have c3 : w3.cell? ⟨C, 3, none⟩ = some (.int .i64 (lmaxOf k)) := cell_at hM.pc 3 rfl
 have hm : 0 ≤ lmaxOf k ∧ lmaxOf k ≤ 2 := by unfold lmaxOf; split <;> omega
 have W0 : IntKind.i64.wrap (lmaxOf k + 1) = lmaxOf k + 1 := IntWalk.i64_in _ (by omega)
 have HM := Lib.hid hM; have HK := Lib.hid hk; have HA := Lib.hid hA; have HAB := Lib.hid hAB; have HAC := Lib.hid hAC
 clear hM hA hAB hAC
 unfold part59m1 code59
 conv => arg 2; whnf
 go_wp2_with fail
 clear c3
 go_loopw [4, 11] (fun _ iv wr => ∃ i : Nat, (i : Int) ≤ lmaxOf k + 1 ∧ iv = .int .i64 i ∧ Hid (MostAt a b k A B C n0 w i wr) ∧ Hid (LeB (mostF b a (placesK k i)) b → LeB a b)) (fun _ iv _ => (lmaxOf k + 1).toNat - (intOf iv).toNat)
 case atStart => exact ⟨0, by omega, rfl, HM, Lib.hid fun h => h⟩
 case round =>
  clear HM
  obtain ⟨i, hin, rfl, hM, hP⟩ := hrel
  by_cases hi : (i : Int) < lmaxOf k + 1
  ·change Code.wp Tryd.prog (.seq (fstC loop59) (.seq (fstC (sndC loop59)) (.seq (.block 1 (.seq (fstC body59) (withLast 1 body59n1 body59n2))) (sndC (sndC (sndC loop59)))))) _ _ _
   go_wp2_with fail
   conv => arg 2; whnf
   go_wp2_with fail
   conv => arg 2; whnf
   go_wp2_with fail
   conv => arg 2; whnf
   go_wp2_with fail
   refine most_doors k HK.out i (by omega) (by omega) A B C wr hM.out.pc _ _ _ _ _ _ _ _ _ _ _ _ _ _ _ _ _ _ _ _ _ _ _ _ _ _ _ _ _ _ _ _ body59n2 ?_
   intro _ _ _ _ _ _ _ _
   have hMd := hM.out.drew
   have hil : (i : Int) ≤ lmaxOf k := by omega
   have ho := place_in HK.out hil
   have cA := cell_at hMd.pa _ (bod_at _ ho)
   have cB := cell_at hMd.pb _ (bod_at _ ho)
   have fA := free_at hMd.pa (offOf k i)
   have hback : ¬ (bodGet b (offOf k i) < bodGet (mostF b a (placesK k i)) (offOf k i)) → LeB (mostF b a (placesK k (i + 1))) b → LeB a b := fun hn hl => hP.out (by
    rw [most_succ] at hl
    exact hl.unraise ho (by omega))
   have HBK := Lib.hid hback
   have HH := Lib.hid hMd
   clear hMd hM hP ho hback
   unfold body59n2 body59 loop59 code59
   conv => arg 2; whnf
   go_wp2_with fail
   by_cases hgt : bodGet b (offOf k i) < bodGet (mostF b a (placesK k i)) (offOf k i)
   ·go_region_held3 (fun w2 => w2.cell? ⟨A, offOf k i, none⟩ = some (.int .i64 (bodGet (mostF b a (placesK k i)) (offOf k i))) ∧ w2.cell? ⟨B, offOf k i, none⟩ = some (.int .i64 (bodGet b (offOf k i)))) (first | assumption | exact ⟨cA, cB⟩) (fail)
    have HB := Lib.hid HH.out.drew.below
    clear cA cB fA HH
    generalize wr.drew.drew = W at *
    go_wp2_with fail
    go_ret
    exact ⟨HB.out, Or.inr rfl⟩
   ·go_region_held3 (fun w2 => w2.cell? ⟨A, offOf k i, none⟩ = some (.int .i64 (bodGet (mostF b a (placesK k i)) (offOf k i))) ∧ w2.cell? ⟨B, offOf k i, none⟩ = some (.int .i64 (bodGet b (offOf k i)))) (first | assumption | exact ⟨cA, cB⟩) (fail)
    have HP2 := Lib.hid (HBK.out (by omega))
    have kA := cell_at HH.out.drew.pa _ (bod_at _ (place_in HK.out hil))
    have kB := cell_at HH.out.drew.pb _ (bod_at _ (place_in HK.out hil))
    have kF := free_at HH.out.drew.pa (offOf k i)
    have HST := Lib.hid (HH.out.drew.step HK.out hil HA.out HAB.out HAC.out)
    clear cA cB fA HH HBK
    generalize wr.drew.drew = W at *
    go_wp2_with fail
    conv => arg 2; whnf
    go_wp2_with fail
    go_roundw
    case rel => exact ⟨i + 1, by omega, by go_num, HST, HP2⟩
    case measure => simp [intOf]; omega
  ·have hie : (i : Int) = lmaxOf k + 1 := by omega
   have hit : (lmaxOf k + 1).toNat = i := by omega
   go_wp2_with fail
   go_ret
   exact ⟨hM.out.below, Or.inl ⟨rfl, by rw [hit]; exact hM.out.pa, by rw [hit]; exact hP.out, hM.out.rest⟩⟩
set_option maxRecDepth 100000 in
set_option maxHeartbeats 8000000 in
theorem mostg_any (a b : Bod) (k : Nat) (hk : 1 ≤ k ∧ k ≤ 6) (A B n0 : Nat) (hA : n0 ≤ A) (hAB : A ≠ B) (w : World) (h0 : n0 ≤ w.heap.size) (gA : w.heap[A]? = some (.cells (bodCells a) 112 (0, 0))) (gB : w.heap[B]? = some (.cells (bodCells b) 112 (0, 0))) :
  Calls Tryd.prog 59 #[.agg (ruleK k), .pointer (some ⟨A, 0, none⟩), .pointer (some ⟨B, 0, none⟩)] w (MostG a b k A n0 w) := by
 have hlA : A < w.heap.size := (Array.getElem?_eq_some_iff.1 gA).1
 have hlB : B < w.heap.size := (Array.getElem?_eq_some_iff.1 gB).1
 have hM : MostAt a b k A B w.heap.size n0 w 0 (w.alloc (.cells (ruleK k) 117)) :=
  ⟨(Below.heap_alloc w _ A hlA).trans gA, (Below.heap_alloc w _ B hlB).trans gB, heap_alloc_new w _, (Below.refl _ w).alloc h0 _, fun g c _ hc => (Below.heap_alloc w _ g (Array.getElem?_eq_some_iff.1 hc).1).trans hc⟩
 have HX := Lib.hid (mostg_loop a b k hk A B w.heap.size n0 hA hAB (by omega) w _ hM)
 clear hM hlA hlB gA gB hA hAB h0
 go_enter Tryd.func59, Tryd.ntmps59
 change Code.wp Tryd.prog (.seq (fstC code59) part59m1) _ _ _
 go_wp2_with fail
 conv => arg 2; whnf
 go_wp2_with fail
 exact HX.out _ _ _ _ _ _ _ _ _ _ _ _ _ _ _ _ _ _ _ _ _ _ _ _ _ _ _ _ _ _ _ _
end Go.Proofs.YtggcbblikgankaaDoor
end
section
namespace Go.Proofs.YtggcbblikgankaaDoor
open Go Go.RowKit Go.Deep
noncomputable def part29n2 : Code := lastPart 2 code29
set_option maxRecDepth 100000 in
set_option maxHeartbeats 8000000 in
theorem weak_copies (a b : Bod) (A B : Nat) (w3 : World) (gA : w3.heap[A]? = some (.cells (bodCells a) 36 (0, 0))) (gB : w3.heap[B]? = some (.cells (bodCells b) 36 (0, 0))) (e0 e1 e6 e7 e8 e9 e10 e11 e12 e13 e14 e15 e16 e17 e18 e19 e20 e21 e22 e23 e24 e25 e26 e27 e28 e29 e30 e31 e32 e33 e34 e35 e36 e37 e38 e39 e40 e41 e42 e43 e44 e45 e46 e47 : Value) (R : Ending → World → Prop) (X : Code)
  (hX : ∀ (w4 : World) (M1 M2 : Nat) (e0 e1 e6 e7 e10 e11 e12 e13 e14 e15 e16 e17 e18 e19 e20 e21 e22 e23 e24 e25 e26 e27 e28 e29 e30 e31 e32 e33 e34 e35 e36 e37 e38 e39 e40 e41 e42 e43 e44 e45 e46 e47 : Value), Below w3.heap.size w3 w4 → w4.heap[M1]? = some (.cells (bodCells a) 112 (0, 0)) → w4.heap[M2]? = some (.cells (bodCells b) 112 (0, 0)) → w3.heap.size ≤ M1 → w3.heap.size ≤ M2 → M1 ≠ M2 → Code.wp Tryd.prog X (bodyPost Tryd.prog Tryd.f29 R) { tmps := #[e0, e1, .pointer (some ⟨A, 0, none⟩), .pointer (some ⟨B, 0, none⟩), .bool false, .int .i64 0, e6, e7, .pointer (some ⟨M1, 0, none⟩), .pointer (some ⟨M2, 0, none⟩), e10, e11, e12, e13, e14, e15, e16, e17, e18, e19, e20, e21, e22, e23, e24, e25, e26, e27, e28, e29, e30, e31, e32, e33, e34, e35, e36, e37, e38, e39, e40, e41, e42, e43, e44, e45, e46, e47], defers := [] } w4) :
  Code.wp Tryd.prog (withLast 1 part29n2 X) (bodyPost Tryd.prog Tryd.f29 R) { tmps := #[e0, e1, .pointer (some ⟨A, 0, none⟩), .pointer (some ⟨B, 0, none⟩), .bool false, .int .i64 0, e6, e7, e8, e9, e10, e11, e12, e13, e14, e15, e16, e17, e18, e19, e20, e21, e22, e23, e24, e25, e26, e27, e28, e29, e30, e31, e32, e33, e34, e35, e36, e37, e38, e39, e40, e41, e42, e43, e44, e45, e46, e47], defers := [] } w3 := by
 have HX := Lib.hid hX
 have hA := (Array.getElem?_eq_some_iff.1 gA).1
 have hB := (Array.getElem?_eq_some_iff.1 gB).1
 have hB0 : Below w3.heap.size w3 w3.drew := (Below.refl _ w3).drew
 have gA0 : w3.drew.heap[A]? = some (.cells (bodCells a) 36 (0, 0)) ∧ w3.drew.heap[B]? = some (.cells (bodCells b) 36 (0, 0)) := ⟨gA, gB⟩
 have HA := Lib.hid hA; have HB := Lib.hid hB
 clear hX gA gB hA hB
 unfold part29n2 code29
 conv => arg 2; whnf
 simp only [withLast]
 refine wp_seq ?_
 refine wp_region_held (S := (fun w2 => w2.heap[A]? = some (.cells (bodCells a) 36 (0, 0)) ∧ w2.heap[B]? = some (.cells (bodCells b) 36 (0, 0)))) (by kernel_rfl) ?_
 change wpAnyH _ _ _ _ _ _ _ _ w3.drew
 generalize w3.drew = W0 at *
 refine wpAnyH_take (i := 0) (oi := _) (v := .agg #[.string ⟨a.name.toArray⟩, .int .i64 a.weight, .int .i64 a.lift, .int .i64 a.girth, .int .i64 a.step, .int .i64 a.jump, .int .i64 a.r0, .int .i64 a.r1, .int .i64 a.r2, .int .i64 a.s0, .int .i64 a.s1, .int .i64 a.s2, .int .i64 a.t0, .int .i64 a.t1, .int .i64 a.t2, .int .i64 a.effort, .int .i64 a.recover]) rfl (by kernel_rfl) (by kernel_rfl) (by kernel_rfl) (fun _ _ _ h => h) (yieldsIf_rowX rfl 36 _ rfl A rfl 36 #[.string ⟨a.name.toArray⟩, .int .i64 a.weight, .int .i64 a.lift, .int .i64 a.girth, .int .i64 a.step, .int .i64 a.jump, .int .i64 a.r0, .int .i64 a.r1, .int .i64 a.r2, .int .i64 a.s0, .int .i64 a.s1, .int .i64 a.s2, .int .i64 a.t0, .int .i64 a.t1, .int .i64 a.t2, .int .i64 a.effort, .int .i64 a.recover] (0, 0) _ (fun _ h => h.1) Tryd.underlying36 rfl (by kernel_rfl)) gA0 ?_
 try (simp only [Act.put, List.setIfInBounds_toArray, List.set_cons_zero, List.set_cons_succ])
 refine wpAnyH_take (i := 1) (oi := _) (v := .agg #[.string ⟨a.name.toArray⟩, .int .i64 a.weight, .int .i64 a.lift, .int .i64 a.girth, .int .i64 a.step, .int .i64 a.jump, .int .i64 a.r0, .int .i64 a.r1, .int .i64 a.r2, .int .i64 a.s0, .int .i64 a.s1, .int .i64 a.s2, .int .i64 a.t0, .int .i64 a.t1, .int .i64 a.t2, .int .i64 a.effort, .int .i64 a.recover]) rfl (by kernel_rfl) (by kernel_rfl) (by kernel_rfl) (fun _ _ _ h => h) (Or.inl ⟨by rfl, fun w _ => by go_simp⟩) gA0 ?_
 try (simp only [Act.put, List.setIfInBounds_toArray, List.set_cons_zero, List.set_cons_succ])
 refine wpAnyH_take (i := 2) (oi := _) (v := .agg #[.string ⟨b.name.toArray⟩, .int .i64 b.weight, .int .i64 b.lift, .int .i64 b.girth, .int .i64 b.step, .int .i64 b.jump, .int .i64 b.r0, .int .i64 b.r1, .int .i64 b.r2, .int .i64 b.s0, .int .i64 b.s1, .int .i64 b.s2, .int .i64 b.t0, .int .i64 b.t1, .int .i64 b.t2, .int .i64 b.effort, .int .i64 b.recover]) rfl (by kernel_rfl) (by kernel_rfl) (by kernel_rfl) (fun _ _ _ h => h) (yieldsIf_rowX rfl 36 _ rfl B rfl 36 #[.string ⟨b.name.toArray⟩, .int .i64 b.weight, .int .i64 b.lift, .int .i64 b.girth, .int .i64 b.step, .int .i64 b.jump, .int .i64 b.r0, .int .i64 b.r1, .int .i64 b.r2, .int .i64 b.s0, .int .i64 b.s1, .int .i64 b.s2, .int .i64 b.t0, .int .i64 b.t1, .int .i64 b.t2, .int .i64 b.effort, .int .i64 b.recover] (0, 0) _ (fun _ h => h.2) Tryd.underlying36 rfl (by kernel_rfl)) gA0 ?_
 try (simp only [Act.put, List.setIfInBounds_toArray, List.set_cons_zero, List.set_cons_succ])
 refine wpAnyH_take (i := 3) (oi := _) (v := .agg #[.string ⟨b.name.toArray⟩, .int .i64 b.weight, .int .i64 b.lift, .int .i64 b.girth, .int .i64 b.step, .int .i64 b.jump, .int .i64 b.r0, .int .i64 b.r1, .int .i64 b.r2, .int .i64 b.s0, .int .i64 b.s1, .int .i64 b.s2, .int .i64 b.t0, .int .i64 b.t1, .int .i64 b.t2, .int .i64 b.effort, .int .i64 b.recover]) rfl (by kernel_rfl) (by kernel_rfl) (by kernel_rfl) (fun _ _ _ h => h) (Or.inl ⟨by rfl, fun w _ => by go_simp⟩) gA0 ?_
 try (simp only [Act.put, List.setIfInBounds_toArray, List.set_cons_zero, List.set_cons_succ])
 refine wpAnyH_ready (rs := [4, 5]) (by kernel_rfl) (by simp) ?_
 refine AllReadyH.cons (o := _) rfl (fun K1 hK => ?_) (AllReadyH.cons (o := _) rfl (fun K2 hK => ?_) AllReadyH.nil)
 ·go_simp
  obtain ⟨W1, hW1, gA1, m1, b1, z1, hM1⟩ := rule_step hB0 gA0.1 #[.string ⟨#[]⟩, .int .i64 0, .int .i64 0, .int .i64 0, .int .i64 0, .int .i64 0, .int .i64 0, .int .i64 0, .int .i64 0, .int .i64 0, .int .i64 0, .int .i64 0, .int .i64 0, .int .i64 0, .int .i64 0, .int .i64 0, .int .i64 0] 112
  have gB1 := hW1 ▸ (Below.heap_alloc W0 (.cells #[.string ⟨#[]⟩, .int .i64 0, .int .i64 0, .int .i64 0, .int .i64 0, .int .i64 0, .int .i64 0, .int .i64 0, .int .i64 0, .int .i64 0, .int .i64 0, .int .i64 0, .int .i64 0, .int .i64 0, .int .i64 0, .int .i64 0, .int .i64 0] 112) B (Nat.lt_of_lt_of_le HB.out hB0.size)).trans gA0.2
  rw [hW1]
  refine hK.out _ _ ⟨gA1, gB1⟩ (fun _ => ?_)
  clear hK K1 hW1 gA0 hB0
  try (simp only [Act.put, List.setIfInBounds_toArray, List.set_cons_zero, List.set_cons_succ])
  refine wpAnyH_ready (rs := [5]) (by kernel_rfl) (by simp) ?_
  refine AllReadyH.cons (o := _) rfl (fun K1 hK => ?_) AllReadyH.nil
  go_simp
  obtain ⟨W2, hW2, gA2, m2, b2, z2, hM2⟩ := rule_step b1 gA1 #[.string ⟨#[]⟩, .int .i64 0, .int .i64 0, .int .i64 0, .int .i64 0, .int .i64 0, .int .i64 0, .int .i64 0, .int .i64 0, .int .i64 0, .int .i64 0, .int .i64 0, .int .i64 0, .int .i64 0, .int .i64 0, .int .i64 0, .int .i64 0] 112
  have gB2 := hW2 ▸ (Below.heap_alloc W1 (.cells #[.string ⟨#[]⟩, .int .i64 0, .int .i64 0, .int .i64 0, .int .i64 0, .int .i64 0, .int .i64 0, .int .i64 0, .int .i64 0, .int .i64 0, .int .i64 0, .int .i64 0, .int .i64 0, .int .i64 0, .int .i64 0, .int .i64 0, .int .i64 0] 112) B (Nat.lt_of_lt_of_le HB.out b1.size)).trans gB1
  have m1' := hW2 ▸ (Below.heap_alloc W1 (.cells #[.string ⟨#[]⟩, .int .i64 0, .int .i64 0, .int .i64 0, .int .i64 0, .int .i64 0, .int .i64 0, .int .i64 0, .int .i64 0, .int .i64 0, .int .i64 0, .int .i64 0, .int .i64 0, .int .i64 0, .int .i64 0, .int .i64 0, .int .i64 0] 112) W0.heap.size (by omega)).trans m1
  rw [hW2]
  have gAB : W2.heap[A]? = some (.cells (bodCells a) 36 (0, 0)) ∧ W2.heap[B]? = some (.cells (bodCells b) 36 (0, 0)) := ⟨gA2, gB2⟩
  refine hK.out _ _ gAB (fun _ => ?_)
  clear hK K1 hW2 gA2 gB2
  try (simp only [Act.put, List.setIfInBounds_toArray, List.set_cons_zero, List.set_cons_succ])
  refine wpAnyH_ready (rs := [6]) (by kernel_rfl) (by simp) ?_
  refine AllReadyH.cons (o := _) rfl (fun K1 hK => ?_) AllReadyH.nil
  rw [if_pos (by rfl)]
  refine wp_store_row 112 _ _ rfl W0.heap.size #[.string ⟨a.name.toArray⟩, .int .i64 a.weight, .int .i64 a.lift, .int .i64 a.girth, .int .i64 a.step, .int .i64 a.jump, .int .i64 a.r0, .int .i64 a.r1, .int .i64 a.r2, .int .i64 a.s0, .int .i64 a.s1, .int .i64 a.s2, .int .i64 a.t0, .int .i64 a.t1, .int .i64 a.t2, .int .i64 a.effort, .int .i64 a.recover] rfl rfl 112 _ m1' (by kernel_rfl) rfl (by simp [Value.oneCell']) ?_
  refine hK.out _ _ ⟨(setRow_other _ _ _ _ (by have := HA.out; omega)).trans gAB.1, (setRow_other _ _ _ _ (by have := HB.out; omega)).trans gAB.2⟩ (fun _ => ?_)
  clear hK K1
  try (simp only [Act.put, List.setIfInBounds_toArray, List.set_cons_zero, List.set_cons_succ])
  refine wpAnyH_ready (rs := [7]) (by kernel_rfl) (by simp) ?_
  refine AllReadyH.cons (o := _) rfl (fun K1 hK => ?_) AllReadyH.nil
  rw [if_pos (by rfl)]
  refine wp_store_row 112 _ _ rfl W1.heap.size #[.string ⟨b.name.toArray⟩, .int .i64 b.weight, .int .i64 b.lift, .int .i64 b.girth, .int .i64 b.step, .int .i64 b.jump, .int .i64 b.r0, .int .i64 b.r1, .int .i64 b.r2, .int .i64 b.s0, .int .i64 b.s1, .int .i64 b.s2, .int .i64 b.t0, .int .i64 b.t1, .int .i64 b.t2, .int .i64 b.effort, .int .i64 b.recover] rfl rfl 112 _ ((setRow_other _ _ _ _ (by omega)).trans m2) (by kernel_rfl) rfl (by simp [Value.oneCell']) ?_
  refine hK.out _ _ ⟨(setRow_other _ _ _ _ (by have := HA.out; omega)).trans ((setRow_other _ _ _ _ (by have := HA.out; omega)).trans gAB.1), (setRow_other _ _ _ _ (by have := HB.out; omega)).trans ((setRow_other _ _ _ _ (by have := HB.out; omega)).trans gAB.2)⟩ (fun _ => ?_)
  clear hK K1
  try (simp only [Act.put, List.setIfInBounds_toArray, List.set_cons_zero, List.set_cons_succ])
  refine wpAnyH_done (by kernel_rfl) ?_ _
  exact HX.out _ W0.heap.size W1.heap.size _ _ _ _ _ _ _ _ _ _ _ _ _ _ _ _ _ _ _ _ _ _ _ _ _ _ _ _ _ _ _ _ _ _ _ _ _ _ _ _ _ _ (below_setRow (below_setRow b2 (by omega) _) (by omega) _) ((setRow_other _ _ _ _ (by omega)).trans (setRow_heap _ _ _ _ _ _ m1')) (setRow_heap _ _ _ _ _ _ ((setRow_other _ _ _ _ (by omega)).trans m2)) (by omega) (by omega) (by omega)
 ·go_simp
  obtain ⟨W1, hW1, gA1, m1, b1, z1, hM1⟩ := rule_step hB0 gA0.1 #[.string ⟨#[]⟩, .int .i64 0, .int .i64 0, .int .i64 0, .int .i64 0, .int .i64 0, .int .i64 0, .int .i64 0, .int .i64 0, .int .i64 0, .int .i64 0, .int .i64 0, .int .i64 0, .int .i64 0, .int .i64 0, .int .i64 0, .int .i64 0] 112
  have gB1 := hW1 ▸ (Below.heap_alloc W0 (.cells #[.string ⟨#[]⟩, .int .i64 0, .int .i64 0, .int .i64 0, .int .i64 0, .int .i64 0, .int .i64 0, .int .i64 0, .int .i64 0, .int .i64 0, .int .i64 0, .int .i64 0, .int .i64 0, .int .i64 0, .int .i64 0, .int .i64 0, .int .i64 0] 112) B (Nat.lt_of_lt_of_le HB.out hB0.size)).trans gA0.2
  rw [hW1]
  refine hK.out _ _ ⟨gA1, gB1⟩ (fun _ => ?_)
  clear hK K2 hW1 gA0 hB0
  try (simp only [Act.put, List.setIfInBounds_toArray, List.set_cons_zero, List.set_cons_succ])
  refine wpAnyH_ready (rs := [4]) (by kernel_rfl) (by simp) ?_
  refine AllReadyH.cons (o := _) rfl (fun K1 hK => ?_) AllReadyH.nil
  go_simp
  obtain ⟨W2, hW2, gA2, m2, b2, z2, hM2⟩ := rule_step b1 gA1 #[.string ⟨#[]⟩, .int .i64 0, .int .i64 0, .int .i64 0, .int .i64 0, .int .i64 0, .int .i64 0, .int .i64 0, .int .i64 0, .int .i64 0, .int .i64 0, .int .i64 0, .int .i64 0, .int .i64 0, .int .i64 0, .int .i64 0, .int .i64 0] 112
  have gB2 := hW2 ▸ (Below.heap_alloc W1 (.cells #[.string ⟨#[]⟩, .int .i64 0, .int .i64 0, .int .i64 0, .int .i64 0, .int .i64 0, .int .i64 0, .int .i64 0, .int .i64 0, .int .i64 0, .int .i64 0, .int .i64 0, .int .i64 0, .int .i64 0, .int .i64 0, .int .i64 0, .int .i64 0] 112) B (Nat.lt_of_lt_of_le HB.out b1.size)).trans gB1
  have m1' := hW2 ▸ (Below.heap_alloc W1 (.cells #[.string ⟨#[]⟩, .int .i64 0, .int .i64 0, .int .i64 0, .int .i64 0, .int .i64 0, .int .i64 0, .int .i64 0, .int .i64 0, .int .i64 0, .int .i64 0, .int .i64 0, .int .i64 0, .int .i64 0, .int .i64 0, .int .i64 0, .int .i64 0] 112) W0.heap.size (by omega)).trans m1
  rw [hW2]
  have gAB : W2.heap[A]? = some (.cells (bodCells a) 36 (0, 0)) ∧ W2.heap[B]? = some (.cells (bodCells b) 36 (0, 0)) := ⟨gA2, gB2⟩
  refine hK.out _ _ gAB (fun _ => ?_)
  clear hK K1 hW2 gA2 gB2
  try (simp only [Act.put, List.setIfInBounds_toArray, List.set_cons_zero, List.set_cons_succ])
  refine wpAnyH_ready (rs := [6]) (by kernel_rfl) (by simp) ?_
  refine AllReadyH.cons (o := _) rfl (fun K1 hK => ?_) AllReadyH.nil
  rw [if_pos (by rfl)]
  refine wp_store_row 112 _ _ rfl W1.heap.size #[.string ⟨a.name.toArray⟩, .int .i64 a.weight, .int .i64 a.lift, .int .i64 a.girth, .int .i64 a.step, .int .i64 a.jump, .int .i64 a.r0, .int .i64 a.r1, .int .i64 a.r2, .int .i64 a.s0, .int .i64 a.s1, .int .i64 a.s2, .int .i64 a.t0, .int .i64 a.t1, .int .i64 a.t2, .int .i64 a.effort, .int .i64 a.recover] rfl rfl 112 _ m2 (by kernel_rfl) rfl (by simp [Value.oneCell']) ?_
  refine hK.out _ _ ⟨(setRow_other _ _ _ _ (by have := HA.out; omega)).trans gAB.1, (setRow_other _ _ _ _ (by have := HB.out; omega)).trans gAB.2⟩ (fun _ => ?_)
  clear hK K1
  try (simp only [Act.put, List.setIfInBounds_toArray, List.set_cons_zero, List.set_cons_succ])
  refine wpAnyH_ready (rs := [7]) (by kernel_rfl) (by simp) ?_
  refine AllReadyH.cons (o := _) rfl (fun K1 hK => ?_) AllReadyH.nil
  rw [if_pos (by rfl)]
  refine wp_store_row 112 _ _ rfl W0.heap.size #[.string ⟨b.name.toArray⟩, .int .i64 b.weight, .int .i64 b.lift, .int .i64 b.girth, .int .i64 b.step, .int .i64 b.jump, .int .i64 b.r0, .int .i64 b.r1, .int .i64 b.r2, .int .i64 b.s0, .int .i64 b.s1, .int .i64 b.s2, .int .i64 b.t0, .int .i64 b.t1, .int .i64 b.t2, .int .i64 b.effort, .int .i64 b.recover] rfl rfl 112 _ ((setRow_other _ _ _ _ (by omega)).trans m1') (by kernel_rfl) rfl (by simp [Value.oneCell']) ?_
  refine hK.out _ _ ⟨(setRow_other _ _ _ _ (by have := HA.out; omega)).trans ((setRow_other _ _ _ _ (by have := HA.out; omega)).trans gAB.1), (setRow_other _ _ _ _ (by have := HB.out; omega)).trans ((setRow_other _ _ _ _ (by have := HB.out; omega)).trans gAB.2)⟩ (fun _ => ?_)
  clear hK K1
  try (simp only [Act.put, List.setIfInBounds_toArray, List.set_cons_zero, List.set_cons_succ])
  refine wpAnyH_done (by kernel_rfl) ?_ _
  exact HX.out _ W1.heap.size W0.heap.size _ _ _ _ _ _ _ _ _ _ _ _ _ _ _ _ _ _ _ _ _ _ _ _ _ _ _ _ _ _ _ _ _ _ _ _ _ _ _ _ _ _ (below_setRow (below_setRow b2 (by omega) _) (by omega) _) ((setRow_other _ _ _ _ (by omega)).trans (setRow_heap _ _ _ _ _ _ m2)) (setRow_heap _ _ _ _ _ _ ((setRow_other _ _ _ _ (by omega)).trans m1')) (by omega) (by omega) (by omega)
end Go.Proofs.YtggcbblikgankaaDoor
end
section
namespace Go.Proofs.YtggcbblikgankaaDoor
open Go.RowKit
end Go.Proofs.YtggcbblikgankaaDoor
end
section
namespace Go.Proofs.YtggcbblikgankaaDoor
open Go Go.RowKit Go.Deep
noncomputable def part29n3 : Code := lastPart 3 code29
noncomputable def part29n5 : Code := lastPart 5 code29
noncomputable def part29n6 : Code := lastPart 6 code29
set_option maxRecDepth 100000 in
set_option maxHeartbeats 8000000 in
theorem weak_rules (A B M1 M2 : Nat) (w3 : World) (e0 e1 e6 e7 e10 e11 e12 e13 e14 e15 e16 e17 e18 e19 e20 e21 e22 e23 e24 e25 e26 e27 e28 e29 e30 e31 e32 e33 e34 e35 e36 e37 e38 e39 e40 e41 e42 e43 e44 e45 e46 e47 : Value) (R : Ending → World → Prop) (X : Code)
  (hX : ∀ (w4 : World) (Rb : Nat) (e0 e1 e6 e7 e12 e13 e14 e15 e16 e17 e18 e19 e20 e21 e22 e23 e24 e25 e26 e27 e28 e29 e30 e31 e32 e33 e34 e35 e36 e37 e38 e39 e40 e41 e42 e43 e44 e45 e46 e47 : Value), Below w3.heap.size w3 w4 → w4.heap[Rb]? = some (.cells rulesA 118 (0, 0)) → w3.heap.size ≤ Rb → Code.wp Tryd.prog X (bodyPost Tryd.prog Tryd.f29 R) { tmps := #[e0, e1, .pointer (some ⟨A, 0, none⟩), .pointer (some ⟨B, 0, none⟩), .bool false, .int .i64 0, e6, e7, .pointer (some ⟨M1, 0, none⟩), .pointer (some ⟨M2, 0, none⟩), .func (.func 59) #[] #[.pointer (some ⟨M1, 0, none⟩), .pointer (some ⟨M2, 0, none⟩)], .pointer (some ⟨Rb, 0, none⟩), e12, e13, e14, e15, e16, e17, e18, e19, e20, e21, e22, e23, e24, e25, e26, e27, e28, e29, e30, e31, e32, e33, e34, e35, e36, e37, e38, e39, e40, e41, e42, e43, e44, e45, e46, e47], defers := [] } w4) :
  Code.wp Tryd.prog (withLast 2 part29n3 X) (bodyPost Tryd.prog Tryd.f29 R) { tmps := #[e0, e1, .pointer (some ⟨A, 0, none⟩), .pointer (some ⟨B, 0, none⟩), .bool false, .int .i64 0, e6, e7, .pointer (some ⟨M1, 0, none⟩), .pointer (some ⟨M2, 0, none⟩), e10, e11, e12, e13, e14, e15, e16, e17, e18, e19, e20, e21, e22, e23, e24, e25, e26, e27, e28, e29, e30, e31, e32, e33, e34, e35, e36, e37, e38, e39, e40, e41, e42, e43, e44, e45, e46, e47], defers := [] } w3 := by
 have HX := Lib.hid hX
 clear hX
 unfold part29n3 code29
 conv => arg 2; whnf
 simp only [withLast]
 go_wp2_with fail
 refine (rules_any w3).mono ?_
 rintro e w4 ⟨rfl, b4⟩
 have B4 := Lib.hid b4
 clear b4
 go_wp2_with (refine wpList_store_row rfl 118 _ _ rfl w4.heap.size rulesA rfl rfl 118 rulesZ (heap_alloc_new w4 _) (by kernel_rfl) rfl (by simp [rulesA, Value.oneCell']) ?_; rw [World.setRow_alloc_new])
 exact HX.out _ w4.heap.size _ _ _ _ _ _ _ _ _ _ _ _ _ _ _ _ _ _ _ _ _ _ _ _ _ _ _ _ _ _ _ _ _ _ _ _ _ _ _ _ (B4.out.alloc B4.out.size _) (heap_alloc_new w4 _) B4.out.size
theorem rule_at (i : Nat) (hi : i < 6) (w : World) (g : Nat) (h : w.heap[g]? = some (.cells rulesA 118 (0, 0))) : w.rangeAt g (4 + i * 4) (ruleK (i + 1)).toList := by
 intro j v hj
 have hlt : j < 4 := (List.getElem?_eq_some_iff.1 hj).1
 refine cell_at h (4 + i * 4 + j) ?_
 have hk : i = 0 ∨ i = 1 ∨ i = 2 ∨ i = 3 ∨ i = 4 ∨ i = 5 := by omega
 have hjj : j = 0 ∨ j = 1 ∨ j = 2 ∨ j = 3 := by omega
 rcases hk with rfl | rfl | rfl | rfl | rfl | rfl <;> rcases hjj with rfl | rfl | rfl | rfl <;> exact hj
theorem load_mid_row {P : Program} {ops : Array Oper} {rest : List Oper} {op : Oper} {a : Act} {w : World} {Q : Exit → Act → World → Prop} (hgd : op.guard = none) (ty : TypeId) (x : Operand) (ho : op.op = .load ty x)
  (b o : Nat) (hx : a.eval x = .pointer (some ⟨b, o, none⟩)) (cs : Array Value) (d : TypeDesc) (hc : w.rangeAt b o cs.toList)
  (hu : P.underlying ty = some d) (hd : d.isRow = true) (hi : (P.info? ty).map (·.size) = some cs.size)
  (h : wpList P ops Q rest (a.put op.dst (.agg cs)) w) : wpList P ops Q (op :: rest) a w :=
 wpList_load_mid hgd ty x ho b o hx cs.toList d hc hu hd hi h
structure MoAt (a b : Bod) (M1 M2 Rb : Nat) (w : World) (j : Nat) (wr : World) : Prop where
 below : Below w.heap.size w wr
 p : wr.heap[M1]? = some (.cells (bodCells (mostF b a (upto j))) 112 (0, 0))
 q : wr.heap[M2]? = some (.cells (bodCells b) 112 (0, 0))
 r : wr.heap[Rb]? = some (.cells rulesA 118 (0, 0))
end Go.Proofs.YtggcbblikgankaaDoor
end
section
namespace Go.Proofs.YtggcbblikgankaaDoor
open Go Go.RowKit Go.Deep
theorem eq_three2 (d : Nat) (x y z x' y' z' : Int) (w : World) : (Op.equalIn (d + 1 + 1) 34 (.agg #[.int .i64 x, .int .i64 y, .int .i64 z]) (.agg #[.int .i64 x', .int .i64 y', .int .i64 z'])).run Tryd.prog w = .ok (x == x' && y == y' && z == z') w := by
 have u3 := Tryd.underlying3
 have a3 := Tryd.isAgg3
 have z3 := Tryd.sizeOf3
 rw [Op.equalIn]
 simp only [Sem.run_bind, run_underlying Tryd.underlying34, Result.andThen_ok]
 go_simp
 rw [show List.range' 0 3 = [0, 1, 2] from rfl]
 simp only [List.forIn_cons, List.forIn_nil]
 go_simp
 by_cases h1 : x = x' <;> by_cases h2 : y = y' <;> by_cases h3 : z = z' <;> simp [h1, h2, h3]
theorem eq_body2 (d : Nat) (a b : Bod) : ∃ r : Bool, (∀ w, (Op.equalIn (d + 1 + 1 + 1) 36 (bodV a) (bodV b)).run Tryd.prog w = .ok r w) ∧ (r = true → a = b) := by
 have u3 := Tryd.underlying3
 have a3 := Tryd.isAgg3
 have z3 := Tryd.sizeOf3
 have a9 := Tryd.isAgg9
 have z9 := Tryd.sizeOf9
 have u9 := Tryd.underlying9
 have a34 := Tryd.isAgg34
 have z34 := Tryd.sizeOf34
 have hS : Tryd.prog.underlying 36 = some (.struct (Tryd.prog.fieldsOf 36)) := by kernel_rfl
 have hp : Tryd.prog.stoodInHeld 36 = false := by kernel_rfl
 have e3 := fun x y z x' y' z' w => eq_three2 d x y z x' y' z' w
 unfold bodV
 by_cases h : a = b
 ·subst h
  refine ⟨true, fun w => ?_, fun _ => rfl⟩
  rw [run_equalIn_agg w (d + 1 + 1) 36 _ _ hS hp]
  simp only [Program.fieldsOf, Tryd.underlying36]
  go_simp
 ·refine ⟨false, fun w => ?_, fun h => by cases h⟩
  rw [run_equalIn_agg w (d + 1 + 1) 36 _ _ hS hp]
  simp only [Program.fieldsOf, Tryd.underlying36]
  go_simp
  intro h1 h2 h3 h4 h5 h6 h7 h8 h9 h10 h11 h12 h13 h14 h15 h16 h17
  refine h ?_
  cases a
  cases b
  simp only at h1 h2 h3 h4 h5 h6 h7 h8 h9 h10 h11 h12 h13 h14 h15 h16 h17
  subst h1 h2 h3 h4 h5 h6 h7 h8 h9 h10 h11 h12 h13 h14 h15 h16 h17
  rfl
theorem eq_con2 (x y : Bod) : ∃ r : Bool, (∀ w, (binOp .eql 112 (.agg (bodCells x)) (.agg (bodCells y))).run Tryd.prog w = .ok (.bool r) w) ∧ (r = true → x = y) := by
 have hS : Tryd.prog.underlying 112 = some (.struct (Tryd.prog.fieldsOf 112)) := by kernel_rfl
 have hp : Tryd.prog.stoodInHeld 112 = false := by kernel_rfl
 have a36 := Tryd.isAgg36
 have z36 := Tryd.sizeOf36
 obtain ⟨r, e3, hr⟩ := eq_body2 9996 x y
 refine ⟨r, fun w => ?_, hr⟩
 unfold bodV at e3
 unfold bodCells
 rw [run_eql_struct, show (10000 : Nat) = 9999 + 1 from rfl, run_equalIn_agg w 9999 112 _ _ hS hp]
 simp only [Program.fieldsOf, Tryd.underlying112]
 go_simp
 cases r <;> rfl
set_option maxRecDepth 100000 in
set_option maxHeartbeats 8000000 in
theorem weakg_most (a b : Bod) (A B M1 M2 Rb : Nat) (w w3 : World) (hM1 : w.heap.size ≤ M1) (h12 : M1 ≠ M2) (h13 : M1 ≠ Rb) (hA : MoAt a b M1 M2 Rb w 0 w3) (e0 e1 e6 e7 e12 e13 e14 e15 e16 e17 e18 e19 e20 e21 e22 e23 e24 e25 e26 e27 e28 e29 e30 e31 e32 e33 e34 e35 e36 e37 e38 e39 e40 e41 e42 e43 e44 e45 e46 e47 : Value) (X : Code)
  (hX : ∀ (w4 : World) (e0 e1 e6 e7 e12 e13 e14 e15 e16 e17 e18 e19 e20 e21 e22 e23 e24 e25 e26 e27 e28 e29 e30 e31 e32 e33 e34 e35 e36 e37 e38 e39 e40 e41 e42 e43 e44 e45 e46 e47 : Value), MoAt a b M1 M2 Rb w 6 w4 → (LeB (mostF b a (upto 6)) b → LeB a b) → Code.wp Tryd.prog X (bodyPost Tryd.prog Tryd.f29 (WkG a b w)) { tmps := #[e0, e1, .pointer (some ⟨A, 0, none⟩), .pointer (some ⟨B, 0, none⟩), .bool false, .int .i64 0, e6, e7, .pointer (some ⟨M1, 0, none⟩), .pointer (some ⟨M2, 0, none⟩), .func (.func 59) #[] #[.pointer (some ⟨M1, 0, none⟩), .pointer (some ⟨M2, 0, none⟩)], .pointer (some ⟨Rb, 0, none⟩), e12, e13, e14, e15, e16, e17, e18, e19, e20, e21, e22, e23, e24, e25, e26, e27, e28, e29, e30, e31, e32, e33, e34, e35, e36, e37, e38, e39, e40, e41, e42, e43, e44, e45, e46, e47], defers := [] } w4) :
  Code.wp Tryd.prog (withLast 1 part29n5 X) (bodyPost Tryd.prog Tryd.f29 (WkG a b w)) { tmps := #[e0, e1, .pointer (some ⟨A, 0, none⟩), .pointer (some ⟨B, 0, none⟩), .bool false, .int .i64 0, e6, e7, .pointer (some ⟨M1, 0, none⟩), .pointer (some ⟨M2, 0, none⟩), .func (.func 59) #[] #[.pointer (some ⟨M1, 0, none⟩), .pointer (some ⟨M2, 0, none⟩)], .pointer (some ⟨Rb, 0, none⟩), e12, e13, e14, e15, e16, e17, e18, e19, e20, e21, e22, e23, e24, e25, e26, e27, e28, e29, e30, e31, e32, e33, e34, e35, e36, e37, e38, e39, e40, e41, e42, e43, e44, e45, e46, e47], defers := [] } w3 := by
 have HX := Lib.hid hX; have HA := Lib.hid hA; have HM1 := Lib.hid hM1; have H12 := Lib.hid h12; have H13 := Lib.hid h13
 clear hX hA hM1 h12 h13
 unfold part29n5 code29
 conv => arg 2; whnf
 simp only [withLast]
 go_wp2_with fail
 go_loopw [4, 5, 36] (fun v4 v5 iv wr => v4 = .bool false ∧ v5 = .int .i64 0 ∧ ∃ i : Nat, i ≤ 6 ∧ iv = .int .i64 i ∧ Hid (MoAt a b M1 M2 Rb w i wr) ∧ Hid (LeB (mostF b a (upto i)) b → LeB a b)) (fun _ _ iv _ => 6 - (intOf iv).toNat)
 case atStart => exact ⟨rfl, rfl, 0, Nat.zero_le _, rfl, HA, Lib.hid fun h => h⟩
 case round =>
  clear HA
  obtain ⟨rfl, rfl, i, hin, rfl, hM, hP⟩ := hrel
  by_cases hi : i < 6
  ·have hi' : (i : Int) < 6 := by omega
   have hat := rule_at i hi wr Rb hM.out.r
   have HAT := Lib.hid hat
   clear hat
   go_wp2_with (first | (refine load_mid_row rfl 117 _ rfl Rb (4 + i * 4) (by simp [Act.eval]) (ruleK (i + 1)) _ HAT.out Tryd.underlying117 rfl (by kernel_rfl) ?_; simp only [Act.put, List.setIfInBounds_toArray, List.set_cons_zero, List.set_cons_succ]) | (refine wpList_store_row rfl 117 _ _ rfl wr.heap.size (ruleK (i + 1)) rfl rfl 117 _ (heap_alloc_new wr _) (by kernel_rfl) rfl (by simp [ruleK, Value.oneCell']) ?_; rw [World.setRow_alloc_new]) | (refine wpList_load_row rfl 117 _ rfl wr.heap.size rfl 117 (ruleK (i + 1)) (0, 0) _ (heap_alloc_new wr _) Tryd.underlying117 rfl (by kernel_rfl) ?_; simp only [Act.put, List.setIfInBounds_toArray, List.set_cons_zero, List.set_cons_succ]))
   have hba : Below wr.heap.size wr (wr.alloc (.cells (ruleK (i + 1)) 117)) := (Below.refl _ wr).alloc (Nat.le_refl _) _
   have hl1 := (Array.getElem?_eq_some_iff.1 hM.out.p).1
   have hl2 := (Array.getElem?_eq_some_iff.1 hM.out.q).1
   have hl3 := (Array.getElem?_eq_some_iff.1 hM.out.r).1
   have hcall := mostg_any (mostF b a (upto i)) b (i + 1) ⟨by omega, by omega⟩ M1 M2 w.heap.size HM1.out H12.out (wr.alloc (.cells (ruleK (i + 1)) 117)) (Nat.le_trans hM.out.below.size (by simp)) ((Below.heap_alloc wr _ _ hl1).trans hM.out.p) ((Below.heap_alloc wr _ _ hl2).trans hM.out.q)
   have g3 := (Below.heap_alloc wr (.cells (ruleK (i + 1)) 117) _ hl3).trans hM.out.r
   have g2 := (Below.heap_alloc wr (.cells (ruleK (i + 1)) 117) _ hl2).trans hM.out.q
   have HC := Lib.hid hcall; have G2 := Lib.hid g2; have G3 := Lib.hid g3; have BA := Lib.hid (hM.out.below.alloc hM.out.below.size (.cells (ruleK (i + 1)) 117))
   clear hba hl1 hl2 hl3 hcall g2 g3
   refine HC.out.mono ?_
   rintro e W1 ⟨hb, ⟨rfl, hp, hq, hrest⟩ | rfl⟩
   ·have HM1' := Lib.hid (show MoAt a b M1 M2 Rb w (i + 1) W1 from ⟨BA.out.trans hb, by rw [upto_succ]; exact hp, hrest M2 _ (Ne.symm H12.out) G2.out, hrest Rb _ (Ne.symm H13.out) G3.out⟩)
    have HP2 : Hid (LeB (mostF b a (upto (i + 1))) b → LeB a b) := Lib.hid fun h => hP.out (hq (by rw [upto_succ] at h; exact h))
    clear hp hb hrest HC G2 G3 BA HAT hM hq hP
    go_wp2_with fail
    go_roundw
    case rel => exact ⟨rfl, rfl, i + 1, by omega, by go_num, HM1', HP2⟩
    case measure => simp [intOf]; omega
   ·have HBW := Lib.hid (BA.out.trans hb)
    clear hb HC G2 G3 BA HAT hM hP
    go_wp2_with fail
    go_ret2
    exact ⟨⟨_, _, rfl, fun h => by cases h⟩, HBW.out⟩
  ·obtain rfl : i = 6 := by omega
   go_wp2_with fail
   exact HX.out _ _ _ _ _ _ _ _ _ _ _ _ _ _ _ _ _ _ _ _ _ _ _ _ _ _ _ _ _ _ _ _ _ _ _ _ _ _ _ _ _ hM.out hP.out
set_option maxRecDepth 100000 in
set_option maxHeartbeats 8000000 in
theorem weakg_end (a p b : Bod) (hle : p = b → LeB a b ∧ bodB a = true ∧ bodB b = true) (A B M1 M2 : Nat) (w w3 : World) (hb : Below w.heap.size w w3) (g1 : w3.heap[M1]? = some (.cells (bodCells p) 112 (0, 0))) (g2 : w3.heap[M2]? = some (.cells (bodCells b) 112 (0, 0))) (e0 e1 e6 e7 e10 e11 e12 e13 e14 e15 e16 e17 e18 e19 e20 e21 e22 e23 e24 e25 e26 e27 e28 e29 e30 e31 e32 e33 e34 e35 e36 e37 e38 e39 e40 e41 e42 e43 e44 e45 e46 e47 : Value) :
  Code.wp Tryd.prog part29n6 (bodyPost Tryd.prog Tryd.f29 (WkG a b w)) { tmps := #[e0, e1, .pointer (some ⟨A, 0, none⟩), .pointer (some ⟨B, 0, none⟩), .bool false, .int .i64 0, e6, e7, .pointer (some ⟨M1, 0, none⟩), .pointer (some ⟨M2, 0, none⟩), e10, e11, e12, e13, e14, e15, e16, e17, e18, e19, e20, e21, e22, e23, e24, e25, e26, e27, e28, e29, e30, e31, e32, e33, e34, e35, e36, e37, e38, e39, e40, e41, e42, e43, e44, e45, e46, e47], defers := [] } w3 := by
 obtain ⟨r, he, hr⟩ := eq_con2 p b
 have HR := Lib.hid (fun h => hle (hr h))
 have HB := Lib.hid hb; have G1 := Lib.hid g1; have G2 := Lib.hid g2
 clear hb g1 g2 hle hr
 unfold part29n6 code29
 conv => arg 2; whnf
 go_wp2_with (first | (refine wpList_load_row rfl 112 _ rfl M1 rfl 112 (bodCells p) (0, 0) _ G1.out Tryd.underlying112 rfl (by kernel_rfl) ?_; simp only [Act.put, List.setIfInBounds_toArray, List.set_cons_zero, List.set_cons_succ]) | (refine wpList_load_row rfl 112 _ rfl M2 rfl 112 (bodCells b) (0, 0) _ G2.out Tryd.underlying112 rfl (by kernel_rfl) ?_; simp only [Act.put, List.setIfInBounds_toArray, List.set_cons_zero, List.set_cons_succ]))
 go_ret2
 exact ⟨⟨_, _, rfl, fun h _ => HR.out h⟩, HB.out⟩
set_option maxRecDepth 100000 in
set_option maxHeartbeats 8000000 in
theorem weakerg_any (a b : Bod) (han : a.name.length ≤ maxLen) (hbn : b.name.length ≤ maxLen) (w : World) :
  Calls Tryd.prog 29 #[bodV a, bodV b] w (WkG a b w) := by
 go_enter Tryd.func29, Tryd.ntmps29
 change Code.wp Tryd.prog (withLast 2 code29 (withLast 1 part29n2 (withLast 2 part29n3 (withLast 1 part29n5 part29n6)))) _ _ _
 refine weakg_head a b han hbn w _ ?_
 intro w4 _ _ _ _ _ _ _ _ _ _ _ _ _ _ _ _ _ _ _ _ _ _ _ _ _ _ _ _ _ _ _ _ _ _ _ _ _ _ _ _ _ _ _ _ b4 gA gB ha hb
 refine weak_copies a b _ _ w4 gA gB _ _ _ _ _ _ _ _ _ _ _ _ _ _ _ _ _ _ _ _ _ _ _ _ _ _ _ _ _ _ _ _ _ _ _ _ _ _ _ _ _ _ _ _ _ _ ?_
 intro w5 M1 M2 _ _ _ _ _ _ _ _ _ _ _ _ _ _ _ _ _ _ _ _ _ _ _ _ _ _ _ _ _ _ _ _ _ _ _ _ _ _ _ _ _ _ b5 m1 m2 h1 h2 h12
 refine weak_rules _ _ M1 M2 w5 _ _ _ _ _ _ _ _ _ _ _ _ _ _ _ _ _ _ _ _ _ _ _ _ _ _ _ _ _ _ _ _ _ _ _ _ _ _ _ _ _ _ _ _ ?_
 intro w6 Rb _ _ _ _ _ _ _ _ _ _ _ _ _ _ _ _ _ _ _ _ _ _ _ _ _ _ _ _ _ _ _ _ _ _ _ _ _ _ _ _ b6 hR h3
 have hl1 := (Array.getElem?_eq_some_iff.1 m1).1
 have hl2 := (Array.getElem?_eq_some_iff.1 m2).1
 have B5 := b4.trans (b5.mono b4.size)
 have B6 := B5.trans (b6.mono B5.size)
 refine weakg_most a b _ _ M1 M2 Rb w w6 (Nat.le_trans b4.size h1) h12 (by omega) ⟨B6, (b6.block _ hl1).trans m1, (b6.block _ hl2).trans m2, hR⟩ _ _ _ _ _ _ _ _ _ _ _ _ _ _ _ _ _ _ _ _ _ _ _ _ _ _ _ _ _ _ _ _ _ _ _ _ _ _ _ _ _ ?_
 intro w7 _ _ _ _ _ _ _ _ _ _ _ _ _ _ _ _ _ _ _ _ _ _ _ _ _ _ _ _ _ _ _ _ _ _ _ _ _ _ _ _ hM hP
 exact weakg_end a _ b (fun h => ⟨hP (by rw [h]; exact LeB.refl b), ha, hb⟩) _ _ M1 M2 w w7 hM.below hM.p hM.q _ _ _ _ _ _ _ _ _ _ _ _ _ _ _ _ _ _ _ _ _ _ _ _ _ _ _ _ _ _ _ _ _ _ _ _ _ _ _ _ _ _
end Go.Proofs.YtggcbblikgankaaDoor
end
