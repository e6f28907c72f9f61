/- Contracts and plain laws on the way to the statement: part 22. -/
import Derived.Test.YtggcbblikgankaaGreatDoorZ21
import Derived.Test.YtggcbblikgankaaGreatDoorZ19
import Derived.Deep.WholeRow
import Derived.Laws.ResultCell
import Derived.Test.YtggcbblikgankaaGreatDoorZ3
set_option linter.unusedVariables false
set_option linter.unusedSimpArgs false
set_option maxRecDepth 100000
set_option maxHeartbeats 16000000
namespace Go.Proofs.YtggcbblikgankaaGreatDoor
open Go.Value (int)
open Go.IntKind (i64)
section
open Go.RowKit
theorem I7 (lo hi : Int) (ao : Option Addr) (c : Nat) (xs : List Int) (w : World) (hl : xs.length ≤ 1000000)
  (hx : xs = [] ∨ ∃ b o, ao = some ⟨b, o, none⟩ ∧ ∀ i x, xs[i]? = some x → w.cell? ⟨b, o + i, none⟩ = some (int i64 x)) :
  Calls Tryz.prog 65 #[int i64 lo, int i64 hi, .slice ao xs.length c] w fun e w' => e = .returned (.bool (xs.all fun x => inB x lo hi)) ∧ w = w' := by
 have HX := qh hx; clear hx
 generalize hn : xs.length = n at *
 have HN := qh hn; clear hn
 go_enter Tryz.func65, Tryz.ntmps65
 go_wp2_with fail
 go_loopw [11] (fun iv wr => ∃ k : Nat, k ≤ n ∧ iv = int i64 k ∧ wr = w ∧ Hid (xs.all (fun x => inB x lo hi) = (xs.drop k).all fun x => inB x lo hi)) (fun iv _ => n - (intOf iv).toNat)
 case atStart => exact ⟨0, Nat.zero_le _, rfl, rfl, qh rfl⟩
 case round =>
  obtain ⟨k, hk, rfl, rfl, htm⟩ := hrel
  by_cases hkn : k < n
  ·obtain ⟨t, ht⟩ : ∃ t, xs[k]? = some t := ⟨_, qg (by rw [HN.out]; exact hkn)⟩
   obtain ⟨b, o, hao, hc⟩ : ∃ b o, ao = some ⟨b, o, none⟩ ∧ ∀ i x, xs[i]? = some x → wr.cell? ⟨b, o + i, none⟩ = some (int i64 x) := by
    rcases HX.out with h | h
    ·rw [h] at ht; simp at ht
    ·exact h
   subst hao
   have c0 := hc k t ht
   have HTt := qh ht; clear ht hc
   have hkn' : (k : Int) < (n : Int) := by omega
   by_cases h1 : t < lo
   ·have H1 := qh h1
    go_wp2_with fail
    go_ret
    exact ⟨Aa (by rw [htm.out, Ab HTt.out]; have := H1.out; simp [Ah.2 (Or.inl this)]), rfl⟩
   by_cases h2 : hi < t
   ·have H2 := qh h2
    go_wp2_with fail
    go_ret
    exact ⟨Aa (by rw [htm.out, Ab HTt.out]; have := H2.out; simp [Ah.2 (Or.inr this)]), rfl⟩
   have H1 := qh h1; have H2 := qh h2
   go_wp2_with fail
   go_roundw
   case rel => exact ⟨k + 1, by omega, by go_num, trivial, qh (by rw [htm.out, Ab HTt.out]; have h1 := H1.out; have h2 := H2.out; simp [A4.2 (show lo ≤ t ∧ t ≤ hi by omega)])⟩
   case measure => simp [intOf]; omega
  ·obtain rfl : n = k := by omega
   have hin : ¬ (n : Int) < (n : Int) := by omega
   have htm' := htm.out
   rw [List.drop_of_length_le (by rw [HN.out]; exact qn _)] at htm'
   have HM := qh htm'; clear htm' htm
   go_wp2_with fail
   go_ret
   exact ⟨Aa HM.out.symm, rfl⟩
theorem QO (h : Nat) (j : Int) (hj1 : 0 ≤ j) (hj2 : j < 3) (w : World) : Calls Tryz.prog 90 #[.pointer (some ⟨h, 0, none⟩), int i64 j] w fun e w' => e = .returned (.pointer (some ⟨h, 12 + j.toNat, none⟩)) ∧ w = w' := by
 go_enter Tryz.func90, Tryz.ntmps90
 go_wp2_with fail
 go_ret
 exact ⟨rfl, rfl⟩
theorem M8 (h : Nat) (j : Int) (hj1 : 0 ≤ j) (hj2 : j < 3) (w : World) : Calls Tryz.prog 91 #[.pointer (some ⟨h, 0, none⟩), int i64 j] w fun e w' => e = .returned (.pointer (some ⟨h, 9 + j.toNat, none⟩)) ∧ w = w' := by
 go_enter Tryz.func91, Tryz.ntmps91
 go_wp2_with fail
 go_ret
 exact ⟨rfl, rfl⟩
theorem Pu (h : Nat) (j : Int) (w : World) : Calls Tryz.prog 92 #[.pointer (some ⟨h, 0, none⟩), int i64 j] w fun e w' => e = .returned (.pointer (some ⟨h, 4, none⟩)) ∧ w = w' := by
 go_enter Tryz.func92, Tryz.ntmps92
 go_wp2_with fail
 go_ret
 exact ⟨rfl, rfl⟩
theorem OC (h : Nat) (j : Int) (w : World) : Calls Tryz.prog 93 #[.pointer (some ⟨h, 0, none⟩), int i64 j] w fun e w' => e = .returned (.pointer (some ⟨h, 5, none⟩)) ∧ w = w' := by
 go_enter Tryz.func93, Tryz.ntmps93
 go_wp2_with fail
 go_ret
 exact ⟨rfl, rfl⟩
theorem Oq (h : Nat) (j : Int) (w : World) : Calls Tryz.prog 94 #[.pointer (some ⟨h, 0, none⟩), int i64 j] w fun e w' => e = .returned (.pointer (some ⟨h, 2, none⟩)) ∧ w = w' := by
 go_enter Tryz.func94, Tryz.ntmps94
 go_wp2_with fail
 go_ret
 exact ⟨rfl, rfl⟩
theorem Lj (h : Nat) (j : Int) (w : World) : Calls Tryz.prog 95 #[.pointer (some ⟨h, 0, none⟩), int i64 j] w fun e w' => e = .returned (.pointer (some ⟨h, 15, none⟩)) ∧ w = w' := by
 go_enter Tryz.func95, Tryz.ntmps95
 go_wp2_with fail
 go_ret
 exact ⟨rfl, rfl⟩
def AJ : Array Value := #[.nilFunc, int i64 0, int i64 0, int i64 0, .func (.func 90) #[] #[], int i64 1, int i64 3, int i64 2, .func (.func 91) #[] #[], int i64 1, int i64 1048576, int i64 2, .func (.func 92) #[] #[], int i64 1, int i64 16, int i64 0, .func (.func 93) #[] #[], int i64 0, int i64 16, int i64 0, .func (.func 94) #[] #[], int i64 0, int i64 500, int i64 0, .func (.func 95) #[] #[], int i64 0, int i64 1048576, int i64 0]
def Ex : Array Value := #[.nilFunc, int i64 0, int i64 0, int i64 0, .nilFunc, int i64 0, int i64 0, int i64 0, .nilFunc, int i64 0, int i64 0, int i64 0, .nilFunc, int i64 0, int i64 0, int i64 0, .nilFunc, int i64 0, int i64 0, int i64 0, .nilFunc, int i64 0, int i64 0, int i64 0, .nilFunc, int i64 0, int i64 0, int i64 0]
theorem Pc (w : World) : Calls Tryz.prog 66 #[] w fun e w' => e = .returned (.agg AJ) ∧ Below w.heap.size w w' := by
 have hbw : Below w.heap.size w (w.alloc (.cells AJ 120)) := (Below.refl _ w).alloc (qn _) _
 have HG := qh (heap_alloc_new w (.cells AJ 120))
 have HB := qh hbw; clear hbw
 have HZ := qh (heap_alloc_new w (.cells Ex 120))
 have hset : (w.alloc (.cells Ex 120)).setRow w.heap.size AJ = w.alloc (.cells AJ 120) := World.setRow_alloc_new _ _ _ _
 have HSET := qh hset; clear hset
 go_enter Tryz.func66, Tryz.ntmps66
 iterate 32 go_step
 refine wpList_store_row rfl 120 _ _ rfl w.heap.size AJ rfl rfl 120 Ex HZ.out (by kernel_rfl) rfl (by simp [AJ, Value.oneCell']) ?_
 have hs := HSET.out
 unfold Ex at hs
 rw [hs]
 clear hs
 go_wp2_with fail
 (try simp only [Exit.inBlock, Exit.then])
 refine bodyPost_ret (results_cell_row rfl _ _ w.heap.size 120 AJ (0, 0) _ rfl HG.out Tryz.underlying120 rfl (by kernel_rfl)) rfl ?_
 exact ⟨rfl, HB.out⟩
end
section
open Go.RowKit
def Dk (r v : Int) : Int := if r = 0 then 29 * v else 20 * v
theorem Hd (v r : Int) (a : Addr) (hv : -1000 ≤ v ∧ v ≤ 1000) (w : World) (hr : w.cell? a = some (int i64 r)) :
  Calls Tryz.prog 154 #[int i64 v, .pointer (some a)] w fun e w' => e = .returned (int i64 (Dk r v)) ∧ w = w' := by
 have h1 : IntKind.i64.wrap (29 * v) = 29 * v := IntWalk.i64_in _ (by omega)
 have h2 : IntKind.i64.wrap (20 * v) = 20 * v := IntWalk.i64_in _ (by omega)
 by_cases h : r = 0
 ·have f : (r == 0) = true := by simpa using h
  have H := qh h; clear h
  go_enter Tryz.func154, Tryz.ntmps154
  go_wp2_with fail
  go_ret
  exact ⟨Af (by unfold Dk; rw [if_pos H.out]), rfl⟩
 ·have f : (r == 0) = false := by simpa using h
  have H := qh h; clear h
  go_enter Tryz.func154, Tryz.ntmps154
  go_wp2_with fail
  go_ret
  exact ⟨Af (by unfold Dk; rw [if_neg H.out]), rfl⟩
def CE (d l : Int) : Bool := inB d 0 8 && inB l 1 3
def CP (d l : Int) : Int := if d = 0 then 0 else Dk (l - 2) (flatTab[(d - 1).toNat]?.getD (0, 0)).1
def CN (d l : Int) : Int := if d = 0 then 0 else Dk (l - 2) (flatTab[(d - 1).toNat]?.getD (0, 0)).2
def CL (d l : Int) : Int := if d = 0 then 841 * (l - 2) else 609 * (l - 2)
def FG (d l : Int) : Value := if CE d l then .tuple #[.agg #[int i64 (CP d l), int i64 (CN d l), int i64 (CL d l)], int i64 0] else .tuple #[.agg #[int i64 0, int i64 0, int i64 0], int i64 150]
theorem FO (tmps : Array Value) (w : World) (g : Nat) (x y z n : Value) (h4 : tmps.getD 4 undef = .pointer (some ⟨g, 0, none⟩)) (hg : w.heap[g]? = some (.cells #[x, y, z] 176 (0, 0))) (h5 : tmps.getD 5 undef = n) :
  (results Tryz.f140 tmps).run Tryz.prog w = .ok (.tuple #[.agg #[x, y, z], n]) w := by
 rw [results_cell_tmp rfl, h4, h5]
 simp [asAddr, run_loadVar_row w g 176 176 #[x, y, z] (0, 0) _ hg Tryz.underlying176 rfl (by kernel_rfl), Result.andThen]
theorem Sz (d l : Int) (h : CE d l = false) : FG d l = .tuple #[.agg #[int i64 0, int i64 0, int i64 0], int i64 150] := by unfold FG; rw [h]; rfl
theorem OO (d l : Int) (h : CE d l = false) (w : World) : Calls Tryz.prog 140 #[int i64 d, int i64 l] w fun e w' => e = .returned (FG d l) ∧ Below w.heap.size w w' := by
 rw [Sz d l h]
 have hc : d < 0 ∨ (¬ d < 0 ∧ 8 < d) ∨ (¬ d < 0 ∧ ¬ 8 < d ∧ l < 1) ∨ (¬ d < 0 ∧ ¬ 8 < d ∧ ¬ l < 1 ∧ 3 < l) := by
  unfold CE at h
  rw [Bool.and_eq_false_iff, Ah, Ah] at h; omega
 clear h
 have hb : Below w.heap.size w (w.alloc (.cells #[int i64 0, int i64 0, int i64 0] 176)) := (Below.refl _ _).alloc (qn _) _
 have HG := qh (heap_alloc_new w (.cells #[int i64 0, int i64 0, int i64 0] 176))
 have HB := qh hb; clear hb
 rcases hc with h | ⟨h1, h⟩ | ⟨h1, h2, h⟩ | ⟨h1, h2, h3, h⟩
 all_goals
  go_enter Tryz.func140, Tryz.ntmps140
  go_wp2_with fail
  refine bodyPost_ret (FO _ _ w.heap.size _ _ _ _ rfl HG.out rfl) rfl ⟨rfl, HB.out⟩
theorem Kv (l : Int) (h1 : 1 ≤ l) (h2 : l ≤ 3) (w : World) : Calls Tryz.prog 140 #[int i64 0, int i64 l] w fun e w' => e = .returned (FG 0 l) ∧ Below w.heap.size w w' := by
 have hv : FG 0 l = .tuple #[.agg #[int i64 0, int i64 0, int i64 (841 * (l - 2))], int i64 0] := by
  unfold FG CE; rw [A4.2 ⟨h1, h2⟩]; rfl
 rw [hv]
 clear hv
 have q1 : ¬ l < 1 := by omega
 have q2 : ¬ 3 < l := by omega
 have e1 : IntKind.i64.wrap (l - 2) = l - 2 := IntWalk.i64_in _ (by omega)
 have e2 : IntKind.i64.wrap (841 * (l - 2)) = 841 * (l - 2) := IntWalk.i64_in _ (by omega)
 go_enter Tryz.func140, Tryz.ntmps140
 go_wp2_with fail
 have hbl := Bn w (.cells #[int i64 0, int i64 0, int i64 (841 * (l - 2))] 176) (.cells #[int i64 (l - 2)] 3)
 refine bodyPost_ret (FO _ _ w.heap.size _ _ _ _ rfl hbl.1 rfl) rfl ⟨rfl, hbl.2.2.2⟩
theorem Nt {k : Nat} {x y : Int} (h : flatTab[k]? = some (x, y)) : -1000 ≤ x ∧ x ≤ 1000 ∧ -1000 ≤ y ∧ y ≤ 1000 := by
 have hm := List.mem_of_getElem? h
 have : ∀ p ∈ flatTab, -1000 ≤ p.1 ∧ p.1 ≤ 1000 ∧ -1000 ≤ p.2 ∧ p.2 ≤ 1000 := by decide
 exact this (x, y) hm
theorem L4 (k : Nat) (l x y : Int) (hk : k < 8) (hf : flatTab[k]? = some (x, y)) (h1 : 1 ≤ l) (h2 : l ≤ 3) (w : World) (hE : Env w) (hw : 0 < w.heap.size) : Calls Tryz.prog 140 #[int i64 ((k : Int) + 1), int i64 l] w fun e w' => e = .returned (.tuple #[.agg #[int i64 (Dk (l - 2) x), int i64 (Dk (l - 2) y), int i64 (609 * (l - 2))], int i64 0]) ∧ Below w.heap.size w w' := by
 have q1 : ¬ l < 1 := by omega
 have q2 : ¬ 3 < l := by omega
 have q3 : ¬ (k : Int) + 1 < 0 := by omega
 have q4 : ¬ 8 < (k : Int) + 1 := by omega
 have q5 : ((k : Int) + 1 == 0) = false := by simp; omega
 have e1 : IntKind.i64.wrap (l - 2) = l - 2 := IntWalk.i64_in _ (by omega)
 have e3 : IntKind.i64.wrap ((k : Int) + 1 - 1) = k := by rw [show (k : Int) + 1 - 1 = k by omega]; exact IntWalk.i64_in _ (by omega)
 have hmf : ∀ (fn : Fn) (first cap : Array Value) (w : World), (Instr.makeFunc fn first cap).run Tryz.prog w = .ok (.func fn first cap) w := fun _ _ _ _ => rfl
 obtain ⟨f0, f1⟩ := hE.flat k (x, y) hf
 have hw1 : 1 < w.heap.size := AF f0
 have hx : -1000 ≤ x ∧ x ≤ 1000 ∧ -1000 ≤ y ∧ y ≤ 1000 := Nt hf
 have HX := qh hx; clear hx
 have e4 : IntKind.i64.wrap (609 * (l - 2)) = 609 * (l - 2) := IntWalk.i64_in _ (by omega)
 have hk1 : (0 : Int) ≤ k := by omega
 have hk2 : (k : Int) < 8 := by omega
 have HF := qh hf
 clear hE hf
 go_enter Tryz.func140, Tryz.ntmps140
 go_wp2_with fail
 refine Cf (fun w2 => w2 = (((w.alloc (.cells #[int i64 0, int i64 0, int i64 0] 176)).alloc (.cells #[int i64 (l - 2)] 3)).alloc (.cells #[int i64 x, int i64 y] 199)).drew) 11 (by kernel_rfl) (by kernel_rfl) rfl ?_
 intro w2 hS
 subst hS
 simp only [List.take_succ_cons, List.take_zero, List.drop_succ_cons, List.drop_zero]
 repeat still_step
 still_call ((Hd x (l - 2) _ (by have := HX.out; omega) _ (by go_simp)).mono fun _ _ ⟨e1, e2⟩ => ⟨e1, e2.symm⟩)
 repeat still_step
 still_call ((Hd y (l - 2) _ (by have := HX.out; omega) _ (by go_simp)).mono fun _ _ ⟨e1, e2⟩ => ⟨e1, e2.symm⟩)
 repeat still_step
 refine wpStill_nil ?_
 go_wp2_with fail
 have hbl := Do w (.cells #[int i64 (Dk (l - 2) x), int i64 (Dk (l - 2) y), int i64 (609 * (l - 2))] 176) (.cells #[int i64 (l - 2)] 3) (.cells #[int i64 x, int i64 y] 199)
 refine bodyPost_ret (FO _ _ w.heap.size _ _ _ _ rfl hbl.1 rfl) rfl ⟨rfl, hbl.2.2.2.2.drew⟩
theorem H9 (d l : Int) (w : World) (hE : Env w) (hw : 0 < w.heap.size) : Calls Tryz.prog 140 #[int i64 d, int i64 l] w fun e w' => e = .returned (FG d l) ∧ Below w.heap.size w w' := by
 cases hv : CE d l with
 | false => exact OO d l hv w
 | true =>
  have h := hv
  unfold CE at h
  rw [Bool.and_eq_true, A4, A4] at h
  obtain ⟨⟨h1, h2⟩, h3, h4⟩ := h
  by_cases h0 : d = 0
  ·subst h0; exact Kv l h3 h4 w
  ·obtain ⟨k, hk⟩ : ∃ k : Nat, d = (k : Int) + 1 := ⟨(d - 1).toNat, by omega⟩
   have hk8 : k < 8 := by omega
   subst hk
   have hf : flatTab[k]? = some (flatTab[k]?.getD (0, 0)) := by
    rw [qg (by show k < 8; exact hk8)]; rfl
   have he : FG ((k : Int) + 1) l = .tuple #[.agg #[int i64 (Dk (l - 2) (flatTab[k]?.getD (0, 0)).1), int i64 (Dk (l - 2) (flatTab[k]?.getD (0, 0)).2), int i64 (609 * (l - 2))], int i64 0] := by
    unfold FG CP CN CL
    rw [hv, if_neg h0, if_neg h0, if_neg h0, show (((k : Int) + 1 - 1).toNat) = k by omega]; rfl
   rw [he]
   exact L4 k l _ _ hk8 hf h3 h4 w hE hw
end
end Go.Proofs.YtggcbblikgankaaGreatDoor
