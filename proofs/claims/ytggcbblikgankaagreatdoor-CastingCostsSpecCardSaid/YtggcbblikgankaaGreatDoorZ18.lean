/- Contracts and plain laws on the way to the statement: part 18. -/
import Derived.Test.YtggcbblikgankaaGreatDoorZ17
import Derived.Test.YtggcbblikgankaaGreatDoorZ14
import Derived.Test.YtggcbblikgankaaGreatDoorZ8
import Derived.Test.YtggcbblikgankaaGreatDoorZ11
import Derived.Defers
import Derived.Recover
import Derived.Laws.Pointers
import Derived.IntWalk
import Derived.BigRegion
import Derived.Deep.QuietTactic
import Derived.BigQuiet
import Derived.Deep.RegionHeld3
import Derived.Test.YtggcbblikgankaaGreatDoorZ3
set_option linter.unusedVariables false
set_option linter.unusedSimpArgs false
set_option maxRecDepth 100000
set_option maxHeartbeats 16000000
namespace Go.Proofs.YtggcbblikgankaaGreatDoor
open Go.Value (int)
open Go.IntKind (i64)
section
open Go.RowKit
theorem Kc (bars : Int) (aT aP aS : Option Addr) (cT cP cS : Nat) (ts : List Tmp) (ps : List Pau) (ss : List Con) (w : World)
  (hT : IsRow Bq 3 w (.slice aT ts.length cT) ts) (hP : IsRow Cl 4 w (.slice aP ps.length cP) ps) (hS : IsRow Ck 4 w (.slice aS ss.length cS) ss) :
  Calls Tryz.prog 113 #[.agg #[int i64 bars, .slice aT ts.length cT, .slice aP ps.length cP, .slice aS ss.length cS]] w fun e w' => e = C7 ⟨bars, ts, ps, ss⟩ ∧ Below w.heap.size w w' := by
 by_cases h : ts.length < ps.length
 ·by_cases h1 : 4096 < ps.length
  ·exact IC bars aT aP aS cT cP cS ts ps ss w hT hP hS h h1
  by_cases h2 : 256 < ss.length
  ·exact Hw bars aT aP aS cT cP cS ts ps ss w hT hP hS h (by omega) h2
  exact Ha bars aT aP aS cT cP cS ts ps ss w hT hP hS h (by omega) (by omega)
 ·by_cases h1 : 4096 < ts.length
  ·exact Ib bars aT aP aS cT cP cS ts ps ss w hT hP hS (by omega) h1
  by_cases h2 : 256 < ss.length
  ·exact Hn bars aT aP aS cT cP cS ts ps ss w hT hP hS (by omega) (by omega) h2
  exact Iu bars aT aP aS cT cP cS ts ps ss w hT hP hS (by omega) (by omega) (by omega)
theorem Lq (p : Addr) (w : World) :
  CallsD Tryz.prog 112 #[.pointer (some p)] .returning w fun e u' w' => e = .returned (.tuple #[]) ∧ u' = .returning ∧ w = w' := by
 refine callsD_of_wpS Tryz.func112 rfl fun c₀ cs hu => ?_
 apply wpS_seq
 apply wpS_region
 simp [wpOpsS, go_sem, recoverD, hu, Tryz.ntmps112, Exit.thenS]
 refine wpS_of_wp ?_
 simp only [Array.replicate]
 go_wp2
 cases c₀
 simp_all [bodyPostS, results, Tryz.results112]
theorem OB (c : Int) (w : World) : (Instr.typeAssert (.iface 41 (int i64 c)) 20 41 true).run Tryz.prog w = .ok (.tuple #[int i64 c, .bool true]) w := by kernel_rfl
theorem MP (c : Int) (w : World) : (binOp .eql 20 (.iface 41 (int i64 c)) .nilIface).run Tryz.prog w = .ok (.bool false) w := by kernel_rfl
theorem Gb (B : Nat) (c : Int) (x : Value) (older : List PanicEntry) (w : World) (h0 : w.heap[B]? = some (.cells #[x] 41 (0, 0))) :
  CallsD Tryz.prog 112 #[.pointer (some ⟨B, 0, none⟩)] (.panicking ({ v := .iface 41 (int i64 c), recovered := false } :: older)) w fun e u' w' =>
   e = .returned (.tuple #[]) ∧ u' = .panicking ({ v := .iface 41 (int i64 c), recovered := true } :: older) ∧ w'.heap[B]? = some (.cells #[int i64 c] 41 (0, 0)) ∧ Below B w w' := by
 have c0 := cell_of_one h0
 have f0 := free_of_one h0
 have H0 := qh h0; clear h0
 refine callsD_of_wpS Tryz.func112 rfl fun c₀ cs hu => ?_
 apply wpS_seq
 apply wpS_region
 simp [wpOpsS, go_sem, recoverD, hu, Tryz.ntmps112, Exit.thenS]
 refine wpS_of_wp ?_
 have hta := OB
 have hnn := MP
 simp only [Array.replicate]
 go_wp2
 exact ⟨rfl, _, rfl, .tuple #[], results_none rfl _ _ _, rfl, rfl, one_setCell H0.out, (Below.refl B w).setCell (p := ⟨B, 0, none⟩) (qn _) _⟩
theorem OZ (t : Array Value) (B : Nat) (c : Int) (R : Ending → World → Prop) (w2 : World) (x : Value) (ht2 : t.getD 2 undef = .pointer (some ⟨B, 0, none⟩))
  (h0 : w2.heap[B]? = some (.cells #[x] 41 (0, 0))) (hR : ∀ w', Below B w2 w' → R (.returned (int i64 c)) w') :
  bodyPostD Tryz.prog Tryz.f79 R (Exit.panic [{ v := .iface 41 (int i64 c), recovered := false }])
   { tmps := t, defers := [{ target := .fn (.func 112) #[.pointer (some ⟨B, 0, none⟩)], args := #[] }] } w2 := by
 have HR := qh hR; clear hR
 refine leaves_cons (f := 112) (args := #[.pointer (some ⟨B, 0, none⟩)]) (by simp) (by simp [go_sem]) ?_
 refine (Gb B c x [] _ h0).mono ?_
 rintro e u' w'' ⟨rfl, rfl, k0, hB⟩
 have c0 := cell_of_one k0
 simp at ht2
 have HB := qh hB; clear hB k0 h0
 simp [Leaves, settle, results, Tryz.results79, go_sem, ht2, c0]
 exact HR.out _ HB.out
theorem PP (t : Array Value) (B : Nat) (R : Ending → World → Prop) (w2 : World) (x : Value) (ht2 : t.getD 2 undef = .pointer (some ⟨B, 0, none⟩))
  (h0 : w2.cell? ⟨B, 0, none⟩ = some x) (hR : R (.returned x) w2) :
  bodyPostD Tryz.prog Tryz.f79 R Exit.ret { tmps := t, defers := [{ target := .fn (.func 112) #[.pointer (some ⟨B, 0, none⟩)], args := #[] }] } w2 := by
 have HR := qh hR; clear hR
 simp at ht2
 refine leaves_cons (f := 112) (args := #[.pointer (some ⟨B, 0, none⟩)]) (by simp) (by simp [go_sem]) ?_
 refine (Lq _ _).mono ?_
 rintro e u' w'' ⟨rfl, rfl, rfl⟩
 simp [Leaves, settle, results, Tryz.results79, go_sem, ht2, h0]
 exact HR.out
theorem N8 (bars : Int) (aT aP aS : Option Addr) (cT cP cS : Nat) (ts : List Tmp) (ps : List Pau) (ss : List Con) (w : World)
  (hT : IsRow Bq 3 w (.slice aT ts.length cT) ts) (hP : IsRow Cl 4 w (.slice aP ps.length cP) ps) (hS : IsRow Ck 4 w (.slice aS ss.length cS) ss) :
  Calls Tryz.prog 79 #[.agg #[int i64 bars, .slice aT ts.length cT, .slice aP ps.length cP, .slice aS ss.length cS]] w fun e w' => e = .returned (int i64 (BP ⟨bars, ts, ps, ss⟩)) ∧ Below w.heap.size w w' := by
 have hmf : ∀ (fn : Fn) (first cap : Array Value) (w : World), (Instr.makeFunc fn first cap).run Tryz.prog w = .ok (.func fn first cap) w := fun _ _ _ _ => rfl
 have hv := fun (w : World) h1 h2 h3 => Kc bars aT aP aS cT cP cS ts ps ss w h1 h2 h3
 generalize hclk : (⟨bars, ts, ps, ss⟩ : Clk) = clk at *
 have HT := qh hT; have HP := qh hP; have HS := qh hS; have HV := qh hv
 clear hT hP hS hclk hv
 generalize ts.length = nT at *
 generalize ps.length = nP at *
 generalize ss.length = nS at *
 have b0 : Below w.heap.size w ((w.alloc (.cells #[int i64 bars, .slice aT nT cT, .slice aP nP cP, .slice aS nS cS] 29)).alloc (.cells #[int i64 0] 41)) := ((Below.refl _ w).alloc (qn _) _).alloc (by simp) _
 have hz : ((w.alloc (.cells #[int i64 bars, .slice aT nT cT, .slice aP nP cP, .slice aS nS cS] 29)).alloc (.cells #[int i64 0] 41)).heap.size = w.heap.size + 2 := by simp
 have g0 : ((w.alloc (.cells #[int i64 bars, .slice aT nT cT, .slice aP nP cP, .slice aS nS cS] 29)).alloc (.cells #[int i64 0] 41)).heap[w.heap.size]? = some (.cells #[int i64 bars, .slice aT nT cT, .slice aP nP cP, .slice aS nS cS] 29 (0, 0)) := by
  rw [Below.heap_alloc _ _ _ (by simp)]; exact heap_alloc_new w _
 have g1 : ((w.alloc (.cells #[int i64 bars, .slice aT nT cT, .slice aP nP cP, .slice aS nS cS] 29)).alloc (.cells #[int i64 0] 41)).heap[w.heap.size + 1]? = some (.cells #[int i64 0] 41 (0, 0)) := by
  have := heap_alloc_new (w.alloc (.cells #[int i64 bars, .slice aT nT cT, .slice aP nP cP, .slice aS nS cS] 29)) (.cells #[int i64 0] 41); simpa using this
 go_enter_defers Tryz.func79, Tryz.ntmps79
 go_wp2_with fail
 generalize (w.alloc (.cells #[int i64 bars, .slice aT nT cT, .slice aP nP cP, .slice aS nS cS] 29)).alloc (.cells #[int i64 0] 41) = w0 at *
 refine (HV.out w0 (HT.out.below b0 (qn _)) (HP.out.below b0 (qn _)) (HS.out.below b0 (qn _))).mono ?_
 rintro e w1 ⟨rfl, b1⟩
 have y1 := (b1.block _ (by omega)).trans g1
 have HB := qh (b0.trans (b1.mono (by omega)))
 have Y1 := qh y1
 clear b0 b1 g0 hz y1 g1
 by_cases hc : BP clk = 0
 ·have HC := qh hc
  unfold C7
  rw [if_pos hc]
  clear hc
  have c1 := cell_of_one Y1.out
  have f1 := free_of_one Y1.out
  go_wp2_with fail
  refine PP _ (w.heap.size + 1) _ _ (int i64 0) rfl (cell_of_one (one_setCell Y1.out)) ⟨Af HC.out.symm, HB.out.setCell (p := ⟨w.heap.size + 1, 0, none⟩) (by show w.heap.size ≤ w.heap.size + 1; omega) _⟩
 ·have HC := qh hc
  unfold C7
  rw [if_neg hc]
  unfold A9
  clear hc
  go_wp2_with fail
  refine OZ _ (w.heap.size + 1) _ _ _ (int i64 0) rfl Y1.out (fun w' hb => ⟨rfl, HB.out.trans (hb.mono (by omega))⟩)
end
section
open Go.RowKit
theorem Hv (d n : Int) : Nat.gcd n.natAbs (d.tmod n).natAbs = Nat.gcd d.natAbs n.natAbs := by
 rw [Int.natAbs_tmod, Nat.gcd_comm n.natAbs, ← Nat.gcd_rec, Nat.gcd_comm]
theorem Kb (d n : Int) (h : n ≠ 0) : (d.tmod n).natAbs < n.natAbs := by
 rw [Int.natAbs_tmod]; exact Nat.mod_lt _ (by omega)
theorem Ee {d n : Int} (h1 : -1073741824 ≤ d) (h2 : d ≤ 1073741824) : -1073741824 ≤ d.tmod n ∧ d.tmod n ≤ 1073741824 := by
 have : (d.tmod n).natAbs ≤ d.natAbs := by rw [Int.natAbs_tmod]; exact Nat.mod_le _ _
 omega
theorem Mh (g : Nat) (A B C : Int) (w : World) (hA : -1073741824 ≤ A ∧ A ≤ 1073741824) (hB : -1073741824 ≤ B ∧ B ≤ 1073741824) (hC : -1073741824 ≤ C ∧ C ≤ 1073741824) (hg : w.heap[g]? = some (.cells #[int i64 A, int i64 B, int i64 C] 3 (0, 0))) :
  Calls Tryz.prog 134 #[.slice (some ⟨g, 0, none⟩) 3 3] w fun e w' => e = .returned (int i64 ((Nat.gcd (Nat.gcd A.natAbs B.natAbs) C.natAbs : Nat) : Int)) ∧ ∃ k, w' = w.drewN k := by
 have HG := qh hg; clear hg
 go_enter Tryz.func134, Tryz.ntmps134
 go_wp2_with fail
 go_loopw [2, 7] (fun dv iv wr => ∃ (z d : Int) (k : Nat), iv = int i64 z ∧ dv = int i64 d ∧ -1073741824 ≤ d ∧ d ≤ 1073741824 ∧ wr = w.drewN k ∧
   ((z = 0 ∧ d = 0) ∨ (z = 1 ∧ Hid (d.natAbs = A.natAbs)) ∨ (z = 2 ∧ Hid (d.natAbs = Nat.gcd A.natAbs B.natAbs)) ∨ (z = 3 ∧ Hid (d.natAbs = Nat.gcd (Nat.gcd A.natAbs B.natAbs) C.natAbs)))) (fun _ iv _ => (3 - intOf iv).toNat)
 case atStart => exact ⟨0, 0, 0, rfl, rfl, by omega, by omega, rfl, Or.inl ⟨rfl, rfl⟩⟩
 case round =>
  obtain ⟨z, d, k, rfl, rfl, hd1, hd2, rfl, hz⟩ := hrel
  rcases hz with ⟨rfl, rfl⟩ | ⟨rfl, hd⟩ | ⟨rfl, hd⟩ | ⟨rfl, hd⟩
  ·have e0 : (w.drewN k).cell? ⟨g, 0, none⟩ = some (int i64 A) := A0 HG.out 0 rfl
   have hb1 := hA.1
   have hb2 := hA.2
   go_wp2_with fail
   clear e0
   go_loopw [2, 4] (fun dv nv wr => ∃ (d n : Int) (k : Nat), dv = int i64 d ∧ nv = int i64 n ∧ -1073741824 ≤ d ∧ d ≤ 1073741824 ∧ -1073741824 ≤ n ∧ n ≤ 1073741824 ∧ wr = w.drewN k ∧ Hid (Nat.gcd d.natAbs n.natAbs = A.natAbs)) (fun _ nv _ => (intOf nv).natAbs)
   case atStart => exact ⟨_, _, k, rfl, rfl, by omega, by omega, hb1, hb2, rfl, qh (by rw [show (0 : Int).natAbs = 0 from rfl, Nat.gcd_zero_left])⟩
   case round =>
    clear hb1 hb2 hd1 hd2
    obtain ⟨d, n, k, rfl, rfl, hd1, hd2, hn1, hn2, rfl, hgc⟩ := hrel
    by_cases hn : n = 0
    ·have f1 : (n != 0) = false := by simpa using hn
     have HN0 := qh hn; clear hn
     go_wp2_with fail
     go_roundw
     case rel => exact ⟨1, d, k, by go_num, rfl, hd1, hd2, rfl, Or.inr (Or.inl ⟨rfl, qh (by have h1 := hgc.out; rw [HN0.out, show (0 : Int).natAbs = 0 from rfl, Nat.gcd_zero_right] at h1; exact h1)⟩)⟩
     case measure => simp [intOf]
    ·have f1 : (n != 0) = true := by simpa using hn
     have hlt := Kb d n hn
     have hb := Ee hd1 hd2 (n := n)
     have hb1 := hb.1
     have hb2 := hb.2
     have hwr : IntKind.i64.wrap (d.tmod n) = d.tmod n := IntWalk.i64_in _ (by omega)
     have HW := qh hwr; have HLT := qh hlt
     clear hb hwr hlt
     generalize hm : d.tmod n = m at *
     have HM := qh hm; clear hm
     go_wp2_with fail
     go_quiet (fail)
     try rw [HM.out]
     try rw [HW.out]
     go_wp2_with fail
     go_roundw
     case rel => exact ⟨n, m, k + nq, rfl, rfl, hn1, hn2, hb1, hb2, by simp, qh (by rw [← HM.out, Hv]; exact hgc.out)⟩
     case measure => simp [intOf]; exact HLT.out
  ·have e0 : (w.drewN k).cell? ⟨g, 1, none⟩ = some (int i64 B) := A0 HG.out 1 rfl
   have hb1 := hB.1
   have hb2 := hB.2
   go_wp2_with fail
   clear e0
   go_loopw [2, 4] (fun dv nv wr => ∃ (d n : Int) (k : Nat), dv = int i64 d ∧ nv = int i64 n ∧ -1073741824 ≤ d ∧ d ≤ 1073741824 ∧ -1073741824 ≤ n ∧ n ≤ 1073741824 ∧ wr = w.drewN k ∧ Hid (Nat.gcd d.natAbs n.natAbs = Nat.gcd A.natAbs B.natAbs)) (fun _ nv _ => (intOf nv).natAbs)
   case atStart => exact ⟨_, _, k, rfl, rfl, by omega, by omega, hb1, hb2, rfl, qh (by rw [hd.out])⟩
   case round =>
    clear hb1 hb2 hd1 hd2 hd
    obtain ⟨d, n, k, rfl, rfl, hd1, hd2, hn1, hn2, rfl, hgc⟩ := hrel
    by_cases hn : n = 0
    ·have f1 : (n != 0) = false := by simpa using hn
     have HN0 := qh hn; clear hn
     go_wp2_with fail
     go_roundw
     case rel => exact ⟨2, d, k, by go_num, rfl, hd1, hd2, rfl, Or.inr (Or.inr (Or.inl ⟨rfl, qh (by have h1 := hgc.out; rw [HN0.out, show (0 : Int).natAbs = 0 from rfl, Nat.gcd_zero_right] at h1; exact h1)⟩))⟩
     case measure => simp [intOf]
    ·have f1 : (n != 0) = true := by simpa using hn
     have hlt := Kb d n hn
     have hb := Ee hd1 hd2 (n := n)
     have hb1 := hb.1
     have hb2 := hb.2
     have hwr : IntKind.i64.wrap (d.tmod n) = d.tmod n := IntWalk.i64_in _ (by omega)
     have HW := qh hwr; have HLT := qh hlt
     clear hb hwr hlt
     generalize hm : d.tmod n = m at *
     have HM := qh hm; clear hm
     go_wp2_with fail
     go_quiet (fail)
     try rw [HM.out]
     try rw [HW.out]
     go_wp2_with fail
     go_roundw
     case rel => exact ⟨n, m, k + nq, rfl, rfl, hn1, hn2, hb1, hb2, by simp, qh (by rw [← HM.out, Hv]; exact hgc.out)⟩
     case measure => simp [intOf]; exact HLT.out
  ·have e0 : (w.drewN k).cell? ⟨g, 2, none⟩ = some (int i64 C) := A0 HG.out 2 rfl
   have hb1 := hC.1
   have hb2 := hC.2
   go_wp2_with fail
   clear e0
   go_loopw [2, 4] (fun dv nv wr => ∃ (d n : Int) (k : Nat), dv = int i64 d ∧ nv = int i64 n ∧ -1073741824 ≤ d ∧ d ≤ 1073741824 ∧ -1073741824 ≤ n ∧ n ≤ 1073741824 ∧ wr = w.drewN k ∧ Hid (Nat.gcd d.natAbs n.natAbs = Nat.gcd (Nat.gcd A.natAbs B.natAbs) C.natAbs)) (fun _ nv _ => (intOf nv).natAbs)
   case atStart => exact ⟨_, _, k, rfl, rfl, by omega, by omega, hb1, hb2, rfl, qh (by rw [hd.out])⟩
   case round =>
    clear hb1 hb2 hd1 hd2 hd
    obtain ⟨d, n, k, rfl, rfl, hd1, hd2, hn1, hn2, rfl, hgc⟩ := hrel
    by_cases hn : n = 0
    ·have f1 : (n != 0) = false := by simpa using hn
     have HN0 := qh hn; clear hn
     go_wp2_with fail
     go_roundw
     case rel => exact ⟨3, d, k, by go_num, rfl, hd1, hd2, rfl, Or.inr (Or.inr (Or.inr ⟨rfl, qh (by have h1 := hgc.out; rw [HN0.out, show (0 : Int).natAbs = 0 from rfl, Nat.gcd_zero_right] at h1; exact h1)⟩))⟩
     case measure => simp [intOf]
    ·have f1 : (n != 0) = true := by simpa using hn
     have hlt := Kb d n hn
     have hb := Ee hd1 hd2 (n := n)
     have hb1 := hb.1
     have hb2 := hb.2
     have hwr : IntKind.i64.wrap (d.tmod n) = d.tmod n := IntWalk.i64_in _ (by omega)
     have HW := qh hwr; have HLT := qh hlt
     clear hb hwr hlt
     generalize hm : d.tmod n = m at *
     have HM := qh hm; clear hm
     go_wp2_with fail
     go_quiet (fail)
     try rw [HM.out]
     try rw [HW.out]
     go_wp2_with fail
     go_roundw
     case rel => exact ⟨n, m, k + nq, rfl, rfl, hn1, hn2, hb1, hb2, by simp, qh (by rw [← HM.out, Hv]; exact hgc.out)⟩
     case measure => simp [intOf]; exact HLT.out
  ·go_wp2_with fail
   all_goals
    go_ret
    exact ⟨Af (by rw [← hd.out]; omega), k, rfl⟩
theorem JG {w : World} {g : Nat} {xs : Array Value} {t : TypeId} (h : w.heap[g]? = some (.cells xs t (0, 0))) (r : Nat) : w.frozen? ⟨g, r, none⟩ = false := by
 simp [World.frozen?, h]
def Dr (a b c : Int) : Int := ((Nat.gcd (Nat.gcd a.natAbs b.natAbs) c.natAbs : Nat) : Int)
theorem MS (A B C : Int) (w : World) (hA : -1073741824 ≤ A ∧ A ≤ 1073741824) (hB : -1073741824 ≤ B ∧ B ≤ 1073741824) (hC : 1 ≤ C ∧ C ≤ 1073741824) :
  Calls Tryz.prog 114 #[.agg #[int i64 A, int i64 B, int i64 C]] w fun e w' => e = .returned (.agg #[int i64 (A.tdiv (Dr A B C)), int i64 (B.tdiv (Dr A B C)), int i64 (C / Dr A B C)]) ∧ Below w.heap.size w w' := by
 have hg1 : 1 ≤ Dr A B C := by
  unfold Dr
  have : 0 < Nat.gcd (Nat.gcd A.natAbs B.natAbs) C.natAbs := Nat.gcd_pos_of_pos_right _ (by omega)
  omega
 have hcom := fun (g : Nat) (w : World) hg => Mh g A B C w hA hB ⟨by omega, hC.2⟩ hg
 have HC := qh hcom; clear hcom
 obtain ⟨g0, g1, g2, hz, b0⟩ := Do w (.cells #[int i64 A, int i64 B, int i64 C] 23) (.cells #[int i64 0, int i64 0, int i64 0] 23) (.cells #[int i64 A, int i64 B, int i64 C] 3)
 go_enter Tryz.func114, Tryz.ntmps114
 go_wp2_with fail
 generalize (((w.alloc (.cells #[int i64 A, int i64 B, int i64 C] 23)).alloc (.cells #[int i64 0, int i64 0, int i64 0] 23)).alloc (.cells #[int i64 A, int i64 B, int i64 C] 3)) = w0 at *
 refine (HC.out (w.heap.size + 1 + 1) w0 g2).mono ?_
 rintro e w1 ⟨rfl, k, rfl⟩
 have hgd : ((Nat.gcd (Nat.gcd A.natAbs B.natAbs) C.natAbs : Nat) : Int) = Dr A B C := rfl
 rw [hgd]
 have hB9 := qh (A5 b0 k)
 have k0 : (w0.drewN k).heap[w.heap.size]? = some (.cells #[int i64 A, int i64 B, int i64 C] 23 (0, 0)) := g0
 have k1 : (w0.drewN k).heap[w.heap.size + 1]? = some (.cells #[int i64 0, int i64 0, int i64 0] 23 (0, 0)) := g1
 have hz1 : w.heap.size + 1 < (w0.drewN k).heap.size := by show w.heap.size + 1 < w0.heap.size; omega
 clear g0 g1 g2 hz b0 hgd
 generalize w0.drewN k = w2 at *
 have c0 := A0 k0 0 rfl; have c1 := A0 k0 1 rfl; have c2 := A0 k0 2 rfl
 have d0 := A0 k1 0 rfl; have d1 := A0 k1 1 rfl; have d2 := A0 k1 2 rfl
 have q0 := JG k1 0; have q1 := JG k1 1; have q2 := JG k1 2
 generalize hgg : Dr A B C = G at *
 have HGG := qh hgg; clear hgg
 have hne : ¬ G = 0 := by omega
 have K1 := qh k1
 clear k0 k1
 go_wp2_with fail
 go_region
 all_goals
  go_wp2
  have hBf := qh ((((hB9.out.setCell (p := ⟨w.heap.size + 1, 0, none⟩) (by show w.heap.size ≤ w.heap.size + 1; omega) (int i64 (A.tdiv G))).setCell (p := ⟨w.heap.size + 1, 1, none⟩) (by show w.heap.size ≤ w.heap.size + 1; omega) (int i64 (B.tdiv G))).setCell (p := ⟨w.heap.size + 1, 2, none⟩) (by show w.heap.size ≤ w.heap.size + 1; omega) (int i64 (C / G))).drew)
  refine bodyPost_ret (v := .agg #[int i64 (A.tdiv G), int i64 (B.tdiv G), int i64 (C / G)]) ?_ rfl ⟨by rw [HGG.out], hBf.out⟩
  simp [results, Tryz.results114, go_sem, d0, d1, d2]
end
section
open Go.RowKit
theorem RW (a b c d e f : Int) (w : World) : (binOp .neq 23 (.agg #[int i64 a, int i64 b, int i64 c]) (.agg #[int i64 d, int i64 e, int i64 f])).run Tryz.prog w = .ok (.bool (!(a == d && b == e && c == f))) w := by
 have u3 := Tryz.underlying3
 have a3 := Tryz.isAgg3
 have z3 := Tryz.sizeOf3
 have hS : Tryz.prog.underlying 23 = some (.struct (Tryz.prog.fieldsOf 23)) := by kernel_rfl
 have hp : Tryz.prog.stoodInHeld 23 = false := by kernel_rfl
 rw [run_neq_struct, show (10000 : Nat) = 9999 + 1 from rfl, run_equalIn_agg w 9999 23 _ _ hS hp]
 simp only [Program.fieldsOf, Tryz.underlying23]
 go_simp
 by_cases h1 : a = d <;> by_cases h2 : b = e <;> by_cases h3 : c = f <;> simp [h1, h2, h3]
theorem T0 {a b c : Int} (h : c < 1 ∨ 32768 < c) : CM a b c = false := by unfold CM; rw [Ah.2 h]; rfl
theorem Jt {a b c : Int} (h : a < -c ∨ c < a ∨ b < -c ∨ c < b) : CM a b c = false := by
 unfold CM
 rcases h with h | h | h | h
 ·rw [Ah.2 (show a < -c ∨ _ from Or.inl h)]; simp
 ·rw [Ah.2 (show _ ∨ c < a from Or.inr h)]; simp
 ·rw [Ah.2 (show b < -c ∨ _ from Or.inl h)]; simp
 ·rw [Ah.2 (show _ ∨ c < b from Or.inr h)]; simp
theorem M1 {a b c : Int} (h : ¬ a * a + b * b = c * c) : CM a b c = false := by unfold CM; rw [decide_eq_false h]; simp
theorem Rk (A B C : Int) (h : C < 1 ∨ 32768 < C) (w : World) : Calls Tryz.prog 81 #[.agg #[int i64 A, int i64 B, int i64 C]] w fun e w' => e = .returned (int i64 140) ∧ Below w.heap.size w w' := by
 by_cases h1 : C < 1
 ·clear h
  go_enter Tryz.func81, Tryz.ntmps81
  go_wp2_with fail
  go_quiet (fail)
  go_wp2
  go_ret
  exact ⟨rfl, A5 ((Below.refl _ _).alloc (qn _) _) _⟩
 ·have f1 : decide (C < 1) = false := by simpa using h1
  have h2 : 32768 < C := by omega
  clear h h1
  go_enter Tryz.func81, Tryz.ntmps81
  go_wp2_with fail
  go_quiet (fail)
  go_wp2
  go_ret
  exact ⟨rfl, A5 ((Below.refl _ _).alloc (qn _) _) _⟩
theorem CB {a : Int} (h1 : -32768 ≤ a) (h2 : a ≤ 32768) : 0 ≤ a * a ∧ a * a ≤ 1073741824 := by
 have hx : (a * a).natAbs ≤ 1073741824 := by
  rw [Int.natAbs_mul]
  calc a.natAbs * a.natAbs ≤ 32768 * 32768 := Nat.mul_le_mul (by omega) (by omega)
   _ = 1073741824 := by decide
 have h0 : 0 ≤ a * a := by
  rcases Int.le_total 0 a with h | h
  ·exact Int.mul_nonneg h h
  ·exact Int.mul_nonneg_of_nonpos_of_nonpos h h
 omega
theorem Pz {a b c : Int} (hc : 1 ≤ c) : ((a.tdiv (Dr a b c) == a && b.tdiv (Dr a b c) == b && c / Dr a b c == c)) = decide (Nat.gcd (Nat.gcd a.natAbs b.natAbs) c.natAbs = 1) := by
 by_cases h : Nat.gcd (Nat.gcd a.natAbs b.natAbs) c.natAbs = 1
 ·have : Dr a b c = 1 := by unfold Dr; omega
  rw [this, decide_eq_true h]; simp
 ·rw [decide_eq_false h]
  have hp : 0 < Nat.gcd (Nat.gcd a.natAbs b.natAbs) c.natAbs := Nat.gcd_pos_of_pos_right _ (by omega)
  have h2 : 2 ≤ Dr a b c := by unfold Dr; omega
  have : ¬ c / Dr a b c = c := by
   intro e
   have h3 : Dr a b c * (c / Dr a b c) ≤ c := Int.mul_ediv_self_le (by omega)
   rw [e] at h3
   have : 2 * c ≤ Dr a b c * c := Int.mul_le_mul_of_nonneg_right h2 (by omega)
   omega
  simp [this]
theorem Kp {a b c : Int} (h1 : 1 ≤ c) (h2 : c ≤ 32768) (h3 : -c ≤ a) (h4 : a ≤ c) (h5 : -c ≤ b) (h6 : b ≤ c) (h7 : a * a + b * b = c * c) : CM a b c = decide (Nat.gcd (Nat.gcd a.natAbs b.natAbs) c.natAbs = 1) := by
 unfold CM; rw [A4.2 ⟨h1, h2⟩, A4.2 ⟨h3, h4⟩, A4.2 ⟨h5, h6⟩, decide_eq_true h7]; rfl
theorem Lb (A B C : Int) (hc1 : 1 ≤ C) (hc2 : C ≤ 32768) (ho : A < B) (h : A < -C) (w : World) : Calls Tryz.prog 81 #[.agg #[int i64 A, int i64 B, int i64 C]] w fun e w' => e = .returned (int i64 140) ∧ Below w.heap.size w w' := by
 have f1 : decide (C < 1) = false := by simpa using by omega
 have f2 : decide (32768 < C) = false := by simpa using by omega
 go_enter Tryz.func81, Tryz.ntmps81
 go_wp2_with fail
 go_quiet (fail)
 go_wp2
 go_ret
 exact ⟨rfl, A5 ((Below.refl _ _).alloc (qn _) _) _⟩
theorem Lt (A B C : Int) (hc1 : 1 ≤ C) (hc2 : C ≤ 32768) (ho : A < B) (h0 : ¬ A < -C) (h : C < B) (w : World) : Calls Tryz.prog 81 #[.agg #[int i64 A, int i64 B, int i64 C]] w fun e w' => e = .returned (int i64 140) ∧ Below w.heap.size w w' := by
 have f1 : decide (C < 1) = false := by simpa using by omega
 have f2 : decide (32768 < C) = false := by simpa using by omega
 have f3 : decide (A < -C) = false := by simpa using h0
 go_enter Tryz.func81, Tryz.ntmps81
 go_wp2_with fail
 go_quiet (fail)
 go_wp2
 go_ret
 exact ⟨rfl, A5 ((Below.refl _ _).alloc (qn _) _) _⟩
theorem Lc (A B C : Int) (hc1 : 1 ≤ C) (hc2 : C ≤ 32768) (ho : A < B) (h0 : ¬ A < -C) (h1 : ¬ C < B) (h : ¬ A * A + B * B = C * C) (w : World) : Calls Tryz.prog 81 #[.agg #[int i64 A, int i64 B, int i64 C]] w fun e w' => e = .returned (int i64 140) ∧ Below w.heap.size w w' := by
 have pa := CB (a := A) (by omega) (by omega)
 have pb := CB (a := B) (by omega) (by omega)
 have pc := CB (a := C) (by omega) (by omega)
 have f1 : decide (C < 1) = false := by simpa using by omega
 have f2 : decide (32768 < C) = false := by simpa using by omega
 have f3 : decide (A < -C) = false := by simpa using h0
 have f4 : decide (C < B) = false := by simpa using h1
 have hw1 : IntKind.i64.wrap (A * A) = A * A := IntWalk.i64_in _ (by omega)
 have hw2 : IntKind.i64.wrap (B * B) = B * B := IntWalk.i64_in _ (by omega)
 have hw3 : IntKind.i64.wrap (C * C) = C * C := IntWalk.i64_in _ (by omega)
 have hw4 : IntKind.i64.wrap (A * A + B * B) = A * A + B * B := IntWalk.i64_in _ (by omega)
 have f5 : (A * A + B * B != C * C) = true := by simpa using h
 clear h h0 h1 pa pb pc
 go_enter Tryz.func81, Tryz.ntmps81
 go_wp2_with fail
 go_quiet (fail)
 go_wp2
 go_ret
 exact ⟨rfl, A5 ((Below.refl _ _).alloc (qn _) _) _⟩
theorem Lo (A B C : Int) (hc1 : 1 ≤ C) (hc2 : C ≤ 32768) (ho : A = B) (h : A < -C) (w : World) : Calls Tryz.prog 81 #[.agg #[int i64 A, int i64 B, int i64 C]] w fun e w' => e = .returned (int i64 140) ∧ Below w.heap.size w w' := by
 subst ho
 have f1 : decide (C < 1) = false := by simpa using by omega
 have f2 : decide (32768 < C) = false := by simpa using by omega
 go_enter Tryz.func81, Tryz.ntmps81
 go_wp2_with fail
 go_quiet (fail)
 go_wp2
 go_ret
 exact ⟨rfl, A5 ((Below.refl _ _).alloc (qn _) _) _⟩
theorem LC (A B C : Int) (hc1 : 1 ≤ C) (hc2 : C ≤ 32768) (ho : A = B) (h0 : ¬ A < -C) (h : C < A) (w : World) : Calls Tryz.prog 81 #[.agg #[int i64 A, int i64 B, int i64 C]] w fun e w' => e = .returned (int i64 140) ∧ Below w.heap.size w w' := by
 subst ho
 have f1 : decide (C < 1) = false := by simpa using by omega
 have f2 : decide (32768 < C) = false := by simpa using by omega
 have f3 : decide (A < -C) = false := by simpa using h0
 go_enter Tryz.func81, Tryz.ntmps81
 go_wp2_with fail
 go_quiet (fail)
 go_wp2
 go_ret
 exact ⟨rfl, A5 ((Below.refl _ _).alloc (qn _) _) _⟩
theorem KO (A B C : Int) (hc1 : 1 ≤ C) (hc2 : C ≤ 32768) (ho : A = B) (h0 : ¬ A < -C) (h1 : ¬ C < A) (h : ¬ A * A + B * B = C * C) (w : World) : Calls Tryz.prog 81 #[.agg #[int i64 A, int i64 B, int i64 C]] w fun e w' => e = .returned (int i64 140) ∧ Below w.heap.size w w' := by
 have pa := CB (a := A) (by omega) (by omega)
 have pb := CB (a := B) (by omega) (by omega)
 have pc := CB (a := C) (by omega) (by omega)
 subst ho
 have f1 : decide (C < 1) = false := by simpa using by omega
 have f2 : decide (32768 < C) = false := by simpa using by omega
 have f3 : decide (A < -C) = false := by simpa using h0
 have f4 : decide (C < A) = false := by simpa using h1
 have hw1 : IntKind.i64.wrap (A * A) = A * A := IntWalk.i64_in _ (by omega)
 have hw2 : IntKind.i64.wrap (A * A) = A * A := IntWalk.i64_in _ (by omega)
 have hw3 : IntKind.i64.wrap (C * C) = C * C := IntWalk.i64_in _ (by omega)
 have hw4 : IntKind.i64.wrap (A * A + A * A) = A * A + A * A := IntWalk.i64_in _ (by omega)
 have f5 : (A * A + A * A != C * C) = true := by simpa using h
 clear h h0 h1 pa pb pc
 go_enter Tryz.func81, Tryz.ntmps81
 go_wp2_with fail
 go_quiet (fail)
 go_wp2
 go_ret
 exact ⟨rfl, A5 ((Below.refl _ _).alloc (qn _) _) _⟩
theorem Ku (A B C : Int) (hc1 : 1 ≤ C) (hc2 : C ≤ 32768) (ho : B < A) (h : B < -C) (w : World) : Calls Tryz.prog 81 #[.agg #[int i64 A, int i64 B, int i64 C]] w fun e w' => e = .returned (int i64 140) ∧ Below w.heap.size w w' := by
 have f1 : decide (C < 1) = false := by simpa using by omega
 have f2 : decide (32768 < C) = false := by simpa using by omega
 go_enter Tryz.func81, Tryz.ntmps81
 go_wp2_with fail
 go_quiet (fail)
 go_wp2
 go_ret
 exact ⟨rfl, A5 ((Below.refl _ _).alloc (qn _) _) _⟩
theorem L2 (A B C : Int) (hc1 : 1 ≤ C) (hc2 : C ≤ 32768) (ho : B < A) (h0 : ¬ B < -C) (h : C < A) (w : World) : Calls Tryz.prog 81 #[.agg #[int i64 A, int i64 B, int i64 C]] w fun e w' => e = .returned (int i64 140) ∧ Below w.heap.size w w' := by
 have f1 : decide (C < 1) = false := by simpa using by omega
 have f2 : decide (32768 < C) = false := by simpa using by omega
 have f3 : decide (B < -C) = false := by simpa using h0
 go_enter Tryz.func81, Tryz.ntmps81
 go_wp2_with fail
 go_quiet (fail)
 go_wp2
 go_ret
 exact ⟨rfl, A5 ((Below.refl _ _).alloc (qn _) _) _⟩
theorem Li (A B C : Int) (hc1 : 1 ≤ C) (hc2 : C ≤ 32768) (ho : B < A) (h0 : ¬ B < -C) (h1 : ¬ C < A) (h : ¬ A * A + B * B = C * C) (w : World) : Calls Tryz.prog 81 #[.agg #[int i64 A, int i64 B, int i64 C]] w fun e w' => e = .returned (int i64 140) ∧ Below w.heap.size w w' := by
 have pa := CB (a := A) (by omega) (by omega)
 have pb := CB (a := B) (by omega) (by omega)
 have pc := CB (a := C) (by omega) (by omega)
 have f1 : decide (C < 1) = false := by simpa using by omega
 have f2 : decide (32768 < C) = false := by simpa using by omega
 have f3 : decide (B < -C) = false := by simpa using h0
 have f4 : decide (C < A) = false := by simpa using h1
 have hw1 : IntKind.i64.wrap (A * A) = A * A := IntWalk.i64_in _ (by omega)
 have hw2 : IntKind.i64.wrap (B * B) = B * B := IntWalk.i64_in _ (by omega)
 have hw3 : IntKind.i64.wrap (C * C) = C * C := IntWalk.i64_in _ (by omega)
 have hw4 : IntKind.i64.wrap (A * A + B * B) = A * A + B * B := IntWalk.i64_in _ (by omega)
 have f5 : (A * A + B * B != C * C) = true := by simpa using h
 clear h h0 h1 pa pb pc
 go_enter Tryz.func81, Tryz.ntmps81
 go_wp2_with fail
 go_quiet (fail)
 go_wp2
 go_ret
 exact ⟨rfl, A5 ((Below.refl _ _).alloc (qn _) _) _⟩
end
section
open Go.RowKit
def boxS (A B C : Int) (g : Nat) (W : World) : World → Prop := fun w2 => w2.cell? ⟨g, 0, none⟩ = some (int i64 A) ∧ w2.cell? ⟨g, 1, none⟩ = some (int i64 B) ∧ w2.cell? ⟨g, 2, none⟩ = some (int i64 C) ∧ Below g W w2 ∧ g < w2.heap.size
theorem ES (A B C x y z : Int) (g : Nat) (W w : World) (hl : ∀ w, Calls Tryz.prog 114 #[.agg #[int i64 A, int i64 B, int i64 C]] w fun e w' => e = .returned (.agg #[int i64 x, int i64 y, int i64 z]) ∧ Below w.heap.size w w')
  (h : w.cell? ⟨g, 0, none⟩ = some (int i64 A) ∧ w.cell? ⟨g, 1, none⟩ = some (int i64 B) ∧ w.cell? ⟨g, 2, none⟩ = some (int i64 C) ∧ Below g W w ∧ g < w.heap.size) :
  Calls Tryz.prog 114 #[.agg #[int i64 A, int i64 B, int i64 C]] w fun e w' => e = .returned (.agg #[int i64 x, int i64 y, int i64 z]) ∧ (w'.cell? ⟨g, 0, none⟩ = some (int i64 A) ∧ w'.cell? ⟨g, 1, none⟩ = some (int i64 B) ∧ w'.cell? ⟨g, 2, none⟩ = some (int i64 C) ∧ Below g W w' ∧ g < w'.heap.size) :=
 (hl w).mono fun _ _ ⟨he, hx⟩ => ⟨he, (hx.cell (p := ⟨g, 0, none⟩) h.2.2.2.2).trans h.1, (hx.cell (p := ⟨g, 1, none⟩) h.2.2.2.2).trans h.2.1, (hx.cell (p := ⟨g, 2, none⟩) h.2.2.2.2).trans h.2.2.1, h.2.2.2.1.trans (hx.mono (Nat.le_of_lt h.2.2.2.2)), Nat.lt_of_lt_of_le h.2.2.2.2 hx.size⟩
theorem FK (A B C : Int) (hc1 : 1 ≤ C) (h1 : -1073741824 ≤ A ∧ A ≤ 1073741824) (h2 : -1073741824 ≤ B ∧ B ≤ 1073741824) (h3 : C ≤ 1073741824) : ∃ (x y z : Int) (bc : Bool), (∀ w, Calls Tryz.prog 114 #[.agg #[int i64 A, int i64 B, int i64 C]] w fun e w' => e = .returned (.agg #[int i64 x, int i64 y, int i64 z]) ∧ Below w.heap.size w w') ∧
  (∀ w, (binOp .neq 23 (.agg #[int i64 x, int i64 y, int i64 z]) (.agg #[int i64 A, int i64 B, int i64 C])).run Tryz.prog w = .ok (.bool bc) w) ∧ bc = !decide (Nat.gcd (Nat.gcd A.natAbs B.natAbs) C.natAbs = 1) := by
 refine ⟨A.tdiv (Dr A B C), B.tdiv (Dr A B C), C / Dr A B C, _, fun w => MS A B C w (by omega) (by omega) (by omega), fun w => RW _ _ _ _ _ _ w, ?_⟩
 rw [Pz hc1]
theorem Lw (A B C : Int) (hc1 : 1 ≤ C) (hc2 : C ≤ 32768) (ho : A < B) (h0 : ¬ A < -C) (h1 : ¬ C < B) (h : A * A + B * B = C * C) (w : World) : Calls Tryz.prog 81 #[.agg #[int i64 A, int i64 B, int i64 C]] w fun e w' => e = .returned (int i64 (AP (CM A B C) 140)) ∧ Below w.heap.size w w' := by
 have pa := CB (a := A) (by omega) (by omega)
 have pb := CB (a := B) (by omega) (by omega)
 have pc := CB (a := C) (by omega) (by omega)
 have HT := qh (Kp hc1 hc2 (by omega) (by omega) (by omega) (by omega) h)
 obtain ⟨x, y, z, bc, hlow, hq, hbc⟩ := FK A B C hc1 (by omega) (by omega) (by omega)
 have HL := qh hlow; clear hlow
 have HB := qh hbc; clear hbc
 skip
 have f1 : decide (C < 1) = false := by simpa using by omega
 have f2 : decide (32768 < C) = false := by simpa using by omega
 have f3 : decide (A < -C) = false := by simpa using h0
 have f4 : decide (C < B) = false := by simpa using h1
 have hw1 : IntKind.i64.wrap (A * A) = A * A := IntWalk.i64_in _ (by omega)
 have hw2 : IntKind.i64.wrap (B * B) = B * B := IntWalk.i64_in _ (by omega)
 have hw3 : IntKind.i64.wrap (C * C) = C * C := IntWalk.i64_in _ (by omega)
 have hw4 : IntKind.i64.wrap (A * A + B * B) = A * A + B * B := IntWalk.i64_in _ (by omega)
 have f5 : (A * A + B * B != C * C) = false := by simpa using h
 have hmin : (if B < A then B else A) = A := if_neg (by omega)
 have hmax : (if A < B then B else A) = B := if_pos ho
 have hneg : IntKind.i64.wrap (-C) = -C := IntWalk.i64_in _ (by omega)
 clear h h0 h1 pa pb pc
 go_enter Tryz.func81, Tryz.ntmps81
 go_wp2_with fail
 have hS : boxS A B C w.heap.size w (w.alloc (.cells #[int i64 A, int i64 B, int i64 C] 23)) := ⟨A0 (heap_alloc_new w _) 0 rfl, A0 (heap_alloc_new w _) 1 rfl, A0 (heap_alloc_new w _) 2 rfl, (Below.refl _ _).alloc (qn _) _, by simp⟩
 generalize w.alloc (.cells #[int i64 A, int i64 B, int i64 C] 23) = w0 at *
 obtain ⟨c0, c1, c2, c3, c4⟩ := hS
 have hbd := c3.drew
 go_region_held3 (fun w2 => w2.cell? ⟨w.heap.size, 0, none⟩ = some (int i64 A) ∧ w2.cell? ⟨w.heap.size, 1, none⟩ = some (int i64 B) ∧ w2.cell? ⟨w.heap.size, 2, none⟩ = some (int i64 C) ∧ Below w.heap.size w w2 ∧ w.heap.size < w2.heap.size) (first | assumption | exact ⟨c0, c1, c2, hbd, c4⟩ | (refine ⟨?_, ?_, ?_, ?_, ?_⟩ <;> first | assumption | go_keep))
  (first | (go_at_call 114; refine (ES A B C x y z w.heap.size w _ HL.out (by assumption)).mono ?_; rintro e w3 ⟨rfl, hd⟩))
 all_goals
  rename_i hHeld
  have HB3 := qh hHeld.2.2.2.1
  clear hHeld c0 c1 c2 c3 c4 hbd
  cases bc
 all_goals
  go_wp2_with fail
  go_ret
  exact ⟨Af (by rw [HT.out]; simpa [AP] using HB.out), HB3.out⟩
theorem Lf (A B C : Int) (hc1 : 1 ≤ C) (hc2 : C ≤ 32768) (ho : A = B) (h0 : ¬ A < -C) (h1 : ¬ C < A) (h : A * A + B * B = C * C) (w : World) : Calls Tryz.prog 81 #[.agg #[int i64 A, int i64 B, int i64 C]] w fun e w' => e = .returned (int i64 (AP (CM A B C) 140)) ∧ Below w.heap.size w w' := by
 have pa := CB (a := A) (by omega) (by omega)
 have pb := CB (a := B) (by omega) (by omega)
 have pc := CB (a := C) (by omega) (by omega)
 have HT := qh (Kp hc1 hc2 (by omega) (by omega) (by omega) (by omega) h)
 obtain ⟨x, y, z, bc, hlow, hq, hbc⟩ := FK A B C hc1 (by omega) (by omega) (by omega)
 have HL := qh hlow; clear hlow
 have HB := qh hbc; clear hbc
 subst ho
 have f1 : decide (C < 1) = false := by simpa using by omega
 have f2 : decide (32768 < C) = false := by simpa using by omega
 have f3 : decide (A < -C) = false := by simpa using h0
 have f4 : decide (C < A) = false := by simpa using h1
 have hw1 : IntKind.i64.wrap (A * A) = A * A := IntWalk.i64_in _ (by omega)
 have hw2 : IntKind.i64.wrap (A * A) = A * A := IntWalk.i64_in _ (by omega)
 have hw3 : IntKind.i64.wrap (C * C) = C * C := IntWalk.i64_in _ (by omega)
 have hw4 : IntKind.i64.wrap (A * A + A * A) = A * A + A * A := IntWalk.i64_in _ (by omega)
 have f5 : (A * A + A * A != C * C) = false := by simpa using h
 have hneg : IntKind.i64.wrap (-C) = -C := IntWalk.i64_in _ (by omega)
 clear h h0 h1 pa pb pc
 go_enter Tryz.func81, Tryz.ntmps81
 go_wp2_with fail
 have hS : boxS A A C w.heap.size w (w.alloc (.cells #[int i64 A, int i64 A, int i64 C] 23)) := ⟨A0 (heap_alloc_new w _) 0 rfl, A0 (heap_alloc_new w _) 1 rfl, A0 (heap_alloc_new w _) 2 rfl, (Below.refl _ _).alloc (qn _) _, by simp⟩
 generalize w.alloc (.cells #[int i64 A, int i64 A, int i64 C] 23) = w0 at *
 obtain ⟨c0, c1, c2, c3, c4⟩ := hS
 have hbd := c3.drew
 go_region_held3 (fun w2 => w2.cell? ⟨w.heap.size, 0, none⟩ = some (int i64 A) ∧ w2.cell? ⟨w.heap.size, 1, none⟩ = some (int i64 A) ∧ w2.cell? ⟨w.heap.size, 2, none⟩ = some (int i64 C) ∧ Below w.heap.size w w2 ∧ w.heap.size < w2.heap.size) (first | assumption | exact ⟨c0, c1, c2, hbd, c4⟩ | (refine ⟨?_, ?_, ?_, ?_, ?_⟩ <;> first | assumption | go_keep))
  (first | (go_at_call 114; refine (ES A A C x y z w.heap.size w _ HL.out (by assumption)).mono ?_; rintro e w3 ⟨rfl, hd⟩))
 all_goals
  rename_i hHeld
  have HB3 := qh hHeld.2.2.2.1
  clear hHeld c0 c1 c2 c3 c4 hbd
  cases bc
 all_goals
  go_wp2_with fail
  go_ret
  exact ⟨Af (by rw [HT.out]; simpa [AP] using HB.out), HB3.out⟩
theorem Ky (A B C : Int) (hc1 : 1 ≤ C) (hc2 : C ≤ 32768) (ho : B < A) (h0 : ¬ B < -C) (h1 : ¬ C < A) (h : A * A + B * B = C * C) (w : World) : Calls Tryz.prog 81 #[.agg #[int i64 A, int i64 B, int i64 C]] w fun e w' => e = .returned (int i64 (AP (CM A B C) 140)) ∧ Below w.heap.size w w' := by
 have pa := CB (a := A) (by omega) (by omega)
 have pb := CB (a := B) (by omega) (by omega)
 have pc := CB (a := C) (by omega) (by omega)
 have HT := qh (Kp hc1 hc2 (by omega) (by omega) (by omega) (by omega) h)
 obtain ⟨x, y, z, bc, hlow, hq, hbc⟩ := FK A B C hc1 (by omega) (by omega) (by omega)
 have HL := qh hlow; clear hlow
 have HB := qh hbc; clear hbc
 skip
 have f1 : decide (C < 1) = false := by simpa using by omega
 have f2 : decide (32768 < C) = false := by simpa using by omega
 have f3 : decide (B < -C) = false := by simpa using h0
 have f4 : decide (C < A) = false := by simpa using h1
 have hw1 : IntKind.i64.wrap (A * A) = A * A := IntWalk.i64_in _ (by omega)
 have hw2 : IntKind.i64.wrap (B * B) = B * B := IntWalk.i64_in _ (by omega)
 have hw3 : IntKind.i64.wrap (C * C) = C * C := IntWalk.i64_in _ (by omega)
 have hw4 : IntKind.i64.wrap (A * A + B * B) = A * A + B * B := IntWalk.i64_in _ (by omega)
 have f5 : (A * A + B * B != C * C) = false := by simpa using h
 have hmin : (if B < A then B else A) = B := if_pos ho
 have hmax : (if A < B then B else A) = A := if_neg (by omega)
 have hneg : IntKind.i64.wrap (-C) = -C := IntWalk.i64_in _ (by omega)
 clear h h0 h1 pa pb pc
 go_enter Tryz.func81, Tryz.ntmps81
 go_wp2_with fail
 have hS : boxS A B C w.heap.size w (w.alloc (.cells #[int i64 A, int i64 B, int i64 C] 23)) := ⟨A0 (heap_alloc_new w _) 0 rfl, A0 (heap_alloc_new w _) 1 rfl, A0 (heap_alloc_new w _) 2 rfl, (Below.refl _ _).alloc (qn _) _, by simp⟩
 generalize w.alloc (.cells #[int i64 A, int i64 B, int i64 C] 23) = w0 at *
 obtain ⟨c0, c1, c2, c3, c4⟩ := hS
 have hbd := c3.drew
 go_region_held3 (fun w2 => w2.cell? ⟨w.heap.size, 0, none⟩ = some (int i64 A) ∧ w2.cell? ⟨w.heap.size, 1, none⟩ = some (int i64 B) ∧ w2.cell? ⟨w.heap.size, 2, none⟩ = some (int i64 C) ∧ Below w.heap.size w w2 ∧ w.heap.size < w2.heap.size) (first | assumption | exact ⟨c0, c1, c2, hbd, c4⟩ | (refine ⟨?_, ?_, ?_, ?_, ?_⟩ <;> first | assumption | go_keep))
  (first | (go_at_call 114; refine (ES A B C x y z w.heap.size w _ HL.out (by assumption)).mono ?_; rintro e w3 ⟨rfl, hd⟩))
 all_goals
  rename_i hHeld
  have HB3 := qh hHeld.2.2.2.1
  clear hHeld c0 c1 c2 c3 c4 hbd
  cases bc
 all_goals
  go_wp2_with fail
  go_ret
  exact ⟨Af (by rw [HT.out]; simpa [AP] using HB.out), HB3.out⟩
theorem QV (A B C : Int) (w : World) : Calls Tryz.prog 81 #[.agg #[int i64 A, int i64 B, int i64 C]] w fun e w' => e = .returned (int i64 (AP (CM A B C) 140)) ∧ Below w.heap.size w w' := by
 have bad : CM A B C = false → (Calls Tryz.prog 81 #[.agg #[int i64 A, int i64 B, int i64 C]] w fun e w' => e = .returned (int i64 140) ∧ Below w.heap.size w w') → Calls Tryz.prog 81 #[.agg #[int i64 A, int i64 B, int i64 C]] w fun e w' => e = .returned (int i64 (AP (CM A B C) 140)) ∧ Below w.heap.size w w' :=
  fun h hc => hc.mono fun e w' ⟨he, hb⟩ => ⟨by rw [he, h]; rfl, hb⟩
 by_cases hc : C < 1 ∨ 32768 < C
 ·exact bad (T0 hc) (Rk A B C hc w)
 have hc1 : 1 ≤ C := by omega
 have hc2 : C ≤ 32768 := by omega
 clear hc
 rcases Int.lt_trichotomy A B with ho | ho | ho
 ·by_cases h0 : A < -C
  ·exact bad (Jt (by omega)) (Lb A B C hc1 hc2 ho h0 w)
  by_cases h1 : C < B
  ·exact bad (Jt (by omega)) (Lt A B C hc1 hc2 ho h0 h1 w)
  by_cases h : A * A + B * B = C * C
  ·exact Lw A B C hc1 hc2 ho h0 h1 h w
  ·exact bad (M1 h) (Lc A B C hc1 hc2 ho h0 h1 h w)
 ·by_cases h0 : A < -C
  ·exact bad (Jt (by omega)) (Lo A B C hc1 hc2 ho h0 w)
  by_cases h1 : C < A
  ·exact bad (Jt (by omega)) (LC A B C hc1 hc2 ho h0 h1 w)
  by_cases h : A * A + B * B = C * C
  ·exact Lf A B C hc1 hc2 ho h0 h1 h w
  ·exact bad (M1 h) (KO A B C hc1 hc2 ho h0 h1 h w)
 ·by_cases h0 : B < -C
  ·exact bad (Jt (by omega)) (Ku A B C hc1 hc2 ho h0 w)
  by_cases h1 : C < A
  ·exact bad (Jt (by omega)) (L2 A B C hc1 hc2 ho h0 h1 w)
  by_cases h : A * A + B * B = C * C
  ·exact Ky A B C hc1 hc2 ho h0 h1 h w
  ·exact bad (M1 h) (Li A B C hc1 hc2 ho h0 h1 h w)
end
end Go.Proofs.YtggcbblikgankaaGreatDoor
