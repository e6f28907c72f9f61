/- Contracts and plain laws on the way to the statement: part 17. -/
import Derived.Test.YtggcbblikgankaaGreatDoorZ16
import Derived.Test.YtggcbblikgankaaGreatDoorZ13
import Derived.Test.YtggcbblikgankaaGreatDoorZ7
import Derived.Defers
import Derived.Recover
import Derived.Laws.Pointers
import Derived.IntWalk
import Derived.BigRegion
import Derived.Deep.QuietTactic
import Derived.BigQuiet
set_option linter.unusedVariables false
set_option linter.unusedSimpArgs false
section
namespace Go.Proofs.YtggcbblikgankaaGreatDoor
open Go.RowKit
theorem validate_any (bars : Int) (aT aP aS : Option Addr) (cT cP cS : Nat) (ts : List Tmp) (ps : List Pau) (ss : List Con) (w : World)
  (hT : IsRow encT 3 w (.slice aT ts.length cT) ts) (hP : IsRow encP 4 w (.slice aP ps.length cP) ps) (hS : IsRow encC 4 w (.slice aS ss.length cS) ss) :
  Calls Tryz.prog 113 #[.agg #[.int .i64 bars, .slice aT ts.length cT, .slice aP ps.length cP, .slice aS ss.length cS]] w fun e w' => e = clkEnd ⟨bars, ts, ps, ss⟩ ∧ Below w.heap.size w w' := by
 by_cases h : ts.length < ps.length
 ·by_cases h1 : 4096 < ps.length
  ·exact validate_lim1a bars aT aP aS cT cP cS ts ps ss w hT hP hS h h1
  by_cases h2 : 256 < ss.length
  ·exact validate_lim2a bars aT aP aS cT cP cS ts ps ss w hT hP hS h (by omega) h2
  exact validate_maina bars aT aP aS cT cP cS ts ps ss w hT hP hS h (by omega) (by omega)
 ·by_cases h1 : 4096 < ts.length
  ·exact validate_lim1b bars aT aP aS cT cP cS ts ps ss w hT hP hS (by omega) h1
  by_cases h2 : 256 < ss.length
  ·exact validate_lim2b bars aT aP aS cT cP cS ts ps ss w hT hP hS (by omega) (by omega) h2
  exact validate_mainb bars aT aP aS cT cP cS ts ps ss w hT hP hS (by omega) (by omega) (by omega)
theorem tcatch_idle (p : Addr) (w : World) :
  CallsD Tryz.prog 112 #[.pointer (some p)] .returning w fun e u' w' => e = .returned (.tuple #[]) ∧ u' = .returning ∧ w = w' := by
 refine callsD_of_wpS Tryz.func112 rfl fun c₀ cs hu => ?_
 apply wpS_seq
 apply wpS_region
 simp [wpOpsS, go_sem, recoverD, hu, Tryz.ntmps112, Exit.thenS]
 refine wpS_of_wp ?_
 simp only [Array.replicate]
 go_wp2
 cases c₀
 simp_all [bodyPostS, results, Tryz.results112]
theorem run_errno (c : Int) (w : World) : (Instr.typeAssert (.iface 41 (.int .i64 c)) 20 41 true).run Tryz.prog w = .ok (.tuple #[.int .i64 c, .bool true]) w := by kernel_rfl
theorem run_notnil (c : Int) (w : World) : (binOp .eql 20 (.iface 41 (.int .i64 c)) .nilIface).run Tryz.prog w = .ok (.bool false) w := by kernel_rfl
set_option maxHeartbeats 1000000 in
theorem tcatch_panicking (B : Nat) (c : Int) (x : Value) (older : List PanicEntry) (w : World) (h0 : w.heap[B]? = some (.cells #[x] 41 (0, 0))) :
  CallsD Tryz.prog 112 #[.pointer (some ⟨B, 0, none⟩)] (.panicking ({ v := .iface 41 (.int .i64 c), recovered := false } :: older)) w fun e u' w' =>
   e = .returned (.tuple #[]) ∧ u' = .panicking ({ v := .iface 41 (.int .i64 c), recovered := true } :: older) ∧ w'.heap[B]? = some (.cells #[.int .i64 c] 41 (0, 0)) ∧ Below B w w' := by
 have c0 := cell_of_one h0
 have f0 := free_of_one h0
 have H0 := Lib.hid h0; clear h0
 refine callsD_of_wpS Tryz.func112 rfl fun c₀ cs hu => ?_
 apply wpS_seq
 apply wpS_region
 simp [wpOpsS, go_sem, recoverD, hu, Tryz.ntmps112, Exit.thenS]
 refine wpS_of_wp ?_
 have hta := run_errno
 have hnn := run_notnil
 simp only [Array.replicate]
 go_wp2
 exact ⟨rfl, _, rfl, .tuple #[], results_none rfl _ _ _, rfl, rfl, one_setCell H0.out, (Below.refl B w).setCell (p := ⟨B, 0, none⟩) (Nat.le_refl _) _⟩
set_option maxHeartbeats 1000000 in
theorem tdoor_err (t : Array Value) (B : Nat) (c : Int) (R : Ending → World → Prop) (w2 : World) (x : Value) (ht2 : t.getD 2 undef = .pointer (some ⟨B, 0, none⟩))
  (h0 : w2.heap[B]? = some (.cells #[x] 41 (0, 0))) (hR : ∀ w', Below B w2 w' → R (.returned (.int .i64 c)) w') :
  bodyPostD Tryz.prog Tryz.f79 R (Exit.panic [{ v := .iface 41 (.int .i64 c), recovered := false }])
   { tmps := t, defers := [{ target := .fn (.func 112) #[.pointer (some ⟨B, 0, none⟩)], args := #[] }] } w2 := by
 have HR := Lib.hid hR; clear hR
 refine leaves_cons (f := 112) (args := #[.pointer (some ⟨B, 0, none⟩)]) (by simp) (by simp [go_sem]) ?_
 refine (tcatch_panicking B c x [] _ h0).mono ?_
 rintro e u' w'' ⟨rfl, rfl, k0, hB⟩
 have c0 := cell_of_one k0
 simp at ht2
 have HB := Lib.hid hB; clear hB k0 h0
 simp [Leaves, settle, results, Tryz.results79, go_sem, ht2, c0]
 exact HR.out _ HB.out
set_option maxHeartbeats 1000000 in
theorem tdoor_ok (t : Array Value) (B : Nat) (R : Ending → World → Prop) (w2 : World) (x : Value) (ht2 : t.getD 2 undef = .pointer (some ⟨B, 0, none⟩))
  (h0 : w2.cell? ⟨B, 0, none⟩ = some x) (hR : R (.returned x) w2) :
  bodyPostD Tryz.prog Tryz.f79 R Exit.ret { tmps := t, defers := [{ target := .fn (.func 112) #[.pointer (some ⟨B, 0, none⟩)], args := #[] }] } w2 := by
 have HR := Lib.hid hR; clear hR
 simp at ht2
 refine leaves_cons (f := 112) (args := #[.pointer (some ⟨B, 0, none⟩)]) (by simp) (by simp [go_sem]) ?_
 refine (tcatch_idle _ _).mono ?_
 rintro e u' w'' ⟨rfl, rfl, rfl⟩
 simp [Leaves, settle, results, Tryz.results79, go_sem, ht2, h0]
 exact HR.out
set_option maxHeartbeats 1000000 in
theorem tcheck_any (bars : Int) (aT aP aS : Option Addr) (cT cP cS : Nat) (ts : List Tmp) (ps : List Pau) (ss : List Con) (w : World)
  (hT : IsRow encT 3 w (.slice aT ts.length cT) ts) (hP : IsRow encP 4 w (.slice aP ps.length cP) ps) (hS : IsRow encC 4 w (.slice aS ss.length cS) ss) :
  Calls Tryz.prog 79 #[.agg #[.int .i64 bars, .slice aT ts.length cT, .slice aP ps.length cP, .slice aS ss.length cS]] w fun e w' => e = .returned (.int .i64 (clkE ⟨bars, ts, ps, ss⟩)) ∧ Below w.heap.size w w' := by
 have hmf : ∀ (fn : Fn) (first cap : Array Value) (w : World), (Instr.makeFunc fn first cap).run Tryz.prog w = .ok (.func fn first cap) w := fun _ _ _ _ => rfl
 have hv := fun (w : World) h1 h2 h3 => validate_any bars aT aP aS cT cP cS ts ps ss w h1 h2 h3
 generalize hclk : (⟨bars, ts, ps, ss⟩ : Clk) = clk at *
 have HT := Lib.hid hT; have HP := Lib.hid hP; have HS := Lib.hid hS; have HV := Lib.hid hv
 clear hT hP hS hclk hv
 generalize ts.length = nT at *
 generalize ps.length = nP at *
 generalize ss.length = nS at *
 have b0 : Below w.heap.size w ((w.alloc (.cells #[.int .i64 bars, .slice aT nT cT, .slice aP nP cP, .slice aS nS cS] 29)).alloc (.cells #[.int .i64 0] 41)) := ((Below.refl _ w).alloc (Nat.le_refl _) _).alloc (by simp) _
 have hz : ((w.alloc (.cells #[.int .i64 bars, .slice aT nT cT, .slice aP nP cP, .slice aS nS cS] 29)).alloc (.cells #[.int .i64 0] 41)).heap.size = w.heap.size + 2 := by simp
 have g0 : ((w.alloc (.cells #[.int .i64 bars, .slice aT nT cT, .slice aP nP cP, .slice aS nS cS] 29)).alloc (.cells #[.int .i64 0] 41)).heap[w.heap.size]? = some (.cells #[.int .i64 bars, .slice aT nT cT, .slice aP nP cP, .slice aS nS cS] 29 (0, 0)) := by
  rw [Below.heap_alloc _ _ _ (by simp)]; exact heap_alloc_new w _
 have g1 : ((w.alloc (.cells #[.int .i64 bars, .slice aT nT cT, .slice aP nP cP, .slice aS nS cS] 29)).alloc (.cells #[.int .i64 0] 41)).heap[w.heap.size + 1]? = some (.cells #[.int .i64 0] 41 (0, 0)) := by
  have := heap_alloc_new (w.alloc (.cells #[.int .i64 bars, .slice aT nT cT, .slice aP nP cP, .slice aS nS cS] 29)) (.cells #[.int .i64 0] 41); simpa using this
 go_enter_defers Tryz.func79, Tryz.ntmps79
 go_wp2_with fail
 generalize (w.alloc (.cells #[.int .i64 bars, .slice aT nT cT, .slice aP nP cP, .slice aS nS cS] 29)).alloc (.cells #[.int .i64 0] 41) = w0 at *
 refine (HV.out w0 (HT.out.below b0 (Nat.le_refl _)) (HP.out.below b0 (Nat.le_refl _)) (HS.out.below b0 (Nat.le_refl _))).mono ?_
 rintro e w1 ⟨rfl, b1⟩
 have y1 := (b1.block _ (by omega)).trans g1
 have HB := Lib.hid (b0.trans (b1.mono (by omega)))
 have Y1 := Lib.hid y1
 clear b0 b1 g0 hz y1 g1
 by_cases hc : clkE clk = 0
 ·have HC := Lib.hid hc
  unfold clkEnd
  rw [if_pos hc]
  clear hc
  have c1 := cell_of_one Y1.out
  have f1 := free_of_one Y1.out
  go_wp2_with fail
  refine tdoor_ok _ (w.heap.size + 1) _ _ (.int .i64 0) rfl (cell_of_one (one_setCell Y1.out)) ⟨ret_i64 HC.out.symm, HB.out.setCell (p := ⟨w.heap.size + 1, 0, none⟩) (by show w.heap.size ≤ w.heap.size + 1; omega) _⟩
 ·have HC := Lib.hid hc
  unfold clkEnd
  rw [if_neg hc]
  unfold errPanic
  clear hc
  go_wp2_with fail
  refine tdoor_err _ (w.heap.size + 1) _ _ _ (.int .i64 0) rfl Y1.out (fun w' hb => ⟨rfl, HB.out.trans (hb.mono (by omega))⟩)
end Go.Proofs.YtggcbblikgankaaGreatDoor
end
section
namespace Go.Proofs.YtggcbblikgankaaGreatDoor
open Go.RowKit
theorem tmod_gcd (d n : Int) : Nat.gcd n.natAbs (d.tmod n).natAbs = Nat.gcd d.natAbs n.natAbs := by
 rw [Int.natAbs_tmod, Nat.gcd_comm n.natAbs, ← Nat.gcd_rec, Nat.gcd_comm]
theorem tmod_lt (d n : Int) (h : n ≠ 0) : (d.tmod n).natAbs < n.natAbs := by
 rw [Int.natAbs_tmod]; exact Nat.mod_lt _ (by omega)
theorem abs_tmod_bd {d n : Int} (h1 : -1073741824 ≤ d) (h2 : d ≤ 1073741824) : -1073741824 ≤ d.tmod n ∧ d.tmod n ≤ 1073741824 := by
 have : (d.tmod n).natAbs ≤ d.natAbs := by rw [Int.natAbs_tmod]; exact Nat.mod_le _ _
 omega
set_option maxRecDepth 100000 in
set_option maxHeartbeats 2000000 in
theorem common_any (g : Nat) (A B C : Int) (w : World) (hA : -1073741824 ≤ A ∧ A ≤ 1073741824) (hB : -1073741824 ≤ B ∧ B ≤ 1073741824) (hC : -1073741824 ≤ C ∧ C ≤ 1073741824) (hg : w.heap[g]? = some (.cells #[.int .i64 A, .int .i64 B, .int .i64 C] 3 (0, 0))) :
  Calls Tryz.prog 134 #[.slice (some ⟨g, 0, none⟩) 3 3] w fun e w' => e = .returned (.int .i64 ((Nat.gcd (Nat.gcd A.natAbs B.natAbs) C.natAbs : Nat) : Int)) ∧ ∃ k, w' = w.drewN k := by
 have HG := Lib.hid hg; clear hg
 go_enter Tryz.func134, Tryz.ntmps134
 go_wp2_with fail
 go_loopw [2, 7] (fun dv iv wr => ∃ (z d : Int) (k : Nat), iv = .int .i64 z ∧ dv = .int .i64 d ∧ -1073741824 ≤ d ∧ d ≤ 1073741824 ∧ wr = w.drewN k ∧
   ((z = 0 ∧ d = 0) ∨ (z = 1 ∧ Hid (d.natAbs = A.natAbs)) ∨ (z = 2 ∧ Hid (d.natAbs = Nat.gcd A.natAbs B.natAbs)) ∨ (z = 3 ∧ Hid (d.natAbs = Nat.gcd (Nat.gcd A.natAbs B.natAbs) C.natAbs)))) (fun _ iv _ => (3 - intOf iv).toNat)
 case atStart => exact ⟨0, 0, 0, rfl, rfl, by omega, by omega, rfl, Or.inl ⟨rfl, rfl⟩⟩
 case round =>
  obtain ⟨z, d, k, rfl, rfl, hd1, hd2, rfl, hz⟩ := hrel
  rcases hz with ⟨rfl, rfl⟩ | ⟨rfl, hd⟩ | ⟨rfl, hd⟩ | ⟨rfl, hd⟩
  ·have e0 : (w.drewN k).cell? ⟨g, 0, none⟩ = some (.int .i64 A) := cell_at HG.out 0 rfl
   have hb1 := hA.1
   have hb2 := hA.2
   go_wp2_with fail
   clear e0
   go_loopw [2, 4] (fun dv nv wr => ∃ (d n : Int) (k : Nat), dv = .int .i64 d ∧ nv = .int .i64 n ∧ -1073741824 ≤ d ∧ d ≤ 1073741824 ∧ -1073741824 ≤ n ∧ n ≤ 1073741824 ∧ wr = w.drewN k ∧ Hid (Nat.gcd d.natAbs n.natAbs = A.natAbs)) (fun _ nv _ => (intOf nv).natAbs)
   case atStart => exact ⟨_, _, k, rfl, rfl, by omega, by omega, hb1, hb2, rfl, Lib.hid (by rw [show (0 : Int).natAbs = 0 from rfl, Nat.gcd_zero_left])⟩
   case round =>
    clear hb1 hb2 hd1 hd2
    obtain ⟨d, n, k, rfl, rfl, hd1, hd2, hn1, hn2, rfl, hgc⟩ := hrel
    by_cases hn : n = 0
    ·have f1 : (n != 0) = false := by simpa using hn
     have HN0 := Lib.hid hn; clear hn
     go_wp2_with fail
     go_roundw
     case rel => exact ⟨1, d, k, by go_num, rfl, hd1, hd2, rfl, Or.inr (Or.inl ⟨rfl, Lib.hid (by have h1 := hgc.out; rw [HN0.out, show (0 : Int).natAbs = 0 from rfl, Nat.gcd_zero_right] at h1; exact h1)⟩)⟩
     case measure => simp [intOf]
    ·have f1 : (n != 0) = true := by simpa using hn
     have hlt := tmod_lt d n hn
     have hb := abs_tmod_bd hd1 hd2 (n := n)
     have hb1 := hb.1
     have hb2 := hb.2
     have hwr : IntKind.i64.wrap (d.tmod n) = d.tmod n := IntWalk.i64_in _ (by omega)
     have HW := Lib.hid hwr; have HLT := Lib.hid hlt
     clear hb hwr hlt
     generalize hm : d.tmod n = m at *
     have HM := Lib.hid hm; clear hm
     go_wp2_with fail
     go_quiet (fail)
     try rw [HM.out]
     try rw [HW.out]
     go_wp2_with fail
     go_roundw
     case rel => exact ⟨n, m, k + nq, rfl, rfl, hn1, hn2, hb1, hb2, by simp, Lib.hid (by rw [← HM.out, tmod_gcd]; exact hgc.out)⟩
     case measure => simp [intOf]; exact HLT.out
  ·have e0 : (w.drewN k).cell? ⟨g, 1, none⟩ = some (.int .i64 B) := cell_at HG.out 1 rfl
   have hb1 := hB.1
   have hb2 := hB.2
   go_wp2_with fail
   clear e0
   go_loopw [2, 4] (fun dv nv wr => ∃ (d n : Int) (k : Nat), dv = .int .i64 d ∧ nv = .int .i64 n ∧ -1073741824 ≤ d ∧ d ≤ 1073741824 ∧ -1073741824 ≤ n ∧ n ≤ 1073741824 ∧ wr = w.drewN k ∧ Hid (Nat.gcd d.natAbs n.natAbs = Nat.gcd A.natAbs B.natAbs)) (fun _ nv _ => (intOf nv).natAbs)
   case atStart => exact ⟨_, _, k, rfl, rfl, by omega, by omega, hb1, hb2, rfl, Lib.hid (by rw [hd.out])⟩
   case round =>
    clear hb1 hb2 hd1 hd2 hd
    obtain ⟨d, n, k, rfl, rfl, hd1, hd2, hn1, hn2, rfl, hgc⟩ := hrel
    by_cases hn : n = 0
    ·have f1 : (n != 0) = false := by simpa using hn
     have HN0 := Lib.hid hn; clear hn
     go_wp2_with fail
     go_roundw
     case rel => exact ⟨2, d, k, by go_num, rfl, hd1, hd2, rfl, Or.inr (Or.inr (Or.inl ⟨rfl, Lib.hid (by have h1 := hgc.out; rw [HN0.out, show (0 : Int).natAbs = 0 from rfl, Nat.gcd_zero_right] at h1; exact h1)⟩))⟩
     case measure => simp [intOf]
    ·have f1 : (n != 0) = true := by simpa using hn
     have hlt := tmod_lt d n hn
     have hb := abs_tmod_bd hd1 hd2 (n := n)
     have hb1 := hb.1
     have hb2 := hb.2
     have hwr : IntKind.i64.wrap (d.tmod n) = d.tmod n := IntWalk.i64_in _ (by omega)
     have HW := Lib.hid hwr; have HLT := Lib.hid hlt
     clear hb hwr hlt
     generalize hm : d.tmod n = m at *
     have HM := Lib.hid hm; clear hm
     go_wp2_with fail
     go_quiet (fail)
     try rw [HM.out]
     try rw [HW.out]
     go_wp2_with fail
     go_roundw
     case rel => exact ⟨n, m, k + nq, rfl, rfl, hn1, hn2, hb1, hb2, by simp, Lib.hid (by rw [← HM.out, tmod_gcd]; exact hgc.out)⟩
     case measure => simp [intOf]; exact HLT.out
  ·have e0 : (w.drewN k).cell? ⟨g, 2, none⟩ = some (.int .i64 C) := cell_at HG.out 2 rfl
   have hb1 := hC.1
   have hb2 := hC.2
   go_wp2_with fail
   clear e0
   go_loopw [2, 4] (fun dv nv wr => ∃ (d n : Int) (k : Nat), dv = .int .i64 d ∧ nv = .int .i64 n ∧ -1073741824 ≤ d ∧ d ≤ 1073741824 ∧ -1073741824 ≤ n ∧ n ≤ 1073741824 ∧ wr = w.drewN k ∧ Hid (Nat.gcd d.natAbs n.natAbs = Nat.gcd (Nat.gcd A.natAbs B.natAbs) C.natAbs)) (fun _ nv _ => (intOf nv).natAbs)
   case atStart => exact ⟨_, _, k, rfl, rfl, by omega, by omega, hb1, hb2, rfl, Lib.hid (by rw [hd.out])⟩
   case round =>
    clear hb1 hb2 hd1 hd2 hd
    obtain ⟨d, n, k, rfl, rfl, hd1, hd2, hn1, hn2, rfl, hgc⟩ := hrel
    by_cases hn : n = 0
    ·have f1 : (n != 0) = false := by simpa using hn
     have HN0 := Lib.hid hn; clear hn
     go_wp2_with fail
     go_roundw
     case rel => exact ⟨3, d, k, by go_num, rfl, hd1, hd2, rfl, Or.inr (Or.inr (Or.inr ⟨rfl, Lib.hid (by have h1 := hgc.out; rw [HN0.out, show (0 : Int).natAbs = 0 from rfl, Nat.gcd_zero_right] at h1; exact h1)⟩))⟩
     case measure => simp [intOf]
    ·have f1 : (n != 0) = true := by simpa using hn
     have hlt := tmod_lt d n hn
     have hb := abs_tmod_bd hd1 hd2 (n := n)
     have hb1 := hb.1
     have hb2 := hb.2
     have hwr : IntKind.i64.wrap (d.tmod n) = d.tmod n := IntWalk.i64_in _ (by omega)
     have HW := Lib.hid hwr; have HLT := Lib.hid hlt
     clear hb hwr hlt
     generalize hm : d.tmod n = m at *
     have HM := Lib.hid hm; clear hm
     go_wp2_with fail
     go_quiet (fail)
     try rw [HM.out]
     try rw [HW.out]
     go_wp2_with fail
     go_roundw
     case rel => exact ⟨n, m, k + nq, rfl, rfl, hn1, hn2, hb1, hb2, by simp, Lib.hid (by rw [← HM.out, tmod_gcd]; exact hgc.out)⟩
     case measure => simp [intOf]; exact HLT.out
  ·go_wp2_with fail
   all_goals
    go_ret
    exact ⟨ret_i64 (by rw [← hd.out]; omega), k, rfl⟩
theorem free_at {w : World} {g : Nat} {xs : Array Value} {t : TypeId} (h : w.heap[g]? = some (.cells xs t (0, 0))) (r : Nat) : w.frozen? ⟨g, r, none⟩ = false := by
 simp [World.frozen?, h]
def gcd3 (a b c : Int) : Int := ((Nat.gcd (Nat.gcd a.natAbs b.natAbs) c.natAbs : Nat) : Int)
set_option maxRecDepth 100000 in
set_option maxHeartbeats 2000000 in
theorem lowest_any (A B C : Int) (w : World) (hA : -1073741824 ≤ A ∧ A ≤ 1073741824) (hB : -1073741824 ≤ B ∧ B ≤ 1073741824) (hC : 1 ≤ C ∧ C ≤ 1073741824) :
  Calls Tryz.prog 114 #[.agg #[.int .i64 A, .int .i64 B, .int .i64 C]] w fun e w' => e = .returned (.agg #[.int .i64 (A.tdiv (gcd3 A B C)), .int .i64 (B.tdiv (gcd3 A B C)), .int .i64 (C / gcd3 A B C)]) ∧ Below w.heap.size w w' := by
 have hg1 : 1 ≤ gcd3 A B C := by
  unfold gcd3
  have : 0 < Nat.gcd (Nat.gcd A.natAbs B.natAbs) C.natAbs := Nat.gcd_pos_of_pos_right _ (by omega)
  omega
 have hcom := fun (g : Nat) (w : World) hg => common_any g A B C w hA hB ⟨by omega, hC.2⟩ hg
 have HC := Lib.hid hcom; clear hcom
 obtain ⟨g0, g1, g2, hz, b0⟩ := blocks3 w (.cells #[.int .i64 A, .int .i64 B, .int .i64 C] 23) (.cells #[.int .i64 0, .int .i64 0, .int .i64 0] 23) (.cells #[.int .i64 A, .int .i64 B, .int .i64 C] 3)
 go_enter Tryz.func114, Tryz.ntmps114
 go_wp2_with fail
 generalize (((w.alloc (.cells #[.int .i64 A, .int .i64 B, .int .i64 C] 23)).alloc (.cells #[.int .i64 0, .int .i64 0, .int .i64 0] 23)).alloc (.cells #[.int .i64 A, .int .i64 B, .int .i64 C] 3)) = w0 at *
 refine (HC.out (w.heap.size + 1 + 1) w0 g2).mono ?_
 rintro e w1 ⟨rfl, k, rfl⟩
 have hgd : ((Nat.gcd (Nat.gcd A.natAbs B.natAbs) C.natAbs : Nat) : Int) = gcd3 A B C := rfl
 rw [hgd]
 have hB9 := Lib.hid (below_drewN b0 k)
 have k0 : (w0.drewN k).heap[w.heap.size]? = some (.cells #[.int .i64 A, .int .i64 B, .int .i64 C] 23 (0, 0)) := g0
 have k1 : (w0.drewN k).heap[w.heap.size + 1]? = some (.cells #[.int .i64 0, .int .i64 0, .int .i64 0] 23 (0, 0)) := g1
 have hz1 : w.heap.size + 1 < (w0.drewN k).heap.size := by show w.heap.size + 1 < w0.heap.size; omega
 clear g0 g1 g2 hz b0 hgd
 generalize w0.drewN k = w2 at *
 have c0 := cell_at k0 0 rfl; have c1 := cell_at k0 1 rfl; have c2 := cell_at k0 2 rfl
 have d0 := cell_at k1 0 rfl; have d1 := cell_at k1 1 rfl; have d2 := cell_at k1 2 rfl
 have q0 := free_at k1 0; have q1 := free_at k1 1; have q2 := free_at k1 2
 generalize hgg : gcd3 A B C = G at *
 have HGG := Lib.hid hgg; clear hgg
 have hne : ¬ G = 0 := by omega
 have K1 := Lib.hid k1
 clear k0 k1
 go_wp2_with fail
 go_region
 all_goals
  go_wp2
  have hBf := Lib.hid ((((hB9.out.setCell (p := ⟨w.heap.size + 1, 0, none⟩) (by show w.heap.size ≤ w.heap.size + 1; omega) (.int .i64 (A.tdiv G))).setCell (p := ⟨w.heap.size + 1, 1, none⟩) (by show w.heap.size ≤ w.heap.size + 1; omega) (.int .i64 (B.tdiv G))).setCell (p := ⟨w.heap.size + 1, 2, none⟩) (by show w.heap.size ≤ w.heap.size + 1; omega) (.int .i64 (C / G))).drew)
  refine bodyPost_ret (v := .agg #[.int .i64 (A.tdiv G), .int .i64 (B.tdiv G), .int .i64 (C / G)]) ?_ rfl ⟨by rw [HGG.out], hBf.out⟩
  simp [results, Tryz.results114, go_sem, d0, d1, d2]
end Go.Proofs.YtggcbblikgankaaGreatDoor
end
