/- Contracts and plain laws on the way to the statement: part 16. -/
import Derived.Test.YtggcbblikgankaaGreatDoorZ14
import Derived.Test.YtggcbblikgankaaGreatDoorZ2
import Derived.IntWalk
import Derived.Deep.RegionHeld3
import Derived.Test.YtggcbblikgankaaGreatDoorZ3
set_option linter.unusedVariables false
set_option linter.unusedSimpArgs false
set_option maxRecDepth 100000
set_option maxHeartbeats 16000000
namespace Go.Proofs.YtggcbblikgankaaGreatDoor
open Go.Value (int)
open Go.IntKind (i64)
section
open Go.RowKit
def A9 (c : Int) : Ending := .panicked [{ v := .iface 41 (int i64 c), recovered := false }]
theorem C1 (c : Int) (w : World) : Calls Tryz.prog 131 #[.bool true, int i64 c] w fun e w' => e = .returned (.tuple #[]) ∧ w = w' := by
 go_enter Tryz.func131, Tryz.ntmps131
 go_wp2
 go_end0
 exact ⟨rfl, rfl⟩
theorem Ae (c : Int) (w : World) : Calls Tryz.prog 131 #[.bool false, int i64 c] w fun e w' => e = A9 c ∧ w = w' := by
 go_enter Tryz.func131, Tryz.ntmps131
 go_wp2
 exact ⟨rfl, rfl, rfl⟩
def Bq (t : Tmp) : List Value := [int i64 t.bar, int i64 t.ticks, int i64 t.step]
theorem atT {w : World} {b o i : Nat} {ts : List Tmp} {t : Tmp} (h : AtRow Bq 3 w b o ts) (ht : ts[i]? = some t) :
  w.cell? ⟨b, o + i * 3, none⟩ = some (int i64 t.bar) ∧ w.cell? ⟨b, o + i * 3 + 1, none⟩ = some (int i64 t.ticks) ∧ w.cell? ⟨b, o + i * 3 + 2, none⟩ = some (int i64 t.step) :=
 ⟨h i t ht 0 _ rfl, h i t ht 1 _ rfl, h i t ht 2 _ rfl⟩
theorem OQ (i : Nat) (bar : Int) (C D b o n c : Nat) (ts : List Tmp) (t : Tmp) (w : World) (hn : ts.length = n) (ht : ts[i]? = some t) (hc : w.cell? ⟨C, 1, none⟩ = some (.slice (some ⟨b, o, none⟩) n c)) (hd : w.cell? ⟨D, 0, none⟩ = some (int i64 bar)) (hr : AtRow Bq 3 w b o ts) :
  Calls Tryz.prog 148 #[int i64 i, .pointer (some ⟨C, 0, none⟩), .pointer (some ⟨D, 0, none⟩)] w fun e w' => e = .returned (.bool (decide (bar < t.bar))) ∧ ∃ k, w' = w.drewN k := by
 have hlt : i < n := by rw [← hn]; exact (ql.1 ht).1
 have hlt' : (0 : Int) ≤ i ∧ (i : Int) < n := by omega
 obtain ⟨p0, _, _⟩ := atT hr ht
 have HT := qh ht; have HN := qh hn; clear ht hn hr
 go_enter Tryz.func148, Tryz.ntmps148
 go_wp2_with fail
 go_quiet (fail)
 go_wp2
 go_ret
 exact ⟨rfl, _, rfl⟩
theorem Mf (bar : Int) (C D b o n c : Nat) (ts : List Tmp) (w : World) (hs : C0 ts) (hn : ts.length = n) (hm : n ≤ 65536) (hc : w.cell? ⟨C, 1, none⟩ = some (.slice (some ⟨b, o, none⟩) n c)) (hd : w.cell? ⟨D, 0, none⟩ = some (int i64 bar)) (hr : AtRow Bq 3 w b o ts) :
  Calls Tryz.prog 147 #[int i64 n, .func (.func 148) #[] #[.pointer (some ⟨C, 0, none⟩), .pointer (some ⟨D, 0, none⟩)]] w fun e w' => e = .returned (int i64 (BO ts bar)) ∧ ∃ k, w' = w.drewN k := by
 have hu := EI ts bar
 have HS := qh hs; have HN := qh hn; have HC := qh hc; have HD := qh hd; have HR := qh hr
 rw [hn] at hu
 clear hs hn hc hd hr
 go_enter Tryz.func147, Tryz.ntmps147
 go_wp2_with fail
 go_loopw [5, 6] (fun x y wr => ∃ i j k : Nat, x = int i64 i ∧ y = int i64 j ∧ i ≤ BO ts bar ∧ BO ts bar ≤ j ∧ j ≤ n ∧ wr = w.drewN k) (fun x y _ => (intOf y - intOf x).toNat)
 case atStart => exact ⟨0, n, 0, rfl, rfl, Nat.zero_le _, hu, qn _, rfl⟩
 case round =>
  obtain ⟨i, j, k, rfl, rfl, h1, h2, h3, rfl⟩ := hrel
  by_cases hij : i < j
  ·obtain ⟨t, ht⟩ : ∃ t, ts[(i + j) / 2]? = some t := ⟨_, qg (by rw [HN.out]; omega)⟩
   have hij' : (i : Int) < (j : Int) := by omega
   obtain ⟨m, hm2⟩ : ∃ m : Nat, m = (i + j) / 2 := ⟨_, rfl⟩
   have hmid : ((i : Int) + (j : Int)) / 2 = (m : Int) := by omega
   have HM := qh hmid
   rw [← hm2] at ht
   have hiff := BL (bar := bar) HS.out ht
   have hm3 : i ≤ m := by omega
   have hm4 : m < j := by omega
   have HT := qh ht
   clear ht hmid hm2
   go_wp2_with fail
   rw [HM.out]
   refine (OQ m bar C D b o n c ts t (w.drewN k) HN.out HT.out HC.out HD.out HR.out).mono ?_
   rintro e w' ⟨rfl, k2, rfl⟩
   by_cases hb : bar < t.bar
   ·have h4 : BO ts bar ≤ m := by
     rcases Nat.lt_or_ge m (BO ts bar) with h | h
     ·have := hiff.2 h; omega
     ·exact h
    clear hiff
    go_wp2_with fail
    go_roundw
    case rel => exact ⟨i, m, k + k2, rfl, rfl, h1, h4, by omega, by simp [World.drewN]⟩
    case measure => simp [intOf]; omega
   ·have h4 : m < BO ts bar := hiff.1 (by omega)
    have hb' : decide (bar < t.bar) = false := by simpa using hb
    clear hiff hb
    go_wp2_with fail
    go_roundw
    case rel => exact ⟨m + 1, j, k + k2, by go_num, rfl, by omega, h2, h3, by simp [World.drewN]⟩
    case measure => simp [intOf]; omega
  ·have hij' : ¬ (i : Int) < (j : Int) := by omega
   obtain rfl : i = BO ts bar := by omega
   go_wp2_with fail
   go_ret
   exact ⟨rfl, _, rfl⟩
theorem E3 {w : World} {o : Obj} {a : Addr} {v : Value} (h : w.cell? a = some v) : (w.alloc o).drew.cell? a = some v :=
 (((Below.refl w.heap.size w).alloc (qn _) o).cell (p := a) (AF h)).trans h
theorem Ii {w : World} {o : Obj} {b c : Nat} {ts : List Tmp} (h : AtRow Bq 3 w b c ts) (hb : b < w.heap.size) : AtRow Bq 3 (w.alloc o).drew b c ts :=
 h.below (((Below.refl w.heap.size w).alloc (qn _) o).drew) hb
theorem Nv {a b : Int} (h1 : -4096 ≤ a) (h2 : a ≤ 4096) (h3 : -65536 ≤ b) (h4 : b ≤ 65536) : -268435456 ≤ a * b ∧ a * b ≤ 268435456 := by
 have hx : (a * b).natAbs ≤ 268435456 := by
  rw [Int.natAbs_mul]
  calc a.natAbs * b.natAbs ≤ 4096 * 65536 := Nat.mul_le_mul (by omega) (by omega)
   _ = 268435456 := by decide
 omega
def GW (ts : List Tmp) (bar : Int) : Prop := C0 ts ∧ 0 < BO ts bar ∧ 0 ≤ bar ∧ bar ≤ 4096 ∧ ∀ t ∈ ts, 0 ≤ t.bar ∧ t.bar ≤ 4096 ∧ -65536 ≤ t.ticks ∧ t.ticks ≤ 65536 ∧ -65536 ≤ t.step ∧ t.step ≤ 65536
theorem J7 (bars bar : Int) (b o n c : Nat) (vp vs : Value) (ts : List Tmp) (w : World) (hn : ts.length = n) (hm : n ≤ 65536) (hr : AtRow Bq 3 w b o ts) (hb : b < w.heap.size) (hw : GW ts bar) :
  Calls Tryz.prog 133 #[.agg #[int i64 bars, .slice (some ⟨b, o, none⟩) n c, vp, vs], int i64 bar] w fun e w' => e = .returned (int i64 (AH ts bar)) ∧ Below w.heap.size w w' := by
 obtain ⟨hs, hu, hb1, hb2, hall⟩ := hw
 have hul := EI ts bar
 rw [hn] at hul
 obtain ⟨t, ht⟩ : ∃ t, ts[BO ts bar - 1]? = some t := ⟨_, qg (by omega)⟩
 have htk : AH ts bar = t.ticks + (bar - t.bar) * t.step := by
  unfold AH; rw [List.getElem!_eq_getElem?_getD, ht]; rfl
 obtain ⟨q1, q2, q3, q4, q5, q6⟩ := hall t (List.mem_of_getElem? ht)
 have HTK := qh htk; have HT := qh ht; have HS := qh hs; have HN := qh hn; have HR := qh hr
 clear htk ht hs hn hr hall
 have hB0 : Below w.heap.size w ((w.alloc (.cells #[int i64 bars, .slice (some ⟨b, o, none⟩) n c, vp, vs] 29)).alloc (.cells #[int i64 bar] 3)) := ((Below.refl _ w).alloc (qn _) _).alloc (by simp) _
 have hz : ((w.alloc (.cells #[int i64 bars, .slice (some ⟨b, o, none⟩) n c, vp, vs] 29)).alloc (.cells #[int i64 bar] 3)).heap.size = w.heap.size + 2 := by simp
 have g0 : ((w.alloc (.cells #[int i64 bars, .slice (some ⟨b, o, none⟩) n c, vp, vs] 29)).alloc (.cells #[int i64 bar] 3)).heap[w.heap.size]? = some (.cells #[int i64 bars, .slice (some ⟨b, o, none⟩) n c, vp, vs] 29 (0, 0)) := by
  rw [Below.heap_alloc _ _ _ (by simp)]; exact heap_alloc_new w _
 have g1 : ((w.alloc (.cells #[int i64 bars, .slice (some ⟨b, o, none⟩) n c, vp, vs] 29)).alloc (.cells #[int i64 bar] 3)).heap[w.heap.size + 1]? = some (.cells #[int i64 bar] 3 (0, 0)) := by
  have := heap_alloc_new (w.alloc (.cells #[int i64 bars, .slice (some ⟨b, o, none⟩) n c, vp, vs] 29)) (.cells #[int i64 bar] 3); simpa using this
 have hmf : ∀ (fn : Fn) (first cap : Array Value) (w : World), (Instr.makeFunc fn first cap).run Tryz.prog w = .ok (.func fn first cap) w := fun _ _ _ _ => rfl
 go_enter Tryz.func133, Tryz.ntmps133
 go_wp2_with fail
 generalize (w.alloc (.cells #[int i64 bars, .slice (some ⟨b, o, none⟩) n c, vp, vs] 29)).alloc (.cells #[int i64 bar] 3) = w0 at *
 have c1 : w0.cell? ⟨w.heap.size, 1, none⟩ = some (.slice (some ⟨b, o, none⟩) n c) := A0 g0 1 rfl
 have d0 : w0.cell? ⟨w.heap.size + 1, 0, none⟩ = some (int i64 bar) := A0 g1 0 rfl
 have HR0 := qh (HR.out.below hB0 hb)
 obtain ⟨p0, p1, p2⟩ := atT HR0.out HT.out
 have hb3 : b < w0.heap.size := by omega
 have hb4 : w.heap.size < w0.heap.size := by omega
 have hb5 : w.heap.size + 1 < w0.heap.size := by omega
 have HB0 := qh hB0
 clear hz g0 g1 hB0
 generalize hgm : BO ts bar - 1 = m at *
 have hsum : IntKind.i64.wrap (((BO ts bar : Nat) : Int) - 1) = (m : Int) := by rw [IntWalk.i64_in _ (by omega)]; omega
 have hin : (0 : Int) ≤ (m : Int) ∧ (m : Int) < n := by omega
 have hin1 := hin.1
 have hin2 := hin.2
 have htn : ((m : Int)).toNat = m := by omega
 have HGM := qh hgm
 clear hgm hin
 have hal : ∀ k o, (w0.drewN k).alloc o = (w0.alloc o).drewN k := fun _ _ => rfl
 have hst : ∀ k o a v, ((w0.alloc o).drewN k).setCell a v = ((w0.alloc o).setCell a v).drewN k := fun _ _ _ _ => by unfold World.drewN World.setCell; simp
 go_region_held3 (fun w' => w'.cell? ⟨w.heap.size, 1, none⟩ = some (.slice (some ⟨b, o, none⟩) n c) ∧ w'.cell? ⟨w.heap.size + 1, 0, none⟩ = some (int i64 bar) ∧ w'.cell? ⟨b, o + m * 3, none⟩ = some (int i64 t.bar) ∧ w'.cell? ⟨b, o + m * 3 + 1, none⟩ = some (int i64 t.ticks) ∧ w'.cell? ⟨b, o + m * 3 + 2, none⟩ = some (int i64 t.step) ∧ Below w0.heap.size w0 w') (refine ⟨?_, ?_, ?_, ?_, ?_, ?_⟩ <;> first | assumption | exact (Below.refl _ _).drew | exact A5 (Below.refl _ _) _ | exact (A5 (Below.refl _ _) _).alloc (by simp) _ | exact ((Below.refl _ _).drew).alloc (by simp) _ | exact Below.drew (by assumption) | exact A5 (by assumption) _ | go_keep)
  (first | (go_at_call 147; refine (Mf bar (w.heap.size) (w.heap.size + 1) b o n c ts _ HS.out HN.out hm ?_ ?_ ?_).mono ?_; (first | exact c1 | exact E3 c1); (first | exact d0 | exact E3 d0); (first | exact HR0.out | exact Ii HR0.out hb3); rintro e w' ⟨rfl, k, rfl⟩))
 all_goals
  rename_i hHeld
  have hB9 := hHeld.2.2.2.2.2
  have hBf := qh (HB0.out.trans (hB9.mono (by omega)))
  have y1 : w0.cell? ⟨w.heap.size + 1, 0, none⟩ = some (int i64 bar) := d0
  clear hHeld hB9 hal hst c1 p0 p1 p2 hsum htn hin1 hin2
  obtain ⟨m1, m2⟩ := Nv (a := bar - t.bar) (b := t.step) (by omega) (by omega) q5 q6
  go_wp2
  go_ret
  exact ⟨Af HTK.out.symm, hBf.out⟩
end
end Go.Proofs.YtggcbblikgankaaGreatDoor
