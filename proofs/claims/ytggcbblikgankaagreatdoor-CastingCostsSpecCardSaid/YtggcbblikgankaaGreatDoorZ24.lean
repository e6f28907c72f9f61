/- Contracts and plain laws on the way to the statement: part 24. -/
import Derived.Test.YtggcbblikgankaaGreatDoorZ22
import Derived.Test.YtggcbblikgankaaGreatDoorZ11
import Derived.Great.BuildSlice
import Derived.Test.YtggcbblikgankaaGreatDoorZ3
set_option linter.unusedVariables false
set_option linter.unusedSimpArgs false
set_option maxRecDepth 100000
set_option maxHeartbeats 16000000
namespace Go.Proofs.YtggcbblikgankaaGreatDoor
open Go.Value (int)
open Go.IntKind (i64)
section
open Go.RowKit
theorem KW (N : Int) (hN : 0 ≤ N ∧ N ≤ 1000000000) (b o c : Nat) (xs : List Int) (w : World) (hl : xs.length ≤ 1000000) (hx : ∀ i x, xs[i]? = some x → w.cell? ⟨b, o + i, none⟩ = some (int i64 x)) (hall : ∀ x ∈ xs, -N ≤ x ∧ x ≤ N) :
  Calls Tryz.prog 155 #[int i64 N, .slice (some ⟨b, o, none⟩) xs.length c] w fun e w' => e = .returned (.bool true) ∧ w = w' := by
 have HX := qh hx; have HA := qh hall; clear hx hall
 have hneg : IntKind.i64.wrap (-N) = -N := IntWalk.i64_in _ (by omega)
 generalize hn : xs.length = n at *
 have HN := qh hn; clear hn
 go_enter Tryz.func155, Tryz.ntmps155
 go_wp2_with fail
 go_loopw [9] (fun iv wr => ∃ k : Nat, k ≤ n ∧ iv = int i64 k ∧ wr = w) (fun iv _ => n - (intOf iv).toNat)
 case atStart => exact ⟨0, Nat.zero_le _, rfl, rfl⟩
 case round =>
  obtain ⟨k, hk, rfl, rfl⟩ := hrel
  by_cases hkn : k < n
  ·obtain ⟨t, ht⟩ : ∃ t, xs[k]? = some t := ⟨_, qg (by rw [HN.out]; exact hkn)⟩
   have c0 := HX.out k t ht
   obtain ⟨h1, h2⟩ := HA.out t (List.mem_of_getElem? ht)
   clear ht
   have hkn' : (k : Int) < (n : Int) := by omega
   have f1 : ¬ t < -N := by omega
   have f2 : ¬ N < t := by omega
   go_wp2_with fail
   go_roundw
   case rel => exact ⟨k + 1, by omega, by go_num, trivial⟩
   case measure => simp [intOf]; omega
  ·obtain rfl : n = k := by omega
   have hin : ¬ (n : Int) < (n : Int) := by omega
   go_wp2_with fail
   go_ret
   exact ⟨rfl, rfl⟩
theorem FR {a b : Int} (h1 : -1048576 ≤ a ∧ a ≤ 1048576) (h2 : -1048576 ≤ b ∧ b ≤ 1048576) : -1099511627776 ≤ a * b ∧ a * b ≤ 1099511627776 := by
 have hx : (a * b).natAbs ≤ 1099511627776 := by
  rw [Int.natAbs_mul]
  calc a.natAbs * b.natAbs ≤ 1048576 * 1048576 := Nat.mul_le_mul (by omega) (by omega)
   _ = 1099511627776 := by decide
 omega
theorem Qd (a b c d e f : Int) (ha : -1048576 ≤ a ∧ a ≤ 1048576) (hb : -1048576 ≤ b ∧ b ≤ 1048576) (hc : -1048576 ≤ c ∧ c ≤ 1048576) (hd : -1048576 ≤ d ∧ d ≤ 1048576) (he : -1048576 ≤ e ∧ e ≤ 1048576) (hf : -1048576 ≤ f ∧ f ≤ 1048576) (w : World) :
  Calls Tryz.prog 141 #[.agg #[int i64 a, int i64 b, int i64 c], .agg #[int i64 d, int i64 e, int i64 f]] w fun r w' => r = .returned (.tuple #[int i64 (a * d + b * e + c * f), int i64 0]) ∧ Below w.heap.size w w' := by
 have m1 := FR ha hd; have m2 := FR hb he; have m3 := FR hc hf
 have w1 : IntKind.i64.wrap (a * d) = a * d := IntWalk.i64_in _ (by omega)
 have w2 : IntKind.i64.wrap (b * e) = b * e := IntWalk.i64_in _ (by omega)
 have w3 : IntKind.i64.wrap (c * f) = c * f := IntWalk.i64_in _ (by omega)
 have w4 : IntKind.i64.wrap (a * d + b * e) = a * d + b * e := IntWalk.i64_in _ (by omega)
 have w5 : IntKind.i64.wrap (a * d + b * e + c * f) = a * d + b * e + c * f := IntWalk.i64_in _ (by omega)
 have hall : ∀ x ∈ [a, b, c, d, e, f], -1048576 ≤ x ∧ x ≤ 1048576 := by
  intro x hx
  simp only [List.mem_cons, List.not_mem_nil, or_false] at hx
  rcases hx with rfl | rfl | rfl | rfl | rfl | rfl <;> assumption
 have HA := qh hall
 clear hall ha hb hc hd he hf m1 m2 m3
 have hbl := Do w (.cells #[int i64 a, int i64 b, int i64 c] 176) (.cells #[int i64 d, int i64 e, int i64 f] 176) (.cells #[int i64 a, int i64 b, int i64 c, int i64 d, int i64 e, int i64 f] 3)
 have HB := qh hbl; clear hbl
 go_enter Tryz.func141, Tryz.ntmps141
 go_wp2_with fail
 refine (KW 1048576 (by omega) (w.heap.size + 1 + 1) 0 _ [a, b, c, d, e, f] _ (by simp) (fun i x hx => A0 HB.out.2.2.1 (0 + i) (by
  rw [Nat.zero_add]
  rcases i with _ | _ | _ | _ | _ | _ | i <;> simp at hx ⊢ <;> exact hx)) HA.out).mono ?_
 rintro r w' ⟨rfl, rfl⟩
 go_wp2_with fail
 go_ret2
 exact ⟨rfl, HB.out.2.2.2.2⟩
end
section
open Go.RowKit
theorem GJ (a b c d e f : Int) (w : World) : (binOp .neq 176 (.agg #[int i64 a, int i64 b, int i64 c]) (.agg #[int i64 d, int i64 e, int i64 f])).run Tryz.prog w = .ok (.bool (!(a == d && b == e && c == f))) w := by
 have u3 := Tryz.underlying3
 have a3 := Tryz.isAgg3
 have z3 := Tryz.sizeOf3
 have hS : Tryz.prog.underlying 176 = some (.struct (Tryz.prog.fieldsOf 176)) := by kernel_rfl
 have hp : Tryz.prog.stoodInHeld 176 = false := by kernel_rfl
 rw [run_neq_struct, show (10000 : Nat) = 9999 + 1 from rfl, run_equalIn_agg w 9999 176 _ _ hS hp]
 simp only [Program.fieldsOf, Tryz.underlying176]
 go_simp
 by_cases h1 : a = d <;> by_cases h2 : b = e <;> by_cases h3 : c = f <;> simp [h1, h2, h3]
theorem NI {r v : Int} (hr : -1 ≤ r ∧ r ≤ 1) (hv : -1000 ≤ v ∧ v ≤ 1000) : -29000 ≤ Dk r v ∧ Dk r v ≤ 29000 := by
 unfold Dk; split <;> omega
theorem QZ (k : Nat) : -1000 ≤ (flatTab[k]?.getD (0, 0)).1 ∧ (flatTab[k]?.getD (0, 0)).1 ≤ 1000 ∧ -1000 ≤ (flatTab[k]?.getD (0, 0)).2 ∧ (flatTab[k]?.getD (0, 0)).2 ≤ 1000 := by
 cases h : flatTab[k]? with
 | none => simp
 | some p => exact Nt (k := k) (x := p.1) (y := p.2) h
theorem Et {d l : Int} (h : CE d l = true) : (-29000 ≤ CP d l ∧ CP d l ≤ 29000) ∧ (-29000 ≤ CN d l ∧ CN d l ≤ 29000) ∧ (-29000 ≤ CL d l ∧ CL d l ≤ 29000) := by
 unfold CE at h
 rw [Bool.and_eq_true, A4, A4] at h
 have ht := QZ (d - 1).toNat
 refine ⟨?_, ?_, ?_⟩
 ·unfold CP; split
  ·omega
  ·exact NI (by omega) ⟨ht.1, ht.2.1⟩
 ·unfold CN; split
  ·omega
  ·exact NI (by omega) ⟨ht.2.2.1, ht.2.2.2⟩
 ·unfold CL; split <;> omega
def AD (d l d' l' : Int) : Int := CP d l * CP d' l' + CN d l * CN d' l' + CL d l * CL d' l'
def nzB (d l : Int) : Bool := !(CP d l == 0 && CN d l == 0 && CL d l == 0)
theorem RV (d l d' l' : Int) (h1 : CE d l = true) (h2 : CE d' l' = true) (w : World) (hE : Env w) (hw : 0 < w.heap.size) :
  Calls Tryz.prog 122 #[int i64 d, int i64 l, int i64 d', int i64 l'] w fun e w' => e = .returned (.tuple #[int i64 (AD d l d' l'), .bool (nzB d l && nzB d' l')]) ∧ Below w.heap.size w w' := by
 have hv1 : FG d l = .tuple #[.agg #[int i64 (CP d l), int i64 (CN d l), int i64 (CL d l)], int i64 0] := by unfold FG; rw [h1]; rfl
 have hv2 : FG d' l' = .tuple #[.agg #[int i64 (CP d' l'), int i64 (CN d' l'), int i64 (CL d' l')], int i64 0] := by unfold FG; rw [h2]; rfl
 obtain ⟨x1, x2, x3⟩ := Et h1
 obtain ⟨y1, y2, y3⟩ := Et h2
 have hd := fun w => Qd (CP d l) (CN d l) (CL d l) (CP d' l') (CN d' l') (CL d' l') (by omega) (by omega) (by omega) (by omega) (by omega) (by omega) w
 have hq1 := fun w => GJ (CP d l) (CN d l) (CL d l) 0 0 0 w
 have hq2 := fun w => GJ (CP d' l') (CN d' l') (CL d' l') 0 0 0 w
 have hc1 := fun w (h : Env w) hw => H9 d l w h hw
 have hc2 := fun w (h : Env w) hw => H9 d' l' w h hw
 rw [hv1] at hc1
 rw [hv2] at hc2
 unfold AD nzB
 generalize CP d l = a at *
 generalize CN d l = b at *
 generalize CL d l = c at *
 generalize CP d' l' = a' at *
 generalize CN d' l' = b' at *
 generalize CL d' l' = c' at *
 have HD := qh hd; have HC1 := qh hc1; have HC2 := qh hc2; have HE := qh hE
 clear hd hc1 hc2 hE hv1 hv2 h1 h2 x1 x2 x3 y1 y2 y3
 go_enter Tryz.func122, Tryz.ntmps122
 go_wp2_with fail
 refine (HC1.out w HE.out hw).mono ?_
 rintro e w1 ⟨rfl, b1⟩
 have n1 := heap_alloc_new w1 (.cells #[int i64 a, int i64 b, int i64 c] 176)
 have m1 : Below w.heap.size w (w1.alloc (.cells #[int i64 a, int i64 b, int i64 c] 176)) := b1.alloc b1.size _
 have z1 : w1.heap.size < (w1.alloc (.cells #[int i64 a, int i64 b, int i64 c] 176)).heap.size := by simp
 have s1 := b1.size
 go_wp2_with fail
 generalize w1.alloc (.cells #[int i64 a, int i64 b, int i64 c] 176) = wa at *
 generalize w1.heap.size = g1 at *
 refine (HC2.out wa (HE.out.below m1) (by omega)).mono ?_
 rintro e w2 ⟨rfl, b2⟩
 have s2 := b2.size
 have n2 := (Below.heap_alloc w2 (.cells #[int i64 a', int i64 b', int i64 c'] 176) g1 (by omega)).trans ((b2.block _ z1).trans n1)
 have n3 := heap_alloc_new w2 (.cells #[int i64 a', int i64 b', int i64 c'] 176)
 have m2 : Below w.heap.size w (w2.alloc (.cells #[int i64 a', int i64 b', int i64 c'] 176)) := (m1.trans (b2.mono (by omega))).alloc (by omega) _
 have z2 : w2.heap.size < (w2.alloc (.cells #[int i64 a', int i64 b', int i64 c'] 176)).heap.size := by simp
 have x0 : (w2.alloc (.cells #[int i64 a', int i64 b', int i64 c'] 176)).cell? ⟨g1, 0, none⟩ = some (int i64 a) := A0 n2 0 rfl
 have x1 : (w2.alloc (.cells #[int i64 a', int i64 b', int i64 c'] 176)).cell? ⟨g1, 1, none⟩ = some (int i64 b) := A0 n2 1 rfl
 have x2 : (w2.alloc (.cells #[int i64 a', int i64 b', int i64 c'] 176)).cell? ⟨g1, 2, none⟩ = some (int i64 c) := A0 n2 2 rfl
 have hg2 : g1 < w2.heap.size := by omega
 have N2 := qh n2; have N3 := qh n3; have M2 := qh m2
 clear n1 n2 n3 m1 m2 b1 b2
 have p0 : w2.cell? ⟨g1, 0, none⟩ = some (int i64 a) := by
  have := (((Below.refl w2.heap.size w2).alloc (qn _) (.cells #[int i64 a', int i64 b', int i64 c'] 176)).cell (p := ⟨g1, 0, none⟩) hg2).symm.trans x0; exact this
 have p1 : w2.cell? ⟨g1, 1, none⟩ = some (int i64 b) := by
  have := (((Below.refl w2.heap.size w2).alloc (qn _) (.cells #[int i64 a', int i64 b', int i64 c'] 176)).cell (p := ⟨g1, 1, none⟩) hg2).symm.trans x1; exact this
 have p2 : w2.cell? ⟨g1, 2, none⟩ = some (int i64 c) := by
  have := (((Below.refl w2.heap.size w2).alloc (qn _) (.cells #[int i64 a', int i64 b', int i64 c'] 176)).cell (p := ⟨g1, 2, none⟩) hg2).symm.trans x2; exact this
 clear x0 x1 x2
 go_wp2_with fail
 generalize w2.alloc (.cells #[int i64 a', int i64 b', int i64 c'] 176) = wb at *
 generalize w2.heap.size = g2 at *
 refine (HD.out wb).mono ?_
 rintro e w3 ⟨rfl, b3⟩
 have k2 := (b3.block _ (show g1 < wb.heap.size by omega)).trans N2.out
 have k3 := (b3.block _ z2).trans N3.out
 have M3 := qh (M2.out.trans (b3.mono (by omega)))
 have c0 : w3.cell? ⟨g1, 0, none⟩ = some (int i64 a) := A0 k2 0 rfl
 have c1 : w3.cell? ⟨g1, 1, none⟩ = some (int i64 b) := A0 k2 1 rfl
 have c2 : w3.cell? ⟨g1, 2, none⟩ = some (int i64 c) := A0 k2 2 rfl
 have c3 : w3.cell? ⟨g2, 0, none⟩ = some (int i64 a') := A0 k3 0 rfl
 have c4 : w3.cell? ⟨g2, 1, none⟩ = some (int i64 b') := A0 k3 1 rfl
 have c5 : w3.cell? ⟨g2, 2, none⟩ = some (int i64 c') := A0 k3 2 rfl
 clear k2 k3 b3 p0 p1 p2 N2 N3 M2
 cases t1 : (!(a == 0 && b == 0 && c == 0)) with
 | false =>
  have T1 := qh t1
  simp only [t1] at hq1
  clear t1
  go_wp2_with fail
  go_quiet (fail)
  go_wp2
  go_ret2
  exact ⟨by rw [T1.out]; rfl, A5 M3.out _⟩
 | true =>
  have T1 := qh t1
  simp only [t1] at hq1
  clear t1
  cases t2 : (!(a' == 0 && b' == 0 && c' == 0)) with
  | false =>
   have T2 := qh t2
   simp only [t2] at hq2
   clear t2
   go_wp2_with fail
   go_quiet (fail)
   go_wp2
   go_ret2
   exact ⟨by rw [T1.out, T2.out]; rfl, A5 M3.out _⟩
  | true =>
   have T2 := qh t2
   simp only [t2] at hq2
   clear t2
   go_wp2_with fail
   go_quiet (fail)
   go_wp2
   go_ret2
   exact ⟨by rw [T1.out, T2.out]; rfl, A5 M3.out _⟩
end
section
open Go.RowKit
def Ar (s : Sgn) : Array Value := #[int i64 s.id, int i64 s.role, int i64 s.bar, int i64 s.mark, int i64 s.kind, int i64 s.side, int i64 s.dir, int i64 s.level, int i64 s.size, int i64 s.wth, int i64 s.fn, int i64 s.fd, int i64 s.tn, int i64 s.td]
theorem Gt (s : Sgn) (n : Int) (w : World) : Calls Tryz.prog 62 #[.agg #[int i64 s.id, int i64 s.role, int i64 s.bar, int i64 s.mark, int i64 s.kind, int i64 s.side, int i64 s.dir, int i64 s.level, int i64 s.size, int i64 s.wth, int i64 s.fn, int i64 s.fd, int i64 s.tn, int i64 s.td], int i64 n] w fun e w' => e = .returned (int i64 (By s.id n)) ∧ Below w.heap.size w w' := by
 have hb : Below w.heap.size w (w.alloc (.cells (Ar s) 72)) := (Below.refl _ _).alloc (qn _) _
 unfold Ar at hb
 have HB := qh hb; clear hb
 go_enter Tryz.func62, Tryz.ntmps62
 go_wp2_with fail
 refine (Ew s.id n _).mono ?_
 rintro e w' ⟨rfl, rfl⟩
 go_wp2_with fail
 go_ret
 exact ⟨rfl, HB.out⟩
def idT (l : List Sgn) : List Tmp := l.map fun s => ⟨s.id, 0, 0⟩
def idP (l : List Sgn) (n : Int) : Nat := BO (idT l) (n - 1)
def idF (l : List Sgn) (n : Int) : Bool := match l[idP l n]? with | some s => s.id == n | none => false
theorem Ic {l : List Sgn} {i : Nat} {s : Sgn} (h : l[i]? = some s) : (idT l)[i]? = some ⟨s.id, 0, 0⟩ := by unfold idT; rw [List.getElem?_map, h]; rfl
theorem Sf (l : List Sgn) (n : Int) : idP l n ≤ l.length := by have := EI (idT l) (n - 1); unfold idP; simpa [idT] using this
theorem Lu (n : Int) (ao : Option Addr) (c : Nat) (ss : List Sgn) (w : World) (hs : C0 (idT ss)) (hm : ss.length ≤ 65536) (hS : IsRow CF 14 w (.slice ao ss.length c) ss) :
  Calls Tryz.prog 61 #[.slice ao ss.length c, int i64 n, .func (.func 62) #[] #[]] w fun e w' => e = .returned (.tuple #[int i64 (idP ss n), .bool (idF ss n)]) ∧ Below w.heap.size w w' := by
 have hu := Sf ss n
 have hiff : ∀ i t, ss[i]? = some t → (t.id < n ↔ i < idP ss n) := fun i t h => by
  have := BL (bar := n - 1) hs (Ic h)
  have h2 : t.id ≤ n - 1 ↔ i < idP ss n := this
  omega
 have hfd : ∀ t, ss[idP ss n]? = some t → idF ss n = (t.id == n) := fun t h => by unfold idF; rw [h]
 have hfn : ss.length ≤ idP ss n → idF ss n = false := fun h => by unfold idF; rw [List.getElem?_eq_none h]
 generalize idF ss n = fd at *
 generalize idP ss n = P at *
 have HI := qh hiff; have HFD := qh hfd; have HFN := qh hfn; have HS := qh hS
 clear hiff hfd hfn hS hs
 generalize hn : ss.length = N at *
 have HN := qh hn; clear hn
 go_enter Tryz.func61, Tryz.ntmps61
 go_wp2_with fail
 go_loopw [9, 10] (fun x y wr => ∃ i j : Nat, x = int i64 i ∧ y = int i64 j ∧ i ≤ P ∧ P ≤ j ∧ j ≤ N ∧ Hid (Below w.heap.size w wr)) (fun x y _ => (intOf y - intOf x).toNat)
 case atStart => exact ⟨0, N, rfl, rfl, Nat.zero_le _, hu, qn _, qh (Below.refl _ _)⟩
 case round =>
  obtain ⟨i, j, rfl, rfl, h1, h2, h3, hbw⟩ := hrel
  by_cases hij : i < j
  ·obtain ⟨t, ht⟩ : ∃ t, ss[(i + j) / 2]? = some t := ⟨_, qg (by rw [HN.out]; omega)⟩
   have hij' : (i : Int) < (j : Int) := by omega
   obtain ⟨m, hm2⟩ : ∃ m : Nat, m = (i + j) / 2 := ⟨_, rfl⟩
   have hmid : ((i : Int) + (j : Int)) / 2 = (m : Int) := by omega
   rw [← hm2] at ht
   have hm3 : i ≤ m := by omega
   have hm4 : m < j := by omega
   obtain ⟨bp, op, hap, hatp, hltp⟩ := HS.out.block ht
   subst hap
   obtain ⟨p0, p1, p2, p3, p4, p5, p6, p7, p8, p9, p10, p11, p12, p13⟩ := atS (hatp.below hbw.out hltp) ht
   have hin : (m : Int) < (N : Int) := by omega
   have hin0 : (0 : Int) ≤ (m : Int) := by omega
   clear hatp
   have HT := qh ht
   clear ht hm2
   go_wp2_with fail
   clear p0 p1 p2 p3 p4 p5 p6 p7 p8 p9 p10 p11 p12 p13
   refine (Gt t n wr).mono ?_
   rintro e w' ⟨rfl, hb⟩
   have HB := qh (hbw.out.trans (hb.mono hbw.out.size))
   clear hb
   by_cases hlt : t.id < n
   ·have h4 : m < P := (HI.out m t HT.out).1 hlt
    rw [GP hlt]
    clear hlt
    go_wp2_with fail
    go_roundw
    case rel => exact ⟨m + 1, j, by go_num, rfl, by omega, h2, h3, HB⟩
    case measure => simp [intOf]; omega
   ·have h4 : P ≤ m := by
     rcases Nat.lt_or_ge m P with h | h
     ·exact absurd ((HI.out m t HT.out).2 h) hlt
     ·exact h
    have hc : ¬ By t.id n < 0 := by unfold By; rw [if_neg hlt]; split <;> omega
    clear hlt
    go_wp2_with fail
    go_roundw
    case rel => exact ⟨i, m, rfl, rfl, h1, h4, by omega, HB⟩
    case measure => simp [intOf]; omega
  ·have hij' : ¬ (i : Int) < (j : Int) := by omega
   obtain rfl : i = P := by omega
   by_cases hN : i < N
   ·obtain ⟨t, ht⟩ : ∃ t, ss[i]? = some t := ⟨_, qg (by rw [HN.out]; exact hN)⟩
    obtain ⟨bp, op, hap, hatp, hltp⟩ := HS.out.block ht
    subst hap
    obtain ⟨p0, p1, p2, p3, p4, p5, p6, p7, p8, p9, p10, p11, p12, p13⟩ := atS (hatp.below hbw.out hltp) ht
    have hin : (i : Int) < (N : Int) := by omega
    clear hatp
    have hfd := HFD.out t ht
    subst hfd
    clear ht
    go_wp2_with fail
    clear p0 p1 p2 p3 p4 p5 p6 p7 p8 p9 p10 p11 p12 p13
    refine (Gt t n wr).mono ?_
    rintro e w' ⟨rfl, hb⟩
    have HB := qh (hbw.out.trans (hb.mono hbw.out.size))
    have hce : (By t.id n == 0) = (t.id == n) := by
     rw [Bool.eq_iff_iff]; simp only [beq_iff_eq]; unfold By; split
     ·omega
     ·split <;> omega
    have HCE := qh hce
    clear hb hce
    go_wp2_with fail
    go_ret2
    exact ⟨by rw [← HCE.out]; rfl, HB.out⟩
   ·have hin : ¬ (i : Int) < (N : Int) := by omega
    have hfd := HFN.out (by omega)
    subst hfd
    go_wp2_with fail
    go_ret2
    exact ⟨rfl, hbw.out⟩
end
section
open Go.RowKit
theorem Fu {roles bars : Int} : ∀ {l : List Sgn} {last : Int}, AC roles bars last l = true → C0 (idT l) ∧ ∀ s ∈ l, last < s.id
 | [], _, _ => ⟨List.Pairwise.nil, by simp⟩
 | x :: r, last, h => by
  unfold AC at h
  rw [Bool.and_eq_true] at h
  obtain ⟨h1, h2⟩ := h
  obtain ⟨i1, i2⟩ := Fu h2
  have h3 : last < x.id := by
   unfold GT at h1
   simp only [Bool.and_eq_true, decide_eq_true_eq] at h1
   exact h1.1.1
  refine ⟨?_, ?_⟩
  ·show C0 (⟨x.id, 0, 0⟩ :: idT r)
   refine List.Pairwise.cons ?_ i1
   intro t ht
   obtain ⟨s, hs, rfl⟩ := List.mem_map.1 ht
   exact i2 s hs
  ·intro s hs
   rcases List.mem_cons.1 hs with rfl | hs
   ·exact h3
   ·have := i2 s hs; omega
theorem D2 {k : Wrk} (h : Ao k = 0) : k.roles.length ≤ 64 ∧ k.signs.length ≤ 4096 ∧ BP k.clock = 0 ∧ E7 k = true := by
 unfold Ao at h
 split at h
 ·rename_i hl
  unfold Eg at hl
  simp only [Bool.and_eq_true, decide_eq_true_eq] at hl
  split at h
  ·rename_i hc; exact absurd h hc
  ·rename_i hc
   split at h
   ·rename_i hb
    exact ⟨hl.1, hl.2, by simpa using hc, hb⟩
   ·exact absurd h (by decide)
 ·exact absurd h (by decide)
theorem EW {k : Wrk} (h : Ao k = 0) : C0 (idT k.signs) := by
 have hb := (D2 h).2.2.2
 unfold E7 at hb
 rw [Bool.and_eq_true] at hb
 exact (Fu hb.2).1
theorem Da {k : Wrk} (h : Ao k = 0) {s : Sgn} (hs : s ∈ k.signs) : Bl s k.roles.length k.clock.bars = true := by
 have hb := (D2 h).2.2.2
 unfold E7 at hb
 rw [Bool.and_eq_true] at hb
 have key : ∀ (l : List Sgn) (last : Int), AC k.roles.length k.clock.bars last l = true → s ∈ l → Bl s k.roles.length k.clock.bars = true := by
  intro l
  induction l with
  | nil => intro _ _ h; simp at h
  | cons x r ih =>
   intro last h hm
   unfold AC at h
   rw [Bool.and_eq_true] at h
   rcases List.mem_cons.1 hm with rfl | hm
   ·have h1 := h.1
    unfold GT at h1
    rw [Bool.and_eq_true] at h1
    exact h1.2
   ·exact ih _ h.2 hm
 exact key _ _ hb.2 hs
end
end Go.Proofs.YtggcbblikgankaaGreatDoor
