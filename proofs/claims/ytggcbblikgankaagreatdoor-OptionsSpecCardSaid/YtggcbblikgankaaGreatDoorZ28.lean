/- Contracts and plain laws on the way to the statement: part 28. -/
import Derived.Test.YtggcbblikgankaaGreatDoorZ25
import Derived.Test.YtggcbblikgankaaGreatDoorZ4
import Derived.Shelf.SlSortCmp.Insertion
set_option linter.unusedVariables false
set_option linter.unusedSimpArgs false
section
namespace Go.Proofs.YtggcbblikgankaaGreatDoor
open Go.RowKit
structure Par where
 r : Rea
 n : Int
 deriving DecidableEq
instance : Inhabited Par := ⟨⟨default, 0⟩⟩
def ownB (s : Sgn) (d v : Int) : Bool := decide (d = s.dir) && decide (v = s.level)
def keyI (s : Sgn) (d v : Int) : Int := if ownB s d v then 1073741824 else dotI s.dir s.level d v
def fitB (ta tc : Int) (s : Sgn) (d v : Int) : Bool := ownB s d v || (nzB s.dir s.level && nzB d v && decide (ta * 707281 ≤ dotI s.dir s.level d v * tc))
def parOf (s : Sgn) (d v : Int) : Par := ⟨⟨s.id, d, v, false⟩, keyI s d v⟩
def lineL (ta tc : Int) (s : Sgn) (d : Nat) (m : Nat) : List Par := (List.range m).filterMap fun (v : Nat) => if fitB ta tc s d ((v : Int) + 1) then some (parOf s d ((v : Int) + 1)) else none
def allL (ta tc : Int) (s : Sgn) (top m : Nat) : List Par := (List.range m).flatMap fun (d : Nat) => lineL ta tc s d top
theorem lineL_yes {ta tc : Int} {s : Sgn} {d m : Nat} (h : fitB ta tc s d ((m : Int) + 1) = true) : lineL ta tc s d (m + 1) = lineL ta tc s d m ++ [parOf s d ((m : Int) + 1)] := by
 unfold lineL; rw [List.range_succ, List.filterMap_append]; simp [h]
theorem lineL_no {ta tc : Int} {s : Sgn} {d m : Nat} (h : fitB ta tc s d ((m : Int) + 1) = false) : lineL ta tc s d (m + 1) = lineL ta tc s d m := by
 unfold lineL; rw [List.range_succ, List.filterMap_append]; simp [h]
theorem allL_succ {ta tc : Int} {s : Sgn} {top m : Nat} : allL ta tc s top (m + 1) = allL ta tc s top m ++ lineL ta tc s m top := by
 unfold allL; rw [List.range_succ, List.flatMap_append]; simp
theorem lineL_hit {ta tc : Int} {s : Sgn} {d v : Nat} (hv : 1 ≤ v) (h : fitB ta tc s d v = true) : lineL ta tc s d v = lineL ta tc s d (v - 1) ++ [parOf s d v] := by
 obtain ⟨m, rfl⟩ : ∃ m, v = m + 1 := ⟨v - 1, by omega⟩
 exact lineL_yes (by simpa using h)
theorem lineL_miss {ta tc : Int} {s : Sgn} {d v : Nat} (hv : 1 ≤ v) (h : fitB ta tc s d v = false) : lineL ta tc s d v = lineL ta tc s d (v - 1) := by
 obtain ⟨m, rfl⟩ : ∃ m, v = m + 1 := ⟨v - 1, by omega⟩
 exact lineL_no (by simpa using h)
theorem lineL_len (ta tc : Int) (s : Sgn) (d m : Nat) : (lineL ta tc s d m).length ≤ m := by
 unfold lineL; exact Nat.le_trans (List.length_filterMap_le _ _) (by simp)
theorem allL_len (ta tc : Int) (s : Sgn) (top : Nat) : ∀ m, (allL ta tc s top m).length ≤ m * top
 | 0 => by simp [allL]
 | m + 1 => by
  rw [allL_succ, List.length_append, Nat.succ_mul]
  exact Nat.add_le_add (allL_len ta tc s top m) (lineL_len ta tc s m top)
def wideB (a l d v : Int) : Bool := (decide (d = a) && decide (v = l)) || (nzB a l && nzB d v && decide (0 ≤ dotI a l d v))
theorem fit_wide {ta tc : Int} {s : Sgn} {d v : Int} (h0 : 0 ≤ ta) (h1 : 1 ≤ tc) (h : fitB ta tc s d v = true) : wideB s.dir s.level d v = true := by
 unfold fitB ownB at h
 unfold wideB
 simp only [Bool.or_eq_true, Bool.and_eq_true, decide_eq_true_eq] at h ⊢
 rcases h with h | ⟨h2, h3⟩
 ·exact Or.inl h
 ·refine Or.inr ⟨h2, ?_⟩
  have h4 : 0 ≤ ta * 707281 := Int.mul_nonneg h0 (by decide)
  have h5 : 0 ≤ dotI s.dir s.level d v * tc := Int.le_trans h4 h3
  exact Int.nonneg_of_mul_nonneg_left h5 (by omega)
def wideN (a l : Int) (top m : Nat) : Nat := ((List.range m).flatMap fun (d : Nat) => (List.range top).filter fun (v : Nat) => wideB a l d ((v : Int) + 1)).length
set_option maxRecDepth 100000 in
theorem wide_few : ∀ a, a < 9 → ∀ l, l < 3 → ∀ top, top < 4 → wideN (a : Nat) ((l : Nat) + 1 : Int) top 9 ≤ 17 := by decide
theorem allL_le {ta tc : Int} {s : Sgn} {top m : Nat} (h0 : 0 ≤ ta) (h1 : 1 ≤ tc) : (allL ta tc s top m).length ≤ wideN s.dir s.level top m := by
 unfold allL wideN
 rw [List.length_flatMap, List.length_flatMap]
 have key : ∀ d : Nat, (lineL ta tc s d top).length ≤ ((List.range top).filter fun (v : Nat) => wideB s.dir s.level d ((v : Int) + 1)).length := by
  intro d
  unfold lineL
  generalize List.range top = R
  induction R with
  | nil => simp
  | cons v r ih =>
   rw [List.filterMap_cons, List.filter_cons]
   cases hf : fitB ta tc s d ((v : Int) + 1) with
   | true => rw [fit_wide h0 h1 hf]; simpa using ih
   | false =>
    simp only [Bool.false_eq_true, if_false]
    split
    ·exact Nat.le_trans ih (by simp)
    ·exact ih
 generalize List.range m = R
 induction R with
 | nil => simp
 | cons v r ih => simp only [List.map_cons, List.sum_cons]; exact Nat.add_le_add (key v) ih
theorem allL_few {ta tc : Int} {s : Sgn} {top : Nat} (h0 : 0 ≤ ta) (h1 : 1 ≤ tc) (hd : inB s.dir 0 8 = true) (hl : inB s.level 1 3 = true) (ht : top ≤ 3) : (allL ta tc s top 9).length ≤ 17 := by
 have hd := inB_iff.1 hd
 have hl := inB_iff.1 hl
 have := wide_few s.dir.toNat (by omega) (s.level - 1).toNat (by omega) top (by omega)
 rw [show ((s.dir.toNat : Nat) : Int) = s.dir by omega, show (((s.level - 1).toNat : Nat) : Int) + 1 = s.level by omega] at this
 exact Nat.le_trans (allL_le h0 h1) this
end Go.Proofs.YtggcbblikgankaaGreatDoor
end
section
namespace Go.Proofs.YtggcbblikgankaaGreatDoor
open Go.RowKit Go.Shelf
attribute [local go_sem] Oper.semAt_some
theorem Env.two {w w' : World} {n : Nat} (h : Env w) (hn : 2 ≤ n) (hb : Below n w w') : Env w' where
 kinds k hk j v hv := (hb.cell (p := ⟨0, k * 6 + j, none⟩) (by show 0 < n; omega)).trans (h.kinds k hk j v hv)
 flat k p hp := ⟨(hb.cell (p := ⟨1, k * 2, none⟩) (by show 1 < n; omega)).trans (h.flat k p hp).1, (hb.cell (p := ⟨1, k * 2 + 1, none⟩) (by show 1 < n; omega)).trans (h.flat k p hp).2⟩
def reaA (r : Rea) : Array Value := #[.int .i64 r.sign, .int .i64 r.dir, .int .i64 r.level, .bool r.drop]
def parE (x : Par) : Array Value := #[.agg #[.int .i64 x.r.sign, .int .i64 x.r.dir, .int .i64 x.r.level, .bool x.r.drop], .int .i64 x.n]
theorem dot_bd {d l d' l' : Int} (h1 : vecB d l = true) (h2 : vecB d' l' = true) : -3000000000 ≤ dotI d l d' l' ∧ dotI d l d' l' ≤ 3000000000 := by
 obtain ⟨x1, x2, x3⟩ := vec_bd h1
 obtain ⟨y1, y2, y3⟩ := vec_bd h2
 have key : ∀ a b : Int, -29000 ≤ a ∧ a ≤ 29000 → -29000 ≤ b ∧ b ≤ 29000 → -841000000 ≤ a * b ∧ a * b ≤ 841000000 := by
  intro a b ha hb
  have hx : (a * b).natAbs ≤ 841000000 := by
   rw [Int.natAbs_mul]
   calc a.natAbs * b.natAbs ≤ 29000 * 29000 := Nat.mul_le_mul (by omega) (by omega)
    _ = 841000000 := by decide
  omega
 have := key _ _ x1 y1; have := key _ _ x2 y2; have := key _ _ x3 y3
 unfold dotI; omega
theorem dotc_bd {a b : Int} (h1 : -3000000000 ≤ a ∧ a ≤ 3000000000) (h2 : 0 ≤ b ∧ b ≤ 32768) : -98304000000000 ≤ a * b ∧ a * b ≤ 98304000000000 := by
 have hx : (a * b).natAbs ≤ 98304000000000 := by
  rw [Int.natAbs_mul]
  calc a.natAbs * b.natAbs ≤ 3000000000 * 32768 := Nat.mul_le_mul (by omega) (by omega)
   _ = 98304000000000 := by decide
 omega
set_option maxRecDepth 100000 in
set_option maxHeartbeats 8000000 in
theorem within_in (n l Bt Bk Br n₀ : Nat) (hn : 1 ≤ n) (hn0 : 2 ≤ n₀) (hBt : Bt < n₀) (hBk : Bk < n₀) (hBr : Br < n₀) (ta tb tc : Int) (hta : 0 ≤ ta ∧ ta ≤ 32768) (htc : 0 ≤ tc ∧ tc ≤ 32768) (s : Sgn) (hd0 : 0 ≤ s.dir ∧ s.dir ≤ 8) (hl0 : 1 ≤ s.level ∧ s.level ≤ 3) (top : Nat) (htop : top ≤ 3) (J : List Par → World → Prop) (hJ : KeptBy J)
  (hY : ∀ pre x W1, J pre W1 → pre.length < 1000 → YieldAt Fence.wide (n - 1) Tryz.prog l (parE x) W1 fun e W' => e = .returned (.bool true) ∧ J (pre ++ [x]) W' ∧ Below n₀ W1 W')
  (W : World) (hE : Env W) (hz : n₀ ≤ W.heap.size) (ht : W.heap[Bt]? = some (.cells #[.int .i64 top] 3 (0, 0))) (hk : W.heap[Bk]? = some (.cells (sgnA s) 72 (0, 0))) (hr : W.heap[Br]? = some (.cells #[.int .i64 ta, .int .i64 tb, .int .i64 tc] 23 (0, 0))) (h0 : J [] W) :
  CallsIn Fence.wide n Tryz.prog 121 #[.func (.yield l) #[] #[], .pointer (some ⟨Bt, 0, none⟩), .pointer (some ⟨Bk, 0, none⟩), .pointer (some ⟨Br, 0, none⟩)] W fun e W' => (∃ v, e = .returned v) ∧ ∃ xs, xs = allL ta tc s top 9 ∧ J xs W' := by
 have hJA := fun m => allL_len ta tc s top m
 have hJL := fun d m => lineL_len ta tc s d m
 have hAS := fun m => allL_succ (ta := ta) (tc := tc) (s := s) (top := top) (m := m)
 have HE := Lib.hid hE; have HT := Lib.hid ht; have HK := Lib.hid hk; have HR := Lib.hid hr; have HJ := Lib.hid hJ; have HY := Lib.hid hY; have HJA := Lib.hid hJA; have HJL := Lib.hid hJL; have HAS := Lib.hid hAS
 clear hE ht hk hr hJ hY hJA hJL hAS
 refine callsIn_of_wp Tryz.func121 rfl trivial ?_ rfl
 simp only [Tryz.ntmps121, List.size_toArray, List.length_cons, List.length_nil, Nat.reduceAdd, Nat.reduceSub, Array.replicate_succ, Array.replicate_zero, List.push_toArray, List.append_toArray, List.nil_append, List.cons_append]
 gi_wp2_with fail
 gi_loopw [5] (fun dv wr => ∃ m : Nat, dv = .int .i64 m ∧ m ≤ 9 ∧ Hid (Below n₀ W wr) ∧ Hid (J (allL ta tc s top m) wr)) (fun dv _ => 9 - (intOf dv).toNat)
 case atStart => exact ⟨0, rfl, by omega, Lib.hid (Below.refl _ _), Lib.hid h0⟩
 case round =>
  obtain ⟨m, rfl, hm, hB, hj⟩ := hrel
  by_cases hm8 : m ≤ 8
  ·have hm8' : (m : Int) ≤ 8 := by omega
   gi_wp2_with fail
   gi_loopw [6] (fun vv wr2 => ∃ v : Nat, vv = .int .i64 v ∧ 1 ≤ v ∧ v ≤ top + 1 ∧ Hid (Below n₀ W wr2) ∧ Hid (J (allL ta tc s top m ++ lineL ta tc s m (v - 1)) wr2)) (fun vv _ => top + 1 - (intOf vv).toNat)
   case atStart => exact ⟨1, rfl, by omega, by omega, hB, Lib.hid (by simpa [lineL] using hj.out)⟩
   case round =>
    obtain ⟨v, rfl, hv1, hv2, hB2, hj2⟩ := hrel
    have hzz := hB2.out.size
    have c1 : wr.cell? ⟨Bt, 0, none⟩ = some (.int .i64 top) := cell_at ((hB2.out.block _ hBt).trans HT.out) 0 rfl
    by_cases hvt : v ≤ top
    ·have hvt' : (v : Int) ≤ (top : Int) := by omega
     have kb := (hB2.out.block _ hBk).trans HK.out
     have k6 : wr.cell? ⟨Bk, 6, none⟩ = some (.int .i64 s.dir) := cell_at kb 6 rfl
     have k7 : wr.cell? ⟨Bk, 7, none⟩ = some (.int .i64 s.level) := cell_at kb 7 rfl
     have hvec1 : vecB s.dir s.level = true := by unfold vecB; rw [inB_iff.2 hd0, inB_iff.2 hl0]; rfl
     have hvec2 : vecB m v = true := by unfold vecB; rw [inB_iff.2 (by omega), inB_iff.2 (by omega)]; rfl
     have hdot := dot_any s.dir s.level m v hvec1 hvec2 wr (HE.out.two hn0 hB2.out) (by omega)
     have hbd := dot_bd hvec1 hvec2
     obtain ⟨q1, q2⟩ := dotc_bd hbd htc
     have fitD : fitB ta tc s m v = (ownB s m v || (nzB s.dir s.level && nzB m v && decide (ta * 707281 ≤ dotI s.dir s.level m v * tc))) := rfl
     have keyD : parOf s m v = ⟨⟨s.id, m, v, false⟩, if ownB s m v then 1073741824 else dotI s.dir s.level m v⟩ := rfl
     have ownD : ownB s m v = (decide ((m : Int) = s.dir) && decide ((v : Int) = s.level)) := rfl
     clear kb hvec1 hvec2
     generalize dotI s.dir s.level m v = dt at *
     generalize (nzB s.dir s.level && nzB m v) = bo at *
     have HDOT := Lib.hid hdot; have FIT := Lib.hid fitD; have KEY := Lib.hid keyD; have OWN := Lib.hid ownD
     clear hdot fitD keyD ownD
     gi_wp2_with fail
     refine ⟨trivial, ?_⟩
     refine (callsIn_wide.2 HDOT.out).mono ?_
     rintro e w3 ⟨rfl, hb3⟩
     have b3 : Below n₀ W w3 := hB2.out.trans (hb3.mono (by omega))
     have kb := (b3.block _ hBk).trans HK.out
     have rb := (b3.block _ hBr).trans HR.out
     have e0 : w3.cell? ⟨Bk, 0, none⟩ = some (.int .i64 s.id) := cell_at kb 0 rfl
     have e6 : w3.cell? ⟨Bk, 6, none⟩ = some (.int .i64 s.dir) := cell_at kb 6 rfl
     have e7 : w3.cell? ⟨Bk, 7, none⟩ = some (.int .i64 s.level) := cell_at kb 7 rfl
     have r0 : w3.cell? ⟨Br, 0, none⟩ = some (.int .i64 ta) := cell_at rb 0 rfl
     have r2 : w3.cell? ⟨Br, 2, none⟩ = some (.int .i64 tc) := cell_at rb 2 rfl
     have j3 := HJ.out _ _ _ hj2.out hb3
     have B3 := Lib.hid b3; have J3 := Lib.hid j3
     clear k6 k7 c1 kb rb b3 hb3 hj2 hB2 HDOT j3
     have hlen : (allL ta tc s top m ++ lineL ta tc s m (v - 1)).length < 1000 := by
      have h1 := HJA.out m
      have h2 := HJL.out m (v - 1)
      have h3 : m * top ≤ 8 * 3 := Nat.mul_le_mul hm8 htop
      rw [List.length_append]; omega
     have hy0 := HY.out _ (parOf s m v) w3 J3.out hlen
     rw [KEY.out] at hy0
     have W1 : IntKind.i64.wrap (ta * 841) = ta * 841 := IntWalk.i64_in _ (by omega)
     have W2 : IntKind.i64.wrap (ta * 841 * 841) = ta * 841 * 841 := IntWalk.i64_in _ (by omega)
     have W3 : IntKind.i64.wrap (dt * tc) = dt * tc := IntWalk.i64_in _ (by omega)
     have HY0 := Lib.hid hy0
     clear hy0 hlen
     by_cases ho : (m : Int) = s.dir ∧ (v : Int) = s.level
     ·have f1 : ((m : Int) == s.dir) = true := by simpa using ho.1
      have f2 : ((v : Int) == s.level) = true := by simpa using ho.2
      have hoB : ownB s m v = true := by rw [OWN.out, decide_eq_true ho.1, decide_eq_true ho.2]; rfl
      have hF : fitB ta tc s m v = true := by rw [FIT.out, hoB]; rfl
      have hy1 := HY0.out
      rw [hoB] at hy1
      have HL := Lib.hid (lineL_hit hv1 hF)
      have KE := Lib.hid (KEY.out.trans (by rw [hoB]) : parOf s m v = ⟨⟨s.id, m, v, false⟩, if true = true then 1073741824 else dt⟩)
      obtain ⟨fn, tmps, assign, body, hy, hRR⟩ := hy1
      simp only [parE, if_true] at hy
      clear ho hoB hF HY0
      gi_wp2_with fail
      refine hRR.mono ?_
      rintro e W4 ⟨rfl, hJ4, hK4⟩
      have J4 := Lib.hid hJ4; have B4 := Lib.hid (B3.out.trans hK4)
      clear hy hRR hJ4 hK4 e0 e6 e7 r0 r2
      gi_wp2_with fail
      go_roundw
      case rel => exact ⟨v + 1, by go_num, by omega, by omega, B4, Lib.hid (by rw [show v + 1 - 1 = v by omega, HL.out, KE.out, ← List.append_assoc]; exact J4.out)⟩
      case measure => simp [intOf]; omega
     ·have hoB : ownB s m v = false := by
       rw [OWN.out, Bool.and_eq_false_iff, decide_eq_false_iff_not, decide_eq_false_iff_not]
       by_cases h : (m : Int) = s.dir
       ·exact Or.inr fun h2 => ho ⟨h, h2⟩
       ·exact Or.inl h
      have hy1 := HY0.out
      rw [hoB] at hy1
      have KE := Lib.hid (KEY.out.trans (by rw [hoB]) : parOf s m v = ⟨⟨s.id, m, v, false⟩, if false = true then 1073741824 else dt⟩)
      have FI := Lib.hid (FIT.out.trans (by rw [hoB]; rfl) : fitB ta tc s m v = (bo && decide (ta * 707281 ≤ dt * tc)))
      have HY1 := Lib.hid hy1
      have hcs : ((m : Int) == s.dir) = false ∨ (((m : Int) == s.dir) = true ∧ ((v : Int) == s.level) = false) := by
       by_cases h : (m : Int) = s.dir
       ·exact Or.inr ⟨by simpa using h, by simpa using fun h2 => ho ⟨h, h2⟩⟩
       ·exact Or.inl (by simpa using h)
      clear ho hoB HY0 hy1
      cases hbo : bo with
      | false =>
       have HF := Lib.hid (FI.out.trans (by rw [hbo]; rfl) : fitB ta tc s m v = false)
       have HL := Lib.hid (lineL_miss hv1 HF.out)
       subst hbo
       rcases hcs with f1 | ⟨f1, f2⟩
       all_goals
        gi_wp2_with fail
        refine ⟨fun _ h => (by cases h), ?_⟩
        gi_wp2_with fail
        go_roundw
        case rel => exact ⟨v + 1, by go_num, by omega, by omega, B3, Lib.hid (by rw [show v + 1 - 1 = v by omega, HL.out]; exact J3.out)⟩
        case measure => simp [intOf]; omega
      | true =>
       subst hbo
       by_cases hft : ta * 707281 ≤ dt * tc
       ·have HF := Lib.hid (FI.out.trans (by rw [decide_eq_true hft]; rfl) : fitB ta tc s m v = true)
        have HL := Lib.hid (lineL_hit hv1 HF.out)
        have f3 : ta * 841 * 841 ≤ dt * tc := by omega
        clear hft
        rcases hcs with f1 | ⟨f1, f2⟩
        all_goals
         obtain ⟨fn, tmps, assign, body, hy, hRR⟩ := HY1.out
         simp only [parE, Bool.false_eq_true, if_false] at hy
         gi_wp2_with fail
         refine hRR.mono ?_
         rintro e W4 ⟨rfl, hJ4, hK4⟩
         have J4 := Lib.hid hJ4; have B4 := Lib.hid (B3.out.trans hK4)
         clear hy hRR hJ4 hK4 e0 e6 e7 r0 r2
         gi_wp2_with fail
         go_roundw
         case rel => exact ⟨v + 1, by go_num, by omega, by omega, B4, Lib.hid (by rw [show v + 1 - 1 = v by omega, HL.out, KE.out, ← List.append_assoc]; exact J4.out)⟩
         case measure => simp [intOf]; omega
       ·have HF := Lib.hid (FI.out.trans (by rw [decide_eq_false hft]; rfl) : fitB ta tc s m v = false)
        have HL := Lib.hid (lineL_miss hv1 HF.out)
        have f3 : ¬ ta * 841 * 841 ≤ dt * tc := by omega
        clear hft
        rcases hcs with f1 | ⟨f1, f2⟩
        all_goals
         gi_wp2_with fail
         refine ⟨fun _ h => (by cases h), ?_⟩
         gi_wp2_with fail
         go_roundw
         case rel => exact ⟨v + 1, by go_num, by omega, by omega, B3, Lib.hid (by rw [show v + 1 - 1 = v by omega, HL.out]; exact J3.out)⟩
         case measure => simp [intOf]; omega
    ·have hvt' : ¬ (v : Int) ≤ (top : Int) := by omega
     obtain rfl : v = top + 1 := by omega
     gi_wp2_with fail
     go_roundw
     case rel => exact ⟨m + 1, by go_num, by omega, hB2, Lib.hid (by rw [HAS.out]; simpa using hj2.out)⟩
     case measure => simp [intOf]; omega
  ·have hm8' : ¬ (m : Int) ≤ 8 := by omega
   obtain rfl : m = 9 := by omega
   gi_wp2_with fail
   go_end0
   exact ⟨⟨_, rfl⟩, hj.out⟩
end Go.Proofs.YtggcbblikgankaaGreatDoor
end
