/- Contracts and plain laws on the way to the statement: part 27. -/
import Derived.Test.YtggcbblikgankaaGreatDoorZ24
import Derived.Test.YtggcbblikgankaaGreatDoorZ5
import Derived.Shelf.SlSortCmp.Insertion
import Derived.Test.YtggcbblikgankaaGreatDoorZ3
set_option linter.unusedVariables false
set_option linter.unusedSimpArgs false
set_option maxRecDepth 100000
set_option maxHeartbeats 16000000
namespace Go.Proofs.YtggcbblikgankaaGreatDoor
open Go.Value (int)
open Go.IntKind (i64)
section
open Go.RowKit
structure Par where
 r : Rea
 n : Int
 deriving DecidableEq
instance : Inhabited Par := ⟨⟨default, 0⟩⟩
def Ea (s : Sgn) (d v : Int) : Bool := decide (d = s.dir) && decide (v = s.level)
def FM (s : Sgn) (d v : Int) : Int := if Ea s d v then 1073741824 else AD s.dir s.level d v
def Cm (ta tc : Int) (s : Sgn) (d v : Int) : Bool := Ea s d v || (nzB s.dir s.level && nzB d v && decide (ta * 707281 ≤ AD s.dir s.level d v * tc))
def Cv (s : Sgn) (d v : Int) : Par := ⟨⟨s.id, d, v, false⟩, FM s d v⟩
def BF (ta tc : Int) (s : Sgn) (d : Nat) (m : Nat) : List Par := (List.range m).filterMap fun (v : Nat) => if Cm ta tc s d ((v : Int) + 1) then some (Cv s d ((v : Int) + 1)) else none
def C8 (ta tc : Int) (s : Sgn) (top m : Nat) : List Par := (List.range m).flatMap fun (d : Nat) => BF ta tc s d top
theorem D3 {ta tc : Int} {s : Sgn} {d m : Nat} (h : Cm ta tc s d ((m : Int) + 1) = true) : BF ta tc s d (m + 1) = BF ta tc s d m ++ [Cv s d ((m : Int) + 1)] := by
 unfold BF; rw [List.range_succ, List.filterMap_append]; simp [h]
theorem Fp {ta tc : Int} {s : Sgn} {d m : Nat} (h : Cm ta tc s d ((m : Int) + 1) = false) : BF ta tc s d (m + 1) = BF ta tc s d m := by
 unfold BF; rw [List.range_succ, List.filterMap_append]; simp [h]
theorem D4 {ta tc : Int} {s : Sgn} {top m : Nat} : C8 ta tc s top (m + 1) = C8 ta tc s top m ++ BF ta tc s m top := by
 unfold C8; rw [List.range_succ, List.flatMap_append]; simp
theorem JF {ta tc : Int} {s : Sgn} {d v : Nat} (hv : 1 ≤ v) (h : Cm ta tc s d v = true) : BF ta tc s d v = BF ta tc s d (v - 1) ++ [Cv s d v] := by
 obtain ⟨m, rfl⟩ : ∃ m, v = m + 1 := ⟨v - 1, by omega⟩
 exact D3 (by simpa using h)
theorem Hq {ta tc : Int} {s : Sgn} {d v : Nat} (hv : 1 ≤ v) (h : Cm ta tc s d v = false) : BF ta tc s d v = BF ta tc s d (v - 1) := by
 obtain ⟨m, rfl⟩ : ∃ m, v = m + 1 := ⟨v - 1, by omega⟩
 exact Fp (by simpa using h)
theorem Ju (ta tc : Int) (s : Sgn) (d m : Nat) : (BF ta tc s d m).length ≤ m := by
 unfold BF; exact Nat.le_trans (List.length_filterMap_le _ _) (by simp)
theorem EC (ta tc : Int) (s : Sgn) (top : Nat) : ∀ m, (C8 ta tc s top m).length ≤ m * top
 | 0 => by simp [C8]
 | m + 1 => by
  rw [D4, List.length_append, Nat.succ_mul]
  exact Nat.add_le_add (EC ta tc s top m) (Ju ta tc s m top)
def Nn (a l d v : Int) : Bool := (decide (d = a) && decide (v = l)) || (nzB a l && nzB d v && decide (0 ≤ AD a l d v))
theorem R3 {ta tc : Int} {s : Sgn} {d v : Int} (h0 : 0 ≤ ta) (h1 : 1 ≤ tc) (h : Cm ta tc s d v = true) : Nn s.dir s.level d v = true := by
 unfold Cm Ea at h
 unfold Nn
 simp only [Bool.or_eq_true, Bool.and_eq_true, decide_eq_true_eq] at h ⊢
 rcases h with h | ⟨h2, h3⟩
 ·exact Or.inl h
 ·refine Or.inr ⟨h2, ?_⟩
  have h4 : 0 ≤ ta * 707281 := Int.mul_nonneg h0 (by decide)
  have h5 : 0 ≤ AD s.dir s.level d v * tc := Int.le_trans h4 h3
  exact Int.nonneg_of_mul_nonneg_left h5 (by omega)
def Pw (a l : Int) (top m : Nat) : Nat := ((List.range m).flatMap fun (d : Nat) => (List.range top).filter fun (v : Nat) => Nn a l d ((v : Int) + 1)).length
theorem QF : ∀ a, a < 9 → ∀ l, l < 3 → ∀ top, top < 4 → Pw (a : Nat) ((l : Nat) + 1 : Int) top 9 ≤ 17 := by decide
theorem Rt {ta tc : Int} {s : Sgn} {top m : Nat} (h0 : 0 ≤ ta) (h1 : 1 ≤ tc) : (C8 ta tc s top m).length ≤ Pw s.dir s.level top m := by
 unfold C8 Pw
 rw [List.length_flatMap, List.length_flatMap]
 have key : ∀ d : Nat, (BF ta tc s d top).length ≤ ((List.range top).filter fun (v : Nat) => Nn s.dir s.level d ((v : Int) + 1)).length := by
  intro d
  unfold BF
  generalize List.range top = R
  induction R with
  | nil => simp
  | cons v r ih =>
   rw [List.filterMap_cons, List.filter_cons]
   cases hf : Cm ta tc s d ((v : Int) + 1) with
   | true => rw [R3 h0 h1 hf]; simpa using ih
   | false =>
    simp only [Bool.false_eq_true, if_false]
    split
    ·exact Nat.le_trans ih (by simp)
    ·exact ih
 generalize List.range m = R
 induction R with
 | nil => simp
 | cons v r ih => simp only [List.map_cons, List.sum_cons]; exact Nat.add_le_add (key v) ih
theorem R6 {ta tc : Int} {s : Sgn} {top : Nat} (h0 : 0 ≤ ta) (h1 : 1 ≤ tc) (hd : inB s.dir 0 8 = true) (hl : inB s.level 1 3 = true) (ht : top ≤ 3) : (C8 ta tc s top 9).length ≤ 17 := by
 have hd := A4.1 hd
 have hl := A4.1 hl
 have := QF s.dir.toNat (by omega) (s.level - 1).toNat (by omega) top (by omega)
 rw [show ((s.dir.toNat : Nat) : Int) = s.dir by omega, show (((s.level - 1).toNat : Nat) : Int) + 1 = s.level by omega] at this
 exact Nat.le_trans (Rt h0 h1) this
end
section
open Go.RowKit Go.Shelf
attribute [local go_sem] Oper.semAt_some
theorem Env.two {w w' : World} {n : Nat} (h : Env w) (hn : 2 ≤ n) (hb : Below n w w') : Env w' where
 kinds k hk j v hv := (hb.cell (p := ⟨0, k * 6 + j, none⟩) (by show 0 < n; omega)).trans (h.kinds k hk j v hv)
 flat k p hp := ⟨(hb.cell (p := ⟨1, k * 2, none⟩) (by show 1 < n; omega)).trans (h.flat k p hp).1, (hb.cell (p := ⟨1, k * 2 + 1, none⟩) (by show 1 < n; omega)).trans (h.flat k p hp).2⟩
def IT (r : Rea) : Array Value := #[int i64 r.sign, int i64 r.dir, int i64 r.level, .bool r.drop]
def QN (x : Par) : Array Value := #[.agg #[int i64 x.r.sign, int i64 x.r.dir, int i64 x.r.level, .bool x.r.drop], int i64 x.n]
theorem SI {d l d' l' : Int} (h1 : CE d l = true) (h2 : CE d' l' = true) : -3000000000 ≤ AD d l d' l' ∧ AD d l d' l' ≤ 3000000000 := by
 obtain ⟨x1, x2, x3⟩ := Et h1
 obtain ⟨y1, y2, y3⟩ := Et h2
 have key : ∀ a b : Int, -29000 ≤ a ∧ a ≤ 29000 → -29000 ≤ b ∧ b ≤ 29000 → -841000000 ≤ a * b ∧ a * b ≤ 841000000 := by
  intro a b ha hb
  have hx : (a * b).natAbs ≤ 841000000 := by
   rw [Int.natAbs_mul]
   calc a.natAbs * b.natAbs ≤ 29000 * 29000 := Nat.mul_le_mul (by omega) (by omega)
    _ = 841000000 := by decide
  omega
 have := key _ _ x1 y1; have := key _ _ x2 y2; have := key _ _ x3 y3
 unfold AD; omega
theorem RU {a b : Int} (h1 : -3000000000 ≤ a ∧ a ≤ 3000000000) (h2 : 0 ≤ b ∧ b ≤ 32768) : -98304000000000 ≤ a * b ∧ a * b ≤ 98304000000000 := by
 have hx : (a * b).natAbs ≤ 98304000000000 := by
  rw [Int.natAbs_mul]
  calc a.natAbs * b.natAbs ≤ 3000000000 * 32768 := Nat.mul_le_mul (by omega) (by omega)
   _ = 98304000000000 := by decide
 omega
theorem Pr (n l Bt Bk Br n₀ : Nat) (hn : 1 ≤ n) (hn0 : 2 ≤ n₀) (hBt : Bt < n₀) (hBk : Bk < n₀) (hBr : Br < n₀) (ta tb tc : Int) (hta : 0 ≤ ta ∧ ta ≤ 32768) (htc : 0 ≤ tc ∧ tc ≤ 32768) (s : Sgn) (hd0 : 0 ≤ s.dir ∧ s.dir ≤ 8) (hl0 : 1 ≤ s.level ∧ s.level ≤ 3) (top : Nat) (htop : top ≤ 3) (J : List Par → World → Prop) (hJ : Er J)
  (hY : ∀ pre x W1, J pre W1 → pre.length < 1000 → YieldAt Fence.wide (n - 1) Tryz.prog l (QN x) W1 fun e W' => e = .returned (.bool true) ∧ J (pre ++ [x]) W' ∧ Below n₀ W1 W')
  (W : World) (hE : Env W) (hz : n₀ ≤ W.heap.size) (ht : W.heap[Bt]? = some (.cells #[int i64 top] 3 (0, 0))) (hk : W.heap[Bk]? = some (.cells (Ar s) 72 (0, 0))) (hr : W.heap[Br]? = some (.cells #[int i64 ta, int i64 tb, int i64 tc] 23 (0, 0))) (h0 : J [] W) :
  CallsIn Fence.wide n Tryz.prog 121 #[.func (.yield l) #[] #[], .pointer (some ⟨Bt, 0, none⟩), .pointer (some ⟨Bk, 0, none⟩), .pointer (some ⟨Br, 0, none⟩)] W fun e W' => (∃ v, e = .returned v) ∧ ∃ xs, xs = C8 ta tc s top 9 ∧ J xs W' := by
 have hJA := fun m => EC ta tc s top m
 have hJL := fun d m => Ju ta tc s d m
 have hAS := fun m => D4 (ta := ta) (tc := tc) (s := s) (top := top) (m := m)
 have HE := qh hE; have HT := qh ht; have HK := qh hk; have HR := qh hr; have HJ := qh hJ; have HY := qh hY; have HJA := qh hJA; have HJL := qh hJL; have HAS := qh hAS
 clear hE ht hk hr hJ hY hJA hJL hAS
 refine callsIn_of_wp Tryz.func121 rfl trivial ?_ rfl
 simp only [Tryz.ntmps121, List.size_toArray, List.length_cons, List.length_nil, Nat.reduceAdd, Nat.reduceSub, Array.replicate_succ, Array.replicate_zero, List.push_toArray, List.append_toArray, List.nil_append, List.cons_append]
 gi_wp2_with fail
 gi_loopw [5] (fun dv wr => ∃ m : Nat, dv = int i64 m ∧ m ≤ 9 ∧ Hid (Below n₀ W wr) ∧ Hid (J (C8 ta tc s top m) wr)) (fun dv _ => 9 - (intOf dv).toNat)
 case atStart => exact ⟨0, rfl, by omega, qh (Below.refl _ _), qh h0⟩
 case round =>
  obtain ⟨m, rfl, hm, hB, hj⟩ := hrel
  by_cases hm8 : m ≤ 8
  ·have hm8' : (m : Int) ≤ 8 := by omega
   gi_wp2_with fail
   gi_loopw [6] (fun vv wr2 => ∃ v : Nat, vv = int i64 v ∧ 1 ≤ v ∧ v ≤ top + 1 ∧ Hid (Below n₀ W wr2) ∧ Hid (J (C8 ta tc s top m ++ BF ta tc s m (v - 1)) wr2)) (fun vv _ => top + 1 - (intOf vv).toNat)
   case atStart => exact ⟨1, rfl, by omega, by omega, hB, qh (by simpa [BF] using hj.out)⟩
   case round =>
    obtain ⟨v, rfl, hv1, hv2, hB2, hj2⟩ := hrel
    have hzz := hB2.out.size
    have c1 : wr.cell? ⟨Bt, 0, none⟩ = some (int i64 top) := A0 ((hB2.out.block _ hBt).trans HT.out) 0 rfl
    by_cases hvt : v ≤ top
    ·have hvt' : (v : Int) ≤ (top : Int) := by omega
     have kb := (hB2.out.block _ hBk).trans HK.out
     have k6 : wr.cell? ⟨Bk, 6, none⟩ = some (int i64 s.dir) := A0 kb 6 rfl
     have k7 : wr.cell? ⟨Bk, 7, none⟩ = some (int i64 s.level) := A0 kb 7 rfl
     have hvec1 : CE s.dir s.level = true := by unfold CE; rw [A4.2 hd0, A4.2 hl0]; rfl
     have hvec2 : CE m v = true := by unfold CE; rw [A4.2 (by omega), A4.2 (by omega)]; rfl
     have hdot := RV s.dir s.level m v hvec1 hvec2 wr (HE.out.two hn0 hB2.out) (by omega)
     have hbd := SI hvec1 hvec2
     obtain ⟨q1, q2⟩ := RU hbd htc
     have fitD : Cm ta tc s m v = (Ea s m v || (nzB s.dir s.level && nzB m v && decide (ta * 707281 ≤ AD s.dir s.level m v * tc))) := rfl
     have keyD : Cv s m v = ⟨⟨s.id, m, v, false⟩, if Ea s m v then 1073741824 else AD s.dir s.level m v⟩ := rfl
     have ownD : Ea s m v = (decide ((m : Int) = s.dir) && decide ((v : Int) = s.level)) := rfl
     clear kb hvec1 hvec2
     generalize AD s.dir s.level m v = dt at *
     generalize (nzB s.dir s.level && nzB m v) = bo at *
     have HDOT := qh hdot; have FIT := qh fitD; have KEY := qh keyD; have OWN := qh ownD
     clear hdot fitD keyD ownD
     gi_wp2_with fail
     refine ⟨trivial, ?_⟩
     refine (callsIn_wide.2 HDOT.out).mono ?_
     rintro e w3 ⟨rfl, hb3⟩
     have b3 : Below n₀ W w3 := hB2.out.trans (hb3.mono (by omega))
     have kb := (b3.block _ hBk).trans HK.out
     have rb := (b3.block _ hBr).trans HR.out
     have e0 : w3.cell? ⟨Bk, 0, none⟩ = some (int i64 s.id) := A0 kb 0 rfl
     have e6 : w3.cell? ⟨Bk, 6, none⟩ = some (int i64 s.dir) := A0 kb 6 rfl
     have e7 : w3.cell? ⟨Bk, 7, none⟩ = some (int i64 s.level) := A0 kb 7 rfl
     have r0 : w3.cell? ⟨Br, 0, none⟩ = some (int i64 ta) := A0 rb 0 rfl
     have r2 : w3.cell? ⟨Br, 2, none⟩ = some (int i64 tc) := A0 rb 2 rfl
     have j3 := HJ.out _ _ _ hj2.out hb3
     have B3 := qh b3; have J3 := qh j3
     clear k6 k7 c1 kb rb b3 hb3 hj2 hB2 HDOT j3
     have hlen : (C8 ta tc s top m ++ BF ta tc s m (v - 1)).length < 1000 := by
      have h1 := HJA.out m
      have h2 := HJL.out m (v - 1)
      have h3 : m * top ≤ 8 * 3 := Nat.mul_le_mul hm8 htop
      rw [List.length_append]; omega
     have hy0 := HY.out _ (Cv s m v) w3 J3.out hlen
     rw [KEY.out] at hy0
     have W1 : IntKind.i64.wrap (ta * 841) = ta * 841 := IntWalk.i64_in _ (by omega)
     have W2 : IntKind.i64.wrap (ta * 841 * 841) = ta * 841 * 841 := IntWalk.i64_in _ (by omega)
     have W3 : IntKind.i64.wrap (dt * tc) = dt * tc := IntWalk.i64_in _ (by omega)
     have HY0 := qh hy0
     clear hy0 hlen
     by_cases ho : (m : Int) = s.dir ∧ (v : Int) = s.level
     ·have f1 : ((m : Int) == s.dir) = true := by simpa using ho.1
      have f2 : ((v : Int) == s.level) = true := by simpa using ho.2
      have hoB : Ea s m v = true := by rw [OWN.out, decide_eq_true ho.1, decide_eq_true ho.2]; rfl
      have hF : Cm ta tc s m v = true := by rw [FIT.out, hoB]; rfl
      have hy1 := HY0.out
      rw [hoB] at hy1
      have HL := qh (JF hv1 hF)
      have KE := qh (KEY.out.trans (by rw [hoB]) : Cv s m v = ⟨⟨s.id, m, v, false⟩, if true = true then 1073741824 else dt⟩)
      obtain ⟨fn, tmps, assign, body, hy, hRR⟩ := hy1
      simp only [QN, if_true] at hy
      clear ho hoB hF HY0
      gi_wp2_with fail
      refine hRR.mono ?_
      rintro e W4 ⟨rfl, hJ4, hK4⟩
      have J4 := qh hJ4; have B4 := qh (B3.out.trans hK4)
      clear hy hRR hJ4 hK4 e0 e6 e7 r0 r2
      gi_wp2_with fail
      go_roundw
      case rel => exact ⟨v + 1, by go_num, by omega, by omega, B4, qh (by rw [show v + 1 - 1 = v by omega, HL.out, KE.out, ← List.append_assoc]; exact J4.out)⟩
      case measure => simp [intOf]; omega
     ·have hoB : Ea s m v = false := by
       rw [OWN.out, Bool.and_eq_false_iff, decide_eq_false_iff_not, decide_eq_false_iff_not]
       by_cases h : (m : Int) = s.dir
       ·exact Or.inr fun h2 => ho ⟨h, h2⟩
       ·exact Or.inl h
      have hy1 := HY0.out
      rw [hoB] at hy1
      have KE := qh (KEY.out.trans (by rw [hoB]) : Cv s m v = ⟨⟨s.id, m, v, false⟩, if false = true then 1073741824 else dt⟩)
      have FI := qh (FIT.out.trans (by rw [hoB]; rfl) : Cm ta tc s m v = (bo && decide (ta * 707281 ≤ dt * tc)))
      have HY1 := qh hy1
      have hcs : ((m : Int) == s.dir) = false ∨ (((m : Int) == s.dir) = true ∧ ((v : Int) == s.level) = false) := by
       by_cases h : (m : Int) = s.dir
       ·exact Or.inr ⟨by simpa using h, by simpa using fun h2 => ho ⟨h, h2⟩⟩
       ·exact Or.inl (by simpa using h)
      clear ho hoB HY0 hy1
      cases hbo : bo with
      | false =>
       have HF := qh (FI.out.trans (by rw [hbo]; rfl) : Cm ta tc s m v = false)
       have HL := qh (Hq hv1 HF.out)
       subst hbo
       rcases hcs with f1 | ⟨f1, f2⟩
       all_goals
        gi_wp2_with fail
        refine ⟨fun _ h => (by cases h), ?_⟩
        gi_wp2_with fail
        go_roundw
        case rel => exact ⟨v + 1, by go_num, by omega, by omega, B3, qh (by rw [show v + 1 - 1 = v by omega, HL.out]; exact J3.out)⟩
        case measure => simp [intOf]; omega
      | true =>
       subst hbo
       by_cases hft : ta * 707281 ≤ dt * tc
       ·have HF := qh (FI.out.trans (by rw [decide_eq_true hft]; rfl) : Cm ta tc s m v = true)
        have HL := qh (JF hv1 HF.out)
        have f3 : ta * 841 * 841 ≤ dt * tc := by omega
        clear hft
        rcases hcs with f1 | ⟨f1, f2⟩
        all_goals
         obtain ⟨fn, tmps, assign, body, hy, hRR⟩ := HY1.out
         simp only [QN, Bool.false_eq_true, if_false] at hy
         gi_wp2_with fail
         refine hRR.mono ?_
         rintro e W4 ⟨rfl, hJ4, hK4⟩
         have J4 := qh hJ4; have B4 := qh (B3.out.trans hK4)
         clear hy hRR hJ4 hK4 e0 e6 e7 r0 r2
         gi_wp2_with fail
         go_roundw
         case rel => exact ⟨v + 1, by go_num, by omega, by omega, B4, qh (by rw [show v + 1 - 1 = v by omega, HL.out, KE.out, ← List.append_assoc]; exact J4.out)⟩
         case measure => simp [intOf]; omega
       ·have HF := qh (FI.out.trans (by rw [decide_eq_false hft]; rfl) : Cm ta tc s m v = false)
        have HL := qh (Hq hv1 HF.out)
        have f3 : ¬ ta * 841 * 841 ≤ dt * tc := by omega
        clear hft
        rcases hcs with f1 | ⟨f1, f2⟩
        all_goals
         gi_wp2_with fail
         refine ⟨fun _ h => (by cases h), ?_⟩
         gi_wp2_with fail
         go_roundw
         case rel => exact ⟨v + 1, by go_num, by omega, by omega, B3, qh (by rw [show v + 1 - 1 = v by omega, HL.out]; exact J3.out)⟩
         case measure => simp [intOf]; omega
    ·have hvt' : ¬ (v : Int) ≤ (top : Int) := by omega
     obtain rfl : v = top + 1 := by omega
     gi_wp2_with fail
     go_roundw
     case rel => exact ⟨m + 1, by go_num, by omega, hB2, qh (by rw [HAS.out]; simpa using hj2.out)⟩
     case measure => simp [intOf]; omega
  ·have hm8' : ¬ (m : Int) ≤ 8 := by omega
   obtain rfl : m = 9 := by omega
   gi_wp2_with fail
   go_end0
   exact ⟨⟨_, rfl⟩, hj.out⟩
end
end Go.Proofs.YtggcbblikgankaaGreatDoor
