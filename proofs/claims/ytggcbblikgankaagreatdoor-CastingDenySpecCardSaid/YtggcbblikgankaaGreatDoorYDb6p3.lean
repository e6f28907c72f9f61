/- The walk of the statement: part 3. -/
import Derived.Test.YtggcbblikgankaaGreatDoorYDb6p2
import Derived.Test.YtggcbblikgankaaGreatDoorZ27
import Derived.BigQuiet
set_option linter.unusedVariables false
set_option linter.unusedSimpArgs false
section
namespace Go.Proofs.YtggcbblikgankaaGreatDoor
open Go Go.RowKit Go.Deep
theorem make_big (m : Nat) (hm : m ≤ 65536) (w : World) : (Instr.makeSlice 55 (.int .i64 m) (.int .i64 m)).run Tryz.prog w = .ok (.slice (some ⟨w.heap.size, 0, none⟩) m m) (w.alloc (.cells (Array.replicate m (.int .i64 0)) 3)) := by
 obtain ⟨i, h1, h2, h3, h4⟩ := info3
 have h := run_make (P := Tryz.prog) w 55 3 i (.int .i64 0) Tryz.underlying55 h1 h2 .i64 .i64 m m (by omega) (Int.le_refl _) (by rw [h4]; omega) (by omega)
 rw [h, h3]
 simp [Value.cells, made_one]
theorem onesN_lt : ∀ n : Nat, onesN n ≤ n := fun n => by
 induction n using Nat.strongRecOn with
 | ind n ih =>
  by_cases h : n = 0
  ·subst h; rw [onesN_zero]; exact Nat.le_refl _
  ·rw [onesN_step h]
   have := ih (n / 2) (by omega)
   omega
theorem tk {P : Program} {md : Region.Mode} {ops : Array Oper} {Q : Exit → Act → World → Prop} {S : World → Prop} {oi : Oper} {fuel : Nat} {listed : Array Bool} {a : Act} {w : World} (i : Nat) (v : Value) (hS : S w)
  (h : wpAnyH P md ops Q S fuel (listed.setIfInBounds i true) (a.put oi.dst v) w) (hi : ops[i]? = some oi := by rfl)
  (hs : Region.noSelect ops = true := by kernel_rfl) (hf : Region.free md ops listed i = true := by kernel_rfl) (hr : (Region.ready md ops listed).contains i = true := by kernel_rfl)
  (hQ : ∀ c a w, Q (.panic c) (a.put oi.dst v) w → Q (.panic c) a w := by exact fun _ _ _ h => h) (hw : Region.wanted oi (yielded ops a.tmps) = true := by kernel_rfl)
  (hy : ∀ w, S w → (execOp a.eval oi).run P w = .ok (.value v) w := by (intro w hw; obtain ⟨h1, h2⟩ := hw; go_simp)) : wpAnyH P md ops Q S (fuel + 1) listed a w :=
 wpAnyH_take hi hs hf hr hQ (Or.inl ⟨hw, hy⟩) hS h
theorem mat_cells {W : World} {cost : List (List Int)} {ao : Option Addr} {n c nb : Nat} (h : IsMat W (.slice ao n c) cost) (hl : cost.length = n) (hw : ∀ r ∈ cost, r.length = nb) (h0 : 0 < nb) (i : Nat) (hi : i < n) :
  ∃ b o bi oi ci, ao = some ⟨b, o, none⟩ ∧ ∀ wr, Below W.heap.size W wr → wr.cell? ⟨b, o + i, none⟩ = some (.slice (some ⟨bi, oi, none⟩) nb ci) ∧ ∀ j, j < nb → wr.cell? ⟨bi, oi + j, none⟩ = some (.int .i64 (cI cost i j)) := by
 obtain ⟨b, o, e, ar, cr, h1, h2, h3⟩ := h.at_ (i := i) (by omega)
 have hrl : (cost[i]?.getD []).length = nb := by
  rw [List.getElem?_eq_getElem (by omega)]
  exact hw _ (List.getElem_mem _)
 obtain ⟨bi, oi, ei, _, hlt⟩ := h2.int (j := 0) (by omega)
 subst ei
 rw [hrl] at h1
 refine ⟨b, o, bi, oi, cr, e, fun wr hb => ⟨(hb.cell (p := ⟨b, o + i, none⟩) h3).trans h1, fun j hj => ?_⟩⟩
 obtain ⟨bi', oi', ei', h4, _⟩ := h2.int (j := j) (by omega)
 obtain ⟨rfl, rfl⟩ : bi = bi' ∧ oi = oi' := by
  injection ei' with ei'
  injection ei' with e1 e2
  exact ⟨e1, e2⟩
 exact (hb.cell (p := ⟨bi, oi + j, none⟩) hlt).trans h4
set_option maxRecDepth 100000 in
set_option maxHeartbeats 4000000 in
theorem ones_any (n : Nat) (hn : n ≤ 65536) (w : World) : Calls Tryz.prog 58 #[.int .i64 n] w fun e w' => e = .returned (.int .i64 (onesN n)) ∧ w' = w := by
 go_enter Tryz.func58, Tryz.ntmps58
 go_wp2_with fail
 go_loopw [0, 3] (fun nv kv wr => ∃ a k : Nat, nv = .int .i64 a ∧ kv = .int .i64 k ∧ a ≤ 65536 ∧ Hid (k + onesN a = onesN n) ∧ wr = w) (fun nv _ _ => (intOf nv).toNat)
 case atStart => exact ⟨n, 0, rfl, rfl, hn, Lib.hid (by omega), rfl⟩
 case round =>
  obtain ⟨a, k, rfl, rfl, ha, hK, rfl⟩ := hrel
  have hk : k ≤ 65536 := by have := hK.out; have := onesN_lt n; omega
  by_cases h0 : a = 0
  ·subst h0
   have hk2 : k = onesN n := by have := hK.out; rw [onesN_zero] at this; omega
   have HK := Lib.hid hk2
   clear hk2 hK
   go_wp2_with fail
   go_ret
   exact ⟨by rw [← HK.out]; rfl, rfl⟩
  ·have h1 : (0 : Int) < (a : Int) := by omega
   have hm : Int.tmod (a : Int) 2 = ((a % 2 : Nat) : Int) := rfl
   have hd : Int.tdiv (a : Int) 2 = ((a / 2 : Nat) : Int) := rfl
   have hK2 : (k + a % 2) + onesN (a / 2) = onesN n := by have := hK.out; rw [onesN_step h0] at this; omega
   have hlt : a / 2 < a := by omega
   have ha2 : a / 2 ≤ 65536 := by omega
   have hb : a % 2 ≤ 1 := by omega
   have HK := Lib.hid hK2; have HL := Lib.hid hlt
   clear hK hK2 hlt
   generalize a % 2 = b at *
   generalize a / 2 = a2 at *
   go_wp2_with fail
   go_roundw
   case rel => exact ⟨a2, k + b, by go_num, by go_num, ha2, HK, trivial⟩
   case measure =>
    have := HL.out
    simp [intOf]; omega
set_option maxRecDepth 100000 in
set_option maxHeartbeats 4000000 in
theorem columns_any (cost : List (List Int)) (ao : Option Addr) (n c : Nat) (hl : cost.length = n) (w : World) (h : IsMat w (.slice ao n c) cost) : Calls Tryz.prog 55 #[.slice ao n c] w fun e w' => e = .returned (.int .i64 (widN cost)) ∧ w' = w := by
 have hmx := h.len
 rw [hl] at hmx
 simp only [maxLen] at hmx
 by_cases h0 : n = 0
 ·subst h0
  have hw : widN cost = 0 := by
   unfold widN
   rw [List.length_eq_zero_iff.1 hl]; rfl
  have HW := Lib.hid hw
  clear hw h
  go_enter Tryz.func55, Tryz.ntmps55
  go_wp2_with fail
  go_ret
  exact ⟨by rw [HW.out]; rfl, rfl⟩
 ·obtain ⟨b, o, rfl, ar, cr, h1, h2, h3⟩ := h.at_ (i := 0) (by omega)
  have hw : (cost[0]?.getD []).length = widN cost := rfl
  rw [hw] at h1
  rw [Nat.add_zero] at h1
  have h0' : ((n : Int) == 0) = false := by simp; omega
  have hpos : (0 : Int) < (n : Int) := by omega
  clear h h2 h3 hw
  generalize widN cost = m at *
  go_enter Tryz.func55, Tryz.ntmps55
  go_wp2_with fail
  go_ret
  exact ⟨rfl, rfl⟩
end Go.Proofs.YtggcbblikgankaaGreatDoor
end
section
set_option linter.unusedSimpArgs false
namespace Go.Proofs.YtggcbblikgankaaGreatDoor
open Go Go.RowKit Go.Deep
theorem tsum_bd {n i : Nat} {c : Nat → Nat → Int} {t : Nat → Nat} (hc : ∀ r j, c r j ≤ 1048576) (hn : n ≤ 16) : tsum n c i t ≤ 16777216 := by
 unfold tsum
 have h1 : sumT (fun r => c (i + r) (t (i + r))) (n - i) ≤ sumT (fun _ => (1048576 : Int)) (n - i) := sumT_le fun r _ => hc _ _
 have h2 : ∀ k : Nat, sumT (fun _ => (1048576 : Int)) k = 1048576 * (k : Int) := fun k => by
  induction k with
  | zero => rfl
  | succ k ih => show sumT _ k + 1048576 = _; rw [ih]; push_cast; omega
 rw [h2] at h1
 omega
theorem OptS.bd {n m i S : Nat} {c : Nat → Nat → Int} {v : Int} (h : OptS n m c i S v) (hc : ∀ r j, c r j ≤ 1048576) (hn : n ≤ 16) : -1 ≤ v ∧ v ≤ 16777216 := by
 rcases h with ⟨e, _⟩ | ⟨h0, ⟨t, _, hs⟩, _⟩
 ·omega
 ·have := tsum_bd (i := i) (t := t) hc hn
  omega
theorem fold_bd {c : Nat → Nat → Int} {i S : Nat} {L : Nat → Int} (k : Nat) (hc : ∀ j, j < k → c i j = -1 ∨ 0 ≤ c i j) (hu : ∀ j, j < k → c i j ≤ 1048576) (hL : ∀ j, j < k → S.testBit j = false → L (S + 2 ^ j) ≤ 16777216) : -1 ≤ foldJ c L i S k ∧ foldJ c L i S k ≤ 17825792 := by
 rcases fold_least (S := S) (L := L) k hc with ⟨e, _⟩ | ⟨h0, ⟨j, hj, hf, _, _, e⟩, _⟩
 ·omega
 ·have h1 := hu j hj
  have h2 := hL j hj hf
  omega
theorem bel_drewN {B : Nat} {a w : World} (h : Below B a w) (n : Nat) : Below B a (w.drewN n) := ⟨h.os, h.tape, h.output, h.size, h.block⟩
structure RestAt (n m : Nat) (c : Nat → Nat → Int) (g s : Nat) (l : List Int) (w wr : World) : Prop where
 blk : BI wr g l
 len : l.length = 2 ^ m
 done : ∀ S, s ≤ S → S < 2 ^ m → OptS n m c (onesN S) S (gi l S)
 zero : ∀ S, S < s → gi l S = 0
 below : Below w.heap.size w wr
theorem gi_same {l : List Int} {S : Nat} {x : Int} (h : S < l.length) : gi (l.set S x) S = x := by rw [gi_set _ _ _ _ h, if_pos rfl]
theorem gi_other {l : List Int} {S k : Nat} {x : Int} (h : S < l.length) (hk : k ≠ S) : gi (l.set S x) k = gi l k := by rw [gi_set _ _ _ _ h, if_neg hk]
theorem RestAt.skip {n m : Nat} {c : Nat → Nat → Int} {g s : Nat} {l : List Int} {w wr : World} (h : RestAt n m c g (s + 1) l w wr) (hs : n ≤ onesN s) : RestAt n m c g s l w wr :=
 ⟨h.blk, h.len, fun S h1 h2 => by
  by_cases e : S = s
  ·subst e
   rw [h.zero S (by omega)]
   exact OptS.last hs
  ·exact h.done S (by omega) h2, fun S h1 => h.zero S (by omega), h.below⟩
theorem RestAt.put {n m : Nat} {c : Nat → Nat → Int} {g s : Nat} {l : List Int} {w wr wr2 : World} (h : RestAt n m c g (s + 1) l w wr) (hs : s < 2 ^ m) (hi : onesN s < n) (hc : ∀ j, j < m → c (onesN s) j = -1 ∨ 0 ≤ c (onesN s) j)
  (hb : BI wr2 g (l.set s (foldJ c (gi l) (onesN s) s m))) (hbl : Below w.heap.size w wr2) : RestAt n m c g s (l.set s (foldJ c (gi l) (onesN s) s m)) w wr2 := by
 have hl : s < l.length := by rw [h.len]; exact hs
 have hopt : OptS n m c (onesN s) s (foldJ c (gi l) (onesN s) s m) := fold_opt hi hc fun j hj hf => by
  have h1 := add_lt hs hj hf
  have hp : 0 < 2 ^ j := Nat.pow_pos (by decide)
  have := h.done (s + 2 ^ j) (by omega) h1
  rw [onesN_add j s hf] at this
  exact this
 refine ⟨hb, by rw [List.length_set]; exact h.len, fun S h1 h2 => ?_, fun S h1 => ?_, hbl⟩
 ·by_cases e : S = s
  ·subst e; rw [gi_same hl]; exact hopt
  ·rw [gi_other hl e]; exact h.done S (by omega) h2
 ·rw [gi_other hl (by omega)]; exact h.zero S (by omega)
def RestP (n m : Nat) (c : Nat → Nat → Int) (w : World) (e : Ending) (w' : World) : Prop :=
 ∃ l, e = .returned (.slice (some ⟨w.heap.size, 0, none⟩) (2 ^ m) (2 ^ m)) ∧ RestAt n m c w.heap.size 0 l w w'
set_option maxRecDepth 100000 in
set_option maxHeartbeats 16000000 in
theorem rest_any (cost : List (List Int)) (ao : Option Addr) (n m cc : Nat) (hl : cost.length = n) (hn : n ≤ 16) (hm : m ≤ 16) (hwd : widN cost = m) (hw : ∀ r ∈ cost, r.length = m) (hv : ∀ i j, cI cost i j = -1 ∨ 0 ≤ cI cost i j) (hu : ∀ i j, cI cost i j ≤ 1048576)
  (w : World) (h : IsMat w (.slice ao n cc) cost) : Calls Tryz.prog 49 #[.slice ao n cc] w (RestP n m (cI cost) w) := by
 have hcol := columns_any cost ao n cc hl w h
 rw [hwd] at hcol
 obtain ⟨M, hM⟩ : ∃ M : Nat, 2 ^ m = M := ⟨_, rfl⟩
 have hM1 : 1 ≤ M := by rw [← hM]; exact Nat.pow_pos (by decide)
 have hM2 : M ≤ 65536 := by rw [← hM]; exact Nat.le_trans (Nat.pow_le_pow_right (by decide) hm) (by decide)
 have hpow : (2 : Int) ^ m = (M : Int) := by rw [← hM]; push_cast; rfl
 have hmk := fun (W : World) => make_big M hM2 W
 have hB0 : Below w.heap.size w (w.alloc (.cells (Array.replicate M (.int .i64 0)) 3)) := (Below.refl _ w).alloc (Nat.le_refl _) _
 have hR0 : RestAt n m (cI cost) w.heap.size M (List.replicate M 0) w (w.alloc (.cells (Array.replicate M (.int .i64 0)) 3)) := by
  refine ⟨?_, by rw [List.length_replicate, hM], fun S h1 h2 => by omega, fun S h1 => ?_, hB0⟩
  ·unfold BI
   rw [show (intsL (List.replicate M 0)).toArray = Array.replicate M (.int .i64 0) by simp [intsL]]
   exact heap_alloc_new w _
  ·unfold gi
   rw [List.getElem?_replicate, if_pos h1]; rfl
 have HCOL := Lib.hid hcol; have HR0 := Lib.hid hR0; have HM := Lib.hid hM; have HH := Lib.hid h; have HL := Lib.hid hl; have HW := Lib.hid hw; have HV := Lib.hid hv; have HU := Lib.hid hu
 clear hcol hR0 hM h hl hw hv hu hB0 hwd
 go_enter Tryz.func49, Tryz.ntmps49
 go_wp2_with fail
 refine HCOL.out.mono ?_
 rintro e W1 ⟨rfl, rfl⟩
 clear HCOL
 go_wp2_with fail
 generalize hV : W1.alloc (.cells (Array.replicate M (.int .i64 0)) 3) = V at *
 clear hmk hpow hV
 go_loopw [5] (fun iv wr => ∃ (s : Nat) (l : List Int), s ≤ M ∧ iv = .int .i64 ((s : Int) - 1) ∧ Hid (RestAt n m (cI cost) W1.heap.size s l W1 wr)) (fun iv _ => (intOf iv + 1).toNat)
 case atStart => exact ⟨M, _, Nat.le_refl _, rfl, HR0⟩
 case round =>
  clear HR0
  obtain ⟨s, l, hsM, rfl, hR⟩ := hrel
  rcases s with _ | s
  ·have h0 : ¬ (0 : Int) ≤ ((0 : Nat) : Int) - 1 := by omega
   have HP : Hid (RestP n m (cI cost) W1 (.returned (.slice (some ⟨W1.heap.size, 0, none⟩) M M)) wr) := Lib.hid ⟨l, by rw [HM.out], hR.out⟩
   clear hR
   go_wp2_with fail
   go_ret
   exact HP.out
  ·have e1 : (((s + 1 : Nat) : Int) - 1) = (s : Int) := by omega
   rw [e1]
   clear e1
   have hs : s < M := by omega
   have hs65 : s ≤ 65536 := by omega
   have hsge : (0 : Int) ≤ (s : Int) := by omega
   have hones := ones_any s hs65 wr
   have h1le : onesN s ≤ m := onesN_le m s (by rw [HM.out]; exact hs)
   have HON := Lib.hid hones
   clear hones
   go_wp2_with fail
   refine HON.out.mono ?_
   rintro e W2 ⟨rfl, rfl⟩
   clear HON
   by_cases hin : onesN s < n
   ·have hil := hin
    have hlt' : ¬ (n : Int) ≤ ((onesN s : Nat) : Int) := by omega
    have hlen : s < l.length := by rw [hR.out.len, HM.out]; exact hs
    have hcell := hR.out.blk.cell (j := s) hlen
    have hfz := hR.out.blk.free s
    have hb1 := hR.out.blk.set s (-1)
    have hbl1 := hR.out.below.setCell (p := ⟨W1.heap.size, s, none⟩) (Nat.le_refl _) (.int .i64 (-1))
    obtain ⟨i, hi⟩ : ∃ i, onesN s = i := ⟨_, rfl⟩
    have HI := Lib.hid hi
    rw [hi] at hlt' hin
    rw [hi]
    have HB1 : Hid (BI (W2.setCell ⟨W1.heap.size, s, none⟩ (.int .i64 (-1))) W1.heap.size (l.set s (foldJ (cI cost) (gi l) i s 0))) := Lib.hid hb1
    have HBL1 := Lib.hid hbl1
    have HLEN := Lib.hid hlen; have HIN := Lib.hid hin
    have hiI : (i : Int) < (n : Int) := by omega
    clear hi hil hb1 hbl1 hlen hin
    go_wp2_with fail
    generalize W2.setCell ⟨W1.heap.size, s, none⟩ (.int .i64 (-1)) = V2 at *
    clear hcell hfz hlt'
    go_loopw [7] (fun jv wr2 => ∃ k : Nat, k ≤ m ∧ jv = .int .i64 k ∧ Hid (BI wr2 W1.heap.size (l.set s (foldJ (cI cost) (gi l) i s k))) ∧ Hid (Below W1.heap.size W1 wr2)) (fun jv _ => m - (intOf jv).toNat)
    case atStart => exact ⟨0, Nat.zero_le _, rfl, HB1, HBL1⟩
    case round =>
     clear HB1 HBL1
     obtain ⟨k, hkm, rfl, hB, hQ⟩ := hrel
     by_cases hk : k < m
     ·have hk' : (k : Int) < (m : Int) := by omega
      obtain ⟨b0, o0, bi, oi, ci, e0, hmc⟩ := mat_cells HH.out HL.out HW.out (by omega) i HIN.out
      subst e0
      obtain ⟨u1, u2⟩ := hmc _ hQ.out
      have u3 := u2 k hk
      have hcv := HV.out i k
      have hcu := HU.out i k
      obtain ⟨P, hP⟩ : ∃ P : Nat, 2 ^ k = P := ⟨_, rfl⟩
      have hpow : (2 : Int) ^ k = (P : Int) := by rw [← hP]; push_cast; rfl
      have hPle : P ≤ 65536 := by rw [← hP]; exact Nat.le_trans (Nat.pow_le_pow_right (by decide) (show k ≤ 16 by omega)) (by decide)
      have hbit : s.testBit k = decide (s / P % 2 = 1) := by rw [← hP]; exact Nat.testBit_eq_decide_div_mod_eq
      have hdm : Int.tmod ((s : Int) / (P : Int)) 2 = ((s / P % 2 : Nat) : Int) := rfl
      have hfold : foldJ (cI cost) (gi l) i s (k + 1) = stepJ (cI cost) (gi l) i s (foldJ (cI cost) (gi l) i s k) k := rfl
      unfold stepJ at hfold
      rw [hP] at hfold
      have hkk : (k : Int) ≤ 64 := by omega
      clear u2 hmc
      by_cases hbt : s.testBit k = true
      ·rw [hbit, decide_eq_true_eq] at hbt
       rw [hbt] at hdm
       rw [if_pos (Or.inl (by rw [hbit, hbt]; rfl))] at hfold
       rw [← hfold] at hB
       have HB := Lib.hid hB
       clear hB hfold hbit hbt hcv hcu
       go_wp2_with fail
       go_roundw
       case rel => exact ⟨k + 1, by omega, by go_num, HB.out, hQ⟩
       case measure => simp [intOf] <;> omega
      ·have hbf : s.testBit k = false := by cases h : s.testBit k with
        | true => exact absurd h hbt
        | false => rfl
       have hdm0 : s / P % 2 = 0 := by
        rw [hbit, decide_eq_false_iff_not] at hbf
        omega
       rw [hdm0] at hdm
       by_cases hc1 : cI cost i k = -1
       ·rw [if_pos (Or.inr hc1)] at hfold
        rw [← hfold] at hB
        have HB := Lib.hid hB
        rw [hc1] at u3
        clear hB hfold hbit hbt hbf hdm0 hcv hcu hc1
        go_wp2_with fail
        go_roundw
        case rel => exact ⟨k + 1, by omega, by go_num, HB.out, hQ⟩
        case measure => simp [intOf] <;> omega
       ·have hc0 : 0 ≤ cI cost i k := hcv.resolve_left hc1
        have hne1 : (cI cost i k == -1) = false := by simpa using hc1
        have hidx : s + P < M := by rw [← hP, ← HM.out]; exact add_lt (by rw [HM.out]; exact hs) hk hbf
        have hPpos : 0 < P := by rw [← hP]; exact Nat.pow_pos (by decide)
        have hlen : s < l.length := HLEN.out
        have hlM : l.length = M := by rw [hR.out.len, HM.out]
        have a1 := hB.out.cell (j := s) (by rw [List.length_set]; exact hlen)
        rw [gi_same hlen] at a1
        have a2 := hB.out.cell (j := s + P) (by rw [List.length_set]; omega)
        rw [gi_other hlen (by omega)] at a2
        have afz := hB.out.free s
        have hopt := hR.out.done (s + P) (by omega) (by rw [HM.out]; exact hidx)
        have hub := hopt.bd HU.out hn
        rw [if_neg (by rintro (h | h); exact hbt h; exact hc1 h)] at hfold
        have hset : ∀ v : Int, BI (wr.setCell ⟨W1.heap.size, s, none⟩ (.int .i64 v)) W1.heap.size (l.set s v) := fun v => by
         have := hB.out.set s v
         rw [List.set_set] at this
         exact this
        have haccb := fold_bd (c := cI cost) (i := i) (S := s) (L := gi l) k (fun j _ => HV.out i j) (fun j _ => HU.out i j) (fun j hj hf => by
         have h1 := add_lt (show s < 2 ^ m by rw [HM.out]; exact hs) (show j < m by omega) hf
         have hp : 0 < 2 ^ j := Nat.pow_pos (by decide)
         exact ((hR.out.done (s + 2 ^ j) (by omega) h1).bd HU.out hn).2)
        obtain ⟨T, hT⟩ : ∃ T : Nat, s + P = T := ⟨_, rfl⟩
        have hTI : (s : Int) + (P : Int) = (T : Int) := by rw [← hT]; push_cast; rfl
        rw [hT] at a2 hub hfold hidx
        generalize gi l T = u at *
        generalize cI cost i k = cv at *
        generalize hacc : foldJ (cI cost) (gi l) i s k = acc at *
        have HF := Lib.hid hfold; have HB := Lib.hid hB; have HST := Lib.hid hset
        clear hB hfold hset hbit hbt hbf hdm0 hopt hlM hcv hc1 hacc hT
        have hTM : (T : Int) < (M : Int) := by omega
        have hsM : (s : Int) < (M : Int) := by omega
        go_wp2_with fail
        by_cases hu0 : 0 ≤ u
        ·by_cases ha : acc < 0
         ·have hf := HF.out
          rw [if_pos ⟨hu0, Or.inl ha⟩] at hf
          have HF2 := Lib.hid hf
          clear hf HF
          go_quiet (fail)
          go_wp2_with fail
          go_roundw
          case rel => exact ⟨k + 1, by omega, by go_num, by rw [HF2.out]; exact Lib.hid (HST.out _), Lib.hid ((bel_drewN hQ.out _).setCell (p := ⟨W1.heap.size, s, none⟩) (Nat.le_refl _) _)⟩
          case measure => simp [intOf] <;> omega
         ·by_cases hlt : cv + u < acc
          ·have hf := HF.out
           rw [if_pos ⟨hu0, Or.inr hlt⟩] at hf
           have HF2 := Lib.hid hf
           clear hf HF
           go_quiet (fail)
           go_wp2_with fail
           go_roundw
           case rel => exact ⟨k + 1, by omega, by go_num, by rw [HF2.out]; exact Lib.hid (HST.out _), Lib.hid ((bel_drewN hQ.out _).setCell (p := ⟨W1.heap.size, s, none⟩) (Nat.le_refl _) _)⟩
           case measure => simp [intOf] <;> omega
          ·have hf := HF.out
           rw [if_neg (by rintro ⟨_, h | h⟩; exact ha h; exact hlt h)] at hf
           have HF2 := Lib.hid hf
           clear hf HF
           go_quiet (fail)
           go_wp2_with fail
           go_roundw
           case rel => exact ⟨k + 1, by omega, by go_num, by rw [HF2.out]; exact Lib.hid HB.out.out, Lib.hid (bel_drewN hQ.out _)⟩
           case measure => simp [intOf] <;> omega
        ·have hf := HF.out
         rw [if_neg (by rintro ⟨h, _⟩; exact hu0 h)] at hf
         have HF2 := Lib.hid hf
         clear hf HF
         go_quiet (fail)
         go_wp2_with fail
         go_roundw
         case rel => exact ⟨k + 1, by omega, by go_num, by rw [HF2.out]; exact Lib.hid HB.out.out, Lib.hid (bel_drewN hQ.out _)⟩
         case measure => simp [intOf] <;> omega
     ·obtain rfl : k = m := by omega
      have hk' : ¬ (k : Int) < (k : Int) := by omega
      have HR2 := Lib.hid (RestAt.put hR.out (by rw [HM.out]; exact hs) (by rw [HI.out]; exact HIN.out) (fun j _ => HV.out _ j) (by rw [HI.out]; exact hB.out) hQ.out)
      clear hB hQ hR
      go_wp2_with fail
      go_roundw
      case rel => exact ⟨s, _, by omega, by go_num, HR2⟩
      case measure => simp [intOf] <;> omega
   ·have HR2 := Lib.hid (hR.out.skip (by omega))
    generalize onesN s = i at *
    have hge : (n : Int) ≤ (i : Int) := by omega
    clear hR
    go_wp2_with fail
    go_roundw
    case rel => exact ⟨s, l, by omega, by go_num, HR2⟩
    case measure => simp [intOf] <;> omega
end Go.Proofs.YtggcbblikgankaaGreatDoor
end
