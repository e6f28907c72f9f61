/- The walk of the statement: part 3. -/
import Derived.Test.YtggcbblikgankaaGreatDoorYDa6p2
import Derived.Test.YtggcbblikgankaaGreatDoorZ43
import Derived.Test.YtggcbblikgankaaGreatDoorZ44
import Derived.Test.YtggcbblikgankaaGreatDoorZ48
import Derived.Test.YtggcbblikgankaaGreatDoorZ7
set_option linter.unusedVariables false
set_option linter.unusedSimpArgs false
section
set_option linter.unusedSimpArgs false
set_option linter.unusedVariables false
namespace Go.Proofs.YtggcbblikgankaaGreatDoor
open Go Go.RowKit Go.Deep
theorem cast_tail {n m : Nat} {c : Nat → Nat → Int} {t : Nat → Nat} (h : CastN n m c t) : TailS n m c 0 0 t ∧ tsum n c 0 t = sumT (fun r => c r (t r)) n := by
  refine ⟨⟨fun r _ h2 => h.lt r h2, fun r _ _ => Nat.zero_testBit _, fun r _ h2 => h.ok r h2, fun r r' _ h2 _ h4 e => h.inj r r' h2 h4 e⟩, ?_⟩
  unfold tsum
  rw [Nat.sub_zero]
  exact sumT_congr fun r _ => by rw [Nat.zero_add]
theorem tail_castN {n m : Nat} {c : Nat → Nat → Int} {t : Nat → Nat} (h : TailS n m c 0 0 t) : CastN n m c t ∧ sumT (fun r => c r (t r)) n = tsum n c 0 t := by
  have hc : CastN n m c t := ⟨fun r hr => h.lt r (Nat.zero_le _) hr, fun r hr => h.ok r (Nat.zero_le _) hr, fun r r' h2 h4 e => h.inj r r' (Nat.zero_le _) h2 (Nat.zero_le _) h4 e⟩
  exact ⟨hc, ((cast_tail hc).2).symm⟩
theorem own_low {w : World} {B C e k n : Nat} {v : Value} {xs : List Value} (hBC : B ≤ C) (h : w.ownsRow C e k v n xs) : w.ownsRow B e k v n xs := by
  obtain ⟨h1, h2⟩ := h
  refine ⟨h1, ?_⟩
  rcases h2 with h2 | ⟨g, cap, cur, e1, hb, h3⟩
  · exact Or.inl h2
  · exact Or.inr ⟨g, cap, cur, e1, Nat.le_trans hBC hb, h3⟩
def RBestP (cost : List (List Int)) (w : World) (e : Ending) (w' : World) : Prop :=
  Below w.heap.size w w' ∧
  ((castE cost ≠ 0 ∧ e = .returned (.tuple #[.slice none 0 0, .int .i64 0, .bool false, .int .i64 (castE cost)])) ∨
   (castE cost = 0 ∧ (∀ t, ¬ CastN cost.length (widN cost) (cI cost) t) ∧ e = .returned (.tuple #[.slice none 0 0, .int .i64 0, .bool false, .int .i64 0])) ∨
   (castE cost = 0 ∧ ∃ (v : Value) (t : Nat → Nat) (S : Nat) (best : Int), e = .returned (.tuple #[v, .int .i64 best, .bool true, .int .i64 0]) ∧ (∀ s, CastN cost.length (widN cost) (cI cost) s → best ≤ sumT (fun r => cI cost r (s r)) cost.length) ∧ RefAt cost.length (widN cost) (cI cost) best cost.length t S ∧ w'.ownsRow w.heap.size 3 1 v cost.length (intsL (toL t cost.length))))
set_option maxRecDepth 100000 in
set_option maxHeartbeats 16000000 in
theorem rbest_any (cost : List (List Int)) (ao : Option Addr) (n cc : Nat) (hl : cost.length = n) (w : World) (h : IsMat w (.slice ao n cc) cost) : Calls Tryz.prog 21 #[.slice ao n cc] w (RBestP cost w) := by
  have hck := check47_any ao n cc cost hl w h
  have hmx := h.len
  rw [hl] at hmx
  simp only [maxLen] at hmx
  have HCK := Lib.hid hck; have HH := Lib.hid h; have HL := Lib.hid hl
  clear hck h hl
  go_enter Tryz.func21, Tryz.ntmps21
  go_wp2_with fail
  refine HCK.out.mono ?_
  rintro e W1 ⟨rfl, k1, rfl⟩
  have HB1 := Lib.hid (bel_drewN (Below.refl w.heap.size w) k1)
  have hz1 : (w.drewN k1).heap.size = w.heap.size := rfl
  clear HCK
  by_cases hce : castE cost = 0
  case neg =>
    have hne : (castE cost != 0) = true := by simpa using hce
    have HR : Hid (RBestP cost w (.returned (.tuple #[.slice none 0 0, .int .i64 0, .bool false, .int .i64 (castE cost)])) (w.drewN k1)) := Lib.hid ⟨HB1.out, Or.inl ⟨hce, rfl⟩⟩
    clear hce HB1 hz1
    generalize castE cost = ce at *
    go_wp2_with fail
    refine bodyPost_ret (results_tmp4 rfl _ _ _) rfl ?_
    exact HR.out
  obtain ⟨r1, r2, r3, r4, r5⟩ := right_of hce
  rw [HL.out] at r1
  obtain ⟨m, hwm⟩ : ∃ m, widN cost = m := ⟨_, rfl⟩
  rw [hwm] at r2 r3
  have hv : ∀ i j, cI cost i j = -1 ∨ 0 ≤ cI cost i j := fun i j => by have := r5 i j; omega
  have hrest := rest_any cost ao n m cc HL.out r1 r2 hwm r3 hv r4 (w.drewN k1) (HH.out.below HB1.out (Nat.le_refl _))
  have HRE := Lib.hid hrest; have HW := Lib.hid r3; have HV := Lib.hid hv; have HU := Lib.hid r4; have HCE := Lib.hid hce; have HWM := Lib.hid hwm
  rw [hce]
  clear hrest r3 hv r4 r5 hce hwm
  go_wp2_with fail
  refine HRE.out.mono ?_
  rintro e W2 ⟨l, rfl, hR⟩
  have HB2 := Lib.hid (HB1.out.trans (hR.below.mono HB1.out.size))
  have HR := Lib.hid hR
  obtain ⟨M, hM⟩ : ∃ M : Nat, 2 ^ m = M := ⟨_, rfl⟩
  have hM1 : 1 ≤ M := by rw [← hM]; exact Nat.pow_pos (by decide)
  have hM2 : M ≤ 65536 := by rw [← hM]; exact Nat.le_trans (Nat.pow_le_pow_right (by decide) r2) (by decide)
  have hlM : l.length = M := by rw [hR.len, hM]
  have hc0 := hR.blk.cell (j := 0) (by omega)
  have hgl : w.heap.size < W2.heap.size := hR.blk.lt
  have hopt := hR.done 0 (Nat.zero_le _) (Nat.pow_pos (by decide))
  rw [onesN_zero] at hopt
  rw [hM]
  have HLM := Lib.hid hlM; have HM := Lib.hid hM
  rw [hz1] at hc0 ⊢
  rw [hz1] at HR
  have h0M : (0 : Int) < (M : Int) := by omega
  clear hR HRE hlM hM HB1 hz1
  obtain ⟨best, hbe⟩ : ∃ v, gi l 0 = v := ⟨_, rfl⟩
  rw [hbe] at hc0 hopt
  have HBE := Lib.hid hbe
  clear hbe
  rcases hopt with ⟨rfl, hno⟩ | ⟨hb0, ⟨t0, ht0, hs0⟩, hmin⟩
  · have HR2 : Hid (RBestP cost w (.returned (.tuple #[.slice none 0 0, .int .i64 0, .bool false, .int .i64 0])) W2) := Lib.hid ⟨HB2.out, Or.inr (Or.inl ⟨HCE.out, fun t ht => by
      rw [HL.out, HWM.out] at ht
      exact hno t (cast_tail ht).1, rfl⟩)⟩
    clear hno HR HB2
    go_wp2_with fail
    refine bodyPost_ret (results_tmp4 rfl _ _ _) rfl ?_
    exact HR2.out
  · have hbest : ∀ s, CastN n m (cI cost) s → best ≤ sumT (fun r => cI cost r (s r)) n := fun s hs => by
      obtain ⟨h1, h2⟩ := cast_tail hs
      rw [← h2]; exact hmin s h1
    have hz0 : RefAt n m (cI cost) best 0 (fun _ => 0) 0 := RefAt.zero ⟨t0, (tail_castN ht0).1, (tail_castN ht0).2.trans hs0⟩
    have hbu := (OptS.bd (Or.inr ⟨hb0, ⟨t0, ht0, hs0⟩, hmin⟩ : OptS n m (cI cost) 0 0 best) HU.out r1).2
    have HBST := Lib.hid hbest; have HZ0 := Lib.hid hz0
    have hnb : ¬ best < 0 := by omega
    have HO0 : Hid ((W2.alloc (.cells #[] 3)).ownsRow W2.heap.size 3 1 (.slice (some ⟨W2.heap.size, 0, none⟩) 0 0) 0 (intsL (toL (fun _ => 0) 0))) := Lib.hid ⟨rfl, Or.inr ⟨W2.heap.size, 0, #[], rfl, Nat.le_refl _, heap_alloc_new _ _, Nat.le_refl _, by decide, rfl, rfl⟩⟩
    have HBA : Hid (Below W2.heap.size W2 (W2.alloc (.cells #[] 3))) := Lib.hid ((Below.refl _ W2).alloc (Nat.le_refl _) _)
    clear hbest hz0 ht0 hs0 hmin
    go_wp2_with fail
    generalize W2.alloc (.cells #[] 3) = V0 at *
    clear hc0
    go_loopw [8, 9, 10] (fun ov sv iv wr => ∃ (i S : Nat) (t : Nat → Nat), i ≤ n ∧ sv = .int .i64 S ∧ iv = .int .i64 i ∧ Hid (RefAt n m (cI cost) best i t S) ∧ Hid (wr.ownsRow W2.heap.size 3 1 ov i (intsL (toL t i))) ∧ Hid (Below W2.heap.size W2 wr)) (fun _ _ iv _ => n - (intOf iv).toNat)
    case atStart => exact ⟨0, 0, _, Nat.zero_le _, rfl, rfl, HZ0, HO0, HBA⟩
    case round =>
      clear HZ0 HO0 HBA
      obtain ⟨i, S, t, hin, rfl, rfl, hF, hO, hQ⟩ := hrel
      by_cases hi : i < n
      · have hi' : (i : Int) < (n : Int) := by omega
        obtain ⟨js, hjs, hCs⟩ := hF.out.found hi
        have HCS := Lib.hid hCs
        have hSM : S < M := by rw [← HM.out]; exact hF.out.bound
        have hSv : OptS n m (cI cost) i S (gi l S) := by
          have := HR.out.done S (Nat.zero_le _) hF.out.bound
          rw [hF.out.ones] at this
          exact this
        have HSV := Lib.hid hSv
        clear hCs hSv
        go_wp2_with fail
        go_loopw [11] (fun jv wr2 => ∃ j : Nat, jv = .int .i64 j ∧ j ≤ js ∧ Hid (∀ k, k < j → ¬ CheapAt n m (cI cost) i k t best) ∧ Hid (wr2.ownsRow W2.heap.size 3 1 u8 i (intsL (toL t i))) ∧ Hid (Below W2.heap.size W2 wr2)) (fun jv _ => m - (intOf jv).toNat)
        case atStart => exact ⟨0, rfl, Nat.zero_le _, Lib.hid (fun k hk => by omega), hO, hQ⟩
        case round =>
          clear hO hQ
          obtain ⟨j, rfl, hjl, hno, hO, hQ⟩ := hrel
          have hjm : j < m := by omega
          obtain ⟨b0, o0, bi, oi, ci, e0, hmc⟩ := mat_cells HH.out HL.out HW.out (by omega) i hi
          subst e0
          obtain ⟨u1, u2⟩ := hmc _ (HB2.out.trans (hQ.out.mono HB2.out.size))
          have u3 := u2 j hjm
          have hcv := HV.out i j
          have hcu : cI cost i j ≤ 1048576 := HU.out i j
          obtain ⟨P, hP⟩ : ∃ P : Nat, 2 ^ j = P := ⟨_, rfl⟩
          have hpow : (2 : Int) ^ j = (P : Int) := by rw [← hP]; push_cast; rfl
          have hPle : P ≤ 65536 := by rw [← hP]; exact Nat.le_trans (Nat.pow_le_pow_right (by decide) (show j ≤ 16 by omega)) (by decide)
          have hbit : S.testBit j = decide (S / P % 2 = 1) := by rw [← hP]; exact Nat.testBit_eq_decide_div_mod_eq
          have hdm : Int.tmod ((S : Int) / (P : Int)) 2 = ((S / P % 2 : Nat) : Int) := rfl
          have hkk : (j : Int) ≤ 64 := by omega
          have lb := HR.out.blk.below hQ.out hgl
          have stay : ¬ CheapAt n m (cI cost) i j t best → j + 1 ≤ js ∧ ∀ k, k < j + 1 → ¬ CheapAt n m (cI cost) i k t best := fun hnc => by
            have hne : j ≠ js := fun q => by subst q; exact hnc HCS.out
            refine ⟨by omega, fun k hk => ?_⟩
            by_cases e : k = j
            · subst e; exact hnc
            · exact hno.out k (by omega)
          have HSTAY := Lib.hid stay
          clear u2 hmc stay
          by_cases hbt : S.testBit j = true
          · obtain ⟨hj2, hno2⟩ := HSTAY.out (hF.out.not hi (Or.inl hbt))
            rw [hbit, decide_eq_true_eq] at hbt
            rw [hbt] at hdm
            have HNO := Lib.hid hno2
            clear hno hno2 hbit hbt hcv hcu HSTAY HCS lb
            go_wp2_with fail
            go_quiet (fail)
            go_wp2_with fail
            go_roundw
            case rel => exact ⟨j + 1, by go_num, hj2, HNO, Lib.hid hO.out, Lib.hid (bel_drewN hQ.out _)⟩
            case measure => simp [intOf] <;> omega
          · have hbf : S.testBit j = false := by cases h : S.testBit j with
              | true => exact absurd h hbt
              | false => rfl
            have hdm0 : S / P % 2 = 0 := by
              rw [hbit, decide_eq_false_iff_not] at hbf
              omega
            rw [hdm0] at hdm
            by_cases hc1 : cI cost i j = -1
            · obtain ⟨hj2, hno2⟩ := HSTAY.out (hF.out.not hi (Or.inr (by omega)))
              rw [hc1] at u3
              have HNO := Lib.hid hno2
              clear hno hno2 hbit hbt hbf hdm0 hcv hcu hc1 HSTAY HCS lb
              go_wp2_with fail
              go_quiet (fail)
              go_wp2_with fail
              go_roundw
              case rel => exact ⟨j + 1, by go_num, hj2, HNO, Lib.hid hO.out, Lib.hid (bel_drewN hQ.out _)⟩
              case measure => simp [intOf] <;> omega
            · have hc0 : 0 ≤ cI cost i j := hcv.resolve_left hc1
              have hne1 : (cI cost i j == -1) = false := by simpa using hc1
              have hbd := add_lt hF.out.bound hjm hbf
              have hopt := HR.out.done (S + 2 ^ j) (Nat.zero_le _) hbd
              rw [onesN_add j S hbf, hF.out.ones] at hopt
              have hiff := hF.out.cheap hi HBST.out hjm hbf hc0 HSV.out hopt
              have hub := hopt.bd HU.out r1
              obtain ⟨T, hT⟩ : ∃ T : Nat, S + P = T := ⟨_, rfl⟩
              have hTI : (S : Int) + (P : Int) = (T : Int) := by rw [← hT]; push_cast; rfl
              rw [hP, hT] at hub hiff hbd
              rw [HM.out] at hbd
              have hTM : (T : Int) < (M : Int) := by omega
              have hT65 : T ≤ 65536 := by omega
              have hSM' : (S : Int) < (M : Int) := by omega
              have a1 := lb.cell (j := S) (by rw [HLM.out]; exact hSM)
              have a2 := lb.cell (j := T) (by rw [HLM.out]; exact hbd)
              have hnx := fun hj => hF.out.next (j := j) hi hj hno.out
              rw [hP, hT] at hnx
              have HNX := Lib.hid hnx
              clear hopt hnx lb
              generalize gi l T = u at *
              generalize gi l S = v at *
              generalize cI cost i j = cv at *
              have HIFF := Lib.hid hiff
              clear hiff hbit hbt hbf hdm0 hcv hc1
              have hwP : IntKind.i64.wrap (P : Int) = P := IntWalk.i64_in _ (by omega)
              have hwT : IntKind.i64.wrap (T : Int) = T := IntWalk.i64_in _ (by omega)
              have hwU : IntKind.i64.wrap (cv + u) = cv + u := IntWalk.i64_in _ (by omega)
              by_cases hu0 : u < 0
              · obtain ⟨hj2, hno2⟩ := HSTAY.out (fun q => by have := (HIFF.out.1 q).1; omega)
                have HNO := Lib.hid hno2
                clear hno hno2 HSTAY HCS HIFF HNX
                go_wp2_with fail
                go_quiet (fail)
                go_wp2_with fail
                go_roundw
                case rel => exact ⟨j + 1, by go_num, hj2, HNO, Lib.hid hO.out, Lib.hid (bel_drewN hQ.out _)⟩
                case measure => simp [intOf] <;> omega
              · by_cases hev : cv + u = v
                · have hne2 : (cv + u != v) = false := by simp [hev]
                  have hF2 := HNX.out (HIFF.out.2 ⟨by omega, hev⟩)
                  have HF2 := Lib.hid hF2
                  have HTN := Lib.hid (toL_next t i j)
                  clear hev hno HSTAY HCS HIFF HNX hF2
                  go_wp2_with fail
                  go_quiet (fail)
                  have HO2 : Hid ((wr.drewN nq).ownsRow W2.heap.size 3 1 u8 i (intsL (toL t i))) := Lib.hid hO.out
                  have HQ2 : Hid (Below W2.heap.size W2 (wr.drewN nq)) := Lib.hid (bel_drewN hQ.out _)
                  clear hO hQ u1 u3 a1 a2
                  generalize wr.drewN nq = V3 at *
                  have hsz3 := HQ2.out.size
                  obtain ⟨i3, hi3, hz3, hs3, hb3⟩ := info3
                  have HOA := Lib.hid (HO2.out.alloc (.cells #[.int .i64 (j : Int)] 3))
                  go_wp2_with (at_builtin; refine wpList_append_own _ rfl _ _ 55 rfl W2.heap.size 3 i3 (.int .i64 0) 1 8 Tryz.underlying55 hi3 hz3 hs3 hb3 rfl (by decide) u8 i (intsL (toL t i)) rfl HOA.out ⟨V3.heap.size, 0, none⟩ 1 1 [.int .i64 (j : Int)] rfl rfl (cell_one_new _ _ _) (by intro u hu; simp at hu; subst hu; rfl) (by simp only [maxLen]; omega) (by omega) (by simp; omega) ?_; intro v' w4 hown hgrow _; have hkp : Below W2.heap.size V3 w4 := ((Below.refl W2.heap.size V3).alloc hsz3 _).grown hgrow (by simp; omega) (own_ge HO2.out); have HKP := Lib.hid (HQ2.out.trans hkp); have HO4 := Lib.hid hown; clear hown hgrow hkp)
                  go_roundw
                  case rel => exact ⟨i + 1, T, updN t i j, by omega, by go_num, by go_num, HF2, Lib.hid (by rw [HTN.out]; have := HO4.out; unfold intsL at this ⊢; rw [List.map_append]; exact this), HKP⟩
                  case measure => simp [intOf] <;> omega
                · have hne2 : (cv + u != v) = true := by simpa using hev
                  obtain ⟨hj2, hno2⟩ := HSTAY.out (fun q => hev (HIFF.out.1 q).2)
                  have HNO := Lib.hid hno2
                  clear hno hno2 HSTAY HCS HIFF HNX hev
                  go_wp2_with fail
                  go_quiet (fail)
                  go_wp2_with fail
                  go_roundw
                  case rel => exact ⟨j + 1, by go_num, hj2, HNO, Lib.hid hO.out, Lib.hid (bel_drewN hQ.out _)⟩
                  case measure => simp [intOf] <;> omega
      · obtain rfl : i = n := by omega
        have hi' : ¬ (i : Int) < (i : Int) := by omega
        have lb := HR.out.blk.below hQ.out hgl
        have a0 := lb.cell (j := 0) (by rw [HLM.out]; omega)
        rw [HBE.out] at a0
        have HR2 : ∀ q, Hid (RBestP cost w (.returned (.tuple #[u8, .int .i64 best, .bool true, .int .i64 0])) (wr.drewN q)) := fun q => Lib.hid ⟨HB2.out.trans ((bel_drewN hQ.out q).mono HB2.out.size), Or.inr (Or.inr ⟨HCE.out, u8, t, S, best, rfl, by rw [HL.out, HWM.out]; exact HBST.out, by rw [HL.out, HWM.out]; exact hF.out, by rw [HL.out]; exact own_low HB2.out.size hO.out⟩)⟩
        clear hF hO hQ lb
        go_wp2_with fail
        go_quiet (fail)
        go_wp2_with fail
        refine bodyPost_ret (results_tmp4 rfl _ _ _) rfl ?_
        exact (HR2 _).out
end Go.Proofs.YtggcbblikgankaaGreatDoor
end
section
set_option linter.unusedSimpArgs false
set_option linter.unusedVariables false
namespace Go.Proofs.YtggcbblikgankaaGreatDoor
open Go Go.RowKit Go.Deep
theorem toL_long (t : Nat → Nat) (n : Nat) : (toL t n).length = n := by unfold toL; simp
theorem nil_ints (w : World) : IsRow encI 1 w (.slice none 0 0) ([] : List Int) := ⟨none, 0, rfl, Nat.zero_le _, Or.inl rfl⟩
theorem best_form {cost : List (List Int)} {w w' : World} {e : Ending} (h : BestP cost w e w') : ∃ v x ok er, e = .returned (.tuple #[v, .int .i64 x, .bool ok, .int .i64 er]) := by
 rcases h.2 with ⟨_, e⟩ | ⟨_, _, e⟩ | ⟨_, v, t, taken, best, e, _⟩
 ·exact ⟨_, _, _, _, e⟩
 ·exact ⟨_, _, _, _, e⟩
 ·exact ⟨_, _, _, _, e⟩
theorem rbest_form {cost : List (List Int)} {w w' : World} {e : Ending} (h : RBestP cost w e w') : ∃ v x ok er, e = .returned (.tuple #[v, .int .i64 x, .bool ok, .int .i64 er]) := by
 rcases h.2 with ⟨_, e⟩ | ⟨_, _, e⟩ | ⟨_, v, t, taken, best, e, _⟩
 ·exact ⟨_, _, _, _, e⟩
 ·exact ⟨_, _, _, _, e⟩
 ·exact ⟨_, _, _, _, e⟩
theorem toL_same {t t' : Nat → Nat} {n : Nat} (h : ∀ r, r < n → t r = t' r) : toL t n = toL t' n := by
 unfold toL
 exact List.map_congr_left fun r hr => by rw [h r (List.mem_range.1 hr)]
theorem both_same {cost : List (List Int)} {w W3 W4 : World} {v v' : Value} {x x' er er' : Int} {ok ok' : Bool} (h1 : BestP cost w (.returned (.tuple #[v, .int .i64 x, .bool ok, .int .i64 er])) W3)
  (h2 : RBestP cost W3 (.returned (.tuple #[v', .int .i64 x', .bool ok', .int .i64 er'])) W4) : x = x' ∧ ok = ok' ∧ er = er' ∧ ∃ xs, IsRow encI 1 W4 v xs ∧ IsRow encI 1 W4 v' xs := by
 obtain ⟨_, h1⟩ := h1
 obtain ⟨hb, h2⟩ := h2
 rcases h1 with ⟨a, e1⟩ | ⟨a, hno, e1⟩ | ⟨a, v1, t, taken, best, e1, hmin, hF, hown⟩ <;> cases e1 <;> rcases h2 with ⟨a', e2⟩ | ⟨a', hno', e2⟩ | ⟨a', v2, t', S, best', e2, hmin', hF', hown'⟩ <;> cases e2
 ·exact ⟨rfl, rfl, rfl, [], nil_ints _, nil_ints _⟩
 ·exact absurd a' a
 ·exact absurd a' a
 ·exact absurd a a'
 ·exact ⟨rfl, rfl, rfl, [], nil_ints _, nil_ints _⟩
 ·obtain ⟨s, hs, _⟩ := hF'.ex
  exact absurd hs (hno s)
 ·exact absurd a a'
 ·obtain ⟨s, hs, _⟩ := hF.ex
  exact absurd hs (hno' s)
 ·obtain ⟨s, hs, _, q1⟩ := hF.ex
  obtain ⟨s', hs', _, q2⟩ := hF'.ex
  have k1 := hmin _ hs'
  have k2 := hmin' _ hs
  obtain rfl : x = x' := by omega
  refine ⟨rfl, rfl, rfl, toL t cost.length, (own_ints hown (toL_long t _)).below hb (Nat.le_refl _), ?_⟩
  rw [toL_same (first_one hF hF')]
  exact own_ints hown' (toL_long t' _)
set_option maxRecDepth 100000 in
set_option maxHeartbeats 16000000 in
theorem spec5_any (cost : List (List Int)) (ao : Option Addr) (n cc : Nat) (hl : cost.length = n) (h1 : n ≤ cc) (h2 : cc ≤ maxLen) (w : World) (hE : Env w) (hz : 2 ≤ w.heap.size) (h : IsMat w (.slice ao n cc) cost) : Calls Tryz.prog 5 #[.slice ao n cc] w (trueP w) := by
 have hsn := sane47_any w hE hz
 have hhm := fun (W : World) (hb : Below w.heap.size w W) => h.below hb (Nat.le_refl _)
 have HS := Lib.hid hsn; have HH := Lib.hid hhm; have HL := Lib.hid hl; have HC1 := Lib.hid h1; have HC2 := Lib.hid h2
 clear hsn h hhm hl h1 h2 hE hz
 go_enter Tryz.func5, Tryz.ntmps5
 go_wp2_with fail
 refine HS.out.mono ?_
 rintro e W1 ⟨rfl, hb1⟩
 have HB1 := Lib.hid hb1
 have HF := Lib.hid (few47_any ao n cc cost HL.out W1 (HH.out W1 hb1))
 clear hb1 HS
 go_wp2_with fail
 refine HF.out.mono ?_
 rintro e W2 ⟨rfl, rfl⟩
 clear HF
 have HBE := Lib.hid (best_any cost ao n cc HL.out HC1.out HC2.out W2 (HH.out W2 HB1.out))
 cases hfw : few20 cost with
 | false =>
  clear hfw
  go_wp2_with fail
  go_ret
  exact ⟨rfl, HB1.out⟩
 | true =>
  clear hfw
  go_wp2_with fail
  refine HBE.out.mono ?_
  intro e W3 hbest
  obtain ⟨v, x, ok, er, rfl⟩ := best_form hbest
  have HB3 := Lib.hid (HB1.out.trans (hbest.1.mono HB1.out.size))
  have HP := Lib.hid hbest
  have HRB := Lib.hid (rbest_any cost ao n cc HL.out W3 (HH.out W3 HB3.out))
  clear hbest HBE
  go_wp2_with fail
  refine HRB.out.mono ?_
  intro e W4 hr
  obtain ⟨v', x', ok', er', rfl⟩ := rbest_form hr
  have HB4 := Lib.hid (HB3.out.trans (hr.1.mono HB3.out.size))
  obtain ⟨rfl, rfl, rfl, xs, hv, hv'⟩ := both_same HP.out hr
  obtain ⟨ao1, c1, e1, _⟩ := id hv
  obtain ⟨ao2, c2, e2, _⟩ := id hv'
  subst e1 e2
  obtain ⟨nx, hnx⟩ : ∃ k, xs.length = k := ⟨_, rfl⟩
  rw [hnx] at hv hv' ⊢
  have HN := Lib.hid hnx; have HV := Lib.hid hv; have HV' := Lib.hid hv'
  have HC := Lib.hid (ccheck_any W4 (HH.out W4 HB4.out))
  clear hr HP HRB hv hv' hnx
  go_wp2_with fail
  refine HC.out.mono ?_
  rintro e W5 ⟨rfl, hb5⟩
  have HB5 := Lib.hid (HB4.out.trans (hb5.mono HB4.out.size))
  have HK := Lib.hid (check47_any ao n cc cost HL.out W5 (HH.out W5 HB5.out))
  have HSM := Lib.hid (fun (q : Nat) => sameI_any ao1 ao2 nx nx c1 c2 xs xs HN.out HN.out (W5.drewN q) ((HV.out.below hb5 (Nat.le_refl _)).below (bel_drewN (Below.refl W5.heap.size W5) q) (Nat.le_refl _)) ((HV'.out.below hb5 (Nat.le_refl _)).below (bel_drewN (Below.refl W5.heap.size W5) q) (Nat.le_refl _)))
  clear hb5 HC HV HV'
  generalize castE cost = ce at *
  go_wp2_with fail
  refine HK.out.mono ?_
  rintro e W6 ⟨rfl, k2, rfl⟩
  have HS2 := Lib.hid (HSM.out k2)
  clear HK HSM
  go_wp2_with fail
  refine HS2.out.mono ?_
  rintro e W7 ⟨rfl, k3, rfl⟩
  simp only [decide_true]
  have HB7 := Lib.hid (bel_drewN HB5.out (k2 + k3))
  clear HS2
  go_wp2_with fail
  go_ret
  exact ⟨rfl, HB7.out⟩
end Go.Proofs.YtggcbblikgankaaGreatDoor
end
