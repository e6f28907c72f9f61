/- The walk of the statement: part 4. -/
import Derived.Test.YtggcbblikgankaaGreatDoorYDb6p3
import Derived.Test.YtggcbblikgankaaGreatDoorZ43
import Derived.Test.YtggcbblikgankaaGreatDoorZ44
import Derived.Test.YtggcbblikgankaaGreatDoorZ42
import Derived.Test.YtggcbblikgankaaGreatDoorZ48
import Derived.Test.YtggcbblikgankaaGreatDoorZ7
import Derived.Test.YtggcbblikgankaaGreatDoorYDb6p2
import Derived.StillTailTactics
set_option linter.unusedVariables false
set_option linter.unusedSimpArgs false
section
set_option linter.unusedSimpArgs false
set_option linter.unusedVariables false
namespace Go.Proofs.YtggcbblikgankaaGreatDoor
open Go Go.RowKit Go.Deep
theorem cast_tail {n m : Nat} {c : Nat → Nat → Int} {t : Nat → Nat} (h : CastN n m c t) : TailS n m c 0 0 t ∧ tsum n c 0 t = sumT (fun r => c r (t r)) n := by
  refine ⟨⟨fun r _ h2 => h.lt r h2, fun r _ _ => Nat.zero_testBit _, fun r _ h2 => h.ok r h2, fun r r' _ h2 _ h4 e => h.inj r r' h2 h4 e⟩, ?_⟩
  unfold tsum
  rw [Nat.sub_zero]
  exact sumT_congr fun r _ => by rw [Nat.zero_add]
theorem tail_castN {n m : Nat} {c : Nat → Nat → Int} {t : Nat → Nat} (h : TailS n m c 0 0 t) : CastN n m c t ∧ sumT (fun r => c r (t r)) n = tsum n c 0 t := by
  have hc : CastN n m c t := ⟨fun r hr => h.lt r (Nat.zero_le _) hr, fun r hr => h.ok r (Nat.zero_le _) hr, fun r r' h2 h4 e => h.inj r r' (Nat.zero_le _) h2 (Nat.zero_le _) h4 e⟩
  exact ⟨hc, ((cast_tail hc).2).symm⟩
theorem own_low {w : World} {B C e k n : Nat} {v : Value} {xs : List Value} (hBC : B ≤ C) (h : w.ownsRow C e k v n xs) : w.ownsRow B e k v n xs := by
  obtain ⟨h1, h2⟩ := h
  refine ⟨h1, ?_⟩
  rcases h2 with h2 | ⟨g, cap, cur, e1, hb, h3⟩
  · exact Or.inl h2
  · exact Or.inr ⟨g, cap, cur, e1, Nat.le_trans hBC hb, h3⟩
def RBestP (cost : List (List Int)) (w : World) (e : Ending) (w' : World) : Prop :=
  Below w.heap.size w w' ∧
  ((castE cost ≠ 0 ∧ e = .returned (.tuple #[.slice none 0 0, .int .i64 0, .bool false, .int .i64 (castE cost)])) ∨
   (castE cost = 0 ∧ (∀ t, ¬ CastN cost.length (widN cost) (cI cost) t) ∧ e = .returned (.tuple #[.slice none 0 0, .int .i64 0, .bool false, .int .i64 0])) ∨
   (castE cost = 0 ∧ ∃ (v : Value) (t : Nat → Nat) (S : Nat) (best : Int), e = .returned (.tuple #[v, .int .i64 best, .bool true, .int .i64 0]) ∧ (∀ s, CastN cost.length (widN cost) (cI cost) s → best ≤ sumT (fun r => cI cost r (s r)) cost.length) ∧ RefAt cost.length (widN cost) (cI cost) best cost.length t S ∧ w'.ownsRow w.heap.size 3 1 v cost.length (intsL (toL t cost.length))))
set_option maxRecDepth 100000 in
set_option maxHeartbeats 16000000 in
theorem rbest_any (cost : List (List Int)) (ao : Option Addr) (n cc : Nat) (hl : cost.length = n) (w : World) (h : IsMat w (.slice ao n cc) cost) : Calls Tryz.prog 21 #[.slice ao n cc] w (RBestP cost w) := by
  have hck := check47_any ao n cc cost hl w h
  have hmx := h.len
  rw [hl] at hmx
  simp only [maxLen] at hmx
  have HCK := Lib.hid hck; have HH := Lib.hid h; have HL := Lib.hid hl
  clear hck h hl
  go_enter Tryz.func21, Tryz.ntmps21
  go_wp2_with fail
  refine HCK.out.mono ?_
  rintro e W1 ⟨rfl, k1, rfl⟩
  have HB1 := Lib.hid (bel_drewN (Below.refl w.heap.size w) k1)
  have hz1 : (w.drewN k1).heap.size = w.heap.size := rfl
  clear HCK
  by_cases hce : castE cost = 0
  case neg =>
    have hne : (castE cost != 0) = true := by simpa using hce
    have HR : Hid (RBestP cost w (.returned (.tuple #[.slice none 0 0, .int .i64 0, .bool false, .int .i64 (castE cost)])) (w.drewN k1)) := Lib.hid ⟨HB1.out, Or.inl ⟨hce, rfl⟩⟩
    clear hce HB1 hz1
    generalize castE cost = ce at *
    go_wp2_with fail
    refine bodyPost_ret (results_tmp4 rfl _ _ _) rfl ?_
    exact HR.out
  obtain ⟨r1, r2, r3, r4, r5⟩ := right_of hce
  rw [HL.out] at r1
  obtain ⟨m, hwm⟩ : ∃ m, widN cost = m := ⟨_, rfl⟩
  rw [hwm] at r2 r3
  have hv : ∀ i j, cI cost i j = -1 ∨ 0 ≤ cI cost i j := fun i j => by have := r5 i j; omega
  have hrest := rest_any cost ao n m cc HL.out r1 r2 hwm r3 hv r4 (w.drewN k1) (HH.out.below HB1.out (Nat.le_refl _))
  have HRE := Lib.hid hrest; have HW := Lib.hid r3; have HV := Lib.hid hv; have HU := Lib.hid r4; have HCE := Lib.hid hce; have HWM := Lib.hid hwm
  rw [hce]
  clear hrest r3 hv r4 r5 hce hwm
  go_wp2_with fail
  refine HRE.out.mono ?_
  rintro e W2 ⟨l, rfl, hR⟩
  have HB2 := Lib.hid (HB1.out.trans (hR.below.mono HB1.out.size))
  have HR := Lib.hid hR
  obtain ⟨M, hM⟩ : ∃ M : Nat, 2 ^ m = M := ⟨_, rfl⟩
  have hM1 : 1 ≤ M := by rw [← hM]; exact Nat.pow_pos (by decide)
  have hM2 : M ≤ 65536 := by rw [← hM]; exact Nat.le_trans (Nat.pow_le_pow_right (by decide) r2) (by decide)
  have hlM : l.length = M := by rw [hR.len, hM]
  have hc0 := hR.blk.cell (j := 0) (by omega)
  have hgl : w.heap.size < W2.heap.size := hR.blk.lt
  have hopt := hR.done 0 (Nat.zero_le _) (Nat.pow_pos (by decide))
  rw [onesN_zero] at hopt
  rw [hM]
  have HLM := Lib.hid hlM; have HM := Lib.hid hM
  rw [hz1] at hc0 ⊢
  rw [hz1] at HR
  have h0M : (0 : Int) < (M : Int) := by omega
  clear hR HRE hlM hM HB1 hz1
  obtain ⟨best, hbe⟩ : ∃ v, gi l 0 = v := ⟨_, rfl⟩
  rw [hbe] at hc0 hopt
  have HBE := Lib.hid hbe
  clear hbe
  rcases hopt with ⟨rfl, hno⟩ | ⟨hb0, ⟨t0, ht0, hs0⟩, hmin⟩
  · have HR2 : Hid (RBestP cost w (.returned (.tuple #[.slice none 0 0, .int .i64 0, .bool false, .int .i64 0])) W2) := Lib.hid ⟨HB2.out, Or.inr (Or.inl ⟨HCE.out, fun t ht => by
      rw [HL.out, HWM.out] at ht
      exact hno t (cast_tail ht).1, rfl⟩)⟩
    clear hno HR HB2
    go_wp2_with fail
    refine bodyPost_ret (results_tmp4 rfl _ _ _) rfl ?_
    exact HR2.out
  · have hbest : ∀ s, CastN n m (cI cost) s → best ≤ sumT (fun r => cI cost r (s r)) n := fun s hs => by
      obtain ⟨h1, h2⟩ := cast_tail hs
      rw [← h2]; exact hmin s h1
    have hz0 : RefAt n m (cI cost) best 0 (fun _ => 0) 0 := RefAt.zero ⟨t0, (tail_castN ht0).1, (tail_castN ht0).2.trans hs0⟩
    have hbu := (OptS.bd (Or.inr ⟨hb0, ⟨t0, ht0, hs0⟩, hmin⟩ : OptS n m (cI cost) 0 0 best) HU.out r1).2
    have HBST := Lib.hid hbest; have HZ0 := Lib.hid hz0
    have hnb : ¬ best < 0 := by omega
    have HO0 : Hid ((W2.alloc (.cells #[] 3)).ownsRow W2.heap.size 3 1 (.slice (some ⟨W2.heap.size, 0, none⟩) 0 0) 0 (intsL (toL (fun _ => 0) 0))) := Lib.hid ⟨rfl, Or.inr ⟨W2.heap.size, 0, #[], rfl, Nat.le_refl _, heap_alloc_new _ _, Nat.le_refl _, by decide, rfl, rfl⟩⟩
    have HBA : Hid (Below W2.heap.size W2 (W2.alloc (.cells #[] 3))) := Lib.hid ((Below.refl _ W2).alloc (Nat.le_refl _) _)
    clear hbest hz0 ht0 hs0 hmin
    go_wp2_with fail
    generalize W2.alloc (.cells #[] 3) = V0 at *
    clear hc0
    go_loopw [8, 9, 10] (fun ov sv iv wr => ∃ (i S : Nat) (t : Nat → Nat), i ≤ n ∧ sv = .int .i64 S ∧ iv = .int .i64 i ∧ Hid (RefAt n m (cI cost) best i t S) ∧ Hid (wr.ownsRow W2.heap.size 3 1 ov i (intsL (toL t i))) ∧ Hid (Below W2.heap.size W2 wr)) (fun _ _ iv _ => n - (intOf iv).toNat)
    case atStart => exact ⟨0, 0, _, Nat.zero_le _, rfl, rfl, HZ0, HO0, HBA⟩
    case round =>
      clear HZ0 HO0 HBA
      obtain ⟨i, S, t, hin, rfl, rfl, hF, hO, hQ⟩ := hrel
      by_cases hi : i < n
      · have hi' : (i : Int) < (n : Int) := by omega
        obtain ⟨js, hjs, hCs⟩ := hF.out.found hi
        have HCS := Lib.hid hCs
        have hSM : S < M := by rw [← HM.out]; exact hF.out.bound
        have hSv : OptS n m (cI cost) i S (gi l S) := by
          have := HR.out.done S (Nat.zero_le _) hF.out.bound
          rw [hF.out.ones] at this
          exact this
        have HSV := Lib.hid hSv
        clear hCs hSv
        go_wp2_with fail
        go_loopw [11] (fun jv wr2 => ∃ j : Nat, jv = .int .i64 j ∧ j ≤ js ∧ Hid (∀ k, k < j → ¬ CheapAt n m (cI cost) i k t best) ∧ Hid (wr2.ownsRow W2.heap.size 3 1 u8 i (intsL (toL t i))) ∧ Hid (Below W2.heap.size W2 wr2)) (fun jv _ => m - (intOf jv).toNat)
        case atStart => exact ⟨0, rfl, Nat.zero_le _, Lib.hid (fun k hk => by omega), hO, hQ⟩
        case round =>
          clear hO hQ
          obtain ⟨j, rfl, hjl, hno, hO, hQ⟩ := hrel
          have hjm : j < m := by omega
          obtain ⟨b0, o0, bi, oi, ci, e0, hmc⟩ := mat_cells HH.out HL.out HW.out (by omega) i hi
          subst e0
          obtain ⟨u1, u2⟩ := hmc _ (HB2.out.trans (hQ.out.mono HB2.out.size))
          have u3 := u2 j hjm
          have hcv := HV.out i j
          have hcu : cI cost i j ≤ 1048576 := HU.out i j
          obtain ⟨P, hP⟩ : ∃ P : Nat, 2 ^ j = P := ⟨_, rfl⟩
          have hpow : (2 : Int) ^ j = (P : Int) := by rw [← hP]; push_cast; rfl
          have hPle : P ≤ 65536 := by rw [← hP]; exact Nat.le_trans (Nat.pow_le_pow_right (by decide) (show j ≤ 16 by omega)) (by decide)
          have hbit : S.testBit j = decide (S / P % 2 = 1) := by rw [← hP]; exact Nat.testBit_eq_decide_div_mod_eq
          have hdm : Int.tmod ((S : Int) / (P : Int)) 2 = ((S / P % 2 : Nat) : Int) := rfl
          have hkk : (j : Int) ≤ 64 := by omega
          have lb := HR.out.blk.below hQ.out hgl
          have stay : ¬ CheapAt n m (cI cost) i j t best → j + 1 ≤ js ∧ ∀ k, k < j + 1 → ¬ CheapAt n m (cI cost) i k t best := fun hnc => by
            have hne : j ≠ js := fun q => by subst q; exact hnc HCS.out
            refine ⟨by omega, fun k hk => ?_⟩
            by_cases e : k = j
            · subst e; exact hnc
            · exact hno.out k (by omega)
          have HSTAY := Lib.hid stay
          clear u2 hmc stay
          by_cases hbt : S.testBit j = true
          · obtain ⟨hj2, hno2⟩ := HSTAY.out (hF.out.not hi (Or.inl hbt))
            rw [hbit, decide_eq_true_eq] at hbt
            rw [hbt] at hdm
            have HNO := Lib.hid hno2
            clear hno hno2 hbit hbt hcv hcu HSTAY HCS lb
            go_wp2_with fail
            go_quiet (fail)
            go_wp2_with fail
            go_roundw
            case rel => exact ⟨j + 1, by go_num, hj2, HNO, Lib.hid hO.out, Lib.hid (bel_drewN hQ.out _)⟩
            case measure => simp [intOf] <;> omega
          · have hbf : S.testBit j = false := by cases h : S.testBit j with
              | true => exact absurd h hbt
              | false => rfl
            have hdm0 : S / P % 2 = 0 := by
              rw [hbit, decide_eq_false_iff_not] at hbf
              omega
            rw [hdm0] at hdm
            by_cases hc1 : cI cost i j = -1
            · obtain ⟨hj2, hno2⟩ := HSTAY.out (hF.out.not hi (Or.inr (by omega)))
              rw [hc1] at u3
              have HNO := Lib.hid hno2
              clear hno hno2 hbit hbt hbf hdm0 hcv hcu hc1 HSTAY HCS lb
              go_wp2_with fail
              go_quiet (fail)
              go_wp2_with fail
              go_roundw
              case rel => exact ⟨j + 1, by go_num, hj2, HNO, Lib.hid hO.out, Lib.hid (bel_drewN hQ.out _)⟩
              case measure => simp [intOf] <;> omega
            · have hc0 : 0 ≤ cI cost i j := hcv.resolve_left hc1
              have hne1 : (cI cost i j == -1) = false := by simpa using hc1
              have hbd := add_lt hF.out.bound hjm hbf
              have hopt := HR.out.done (S + 2 ^ j) (Nat.zero_le _) hbd
              rw [onesN_add j S hbf, hF.out.ones] at hopt
              have hiff := hF.out.cheap hi HBST.out hjm hbf hc0 HSV.out hopt
              have hub := hopt.bd HU.out r1
              obtain ⟨T, hT⟩ : ∃ T : Nat, S + P = T := ⟨_, rfl⟩
              have hTI : (S : Int) + (P : Int) = (T : Int) := by rw [← hT]; push_cast; rfl
              rw [hP, hT] at hub hiff hbd
              rw [HM.out] at hbd
              have hTM : (T : Int) < (M : Int) := by omega
              have hT65 : T ≤ 65536 := by omega
              have hSM' : (S : Int) < (M : Int) := by omega
              have a1 := lb.cell (j := S) (by rw [HLM.out]; exact hSM)
              have a2 := lb.cell (j := T) (by rw [HLM.out]; exact hbd)
              have hnx := fun hj => hF.out.next (j := j) hi hj hno.out
              rw [hP, hT] at hnx
              have HNX := Lib.hid hnx
              clear hopt hnx lb
              generalize gi l T = u at *
              generalize gi l S = v at *
              generalize cI cost i j = cv at *
              have HIFF := Lib.hid hiff
              clear hiff hbit hbt hbf hdm0 hcv hc1
              have hwP : IntKind.i64.wrap (P : Int) = P := IntWalk.i64_in _ (by omega)
              have hwT : IntKind.i64.wrap (T : Int) = T := IntWalk.i64_in _ (by omega)
              have hwU : IntKind.i64.wrap (cv + u) = cv + u := IntWalk.i64_in _ (by omega)
              by_cases hu0 : u < 0
              · obtain ⟨hj2, hno2⟩ := HSTAY.out (fun q => by have := (HIFF.out.1 q).1; omega)
                have HNO := Lib.hid hno2
                clear hno hno2 HSTAY HCS HIFF HNX
                go_wp2_with fail
                go_quiet (fail)
                go_wp2_with fail
                go_roundw
                case rel => exact ⟨j + 1, by go_num, hj2, HNO, Lib.hid hO.out, Lib.hid (bel_drewN hQ.out _)⟩
                case measure => simp [intOf] <;> omega
              · by_cases hev : cv + u = v
                · have hne2 : (cv + u != v) = false := by simp [hev]
                  have hF2 := HNX.out (HIFF.out.2 ⟨by omega, hev⟩)
                  have HF2 := Lib.hid hF2
                  have HTN := Lib.hid (toL_next t i j)
                  clear hev hno HSTAY HCS HIFF HNX hF2
                  go_wp2_with fail
                  go_quiet (fail)
                  have HO2 : Hid ((wr.drewN nq).ownsRow W2.heap.size 3 1 u8 i (intsL (toL t i))) := Lib.hid hO.out
                  have HQ2 : Hid (Below W2.heap.size W2 (wr.drewN nq)) := Lib.hid (bel_drewN hQ.out _)
                  clear hO hQ u1 u3 a1 a2
                  generalize wr.drewN nq = V3 at *
                  have hsz3 := HQ2.out.size
                  obtain ⟨i3, hi3, hz3, hs3, hb3⟩ := info3
                  have HOA := Lib.hid (HO2.out.alloc (.cells #[.int .i64 (j : Int)] 3))
                  go_wp2_with (at_builtin; refine wpList_append_own _ rfl _ _ 55 rfl W2.heap.size 3 i3 (.int .i64 0) 1 8 Tryz.underlying55 hi3 hz3 hs3 hb3 rfl (by decide) u8 i (intsL (toL t i)) rfl HOA.out ⟨V3.heap.size, 0, none⟩ 1 1 [.int .i64 (j : Int)] rfl rfl (cell_one_new _ _ _) (by intro u hu; simp at hu; subst hu; rfl) (by simp only [maxLen]; omega) (by omega) (by simp; omega) ?_; intro v' w4 hown hgrow _; have hkp : Below W2.heap.size V3 w4 := ((Below.refl W2.heap.size V3).alloc hsz3 _).grown hgrow (by simp; omega) (own_ge HO2.out); have HKP := Lib.hid (HQ2.out.trans hkp); have HO4 := Lib.hid hown; clear hown hgrow hkp)
                  go_roundw
                  case rel => exact ⟨i + 1, T, updN t i j, by omega, by go_num, by go_num, HF2, Lib.hid (by rw [HTN.out]; have := HO4.out; unfold intsL at this ⊢; rw [List.map_append]; exact this), HKP⟩
                  case measure => simp [intOf] <;> omega
                · have hne2 : (cv + u != v) = true := by simpa using hev
                  obtain ⟨hj2, hno2⟩ := HSTAY.out (fun q => hev (HIFF.out.1 q).2)
                  have HNO := Lib.hid hno2
                  clear hno hno2 HSTAY HCS HIFF HNX hev
                  go_wp2_with fail
                  go_quiet (fail)
                  go_wp2_with fail
                  go_roundw
                  case rel => exact ⟨j + 1, by go_num, hj2, HNO, Lib.hid hO.out, Lib.hid (bel_drewN hQ.out _)⟩
                  case measure => simp [intOf] <;> omega
      · obtain rfl : i = n := by omega
        have hi' : ¬ (i : Int) < (i : Int) := by omega
        have lb := HR.out.blk.below hQ.out hgl
        have a0 := lb.cell (j := 0) (by rw [HLM.out]; omega)
        rw [HBE.out] at a0
        have HR2 : ∀ q, Hid (RBestP cost w (.returned (.tuple #[u8, .int .i64 best, .bool true, .int .i64 0])) (wr.drewN q)) := fun q => Lib.hid ⟨HB2.out.trans ((bel_drewN hQ.out q).mono HB2.out.size), Or.inr (Or.inr ⟨HCE.out, u8, t, S, best, rfl, by rw [HL.out, HWM.out]; exact HBST.out, by rw [HL.out, HWM.out]; exact hF.out, by rw [HL.out]; exact own_low HB2.out.size hO.out⟩)⟩
        clear hF hO hQ lb
        go_wp2_with fail
        go_quiet (fail)
        go_wp2_with fail
        refine bodyPost_ret (results_tmp4 rfl _ _ _) rfl ?_
        exact (HR2 _).out
end Go.Proofs.YtggcbblikgankaaGreatDoor
end
section
set_option linter.unusedSimpArgs false
set_option linter.unusedVariables false
namespace Go.Proofs.YtggcbblikgankaaGreatDoor
open Go Go.RowKit Go.Deep
set_option maxRecDepth 100000 in
set_option maxHeartbeats 4000000 in
theorem before_any (A B p : Nat) (hA : A ≤ 65536) (hB : B ≤ 65536) (hp : A.testBit p ≠ B.testBit p) (hq : ∀ q, q < p → A.testBit q = B.testBit q) (w : World) :
  Calls Tryz.prog 59 #[.int .i64 A, .int .i64 B] w fun e w' => e = .returned (.bool (A.testBit p)) ∧ w' = w := by
 have HP := Lib.hid hp; have HQ := Lib.hid hq
 clear hp hq
 have H0 : Hid (∀ r, A.testBit r = A.testBit (0 + r)) := Lib.hid fun r => by rw [Nat.zero_add]
 have H1 : Hid (∀ r, B.testBit r = B.testBit (0 + r)) := Lib.hid fun r => by rw [Nat.zero_add]
 go_enter Tryz.func59, Tryz.ntmps59
 go_wp2_with fail
 go_loopw [0, 1] (fun av bv wr => ∃ q a b : Nat, q ≤ p ∧ av = .int .i64 a ∧ bv = .int .i64 b ∧ a ≤ 65536 ∧ b ≤ 65536 ∧ Hid (∀ r, a.testBit r = A.testBit (q + r)) ∧ Hid (∀ r, b.testBit r = B.testBit (q + r)) ∧ wr = w) (fun av bv _ => (intOf av + intOf bv).toNat)
 case atStart => exact ⟨0, A, B, Nat.zero_le _, rfl, rfl, hA, hB, H0, H1, rfl⟩
 case round =>
  clear H0 H1
  obtain ⟨q, a, b, hqp, rfl, rfl, ha, hb, hTa, hTb, rfl⟩ := hrel
  have ta : a.testBit 0 = decide (a % 2 = 1) := Nat.testBit_zero a
  have tb : b.testBit 0 = decide (b % 2 = 1) := Nat.testBit_zero b
  have e1 := hTa.out 0
  have e2 := hTb.out 0
  rw [Nat.add_zero] at e1 e2
  have hm1 : Int.tmod (a : Int) 2 = ((a % 2 : Nat) : Int) := rfl
  have hm2 : Int.tmod (b : Int) 2 = ((b % 2 : Nat) : Int) := rfl
  by_cases he : a % 2 = b % 2
  ·have hlt : q < p := by
    rcases Nat.lt_or_eq_of_le hqp with h | h
    ·exact h
    ·exfalso; subst h
     refine HP.out ?_
     rw [← e1, ← e2, ta, tb, he]
   have hne : a ≠ b := fun h => by
    have h1 := hTa.out (p - q)
    have h2 := hTb.out (p - q)
    rw [show q + (p - q) = p by omega] at h1 h2
    exact HP.out (by rw [← h1, ← h2, h])
   have hda : Int.tdiv (a : Int) 2 = ((a / 2 : Nat) : Int) := rfl
   have hdb : Int.tdiv (b : Int) 2 = ((b / 2 : Nat) : Int) := rfl
   have n1 : Hid (∀ r, (a / 2).testBit r = A.testBit (q + 1 + r)) := Lib.hid fun r => by
    rw [← Nat.testBit_succ, hTa.out (r + 1)]; congr 1; omega
   have n2 : Hid (∀ r, (b / 2).testBit r = B.testBit (q + 1 + r)) := Lib.hid fun r => by
    rw [← Nat.testBit_succ, hTb.out (r + 1)]; congr 1; omega
   have hms : a / 2 + b / 2 < a + b := by omega
   have hx1 : a / 2 ≤ 65536 := by omega
   have hx2 : b / 2 ≤ 65536 := by omega
   rw [he] at hm1
   have HM := Lib.hid hms
   clear hTa hTb ta tb e1 e2 he hne hms
   have hbl : b % 2 ≤ 1 := by omega
   generalize b % 2 = c at *
   generalize a / 2 = a2 at *
   generalize b / 2 = b2 at *
   go_wp2_with fail
   go_roundw
   case rel => exact ⟨q + 1, a2, b2, by omega, by go_num, by go_num, hx1, hx2, n1, n2, trivial⟩
   case measure =>
    have := HM.out
    simp [intOf]; omega
  ·have hpq : q = p := by
    rcases Nat.lt_or_eq_of_le hqp with h | h
    ·exfalso
     have := HQ.out q h
     rw [← e1, ← e2, ta, tb, decide_eq_decide] at this
     omega
    ·exact h
   subst hpq
   have hres : decide (a % 2 = 1) = A.testBit q := by rw [← ta, e1]
   have hne : (((a % 2 : Nat) : Int) == ((b % 2 : Nat) : Int)) = false := by simp; omega
   have HR : Hid ((((a % 2 : Nat) : Int) == 1) = A.testBit q) := Lib.hid (by
    rw [← hres]
    rcases (show a % 2 = 0 ∨ a % 2 = 1 by omega) with h | h <;> rw [h] <;> rfl)
   clear hTa hTb ta tb e1 e2 he hres
   generalize a % 2 = a1 at *
   generalize b % 2 = b1 at *
   go_wp2_with fail
   go_ret
   exact ⟨by first | rfl | (rw [HR.out]; rfl), rfl⟩
set_option maxRecDepth 100000 in
set_option maxHeartbeats 16000000 in
theorem rproves_any {cost : List (List Int)} (u v : List Int) (nu nv : Nat) (hnu : u.length = nu) (hnv : v.length = nv) (au av ao : Option Addr) (cu cw n cc : Nat) (hl : cost.length = n) (w : World) (h : IsMat w (.slice ao n cc) cost) (hu : IsRow encI 1 w (.slice au nu cu) u) (hv : IsRow encI 1 w (.slice av nv cw) v) :
  Calls Tryz.prog 26 #[.slice ao n cc, .slice au nu cu, .slice av nv cw] w (ProvesP cost u v w) := by
 have HCK := Lib.hid (check47_any ao n cc cost hl w h); have HH := Lib.hid h; have HU := Lib.hid hu; have HV := Lib.hid hv; have HNU := Lib.hid hnu; have HNV := Lib.hid hnv; have HL := Lib.hid hl
 have hPN := Lib.hid (show provN cost u v = if castE cost = 0 ∧ provB cost u v = true then sumT (gi v) (widN cost) + sumT (gi u) cost.length else 0 from rfl)
 have hPB := Lib.hid (show provB cost u v = (decide (u.length = cost.length) && decide (v.length = widN cost) && !(v.any oddV) && fitU cost u v (widN cost) cost.length) from rfl)
 have hmxu : u.length ≤ maxLen := by obtain ⟨_, _, _, h, _⟩ := hu; exact h
 have hmxv : v.length ≤ maxLen := by obtain ⟨_, _, _, h, _⟩ := hv; exact h
 have hmxn := h.len
 rw [hnu] at hmxu; rw [hnv] at hmxv; rw [hl] at hmxn
 simp only [maxLen] at hmxu hmxv hmxn
 clear h hu hv hnu hnv hl
 unfold ProvesP
 obtain ⟨N, hN⟩ : ∃ x, provN cost u v = x := ⟨_, rfl⟩
 obtain ⟨B, hB⟩ : ∃ x, (decide (castE cost = 0) && provB cost u v) = x := ⟨_, rfl⟩
 rw [hN, hB]
 obtain ⟨C, hC⟩ : ∃ x, castE cost = x := ⟨_, rfl⟩
 rw [hC] at HCK ⊢
 have HN := Lib.hid hN; have HBB := Lib.hid hB; have HC := Lib.hid hC
 clear hN hB hC
 go_enter Tryz.func26, Tryz.ntmps26
 go_wp2_with fail
 refine HCK.out.mono ?_
 rintro e w1 ⟨rfl, k1, rfl⟩
 have HB1 := Lib.hid (bel_drewN (Below.refl w.heap.size w) k1)
 clear HCK
 by_cases hc0 : C = 0
 case neg =>
  have hne : (C != 0) = true := by simpa using hc0
  have hce : ¬ castE cost = 0 := fun h => hc0 (HC.out.symm.trans h)
  obtain rfl : N = 0 := by rw [← HN.out, hPN.out, if_neg (fun q => hce q.1)]
  obtain rfl : B = false := by rw [← HBB.out, decide_eq_false hce, Bool.false_and]
  clear hce hc0 HN HBB hPN hPB HC
  go_wp2_with fail
  go_ret3
  exact ⟨rfl, HB1.out⟩
 subst hc0
 have hce := HC.out
 obtain ⟨r1, r2, r3, r4, r5⟩ := right_of hce
 have HCE := Lib.hid hce; have HR1 := Lib.hid r1; have HR2 := Lib.hid r2; have HR3 := Lib.hid r3; have HR5 := Lib.hid r5
 have hbad : provB cost u v = false → ∀ W, Below w.heap.size w W → (.returned (.tuple #[.int .i64 0, .bool false, .int .i64 0]) : Ending) = .returned (.tuple #[.int .i64 N, .bool B, .int .i64 0]) ∧ Below w.heap.size w W := by
  intro hb W hW
  refine ⟨?_, hW⟩
  rw [← HN.out, ← HBB.out, hPN.out, hb, if_neg (fun q => by cases q.2)]; simp
 have HBAD := Lib.hid hbad
 have hgood : provB cost u v = true → ∀ W, Below w.heap.size w W → (.returned (.tuple #[.int .i64 (sumT (gi v) (widN cost) + sumT (gi u) cost.length), .bool true, .int .i64 0]) : Ending) = .returned (.tuple #[.int .i64 N, .bool B, .int .i64 0]) ∧ Below w.heap.size w W := by
  intro hb W hW
  refine ⟨?_, hW⟩
  rw [← HN.out, ← HBB.out, hPN.out, hb, if_pos ⟨HCE.out, rfl⟩, HCE.out]; simp
 have HGOOD := Lib.hid hgood
 have HCOL := Lib.hid (columns_any cost ao n cc HL.out (w.drewN k1) (HH.out.below HB1.out (Nat.le_refl _)))
 clear hbad hgood r1 r2 r3 r4 r5 hPN HN HBB
 generalize w.drewN k1 = w1 at *
 generalize hPVB : provB cost u v = pvb at *
 by_cases hun : nu = n
 case neg =>
  have hd1 : ((nu : Int) != (n : Int)) = true := by simp; omega
  have HX := Lib.hid (HBAD.out (by rw [hPB.out, show decide (u.length = cost.length) = false from decide_eq_false (by rw [HNU.out, HL.out]; exact hun)]; simp) w1 HB1.out)
  clear hce
  go_wp2_with fail
  go_ret3
  exact HX.out
 subst hun
 have hd1 : ((nu : Int) != (nu : Int)) = false := by simp
 clear hce
 go_wp2_with fail
 refine HCOL.out.mono ?_
 rintro e w2 ⟨rfl, rfl⟩
 clear HCOL
 generalize hm : widN cost = m at *
 by_cases hvm : nv = m
 case neg =>
  have hd2 : ((nv : Int) != (m : Int)) = true := by simp; omega
  have HX := Lib.hid (HBAD.out (by rw [hPB.out, show decide (v.length = m) = false from decide_eq_false (by rw [HNV.out]; exact hvm)]; simp) w2 HB1.out)
  go_wp2_with fail
  go_ret3
  exact HX.out
 subst hvm
 have hd2 : ((nv : Int) != (nv : Int)) = false := by simp
 have hn16 : nv ≤ 16 := HR2.out
 have hn17 : nu ≤ 16 := by have := HR1.out; rw [HL.out] at this; exact this
 have HVC := Lib.hid (fun (W : World) (hb : Below w.heap.size w W) (j : Nat) (hj : j < nv) => (HV.out.below hb (Nat.le_refl _)).int (j := j) (by rw [HNV.out]; exact hj))
 have HUC := Lib.hid (fun (W : World) (hb : Below w.heap.size w W) (i : Nat) (hi : i < nu) => (HU.out.below hb (Nat.le_refl _)).int (j := i) (by rw [HNU.out]; exact hi))
 go_wp2_with fail
 go_loopw [10, 11] (fun sv iv wr => ∃ j : Nat, j ≤ nv ∧ iv = .int .i64 j ∧ sv = .int .i64 (sumT (gi v) j) ∧ Hid (∀ i, i < j → oddV (gi v i) = false) ∧ Hid (Below w.heap.size w wr)) (fun _ iv _ => nv - (intOf iv).toNat)
 case atStart => exact ⟨0, Nat.zero_le _, rfl, rfl, Lib.hid (fun i hi => by omega), HB1⟩
 case round =>
  clear HB1
  obtain ⟨j, hjm, rfl, rfl, hO, hB⟩ := hrel
  have hsv : ∀ k : Nat, k ≤ j → -1099511627776 * (k : Int) ≤ sumT (gi v) k ∧ sumT (gi v) k ≤ 0 := by
   intro k
   induction k with
   | zero => intro _; exact ⟨by simp [sumT], by simp [sumT]⟩
   | succ k ih =>
    intro hk
    have := ih (by omega)
    have ho := hO.out k (by omega)
    unfold oddV at ho
    rw [decide_eq_false_iff_not] at ho
    unfold sumT; omega
  have HSV := Lib.hid (hsv j (Nat.le_refl _))
  clear hsv
  by_cases hj : j < nv
  ·have hj' : (j : Int) < (nv : Int) := by omega
   obtain ⟨bv, ov, e, hcell, _⟩ := HVC.out wr hB.out j hj
   subst e
   have hget : gi v j ∈ v := by
    unfold gi
    rw [List.getElem?_eq_getElem (by rw [HNV.out]; exact hj)]
    exact List.getElem_mem _
   have hany : oddV (gi v j) = true → pvb = false := fun hq => by
    rw [hPB.out, List.any_eq_true.2 ⟨_, hget, hq⟩]; simp
   have HANY := Lib.hid hany
   have HW : Hid (oddV (gi v j) = false → wrap64 (sumT (gi v) j + gi v j) = sumT (gi v) (j + 1)) := Lib.hid fun ho => by
    unfold oddV at ho
    rw [decide_eq_false_iff_not] at ho
    have := HSV.out
    rw [show sumT (gi v) (j + 1) = sumT (gi v) j + gi v j from rfl]
    exact nw (by omega) (by omega)
   have HO2 : Hid (oddV (gi v j) = false → ∀ i, i < j + 1 → oddV (gi v i) = false) := Lib.hid fun ho i hi => by
    by_cases e : i = j
    ·rw [e]; exact ho
    ·exact hO.out i (by omega)
   have hdef : oddV (gi v j) = decide (gi v j < -1099511627776 ∨ 0 < gi v j) := rfl
   have HDEF := Lib.hid hdef
   clear hget hany hdef HSV
   generalize hsj : sumT (gi v) j = sj at *
   generalize hvj : gi v j = vj at *
   by_cases h1 : vj < -1099511627776
   ·have HX := Lib.hid (HBAD.out (HANY.out (by rw [HDEF.out]; simp [h1])) _ hB.out)
    go_wp2_with fail
    go_ret3
    exact HX.out
   by_cases h2 : 0 < vj
   ·have HX := Lib.hid (HBAD.out (HANY.out (by rw [HDEF.out]; simp [h2])) _ hB.out)
    go_wp2_with fail
    go_ret3
    exact HX.out
   have ho : oddV vj = false := by rw [HDEF.out, decide_eq_false_iff_not]; omega
   have HWW := Lib.hid (HW.out ho)
   have HO3 := Lib.hid (HO2.out ho)
   clear HW HO2 hO ho
   go_wp2_with fail
   go_roundw
   case rel => exact ⟨j + 1, by omega, by go_num, by first | rw [HWW.out] | (rw [← HWW.out]; rfl), HO3, hB⟩
   case measure => simp [intOf] <;> omega
  ·obtain rfl : j = nv := by omega
   have hj' : ¬ (j : Int) < (j : Int) := by omega
   have hod : v.any oddV = false := by
    rw [Bool.eq_false_iff]
    intro hq
    obtain ⟨x, hx, ho⟩ := List.any_eq_true.1 hq
    obtain ⟨i, hi⟩ := List.getElem?_of_mem hx
    have hlt := (List.getElem?_eq_some_iff.1 hi).1
    have := hO.out i (by rw [← HNV.out]; exact hlt)
    unfold gi at this
    rw [hi] at this
    rw [show (some x).getD 0 = x from rfl, ho] at this
    cases this
   have HOD := Lib.hid hod
   have hgv : ∀ q, -1099511627776 ≤ gi v q ∧ gi v q ≤ 0 := fun q => by
    by_cases hq : q < j
    ·have ho := hO.out q hq
     unfold oddV at ho
     rw [decide_eq_false_iff_not] at ho
     omega
    ·unfold gi
     rw [List.getElem?_eq_none (by rw [HNV.out]; omega)]
     decide
   have HGV := Lib.hid hgv
   clear hod hgv hO
   go_wp2_with fail
   go_loopw [10, 12] (fun sv iv wr => ∃ i : Nat, i ≤ nu ∧ iv = .int .i64 i ∧ sv = .int .i64 (sumT (gi v) j + sumT (gi u) i) ∧ Hid (Below w.heap.size w wr) ∧ Hid (fitU cost u v j i = true)) (fun _ iv _ => nu - (intOf iv).toNat)
   case atStart => exact ⟨0, Nat.zero_le _, rfl, by simp [sumT], hB, Lib.hid rfl⟩
   case round =>
    clear hB
    obtain ⟨i, him, rfl, rfl, hB, hFU⟩ := hrel
    by_cases hi : i < nu
    ·have hi' : (i : Int) < (nu : Int) := by omega
     obtain ⟨bu, ou, e, hcell, _⟩ := HUC.out _ hB.out i hi
     subst e
     have hrl : (cost[i]?.getD []).length = j := by
      rw [List.getElem?_eq_getElem (by rw [HL.out]; exact hi)]
      exact HR3.out _ (List.getElem_mem _)
     have hsu := fitU_sum hFU.out
     have hfs := all_range_succ (fun i => numB (gi u i) && fitR (cost[i]?.getD []) v (gi u i) j) i
     have HSU := Lib.hid hsu; have HFS := Lib.hid hfs
     have hfalse : (numB (gi u i) && fitR (cost[i]?.getD []) v (gi u i) j) = false → pvb = false := by
      intro hq
      rw [hPB.out]
      unfold fitU
      rw [all_range_false (f := fun i => numB (gi u i) && fitR (cost[i]?.getD []) v (gi u i) j) (by rw [HL.out]; exact hi) hq]; simp
     have HFALSE := Lib.hid hfalse
     have hsucc : sumT (gi v) j + sumT (gi u) (i + 1) = (sumT (gi v) j + sumT (gi u) i) + gi u i := by
      rw [show sumT (gi u) (i + 1) = sumT (gi u) i + gi u i from rfl]; omega
     have HSUCC := Lib.hid hsucc
     have hrow5 : ∀ q, cI cost i q = -1 ∨ 0 ≤ cI cost i q := fun q => by have := HR5.out i q; omega
     have hcI : ∀ q, cI cost i q = gi (cost[i]?.getD []) q := fun q => rfl
     have HRW := Lib.hid (fun q => (hcI q) ▸ hrow5 q)
     have HCI := Lib.hid hcI
     clear hrl hsu hfs hfalse hsucc hrow5 hcI
     generalize hrow : cost[i]?.getD [] = row at *
     have hbig : -1099511627776 * ((j : Int) + (i : Int)) ≤ sumT (gi v) j + sumT (gi u) i ∧ sumT (gi v) j + sumT (gi u) i ≤ 1099511627776 * (i : Int) := by
      have := HSU.out; have := HSV.out; omega
     have HBIG := Lib.hid hbig
     clear hbig
     generalize hx : gi u i = x at *
     generalize htot : sumT (gi v) j + sumT (gi u) i = tot at *
     by_cases h1 : x < -1099511627776
     ·have HBB := Lib.hid (HBAD.out (HFALSE.out (by unfold numB; rw [decide_eq_false (by omega : ¬ -1099511627776 ≤ x)]; rfl)) _ hB.out)
      go_wp2_with fail
      go_ret3
      exact HBB.out
     by_cases h2 : 1099511627776 < x
     ·have HBB := Lib.hid (HBAD.out (HFALSE.out (by unfold numB; rw [decide_eq_false (by omega : ¬ x ≤ 1099511627776)]; simp)) _ hB.out)
      go_wp2_with fail
      go_ret3
      exact HBB.out
     have hnum : numB x = true := by unfold numB; rw [decide_eq_true (by omega : -1099511627776 ≤ x), decide_eq_true (by omega : x ≤ 1099511627776)]; rfl
     have hW : wrap64 (tot + x) = tot + x := by have := HBIG.out; exact nw (by omega) (by omega)
     have HNUM := Lib.hid hnum; have HXB := Lib.hid (show -1099511627776 ≤ x ∧ x ≤ 1099511627776 by omega)
     clear hnum
     go_wp2_with fail
     go_loopw [13] (fun iv wr => ∃ q : Nat, q ≤ j ∧ iv = .int .i64 q ∧ Hid (Below w.heap.size w wr) ∧ Hid (fitR row v x q = true)) (fun iv _ => j - (intOf iv).toNat)
     case atStart => exact ⟨0, Nat.zero_le _, rfl, hB, Lib.hid rfl⟩
     case round =>
      clear hW
      obtain ⟨q, hqj, rfl, hB2, hFR⟩ := hrel
      by_cases hq : q < j
      ·have hq' : (q : Int) < (j : Int) := by omega
       obtain ⟨bv, ov, e, hcv, _⟩ := HVC.out _ hB2.out q hq
       subst e
       obtain ⟨bu2, ou2, e, hcu2, _⟩ := HUC.out _ hB2.out i hi
       obtain ⟨rfl, rfl⟩ : bu = bu2 ∧ ou = ou2 := by
        injection e with e
        injection e with e1 e2
        exact ⟨e1, e2⟩
       clear e
       obtain ⟨b0, o0, bi, oi, ci, e0, hmc⟩ := mat_cells HH.out HL.out (fun r hr => HR3.out r hr) (by omega) i hi
       subst e0
       obtain ⟨u1, u2⟩ := hmc _ hB2.out
       have u3 := u2 q hq
       rw [HCI.out] at u3
       clear u2 hmc
       rw [hx] at hcu2
       have hfs2 := all_range_succ (fun j => !(decide (0 ≤ gi row j) && decide (gi row j < x + gi v j))) q
       have hgv := HGV.out q
       have hWx : IntKind.i64.wrap (x + gi v q) = x + gi v q := by have := HXB.out; exact IntWalk.i64_in _ (by omega)
       have hbadq : (!(decide (0 ≤ gi row q) && decide (gi row q < x + gi v q))) = false → pvb = false := by
        intro hq2
        refine HFALSE.out ?_
        unfold fitR
        rw [all_range_false (f := fun j => !(decide (0 ≤ gi row j) && decide (gi row j < x + gi v j))) hq hq2]; simp
       have HFS2 := Lib.hid hfs2; have HBQ := Lib.hid hbadq
       have hcr := HRW.out q
       clear hfs2 hgv hbadq
       generalize hcj : gi row q = cj at *
       generalize hvj : gi v q = vj at *
       by_cases hc1 : cj = -1
       ·have hd0 : decide (0 ≤ cj) = false := decide_eq_false (by omega)
        have HF2 := Lib.hid (show fitR row v x (q + 1) = true by
         unfold fitR
         rw [HFS2.out, hd0]
         have := hFR.out
         unfold fitR at this
         rw [this]; rfl)
        subst hc1
        clear hcr hd0 hWx
        go_wp2_with fail
        go_quiet (fail)
        go_wp2_with fail
        go_roundw
        case rel => exact ⟨q + 1, by omega, by go_num, Lib.hid (bel_drewN hB2.out _), HF2⟩
        case measure => simp [intOf] <;> omega
       ·have hc0 : 0 ≤ cj := hcr.resolve_left hc1
        have hne1 : (cj != -1) = true := by simpa using hc1
        have hd0 : decide (0 ≤ cj) = true := decide_eq_true hc0
        by_cases hlt : cj < x + vj
        ·have hd1 : decide (cj < x + vj) = true := decide_eq_true hlt
         have HBB := Lib.hid (fun k => HBAD.out (HBQ.out (by rw [hd0, hd1]; rfl)) _ (bel_drewN hB2.out k))
         clear hcr hd0 hd1 hc1
         go_wp2_with fail
         go_quiet (fail)
         go_wp2_with fail
         go_ret3
         exact HBB.out _
        ·have hd1 : decide (cj < x + vj) = false := decide_eq_false hlt
         have HF2 := Lib.hid (show fitR row v x (q + 1) = true by
          unfold fitR
          rw [HFS2.out, hd0, hd1]
          have := hFR.out
          unfold fitR at this
          rw [this]; rfl)
         clear hcr hd0 hd1 hc1
         go_wp2_with fail
         go_quiet (fail)
         go_wp2_with fail
         go_roundw
         case rel => exact ⟨q + 1, by omega, by go_num, Lib.hid (bel_drewN hB2.out _), HF2⟩
         case measure => simp [intOf] <;> omega
      ·obtain rfl : q = j := by omega
       have hq' : ¬ (q : Int) < (q : Int) := by omega
       have hfu : fitU cost u v q (i + 1) = true := by
        unfold fitU
        rw [HFS.out, HNUM.out, hFR.out]
        have := hFU.out
        unfold fitU at this
        rw [this]; rfl
       have HFU := Lib.hid hfu; have HS2 := Lib.hid (show tot + x = sumT (gi v) q + sumT (gi u) (i + 1) by rw [HSUCC.out])
       clear hfu
       go_wp2_with fail
       go_roundw
       case rel => exact ⟨i + 1, by omega, by go_num, by rw [HS2.out], hB2, HFU⟩
       case measure => simp [intOf] <;> omega
    ·obtain rfl : i = nu := by omega
     have hi' : ¬ (i : Int) < (i : Int) := by omega
     have hpb : pvb = true := by
      rw [hPB.out, HL.out, hFU.out, HOD.out, decide_eq_true HNU.out, decide_eq_true HNV.out]; rfl
     have HG := Lib.hid (HGOOD.out hpb _ hB.out)
     rw [HL.out] at HG
     clear hpb
     generalize sumT (gi v) j + sumT (gi u) i = tot at *
     go_wp2_with fail
     go_ret3
     exact HG.out
end Go.Proofs.YtggcbblikgankaaGreatDoor
end
section
set_option linter.unusedSimpArgs false
set_option linter.unusedVariables false
namespace Go.Proofs.YtggcbblikgankaaGreatDoor
open Go Go.RowKit Go.Deep
theorem toL_long (t : Nat → Nat) (n : Nat) : (toL t n).length = n := by unfold toL; simp
theorem nil_ints (w : World) : IsRow encI 1 w (.slice none 0 0) ([] : List Int) := ⟨none, 0, rfl, Nat.zero_le _, Or.inl rfl⟩
end Go.Proofs.YtggcbblikgankaaGreatDoor
end
section
set_option linter.unusedSimpArgs false
set_option linter.unusedVariables false
namespace Go.Proofs.YtggcbblikgankaaGreatDoor
open Go Go.RowKit Go.Deep
theorem own_snoc {w : World} {Z i : Nat} {v : Value} {xs : List Int} {x : Int} (h : w.ownsRow Z 3 1 v (i + 1) (intsL xs ++ [.int .i64 x])) (hl : xs.length = i) : ∃ ys : List Int, ys.length = i + 1 ∧ w.ownsRow Z 3 1 v (i + 1) (intsL ys) :=
  ⟨xs ++ [x], by rw [List.length_append, hl]; rfl, by unfold intsL at h ⊢; rw [List.map_append]; exact h⟩
def RPricesP (cost : List (List Int)) (w : World) (e : Ending) (w' : World) : Prop :=
  Below w.heap.size w w' ∧ ∃ x y ok, e = .returned (.tuple #[x, y, .bool ok, .int .i64 (castE cost)]) ∧ (ok = true ↔ castE cost = 0 ∧ ∃ t, CastN cost.length (widN cost) (cI cost) t)
set_option maxRecDepth 100000 in
set_option maxHeartbeats 16000000 in
theorem rprices_any (cost : List (List Int)) (ao : Option Addr) (n cc : Nat) (hl : cost.length = n) (w : World) (h : IsMat w (.slice ao n cc) cost) : Calls Tryz.prog 30 #[.slice ao n cc] w (RPricesP cost w) := by
  have HBE := Lib.hid (rbest_any cost ao n cc hl w h)
  have hmx := h.len
  rw [hl] at hmx
  simp only [maxLen] at hmx
  have HH := Lib.hid h; have HL := Lib.hid hl
  clear h hl
  go_enter Tryz.func30, Tryz.ntmps30
  go_wp2_with fail
  refine HBE.out.mono ?_
  intro e W1 hr
  have HB1 := Lib.hid hr.1
  clear HBE
  rcases hr.2 with ⟨hce, rfl⟩ | ⟨hce, hno, rfl⟩ | ⟨hce, v, t, S, best, rfl, hmin, hF, hown⟩
  · have HR : Hid (RPricesP cost w (.returned (.tuple #[.slice none 0 0, .slice none 0 0, .bool false, .int .i64 (castE cost)])) W1) := Lib.hid ⟨HB1.out, _, _, _, rfl, by simp [hce]⟩
    clear hr hce
    generalize castE cost = ce at *
    go_wp2_with fail
    refine bodyPost_ret (results_tmp4 rfl _ _ _) rfl ?_
    exact HR.out
  · have HR : Hid (RPricesP cost w (.returned (.tuple #[.slice none 0 0, .slice none 0 0, .bool false, .int .i64 0])) W1) := Lib.hid ⟨HB1.out, _, _, _, by rw [hce], ⟨fun h => (by cases h), fun ⟨_, t, ht⟩ => absurd ht (hno t)⟩⟩
    clear hr hce hno
    go_wp2_with fail
    refine bodyPost_ret (results_tmp4 rfl _ _ _) rfl ?_
    exact HR.out
  obtain ⟨sN, hsc, hst, _⟩ := hF.ex
  have hcast : CastN cost.length (widN cost) (cI cost) sN := hsc
  have hlt : ∀ r, r < cost.length → t r < widN cost := fun r hr => by rw [← hst r hr]; exact hsc.lt r hr
  obtain ⟨r1, r2, r3, r4, r5⟩ := right_of hce
  rw [HL.out] at r1 hlt hown
  obtain ⟨m, hwm⟩ : ∃ m, widN cost = m := ⟨_, rfl⟩
  rw [hwm] at r2 r3 hlt
  have hrow : IsRow encI 1 W1 v (toL t n) := own_ints hown (toL_long _ _)
  obtain ⟨at_, ct, rfl, hfm, _⟩ := id hrow
  rw [toL_long] at hrow ⊢
  have HR : Hid (∀ W x y, Below w.heap.size w W → RPricesP cost w (.returned (.tuple #[x, y, .bool true, .int .i64 0])) W) := Lib.hid fun W x y hb => ⟨hb, x, y, true, by rw [hce], ⟨fun _ => ⟨hce, _, hcast⟩, fun _ => rfl⟩⟩
  have HT := Lib.hid (fun (W : World) (hb : Below W1.heap.size W1 W) (i : Nat) (hi : i < n) => (show ∃ b o, at_ = some ⟨b, o, none⟩ ∧ W.cell? ⟨b, o + i, none⟩ = some (.int .i64 (t i)) from by
    obtain ⟨b, o, e1, e2, _⟩ := (hrow.below hb (Nat.le_refl _)).int (j := i) (by rw [toL_long]; exact hi)
    refine ⟨b, o, e1, e2.trans ?_⟩
    unfold gi toL
    simp [List.getElem?_map, List.getElem?_range hi]))
  have HCOL := Lib.hid (columns_any cost ao n cc HL.out W1 (HH.out.below HB1.out (Nat.le_refl _)))
  rw [hwm] at HCOL
  have HLT := Lib.hid hlt; have HW := Lib.hid r3
  have hmk := fun (W : World) => make_big m (by omega) W
  have hB0 : Below W1.heap.size W1 (W1.alloc (.cells (Array.replicate m (.int .i64 0)) 3)) := (Below.refl _ W1).alloc (Nat.le_refl _) _
  have hBI : BI (W1.alloc (.cells (Array.replicate m (.int .i64 0)) 3)) W1.heap.size (List.replicate m 0) := by
    unfold BI
    rw [show (intsL (List.replicate m 0)).toArray = Array.replicate m (.int .i64 0) by simp [intsL]]
    exact heap_alloc_new W1 _
  have H0 : Hid (∃ l : List Int, l.length = m ∧ BI (W1.alloc (.cells (Array.replicate m (.int .i64 0)) 3)) W1.heap.size l) := Lib.hid ⟨_, by rw [List.length_replicate], hBI⟩
  have HB0 := Lib.hid hB0
  clear hr hce hst hsc hcast hlt r3 r4 r5 hrow hfm hown hF hmin hB0 hBI hwm
  go_wp2_with fail
  refine HCOL.out.mono ?_
  rintro e W2 ⟨rfl, rfl⟩
  clear HCOL
  go_wp2_with fail
  generalize W2.alloc (.cells (Array.replicate m (.int .i64 0)) 3) = V at *
  clear hmk
  go_loopw [11] (fun rv wr => ∃ r : Nat, r ≤ m + 1 ∧ rv = .int .i64 r ∧ Hid (∃ l : List Int, l.length = m ∧ BI wr W2.heap.size l) ∧ Hid (Below W2.heap.size W2 wr)) (fun rv _ => m + 1 - (intOf rv).toNat)
  case atStart => exact ⟨0, Nat.zero_le _, rfl, H0, HB0⟩
  case round =>
    clear H0 HB0
    obtain ⟨r, hrm, rfl, hL, hB⟩ := hrel
    by_cases hr : r ≤ m
    · have hr' : (r : Int) ≤ (m : Int) := by omega
      go_wp2_with fail
      go_loopw [12] (fun iv wr => ∃ i : Nat, i ≤ n ∧ iv = .int .i64 i ∧ Hid (∃ l : List Int, l.length = m ∧ BI wr W2.heap.size l) ∧ Hid (Below W2.heap.size W2 wr)) (fun iv _ => n - (intOf iv).toNat)
      case atStart => exact ⟨0, Nat.zero_le _, rfl, hL, hB⟩
      case round =>
        clear hL hB
        obtain ⟨i, hin, rfl, hL, hB⟩ := hrel
        by_cases hi : i < n
        · have hi' : (i : Int) < (n : Int) := by omega
          go_wp2_with fail
          go_loopw [13] (fun jv wr => ∃ j : Nat, j ≤ m ∧ jv = .int .i64 j ∧ Hid (∃ l : List Int, l.length = m ∧ BI wr W2.heap.size l) ∧ Hid (Below W2.heap.size W2 wr)) (fun jv _ => m - (intOf jv).toNat)
          case atStart => exact ⟨0, Nat.zero_le _, rfl, hL, hB⟩
          case round =>
            clear hL hB
            obtain ⟨j, hjm, rfl, hL, hB⟩ := hrel
            by_cases hj : j < m
            · have hj' : (j : Int) < (m : Int) := by omega
              have hti : t i < m := HLT.out i hi
              have hti' : ((t i : Nat) : Int) < (m : Int) := by omega
              obtain ⟨b0, o0, bi, oi, ci, e0, hmc⟩ := mat_cells HH.out HL.out HW.out (by omega) i hi
              subst e0
              obtain ⟨u1, u2⟩ := hmc _ (HB1.out.trans (hB.out.mono HB1.out.size))
              have u3 := u2 j hj
              have u4 := u2 (t i) hti
              obtain ⟨bt, ot, e0, u5⟩ := HT.out _ hB.out i hi
              subst e0
              obtain ⟨l, hll, hl⟩ := hL.out
              have a1 := hl.cell (j := j) (by omega)
              have a2 := hl.cell (j := t i) (by omega)
              have af := hl.free j
              have HL2 : Hid (∀ x : Int, ∃ l2 : List Int, l2.length = m ∧ BI (wr.setCell ⟨W2.heap.size, j, none⟩ (.int .i64 x)) W2.heap.size l2) := Lib.hid fun x => ⟨l.set j x, by rw [List.length_set]; exact hll, hl.set j x⟩
              have HB2 : Hid (∀ x : Int, Below W2.heap.size W2 (wr.setCell ⟨W2.heap.size, j, none⟩ (.int .i64 x))) := Lib.hid fun x => hB.out.setCell (p := ⟨W2.heap.size, j, none⟩) (Nat.le_refl _) _
              clear u2 hmc hl hll
              generalize gi l j = lj at *
              generalize gi l (t i) = lt_ at *
              generalize cI cost i j = c1 at *
              generalize cI cost i (t i) = c2 at *
              generalize t i = ti at *
              by_cases hc : c1 = -1
              · subst hc
                go_wp2_with fail
                go_roundw
                case rel => exact ⟨j + 1, by omega, by go_num, hL, hB⟩
                case measure => simp [intOf] <;> omega
              · have hne : (c1 != -1) = true := by simpa using hc
                clear hL hc
                go_wp2_with fail
                refine region_tail (fun w2 => w2 = wr.drew) 34 (by kernel_rfl) (by kernel_rfl) rfl ?_
                intro w2 hS
                subst hS
                simp only [List.take_succ_cons, List.take_zero, List.drop_succ_cons, List.drop_zero]
                repeat still_step
                refine wpStill_nil ?_
                go_wp2_with fail
                go_roundw
                case rel => exact ⟨j + 1, by omega, by go_num, Lib.hid (by obtain ⟨l2, q1, q2⟩ := HL2.out _; exact ⟨l2, q1, q2⟩), Lib.hid (HB2.out _).drew⟩
                case measure => simp [intOf] <;> omega
            · obtain rfl : j = m := by omega
              have hj' : ¬ (j : Int) < (j : Int) := by omega
              go_wp2_with fail
              go_roundw
              case rel => exact ⟨i + 1, by omega, by go_num, hL, hB⟩
              case measure => simp [intOf] <;> omega
        · obtain rfl : i = n := by omega
          have hi' : ¬ (i : Int) < (i : Int) := by omega
          go_wp2_with fail
          go_roundw
          case rel => exact ⟨r + 1, by omega, by go_num, hL, hB⟩
          case measure => simp [intOf] <;> omega
    · have hr' : ¬ (r : Int) ≤ (m : Int) := by omega
      clear hr'
      go_wp2_with fail
      obtain ⟨WR, hWR⟩ : ∃ W : World, W = wr := ⟨_, rfl⟩
      subst hWR
      obtain ⟨l, hll, hl⟩ := hL.out
      have HBI := Lib.hid hl
      have hgl := hl.lt
      have HO0 : Hid (∃ xs : List Int, xs.length = 0 ∧ (WR.alloc (.cells #[] 3)).ownsRow WR.heap.size 3 1 (.slice (some ⟨WR.heap.size, 0, none⟩) 0 0) 0 (intsL xs)) := Lib.hid ⟨[], rfl, ⟨rfl, Or.inr ⟨WR.heap.size, 0, #[], rfl, Nat.le_refl _, heap_alloc_new _ _, Nat.le_refl _, by decide, rfl, rfl⟩⟩⟩
      have HBA : Hid (Below WR.heap.size WR (WR.alloc (.cells #[] 3))) := Lib.hid ((Below.refl _ WR).alloc (Nat.le_refl _) _)
      clear hL hl
      generalize WR.alloc (.cells #[] 3) = V0 at *
      go_loopw [14, 15] (fun uv iv w3 => ∃ i : Nat, i ≤ n ∧ iv = .int .i64 i ∧ Hid (∃ xs : List Int, xs.length = i ∧ w3.ownsRow WR.heap.size 3 1 uv i (intsL xs)) ∧ Hid (Below WR.heap.size WR w3)) (fun _ iv _ => n - (intOf iv).toNat)
      case atStart => exact ⟨0, Nat.zero_le _, rfl, HO0, HBA⟩
      case round =>
        clear HO0 HBA
        obtain ⟨i, hin, rfl, hO, hQ⟩ := hrel
        by_cases hi : i < n
        · have hi' : (i : Int) < (n : Int) := by omega
          have hti : t i < m := HLT.out i hi
          have hti' : ((t i : Nat) : Int) < (m : Int) := by omega
          have hB3 := hB.out.trans (hQ.out.mono hB.out.size)
          obtain ⟨b0, o0, bi, oi, ci, e0, hmc⟩ := mat_cells HH.out HL.out HW.out (by omega) i hi
          subst e0
          obtain ⟨u1, u2⟩ := hmc _ (HB1.out.trans (hB3.mono HB1.out.size))
          have u4 := u2 (t i) hti
          obtain ⟨bt, ot, e0, u5⟩ := HT.out _ hB3 i hi
          subst e0
          have a2 := (HBI.out.below hQ.out hgl).cell (j := t i) (by omega)
          have ks : ∀ w2, Below WR.heap.size wr w2 → w2.cell? ⟨b0, o0 + i, none⟩ = some (.slice (some ⟨bi, oi, none⟩) m ci) ∧ w2.cell? ⟨bi, oi + t i, none⟩ = some (.int .i64 (cI cost i (t i))) ∧ w2.cell? ⟨bt, ot + i, none⟩ = some (.int .i64 (t i)) ∧ w2.cell? ⟨W2.heap.size, t i, none⟩ = some (.int .i64 (gi l (t i))) := fun w2 h => by
            have hq := hQ.out.trans h
            have h3 := hB.out.trans (hq.mono hB.out.size)
            obtain ⟨g1, g2⟩ := hmc _ (HB1.out.trans (h3.mono HB1.out.size))
            obtain ⟨b', o', e1, g3⟩ := HT.out _ h3 i hi
            injection e1 with e1
            injection e1 with e1 e2
            subst e1 e2
            exact ⟨g1, g2 _ hti, g3, (HBI.out.below hq hgl).cell (j := t i) (by omega)⟩
          have KS := Lib.hid ks
          clear u2 hmc hB3 ks
          generalize gi l (t i) = lt_ at *
          generalize cI cost i (t i) = c2 at *
          generalize t i = ti at *
          obtain ⟨xs, hxs, hox⟩ := hO.out
          have HXS := Lib.hid hxs
          have hOD : wr.drew.ownsRow WR.heap.size 3 1 u14 i (intsL xs) := hox
          have HO2 := Lib.hid hOD
          have hsz3 : WR.heap.size ≤ wr.heap.size := hQ.out.size
          obtain ⟨i3, hi3, hz3, hs3, hb3⟩ := info3
          have HQQ := Lib.hid hQ.out
          clear hO hQ hox hxs hOD
          go_wp2_with fail
          go_region_held3 (fun w2 => w2.cell? ⟨b0, o0 + i, none⟩ = some (.slice (some ⟨bi, oi, none⟩) m ci) ∧ w2.cell? ⟨bi, oi + ti, none⟩ = some (.int .i64 c2) ∧ w2.cell? ⟨bt, ot + i, none⟩ = some (.int .i64 ti) ∧ w2.cell? ⟨W2.heap.size, ti, none⟩ = some (.int .i64 lt_)) (first | assumption | exact KS.out _ (Below.refl _ _) | exact KS.out _ (Below.refl _ _).drew | exact KS.out _ ((Below.refl _ _).drew.alloc hsz3 _) | exact KS.out _ hbw6)
            (first
            | (rw [if_pos (by rfl)]
               refine wp_append_own _ _ _ 55 rfl WR.heap.size 3 i3 (.int .i64 0) 1 8 Tryz.underlying55 hi3 hz3 hs3 hb3 rfl (by decide) u14 i (intsL xs) rfl (HO2.out.alloc _) ⟨wr.drew.heap.size, 0, none⟩ 1 1 [_] rfl rfl (cell_one_new _ _ _) (by intro u hu; simp at hu; subst hu; rfl) (by simp only [maxLen]; omega) (by omega) (by simp; omega) ?_
               intro v6 w6 ho6 hg6 _
               have hbw6 : Below WR.heap.size wr w6 := ((Below.refl WR.heap.size wr).drew.alloc hsz3 _).grown hg6 (by simp; omega) (own_ge HO2.out)))
          have HKP := Lib.hid (HQQ.out.trans hbw6)
          have HO4 := Lib.hid (own_snoc ho6 HXS.out)
          go_wp2_with fail
          go_roundw
          case rel => exact ⟨i + 1, by omega, by go_num, HO4, HKP⟩
          case measure => simp [intOf] <;> omega
        · obtain rfl : i = n := by omega
          have hi' : ¬ (i : Int) < (i : Int) := by omega
          have HRR := Lib.hid (fun x y => HR.out wr x y (HB1.out.trans ((hB.out.trans (hQ.out.mono hB.out.size)).mono HB1.out.size)))
          clear hO hQ
          go_wp2_with fail
          refine bodyPost_ret (results_tmp4 rfl _ _ _) rfl ?_
          exact HRR.out _ _
end Go.Proofs.YtggcbblikgankaaGreatDoor
end
section
set_option linter.unusedSimpArgs false
set_option linter.unusedVariables false
namespace Go.Proofs.YtggcbblikgankaaGreatDoor
open Go Go.RowKit Go.Deep
theorem or_nat (a b : Nat) (ha : a ≤ 65536) (hb : b ≤ 65536) : bits .or .i64 (a : Int) (b : Int) = ((a ||| b : Nat) : Int) := by
 have hx : a ||| b < 2 ^ 32 := Nat.or_lt_two_pow (by omega) (by omega)
 have h1 : (BitVec.ofInt 64 (a : Int)).toNat = a := by
  rw [BitVec.ofInt_natCast, BitVec.toNat_ofNat]; exact Nat.mod_eq_of_lt (by omega)
 have h2 : (BitVec.ofInt 64 (b : Int)).toNat = b := by
  rw [BitVec.ofInt_natCast, BitVec.toNat_ofNat]; exact Nat.mod_eq_of_lt (by omega)
 show IntKind.i64.wrap ((BitVec.ofInt 64 (a : Int) ||| BitVec.ofInt 64 (b : Int)).toNat : Int) = _
 rw [BitVec.toNat_or, h1, h2, IntKind.wrap_i64]
 omega
structure HasL (c : Nat → Nat → Int) (m i : Nat) (hs : List Nat) : Prop where
 len : hs.length = i
 ok : ∀ q, q < i → HasOk c q m (hs[q]?.getD 0)
theorem HasL.add {c : Nat → Nat → Int} {m i H : Nat} {hs : List Nat} (h : HasL c m i hs) (hH : HasOk c i m H) : HasL c m (i + 1) (hs ++ [H]) := by
 refine ⟨by rw [List.length_append, h.len]; rfl, fun q hq => ?_⟩
 by_cases e : q = i
 ·subst e
  rw [List.getElem?_append_right (by rw [h.len]; exact Nat.le_refl _), h.len, Nat.sub_self]
  exact hH
 ·rw [List.getElem?_append_left (by rw [h.len]; omega)]
  exact h.ok q (by omega)
structure AllAt (n m : Nat) (c : Nat → Nat → Int) (R M : Nat) (l : List Int) : Prop where
 len : l.length = M
 ok : ∀ S, S < R → ∃ U : Nat, gi l S = (U : Int) ∧ UnionOk n m c S U
theorem AllAt.put {n m R M U : Nat} {c : Nat → Nat → Int} {l : List Int} (h : AllAt n m c R M l) (hR : R < M) (hU : UnionOk n m c R U) : AllAt n m c (R + 1) M (l.set R (U : Int)) := by
 have hl : R < l.length := by rw [h.len]; exact hR
 refine ⟨by rw [List.length_set]; exact h.len, fun S hS => ?_⟩
 by_cases e : S = R
 ·subst e; exact ⟨U, gi_same hl, hU⟩
 ·obtain ⟨V, h1, h2⟩ := h.ok S (by omega)
  exact ⟨V, by rw [gi_other hl e]; exact h1, h2⟩
theorem gi_intsN (l : List Nat) (i : Nat) : gi (intsN l) i = ((l[i]?.getD 0 : Nat) : Int) := by
 unfold gi intsN
 rw [List.getElem?_map]
 cases l[i]? <;> rfl
theorem own_snocN {w : World} {Z k : Nat} {v : Value} {xs : List Nat} {x : Nat} (h : w.ownsRow Z 3 1 v k (intsL (intsN xs) ++ [.int .i64 (x : Int)])) : w.ownsRow Z 3 1 v k (intsL (intsN (xs ++ [x]))) := by
 unfold intsL intsN at *
 rw [List.map_append, List.map_append]; exact h
set_option maxRecDepth 100000 in
set_option maxHeartbeats 16000000 in
theorem rdeny_any (cost : List (List Int)) (ao : Option Addr) (n cc : Nat) (hl : cost.length = n) (w : World) (h : IsMat w (.slice ao n cc) cost) : Calls Tryz.prog 28 #[.slice ao n cc] w (DenyP cost w) := by
 have HCK := Lib.hid (check47_any ao n cc cost hl w h)
 have hmx := h.len
 rw [hl] at hmx
 simp only [maxLen] at hmx
 have HH := Lib.hid h; have HL := Lib.hid hl
 clear h hl
 go_enter Tryz.func28, Tryz.ntmps28
 go_wp2_with fail
 refine HCK.out.mono ?_
 rintro e w1 ⟨rfl, k1, rfl⟩
 have HB1 := Lib.hid (bel_drewN (Below.refl w.heap.size w) k1)
 have HM := Lib.hid (HH.out.below HB1.out (Nat.le_refl _))
 clear HCK
 by_cases hce : castE cost = 0
 case neg =>
  have hne : (castE cost != 0) = true := by simpa using hce
  have HR : Hid (DenyP cost w (.returned (.tuple #[.slice none 0 0, .bool false, .int .i64 (castE cost)])) (w.drewN k1)) := Lib.hid ⟨HB1.out, Or.inl ⟨hce, rfl⟩⟩
  clear hce
  generalize castE cost = ce at *
  go_wp2_with fail
  refine bodyPost_ret (results_tmp3 rfl _ _ _) rfl ?_
  exact HR.out
 obtain ⟨r1, r2, r3, r4, r5⟩ := right_of hce
 rw [HL.out] at r1
 obtain ⟨m, hwm⟩ : ∃ m, widN cost = m := ⟨_, rfl⟩
 rw [hwm] at r2 r3
 have hv : ∀ i j, cI cost i j = -1 ∨ 0 ≤ cI cost i j := fun i j => by have := r5 i j; omega
 have HR0 : Hid (∀ W, Below w.heap.size w W → denyF (cI cost) n m = none → DenyP cost w (.returned (.tuple #[.slice none 0 0, .bool false, .int .i64 0])) W) := Lib.hid fun W hb h => ⟨hb, Or.inr (Or.inl ⟨hce, by rw [HL.out, hwm]; exact h, rfl⟩)⟩
 have HR1 : Hid (∀ W v l, Below w.heap.size w W → denyF (cI cost) n m = some l → IsRow encI 1 W v (intsN l) → DenyP cost w (.returned (.tuple #[v, .bool true, .int .i64 0])) W) := Lib.hid fun W v l hb h hr => ⟨hb, Or.inr (Or.inr ⟨hce, v, l, by rw [HL.out, hwm]; exact h, rfl, hr⟩)⟩
 have HW := Lib.hid r3; have HV := Lib.hid hv
 rw [hce]
 clear hce r3 hv r4 r5 hwm
 generalize w.drewN k1 = W1 at *
 obtain ⟨M, hM⟩ : ∃ M : Nat, 2 ^ n = M := ⟨_, rfl⟩
 have hM1 : 1 ≤ M := by rw [← hM]; exact Nat.pow_pos (by decide)
 have hM2 : M ≤ 65536 := by rw [← hM]; exact Nat.le_trans (Nat.pow_le_pow_right (by decide) r1) (by decide)
 have hpowM : (2 : Int) ^ n = (M : Int) := by rw [← hM]; push_cast; rfl
 have HMM := Lib.hid hM
 clear hM
 go_wp2_with fail
 have HO0 : Hid (∃ hs : List Nat, HasL (cI cost) m 0 hs ∧ (W1.alloc (.cells #[] 3)).ownsRow W1.heap.size 3 1 (.slice (some ⟨W1.heap.size, 0, none⟩) 0 0) 0 (intsL (intsN hs))) := Lib.hid ⟨[], ⟨rfl, fun q hq => by omega⟩, ⟨rfl, Or.inr ⟨W1.heap.size, 0, #[], rfl, Nat.le_refl _, heap_alloc_new _ _, Nat.le_refl _, by decide, rfl, rfl⟩⟩⟩
 have HBA : Hid (Below W1.heap.size W1 (W1.alloc (.cells #[] 3))) := Lib.hid ((Below.refl _ W1).alloc (Nat.le_refl _) _)
 generalize W1.alloc (.cells #[] 3) = V0 at *
 go_loopw [6, 7] (fun hv iv wr => ∃ i : Nat, i ≤ n ∧ iv = .int .i64 i ∧ Hid (∃ hs : List Nat, HasL (cI cost) m i hs ∧ wr.ownsRow W1.heap.size 3 1 hv i (intsL (intsN hs))) ∧ Hid (Below W1.heap.size W1 wr)) (fun _ iv _ => n - (intOf iv).toNat)
 case atStart => exact ⟨0, Nat.zero_le _, rfl, HO0, HBA⟩
 case round =>
  clear HO0 HBA
  obtain ⟨i, hin, rfl, hO, hQ⟩ := hrel
  by_cases hi : i < n
  ·have hi' : (i : Int) < (n : Int) := by omega
   go_wp2_with fail
   go_loopw [8, 9] (fun sv jv w3 => ∃ j S : Nat, j ≤ m ∧ sv = .int .i64 S ∧ jv = .int .i64 j ∧ Hid (HasOk (cI cost) i j S) ∧ w3 = wr) (fun _ jv _ => m - (intOf jv).toNat)
   case atStart => exact ⟨0, 0, Nat.zero_le _, rfl, rfl, Lib.hid HasOk.zero, rfl⟩
   case round =>
    obtain ⟨j, S, hjm, rfl, rfl, hS, rfl⟩ := hrel
    obtain ⟨b0, o0, e0, ar, cr, q1, q2, q3⟩ := HM.out.at_ (i := i) (by rw [HL.out]; exact hi)
    subst e0
    have hrl : (cost[i]?.getD []).length = m := by
     rw [List.getElem?_eq_getElem (by rw [HL.out]; exact hi)]
     exact HW.out _ (List.getElem_mem _)
    rw [hrl] at q1 q2
    have u1 := (hQ.out.cell (p := ⟨b0, o0 + i, none⟩) q3).trans q1
    have HQ2 := Lib.hid q2; have HRL := Lib.hid hrl
    have hSl : S ≤ 65536 := by
     have h1 := hS.out.lt
     have h2 : 2 ^ j ≤ 65536 := Nat.le_trans (Nat.pow_le_pow_right (by decide) (show j ≤ 16 by omega)) (by decide)
     omega
    clear q1 q2 q3 hrl
    by_cases hj : j < m
    ·have hj' : (j : Int) < (m : Int) := by omega
     obtain ⟨bi, oi, e0, q4, q5⟩ := HQ2.out.int (j := j) (by rw [HRL.out]; exact hj)
     subst e0
     have u3 := (hQ.out.cell (p := ⟨bi, oi + j, none⟩) q5).trans q4
     have hcv : gi (cost[i]?.getD []) j = -1 ∨ 0 ≤ gi (cost[i]?.getD []) j := HV.out i j
     have hcI : cI cost i j = gi (cost[i]?.getD []) j := rfl
     obtain ⟨P, hP⟩ : ∃ P : Nat, 2 ^ j = P := ⟨_, rfl⟩
     have hpow : (2 : Int) ^ j = (P : Int) := by rw [← hP]; push_cast; rfl
     have hPle : P ≤ 65536 := by rw [← hP]; exact Nat.le_trans (Nat.pow_le_pow_right (by decide) (show j ≤ 16 by omega)) (by decide)
     have hkk : (j : Int) ≤ 64 := by omega
     have hadd : 0 ≤ gi (cost[i]?.getD []) j → HasOk (cI cost) i (j + 1) (S + P) := fun h => by rw [← hP]; exact hS.out.add (by rw [hcI]; exact h)
     have hskip : gi (cost[i]?.getD []) j = -1 → HasOk (cI cost) i (j + 1) S := fun h => hS.out.skip (by rw [hcI, h]; decide)
     have HADD := Lib.hid hadd; have HSK := Lib.hid hskip
     clear q4 q5 hadd hskip hcI hP
     generalize gi (cost[i]?.getD []) j = c1 at *
     by_cases hc : c1 = -1
     ·have HN := Lib.hid (HSK.out hc)
      subst hc
      clear HADD HSK hcv
      go_wp2_with fail
      go_roundw
      case rel => exact ⟨j + 1, S, by omega, by go_num, by go_num, HN, trivial⟩
      case measure => simp [intOf] <;> omega
     ·have hne : (c1 != -1) = true := by simpa using hc
      have HN := Lib.hid (HADD.out (hcv.resolve_left hc))
      clear HADD HSK hcv hc
      go_wp2_with fail
      go_roundw
      case rel => exact ⟨j + 1, S + P, by omega, by go_num, by go_num, HN, trivial⟩
      case measure => simp [intOf] <;> omega
    ·obtain rfl : j = m := by omega
     have hj' : ¬ (j : Int) < (j : Int) := by omega
     obtain ⟨hs, hHS, hox⟩ := hO.out
     have HHS := Lib.hid (hHS.add hS.out)
     have hsz3 : W1.heap.size ≤ wr.heap.size := hQ.out.size
     have HO2 := Lib.hid hox
     have HOA := Lib.hid (hox.alloc (.cells #[.int .i64 (S : Int)] 3))
     obtain ⟨i3, hi3, hz3, hs3, hb3⟩ := info3
     have HQQ := Lib.hid hQ.out
     clear hO hQ hox hHS hS HQ2
     go_wp2_with (at_builtin; refine wpList_append_own _ rfl _ _ 55 rfl W1.heap.size 3 i3 (.int .i64 0) 1 8 Tryz.underlying55 hi3 hz3 hs3 hb3 rfl (by decide) u6 i (intsL (intsN hs)) rfl HOA.out ⟨wr.heap.size, 0, none⟩ 1 1 [.int .i64 (S : Int)] rfl rfl (cell_one_new _ _ _) (by intro u hu; simp at hu; subst hu; rfl) (by simp only [maxLen]; omega) (by omega) (by simp; omega) ?_; intro v' w4 hown hgrow _; have hkp : Below W1.heap.size wr w4 := ((Below.refl W1.heap.size wr).alloc hsz3 _).grown hgrow (by simp; omega) (own_ge HO2.out); have HKP := Lib.hid (HQQ.out.trans hkp); have HO4 := Lib.hid (own_snocN hown); clear hown hgrow hkp)
     go_roundw
     case rel => exact ⟨i + 1, by omega, by go_num, Lib.hid ⟨_, HHS.out, HO4.out⟩, HKP⟩
     case measure => simp [intOf] <;> omega
  ·obtain rfl : i = n := by omega
   have hi' : ¬ (i : Int) < (i : Int) := by omega
   obtain ⟨hs, hHS, hox⟩ := hO.out
   have hmk := fun (W : World) => make_big M hM2 W
   obtain ⟨WR, hWR⟩ : ∃ W : World, W = wr := ⟨_, rfl⟩
   subst hWR
   have HHS := Lib.hid hHS
   have hrow : IsRow encI 1 WR u6 (intsN hs) := own_ints hox (by rw [intsN_len]; exact hHS.len)
   obtain ⟨ah, ch, e6, hfm, _⟩ := id hrow
   rw [intsN_len, hHS.len] at e6
   subst e6
   have HROW := Lib.hid hrow
   have HQQ := Lib.hid hQ.out
   have hB0 : Below WR.heap.size WR (WR.alloc (.cells (Array.replicate M (.int .i64 0)) 3)) := (Below.refl _ WR).alloc (Nat.le_refl _) _
   have hBI : BI (WR.alloc (.cells (Array.replicate M (.int .i64 0)) 3)) WR.heap.size (List.replicate M 0) := by
    unfold BI
    rw [show (intsL (List.replicate M 0)).toArray = Array.replicate M (.int .i64 0) by simp [intsL]]
    exact heap_alloc_new WR _
   have H0 : Hid (∃ l : List Int, AllAt i m (cI cost) 1 M l ∧ BI (WR.alloc (.cells (Array.replicate M (.int .i64 0)) 3)) WR.heap.size l) := Lib.hid ⟨_, ⟨by rw [List.length_replicate], fun S hS => by
    obtain rfl : S = 0 := by omega
    refine ⟨0, ?_, UnionOk.zero⟩
    unfold gi
    rw [List.getElem?_replicate, if_pos (show 0 < M by omega)]; rfl⟩, hBI⟩
   have HB0 := Lib.hid hB0
   clear hO hQ hHS hox hfm hrow hB0 hBI
   go_wp2_with fail
   generalize WR.alloc (.cells (Array.replicate M (.int .i64 0)) 3) = V at *
   clear hmk hpowM
   have HD0 : Hid (DenAt i m (cI cost) 1 0) := Lib.hid DenAt.zero
   go_loopw [11, 12] (fun bv rv wr => ∃ best R : Nat, 1 ≤ R ∧ R ≤ M ∧ bv = .int .i64 best ∧ rv = .int .i64 R ∧ Hid (DenAt i m (cI cost) R best) ∧ Hid (∃ l : List Int, AllAt i m (cI cost) R M l ∧ BI wr WR.heap.size l) ∧ Hid (Below WR.heap.size WR wr)) (fun _ rv _ => M - (intOf rv).toNat)
   case atStart => exact ⟨0, 1, Nat.le_refl _, hM1, rfl, rfl, HD0, H0, HB0⟩
   case round =>
    clear H0 HB0 HD0
    obtain ⟨best, R, hR1, hRM, rfl, rfl, hD, hA, hB⟩ := hrel
    by_cases hR : R < M
    ·have hR' : (R : Int) < (M : Int) := by omega
     go_wp2_with fail
     go_loopw [13] (fun kv w3 => ∃ k : Nat, k ≤ 16 ∧ kv = .int .i64 k ∧ Hid (2 ^ k ≤ R) ∧ w3 = wr) (fun kv _ => 17 - (intOf kv).toNat)
     case atStart => exact ⟨0, Nat.zero_le _, rfl, Lib.hid (by simpa using hR1), rfl⟩
     case round =>
      obtain ⟨k, hk16, rfl, hK, rfl⟩ := hrel
      obtain ⟨k1, hk1⟩ : ∃ x, k + 1 = x := ⟨_, rfl⟩
      have hk1I : (k : Int) + 1 = (k1 : Int) := by omega
      obtain ⟨P, hP⟩ : ∃ P : Nat, 2 ^ k1 = P := ⟨_, rfl⟩
      have hpow : (2 : Int) ^ k1 = (P : Int) := by rw [← hP]; push_cast; rfl
      have hkk : (k1 : Int) ≤ 64 := by omega
      have hPp : 0 < P := by rw [← hP]; exact Nat.pow_pos (by decide)
      have hPle : P ≤ 131072 := by rw [← hP]; exact Nat.le_trans (Nat.pow_le_pow_right (by decide) (show k1 ≤ 17 by omega)) (by decide)
      have hdv : (R : Int) / (P : Int) = ((R / P : Nat) : Int) := rfl
      by_cases hPR : P ≤ R
      ·have hq : 0 < R / P := Nat.div_pos hPR hPp
       have hk2 : k1 ≤ 16 := by
        by_cases h : k1 ≤ 16
        ·exact h
        ·have h1 : 2 ^ 17 ≤ 2 ^ k1 := Nat.pow_le_pow_right (by decide) (by omega)
         rw [hP] at h1
         omega
       have HK2 : Hid (2 ^ k1 ≤ R) := Lib.hid (by rw [hP]; exact hPR)
       have hqI : (0 : Int) < ((R / P : Nat) : Int) := by omega
       clear hq hP hPR hK
       generalize R / P = q at *
       go_wp2_with fail
       go_roundw
       case rel => exact ⟨k1, hk2, by go_num, HK2, trivial⟩
       case measure => simp [intOf] <;> omega
      ·have hq : R / P = 0 := Nat.div_eq_of_lt (by omega)
       rw [hq] at hdv
       have hRP : R < 2 ^ (k + 1) := by rw [hk1, hP]; omega
       obtain ⟨P0, hP0⟩ : ∃ x, 2 ^ k = x := ⟨_, rfl⟩
       have hpow0 : (2 : Int) ^ k = (P0 : Int) := by rw [← hP0]; push_cast; rfl
       have hP0R : P0 ≤ R := by rw [← hP0]; exact hK.out
       obtain ⟨T, hT⟩ : ∃ T, R - P0 = T := ⟨_, rfl⟩
       have hTI : (R : Int) - (P0 : Int) = (T : Int) := by omega
       have hTl : T < 2 ^ k := by rw [Nat.pow_succ, hP0] at hRP; rw [hP0]; omega
       have hki : k < i := by
        by_cases h : k < i
        ·exact h
        ·have h1 : 2 ^ i ≤ 2 ^ k := Nat.pow_le_pow_right (by decide) (by omega)
         rw [HMM.out, hP0] at h1
         omega
       obtain ⟨l, hAl, hl⟩ := hA.out
       obtain ⟨U, hgU, hU⟩ := hAl.ok T (by omega)
       have hHk := HHS.out.ok k hki
       obtain ⟨H, hH⟩ : ∃ H, hs[k]?.getD 0 = H := ⟨_, rfl⟩
       rw [hH] at hHk
       have hUl : U ≤ 65536 := by
        have h1 := hU.lt
        have h2 : 2 ^ m ≤ 65536 := Nat.le_trans (Nat.pow_le_pow_right (by decide) r2) (by decide)
        omega
       have hHl : H ≤ 65536 := by
        have h1 := hHk.lt
        have h2 : 2 ^ m ≤ 65536 := Nat.le_trans (Nat.pow_le_pow_right (by decide) r2) (by decide)
        omega
       have hor := or_nat U H hUl hHl
       have hU2 : UnionOk i m (cI cost) R (U ||| H) := by
        have h1 := hU.add (bit_out hTl (Nat.le_refl k)) hki hHk
        rwa [show T + 2 ^ k = R by rw [hP0]; omega] at h1
       obtain ⟨U2, hU2e⟩ : ∃ x, U ||| H = x := ⟨_, rfl⟩
       rw [hU2e] at hor hU2
       have hU2l : U2 ≤ 65536 := by
        have h1 := hU2.lt
        have h2 : 2 ^ m ≤ 65536 := Nat.le_trans (Nat.pow_le_pow_right (by decide) r2) (by decide)
        omega
       have a1 := hl.cell (j := T) (by rw [hAl.len]; omega)
       rw [hgU] at a1
       have a2 := hl.cell (j := R) (by rw [hAl.len]; exact hR)
       have af := hl.free R
       obtain ⟨bh, oh, e0, a3, _⟩ := (HROW.out.below hB.out (Nat.le_refl _)).int (j := k) (by rw [intsN_len, HHS.out.len]; exact hki)
       subst e0
       rw [gi_intsN, hH] at a3
       have hl' : BI (wr.setCell ⟨WR.heap.size, R, none⟩ (.int .i64 (U2 : Int))).drew WR.heap.size (l.set R (U2 : Int)) := hl.set R (U2 : Int)
       have HBI2 := Lib.hid hl'
       have HA2 := Lib.hid (hAl.put hR hU2)
       have HBL2 := Lib.hid (hB.out.setCell (p := ⟨WR.heap.size, R, none⟩) (Nat.le_refl _) (.int .i64 (U2 : Int))).drew
       have HIFF := Lib.hid (bad_iff (show R < 2 ^ i by rw [HMM.out]; exact hR) hU2)
       have hTM : (T : Int) < (M : Int) := by omega
       have hkiI : (k : Int) < (i : Int) := by omega
       have hkk0 : (k : Int) ≤ 64 := by omega
       have hP0le : P0 ≤ 65536 := by omega
       have hwP : IntKind.i64.wrap (P0 : Int) = P0 := IntWalk.i64_in _ (by omega)
       have hwT : IntKind.i64.wrap (T : Int) = T := IntWalk.i64_in _ (by omega)
       have a4 := HBI2.out.cell (j := R) (by rw [List.length_set, hAl.len]; exact hR)
       rw [gi_same (by rw [hAl.len]; exact hR)] at a4
       have HON1 := Lib.hid (fun W => ones_any R (by omega) W)
       have HON2 := Lib.hid (fun W => ones_any U2 hU2l W)
       have hbl := hD.out.lt
       have HON3 := Lib.hid (fun W => ones_any best (by omega) W)
       clear hq hP hPR hK hA hB hAl hl hl' hgU hU hHk hH hU2 hU2e hT hP0 hTl hRP
       go_wp2_with fail
       refine region_tail (fun w2 => w2 = wr.drew) 15 (by kernel_rfl) (by kernel_rfl) rfl ?_
       intro w2 hS
       subst hS
       simp only [List.take_succ_cons, List.take_zero, List.drop_succ_cons, List.drop_zero]
       repeat still_step
       refine wpStill_nil ?_
       go_wp2_with fail
       generalize (wr.setCell ⟨WR.heap.size, R, none⟩ (.int .i64 (U2 : Int))).drew = V2 at *
       refine (HON1.out V2).mono ?_
       rintro e V3 ⟨rfl, rfl⟩
       clear a1 a2 a3 af HON1
       obtain ⟨oR, hoR⟩ : ∃ x, onesN R = x := ⟨_, rfl⟩
       obtain ⟨o2, ho2⟩ : ∃ x, onesN U2 = x := ⟨_, rfl⟩
       obtain ⟨ob, hob⟩ : ∃ x, onesN best = x := ⟨_, rfl⟩
       rw [hoR]
       rw [ho2] at HON2
       rw [hob] at HON3
       rw [hoR, ho2] at HIFF
       have HOR := Lib.hid hoR; have HOB := Lib.hid hob
       have hoRl : oR ≤ R := by rw [← hoR]; exact onesN_lt R
       have ho2l : o2 ≤ U2 := by rw [← ho2]; exact onesN_lt U2
       have hobl : ob ≤ best := by rw [← hob]; exact onesN_lt best
       clear hoR ho2 hob
       go_wp2_with fail
       refine (HON2.out V3).mono ?_
       rintro e V4 ⟨rfl, rfl⟩
       clear HON2 a4
       by_cases hbad : oR ≤ o2
       ·have hbI : (oR : Int) ≤ (o2 : Int) := by omega
        have HD2 := Lib.hid (hD.out.skip (Or.inl fun q => by have := HIFF.out.1 q; omega))
        clear hD HIFF HON3 hbad
        go_wp2_with fail
        go_roundw
        case rel => exact ⟨best, R + 1, by omega, by omega, by go_num, by go_num, HD2, Lib.hid ⟨_, HA2.out, HBI2.out⟩, HBL2⟩
        case measure => simp [intOf] <;> omega
       have hbI : ¬ (oR : Int) ≤ (o2 : Int) := by omega
       have HBAD := Lib.hid (HIFF.out.2 (by omega))
       clear HIFF hbad
       by_cases hb0 : best = 0
       ·have HD2 := Lib.hid (hD.out.take (by omega) HBAD.out (Or.inl hb0))
        subst hb0
        clear hD HON3 HBAD
        go_wp2_with fail
        go_roundw
        case rel => exact ⟨R, R + 1, by omega, by omega, by go_num, by go_num, HD2, Lib.hid ⟨_, HA2.out, HBI2.out⟩, HBL2⟩
        case measure => simp [intOf] <;> omega
       have hbp : (0 : Int) < (best : Int) := by omega
       go_wp2_with fail
       refine (HON3.out V4).mono ?_
       rintro e V5 ⟨rfl, rfl⟩
       by_cases hgt : ob < oR
       ·have hgI : (ob : Int) < (oR : Int) := by omega
        have HD2 := Lib.hid (hD.out.skip (Or.inr ⟨hb0, Or.inl (by rw [HOR.out, HOB.out]; exact hgt)⟩))
        clear hD HON3 HBAD hgt
        go_wp2_with fail
        go_roundw
        case rel => exact ⟨best, R + 1, by omega, by omega, by go_num, by go_num, HD2, Lib.hid ⟨_, HA2.out, HBI2.out⟩, HBL2⟩
        case measure => simp [intOf] <;> omega
       have hgI : ¬ (ob : Int) < (oR : Int) := by omega
       have HON4 := Lib.hid (HON3.out V5)
       clear HON3
       go_wp2_with fail
       refine HON4.out.mono ?_
       rintro e V6 ⟨rfl, rfl⟩
       clear HON4
       by_cases heq : oR = ob
       ·have heI : ((oR : Int) == (ob : Int)) = true := beq_iff_eq.2 (by rw [heq])
        obtain ⟨p, hp⟩ := first_or (show R ≠ best by omega)
        have hpd : R.testBit p ≠ best.testBit p := by rcases hp with hp | hp <;> rw [hp.1, hp.2.1] <;> decide
        have hpe : ∀ q, q < p → R.testBit q = best.testBit q := fun q hq => by
         rcases hp with hp | hp
         ·exact hp.2.2 q hq
         ·exact (hp.2.2 q hq).symm
        have HBF := Lib.hid (before_any R best p (by omega) (by omega) hpd hpe V6)
        have HD2 : Hid (if R.testBit p = true then DenAt i m (cI cost) (R + 1) R else DenAt i m (cI cost) (R + 1) best) := Lib.hid (by
         rcases hp with hp | hp
         ·rw [if_pos hp.1]
          exact hD.out.take (by omega) HBAD.out (Or.inr (Or.inr ⟨by rw [HOR.out, HOB.out]; exact heq, p, hp⟩))
         ·rw [if_neg (by rw [hp.2.1]; decide)]
          exact hD.out.skip (Or.inr ⟨hb0, Or.inr ⟨by rw [HOR.out, HOB.out]; exact heq.symm, p, hp⟩⟩))
        clear hD HBAD hp hpd hpe heq
        generalize R.testBit p = tb at *
        go_wp2_with fail
        refine HBF.out.mono ?_
        rintro e V7 ⟨rfl, rfl⟩
        clear HBF
        cases tb with
        | true =>
         have HD3 := Lib.hid (show DenAt i m (cI cost) (R + 1) R from by have := HD2.out; rwa [if_pos rfl] at this)
         clear HD2
         go_wp2_with fail
         go_roundw
         case rel => exact ⟨R, R + 1, by omega, by omega, by go_num, by go_num, HD3, Lib.hid ⟨_, HA2.out, HBI2.out⟩, HBL2⟩
         case measure => simp [intOf] <;> omega
        | false =>
         have HD3 := Lib.hid (show DenAt i m (cI cost) (R + 1) best from by have := HD2.out; rwa [if_neg (by decide)] at this)
         clear HD2
         go_wp2_with fail
         go_roundw
         case rel => exact ⟨best, R + 1, by omega, by omega, by go_num, by go_num, HD3, Lib.hid ⟨_, HA2.out, HBI2.out⟩, HBL2⟩
         case measure => simp [intOf] <;> omega
       ·have heI : ((oR : Int) == (ob : Int)) = false := by simp; omega
        have HD2 := Lib.hid (hD.out.take (by omega) HBAD.out (Or.inr (Or.inl (by rw [HOR.out, HOB.out]; omega))))
        clear hD HBAD heq
        go_wp2_with fail
        go_roundw
        case rel => exact ⟨R, R + 1, by omega, by omega, by go_num, by go_num, HD2, Lib.hid ⟨_, HA2.out, HBI2.out⟩, HBL2⟩
        case measure => simp [intOf] <;> omega
    ·obtain rfl : R = M := by omega
     have hR' : ¬ (R : Int) < (R : Int) := by omega
     have hboth := deny_both (by rw [HMM.out]; exact hD.out : DenAt i m (cI cost) (2 ^ i) best)
     have hbl := hD.out.lt
     have HBW := Lib.hid (HB1.out.trans ((HQQ.out.trans (hB.out.mono HQQ.out.size)).mono HB1.out.size))
     have HB2 := Lib.hid hB.out
     clear hD hA hB
     rcases hboth with ⟨hdn, rfl⟩ | ⟨hb0, hdn⟩
     ·have HX := Lib.hid (HR0.out _ HBW.out hdn)
      clear hdn
      go_wp2_with fail
      refine bodyPost_ret (results_tmp3 rfl _ _ _) rfl ?_
      exact HX.out
     ·have HX := Lib.hid (fun W v (hb : Below wr.heap.size wr W) hr => HR1.out W v _ (HBW.out.trans (hb.mono HBW.out.size)) hdn hr)
      have hne : ((best : Int) == 0) = false := by simp; omega
      clear hdn
      go_wp2_with fail
      obtain ⟨WS, hWS⟩ : ∃ W : World, W = wr := ⟨_, rfl⟩
      subst hWS
      have HO0 : Hid ((WS.alloc (.cells #[] 3)).ownsRow WS.heap.size 3 1 (.slice (some ⟨WS.heap.size, 0, none⟩) 0 0) (bitsL 0 best).length (intsL (intsN (bitsL 0 best)))) := Lib.hid ⟨rfl, Or.inr ⟨WS.heap.size, 0, #[], rfl, Nat.le_refl _, heap_alloc_new _ _, Nat.le_refl _, by decide, rfl, rfl⟩⟩
      have HBA : Hid (Below WS.heap.size WS (WS.alloc (.cells #[] 3))) := Lib.hid ((Below.refl _ WS).alloc (Nat.le_refl _) _)
      generalize WS.alloc (.cells #[] 3) = V0 at *
      go_loopw [15, 16] (fun ov jv wr => ∃ j : Nat, j ≤ i ∧ jv = .int .i64 j ∧ Hid (wr.ownsRow WS.heap.size 3 1 ov (bitsL j best).length (intsL (intsN (bitsL j best)))) ∧ Hid (Below WS.heap.size WS wr)) (fun _ jv _ => i - (intOf jv).toNat)
      case atStart => exact ⟨0, Nat.zero_le _, rfl, HO0, HBA⟩
      case round =>
       clear HO0 HBA
       obtain ⟨j, hji, rfl, hO, hQ⟩ := hrel
       by_cases hj : j < i
       ·have hj' : (j : Int) < (i : Int) := by omega
        obtain ⟨P, hP⟩ : ∃ P : Nat, 2 ^ j = P := ⟨_, rfl⟩
        have hpow : (2 : Int) ^ j = (P : Int) := by rw [← hP]; push_cast; rfl
        have hPle : P ≤ 65536 := by rw [← hP]; exact Nat.le_trans (Nat.pow_le_pow_right (by decide) (show j ≤ 16 by omega)) (by decide)
        have hbit : best.testBit j = decide (best / P % 2 = 1) := by rw [← hP]; exact Nat.testBit_eq_decide_div_mod_eq
        have hdm : Int.tmod ((best : Int) / (P : Int)) 2 = ((best / P % 2 : Nat) : Int) := rfl
        have hkk : (j : Int) ≤ 64 := by omega
        have hsucc := bitsL_succ j best
        have hle := bitsL_le j best
        rw [hbit] at hsucc
        by_cases hb : best / P % 2 = 1
        ·rw [hb] at hdm
         rw [if_pos (by rw [hb]; rfl)] at hsucc
         have HSU := Lib.hid hsucc
         have HO2 := Lib.hid hO.out
         have HOA := Lib.hid (hO.out.alloc (.cells #[.int .i64 (j : Int)] 3))
         have HQQ2 := Lib.hid hQ.out
         have hsz3 : WS.heap.size ≤ wr.heap.size := hQ.out.size
         obtain ⟨i3, hi3, hz3, hs3, hb3⟩ := info3
         clear hO hQ hsucc hbit hb hP
         obtain ⟨bl, hbl2⟩ : ∃ x, bitsL j best = x := ⟨_, rfl⟩
         rw [hbl2] at HO2 HOA HSU hle
         obtain ⟨nb, hnb⟩ : ∃ x, bl.length = x := ⟨_, rfl⟩
         have HNB := Lib.hid hnb
         rw [hnb] at HO2 HOA hle
         clear hbl2 hnb
         go_wp2_with (at_builtin; refine wpList_append_own _ rfl _ _ 55 rfl WS.heap.size 3 i3 (.int .i64 0) 1 8 Tryz.underlying55 hi3 hz3 hs3 hb3 rfl (by decide) u15 nb (intsL (intsN bl)) rfl HOA.out ⟨wr.heap.size, 0, none⟩ 1 1 [.int .i64 (j : Int)] rfl rfl (cell_one_new _ _ _) (by intro u hu; simp at hu; subst hu; rfl) (by simp only [maxLen]; omega) (by omega) (by simp; omega) ?_; intro v' w4 hown hgrow _; have hkp : Below WS.heap.size wr w4 := ((Below.refl WS.heap.size wr).alloc hsz3 _).grown hgrow (by simp; omega) (own_ge HO2.out); have HKP := Lib.hid (HQQ2.out.trans hkp); have HO4 := Lib.hid (own_snocN hown); clear hown hgrow hkp)
         go_roundw
         case rel => exact ⟨j + 1, by omega, by go_num, Lib.hid (by rw [HSU.out, List.length_append, HNB.out]; exact HO4.out), HKP⟩
         case measure => simp [intOf] <;> omega
        ·have hb2 : best / P % 2 = 0 := by omega
         rw [hb2] at hdm
         rw [if_neg (by simpa using hb), List.append_nil] at hsucc
         have HSU := Lib.hid hsucc
         clear hsucc hbit hb hb2 hP hle
         go_wp2_with fail
         go_roundw
         case rel => exact ⟨j + 1, by omega, by go_num, by rw [HSU.out]; exact hO, hQ⟩
         case measure => simp [intOf] <;> omega
       ·obtain rfl : j = i := by omega
        have hj' : ¬ (j : Int) < (j : Int) := by omega
        have HY := Lib.hid (HX.out _ _ hQ.out (own_ints hO.out (intsN_len _)))
        clear hO hQ
        go_wp2_with fail
        refine bodyPost_ret (results_tmp3 rfl _ _ _) rfl ?_
        exact HY.out
end Go.Proofs.YtggcbblikgankaaGreatDoor
end
section
set_option linter.unusedSimpArgs false
set_option linter.unusedVariables false
namespace Go.Proofs.YtggcbblikgankaaGreatDoor
open Go Go.RowKit Go.Deep
theorem deny_form {cost : List (List Int)} {w w' : World} {e : Ending} (h : DenyP cost w e w') : ∃ a n c ok xs, e = .returned (.tuple #[.slice a n c, .bool ok, .int .i64 (castE cost)]) ∧ xs.length = n ∧ IsRow encI 1 w' (.slice a n c) xs ∧
  ((ok = true ∧ castE cost = 0 ∧ ∃ l, denyF (cI cost) cost.length (widN cost) = some l ∧ xs = intsN l) ∨ (ok = false ∧ xs = [] ∧ (castE cost = 0 → denyF (cI cost) cost.length (widN cost) = none))) := by
 rcases h.2 with ⟨a, e1⟩ | ⟨a, hd, e1⟩ | ⟨a, v, l, hd, e1, hr⟩
 ·exact ⟨none, 0, 0, false, [], e1, rfl, nil_ints _, Or.inr ⟨rfl, rfl, fun h => absurd h a⟩⟩
 ·exact ⟨none, 0, 0, false, [], by rw [a]; exact e1, rfl, nil_ints _, Or.inr ⟨rfl, rfl, fun _ => hd⟩⟩
 ·obtain ⟨ao, c, e2, _⟩ := id hr
  subst e2
  exact ⟨ao, _, c, true, _, by rw [a]; exact e1, rfl, hr, Or.inl ⟨rfl, a, l, hd, rfl⟩⟩
theorem deny_same {cost : List (List Int)} {ok ok' : Bool} {xs xs' : List Int}
  (h : (ok = true ∧ castE cost = 0 ∧ ∃ l, denyF (cI cost) cost.length (widN cost) = some l ∧ xs = intsN l) ∨ (ok = false ∧ xs = [] ∧ (castE cost = 0 → denyF (cI cost) cost.length (widN cost) = none)))
  (h' : (ok' = true ∧ castE cost = 0 ∧ ∃ l, denyF (cI cost) cost.length (widN cost) = some l ∧ xs' = intsN l) ∨ (ok' = false ∧ xs' = [] ∧ (castE cost = 0 → denyF (cI cost) cost.length (widN cost) = none))) : ok = ok' ∧ xs = xs' := by
 rcases h with ⟨a, c0, l, hd, e⟩ | ⟨a, e, hn⟩ <;> rcases h' with ⟨a', c0', l', hd', e'⟩ | ⟨a', e', hn'⟩
 ·rw [hd] at hd'
  cases hd'
  exact ⟨a.trans a'.symm, e.trans e'.symm⟩
 ·rw [hn' c0] at hd; cases hd
 ·rw [hn c0'] at hd'; cases hd'
 ·exact ⟨a.trans a'.symm, e.trans e'.symm⟩
theorem sol_cast {n m : Nat} {c : Nat → Nat → Int} {s : SolS} (h : SolOk n m c s) : CastN n m c (fun r => (gi s.to r).toNat) := by
 refine ⟨fun r hr => ?_, fun r hr => ?_, fun r r' hr hr' e => ?_⟩
 ·obtain ⟨j, h1, h2, _⟩ := h.cast r hr
  simp only [h2]; omega
 ·obtain ⟨j, h1, h2, h3, _⟩ := h.cast r hr
  simp only [h2, Int.toNat_natCast]; exact h3
 ·obtain ⟨j, _, h2, _⟩ := h.cast r hr
  obtain ⟨j', _, h2', _⟩ := h.cast r' hr'
  refine h.inj r r' hr hr' ?_
  simp only [h2, h2'] at e
  rw [h2, h2']; omega
theorem prices_form {cost : List (List Int)} {w w' : World} {e : Ending} (h : PricesP cost w e w') : Below w.heap.size w w' ∧ ∃ a n c a' n' c' ok, e = .returned (.tuple #[.slice a n c, .slice a' n' c', .bool ok, .int .i64 (castE cost)]) ∧ n ≤ 1000 ∧ n' ≤ 1000 ∧ (ok = false → n = 0 ∧ n' = 0) ∧
  (ok = true ↔ castE cost = 0 ∧ ∃ t, CastN cost.length (widN cost) (cI cost) t) := by
 rcases h with ⟨a, e1, hb⟩ | ⟨a, res, hs, h⟩
 ·exact ⟨hb, none, 0, 0, none, 0, 0, false, e1, by decide, by decide, fun _ => ⟨rfl, rfl⟩, ⟨fun h => (by cases h), fun h => absurd h.1 a⟩⟩
 ·obtain ⟨r1, r2, _⟩ := right_of a
  cases res with
  | none =>
   obtain ⟨hh, e1, hb⟩ := h
   exact ⟨hb, none, 0, 0, none, 0, 0, false, by rw [a]; exact e1, by decide, by decide, fun _ => ⟨rfl, rfl⟩, ⟨fun h => (by cases h), fun ⟨_, t, ht⟩ => absurd ht (hall_none hh t)⟩⟩
  | some s =>
   obtain ⟨hs2, U, V, e1, _, _, hb⟩ := h
   exact ⟨hb, _, _, _, _, _, _, true, by rw [a]; exact e1, by omega, by omega, fun h => (by cases h), ⟨fun _ => ⟨a, _, sol_cast hs2⟩, fun _ => rfl⟩⟩
set_option maxRecDepth 100000 in
set_option maxHeartbeats 16000000 in
theorem spec6_any (cost : List (List Int)) (ao : Option Addr) (n cc : Nat) (hl : cost.length = n) (h1 : n ≤ cc) (h2 : cc ≤ maxLen) (u v : List Int) (au av : Option Addr) (nu nv cu cv : Nat) (hnu : u.length = nu) (hnv : v.length = nv) (w : World) (hE : Env w) (hz : 2 ≤ w.heap.size)
  (h : IsMat w (.slice ao n cc) cost) (hu : IsRow encI 1 w (.slice au nu cu) u) (hv : IsRow encI 1 w (.slice av nv cv) v) : Calls Tryz.prog 6 #[.slice ao n cc, .slice au nu cu, .slice av nv cv] w (trueP w) := by
 have hsn := sane47_any w hE hz
 have hhm := fun (W : World) (hb : Below w.heap.size w W) => h.below hb (Nat.le_refl _)
 have hhu := fun (W : World) (hb : Below w.heap.size w W) => hu.below hb (Nat.le_refl _)
 have hhv := fun (W : World) (hb : Below w.heap.size w W) => hv.below hb (Nat.le_refl _)
 have HS := Lib.hid hsn; have HH := Lib.hid hhm; have HU := Lib.hid hhu; have HV := Lib.hid hhv; have HL := Lib.hid hl; have HNU := Lib.hid hnu; have HNV := Lib.hid hnv
 clear hsn h hhm hl h1 h2 hE hz hhu hhv hu hv hnu hnv
 go_enter Tryz.func6, Tryz.ntmps6
 go_wp2_with fail
 refine HS.out.mono ?_
 rintro e W1 ⟨rfl, hb1⟩
 have HB1 := Lib.hid hb1
 have HF := Lib.hid (few47_any ao n cc cost HL.out W1 (HH.out W1 hb1))
 clear hb1 HS
 go_wp2_with fail
 refine HF.out.mono ?_
 rintro e W2 ⟨rfl, rfl⟩
 clear HF
 cases hfw : few20 cost with
 | false =>
  clear hfw
  go_wp2_with fail
  go_ret
  exact ⟨rfl, HB1.out⟩
 | true =>
 clear hfw
 by_cases hu20 : (20 : Int) < (nu : Int)
 ·go_wp2_with fail
  go_ret
  exact ⟨rfl, HB1.out⟩
 by_cases hv20 : (20 : Int) < (nv : Int)
 ·go_wp2_with fail
  go_ret
  exact ⟨rfl, HB1.out⟩
 have HPR := Lib.hid (proves_any u v nu nv HNU.out HNV.out au av cu cv W2 (HH.out W2 HB1.out) (HU.out W2 HB1.out) (HV.out W2 HB1.out))
 go_wp2_with fail
 clear hu20 hv20
 refine HPR.out.mono ?_
 rintro e W3 ⟨rfl, hb3⟩
 have HB3 := Lib.hid (HB1.out.trans (hb3.mono HB1.out.size))
 have HRP := Lib.hid (rproves_any u v nu nv HNU.out HNV.out au av ao cu cv n cc HL.out W3 (HH.out W3 HB3.out) (HU.out W3 HB3.out) (HV.out W3 HB3.out))
 clear hb3 HPR HB1
 generalize hpn : provN cost u v = pn at *
 generalize hpb : (decide (castE cost = 0) && provB cost u v) = pb at *
 unfold ProvesP at HRP
 rw [hpn, hpb] at HRP
 clear hpn hpb
 obtain ⟨ce, hce⟩ : ∃ x, castE cost = x := ⟨_, rfl⟩
 rw [hce] at HRP ⊢
 go_wp2_with fail
 refine HRP.out.mono ?_
 rintro e W4 ⟨rfl, hb4⟩
 have HB4 := Lib.hid (HB3.out.trans (hb4.mono HB3.out.size))
 have HD := Lib.hid (deny_any W4 (HH.out W4 HB4.out))
 clear hb4 HRP HB3
 go_wp2_with fail
 refine HD.out.mono ?_
 intro e W5 hd
 have HB5 := Lib.hid (HB4.out.trans (hd.1.mono HB4.out.size))
 obtain ⟨a1, n1, c1, ok1, xs1, rfl, hx1, hr1, hf1⟩ := deny_form hd
 rw [hce]
 have HX1 := Lib.hid hx1; have HR1 := Lib.hid hr1; have HF1 := Lib.hid hf1
 have HRD := Lib.hid (rdeny_any cost ao n cc HL.out W5 (HH.out W5 HB5.out))
 clear hd HD HB4 hx1 hr1 hf1
 go_wp2_with fail
 refine HRD.out.mono ?_
 intro e W6 hd
 have HB6 := Lib.hid (HB5.out.trans (hd.1.mono HB5.out.size))
 have HR2 := Lib.hid (HR1.out.below hd.1 (Nat.le_refl _))
 obtain ⟨a2, n2, c2, ok2, xs2, rfl, hx2, hr2, hf2⟩ := deny_form hd
 rw [hce]
 obtain ⟨rfl, rfl⟩ := deny_same HF1.out hf2
 have hnn : n2 = n1 := by rw [← hx2, HX1.out]
 subst hnn
 have HR3 := Lib.hid hr2
 have HP := Lib.hid (prices_any W6 (HH.out W6 HB6.out))
 clear hd HRD HB5 hx2 hr2 hf2 HF1 HR1
 go_wp2_with fail
 refine HP.out.mono ?_
 intro e W7 hp
 obtain ⟨hb7, b1, m1, d1, b2, m2, d2, ok3, rfl, hm1, hm2, hz3, hi3⟩ := prices_form hp
 rw [hce]
 have HB7 := Lib.hid (HB6.out.trans (hb7.mono HB6.out.size))
 have HR4 := Lib.hid (HR2.out.below hb7 (Nat.le_refl _)); have HR5 := Lib.hid (HR3.out.below hb7 (Nat.le_refl _))
 have HI3 := Lib.hid hi3; have HZ3 := Lib.hid hz3
 have HRP := Lib.hid (rprices_any cost ao n cc HL.out W7 (HH.out W7 HB7.out))
 clear hp HP HB6 hb7 HR2 HR3 hi3 hz3
 go_wp2_with fail
 refine HRP.out.mono ?_
 intro e W8 hq
 obtain ⟨hb8, y1, y2, ok4, rfl, hi4⟩ := hq
 rw [hce]
 have HB8 := Lib.hid (HB7.out.trans (hb8.mono HB7.out.size))
 have HR6 := Lib.hid (HR4.out.below hb8 (Nat.le_refl _)); have HR7 := Lib.hid (HR5.out.below hb8 (Nat.le_refl _))
 have hok : ok3 = ok4 := by
  rw [Bool.eq_iff_iff, HI3.out, hi4]
 subst hok
 clear HRP HB7 hb8 HR4 HR5 hi4 HI3 hce
 have HSM := Lib.hid (fun (q : Nat) => sameI_any a1 a2 n2 n2 c1 c2 xs1 xs1 HX1.out HX1.out (W8.drewN q) (HR6.out.drewN q) (HR7.out.drewN q))
 go_wp2_with fail
 refine (HSM.out 0).mono ?_
 rintro e W9 ⟨rfl, k9, rfl⟩
 simp only [decide_true]
 have HB9 := Lib.hid (bel_drewN HB8.out k9)
 clear HSM
 cases ok3 with
 | true =>
  go_wp2_with fail
  go_ret
  exact ⟨rfl, HB9.out⟩
 | false =>
  obtain ⟨rfl, rfl⟩ := HZ3.out rfl
  go_wp2_with fail
  go_ret
  exact ⟨rfl, HB9.out⟩
end Go.Proofs.YtggcbblikgankaaGreatDoor
end
