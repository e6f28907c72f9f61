/- The walk of the statement: part 16. -/
import Derived.Test.YtpnbpepkoekkoaaYRSCp15
import Derived.BigQuiet
import Derived.BigCall
import Derived.BigGuard
set_option linter.unusedVariables false
set_option linter.unusedSimpArgs false
section
namespace Go.Proofs.Ytpnbpepkoekkoaa
open Go Go.RowKit
theorem Its.kinds_parts {k n : Int} {un : Nm} {its : Its} {ms : List Mov} {r : Its} (h : (Its.cons k n un its ms r).kinds = true) : (1 ≤ k ∧ k ≤ 4) ∧ its.kinds = true ∧ r.kinds = true := by
  simp only [Its.kinds, Bool.and_eq_true, decide_eq_true_eq] at h
  exact ⟨h.1, h.2.2.1, h.2.2.2⟩
theorem num_other {k n : Int} (h : numB k n = true) (hk : k ≠ 2) : n = 0 := by
  unfold numB at h
  rw [if_neg hk] at h
  exact of_decide_eq_true h
set_option maxRecDepth 100000 in
set_option maxHeartbeats 16000000 in
theorem sum31_step (s : Ls) (f : Nm → Int) (len : Int → Int) (w0 : World) (T : Lt)
    (hI : ∀ T' : Lt, T'.size < T.size → ∀ (ia : Option Addr) (ic : Nat) (W : World), T'.strip.exB = true → T'.strip.kinds = true → (∀ u ∈ T'.strip.uses f, 0 ≤ len u ∧ len u ≤ 4097) → LnC s len w0 (T'.strip.uses f) → (T'.len = 0 ∨ ia = some ⟨blk ia, off ia, none⟩) → T'.len ≤ maxLen → T'.At W (blk ia) (off ia) → NumAt f W (T'.refsL (blk ia) (off ia)) → Below w0.heap.size w0 W → Calls Try.prog 31 #[s.val, .slice ia T'.len ic] W (SumR T'.strip f len W))
    (ia : Option Addr) (ic : Nat) (W : World) (hx : T.strip.exB = true) (hk : T.strip.kinds = true) (hu : ∀ u ∈ T.strip.uses f, 0 ≤ len u ∧ len u ≤ 4097) (hP : LnC s len w0 (T.strip.uses f)) (hf : T.len = 0 ∨ ia = some ⟨blk ia, off ia, none⟩) (hl : T.len ≤ maxLen) (hT : T.At W (blk ia) (off ia)) (hU : NumAt f W (T.refsL (blk ia) (off ia))) (hb : Below w0.heap.size w0 W) : Calls Try.prog 31 #[s.val, .slice ia T.len ic] W (SumR T.strip f len W) := by
  obtain ⟨W0, hW0, gB, b0, s0⟩ := mk_cells W s.cells 30
  have hv : s.val = .agg s.cells := rfl
  have HI := Lib.hid hI; have HT := Lib.hid (hT.below b0); have HF := Lib.hid hf; have HU := Lib.hid (hU.below b0); have HX := Lib.hid hx; have HK := Lib.hid hk; have HUB := Lib.hid hu; have HP := Lib.hid hP; have HB0 := Lib.hid hb; have HBX := Lib.hid gB; have HBW := Lib.hid b0
  rw [hv]
  unfold Ls.cells at hW0 ⊢
  clear hI hT hf hU hx hk hu hP hb gB b0 s0 hv
  generalize hm : T.len = q at *
  have HM := Lib.hid hm
  clear hm
  unfold maxLen at hl
  go_enter Try.func31, Try.ntmps31
  go_wp2_with fail
  go_loopw [4, 5, 14] (fun nv ov iv wr => ∃ (j : Nat) (R : Lt) (a : Int) (ok : Bool), iv = .int .i64 j ∧ nv = .int .i64 a ∧ ov = .bool ok ∧ j + R.len = q ∧ Hid (R.size ≤ T.size) ∧ Hid (SumAt T.strip R.strip f len a ok) ∧ Hid (R.strip.exB = true) ∧ Hid (R.strip.kinds = true) ∧ Hid (∀ u ∈ R.strip.uses f, u ∈ T.strip.uses f) ∧ Hid (R.At wr (blk ia) (off ia + j * 6)) ∧ Hid (NumAt f wr (R.refsL (blk ia) (off ia + j * 6))) ∧ Hid (Below W.heap.size W wr) ∧ Hid (wr.heap[W.heap.size]? = some (.cells s.cells 30 (0, 0)))) (fun _ _ iv _ => q + 1 - (intOf iv).toNat)
  case atStart => exact ⟨0, T, 0, true, rfl, rfl, rfl, by rw [HM.out]; omega, Lib.hid (Nat.le_refl _), Lib.hid ⟨fun _ => ⟨by omega, by omega, rfl⟩, fun h => (by cases h)⟩, HX, HK, Lib.hid (fun _ h => h), by simpa [Hid] using HT.out, by simpa [Hid] using HU.out, HBW, HBX⟩
  case round =>
    obtain ⟨j, R, a, ok, rfl, rfl, rfl, hin, hsz, hsum, hex, hkd, hus, hR, hN, hB, hBx⟩ := hrel
    cases R with
    | nil =>
      simp only [Lt.len, Nat.add_zero] at hin
      subst hin
      go_wp2_with fail
      go_ret2
      refine ⟨a, ok, rfl, ⟨fun h => ?_, fun h => hsum.out.2 h⟩, hB.out⟩
      exact hsum.out.1 h
    | cons kk nn un ja jc its ma mc ms r =>
      simp only [Lt.len] at hin
      have hi : (j : Int) < (q : Int) := by omega
      have e := HF.out.resolve_left (by omega)
      obtain ⟨⟨u, g3, hu⟩, _, k2, k3⟩ := hN.out.mov
      obtain ⟨⟨g0, g1, g2, g4, g5⟩, _, ⟨i1, i2, i3⟩, hr⟩ := hR.out
      obtain ⟨hxn, hxi, hxr⟩ := Its.exB_parts hex.out
      obtain ⟨⟨hk1, hk4⟩, hki, hkr⟩ := Its.kinds_parts hkd.out
      have hlt : its.size < T.size := by have := hsz.out; simp only [Lt.size] at this; omega
      have hszr : r.size ≤ T.size := by have := hsz.out; simp only [Lt.size] at this; omega
      obtain ⟨W2, hW2, gW2, bW2, sW2⟩ := mk_cells wr #[.int .i64 kk, .int .i64 nn, sv un, .int .i64 u, .slice ja its.len jc, .slice ma ms.length mc] 78
      have hui : ∀ u ∈ its.strip.uses f, u ∈ T.strip.uses f := fun v hv => hus.out v (by simp [Lt.strip, Its.uses, hv])
      have hur : ∀ u ∈ r.strip.uses f, u ∈ T.strip.uses f := fun v hv => hus.out v (by simp [Lt.strip, Its.uses, hv])
      have hb2 : Below w0.heap.size w0 W2 := thenB (thenB HB0.out hB.out) bW2
      have C := HI.out its hlt ja jc W2 hxi hki (fun u h => HUB.out u (hui u h)) (fun u h => HP.out u (hui u h)) i1 i2 (i3.below bW2) (k2.below bW2) hb2
      have hbi := Its.sumF_bound f len its.strip 0 hxi (fun u h => HUB.out u (hui u h)) (by omega) (by omega)
      have hst := fun (m a2 : Int) (fine : Bool) => SumAt.step (m := m) (a2 := a2) (fine := fine) hsum.out hxr (fun u h => HUB.out u (hur u h))
      have HST := Lib.hid hst
      have HC := Lib.hid C
      have HR : Hid (r.At wr (blk ia) (off ia + (j + 1) * 6) ∧ NumAt f wr (r.refsL (blk ia) (off ia + (j + 1) * 6))) := Lib.hid (by
        rw [show off ia + (j + 1) * 6 = off ia + j * 6 + 6 by omega]
        exact ⟨hr, k3⟩)
      have HB2 := Lib.hid bW2; have HSZ := Lib.hid hszr; have HXR := Lib.hid hxr; have HKR := Lib.hid hkr; have HUR := Lib.hid hur; have HBB := Lib.hid hb2; have HBI := Lib.hid hbi
      have HU4 : Hid (kk = 4 → u = f un ∧ u ∈ T.strip.uses f) := Lib.hid (fun h4 => ⟨hu h4, by rw [hu h4]; exact hus.out _ (by simp [Lt.strip, Its.uses, h4])⟩)
      have HN2 : Hid (kk = 2 → 1 ≤ nn ∧ nn ≤ 64) := Lib.hid (fun h2 => by subst h2; exact num_two hxn)
      have HN0 : Hid (kk ≠ 2 → nn = 0) := Lib.hid (fun h2 => num_other hxn h2)
      have HX2 := Lib.hid (keepO bW2 hBx.out)
      have y0 := cell_at gW2 0 rfl; have y1 := cell_at gW2 1 rfl; have y3 := cell_at gW2 3 rfl; have y4 := cell_at gW2 4 rfl
      clear C gW2 bW2 sW2 i1 i2 i3 hr hlt k2 k3 hR hN hus hsz hszr hxr hxi hxn hex hsum hst hur hui hu hkd hki hkr hb2 hbi
      generalize hbb : blk ia = bb at *
      generalize hoo : off ia = oo at *
      subst e
      clear hbb hoo HF
      have fin : ∀ (m a2 : Int) (fine : Bool) (V : World), Below W2.heap.size W2 V → Hid (a2 ≤ 1048576 → SumAt T.strip r.strip f len a2 (ok && fine)) → a2 ≤ 1048576 → ∃ (j' : Nat) (R : Lt) (a : Int) (ok' : Bool), Value.int .i64 ((j : Int) + 1) = .int .i64 j' ∧ Value.int .i64 a2 = .int .i64 a ∧ Value.bool (ok && fine) = .bool ok' ∧ j' + R.len = q ∧ Hid (R.size ≤ T.size) ∧ Hid (SumAt T.strip R.strip f len a ok') ∧ Hid (R.strip.exB = true) ∧ Hid (R.strip.kinds = true) ∧ Hid (∀ u ∈ R.strip.uses f, u ∈ T.strip.uses f) ∧ Hid (R.At V bb (oo + j' * 6)) ∧ Hid (NumAt f V (R.refsL bb (oo + j' * 6))) ∧ Hid (Below W.heap.size W V) ∧ Hid (V.heap[W.heap.size]? = some (.cells s.cells 30 (0, 0))) := fun m a2 fine V hv hs ha =>
        have hbv : Below wr.heap.size wr V := thenB HB2.out hv
        ⟨j + 1, r, a2, ok && fine, rfl, rfl, rfl, by omega, HSZ, Lib.hid (hs.out ha), HXR, HKR, HUR, Lib.hid (HR.out.1.below hbv), Lib.hid (HR.out.2.below hbv), Lib.hid (thenB hB.out hbv), Lib.hid (keepO hbv hBx.out)⟩
      have FIN := Lib.hid fin
      clear fin HR
      by_cases h1 : kk = 1
      · subst h1
        cases ok
        all_goals
          go_wp2_with fail
          all_goals first
            | (go_roundw
               case rel => exact FIN.out 1 _ true _ (Below.refl _ _) (Lib.hid (HST.out 1 _ true (fun _ => ⟨by omega, by omega, by unfold itemV; rw [if_pos rfl], by unfold itemV; rw [if_pos rfl]; omega⟩) (fun h => by cases h) rfl).1) (by omega)
               case measure => simp [intOf]; omega)
            | (have hq := (HST.out 1 _ true (fun _ => ⟨by omega, by omega, by unfold itemV; rw [if_pos rfl], by unfold itemV; rw [if_pos rfl]; omega⟩) (fun h => by cases h) rfl).2 (by omega)
               go_ret2
               exact ⟨_, false, rfl, ⟨fun h => (by cases h), fun _ => hq⟩, thenB hB.out HB2.out⟩)
      · by_cases h2 : kk = 2
        · subst h2
          obtain ⟨n1, n64⟩ := HN2.out rfl
          have st0 : True := trivial
          cases ok
          all_goals
            go_wp2_with (first | (have q := st0; clear q st0; refine wpList_load_row rfl 30 _ rfl W.heap.size rfl 30 s.cells (0, 0) _ HX2.out Try.underlying30 rfl (by kernel_rfl) ?_; simp only [Act.put, List.setIfInBounds_toArray, List.set_cons_zero, List.set_cons_succ]) | (go_at_call 31; refine HC.out.mono ?_; rintro e V ⟨m0, ok0, rfl, hs0, hv⟩; have HV := Lib.hid hv; have HS0 := Lib.hid hs0; have z1 := keep_cell hv y1; clear hv hs0))
            all_goals first
              | (go_roundw
                 case rel => exact FIN.out (wrap64 (m0 * max 1 nn)) _ ok0 _ HV.out (Lib.hid (HST.out (wrap64 (m0 * max 1 nn)) _ ok0 (rep_step n1 n64 HS0.out).1 (rep_step n1 n64 HS0.out).2 rfl).1) (by omega)
                 case measure => simp [intOf]; omega)
              | (have hq := (HST.out (wrap64 (m0 * max 1 nn)) _ ok0 (rep_step n1 n64 HS0.out).1 (rep_step n1 n64 HS0.out).2 rfl).2 (by omega)
                 go_ret2
                 exact ⟨_, false, rfl, ⟨fun h => (by cases h), fun _ => hq⟩, thenB hB.out (thenB HB2.out HV.out)⟩)
        · by_cases h3 : kk = 3
          · subst h3
            obtain rfl : nn = 0 := HN0.out (by omega)
            have st0 : True := trivial
            cases ok
            all_goals
              go_wp2_with (first | (have q := st0; clear q st0; refine wpList_load_row rfl 30 _ rfl W.heap.size rfl 30 s.cells (0, 0) _ HX2.out Try.underlying30 rfl (by kernel_rfl) ?_; simp only [Act.put, List.setIfInBounds_toArray, List.set_cons_zero, List.set_cons_succ]) | (go_at_call 31; refine HC.out.mono ?_; rintro e V ⟨m0, ok0, rfl, hs0, hv⟩; have HV := Lib.hid hv; have HS0 := Lib.hid hs0; have z1 := keep_cell hv y1; clear hv hs0))
              all_goals first
                | (go_roundw
                   case rel => exact FIN.out (wrap64 (m0 * max 1 0)) _ ok0 _ HV.out (Lib.hid (HST.out (wrap64 (m0 * max 1 0)) _ ok0 (mir_step HS0.out).1 (mir_step HS0.out).2 rfl).1) (by omega)
                   case measure => simp [intOf]; omega)
                | (have hq := (HST.out (wrap64 (m0 * max 1 0)) _ ok0 (mir_step HS0.out).1 (mir_step HS0.out).2 rfl).2 (by omega)
                   go_ret2
                   exact ⟨_, false, rfl, ⟨fun h => (by cases h), fun _ => hq⟩, thenB hB.out (thenB HB2.out HV.out)⟩)
          · obtain rfl : kk = 4 := by omega
            obtain ⟨hu1, hu2⟩ := HU4.out rfl
            obtain ⟨lb0, lb1⟩ := HUB.out u hu2
            have CL := HP.out u hu2 W2 HBB.out
            obtain ⟨lu, hlu⟩ : ∃ lu, len u = lu := ⟨_, rfl⟩
            have HLU : Hid (len (f un) = lu) := Lib.hid (by rw [← hu1]; exact hlu)
            rw [hlu] at lb0 lb1 CL
            have st0 : True := trivial
            by_cases h4 : lu ≤ 4096
            · rw [if_pos h4, if_pos h4] at CL
              have HCL := Lib.hid CL
              clear CL hu1 hu2 hlu
              cases ok
              all_goals
                go_wp2_with (first | (have q := st0; clear q st0; refine wpList_load_row rfl 30 _ rfl W.heap.size rfl 30 s.cells (0, 0) _ HX2.out Try.underlying30 rfl (by kernel_rfl) ?_; simp only [Act.put, List.setIfInBounds_toArray, List.set_cons_zero, List.set_cons_succ]) | (go_at_call 30; refine HCL.out.mono ?_; rintro e V ⟨rfl, hv⟩; have HV := Lib.hid hv; clear hv))
                all_goals first
                  | (go_roundw
                     case rel => exact FIN.out lu _ true _ HV.out (Lib.hid (HST.out lu _ true (fun _ => (use_step HLU.out lb0).1 h4) (fun h => by cases h) rfl).1) (by omega)
                     case measure => simp [intOf]; omega)
                  | (have hq := (HST.out lu _ true (fun _ => (use_step HLU.out lb0).1 h4) (fun h => by cases h) rfl).2 (by omega)
                     go_ret2
                     exact ⟨_, false, rfl, ⟨fun h => (by cases h), fun _ => hq⟩, thenB hB.out (thenB HB2.out HV.out)⟩)
            · rw [if_neg h4, if_neg h4] at CL
              have HCL := Lib.hid CL
              clear CL hu1 hu2 hlu
              cases ok
              all_goals
                go_wp2_with (first | (have q := st0; clear q st0; refine wpList_load_row rfl 30 _ rfl W.heap.size rfl 30 s.cells (0, 0) _ HX2.out Try.underlying30 rfl (by kernel_rfl) ?_; simp only [Act.put, List.setIfInBounds_toArray, List.set_cons_zero, List.set_cons_succ]) | (go_at_call 30; refine HCL.out.mono ?_; rintro e V ⟨rfl, hv⟩; have HV := Lib.hid hv; clear hv))
                all_goals first
                  | (go_roundw
                     case rel => exact FIN.out 0 (wrap64 a) false _ HV.out (Lib.hid (HST.out 0 (wrap64 a) false (fun h => by cases h) (fun _ => (use_step HLU.out lb0).2 h4) (by rw [Int.add_zero])).1) (by omega)
                     case measure => simp [intOf]; omega)
                  | (have hq := (HST.out 0 (wrap64 a) false (fun h => by cases h) (fun _ => (use_step HLU.out lb0).2 h4) (by rw [Int.add_zero])).2 (by omega)
                     go_ret2
                     exact ⟨_, false, rfl, ⟨fun h => (by cases h), fun _ => hq⟩, thenB hB.out (thenB HB2.out HV.out)⟩)
theorem sum31_any (s : Ls) (f : Nm → Int) (len : Int → Int) (w0 : World) : ∀ (z : Nat) (T : Lt), T.size ≤ z → ∀ (ia : Option Addr) (ic : Nat) (W : World), T.strip.exB = true → T.strip.kinds = true → (∀ u ∈ T.strip.uses f, 0 ≤ len u ∧ len u ≤ 4097) → LnC s len w0 (T.strip.uses f) → (T.len = 0 ∨ ia = some ⟨blk ia, off ia, none⟩) → T.len ≤ maxLen → T.At W (blk ia) (off ia) → NumAt f W (T.refsL (blk ia) (off ia)) → Below w0.heap.size w0 W → Calls Try.prog 31 #[s.val, .slice ia T.len ic] W (SumR T.strip f len W) := by
  intro z
  induction z with
  | zero => intro T hs; exact sum31_step s f len w0 T (fun T' hlt => absurd hlt (by omega))
  | succ z ih => intro T hs; exact sum31_step s f len w0 T (fun T' hlt => ih T' (by omega))
end Go.Proofs.Ytpnbpepkoekkoaa
end
section
namespace Go.Proofs.Ytpnbpepkoekkoaa
open Go Go.RowKit Go.Deep
theorem LgtP.of {s : Ls} {ns : List Int} (h : soundE s ns = 0) {j : Nat} (hj : j < s.phrases.length) {w : World} {e : Ending} {w' : World} (h2 : LgtP s ns j w e w') : e = .returned (.tuple #[.int .i64 (if lenM s.itsL (pIdx s.strip) j ≤ 4096 then lenM s.itsL (pIdx s.strip) j else 0), .int .i64 (if lenM s.itsL (pIdx s.strip) j ≤ 4096 then 0 else 2)]) ∧ Below w.heap.size w w' := by
 obtain ⟨h3, h4⟩ := h2
 refine ⟨?_, h4⟩
 rw [h3]
 unfold lngE
 rw [if_pos h, if_pos (inB_iff.2 ⟨by omega, by omega⟩)]
 split <;> rfl
theorem ln_all {s : Ls} {ns : List Int} {w0 : World} (h : LawIn s ns w0) (hs : soundE s ns = 0) : LnC s (lenM s.itsL (pIdx s.strip)) w0 ((List.range s.phrases.length).map fun j : Nat => (j : Int)) := fun u hu V hV => by
 obtain ⟨j, hj, rfl⟩ := List.mem_map.1 hu
 exact (length_any s ns j V (h.at_.below hV) (h.ns.below hV) (h.env _ hV)).mono fun e V' h2 => LgtP.of hs (List.mem_range.1 hj) h2
theorem kinds_in {s : Ls} {ns : List Int} (h : chkE s.strip ns = 0) {j : Nat} {p : Ph} (hp : s.phrases[j]? = some p) : p.its.strip.kinds = true := by
 obtain ⟨_, _, _, hk, _⟩ := chk_zero h
 unfold Sc.kinds at hk
 exact List.all_eq_true.1 hk p.strip (List.mem_map.2 ⟨p, List.mem_of_getElem? hp, rfl⟩)
set_option maxRecDepth 100000 in
set_option maxHeartbeats 16000000 in
theorem rsum_e3 (s : Ls) (ns : List Int) (w W : World) (h : LawIn s ns w) (hW : LawW s w W) (h0 : soundE s ns = 0) (hfew : s.phrases.length ≤ 12) (e0 e2 e3 e4 e5 e6 e7 e8 e9 e10 e11 e12 e13 e14 e15 e16 e17 e18 e19 e20 e21 e22 e23 e24 e25 e26 e27 e28 e29 e30 e31 e32 e33 e34 e35 e36 e37 e38 e39 e40 e41 e42 e43 e44 e45 e46 e47 e48 e49 e50 e51 e52 e53 e54 e55 e56 e57 e58 e59 e60 e61 e62 e63 e64 e65 e66 e67 e68 e69 e70 : Value) :
  (lastPart 3 code9).wp Try.prog (bodyPost Try.prog Try.f9 (fun e w' => e = .returned (.bool true) ∧ Below w.heap.size w w')) { tmps := #[e0, .pointer (some ⟨w.heap.size, 0, none⟩), e2, e3, e4, e5, e6, e7, e8, e9, e10, e11, e12, e13, e14, e15, e16, e17, e18, e19, e20, e21, e22, e23, e24, e25, e26, e27, e28, e29, e30, e31, e32, e33, e34, e35, e36, e37, e38, e39, e40, e41, e42, e43, e44, e45, e46, e47, e48, e49, e50, e51, e52, e53, e54, e55, e56, e57, e58, e59, e60, e61, e62, e63, e64, e65, e66, e67, e68, e69, e70], defers := [] } W := by
 have y10 : W.cell? ⟨w.heap.size, 10, none⟩ = some (.slice s.fa s.phrases.length s.fc) := cell_at hW.box 10 rfl
 have HOK := Lib.hid (sound_len h0)
 have HCH := Lib.hid (sound_zero h0).1
 have HH := Lib.hid h; have HW := Lib.hid hW; have H0 := Lib.hid h0
 generalize hn : s.phrases.length = n at *
 have HN := Lib.hid hn
 clear hn h hW h0
 have HLN := Lib.hid (ln_all HH.out H0.out)
 generalize hlen : lenM s.itsL (pIdx s.strip) = len at *
 generalize hff : pIdx s.strip = f at *
 have HNU := Lib.hid (fun V (hV : Below w.heap.size w V) => nums_ph HCH.out (HH.out.ns.below hV))
 rw [hff] at HNU
 clear hff hlen
 rw [r9step3]
 refine wp_seq_thenQ (fun K hK => ?_)
 have HK := Lib.hid hK
 clear hK
 conv => arg 2; whnf
 go_wp2_with fail
 go_loopw [22] (fun iv wr => ∃ i : Nat, iv = .int .i64 i ∧ i ≤ n ∧ Hid (LawW s w wr)) (fun iv _ => n + 1 - (intOf iv).toNat)
 case atStart => exact ⟨0, rfl, Nat.zero_le _, HW⟩
 case round =>
  obtain ⟨i, rfl, hin, hB⟩ := hrel
  by_cases hlt : i < n
  ·have hi : (i : Int) < (n : Int) := by omega
   obtain ⟨p, hp⟩ : ∃ p, s.phrases[i]? = some p := ⟨_, List.getElem?_eq_getElem (by rw [HN.out]; exact hlt)⟩
   have hAr := HH.out.at_.below hB.out.below
   obtain ⟨c0, c1⟩ := phAt_get hAr.phrases hp
   have hfa := hAr.pform.resolve_left (fun e => by rw [e] at hp; cases hp)
   obtain ⟨W2, hW2, gW2, bW2, sW2⟩ := mk_cells wr #[sv p.name, .slice p.ia p.its.len p.ic] 57
   have z1 := cell_at gW2 1 rfl
   unfold Ph.val at c1
   have hin2 : ∀ j : Nat, j < n → (j : Int) ∈ (List.range s.phrases.length).map fun j : Nat => (j : Int) := fun j hj => List.mem_map.2 ⟨j, List.mem_range.2 (by rw [HN.out]; exact hj), rfl⟩
   have hL2 := hB.out.next bW2
   have C1 := HLN.out i (hin2 i hlt) W2 hL2.below
   have hus : ∀ u ∈ p.its.strip.uses f, ∃ j : Nat, u = j ∧ j < n := fun u hu => by
    obtain ⟨j, h1, h2, _⟩ := HOK.out.down i p hp u hu
    exact ⟨j, h1, by rw [← HN.out]; exact h2⟩
   have C2 := fun (V : World) (hV : Below w.heap.size w V) => by
    have hAV := HH.out.at_.below hV
    obtain ⟨i1, i2, i3⟩ := phAt_its hAV.phrases hp
    exact sum31_any s f len w _ p.its (Nat.le_refl _) p.ia p.ic V (HOK.out.ex i p hp) (kinds_in HCH.out hp) (fun u hu => by
     obtain ⟨j, rfl, hj⟩ := hus u hu
     exact HOK.out.bound j (by rw [HN.out]; exact hj)) (fun u hu => by
     obtain ⟨j, rfl, hj⟩ := hus u hu
     exact HLN.out _ (hin2 j hj)) i1 i2 i3 (fun x hx => HNU.out V hV x (phRefs_in hp hx)) hV
   have hfix := HOK.out.fix i p hp
   obtain ⟨lb0, lb1⟩ := HOK.out.bound i (by rw [HN.out]; exact hlt)
   unfold Ls.val at C1 C2
   obtain ⟨l, hl⟩ : ∃ l, len i = l := ⟨_, rfl⟩
   rw [hl] at hfix lb0 lb1 C1
   have HC1 := Lib.hid C1; have HC2 := Lib.hid C2; have HFX := Lib.hid hfix; have HL2 := Lib.hid hL2; have HX := Lib.hid hL2.box
   generalize hga : s.fa = fa at *
   have HGA := Lib.hid hga
   clear hga
   generalize hbb : blk fa = fb at *
   generalize hoo : off fa = fo at *
   subst hfa
   clear hbb hoo hp hAr C1 C2 hin2 hL2 gW2 bW2 sW2 hus hfix hl
   have st0 : True := trivial
   by_cases h4 : l ≤ 4096
   ·rw [if_pos h4, if_pos h4] at HC1
    go_wp2_with (first | (have q := st0; clear q st0; (refine wpList_load_row rfl 30 _ rfl w.heap.size rfl 30 s.cells (0, 0) _ HX.out Try.underlying30 rfl (by kernel_rfl) ?_; simp only [Act.put, List.setIfInBounds_toArray, List.set_cons_zero, List.set_cons_succ])) | (go_at_call 30; refine HC1.out.mono ?_; rintro e V ⟨rfl, hv⟩; have HV := Lib.hid (HL2.out.next hv); have HXV := Lib.hid (HL2.out.next hv).box; have z2 := keep_cell hv z1; have st1 : True := trivial; clear hv) | (have q := st1; clear q st1; (refine wpList_load_row rfl 30 _ rfl w.heap.size rfl 30 s.cells (0, 0) _ HXV.out Try.underlying30 rfl (by kernel_rfl) ?_; simp only [Act.put, List.setIfInBounds_toArray, List.set_cons_zero, List.set_cons_succ])) | (go_at_call 31; refine (HC2.out _ HV.out.below).mono ?_; rintro e V2 ⟨m, ok, rfl, hsm, hv⟩; have HV2 := Lib.hid (HV.out.next hv); obtain ⟨rfl, rfl⟩ : ok = true ∧ m = l := (sum_right hsm HFX.out h4); clear hv hsm))
    go_roundw
    case rel => exact ⟨i + 1, by go_num, by omega, HV2⟩
    case measure => simp [intOf]; omega
   ·rw [if_neg h4, if_neg h4] at HC1
    go_wp2_with (first | (have q := st0; clear q st0; (refine wpList_load_row rfl 30 _ rfl w.heap.size rfl 30 s.cells (0, 0) _ HX.out Try.underlying30 rfl (by kernel_rfl) ?_; simp only [Act.put, List.setIfInBounds_toArray, List.set_cons_zero, List.set_cons_succ])) | (go_at_call 30; refine HC1.out.mono ?_; rintro e V ⟨rfl, hv⟩; have HV := Lib.hid (HL2.out.next hv); have HXV := Lib.hid (HL2.out.next hv).box; have z2 := keep_cell hv z1; have st1 : True := trivial; clear hv) | (have q := st1; clear q st1; (refine wpList_load_row rfl 30 _ rfl w.heap.size rfl 30 s.cells (0, 0) _ HXV.out Try.underlying30 rfl (by kernel_rfl) ?_; simp only [Act.put, List.setIfInBounds_toArray, List.set_cons_zero, List.set_cons_succ])))
    refine (HC2.out _ HV.out.below).mono ?_
    rintro e V2 ⟨m, ok, rfl, hsm, hv⟩
    have HV2 := Lib.hid (HV.out.next hv)
    have hmk := sum_wrong hsm HFX.out (by omega) lb1
    clear hv hsm
    rcases hmk with rfl | ⟨rfl, hm4⟩
    all_goals
     go_wp2_with fail
     go_roundw
     case rel => exact ⟨i + 1, by go_num, by omega, HV2⟩
     case measure => simp [intOf]; omega
  ·have : i = n := by omega
   subst this
   have hz : ¬ (i : Int) < (i : Int) := by omega
   go_wp2_with fail
   refine HK.out _ _ ?_
   conv => arg 2; whnf
   go_wp2_with fail
   go_ret
   exact ⟨rfl, hB.out.below⟩
theorem rsum_any (s : Ls) (ns : List Int) (w : World) (h : LawIn s ns w) : Calls Try.prog 9 #[s.val] w (fun e w' => e = .returned (.bool true) ∧ Below w.heap.size w w') :=
 r9_head s ns w h fun V e0 e2 e3 e4 e5 e6 e7 e8 e9 e10 e11 e12 e13 e14 e15 e16 e17 e18 e19 e20 e21 e22 e23 e24 e25 e26 e27 e28 e29 e30 e31 e32 e33 e34 e35 e36 e37 e38 e39 e40 e41 e42 e43 e44 e45 e46 e47 e48 e49 e50 e51 e52 e53 e54 e55 e56 e57 e58 e59 e60 e61 e62 e63 e64 e65 e66 e67 e68 e69 e70 hW h0 hf => rsum_e3 s ns w V h hW h0 hf.1 e0 e2 e3 e4 e5 e6 e7 e8 e9 e10 e11 e12 e13 e14 e15 e16 e17 e18 e19 e20 e21 e22 e23 e24 e25 e26 e27 e28 e29 e30 e31 e32 e33 e34 e35 e36 e37 e38 e39 e40 e41 e42 e43 e44 e45 e46 e47 e48 e49 e50 e51 e52 e53 e54 e55 e56 e57 e58 e59 e60 e61 e62 e63 e64 e65 e66 e67 e68 e69 e70
end Go.Proofs.Ytpnbpepkoekkoaa
end
