/- Contracts and plain laws on the way to the statement: part 12. -/
import Derived.Test.YtpnbpepkoekkoaaZ11
set_option linter.unusedVariables false
set_option linter.unusedSimpArgs false
section
namespace Go.Proofs.Ytpnbpepkoekkoaa
open Go Go.RowKit
noncomputable def code48 : Code := (Try.f48.body).getD .skip
noncomputable def part48n2 : Code := lastPart 2 code48
set_option maxRecDepth 100000 in
set_option maxHeartbeats 8000000 in
theorem cl_loop (T : Lt) (ns : List Int) (w : World) (n g c : Nat) (hn : T.len = n) (hmax : n ≤ 100000)
  (hI : ∀ T' : Lt, T'.size < T.size → ∀ (ia : Option Addr) (ic : Nat) (ns : List Int) (W : World), T'.len ≤ 100000 → (T'.len = 0 ∨ ia = some ⟨blk ia, off ia, none⟩) → T'.At W (blk ia) (off ia) → NsAt W (T'.refsL (blk ia) (off ia)) ns → T'.small → Calls Try.prog 48 #[.slice ia T'.len ic] W (ClP T' ns W))
  (W : World) (hS : ClS T ns w.heap.size g 0 w .nil T [] ns W) (e1 e3 e4 e5 e6 e7 e8 e9 e10 e11 e12 e13 e14 e15 e16 e17 e18 e19 e20 e21 e22 e23 e24 e25 e26 e27 e28 e29 e30 e31 e32 : Value) :
  part48n2.wp Try.prog (bodyPost Try.prog Try.f48 (ClP T ns w)) { tmps := #[.slice (some ⟨g, 0, none⟩) n c, e1, .slice none 0 0, e3, e4, e5, e6, e7, e8, e9, e10, e11, e12, e13, e14, e15, e16, e17, e18, e19, e20, e21, e22, e23, e24, e25, e26, e27, e28, e29, e30, e31, e32], defers := [] } W := by
 have HI := Lib.hid hI
 clear hI
 unfold maxLen at *
 unfold part48n2 code48
 conv => arg 2; whnf
 go_wp2_with fail
 go_loopw [8] (fun iv wr => ∃ (i : Nat) (A R : Lt) (n1 n2 : List Int), iv = .int .i64 i ∧ i + R.len = n ∧ Hid (ClS T ns w.heap.size g i w A R n1 n2 wr)) (fun iv _ => n + 1 - (intOf iv).toNat)
 case atStart => exact ⟨0, .nil, T, [], ns, rfl, by omega, Lib.hid hS⟩
 case round =>
  obtain ⟨i, A, R, n1, n2, rfl, hin, hS⟩ := hrel
  cases R with
  | nil =>
   simp only [Lt.len] at hin
   obtain rfl : i = n := by omega
   go_wp2_with fail
   go_ret
   have h := hS.out
   have hn2 : n2 = [] := by
    have := h.nsR
    cases n2 with
    | nil => rfl
    | cons => exact this.elim
   have hns := h.nseq
   rw [hn2, List.append_nil] at hns
   have hst := h.strip
   simp only [Lt.strip] at hst
   rw [Its.app_nil] at hst
   refine ⟨some ⟨g, 0, none⟩, c, A, by rw [hn]; rfl, hst, Or.inr rfl, h.atA, by rw [← hns]; exact h.nsA, fun b hb => h.own b ?_, ?_, h.below⟩
   ·unfold Lt.own at hb
    split at hb
    ·exact List.mem_cons_of_mem _ (by simpa using hb)
    ·simpa [blk] using hb
   ·unfold Lt.own
    split
    ·simpa using (List.nodup_cons.1 h.apart).2
    ·simpa [blk] using h.apart
  | cons k n' un ia ic its ma mc ms r =>
   simp only [Lt.len] at hin
   have hi : (i : Int) < (n : Int) := by omega
   have h := hS.out
   obtain ⟨u, g0, g1, g2, g3, g4, g5, m1, m2, m3, hns2, k1, k2, k3⟩ := Lt.At.cells h.atR h.nsR
   obtain ⟨_, ⟨f1, f2, f3⟩, ⟨i1, i2, i3⟩, hr⟩ := h.atR
   obtain ⟨s1, s2, s3, s4⟩ := h.small
   have hsz : its.size < T.size := by have := h.size; simp only [Lt.size] at this; omega
   have CM : ∀ W, Below wr.heap.size wr W → Calls Try.prog 73 #[.slice ma ms.length mc] W fun e W' => ∃ ma' mc', e = .returned (.slice ma' ms.length mc') ∧ Hid (RowNew W W' ma' ms.length ∧ movAt W' (blk ma') 0 ms ∧ NsAt W' (movRefs (blk ma') 0 ms) m1 ∧ Below W.heap.size W W') ∧ Below wr.heap.size wr W' := fun W hb =>
    (clone_mov ma mc ms m1 W s2 f1 (movAt_below f3 hb) (k1.below hb)).mono fun e W' ⟨a, b, h1, h2, h3, h4, h5⟩ => ⟨a, b, h1, Lib.hid ⟨h2, h3, h4, h5⟩, hb.trans (h5.mono hb.size)⟩
   have CI : ∀ W, Below wr.heap.size wr W → Calls Try.prog 48 #[.slice ia its.len ic] W fun e W' => ∃ ao co, e = .returned (.slice ao its.len co) ∧ Hid (ClP its m2 W e W') ∧ Below wr.heap.size wr W' := fun W hb =>
    (HI.out its hsz ia ic m2 W s1 i1 (i3.below hb) (k2.below hb) s3).mono fun e W' hp => by
     obtain ⟨a, co, T', h1, h2⟩ := id hp
     exact ⟨a, co, h1, Lib.hid hp, hb.trans (h2.2.2.2.2.2.2.mono hb.size)⟩
   have HCM := Lib.hid CM; have HCI := Lib.hid CI
   have fr := (h.own g (by simp)).2
   have q4 := fr.free (i * 6 + 4)
   have q5 := fr.free (i * 6 + 5)
   have hgl := fr.lt
   have HG4 := Lib.hid g4; have HG5 := Lib.hid g5
   have HRR := Lib.hid hr; have HK3 := Lib.hid k3; have HNS2 := Lib.hid hns2; have HG3 := Lib.hid g3
   clear CM CI h f1 f2 f3 i1 i3 hr k1 k2 k3 hns2 s1 s2 s3 s4 hsz g0 g1 g2 g3
   have hkeep : ∀ W, Below wr.heap.size wr W → W.cell? ⟨g, i * 6 + 4, none⟩ = some (.slice ia its.len ic) ∧ W.cell? ⟨g, i * 6 + 5, none⟩ = some (.slice ma ms.length mc) := fun W hb => ⟨keep_cell hb HG4.out, keep_cell hb HG5.out⟩
   have HKP := Lib.hid hkeep
   have hfree : ∀ W, Below wr.heap.size wr W → W.frozen? ⟨g, i * 6 + 4, none⟩ = false ∧ W.frozen? ⟨g, i * 6 + 5, none⟩ = false := fun W hb => ⟨(fr.below hb).free _, (fr.below hb).free _⟩
   have HFR := Lib.hid hfree
   clear hkeep hfree fr
   have hB0 : Below wr.heap.size wr wr := Below.refl _ _
   go_wp2_with fail
   go_region_with (first
    | (go_at_call 73; refine (HCM.out _ (by first | assumption | exact Below.drew (by assumption) | exact below_drewN (by assumption) _)).mono ?_; rintro e w5 ⟨ma', mc', rfl, hm5, hb5⟩; have c54 := (HKP.out _ hb5).1; have c55 := (HKP.out _ hb5).2)
    | (go_at_call 48; refine (HCI.out _ (by first | assumption | exact Below.drew (by assumption) | exact below_drewN (by assumption) _)).mono ?_; rintro e w6 ⟨ao', co', rfl, hi6, hb6⟩; have c64 := (HKP.out _ hb6).1; have c65 := (HKP.out _ hb6).2; have f64 := (HFR.out _ hb6).1; have f65 := (HFR.out _ hb6).2))
   all_goals
    go_wp2_with fail
    go_roundw
    case rel =>
     obtain ⟨A', hA'⟩ := cl_step hS.out HNS2.out HG3.out HK3.out hS.out.below.size (by first | assumption | exact Below.drew (by assumption) | exact below_drewN (by assumption) _) hm5.out hi6.out
     exact ⟨i + 1, A', r, _, _, by go_num, by omega, Lib.hid hA'⟩
    case measure => simp [intOf]; omega
end Go.Proofs.Ytpnbpepkoekkoaa
end
