/- Contracts and plain laws on the way to the statement: part 22. -/
import Derived.Test.YtpnbpepkoekkoaaZ21
import Derived.Test.YtpnbpepkoekkoaaZ3
set_option linter.unusedVariables false
set_option linter.unusedSimpArgs false
set_option maxRecDepth 100000
set_option maxHeartbeats 16000000
namespace Go.Proofs.Ytpnbpepkoekkoaa
open Go.Value (int)
open Go.IntKind (i64)
section
open Go Go.RowKit Go.Shelf
section
attribute [local go_sem] Oper.semAt_some Du
theorem Ln (B0 l yB tB kB S : Nat) (J : List RefL → World → Prop) (Jx Jp : World → Prop) (Rd : World → Prop) (s : Ls) (hH : InH B0 l J Jx Jp s.refs (s.strip.kinds = true) Rd) (hRd : ∀ W, Rd W → FldR kB S s W)
  (hpf : s.phrases = [] ∨ s.fa = some ⟨blk s.fa, off s.fa, none⟩) (hpl : s.phrases.length ≤ maxLen) (hform : s.dances = [] ∨ s.da = some ⟨blk s.da, off s.da, none⟩) (hlen : s.dances.length ≤ maxLen) (W : World) (hyB : yB = W.heap.size) (htB : tB = W.heap.size + 1) (hB0 : B0 = W.heap.size) (W3 : World)
  (hW3 : ((W.alloc (.cells #[.func (.yield l) #[] #[]] 126)).alloc (.cells #[.nilFunc] 127)).setCell ⟨W.heap.size + 1, 0, none⟩ (.func (.func 75) #[] #[.pointer (some ⟨W.heap.size, 0, none⟩), .pointer (some ⟨W.heap.size + 1, 0, none⟩)]) = W3) (hW : InW B0 l yB tB W3) (hj : J [] W3) :
  Calls Try.prog 74 #[.func (.yield l) #[] #[], .pointer (some ⟨kB, 0, none⟩)] W (OW s.refs J Jx Jp (s.strip.kinds = true)) := by
 have hT := fun hok W4 hW4 hj4 => Lm B0 l yB tB kB S J Jx Jp s.refs (s.strip.kinds = true) hok Rd hH s hRd hform hlen (Ay s.phrases) rfl W4 hW4 hj4
 have hrdf : ∀ W, Rd W → W.cell? ⟨kB, 0, none⟩ = some (.pointer (some ⟨S, 0, none⟩)) ∧ W.cell? ⟨S, 10, none⟩ = some (.slice s.fa s.phrases.length s.fc) ∧ AZ W (blk s.fa) (off s.fa) s.phrases := fun W h => ⟨(hRd W h).box, (hRd W h).ph, (hRd W h).phrases⟩
 subst hyB htB hB0; obtain ⟨W1, x1, g1, b1, s1⟩ := DV W (.func (.yield l) #[] #[]) 126; obtain ⟨W2, x2, g2, b2, s2⟩ := DV W1 .nilFunc 127; rw [x1, x2] at hW3; have k2 : W2.cell? ⟨W1.heap.size, 0, none⟩ = some .nilFunc := Aa g2 0 rfl; have f2 : W2.frozen? ⟨W1.heap.size, 0, none⟩ = false := by simp [World.frozen?, g2]
 rw [s1] at k2 f2; have HH := qh hH; have HRDF := qh hrdf; have HW := qh hW; have HJ := qh hj; have HF := qh hpf; have HT := qh hT; clear hH hRd hrdf hW hj hform hpf hT g1 g2 b1 b2 s2 hlen; unfold maxLen at hpl; have mixed : Try.prog.follows .mixedOrders = true := by kernel_rfl
 obtain ⟨ck, cs, _⟩ := HRDF.out _ (HH.out.rd _ _ HJ.out); generalize hn : s.phrases.length = n at *; have HN := qh hn; clear hn; refine (callsIn_wide (n := 10)).1 ?_; refine callsIn_of_wp Try.func74 rfl trivial ?_ rfl; simp only [Try.ntmps74, List.size_toArray, List.length_cons, List.length_nil, Nat.reduceAdd, Nat.reduceSub, Array.replicate_succ, Array.replicate_zero, List.push_toArray, List.append_toArray, List.nil_append, List.cons_append]; change Code.wpIn _ _ _ (El 4 Is part74n4) _ _ _
 conv => arg 4; whnf
 gi_wp2_with fail
 conv => arg 4; whnf
 gi_wp2_with fail
 conv => arg 4; whnf
 gi_wp2_with fail
 conv => arg 4; whnf
 gi_wp2_with fail
 conv => arg 4; whnf
 gi_wp2_with fail; clear ck cs k2 f2; generalize W.heap.size + 1 = tB at *; generalize W.heap.size = B0 at *; gi_loopw [12] (fun iv wr => ∃ (i : Nat) (R : List Ph) (q : List RefL), iv = int i64 i ∧ i + R.length = n ∧ Hid (Ay s.phrases = q ++ Ay R) ∧ Hid (s.strip.kinds = (R.map Ph.strip).all fun p => p.items.kinds) ∧ Hid (∀ W, Rd W → AZ W (blk s.fa) (off s.fa + i * 2) R) ∧ Hid (J q wr) ∧ Hid (InW B0 l B0 tB wr) ∧ Hid (Beyond B0 W3 wr)) (fun iv _ => n + 1 - (intOf iv).toNat)
 case atStart => exact ⟨0, s.phrases, [], rfl, by rw [HN.out]; omega, qh (by simp), qh rfl, qh (fun W h => by simpa using (HRDF.out W h).2.2), HJ, HW, qh (Beyond.refl _ _)⟩
 case round =>
  obtain ⟨i, R, q, rfl, hin, hq, hks, hR, hJ, hWr, hbo⟩ := hrel
  cases R with
  | nil =>
   simp only [List.length_nil] at hin; obtain rfl : i = n := by omega
   have hq2 := hq.out; simp only [Ay, List.append_nil] at hq2; have hj2 := hJ.out; rw [← hq2] at hj2; have hk2 := hks.out; simp only [List.map_nil, List.all_nil] at hk2; have HTT := qh (HT.out hk2 _ hWr.out hj2); clear hq2 hj2 hk2; gi_wp2_with fail; exact HTT.out _ _ _ _ _ _ _ _ _ _ _ _ _ _ _ _ _ _ _ _ _ _ _ _ _ _ _ _ _ _ _ _ _ _ _ _ _ _ _ _ _ _ _ _ _ _ _ _ _ _ _ _ _ _ _
  | cons p r =>
   simp only [List.length_cons] at hin; have hi : (i : Int) < (n : Int) := by omega
   have hfa : s.fa = some ⟨blk s.fa, off s.fa, none⟩ := HF.out.resolve_left (fun e => by have := HN.out; rw [e] at this; simp at this; omega); obtain ⟨ck, cs, _⟩ := HRDF.out _ (HH.out.rd _ _ hJ.out); obtain ⟨⟨q0, q1, qf, ql, qA⟩, hr⟩ := hR.out _ (HH.out.rd _ _ hJ.out); unfold Ph.val at q1; have ct := cell_of_one hWr.out.bt
   have hA1 : s.refs = q ++ (p.its.refsL (blk p.ia) (off p.ia) ++ (Ay r ++ Ak (blk s.da) (off s.da) s.dances)) := by
    unfold Ls.refs; rw [hq.out]; simp [Ay, Ph.refsL]
   have hih : Calls Try.prog 75 #[.slice p.ia p.its.len p.ic, .pointer (some ⟨B0, 0, none⟩), .pointer (some ⟨tB, 0, none⟩)] wr.drew (fun e W' => (∃ t, e = .returned (.bool t) ∧ Hid (InP B0 J Jx Jp q p.refsL p.its.strip.kinds wr (.returned (.bool t)) W')) ∨ (e = .panicked (AC 170) ∧ Jp W')) := by
    refine (Oa B0 l B0 tB J Jx Jp s.refs (s.strip.kinds = true) Rd HH.out _ p.its (qn _) p.ia p.ic q _ wr.drew qf ql hA1 (fun W h => (hR.out W h).1.2.2.2.2) (fun hk => by
     rw [hks.out]; simp [Ph.strip, hk]) (hWr.out.keep (Beyond.of_below (Below.refl _ _).drew)) (HH.out.kept _ _ _ hJ.out (Below.refl _ _).drew)).mono ?_
    intro e W' h; rcases h with ⟨rfl, h1, h2, h3⟩ | ⟨rfl, h1⟩ | ⟨rfl, h1⟩
    ·exact Or.inl ⟨true, rfl, qh (Or.inl ⟨rfl, h1, h2, h3⟩)⟩
    ·exact Or.inl ⟨false, rfl, qh (Or.inr (Or.inl ⟨rfl, h1⟩))⟩
    ·exact Or.inr ⟨rfl, h1⟩
   have HIH := qh hih; generalize hfb : blk s.fa = fb at *; generalize hfo : off s.fa = fo at *; generalize hfv : s.fa = fv at *; subst hfa; clear hih hr q0 qA qf ql hA1; gi_wp2_with fail; gi_region_with_o (refine ⟨trivial, ?_⟩; refine (callsIn_wide.2 HIH.out).mono ?_; rintro e W4 (⟨t4, rfl, h4⟩ | ⟨rfl, hp⟩); rotate_left; (exact ⟨rfl, Or.inr ⟨rfl, hp⟩⟩))
   all_goals clear ck cs q1 ct HIH
   all_goals cases t4 with
   | false =>
    have hx : Jx W4 := by
     rcases h4.out with ⟨q1, _⟩ | ⟨_, q2⟩ | ⟨q1, _⟩
     ·cases q1
     ·exact q2
     ·cases q1
    have HX := qh hx; clear hx h4; gi_wp2_with fail
    first | go_end0 | refine bodyPost_ret (results_none rfl _ _ _) rfl ?_
    exact Or.inl ⟨_, rfl, Or.inr HX.out⟩
   | true =>
    obtain ⟨hks4, hJ4, hb4⟩ : p.its.strip.kinds = true ∧ J (q ++ p.refsL) W4 ∧ Beyond B0 wr W4 := by
     rcases h4.out with ⟨_, q1⟩ | ⟨q1, _⟩ | ⟨q1, _⟩
     ·exact q1
     ·cases q1
     ·cases q1
    have HK4 := qh hks4; have HJ4 := qh hJ4; have HB4 := qh (hbo.out.trans hb4); have HW4 := qh (hWr.out.keep hb4); clear hks4 hJ4 hb4 h4; gi_wp2_with fail; go_roundw
    case rel => exact ⟨i + 1, r, q ++ p.refsL, by go_num, by omega, qh (by rw [hq.out]; simp [Ay]), qh (by rw [hks.out]; simp [Ph.strip, HK4.out]), qh (fun W hW => by
      have := (hR.out W hW).2
      rw [Nat.add_mul, Nat.one_mul, ← Nat.add_assoc]; exact this), HJ4, HW4, HB4⟩
    case measure => simp [intOf]; omega
end
theorem DS (kB S : Nat) (s : Ls) (Rd : World → Prop) (hRd : ∀ W, Rd W → FldR kB S s W) (hpf : s.phrases = [] ∨ s.fa = some ⟨blk s.fa, off s.fa, none⟩) (hpl : s.phrases.length ≤ maxLen) (hform : s.dances = [] ∨ s.da = some ⟨blk s.da, off s.da, none⟩) (hlen : s.dances.length ≤ maxLen) (w : World) :
  KC Try.prog 74 #[.pointer (some ⟨kB, 0, none⟩)] EU s.refs (s.strip.kinds = true) (AC 170) Rd w := by
 intro l R J Jx Jp W hb hR1 hR2 hJ hJR hY hbad h0; obtain ⟨W1, x1, g1, b1, s1⟩ := DV W (.func (.yield l) #[] #[]) 126; obtain ⟨W2, x2, g2, b2, s2⟩ := DV W1 .nilFunc 127; obtain ⟨W3, x3, g3, o3, b3, s3⟩ := C1 g2 (.func (.func 75) #[] #[.pointer (some ⟨W.heap.size, 0, none⟩), .pointer (some ⟨W1.heap.size, 0, none⟩)]); have hb3 : Below W.heap.size W W3 := b3 _ _ (b1.trans (b2.mono (by omega))) (by omega); rw [s1] at x3 g3; refine Ln W.heap.size l W.heap.size (W.heap.size + 1) kB S J Jx Jp Rd s ⟨hJ, hJR, hY, hbad⟩ hRd hpf hpl hform hlen W rfl rfl rfl W3 (by rw [x1, x2]; exact x3) ⟨(o3 _ (by omega)).trans ((b2.block _ (by omega)).trans g1), g3, by omega, by omega⟩ (hJ _ _ _ h0 hb3)
theorem DR (p : Addr) (w : World) : Calls Try.prog 49 #[.pointer (some p)] w fun e w' => e = .returned (.func (.func 74) #[] #[.pointer (some ⟨w.heap.size, 0, none⟩)]) ∧ w'.heap[w.heap.size]? = some (.cells #[.pointer (some p)] 43 (0, 0)) ∧ Below w.heap.size w w' ∧ w'.heap.size = w.heap.size + 1 := by
 obtain ⟨W1, x1, g1, b1, s1⟩ := DV w (.pointer (some p)) 43; have G1 := qh g1; have HB := qh b1; have S1 := qh s1; clear g1 b1 s1; go_enter Try.func49, Try.ntmps49; go_wp2_with fail; go_ret; exact ⟨rfl, G1.out, HB.out, S1.out⟩
end
end Go.Proofs.Ytpnbpepkoekkoaa
