/- Contracts and plain laws on the way to the statement: part 19. -/
import Derived.Test.YtpnbpepkoekkoaaZ9
import Derived.Test.YtpnbpepkoekkoaaZ7
import Derived.Test.YtpnbpepkoekkoaaZ12
import Derived.Shelf.Abstract
import Derived.Shelf.RegionOpen
import Derived.OwnWalkIn
import Derived.TacticsInMore
import Derived.LoopNIn
import Derived.LoopIn
import Derived.Test.YtpnbpepkoekkoaaZ3
set_option linter.unusedVariables false
set_option linter.unusedSimpArgs false
set_option maxRecDepth 100000
set_option maxHeartbeats 16000000
namespace Go.Proofs.Ytpnbpepkoekkoaa
open Go.Value (int)
open Go.IntKind (i64)
section
open Go Go.RowKit Go.Shelf
def AC (c : Int) : List PanicEntry := [{ v := .iface 35 (int i64 c), recovered := false }]
def EU (x : RefL) : Array Value := #[.pointer (some ⟨x.b, x.o, none⟩), int i64 (x.to : Int)]
structure InW (B0 l yB tB : Nat) (W : World) : Prop where
 by_ : W.heap[yB]? = some (.cells #[.func (.yield l) #[] #[]] 126 (0, 0))
 bt : W.heap[tB]? = some (.cells #[.func (.func 75) #[] #[.pointer (some ⟨yB, 0, none⟩), .pointer (some ⟨tB, 0, none⟩)]] 127 (0, 0))
 ge : B0 ≤ yB ∧ B0 ≤ tB
theorem InW.keep {B0 l yB tB : Nat} {W W' : World} (h : InW B0 l yB tB W) (hb : Beyond B0 W W') : InW B0 l yB tB W' :=
 ⟨(hb.2 _ h.ge.1 (qs.1 h.by_).1 (RowInt.other h.by_ (by simp))).trans h.by_, (hb.2 _ h.ge.2 (qs.1 h.bt).1 (RowInt.other h.bt (by simp))).trans h.bt, h.ge⟩
def InP (B0 : Nat) (J : List RefL → World → Prop) (Jx Jp : World → Prop) (pre L : List RefL) (ks : Bool) (W : World) (e : Ending) (W' : World) : Prop :=
 (e = .returned (.bool true) ∧ ks = true ∧ J (pre ++ L) W' ∧ Beyond B0 W W') ∨ (e = .returned (.bool false) ∧ Jx W') ∨ (e = .panicked (AC 170) ∧ Jp W')
structure InH (B0 l : Nat) (J : List RefL → World → Prop) (Jx Jp : World → Prop) (A : List RefL) (ok : Prop) (Rd : World → Prop) : Prop where
 kept : If J
 rd : ∀ pre W, J pre W → Rd W
 yield : ∀ pre x rest W, A = pre ++ x :: rest → J pre W → ∀ m, YieldAt Fence.wide m Try.prog l (EU x) W (OX B0 J Jx Jp (AC 170) pre x W)
 bad : ∀ pre rest W, A = pre ++ rest → ¬ ok → J pre W → Jp W
theorem InH.one {B0 l : Nat} {J : List RefL → World → Prop} {Jx Jp : World → Prop} {A : List RefL} {ok : Prop} {Rd : World → Prop} (h : InH B0 l J Jx Jp A ok Rd) {pre rest : List RefL} {x : RefL} {W W1 : World} (hA : A = pre ++ x :: rest) (hj : J pre W) (hb : Below W.heap.size W W1) (m : Nat) :
  ∃ fn tmps assign body, (Instr.yield l (EU x)).run Try.prog W1 = .ok (.round l fn tmps assign body) W1 ∧ RoundIn Fence.wide m Try.prog l fn tmps assign body W1 (fun e W' => (∃ t, e = .returned (.bool t) ∧ Hid ((t = true ∧ J (pre ++ [x]) W' ∧ Beyond B0 W1 W') ∨ (t = false ∧ Jx W'))) ∨ (e = .panicked (AC 170) ∧ Jp W')) := by
 refine YieldAt.to (h.yield pre x rest W1 hA (h.kept _ _ _ hj hb) m) ?_; rintro e W' (⟨rfl, h1, h2⟩ | ⟨rfl, h1⟩ | ⟨rfl, h1⟩)
 ·exact Or.inl ⟨true, rfl, qh (Or.inl ⟨rfl, h1, h2⟩)⟩
 ·exact Or.inl ⟨false, rfl, qh (Or.inr ⟨rfl, h1⟩)⟩
 ·exact Or.inr ⟨rfl, h1⟩
section
attribute [local go_sem] Oper.semAt_some
theorem Mv (B0 l yB tB : Nat) (J : List RefL → World → Prop) (Jx Jp : World → Prop) (A : List RefL) (ok : Prop) (Rd : World → Prop) (hH : InH B0 l J Jx Jp A ok Rd) (T : Lt)
  (hI : ∀ T' : Lt, T'.size < T.size → ∀ (ia : Option Addr) (ic : Nat) (pre post : List RefL) (W : World), (T'.len = 0 ∨ ia = some ⟨blk ia, off ia, none⟩) → T'.len ≤ maxLen → A = pre ++ (T'.refsL (blk ia) (off ia) ++ post) → (∀ W, Rd W → T'.At W (blk ia) (off ia)) → (T'.strip.kinds = false → ¬ ok) → InW B0 l yB tB W → J pre W →
   Calls Try.prog 75 #[.slice ia T'.len ic, .pointer (some ⟨yB, 0, none⟩), .pointer (some ⟨tB, 0, none⟩)] W (InP B0 J Jx Jp pre (T'.refsL (blk ia) (off ia)) T'.strip.kinds W))
  (b o ic : Nat) (pre post : List RefL) (W : World) (hlen : T.len ≤ maxLen) (hA : A = pre ++ (T.refsL b o ++ post)) (hT : ∀ W, Rd W → T.At W b o) (hok : T.strip.kinds = false → ¬ ok) (hW : InW B0 l yB tB W) (hj : J pre W) :
  Calls Try.prog 75 #[.slice (some ⟨b, o, none⟩) T.len ic, .pointer (some ⟨yB, 0, none⟩), .pointer (some ⟨tB, 0, none⟩)] W (InP B0 J Jx Jp pre (T.refsL b o) T.strip.kinds W) := by
 have HH := qh hH; have HI := qh hI; have HT := qh hT; have HOK := qh hok; have HW := qh hW; have HJ := qh hj; have HA := qh hA; clear hH hI hT hok hW hj hA; generalize hn : T.len = n at *; have HN := qh hn; clear hn; unfold maxLen at hlen; have mixed : Try.prog.follows .mixedOrders = true := by kernel_rfl
 refine (callsIn_wide (n := 10)).1 ?_; refine callsIn_of_wp Try.func75 rfl trivial ?_ rfl; simp only [Try.ntmps75, List.size_toArray, List.length_cons, List.length_nil, Nat.reduceAdd, Nat.reduceSub, Array.replicate_succ, Array.replicate_zero, List.push_toArray, List.append_toArray, List.nil_append, List.cons_append]; gi_wp2_with fail; gi_loopw [13] (fun iv wr => ∃ (i : Nat) (R : Lt) (q : List RefL), iv = int i64 i ∧ i + R.len = n ∧ Hid (R.size ≤ T.size) ∧ Hid (T.refsL b o = q ++ R.refsL b (o + i * 6)) ∧ Hid (T.strip.kinds = R.strip.kinds) ∧ Hid (∀ W, Rd W → R.At W b (o + i * 6)) ∧ Hid (J (pre ++ q) wr) ∧ Hid (InW B0 l yB tB wr) ∧ Hid (Beyond B0 W wr)) (fun iv _ => n + 1 - (intOf iv).toNat)
 case atStart => exact ⟨0, T, [], rfl, by rw [HN.out]; omega, qh (qn _), qh (by simp), qh rfl, by simpa [Hid] using HT.out, qh (by simpa using HJ.out), HW, qh (Beyond.refl _ _)⟩
 case round =>
  obtain ⟨i, R, q, rfl, hin, hsz, hq, hks, hR, hJ, hWr, hbo⟩ := hrel
  cases R with
  | nil =>
   simp only [Lt.len] at hin; obtain rfl : i = n := by omega
   gi_wp2_with fail; go_ret; refine Or.inl ⟨rfl, ?_, ?_, hbo.out⟩
   ·rw [hks.out]; rfl
   ·have := hq.out
    simp only [Lt.refsL, List.append_nil] at this; rw [this]; exact hJ.out
  | cons k n' un ia ic' its ma mc ms r =>
   simp only [Lt.len] at hin; have hi : (i : Int) < (n : Int) := by omega
   have hAt := hR.out wr (HH.out.rd _ _ hJ.out); obtain ⟨⟨g0, g1, g2, g4, g5⟩, ⟨m1, m2, m3⟩, ⟨i1, i2, i3⟩, hr⟩ := hAt; have cy := cell_of_one hWr.out.by_; clear m1 m2 m3 i1 i2 i3 hr
   have hAq : A = (pre ++ q) ++ ((⟨b, o + i * 6 + 2, Bh k, un⟩ : RefL) :: (Aw (blk ma) (off ma) ms ++ (its.refsL (blk ia) (off ia) ++ (r.refsL b (o + i * 6 + 6) ++ post)))) := by
    rw [HA.out, hq.out]; simp [Lt.refsL]
   by_cases hkk : 1 ≤ k ∧ k ≤ 4
   ·obtain ⟨hk1, hk4⟩ := hkk
    have hc : (Bh k = 2 ∧ (k == 4) = true) ∨ (Bh k = 0 ∧ (k == 4) = false) := by
     unfold Bh; by_cases h4 : k = 4
     ·left; simp [h4]
     ·right; simp [h4]
    have hmc := ma; clear hmc; rcases hc with ⟨hto, h4⟩ | ⟨hto, h4⟩
    all_goals
     gi_wp2_with (refine ⟨trivial, ?_⟩; refine (callsIn_wide.2 (Bn _ _)).mono ?_; rintro e w' ⟨rfl, rfl⟩); obtain ⟨fn', tmps', assign', body', hy, hR1⟩ := HH.out.one hAq hJ.out ((Below.refl wr.heap.size wr).drew) 9; unfold EU at hy; simp only [hto] at hy
     first | rw [show ((2 : Nat) : Int) = 2 from rfl] at hy | rw [show ((0 : Nat) : Int) = 0 from rfl] at hy
     have HR1 := qh hR1; have HAQ := qh hAq; clear hR1 hAq g0 g1 g2; gi_region_with_o (refine RoundIn.mono (RoundIn.anyDepth rfl HR1.out) ?_; rintro e W2 (⟨t1, rfl, h1⟩ | ⟨rfl, hp⟩); rotate_left; (exact ⟨rfl, Or.inr (Or.inr ⟨rfl, hp⟩)⟩)); clear hy HR1 cy
     cases t1 with
     | false =>
      have hx : Jx W2 := by
       rcases h1.out with ⟨q1, _⟩ | ⟨_, q2⟩
       ·cases q1
       ·exact q2
      have HX := qh hx; clear hx h1; gi_wp2_with fail; go_ret; exact Or.inr (Or.inl ⟨rfl, HX.out⟩)
     | true =>
      obtain ⟨hJ2, hb2⟩ : J (pre ++ q ++ [(⟨b, o + i * 6 + 2, Bh k, un⟩ : RefL)]) W2 ∧ Beyond B0 wr W2 := by
       rcases h1.out with ⟨_, q1, q2⟩ | ⟨q1, _⟩
       ·exact ⟨q1, q2⟩
       ·cases q1
      have HJ2 := qh hJ2; have HB2 := qh (hbo.out.trans hb2); have HW2 := qh (hWr.out.keep hb2); clear hJ2 hb2 h1; have hAt2 := hR.out W2 (HH.out.rd _ _ HJ2.out); obtain ⟨⟨g0, g1, g2, g4, g5⟩, ⟨m1, m2, m3⟩, _⟩ := hAt2; have HM1 := qh m1; clear g0 g1 g2 g4 m1 m3; unfold maxLen at m2; generalize hml : ms.length = nm at *; have HML := qh hml; clear hml; gi_wp2_with fail; gi_loopw [49] (fun jv wq => ∃ (j : Nat) (M : List Mov) (q2 : List RefL), jv = int i64 j ∧ j + M.length = nm ∧ Hid (Aw (blk ma) (off ma) ms = q2 ++ Aw (blk ma) (off ma + j * 12) M) ∧ Hid (ms.all D0 = M.all D0) ∧ Hid (∀ W, Rd W → Bc W (blk ma) (off ma + j * 12) M) ∧ Hid (J (pre ++ q ++ [(⟨b, o + i * 6 + 2, Bh k, un⟩ : RefL)] ++ q2) wq) ∧ Hid (InW B0 l yB tB wq) ∧ Hid (Beyond B0 W wq)) (fun jv _ => nm + 1 - (intOf jv).toNat)
      case atStart => exact ⟨0, ms, [], rfl, by rw [HML.out]; omega, qh (by simp), qh rfl, qh (fun W hW => by
        have := (hR.out W hW).2.1.2.2
        simpa using this), qh (by simpa using HJ2.out), HW2, HB2⟩
      case round =>
       obtain ⟨j, M, q2, rfl, hjn, hq2, hks2, hM, hJq, hWq, hbq⟩ := hrel
       cases M with
       | nil =>
        simp only [List.length_nil] at hjn; obtain rfl : j = nm := by omega
        have hAt3 := hR.out wr (HH.out.rd _ _ hJq.out); obtain ⟨⟨g0, g1, g2, g4, g5'⟩, _, ⟨i1, i2, i3⟩, _⟩ := hAt3; have hmr := hq2.out; simp only [Aw, List.append_nil] at hmr; have hkm := hks2.out; simp only [List.all_nil] at hkm
        have hA3 : A = (pre ++ q ++ [(⟨b, o + i * 6 + 2, Bh k, un⟩ : RefL)] ++ q2) ++ (its.refsL (blk ia) (off ia) ++ (r.refsL b (o + i * 6 + 6) ++ post)) := by
         rw [HAQ.out, hmr]; simp
        have hih := HI.out its (by have := hsz.out; simp only [Lt.size] at this; omega) ia ic' _ _ wr i1 i2 hA3 (fun W hW => (hR.out W hW).2.2.1.2.2) (fun hk => HOK.out (by
         rw [hks.out]; simp only [Lt.strip, Its.kinds]; rw [hk]; simp)) hWq.out hJq.out
        have hih2 : Calls Try.prog 75 #[.slice ia its.len ic', .pointer (some ⟨yB, 0, none⟩), .pointer (some ⟨tB, 0, none⟩)] wr.drew (fun e W' => (∃ t, e = .returned (.bool t) ∧ Hid (InP B0 J Jx Jp (pre ++ q ++ [(⟨b, o + i * 6 + 2, Bh k, un⟩ : RefL)] ++ q2) (its.refsL (blk ia) (off ia)) its.strip.kinds wr (.returned (.bool t)) W')) ∨ (e = .panicked (AC 170) ∧ Jp W')) := by
         have hih3 := HI.out its (by have := hsz.out; simp only [Lt.size] at this; omega) ia ic' _ _ wr.drew i1 i2 hA3 (fun W hW => (hR.out W hW).2.2.1.2.2) (fun hk => HOK.out (by
          rw [hks.out]; simp only [Lt.strip, Its.kinds]; rw [hk]; simp)) (hWq.out.keep (Beyond.of_below (Below.refl _ _).drew)) (HH.out.kept _ _ _ hJq.out (Below.refl _ _).drew)
         refine hih3.mono ?_; intro e W' h; rcases h with ⟨rfl, h1, h2, h3⟩ | ⟨rfl, h1⟩ | ⟨rfl, h1⟩
         ·exact Or.inl ⟨true, rfl, qh (Or.inl ⟨rfl, h1, h2, h3⟩)⟩
         ·exact Or.inl ⟨false, rfl, qh (Or.inr (Or.inl ⟨rfl, h1⟩))⟩
         ·exact Or.inr ⟨rfl, h1⟩
        have HIH := qh hih2; have HMR := qh hmr; have HKM := qh hkm; have ct := cell_of_one hWq.out.bt; clear hih hih2 hA3 hmr hkm g0 g1 g2 g5' i1 i2 i3; gi_wp2_with fail; gi_region_with_o (refine ⟨trivial, ?_⟩; refine (callsIn_wide.2 HIH.out).mono ?_; rintro e W4 (⟨t4, rfl, h4⟩ | ⟨rfl, hp⟩); rotate_left; (exact ⟨rfl, Or.inr (Or.inr ⟨rfl, hp⟩)⟩))
        all_goals clear ct HIH
        all_goals cases t4 with
        | false =>
         have hx : Jx W4 := by
          rcases h4.out with ⟨q1, _⟩ | ⟨_, q2⟩ | ⟨q1, _⟩
          ·cases q1
          ·exact q2
          ·cases q1
         have HX := qh hx; clear hx h4; gi_wp2_with fail; go_ret; exact Or.inr (Or.inl ⟨rfl, HX.out⟩)
        | true =>
         obtain ⟨hks4, hJ4, hb4⟩ : its.strip.kinds = true ∧ J ((pre ++ q ++ [(⟨b, o + i * 6 + 2, Bh k, un⟩ : RefL)] ++ q2) ++ its.refsL (blk ia) (off ia)) W4 ∧ Beyond B0 wr W4 := by
          rcases h4.out with ⟨_, q1⟩ | ⟨q1, _⟩ | ⟨q1, _⟩
          ·exact q1
          ·cases q1
          ·cases q1
         have HK4 := qh hks4; have HJ4 := qh hJ4; have HB4 := qh (hbq.out.trans hb4); have HW4 := qh (hWq.out.keep hb4); clear hks4 hJ4 hb4 h4; gi_wp2_with fail; go_roundw
         case rel => exact ⟨i + 1, r, q ++ ([(⟨b, o + i * 6 + 2, Bh k, un⟩ : RefL)] ++ (q2 ++ its.refsL (blk ia) (off ia))), by go_num, by omega, qh (by have := hsz.out; simp only [Lt.size] at this; omega), qh (by
           rw [hq.out]; simp only [Lt.refsL]; rw [HMR.out, Nat.add_mul, Nat.one_mul, ← Nat.add_assoc]; simp), qh (by
           rw [hks.out]; simp only [Lt.strip, Its.kinds]; rw [HKM.out, HK4.out, show (decide (1 ≤ k) && decide (k ≤ 4)) = true by simp [hk1, hk4]]; rfl), qh (fun W hW => by
           have := (hR.out W hW).2.2.2
           rw [Nat.add_mul, Nat.one_mul, ← Nat.add_assoc]; exact this), qh (by have := HJ4.out; simpa [List.append_assoc] using this), HW4, HB4⟩
         case measure => simp [intOf]; omega
       | cons m mr =>
        simp only [List.length_cons] at hjn; have hj' : (j : Int) < (nm : Int) := by omega
        have hMA := hM.out wr (HH.out.rd _ _ hJq.out); obtain ⟨⟨v0, v1, v2, v3, v4, v5, v6, v8, v9, v10, v11⟩, _⟩ := hMA; obtain ⟨⟨_, _, _, _, g5q⟩, _⟩ := hR.out wr (HH.out.rd _ _ hJq.out); rw [HML.out] at g5q; have hma : ma = some ⟨blk ma, off ma, none⟩ := HM1.out.resolve_left (fun e => by have := HML.out; rw [e] at this; simp at this; omega); have cy := cell_of_one hWq.out.by_
        have hAm : A = (pre ++ q ++ [(⟨b, o + i * 6 + 2, Bh k, un⟩ : RefL)] ++ q2) ++ ((⟨blk ma, off ma + j * 12 + 6, Cw m.kind, m.wn⟩ : RefL) :: (Aw (blk ma) (off ma + j * 12 + 12) mr ++ (its.refsL (blk ia) (off ia) ++ (r.refsL b (o + i * 6 + 6) ++ post)))) := by
         rw [HAQ.out, hq2.out]; simp [Aw]
        clear v0 v2 v3 v4 v5 v6 v8 v9 v10 v11; generalize hmb : blk ma = mb at *; generalize hmo : off ma = mo at *; subst hma; by_cases hkk : 1 ≤ m.kind ∧ m.kind ≤ 9
        ·obtain ⟨hm1, hm9⟩ := hkk
         have hmk : D0 m = true := by unfold D0; simp [hm1, hm9]
         have HMK := qh hmk
         have hcm : (Cw m.kind = 1 ∧ (m.kind == 7) = true) ∨ (Cw m.kind = 1 ∧ (m.kind == 7) = false ∧ (m.kind == 8) = true) ∨ (Cw m.kind = 0 ∧ (m.kind == 7) = false ∧ (m.kind == 8) = false) := by
          unfold Cw; by_cases h7 : m.kind = 7
          ·left; simp [h7]
          ·by_cases h8 : m.kind = 8
           ·right; left; simp [h8]
           ·right; right; simp [h7, h8]
         clear hmk; rcases hcm with ⟨hmt, h7⟩ | ⟨hmt, h7, h8⟩ | ⟨hmt, h7, h8⟩
         all_goals
          gi_wp2_with (refine ⟨trivial, ?_⟩; refine (callsIn_wide.2 (Bn _ _)).mono ?_; rintro e w' ⟨rfl, rfl⟩); obtain ⟨fn', tmps', assign', body', hy, hR1⟩ := HH.out.one hAm hJq.out ((Below.refl wr.heap.size wr).drew) 9; unfold EU at hy; simp only [hmt] at hy
          first | rw [show ((1 : Nat) : Int) = 1 from rfl] at hy | rw [show ((0 : Nat) : Int) = 0 from rfl] at hy
          have HR1 := qh hR1; clear hR1 hAm v1; gi_region_with_o (refine RoundIn.mono (RoundIn.anyDepth rfl HR1.out) ?_; rintro e W3 (⟨t1, rfl, h1⟩ | ⟨rfl, hp⟩); rotate_left; (exact ⟨rfl, Or.inr (Or.inr ⟨rfl, hp⟩)⟩)); clear hy HR1 cy
          cases t1 with
          | false =>
           have hx : Jx W3 := by
            rcases h1.out with ⟨q1, _⟩ | ⟨_, q2⟩
            ·cases q1
            ·exact q2
           have HX := qh hx; clear hx h1; gi_wp2_with fail; go_ret; exact Or.inr (Or.inl ⟨rfl, HX.out⟩)
          | true =>
           obtain ⟨hJ3, hb3⟩ : J (pre ++ q ++ [(⟨b, o + i * 6 + 2, Bh k, un⟩ : RefL)] ++ q2 ++ [(⟨mb, mo + j * 12 + 6, Cw m.kind, m.wn⟩ : RefL)]) W3 ∧ Beyond B0 wr W3 := by
            rcases h1.out with ⟨_, q1, q2⟩ | ⟨q1, _⟩
            ·exact ⟨q1, q2⟩
            ·cases q1
           have HJ3 := qh hJ3; have HB3 := qh (hbq.out.trans hb3); have HW3 := qh (hWq.out.keep hb3); clear hJ3 hb3 h1; gi_wp2_with fail; go_roundw
           case rel => exact ⟨j + 1, mr, q2 ++ [(⟨mb, mo + j * 12 + 6, Cw m.kind, m.wn⟩ : RefL)], by go_num, by omega, qh (by
             rw [hq2.out]; simp only [Aw]; rw [Nat.add_mul, Nat.one_mul, ← Nat.add_assoc]; simp), qh (by
             rw [hks2.out, List.all_cons, HMK.out, Bool.true_and]), qh (fun W hW => by
             have := (hM.out W hW).2
             rw [Nat.add_mul, Nat.one_mul, ← Nat.add_assoc]; exact this), qh (by have := HJ3.out; simpa [List.append_assoc] using this), HW3, HB3⟩
           case measure => simp [intOf]; omega
        ·have hbad : T.strip.kinds = false := by
          rw [hks.out]; simp only [Lt.strip, Its.kinds]; rw [hks2.out, List.all_cons, show D0 m = false by unfold D0; simp; omega]; simp
         have hP : InP B0 J Jx Jp pre (T.refsL b o) T.strip.kinds W (.panicked (AC 170)) wr := Or.inr (Or.inr ⟨rfl, HH.out.bad _ _ _ hAm (HOK.out hbad) hJq.out⟩); have HP := qh hP; unfold AC at HP; clear hP hbad hAm cy; by_cases hm1 : 1 ≤ m.kind
         ·have hm9 : ¬ m.kind ≤ 9 := fun h => hkk ⟨hm1, h⟩
          gi_wp2_with (refine ⟨trivial, ?_⟩; refine (callsIn_wide.2 (AK _ _)).mono ?_; unfold Af; rintro e w' ⟨rfl, rfl⟩); exact ⟨rfl, HP.out⟩
         ·gi_wp2_with (refine ⟨trivial, ?_⟩; refine (callsIn_wide.2 (AK _ _)).mono ?_; unfold Af; rintro e w' ⟨rfl, rfl⟩)
          exact ⟨rfl, HP.out⟩
   ·have hbad : T.strip.kinds = false := by
     rw [hks.out]; simp only [Lt.strip, Its.kinds]; rw [show (decide (1 ≤ k) && decide (k ≤ 4)) = false by simp; omega]; rfl
    have hP : InP B0 J Jx Jp pre (T.refsL b o) T.strip.kinds W (.panicked (AC 170)) wr := Or.inr (Or.inr ⟨rfl, HH.out.bad _ _ _ hAq (HOK.out hbad) hJ.out⟩); have HP := qh hP; unfold AC at HP; clear hP hbad hAq; by_cases hk1 : 1 ≤ k
    ·have hk4 : ¬ k ≤ 4 := fun h => hkk ⟨hk1, h⟩
     gi_wp2_with (refine ⟨trivial, ?_⟩; refine (callsIn_wide.2 (AK _ _)).mono ?_; unfold Af; rintro e w' ⟨rfl, rfl⟩); exact ⟨rfl, HP.out⟩
    ·gi_wp2_with (refine ⟨trivial, ?_⟩; refine (callsIn_wide.2 (AK _ _)).mono ?_; unfold Af; rintro e w' ⟨rfl, rfl⟩)
     exact ⟨rfl, HP.out⟩
end
end
end Go.Proofs.Ytpnbpepkoekkoaa
