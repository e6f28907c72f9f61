/- Contracts and plain laws on the way to the statement: part 21. -/
import Derived.Test.YtpnbpepkoekkoaaZ20
import Derived.Test.YtpnbpepkoekkoaaZ10
import Derived.Test.YtpnbpepkoekkoaaZ3
set_option linter.unusedVariables false
set_option linter.unusedSimpArgs false
set_option maxRecDepth 100000
set_option maxHeartbeats 16000000
namespace Go.Proofs.Ytpnbpepkoekkoaa
open Go.Value (int)
open Go.IntKind (i64)
section
open Go Go.RowKit Go.Shelf
structure FldR (kB S : Nat) (s : Ls) (W : World) : Prop where
 box : W.cell? ⟨kB, 0, none⟩ = some (.pointer (some ⟨S, 0, none⟩))
 ph : W.cell? ⟨S, 10, none⟩ = some (.slice s.fa s.phrases.length s.fc)
 da : W.cell? ⟨S, 11, none⟩ = some (.slice s.da s.dances.length s.dc)
 phrases : AZ W (blk s.fa) (off s.fa) s.phrases
def OW (L : List RefL) (J : List RefL → World → Prop) (Jx Jp : World → Prop) (ok : Prop) (e : Ending) (W' : World) : Prop :=
 (∃ v, e = .returned v ∧ ((ok ∧ J L W') ∨ Jx W')) ∨ (e = .panicked (AC 170) ∧ Jp W')
noncomputable def Is : Code := (Try.f74.body).getD .skip
noncomputable def part74n4 : Code := Ab 4 Is
section
attribute [local go_sem] Oper.semAt_some
theorem Lm (B0 l yB tB kB S : Nat) (J : List RefL → World → Prop) (Jx Jp : World → Prop) (A : List RefL) (ok : Prop) (hok : ok) (Rd : World → Prop) (hH : InH B0 l J Jx Jp A ok Rd) (s : Ls) (hRd : ∀ W, Rd W → FldR kB S s W)
  (hform : s.dances = [] ∨ s.da = some ⟨blk s.da, off s.da, none⟩) (hlen : s.dances.length ≤ maxLen) (pre0 : List RefL) (hA : A = pre0 ++ Ak (blk s.da) (off s.da) s.dances) (W : World) (hW : InW B0 l yB tB W) (hj : J pre0 W)
  (e0 e4 e5 e6 e7 e8 e9 ea eb ec ed ee ef eg eh ei ej ek el em en eo ep eq er es et eu ev ew ex ey ez eA eB eC eD eE eF eG eH eI eJ eK eL eM eN eO eP eQ eR eS eT eU eV : Value) :
  part74n4.wpIn Fence.wide 10 Try.prog (bodyPost Try.prog Try.f74 (OW A J Jx Jp ok)) { tmps := #[e0, .pointer (some ⟨kB, 0, none⟩), .pointer (some ⟨yB, 0, none⟩), .pointer (some ⟨tB, 0, none⟩), e4, e5, e6, e7, e8, e9, ea, eb, ec, ed, ee, ef, eg, eh, ei, ej, ek, el, em, en, eo, ep, eq, er, es, et, eu, ev, ew, ex, ey, ez, eA, eB, eC, eD, eE, eF, eG, eH, eI, eJ, eK, eL, eM, eN, eO, eP, eQ, eR, eS, eT, eU, eV], defers := [] } W := by
 have hrdf : ∀ W, Rd W → W.cell? ⟨kB, 0, none⟩ = some (.pointer (some ⟨S, 0, none⟩)) ∧ W.cell? ⟨S, 10, none⟩ = some (.slice s.fa s.phrases.length s.fc) ∧ W.cell? ⟨S, 11, none⟩ = some (.slice s.da s.dances.length s.dc) ∧ True := fun W h => ⟨(hRd W h).box, (hRd W h).ph, (hRd W h).da, trivial⟩
 have HH := qh hH; have HRDF := qh hrdf; have HW := qh hW; have HJ := qh hj; have HA := qh hA; have HOK := qh hok; have HF := qh hform; clear hH hRd hrdf hW hj hA hok hform; unfold maxLen at hlen; have mixed : Try.prog.follows .mixedOrders = true := by kernel_rfl
 obtain ⟨ck, _, cs, _⟩ := HRDF.out _ (HH.out.rd _ _ HJ.out); generalize hn : s.dances.length = n at *; have HN := qh hn; clear hn; unfold part74n4 Is
 conv => arg 4; whnf
 gi_wp2_with fail; clear ck cs; gi_loopw [32] (fun iv wr => ∃ (i : Nat) (R : List Dan) (q : List RefL), iv = int i64 i ∧ i + R.length = n ∧ Hid (Ak (blk s.da) (off s.da) s.dances = q ++ Ak (blk s.da) (off s.da + i * 6) R) ∧ Hid (J (pre0 ++ q) wr) ∧ Hid (InW B0 l yB tB wr) ∧ Hid (Beyond B0 W wr)) (fun iv _ => n + 1 - (intOf iv).toNat)
 case atStart => exact ⟨0, s.dances, [], rfl, by rw [HN.out]; omega, qh (by simp), qh (by simpa using HJ.out), HW, qh (Beyond.refl _ _)⟩
 case round =>
  obtain ⟨i, R, q, rfl, hin, hq, hJ, hWr, hbo⟩ := hrel
  cases R with
  | nil =>
   simp only [List.length_nil] at hin; obtain rfl : i = n := by omega
   gi_wp2_with fail; go_end0; refine Or.inl ⟨_, rfl, Or.inl ⟨HOK.out, ?_⟩⟩; have := hq.out; simp only [Ak, List.append_nil] at this; rw [HA.out, this]; exact hJ.out
  | cons d r =>
   simp only [List.length_cons] at hin; have hi : (i : Int) < (n : Int) := by omega
   have hda : s.da = some ⟨blk s.da, off s.da, none⟩ := HF.out.resolve_left (fun e => by have := HN.out; rw [e] at this; simp at this; omega)
   have hA1 : A = (pre0 ++ q) ++ ((⟨blk s.da, off s.da + i * 6, 1, d.rn⟩ : RefL) :: ((⟨blk s.da, off s.da + i * 6 + 2, 2, d.pn⟩ : RefL) :: Ak (blk s.da) (off s.da + i * 6 + 6) r)) := by
    rw [HA.out, hq.out]; simp [Ak]
   generalize hdb : blk s.da = db at *; generalize hdo : off s.da = do0 at *; generalize hdv : s.da = dv at *; subst hda; have HA2 := qh (show A = (pre0 ++ q ++ [(⟨db, do0 + i * 6, 1, d.rn⟩ : RefL)]) ++ ((⟨db, do0 + i * 6 + 2, 2, d.pn⟩ : RefL) :: Ak db (do0 + i * 6 + 6) r) by rw [hA1]; simp); obtain ⟨ck, _, cs, _⟩ := HRDF.out wr.drew (HH.out.rd _ _ (HH.out.kept _ _ _ hJ.out (Below.refl wr.heap.size wr).drew)); have cy : wr.drew.cell? ⟨yB, 0, none⟩ = some (.func (.yield l) #[] #[]) := cell_of_one (hWr.out.keep (Beyond.of_below (Below.refl _ _).drew)).by_; obtain ⟨fn1, tm1, as1, bo1, hy1, hR1⟩ := HH.out.one hA1 hJ.out ((Below.refl wr.heap.size wr).drew) 9; unfold EU at hy1; rw [show ((1 : Nat) : Int) = 1 from rfl] at hy1; have HR1 := qh hR1; clear hR1 hA1; gi_wp2_with fail; refine wpIn_region_any mixed ?_; change wpAnyIn _ _ _ _ _ _ _ _ _ wr.drew; have HVB := qh (show Beyond B0 wr wr.drew from Beyond.of_below (Below.refl _ _).drew); generalize wr.drew = V at *; refine wpAnyIn_take (i := 5) (oi := _) (v := int i64 (i : Int)) rfl rfl (by kernel_rfl) (by kernel_rfl) (by kernel_rfl) (fun _ _ _ h => h) ⟨Or.inl ⟨by rfl, fun w => by go_simp⟩, fun w => by first | rfl | go_simp⟩ ?_
   try (simp only [Act.put, qA, qB, qC, qD, qE, qF])
   refine wpAnyIn_ready (rs := [0, 1]) (by kernel_rfl) (by simp) ?_; refine AllReadyIn.cons (o := _) rfl (fun K1 hK => ?_) (AllReadyIn.cons (o := _) rfl (fun K2 hK => ?_) AllReadyIn.nil)
   ·skip
    go_simp; refine hK _ _ ?_; clear hK
    try (simp only [Act.put, qA, qB, qC, qD, qE, qF])
    refine wpAnyIn_ready (rs := [1]) (by kernel_rfl) (by simp) ?_; refine AllReadyIn.cons (o := _) rfl (fun K1 hK => ?_) AllReadyIn.nil; go_simp; refine hK _ _ ?_; clear hK
    try (simp only [Act.put, qA, qB, qC, qD, qE, qF])
    refine wpAnyIn_take (i := 2) (oi := _) (v := (.pointer (some ⟨S, 0, none⟩))) rfl rfl (by kernel_rfl) (by kernel_rfl) (by kernel_rfl) (fun _ _ _ h => h) ⟨Or.inl ⟨by rfl, fun w => by go_simp⟩, fun w => by first | rfl | go_simp⟩ ?_
    try (simp only [Act.put, qA, qB, qC, qD, qE, qF])
    refine wpAnyIn_take (i := 3) (oi := _) (v := (.pointer (some ⟨S, 11, none⟩))) rfl rfl (by kernel_rfl) (by kernel_rfl) (by kernel_rfl) (fun _ _ _ h => h) ⟨Or.inl ⟨by rfl, fun w => by go_simp⟩, fun w => by first | rfl | go_simp⟩ ?_
    try (simp only [Act.put, qA, qB, qC, qD, qE, qF])
    refine wpAnyIn_ready (rs := [4]) (by kernel_rfl) (by simp) ?_; refine AllReadyIn.cons (o := _) rfl (fun K1 hK => ?_) AllReadyIn.nil; go_simp; refine hK _ _ ?_; clear hK
    try (simp only [Act.put, qA, qB, qC, qD, qE, qF])
    refine wpAnyIn_take (i := 6) (oi := _) (v := (.pointer (some ⟨db, do0 + i * 6, none⟩))) rfl rfl (by kernel_rfl) (by kernel_rfl) (by kernel_rfl) (fun _ _ _ h => h) ⟨Or.inl ⟨by rfl, fun w => by go_simp⟩, fun w => by first | rfl | go_simp⟩ ?_
    try (simp only [Act.put, qA, qB, qC, qD, qE, qF])
    refine wpAnyIn_take (i := 7) (oi := _) (v := (.pointer (some ⟨db, do0 + i * 6, none⟩))) rfl rfl (by kernel_rfl) (by kernel_rfl) (by kernel_rfl) (fun _ _ _ h => h) ⟨Or.inl ⟨by rfl, fun w => by go_simp⟩, fun w => by first | rfl | go_simp⟩ ?_
    try (simp only [Act.put, qA, qB, qC, qD, qE, qF])
    refine wpAnyIn_ready (rs := [8]) (by kernel_rfl) (by simp) ?_; refine AllReadyIn.cons (o := _) rfl (fun K1 hK => ?_) AllReadyIn.nil; go_simp; refine RoundIn.mono (RoundIn.anyDepth rfl HR1.out) ?_; rintro e W2 (⟨t1, rfl, h1⟩ | ⟨rfl, hp⟩)
    rotate_left
    ·exact ⟨rfl, Or.inr ⟨rfl, hp⟩⟩
    refine hK _ _ ?_; clear hK hy1 HR1 cy ck cs
    try (simp only [Act.put, qA, qB, qC, qD, qE, qF])
    cases t1 with
    | false =>
     refine wpAnyIn_take (i := 9) (oi := _) (v := .bool true) rfl rfl (by kernel_rfl) (by kernel_rfl) (by kernel_rfl) (fun _ _ _ h => h) ⟨Or.inl ⟨by rfl, fun w => by go_simp⟩, fun w => by first | rfl | go_simp⟩ ?_
     try (simp only [Act.put, qA, qB, qC, qD, qE, qF])
     refine wpAnyIn_take (i := 10) (oi := _) (v := .bool true) rfl rfl (by kernel_rfl) (by kernel_rfl) (by kernel_rfl) (fun _ _ _ h => h) ⟨Or.inl ⟨by rfl, fun w => by go_simp⟩, fun w => by first | rfl | go_simp⟩ ?_
     try (simp only [Act.put, qA, qB, qC, qD, qE, qF])
     refine wpAnyIn_take (i := 11) (oi := _) (v := undef) rfl rfl (by kernel_rfl) (by kernel_rfl) (by kernel_rfl) (fun _ _ _ h => h) ⟨Or.inr ⟨by rfl, rfl⟩, fun w => by first | rfl | go_simp⟩ ?_
     try (simp only [Act.put, qA, qB, qC, qD, qE, qF])
     refine wpAnyIn_take (i := 12) (oi := _) (v := undef) rfl rfl (by kernel_rfl) (by kernel_rfl) (by kernel_rfl) (fun _ _ _ h => h) ⟨Or.inr ⟨by rfl, rfl⟩, fun w => by first | rfl | go_simp⟩ ?_
     try (simp only [Act.put, qA, qB, qC, qD, qE, qF])
     refine wpAnyIn_take (i := 13) (oi := _) (v := undef) rfl rfl (by kernel_rfl) (by kernel_rfl) (by kernel_rfl) (fun _ _ _ h => h) ⟨Or.inr ⟨by rfl, rfl⟩, fun w => by first | rfl | go_simp⟩ ?_
     try (simp only [Act.put, qA, qB, qC, qD, qE, qF])
     refine wpAnyIn_take (i := 14) (oi := _) (v := undef) rfl rfl (by kernel_rfl) (by kernel_rfl) (by kernel_rfl) (fun _ _ _ h => h) ⟨Or.inr ⟨by rfl, rfl⟩, fun w => by first | rfl | go_simp⟩ ?_
     try (simp only [Act.put, qA, qB, qC, qD, qE, qF])
     refine wpAnyIn_take (i := 15) (oi := _) (v := undef) rfl rfl (by kernel_rfl) (by kernel_rfl) (by kernel_rfl) (fun _ _ _ h => h) ⟨Or.inr ⟨by rfl, rfl⟩, fun w => by first | rfl | go_simp⟩ ?_
     try (simp only [Act.put, qA, qB, qC, qD, qE, qF])
     refine wpAnyIn_take (i := 16) (oi := _) (v := undef) rfl rfl (by kernel_rfl) (by kernel_rfl) (by kernel_rfl) (fun _ _ _ h => h) ⟨Or.inr ⟨by rfl, rfl⟩, fun w => by first | rfl | go_simp⟩ ?_
     try (simp only [Act.put, qA, qB, qC, qD, qE, qF])
     refine wpAnyIn_take (i := 17) (oi := _) (v := undef) rfl rfl (by kernel_rfl) (by kernel_rfl) (by kernel_rfl) (fun _ _ _ h => h) ⟨Or.inr ⟨by rfl, rfl⟩, fun w => by first | rfl | go_simp⟩ ?_
     try (simp only [Act.put, qA, qB, qC, qD, qE, qF])
     refine wpAnyIn_take (i := 18) (oi := _) (v := undef) rfl rfl (by kernel_rfl) (by kernel_rfl) (by kernel_rfl) (fun _ _ _ h => h) ⟨Or.inr ⟨by rfl, rfl⟩, fun w => by first | rfl | go_simp⟩ ?_
     try (simp only [Act.put, qA, qB, qC, qD, qE, qF])
     refine wpAnyIn_take (i := 19) (oi := _) (v := undef) rfl rfl (by kernel_rfl) (by kernel_rfl) (by kernel_rfl) (fun _ _ _ h => h) ⟨Or.inr ⟨by rfl, rfl⟩, fun w => by first | rfl | go_simp⟩ ?_
     try (simp only [Act.put, qA, qB, qC, qD, qE, qF])
     refine wpAnyIn_take (i := 20) (oi := _) (v := undef) rfl rfl (by kernel_rfl) (by kernel_rfl) (by kernel_rfl) (fun _ _ _ h => h) ⟨Or.inr ⟨by rfl, rfl⟩, fun w => by first | rfl | go_simp⟩ ?_
     try (simp only [Act.put, qA, qB, qC, qD, qE, qF])
     refine wpAnyIn_take (i := 21) (oi := _) (v := .bool true) rfl rfl (by kernel_rfl) (by kernel_rfl) (by kernel_rfl) (fun _ _ _ h => h) ⟨Or.inl ⟨by rfl, fun w => by go_simp⟩, fun w => by first | rfl | go_simp⟩ ?_
     try (simp only [Act.put, qA, qB, qC, qD, qE, qF])
     refine wpAnyIn_done (by kernel_rfl) ?_ _; gi_wp2_with fail
     first | go_end0 | refine bodyPost_ret (results_none rfl _ _ _) rfl ?_
     have hx : Jx W2 := by
      rcases h1.out with ⟨q1, _⟩ | ⟨_, q2⟩
      ·cases q1
      ·exact q2
     exact Or.inl ⟨_, rfl, Or.inr hx⟩
    | true =>
     obtain ⟨hJ2, hb2⟩ : J (pre0 ++ q ++ [(⟨db, do0 + i * 6, 1, d.rn⟩ : RefL)]) W2 ∧ Beyond B0 wr W2 := by
      rcases h1.out with ⟨_, q1, q2⟩ | ⟨q1, _⟩
      ·exact ⟨q1, HVB.out.trans q2⟩
      ·cases q1
     have HJ2 := qh hJ2; have HB2 := qh (hbo.out.trans hb2); have hW2 := hWr.out.keep hb2; clear h1; obtain ⟨ck2, _, cs2, _⟩ := HRDF.out _ (HH.out.rd _ _ hJ2); have cy2 := cell_of_one hW2.by_; obtain ⟨fn2, tm2, as2, bo2, hy2, hR2⟩ := HH.out.one HA2.out hJ2 (Below.refl W2.heap.size W2) 9; unfold EU at hy2; rw [show ((2 : Nat) : Int) = 2 from rfl] at hy2; have HR2 := qh hR2; have HW2 := qh hW2; clear hR2 hJ2 hb2 hW2; refine wpAnyIn_take (i := 9) (oi := _) (v := .bool false) rfl rfl (by kernel_rfl) (by kernel_rfl) (by kernel_rfl) (fun _ _ _ h => h) ⟨Or.inl ⟨by rfl, fun w => by go_simp⟩, fun w => by first | rfl | go_simp⟩ ?_
     try (simp only [Act.put, qA, qB, qC, qD, qE, qF])
     refine wpAnyIn_take (i := 10) (oi := _) (v := .bool false) rfl rfl (by kernel_rfl) (by kernel_rfl) (by kernel_rfl) (fun _ _ _ h => h) ⟨Or.inl ⟨by rfl, fun w => by go_simp⟩, fun w => by first | rfl | go_simp⟩ ?_
     try (simp only [Act.put, qA, qB, qC, qD, qE, qF])
     refine wpAnyIn_take (i := 16) (oi := _) (v := int i64 (i : Int)) rfl rfl (by kernel_rfl) (by kernel_rfl) (by kernel_rfl) (fun _ _ _ h => h) ⟨Or.inl ⟨by rfl, fun w => by go_simp⟩, fun w => by first | rfl | go_simp⟩ ?_
     try (simp only [Act.put, qA, qB, qC, qD, qE, qF])
     refine wpAnyIn_ready (rs := [11, 12]) (by kernel_rfl) (by simp) ?_; refine AllReadyIn.cons (o := _) rfl (fun K1 hK => ?_) (AllReadyIn.cons (o := _) rfl (fun K2 hK => ?_) AllReadyIn.nil)
     ·skip
      go_simp; refine hK _ _ ?_; clear hK
      try (simp only [Act.put, qA, qB, qC, qD, qE, qF])
      refine wpAnyIn_ready (rs := [12]) (by kernel_rfl) (by simp) ?_; refine AllReadyIn.cons (o := _) rfl (fun K1 hK => ?_) AllReadyIn.nil; go_simp; refine hK _ _ ?_; clear hK
      try (simp only [Act.put, qA, qB, qC, qD, qE, qF])
      refine wpAnyIn_take (i := 13) (oi := _) (v := (.pointer (some ⟨S, 0, none⟩))) rfl rfl (by kernel_rfl) (by kernel_rfl) (by kernel_rfl) (fun _ _ _ h => h) ⟨Or.inl ⟨by rfl, fun w => by go_simp⟩, fun w => by first | rfl | go_simp⟩ ?_
      try (simp only [Act.put, qA, qB, qC, qD, qE, qF])
      refine wpAnyIn_take (i := 14) (oi := _) (v := (.pointer (some ⟨S, 11, none⟩))) rfl rfl (by kernel_rfl) (by kernel_rfl) (by kernel_rfl) (fun _ _ _ h => h) ⟨Or.inl ⟨by rfl, fun w => by go_simp⟩, fun w => by first | rfl | go_simp⟩ ?_
      try (simp only [Act.put, qA, qB, qC, qD, qE, qF])
      refine wpAnyIn_ready (rs := [15]) (by kernel_rfl) (by simp) ?_; refine AllReadyIn.cons (o := _) rfl (fun K1 hK => ?_) AllReadyIn.nil; go_simp; refine hK _ _ ?_; clear hK
      try (simp only [Act.put, qA, qB, qC, qD, qE, qF])
      refine wpAnyIn_take (i := 17) (oi := _) (v := (.pointer (some ⟨db, do0 + i * 6, none⟩))) rfl rfl (by kernel_rfl) (by kernel_rfl) (by kernel_rfl) (fun _ _ _ h => h) ⟨Or.inl ⟨by rfl, fun w => by go_simp⟩, fun w => by first | rfl | go_simp⟩ ?_
      try (simp only [Act.put, qA, qB, qC, qD, qE, qF])
      refine wpAnyIn_take (i := 18) (oi := _) (v := (.pointer (some ⟨db, do0 + i * 6 + 2, none⟩))) rfl rfl (by kernel_rfl) (by kernel_rfl) (by kernel_rfl) (fun _ _ _ h => h) ⟨Or.inl ⟨by rfl, fun w => by go_simp⟩, fun w => by first | rfl | go_simp⟩ ?_
      try (simp only [Act.put, qA, qB, qC, qD, qE, qF])
      refine wpAnyIn_ready (rs := [19]) (by kernel_rfl) (by simp) ?_; refine AllReadyIn.cons (o := _) rfl (fun K1 hK => ?_) AllReadyIn.nil; go_simp; refine RoundIn.mono (RoundIn.anyDepth rfl HR2.out) ?_; rintro e W3 (⟨t2, rfl, h2⟩ | ⟨rfl, hp⟩)
      rotate_left
      ·exact ⟨rfl, Or.inr ⟨rfl, hp⟩⟩
      refine hK _ _ ?_; clear hK hy2 HR2 cy2 ck2 cs2
      try (simp only [Act.put, qA, qB, qC, qD, qE, qF])
      cases t2 with
      | false =>
       refine wpAnyIn_take (i := 20) (oi := _) (v := .bool true) rfl rfl (by kernel_rfl) (by kernel_rfl) (by kernel_rfl) (fun _ _ _ h => h) ⟨Or.inl ⟨by rfl, fun w => by go_simp⟩, fun w => by first | rfl | go_simp⟩ ?_
       try (simp only [Act.put, qA, qB, qC, qD, qE, qF])
       refine wpAnyIn_take (i := 21) (oi := _) (v := .bool true) rfl rfl (by kernel_rfl) (by kernel_rfl) (by kernel_rfl) (fun _ _ _ h => h) ⟨Or.inl ⟨by rfl, fun w => by go_simp⟩, fun w => by first | rfl | go_simp⟩ ?_
       try (simp only [Act.put, qA, qB, qC, qD, qE, qF])
       refine wpAnyIn_done (by kernel_rfl) ?_ _; gi_wp2_with fail
       first | go_end0 | refine bodyPost_ret (results_none rfl _ _ _) rfl ?_
       have hx : Jx W3 := by
        rcases h2.out with ⟨q1, _⟩ | ⟨_, q2⟩
        ·cases q1
        ·exact q2
       exact Or.inl ⟨_, rfl, Or.inr hx⟩
      | true =>
       refine wpAnyIn_take (i := 20) (oi := _) (v := .bool false) rfl rfl (by kernel_rfl) (by kernel_rfl) (by kernel_rfl) (fun _ _ _ h => h) ⟨Or.inl ⟨by rfl, fun w => by go_simp⟩, fun w => by first | rfl | go_simp⟩ ?_
       try (simp only [Act.put, qA, qB, qC, qD, qE, qF])
       refine wpAnyIn_take (i := 21) (oi := _) (v := .bool false) rfl rfl (by kernel_rfl) (by kernel_rfl) (by kernel_rfl) (fun _ _ _ h => h) ⟨Or.inl ⟨by rfl, fun w => by go_simp⟩, fun w => by first | rfl | go_simp⟩ ?_
       try (simp only [Act.put, qA, qB, qC, qD, qE, qF])
       refine wpAnyIn_done (by kernel_rfl) ?_ _
       obtain ⟨hJ3, hb3⟩ : J (pre0 ++ q ++ [(⟨db, do0 + i * 6, 1, d.rn⟩ : RefL)] ++ [(⟨db, do0 + i * 6 + 2, 2, d.pn⟩ : RefL)]) W3 ∧ Beyond B0 W2 W3 := by
        rcases h2.out with ⟨_, q1, q2⟩ | ⟨q1, _⟩
        ·exact ⟨q1, q2⟩
        ·cases q1
       have HJ3 := qh hJ3; have HB3 := qh (HB2.out.trans hb3); have HW3 := qh (HW2.out.keep hb3); clear h2 hJ3 hb3; gi_wp2_with fail; go_roundw
       case rel => exact ⟨i + 1, r, q ++ [(⟨db, do0 + i * 6, 1, d.rn⟩ : RefL), (⟨db, do0 + i * 6 + 2, 2, d.pn⟩ : RefL)], by go_num, by omega, qh (by rw [hq.out]; simp only [Ak]; rw [Nat.add_mul, Nat.one_mul, ← Nat.add_assoc]; simp), qh (by have := HJ3.out; simpa [List.append_assoc] using this), HW3, HB3⟩
       case measure => simp [intOf]; omega
     ·skip
      go_simp; refine hK _ _ ?_; clear hK
      try (simp only [Act.put, qA, qB, qC, qD, qE, qF])
      refine wpAnyIn_take (i := 13) (oi := _) (v := (.pointer (some ⟨S, 0, none⟩))) rfl rfl (by kernel_rfl) (by kernel_rfl) (by kernel_rfl) (fun _ _ _ h => h) ⟨Or.inl ⟨by rfl, fun w => by go_simp⟩, fun w => by first | rfl | go_simp⟩ ?_
      try (simp only [Act.put, qA, qB, qC, qD, qE, qF])
      refine wpAnyIn_take (i := 14) (oi := _) (v := (.pointer (some ⟨S, 11, none⟩))) rfl rfl (by kernel_rfl) (by kernel_rfl) (by kernel_rfl) (fun _ _ _ h => h) ⟨Or.inl ⟨by rfl, fun w => by go_simp⟩, fun w => by first | rfl | go_simp⟩ ?_
      try (simp only [Act.put, qA, qB, qC, qD, qE, qF])
      refine wpAnyIn_ready (rs := [11, 15]) (by kernel_rfl) (by simp) ?_; refine AllReadyIn.cons (o := _) rfl (fun K1 hK => ?_) (AllReadyIn.cons (o := _) rfl (fun K2 hK => ?_) AllReadyIn.nil)
      ·skip
       go_simp; refine hK _ _ ?_; clear hK
       try (simp only [Act.put, qA, qB, qC, qD, qE, qF])
       refine wpAnyIn_ready (rs := [15]) (by kernel_rfl) (by simp) ?_; refine AllReadyIn.cons (o := _) rfl (fun K1 hK => ?_) AllReadyIn.nil; go_simp; refine hK _ _ ?_; clear hK
       try (simp only [Act.put, qA, qB, qC, qD, qE, qF])
       refine wpAnyIn_take (i := 17) (oi := _) (v := (.pointer (some ⟨db, do0 + i * 6, none⟩))) rfl rfl (by kernel_rfl) (by kernel_rfl) (by kernel_rfl) (fun _ _ _ h => h) ⟨Or.inl ⟨by rfl, fun w => by go_simp⟩, fun w => by first | rfl | go_simp⟩ ?_
       try (simp only [Act.put, qA, qB, qC, qD, qE, qF])
       refine wpAnyIn_take (i := 18) (oi := _) (v := (.pointer (some ⟨db, do0 + i * 6 + 2, none⟩))) rfl rfl (by kernel_rfl) (by kernel_rfl) (by kernel_rfl) (fun _ _ _ h => h) ⟨Or.inl ⟨by rfl, fun w => by go_simp⟩, fun w => by first | rfl | go_simp⟩ ?_
       try (simp only [Act.put, qA, qB, qC, qD, qE, qF])
       refine wpAnyIn_ready (rs := [19]) (by kernel_rfl) (by simp) ?_; refine AllReadyIn.cons (o := _) rfl (fun K1 hK => ?_) AllReadyIn.nil; go_simp; refine RoundIn.mono (RoundIn.anyDepth rfl HR2.out) ?_; rintro e W3 (⟨t2, rfl, h2⟩ | ⟨rfl, hp⟩)
       rotate_left
       ·exact ⟨rfl, Or.inr ⟨rfl, hp⟩⟩
       refine hK _ _ ?_; clear hK hy2 HR2 cy2 ck2 cs2
       try (simp only [Act.put, qA, qB, qC, qD, qE, qF])
       cases t2 with
       | false =>
        refine wpAnyIn_take (i := 20) (oi := _) (v := .bool true) rfl rfl (by kernel_rfl) (by kernel_rfl) (by kernel_rfl) (fun _ _ _ h => h) ⟨Or.inl ⟨by rfl, fun w => by go_simp⟩, fun w => by first | rfl | go_simp⟩ ?_
        try (simp only [Act.put, qA, qB, qC, qD, qE, qF])
        refine wpAnyIn_take (i := 21) (oi := _) (v := .bool true) rfl rfl (by kernel_rfl) (by kernel_rfl) (by kernel_rfl) (fun _ _ _ h => h) ⟨Or.inl ⟨by rfl, fun w => by go_simp⟩, fun w => by first | rfl | go_simp⟩ ?_
        try (simp only [Act.put, qA, qB, qC, qD, qE, qF])
        refine wpAnyIn_done (by kernel_rfl) ?_ _; gi_wp2_with fail
        first | go_end0 | refine bodyPost_ret (results_none rfl _ _ _) rfl ?_
        have hx : Jx W3 := by
         rcases h2.out with ⟨q1, _⟩ | ⟨_, q2⟩
         ·cases q1
         ·exact q2
        exact Or.inl ⟨_, rfl, Or.inr hx⟩
       | true =>
        refine wpAnyIn_take (i := 20) (oi := _) (v := .bool false) rfl rfl (by kernel_rfl) (by kernel_rfl) (by kernel_rfl) (fun _ _ _ h => h) ⟨Or.inl ⟨by rfl, fun w => by go_simp⟩, fun w => by first | rfl | go_simp⟩ ?_
        try (simp only [Act.put, qA, qB, qC, qD, qE, qF])
        refine wpAnyIn_take (i := 21) (oi := _) (v := .bool false) rfl rfl (by kernel_rfl) (by kernel_rfl) (by kernel_rfl) (fun _ _ _ h => h) ⟨Or.inl ⟨by rfl, fun w => by go_simp⟩, fun w => by first | rfl | go_simp⟩ ?_
        try (simp only [Act.put, qA, qB, qC, qD, qE, qF])
        refine wpAnyIn_done (by kernel_rfl) ?_ _
        obtain ⟨hJ3, hb3⟩ : J (pre0 ++ q ++ [(⟨db, do0 + i * 6, 1, d.rn⟩ : RefL)] ++ [(⟨db, do0 + i * 6 + 2, 2, d.pn⟩ : RefL)]) W3 ∧ Beyond B0 W2 W3 := by
         rcases h2.out with ⟨_, q1, q2⟩ | ⟨q1, _⟩
         ·exact ⟨q1, q2⟩
         ·cases q1
        have HJ3 := qh hJ3; have HB3 := qh (HB2.out.trans hb3); have HW3 := qh (HW2.out.keep hb3); clear h2 hJ3 hb3; gi_wp2_with fail; go_roundw
        case rel => exact ⟨i + 1, r, q ++ [(⟨db, do0 + i * 6, 1, d.rn⟩ : RefL), (⟨db, do0 + i * 6 + 2, 2, d.pn⟩ : RefL)], by go_num, by omega, qh (by rw [hq.out]; simp only [Ak]; rw [Nat.add_mul, Nat.one_mul, ← Nat.add_assoc]; simp), qh (by have := HJ3.out; simpa [List.append_assoc] using this), HW3, HB3⟩
        case measure => simp [intOf]; omega
      ·skip
       go_simp; refine hK _ _ ?_; clear hK
       try (simp only [Act.put, qA, qB, qC, qD, qE, qF])
       refine wpAnyIn_take (i := 17) (oi := _) (v := (.pointer (some ⟨db, do0 + i * 6, none⟩))) rfl rfl (by kernel_rfl) (by kernel_rfl) (by kernel_rfl) (fun _ _ _ h => h) ⟨Or.inl ⟨by rfl, fun w => by go_simp⟩, fun w => by first | rfl | go_simp⟩ ?_
       try (simp only [Act.put, qA, qB, qC, qD, qE, qF])
       refine wpAnyIn_take (i := 18) (oi := _) (v := (.pointer (some ⟨db, do0 + i * 6 + 2, none⟩))) rfl rfl (by kernel_rfl) (by kernel_rfl) (by kernel_rfl) (fun _ _ _ h => h) ⟨Or.inl ⟨by rfl, fun w => by go_simp⟩, fun w => by first | rfl | go_simp⟩ ?_
       try (simp only [Act.put, qA, qB, qC, qD, qE, qF])
       refine wpAnyIn_ready (rs := [11]) (by kernel_rfl) (by simp) ?_; refine AllReadyIn.cons (o := _) rfl (fun K1 hK => ?_) AllReadyIn.nil; go_simp; refine hK _ _ ?_; clear hK
       try (simp only [Act.put, qA, qB, qC, qD, qE, qF])
       refine wpAnyIn_ready (rs := [19]) (by kernel_rfl) (by simp) ?_; refine AllReadyIn.cons (o := _) rfl (fun K1 hK => ?_) AllReadyIn.nil; go_simp; refine RoundIn.mono (RoundIn.anyDepth rfl HR2.out) ?_; rintro e W3 (⟨t2, rfl, h2⟩ | ⟨rfl, hp⟩)
       rotate_left
       ·exact ⟨rfl, Or.inr ⟨rfl, hp⟩⟩
       refine hK _ _ ?_; clear hK hy2 HR2 cy2 ck2 cs2
       try (simp only [Act.put, qA, qB, qC, qD, qE, qF])
       cases t2 with
       | false =>
        refine wpAnyIn_take (i := 20) (oi := _) (v := .bool true) rfl rfl (by kernel_rfl) (by kernel_rfl) (by kernel_rfl) (fun _ _ _ h => h) ⟨Or.inl ⟨by rfl, fun w => by go_simp⟩, fun w => by first | rfl | go_simp⟩ ?_
        try (simp only [Act.put, qA, qB, qC, qD, qE, qF])
        refine wpAnyIn_take (i := 21) (oi := _) (v := .bool true) rfl rfl (by kernel_rfl) (by kernel_rfl) (by kernel_rfl) (fun _ _ _ h => h) ⟨Or.inl ⟨by rfl, fun w => by go_simp⟩, fun w => by first | rfl | go_simp⟩ ?_
        try (simp only [Act.put, qA, qB, qC, qD, qE, qF])
        refine wpAnyIn_done (by kernel_rfl) ?_ _; gi_wp2_with fail
        first | go_end0 | refine bodyPost_ret (results_none rfl _ _ _) rfl ?_
        have hx : Jx W3 := by
         rcases h2.out with ⟨q1, _⟩ | ⟨_, q2⟩
         ·cases q1
         ·exact q2
        exact Or.inl ⟨_, rfl, Or.inr hx⟩
       | true =>
        refine wpAnyIn_take (i := 20) (oi := _) (v := .bool false) rfl rfl (by kernel_rfl) (by kernel_rfl) (by kernel_rfl) (fun _ _ _ h => h) ⟨Or.inl ⟨by rfl, fun w => by go_simp⟩, fun w => by first | rfl | go_simp⟩ ?_
        try (simp only [Act.put, qA, qB, qC, qD, qE, qF])
        refine wpAnyIn_take (i := 21) (oi := _) (v := .bool false) rfl rfl (by kernel_rfl) (by kernel_rfl) (by kernel_rfl) (fun _ _ _ h => h) ⟨Or.inl ⟨by rfl, fun w => by go_simp⟩, fun w => by first | rfl | go_simp⟩ ?_
        try (simp only [Act.put, qA, qB, qC, qD, qE, qF])
        refine wpAnyIn_done (by kernel_rfl) ?_ _
        obtain ⟨hJ3, hb3⟩ : J (pre0 ++ q ++ [(⟨db, do0 + i * 6, 1, d.rn⟩ : RefL)] ++ [(⟨db, do0 + i * 6 + 2, 2, d.pn⟩ : RefL)]) W3 ∧ Beyond B0 W2 W3 := by
         rcases h2.out with ⟨_, q1, q2⟩ | ⟨q1, _⟩
         ·exact ⟨q1, q2⟩
         ·cases q1
        have HJ3 := qh hJ3; have HB3 := qh (HB2.out.trans hb3); have HW3 := qh (HW2.out.keep hb3); clear h2 hJ3 hb3; gi_wp2_with fail; go_roundw
        case rel => exact ⟨i + 1, r, q ++ [(⟨db, do0 + i * 6, 1, d.rn⟩ : RefL), (⟨db, do0 + i * 6 + 2, 2, d.pn⟩ : RefL)], by go_num, by omega, qh (by rw [hq.out]; simp only [Ak]; rw [Nat.add_mul, Nat.one_mul, ← Nat.add_assoc]; simp), qh (by have := HJ3.out; simpa [List.append_assoc] using this), HW3, HB3⟩
        case measure => simp [intOf]; omega
   ·skip
    go_simp; refine hK _ _ ?_; clear hK
    try (simp only [Act.put, qA, qB, qC, qD, qE, qF])
    refine wpAnyIn_take (i := 2) (oi := _) (v := (.pointer (some ⟨S, 0, none⟩))) rfl rfl (by kernel_rfl) (by kernel_rfl) (by kernel_rfl) (fun _ _ _ h => h) ⟨Or.inl ⟨by rfl, fun w => by go_simp⟩, fun w => by first | rfl | go_simp⟩ ?_
    try (simp only [Act.put, qA, qB, qC, qD, qE, qF])
    refine wpAnyIn_take (i := 3) (oi := _) (v := (.pointer (some ⟨S, 11, none⟩))) rfl rfl (by kernel_rfl) (by kernel_rfl) (by kernel_rfl) (fun _ _ _ h => h) ⟨Or.inl ⟨by rfl, fun w => by go_simp⟩, fun w => by first | rfl | go_simp⟩ ?_
    try (simp only [Act.put, qA, qB, qC, qD, qE, qF])
    refine wpAnyIn_ready (rs := [0, 4]) (by kernel_rfl) (by simp) ?_; refine AllReadyIn.cons (o := _) rfl (fun K1 hK => ?_) (AllReadyIn.cons (o := _) rfl (fun K2 hK => ?_) AllReadyIn.nil)
    ·skip
     go_simp; refine hK _ _ ?_; clear hK
     try (simp only [Act.put, qA, qB, qC, qD, qE, qF])
     refine wpAnyIn_ready (rs := [4]) (by kernel_rfl) (by simp) ?_; refine AllReadyIn.cons (o := _) rfl (fun K1 hK => ?_) AllReadyIn.nil; go_simp; refine hK _ _ ?_; clear hK
     try (simp only [Act.put, qA, qB, qC, qD, qE, qF])
     refine wpAnyIn_take (i := 6) (oi := _) (v := (.pointer (some ⟨db, do0 + i * 6, none⟩))) rfl rfl (by kernel_rfl) (by kernel_rfl) (by kernel_rfl) (fun _ _ _ h => h) ⟨Or.inl ⟨by rfl, fun w => by go_simp⟩, fun w => by first | rfl | go_simp⟩ ?_
     try (simp only [Act.put, qA, qB, qC, qD, qE, qF])
     refine wpAnyIn_take (i := 7) (oi := _) (v := (.pointer (some ⟨db, do0 + i * 6, none⟩))) rfl rfl (by kernel_rfl) (by kernel_rfl) (by kernel_rfl) (fun _ _ _ h => h) ⟨Or.inl ⟨by rfl, fun w => by go_simp⟩, fun w => by first | rfl | go_simp⟩ ?_
     try (simp only [Act.put, qA, qB, qC, qD, qE, qF])
     refine wpAnyIn_ready (rs := [8]) (by kernel_rfl) (by simp) ?_; refine AllReadyIn.cons (o := _) rfl (fun K1 hK => ?_) AllReadyIn.nil; go_simp; refine RoundIn.mono (RoundIn.anyDepth rfl HR1.out) ?_; rintro e W2 (⟨t1, rfl, h1⟩ | ⟨rfl, hp⟩)
     rotate_left
     ·exact ⟨rfl, Or.inr ⟨rfl, hp⟩⟩
     refine hK _ _ ?_; clear hK hy1 HR1 cy ck cs
     try (simp only [Act.put, qA, qB, qC, qD, qE, qF])
     cases t1 with
     | false =>
      refine wpAnyIn_take (i := 9) (oi := _) (v := .bool true) rfl rfl (by kernel_rfl) (by kernel_rfl) (by kernel_rfl) (fun _ _ _ h => h) ⟨Or.inl ⟨by rfl, fun w => by go_simp⟩, fun w => by first | rfl | go_simp⟩ ?_
      try (simp only [Act.put, qA, qB, qC, qD, qE, qF])
      refine wpAnyIn_take (i := 10) (oi := _) (v := .bool true) rfl rfl (by kernel_rfl) (by kernel_rfl) (by kernel_rfl) (fun _ _ _ h => h) ⟨Or.inl ⟨by rfl, fun w => by go_simp⟩, fun w => by first | rfl | go_simp⟩ ?_
      try (simp only [Act.put, qA, qB, qC, qD, qE, qF])
      refine wpAnyIn_take (i := 11) (oi := _) (v := undef) rfl rfl (by kernel_rfl) (by kernel_rfl) (by kernel_rfl) (fun _ _ _ h => h) ⟨Or.inr ⟨by rfl, rfl⟩, fun w => by first | rfl | go_simp⟩ ?_
      try (simp only [Act.put, qA, qB, qC, qD, qE, qF])
      refine wpAnyIn_take (i := 12) (oi := _) (v := undef) rfl rfl (by kernel_rfl) (by kernel_rfl) (by kernel_rfl) (fun _ _ _ h => h) ⟨Or.inr ⟨by rfl, rfl⟩, fun w => by first | rfl | go_simp⟩ ?_
      try (simp only [Act.put, qA, qB, qC, qD, qE, qF])
      refine wpAnyIn_take (i := 13) (oi := _) (v := undef) rfl rfl (by kernel_rfl) (by kernel_rfl) (by kernel_rfl) (fun _ _ _ h => h) ⟨Or.inr ⟨by rfl, rfl⟩, fun w => by first | rfl | go_simp⟩ ?_
      try (simp only [Act.put, qA, qB, qC, qD, qE, qF])
      refine wpAnyIn_take (i := 14) (oi := _) (v := undef) rfl rfl (by kernel_rfl) (by kernel_rfl) (by kernel_rfl) (fun _ _ _ h => h) ⟨Or.inr ⟨by rfl, rfl⟩, fun w => by first | rfl | go_simp⟩ ?_
      try (simp only [Act.put, qA, qB, qC, qD, qE, qF])
      refine wpAnyIn_take (i := 15) (oi := _) (v := undef) rfl rfl (by kernel_rfl) (by kernel_rfl) (by kernel_rfl) (fun _ _ _ h => h) ⟨Or.inr ⟨by rfl, rfl⟩, fun w => by first | rfl | go_simp⟩ ?_
      try (simp only [Act.put, qA, qB, qC, qD, qE, qF])
      refine wpAnyIn_take (i := 16) (oi := _) (v := undef) rfl rfl (by kernel_rfl) (by kernel_rfl) (by kernel_rfl) (fun _ _ _ h => h) ⟨Or.inr ⟨by rfl, rfl⟩, fun w => by first | rfl | go_simp⟩ ?_
      try (simp only [Act.put, qA, qB, qC, qD, qE, qF])
      refine wpAnyIn_take (i := 17) (oi := _) (v := undef) rfl rfl (by kernel_rfl) (by kernel_rfl) (by kernel_rfl) (fun _ _ _ h => h) ⟨Or.inr ⟨by rfl, rfl⟩, fun w => by first | rfl | go_simp⟩ ?_
      try (simp only [Act.put, qA, qB, qC, qD, qE, qF])
      refine wpAnyIn_take (i := 18) (oi := _) (v := undef) rfl rfl (by kernel_rfl) (by kernel_rfl) (by kernel_rfl) (fun _ _ _ h => h) ⟨Or.inr ⟨by rfl, rfl⟩, fun w => by first | rfl | go_simp⟩ ?_
      try (simp only [Act.put, qA, qB, qC, qD, qE, qF])
      refine wpAnyIn_take (i := 19) (oi := _) (v := undef) rfl rfl (by kernel_rfl) (by kernel_rfl) (by kernel_rfl) (fun _ _ _ h => h) ⟨Or.inr ⟨by rfl, rfl⟩, fun w => by first | rfl | go_simp⟩ ?_
      try (simp only [Act.put, qA, qB, qC, qD, qE, qF])
      refine wpAnyIn_take (i := 20) (oi := _) (v := undef) rfl rfl (by kernel_rfl) (by kernel_rfl) (by kernel_rfl) (fun _ _ _ h => h) ⟨Or.inr ⟨by rfl, rfl⟩, fun w => by first | rfl | go_simp⟩ ?_
      try (simp only [Act.put, qA, qB, qC, qD, qE, qF])
      refine wpAnyIn_take (i := 21) (oi := _) (v := .bool true) rfl rfl (by kernel_rfl) (by kernel_rfl) (by kernel_rfl) (fun _ _ _ h => h) ⟨Or.inl ⟨by rfl, fun w => by go_simp⟩, fun w => by first | rfl | go_simp⟩ ?_
      try (simp only [Act.put, qA, qB, qC, qD, qE, qF])
      refine wpAnyIn_done (by kernel_rfl) ?_ _; gi_wp2_with fail
      first | go_end0 | refine bodyPost_ret (results_none rfl _ _ _) rfl ?_
      have hx : Jx W2 := by
       rcases h1.out with ⟨q1, _⟩ | ⟨_, q2⟩
       ·cases q1
       ·exact q2
      exact Or.inl ⟨_, rfl, Or.inr hx⟩
     | true =>
      obtain ⟨hJ2, hb2⟩ : J (pre0 ++ q ++ [(⟨db, do0 + i * 6, 1, d.rn⟩ : RefL)]) W2 ∧ Beyond B0 wr W2 := by
       rcases h1.out with ⟨_, q1, q2⟩ | ⟨q1, _⟩
       ·exact ⟨q1, HVB.out.trans q2⟩
       ·cases q1
      have HJ2 := qh hJ2; have HB2 := qh (hbo.out.trans hb2); have hW2 := hWr.out.keep hb2; clear h1; obtain ⟨ck2, _, cs2, _⟩ := HRDF.out _ (HH.out.rd _ _ hJ2); have cy2 := cell_of_one hW2.by_; obtain ⟨fn2, tm2, as2, bo2, hy2, hR2⟩ := HH.out.one HA2.out hJ2 (Below.refl W2.heap.size W2) 9; unfold EU at hy2; rw [show ((2 : Nat) : Int) = 2 from rfl] at hy2; have HR2 := qh hR2; have HW2 := qh hW2; clear hR2 hJ2 hb2 hW2; refine wpAnyIn_take (i := 9) (oi := _) (v := .bool false) rfl rfl (by kernel_rfl) (by kernel_rfl) (by kernel_rfl) (fun _ _ _ h => h) ⟨Or.inl ⟨by rfl, fun w => by go_simp⟩, fun w => by first | rfl | go_simp⟩ ?_
      try (simp only [Act.put, qA, qB, qC, qD, qE, qF])
      refine wpAnyIn_take (i := 10) (oi := _) (v := .bool false) rfl rfl (by kernel_rfl) (by kernel_rfl) (by kernel_rfl) (fun _ _ _ h => h) ⟨Or.inl ⟨by rfl, fun w => by go_simp⟩, fun w => by first | rfl | go_simp⟩ ?_
      try (simp only [Act.put, qA, qB, qC, qD, qE, qF])
      refine wpAnyIn_take (i := 16) (oi := _) (v := int i64 (i : Int)) rfl rfl (by kernel_rfl) (by kernel_rfl) (by kernel_rfl) (fun _ _ _ h => h) ⟨Or.inl ⟨by rfl, fun w => by go_simp⟩, fun w => by first | rfl | go_simp⟩ ?_
      try (simp only [Act.put, qA, qB, qC, qD, qE, qF])
      refine wpAnyIn_ready (rs := [11, 12]) (by kernel_rfl) (by simp) ?_; refine AllReadyIn.cons (o := _) rfl (fun K1 hK => ?_) (AllReadyIn.cons (o := _) rfl (fun K2 hK => ?_) AllReadyIn.nil)
      ·skip
       go_simp; refine hK _ _ ?_; clear hK
       try (simp only [Act.put, qA, qB, qC, qD, qE, qF])
       refine wpAnyIn_ready (rs := [12]) (by kernel_rfl) (by simp) ?_; refine AllReadyIn.cons (o := _) rfl (fun K1 hK => ?_) AllReadyIn.nil; go_simp; refine hK _ _ ?_; clear hK
       try (simp only [Act.put, qA, qB, qC, qD, qE, qF])
       refine wpAnyIn_take (i := 13) (oi := _) (v := (.pointer (some ⟨S, 0, none⟩))) rfl rfl (by kernel_rfl) (by kernel_rfl) (by kernel_rfl) (fun _ _ _ h => h) ⟨Or.inl ⟨by rfl, fun w => by go_simp⟩, fun w => by first | rfl | go_simp⟩ ?_
       try (simp only [Act.put, qA, qB, qC, qD, qE, qF])
       refine wpAnyIn_take (i := 14) (oi := _) (v := (.pointer (some ⟨S, 11, none⟩))) rfl rfl (by kernel_rfl) (by kernel_rfl) (by kernel_rfl) (fun _ _ _ h => h) ⟨Or.inl ⟨by rfl, fun w => by go_simp⟩, fun w => by first | rfl | go_simp⟩ ?_
       try (simp only [Act.put, qA, qB, qC, qD, qE, qF])
       refine wpAnyIn_ready (rs := [15]) (by kernel_rfl) (by simp) ?_; refine AllReadyIn.cons (o := _) rfl (fun K1 hK => ?_) AllReadyIn.nil; go_simp; refine hK _ _ ?_; clear hK
       try (simp only [Act.put, qA, qB, qC, qD, qE, qF])
       refine wpAnyIn_take (i := 17) (oi := _) (v := (.pointer (some ⟨db, do0 + i * 6, none⟩))) rfl rfl (by kernel_rfl) (by kernel_rfl) (by kernel_rfl) (fun _ _ _ h => h) ⟨Or.inl ⟨by rfl, fun w => by go_simp⟩, fun w => by first | rfl | go_simp⟩ ?_
       try (simp only [Act.put, qA, qB, qC, qD, qE, qF])
       refine wpAnyIn_take (i := 18) (oi := _) (v := (.pointer (some ⟨db, do0 + i * 6 + 2, none⟩))) rfl rfl (by kernel_rfl) (by kernel_rfl) (by kernel_rfl) (fun _ _ _ h => h) ⟨Or.inl ⟨by rfl, fun w => by go_simp⟩, fun w => by first | rfl | go_simp⟩ ?_
       try (simp only [Act.put, qA, qB, qC, qD, qE, qF])
       refine wpAnyIn_ready (rs := [19]) (by kernel_rfl) (by simp) ?_; refine AllReadyIn.cons (o := _) rfl (fun K1 hK => ?_) AllReadyIn.nil; go_simp; refine RoundIn.mono (RoundIn.anyDepth rfl HR2.out) ?_; rintro e W3 (⟨t2, rfl, h2⟩ | ⟨rfl, hp⟩)
       rotate_left
       ·exact ⟨rfl, Or.inr ⟨rfl, hp⟩⟩
       refine hK _ _ ?_; clear hK hy2 HR2 cy2 ck2 cs2
       try (simp only [Act.put, qA, qB, qC, qD, qE, qF])
       cases t2 with
       | false =>
        refine wpAnyIn_take (i := 20) (oi := _) (v := .bool true) rfl rfl (by kernel_rfl) (by kernel_rfl) (by kernel_rfl) (fun _ _ _ h => h) ⟨Or.inl ⟨by rfl, fun w => by go_simp⟩, fun w => by first | rfl | go_simp⟩ ?_
        try (simp only [Act.put, qA, qB, qC, qD, qE, qF])
        refine wpAnyIn_take (i := 21) (oi := _) (v := .bool true) rfl rfl (by kernel_rfl) (by kernel_rfl) (by kernel_rfl) (fun _ _ _ h => h) ⟨Or.inl ⟨by rfl, fun w => by go_simp⟩, fun w => by first | rfl | go_simp⟩ ?_
        try (simp only [Act.put, qA, qB, qC, qD, qE, qF])
        refine wpAnyIn_done (by kernel_rfl) ?_ _; gi_wp2_with fail
        first | go_end0 | refine bodyPost_ret (results_none rfl _ _ _) rfl ?_
        have hx : Jx W3 := by
         rcases h2.out with ⟨q1, _⟩ | ⟨_, q2⟩
         ·cases q1
         ·exact q2
        exact Or.inl ⟨_, rfl, Or.inr hx⟩
       | true =>
        refine wpAnyIn_take (i := 20) (oi := _) (v := .bool false) rfl rfl (by kernel_rfl) (by kernel_rfl) (by kernel_rfl) (fun _ _ _ h => h) ⟨Or.inl ⟨by rfl, fun w => by go_simp⟩, fun w => by first | rfl | go_simp⟩ ?_
        try (simp only [Act.put, qA, qB, qC, qD, qE, qF])
        refine wpAnyIn_take (i := 21) (oi := _) (v := .bool false) rfl rfl (by kernel_rfl) (by kernel_rfl) (by kernel_rfl) (fun _ _ _ h => h) ⟨Or.inl ⟨by rfl, fun w => by go_simp⟩, fun w => by first | rfl | go_simp⟩ ?_
        try (simp only [Act.put, qA, qB, qC, qD, qE, qF])
        refine wpAnyIn_done (by kernel_rfl) ?_ _
        obtain ⟨hJ3, hb3⟩ : J (pre0 ++ q ++ [(⟨db, do0 + i * 6, 1, d.rn⟩ : RefL)] ++ [(⟨db, do0 + i * 6 + 2, 2, d.pn⟩ : RefL)]) W3 ∧ Beyond B0 W2 W3 := by
         rcases h2.out with ⟨_, q1, q2⟩ | ⟨q1, _⟩
         ·exact ⟨q1, q2⟩
         ·cases q1
        have HJ3 := qh hJ3; have HB3 := qh (HB2.out.trans hb3); have HW3 := qh (HW2.out.keep hb3); clear h2 hJ3 hb3; gi_wp2_with fail; go_roundw
        case rel => exact ⟨i + 1, r, q ++ [(⟨db, do0 + i * 6, 1, d.rn⟩ : RefL), (⟨db, do0 + i * 6 + 2, 2, d.pn⟩ : RefL)], by go_num, by omega, qh (by rw [hq.out]; simp only [Ak]; rw [Nat.add_mul, Nat.one_mul, ← Nat.add_assoc]; simp), qh (by have := HJ3.out; simpa [List.append_assoc] using this), HW3, HB3⟩
        case measure => simp [intOf]; omega
      ·skip
       go_simp; refine hK _ _ ?_; clear hK
       try (simp only [Act.put, qA, qB, qC, qD, qE, qF])
       refine wpAnyIn_take (i := 13) (oi := _) (v := (.pointer (some ⟨S, 0, none⟩))) rfl rfl (by kernel_rfl) (by kernel_rfl) (by kernel_rfl) (fun _ _ _ h => h) ⟨Or.inl ⟨by rfl, fun w => by go_simp⟩, fun w => by first | rfl | go_simp⟩ ?_
       try (simp only [Act.put, qA, qB, qC, qD, qE, qF])
       refine wpAnyIn_take (i := 14) (oi := _) (v := (.pointer (some ⟨S, 11, none⟩))) rfl rfl (by kernel_rfl) (by kernel_rfl) (by kernel_rfl) (fun _ _ _ h => h) ⟨Or.inl ⟨by rfl, fun w => by go_simp⟩, fun w => by first | rfl | go_simp⟩ ?_
       try (simp only [Act.put, qA, qB, qC, qD, qE, qF])
       refine wpAnyIn_ready (rs := [11, 15]) (by kernel_rfl) (by simp) ?_; refine AllReadyIn.cons (o := _) rfl (fun K1 hK => ?_) (AllReadyIn.cons (o := _) rfl (fun K2 hK => ?_) AllReadyIn.nil)
       ·skip
        go_simp; refine hK _ _ ?_; clear hK
        try (simp only [Act.put, qA, qB, qC, qD, qE, qF])
        refine wpAnyIn_ready (rs := [15]) (by kernel_rfl) (by simp) ?_; refine AllReadyIn.cons (o := _) rfl (fun K1 hK => ?_) AllReadyIn.nil; go_simp; refine hK _ _ ?_; clear hK
        try (simp only [Act.put, qA, qB, qC, qD, qE, qF])
        refine wpAnyIn_take (i := 17) (oi := _) (v := (.pointer (some ⟨db, do0 + i * 6, none⟩))) rfl rfl (by kernel_rfl) (by kernel_rfl) (by kernel_rfl) (fun _ _ _ h => h) ⟨Or.inl ⟨by rfl, fun w => by go_simp⟩, fun w => by first | rfl | go_simp⟩ ?_
        try (simp only [Act.put, qA, qB, qC, qD, qE, qF])
        refine wpAnyIn_take (i := 18) (oi := _) (v := (.pointer (some ⟨db, do0 + i * 6 + 2, none⟩))) rfl rfl (by kernel_rfl) (by kernel_rfl) (by kernel_rfl) (fun _ _ _ h => h) ⟨Or.inl ⟨by rfl, fun w => by go_simp⟩, fun w => by first | rfl | go_simp⟩ ?_
        try (simp only [Act.put, qA, qB, qC, qD, qE, qF])
        refine wpAnyIn_ready (rs := [19]) (by kernel_rfl) (by simp) ?_; refine AllReadyIn.cons (o := _) rfl (fun K1 hK => ?_) AllReadyIn.nil; go_simp; refine RoundIn.mono (RoundIn.anyDepth rfl HR2.out) ?_; rintro e W3 (⟨t2, rfl, h2⟩ | ⟨rfl, hp⟩)
        rotate_left
        ·exact ⟨rfl, Or.inr ⟨rfl, hp⟩⟩
        refine hK _ _ ?_; clear hK hy2 HR2 cy2 ck2 cs2
        try (simp only [Act.put, qA, qB, qC, qD, qE, qF])
        cases t2 with
        | false =>
         refine wpAnyIn_take (i := 20) (oi := _) (v := .bool true) rfl rfl (by kernel_rfl) (by kernel_rfl) (by kernel_rfl) (fun _ _ _ h => h) ⟨Or.inl ⟨by rfl, fun w => by go_simp⟩, fun w => by first | rfl | go_simp⟩ ?_
         try (simp only [Act.put, qA, qB, qC, qD, qE, qF])
         refine wpAnyIn_take (i := 21) (oi := _) (v := .bool true) rfl rfl (by kernel_rfl) (by kernel_rfl) (by kernel_rfl) (fun _ _ _ h => h) ⟨Or.inl ⟨by rfl, fun w => by go_simp⟩, fun w => by first | rfl | go_simp⟩ ?_
         try (simp only [Act.put, qA, qB, qC, qD, qE, qF])
         refine wpAnyIn_done (by kernel_rfl) ?_ _; gi_wp2_with fail
         first | go_end0 | refine bodyPost_ret (results_none rfl _ _ _) rfl ?_
         have hx : Jx W3 := by
          rcases h2.out with ⟨q1, _⟩ | ⟨_, q2⟩
          ·cases q1
          ·exact q2
         exact Or.inl ⟨_, rfl, Or.inr hx⟩
        | true =>
         refine wpAnyIn_take (i := 20) (oi := _) (v := .bool false) rfl rfl (by kernel_rfl) (by kernel_rfl) (by kernel_rfl) (fun _ _ _ h => h) ⟨Or.inl ⟨by rfl, fun w => by go_simp⟩, fun w => by first | rfl | go_simp⟩ ?_
         try (simp only [Act.put, qA, qB, qC, qD, qE, qF])
         refine wpAnyIn_take (i := 21) (oi := _) (v := .bool false) rfl rfl (by kernel_rfl) (by kernel_rfl) (by kernel_rfl) (fun _ _ _ h => h) ⟨Or.inl ⟨by rfl, fun w => by go_simp⟩, fun w => by first | rfl | go_simp⟩ ?_
         try (simp only [Act.put, qA, qB, qC, qD, qE, qF])
         refine wpAnyIn_done (by kernel_rfl) ?_ _
         obtain ⟨hJ3, hb3⟩ : J (pre0 ++ q ++ [(⟨db, do0 + i * 6, 1, d.rn⟩ : RefL)] ++ [(⟨db, do0 + i * 6 + 2, 2, d.pn⟩ : RefL)]) W3 ∧ Beyond B0 W2 W3 := by
          rcases h2.out with ⟨_, q1, q2⟩ | ⟨q1, _⟩
          ·exact ⟨q1, q2⟩
          ·cases q1
         have HJ3 := qh hJ3; have HB3 := qh (HB2.out.trans hb3); have HW3 := qh (HW2.out.keep hb3); clear h2 hJ3 hb3; gi_wp2_with fail; go_roundw
         case rel => exact ⟨i + 1, r, q ++ [(⟨db, do0 + i * 6, 1, d.rn⟩ : RefL), (⟨db, do0 + i * 6 + 2, 2, d.pn⟩ : RefL)], by go_num, by omega, qh (by rw [hq.out]; simp only [Ak]; rw [Nat.add_mul, Nat.one_mul, ← Nat.add_assoc]; simp), qh (by have := HJ3.out; simpa [List.append_assoc] using this), HW3, HB3⟩
         case measure => simp [intOf]; omega
       ·skip
        go_simp; refine hK _ _ ?_; clear hK
        try (simp only [Act.put, qA, qB, qC, qD, qE, qF])
        refine wpAnyIn_take (i := 17) (oi := _) (v := (.pointer (some ⟨db, do0 + i * 6, none⟩))) rfl rfl (by kernel_rfl) (by kernel_rfl) (by kernel_rfl) (fun _ _ _ h => h) ⟨Or.inl ⟨by rfl, fun w => by go_simp⟩, fun w => by first | rfl | go_simp⟩ ?_
        try (simp only [Act.put, qA, qB, qC, qD, qE, qF])
        refine wpAnyIn_take (i := 18) (oi := _) (v := (.pointer (some ⟨db, do0 + i * 6 + 2, none⟩))) rfl rfl (by kernel_rfl) (by kernel_rfl) (by kernel_rfl) (fun _ _ _ h => h) ⟨Or.inl ⟨by rfl, fun w => by go_simp⟩, fun w => by first | rfl | go_simp⟩ ?_
        try (simp only [Act.put, qA, qB, qC, qD, qE, qF])
        refine wpAnyIn_ready (rs := [11]) (by kernel_rfl) (by simp) ?_; refine AllReadyIn.cons (o := _) rfl (fun K1 hK => ?_) AllReadyIn.nil; go_simp; refine hK _ _ ?_; clear hK
        try (simp only [Act.put, qA, qB, qC, qD, qE, qF])
        refine wpAnyIn_ready (rs := [19]) (by kernel_rfl) (by simp) ?_; refine AllReadyIn.cons (o := _) rfl (fun K1 hK => ?_) AllReadyIn.nil; go_simp; refine RoundIn.mono (RoundIn.anyDepth rfl HR2.out) ?_; rintro e W3 (⟨t2, rfl, h2⟩ | ⟨rfl, hp⟩)
        rotate_left
        ·exact ⟨rfl, Or.inr ⟨rfl, hp⟩⟩
        refine hK _ _ ?_; clear hK hy2 HR2 cy2 ck2 cs2
        try (simp only [Act.put, qA, qB, qC, qD, qE, qF])
        cases t2 with
        | false =>
         refine wpAnyIn_take (i := 20) (oi := _) (v := .bool true) rfl rfl (by kernel_rfl) (by kernel_rfl) (by kernel_rfl) (fun _ _ _ h => h) ⟨Or.inl ⟨by rfl, fun w => by go_simp⟩, fun w => by first | rfl | go_simp⟩ ?_
         try (simp only [Act.put, qA, qB, qC, qD, qE, qF])
         refine wpAnyIn_take (i := 21) (oi := _) (v := .bool true) rfl rfl (by kernel_rfl) (by kernel_rfl) (by kernel_rfl) (fun _ _ _ h => h) ⟨Or.inl ⟨by rfl, fun w => by go_simp⟩, fun w => by first | rfl | go_simp⟩ ?_
         try (simp only [Act.put, qA, qB, qC, qD, qE, qF])
         refine wpAnyIn_done (by kernel_rfl) ?_ _; gi_wp2_with fail
         first | go_end0 | refine bodyPost_ret (results_none rfl _ _ _) rfl ?_
         have hx : Jx W3 := by
          rcases h2.out with ⟨q1, _⟩ | ⟨_, q2⟩
          ·cases q1
          ·exact q2
         exact Or.inl ⟨_, rfl, Or.inr hx⟩
        | true =>
         refine wpAnyIn_take (i := 20) (oi := _) (v := .bool false) rfl rfl (by kernel_rfl) (by kernel_rfl) (by kernel_rfl) (fun _ _ _ h => h) ⟨Or.inl ⟨by rfl, fun w => by go_simp⟩, fun w => by first | rfl | go_simp⟩ ?_
         try (simp only [Act.put, qA, qB, qC, qD, qE, qF])
         refine wpAnyIn_take (i := 21) (oi := _) (v := .bool false) rfl rfl (by kernel_rfl) (by kernel_rfl) (by kernel_rfl) (fun _ _ _ h => h) ⟨Or.inl ⟨by rfl, fun w => by go_simp⟩, fun w => by first | rfl | go_simp⟩ ?_
         try (simp only [Act.put, qA, qB, qC, qD, qE, qF])
         refine wpAnyIn_done (by kernel_rfl) ?_ _
         obtain ⟨hJ3, hb3⟩ : J (pre0 ++ q ++ [(⟨db, do0 + i * 6, 1, d.rn⟩ : RefL)] ++ [(⟨db, do0 + i * 6 + 2, 2, d.pn⟩ : RefL)]) W3 ∧ Beyond B0 W2 W3 := by
          rcases h2.out with ⟨_, q1, q2⟩ | ⟨q1, _⟩
          ·exact ⟨q1, q2⟩
          ·cases q1
         have HJ3 := qh hJ3; have HB3 := qh (HB2.out.trans hb3); have HW3 := qh (HW2.out.keep hb3); clear h2 hJ3 hb3; gi_wp2_with fail; go_roundw
         case rel => exact ⟨i + 1, r, q ++ [(⟨db, do0 + i * 6, 1, d.rn⟩ : RefL), (⟨db, do0 + i * 6 + 2, 2, d.pn⟩ : RefL)], by go_num, by omega, qh (by rw [hq.out]; simp only [Ak]; rw [Nat.add_mul, Nat.one_mul, ← Nat.add_assoc]; simp), qh (by have := HJ3.out; simpa [List.append_assoc] using this), HW3, HB3⟩
         case measure => simp [intOf]; omega
    ·skip
     go_simp; refine hK _ _ ?_; clear hK
     try (simp only [Act.put, qA, qB, qC, qD, qE, qF])
     refine wpAnyIn_take (i := 6) (oi := _) (v := (.pointer (some ⟨db, do0 + i * 6, none⟩))) rfl rfl (by kernel_rfl) (by kernel_rfl) (by kernel_rfl) (fun _ _ _ h => h) ⟨Or.inl ⟨by rfl, fun w => by go_simp⟩, fun w => by first | rfl | go_simp⟩ ?_
     try (simp only [Act.put, qA, qB, qC, qD, qE, qF])
     refine wpAnyIn_take (i := 7) (oi := _) (v := (.pointer (some ⟨db, do0 + i * 6, none⟩))) rfl rfl (by kernel_rfl) (by kernel_rfl) (by kernel_rfl) (fun _ _ _ h => h) ⟨Or.inl ⟨by rfl, fun w => by go_simp⟩, fun w => by first | rfl | go_simp⟩ ?_
     try (simp only [Act.put, qA, qB, qC, qD, qE, qF])
     refine wpAnyIn_ready (rs := [0]) (by kernel_rfl) (by simp) ?_; refine AllReadyIn.cons (o := _) rfl (fun K1 hK => ?_) AllReadyIn.nil; go_simp; refine hK _ _ ?_; clear hK
     try (simp only [Act.put, qA, qB, qC, qD, qE, qF])
     refine wpAnyIn_ready (rs := [8]) (by kernel_rfl) (by simp) ?_; refine AllReadyIn.cons (o := _) rfl (fun K1 hK => ?_) AllReadyIn.nil; go_simp; refine RoundIn.mono (RoundIn.anyDepth rfl HR1.out) ?_; rintro e W2 (⟨t1, rfl, h1⟩ | ⟨rfl, hp⟩)
     rotate_left
     ·exact ⟨rfl, Or.inr ⟨rfl, hp⟩⟩
     refine hK _ _ ?_; clear hK hy1 HR1 cy ck cs
     try (simp only [Act.put, qA, qB, qC, qD, qE, qF])
     cases t1 with
     | false =>
      refine wpAnyIn_take (i := 9) (oi := _) (v := .bool true) rfl rfl (by kernel_rfl) (by kernel_rfl) (by kernel_rfl) (fun _ _ _ h => h) ⟨Or.inl ⟨by rfl, fun w => by go_simp⟩, fun w => by first | rfl | go_simp⟩ ?_
      try (simp only [Act.put, qA, qB, qC, qD, qE, qF])
      refine wpAnyIn_take (i := 10) (oi := _) (v := .bool true) rfl rfl (by kernel_rfl) (by kernel_rfl) (by kernel_rfl) (fun _ _ _ h => h) ⟨Or.inl ⟨by rfl, fun w => by go_simp⟩, fun w => by first | rfl | go_simp⟩ ?_
      try (simp only [Act.put, qA, qB, qC, qD, qE, qF])
      refine wpAnyIn_take (i := 11) (oi := _) (v := undef) rfl rfl (by kernel_rfl) (by kernel_rfl) (by kernel_rfl) (fun _ _ _ h => h) ⟨Or.inr ⟨by rfl, rfl⟩, fun w => by first | rfl | go_simp⟩ ?_
      try (simp only [Act.put, qA, qB, qC, qD, qE, qF])
      refine wpAnyIn_take (i := 12) (oi := _) (v := undef) rfl rfl (by kernel_rfl) (by kernel_rfl) (by kernel_rfl) (fun _ _ _ h => h) ⟨Or.inr ⟨by rfl, rfl⟩, fun w => by first | rfl | go_simp⟩ ?_
      try (simp only [Act.put, qA, qB, qC, qD, qE, qF])
      refine wpAnyIn_take (i := 13) (oi := _) (v := undef) rfl rfl (by kernel_rfl) (by kernel_rfl) (by kernel_rfl) (fun _ _ _ h => h) ⟨Or.inr ⟨by rfl, rfl⟩, fun w => by first | rfl | go_simp⟩ ?_
      try (simp only [Act.put, qA, qB, qC, qD, qE, qF])
      refine wpAnyIn_take (i := 14) (oi := _) (v := undef) rfl rfl (by kernel_rfl) (by kernel_rfl) (by kernel_rfl) (fun _ _ _ h => h) ⟨Or.inr ⟨by rfl, rfl⟩, fun w => by first | rfl | go_simp⟩ ?_
      try (simp only [Act.put, qA, qB, qC, qD, qE, qF])
      refine wpAnyIn_take (i := 15) (oi := _) (v := undef) rfl rfl (by kernel_rfl) (by kernel_rfl) (by kernel_rfl) (fun _ _ _ h => h) ⟨Or.inr ⟨by rfl, rfl⟩, fun w => by first | rfl | go_simp⟩ ?_
      try (simp only [Act.put, qA, qB, qC, qD, qE, qF])
      refine wpAnyIn_take (i := 16) (oi := _) (v := undef) rfl rfl (by kernel_rfl) (by kernel_rfl) (by kernel_rfl) (fun _ _ _ h => h) ⟨Or.inr ⟨by rfl, rfl⟩, fun w => by first | rfl | go_simp⟩ ?_
      try (simp only [Act.put, qA, qB, qC, qD, qE, qF])
      refine wpAnyIn_take (i := 17) (oi := _) (v := undef) rfl rfl (by kernel_rfl) (by kernel_rfl) (by kernel_rfl) (fun _ _ _ h => h) ⟨Or.inr ⟨by rfl, rfl⟩, fun w => by first | rfl | go_simp⟩ ?_
      try (simp only [Act.put, qA, qB, qC, qD, qE, qF])
      refine wpAnyIn_take (i := 18) (oi := _) (v := undef) rfl rfl (by kernel_rfl) (by kernel_rfl) (by kernel_rfl) (fun _ _ _ h => h) ⟨Or.inr ⟨by rfl, rfl⟩, fun w => by first | rfl | go_simp⟩ ?_
      try (simp only [Act.put, qA, qB, qC, qD, qE, qF])
      refine wpAnyIn_take (i := 19) (oi := _) (v := undef) rfl rfl (by kernel_rfl) (by kernel_rfl) (by kernel_rfl) (fun _ _ _ h => h) ⟨Or.inr ⟨by rfl, rfl⟩, fun w => by first | rfl | go_simp⟩ ?_
      try (simp only [Act.put, qA, qB, qC, qD, qE, qF])
      refine wpAnyIn_take (i := 20) (oi := _) (v := undef) rfl rfl (by kernel_rfl) (by kernel_rfl) (by kernel_rfl) (fun _ _ _ h => h) ⟨Or.inr ⟨by rfl, rfl⟩, fun w => by first | rfl | go_simp⟩ ?_
      try (simp only [Act.put, qA, qB, qC, qD, qE, qF])
      refine wpAnyIn_take (i := 21) (oi := _) (v := .bool true) rfl rfl (by kernel_rfl) (by kernel_rfl) (by kernel_rfl) (fun _ _ _ h => h) ⟨Or.inl ⟨by rfl, fun w => by go_simp⟩, fun w => by first | rfl | go_simp⟩ ?_
      try (simp only [Act.put, qA, qB, qC, qD, qE, qF])
      refine wpAnyIn_done (by kernel_rfl) ?_ _; gi_wp2_with fail
      first | go_end0 | refine bodyPost_ret (results_none rfl _ _ _) rfl ?_
      have hx : Jx W2 := by
       rcases h1.out with ⟨q1, _⟩ | ⟨_, q2⟩
       ·cases q1
       ·exact q2
      exact Or.inl ⟨_, rfl, Or.inr hx⟩
     | true =>
      obtain ⟨hJ2, hb2⟩ : J (pre0 ++ q ++ [(⟨db, do0 + i * 6, 1, d.rn⟩ : RefL)]) W2 ∧ Beyond B0 wr W2 := by
       rcases h1.out with ⟨_, q1, q2⟩ | ⟨q1, _⟩
       ·exact ⟨q1, HVB.out.trans q2⟩
       ·cases q1
      have HJ2 := qh hJ2; have HB2 := qh (hbo.out.trans hb2); have hW2 := hWr.out.keep hb2; clear h1; obtain ⟨ck2, _, cs2, _⟩ := HRDF.out _ (HH.out.rd _ _ hJ2); have cy2 := cell_of_one hW2.by_; obtain ⟨fn2, tm2, as2, bo2, hy2, hR2⟩ := HH.out.one HA2.out hJ2 (Below.refl W2.heap.size W2) 9; unfold EU at hy2; rw [show ((2 : Nat) : Int) = 2 from rfl] at hy2; have HR2 := qh hR2; have HW2 := qh hW2; clear hR2 hJ2 hb2 hW2; refine wpAnyIn_take (i := 9) (oi := _) (v := .bool false) rfl rfl (by kernel_rfl) (by kernel_rfl) (by kernel_rfl) (fun _ _ _ h => h) ⟨Or.inl ⟨by rfl, fun w => by go_simp⟩, fun w => by first | rfl | go_simp⟩ ?_
      try (simp only [Act.put, qA, qB, qC, qD, qE, qF])
      refine wpAnyIn_take (i := 10) (oi := _) (v := .bool false) rfl rfl (by kernel_rfl) (by kernel_rfl) (by kernel_rfl) (fun _ _ _ h => h) ⟨Or.inl ⟨by rfl, fun w => by go_simp⟩, fun w => by first | rfl | go_simp⟩ ?_
      try (simp only [Act.put, qA, qB, qC, qD, qE, qF])
      refine wpAnyIn_take (i := 16) (oi := _) (v := int i64 (i : Int)) rfl rfl (by kernel_rfl) (by kernel_rfl) (by kernel_rfl) (fun _ _ _ h => h) ⟨Or.inl ⟨by rfl, fun w => by go_simp⟩, fun w => by first | rfl | go_simp⟩ ?_
      try (simp only [Act.put, qA, qB, qC, qD, qE, qF])
      refine wpAnyIn_ready (rs := [11, 12]) (by kernel_rfl) (by simp) ?_; refine AllReadyIn.cons (o := _) rfl (fun K1 hK => ?_) (AllReadyIn.cons (o := _) rfl (fun K2 hK => ?_) AllReadyIn.nil)
      ·skip
       go_simp; refine hK _ _ ?_; clear hK
       try (simp only [Act.put, qA, qB, qC, qD, qE, qF])
       refine wpAnyIn_ready (rs := [12]) (by kernel_rfl) (by simp) ?_; refine AllReadyIn.cons (o := _) rfl (fun K1 hK => ?_) AllReadyIn.nil; go_simp; refine hK _ _ ?_; clear hK
       try (simp only [Act.put, qA, qB, qC, qD, qE, qF])
       refine wpAnyIn_take (i := 13) (oi := _) (v := (.pointer (some ⟨S, 0, none⟩))) rfl rfl (by kernel_rfl) (by kernel_rfl) (by kernel_rfl) (fun _ _ _ h => h) ⟨Or.inl ⟨by rfl, fun w => by go_simp⟩, fun w => by first | rfl | go_simp⟩ ?_
       try (simp only [Act.put, qA, qB, qC, qD, qE, qF])
       refine wpAnyIn_take (i := 14) (oi := _) (v := (.pointer (some ⟨S, 11, none⟩))) rfl rfl (by kernel_rfl) (by kernel_rfl) (by kernel_rfl) (fun _ _ _ h => h) ⟨Or.inl ⟨by rfl, fun w => by go_simp⟩, fun w => by first | rfl | go_simp⟩ ?_
       try (simp only [Act.put, qA, qB, qC, qD, qE, qF])
       refine wpAnyIn_ready (rs := [15]) (by kernel_rfl) (by simp) ?_; refine AllReadyIn.cons (o := _) rfl (fun K1 hK => ?_) AllReadyIn.nil; go_simp; refine hK _ _ ?_; clear hK
       try (simp only [Act.put, qA, qB, qC, qD, qE, qF])
       refine wpAnyIn_take (i := 17) (oi := _) (v := (.pointer (some ⟨db, do0 + i * 6, none⟩))) rfl rfl (by kernel_rfl) (by kernel_rfl) (by kernel_rfl) (fun _ _ _ h => h) ⟨Or.inl ⟨by rfl, fun w => by go_simp⟩, fun w => by first | rfl | go_simp⟩ ?_
       try (simp only [Act.put, qA, qB, qC, qD, qE, qF])
       refine wpAnyIn_take (i := 18) (oi := _) (v := (.pointer (some ⟨db, do0 + i * 6 + 2, none⟩))) rfl rfl (by kernel_rfl) (by kernel_rfl) (by kernel_rfl) (fun _ _ _ h => h) ⟨Or.inl ⟨by rfl, fun w => by go_simp⟩, fun w => by first | rfl | go_simp⟩ ?_
       try (simp only [Act.put, qA, qB, qC, qD, qE, qF])
       refine wpAnyIn_ready (rs := [19]) (by kernel_rfl) (by simp) ?_; refine AllReadyIn.cons (o := _) rfl (fun K1 hK => ?_) AllReadyIn.nil; go_simp; refine RoundIn.mono (RoundIn.anyDepth rfl HR2.out) ?_; rintro e W3 (⟨t2, rfl, h2⟩ | ⟨rfl, hp⟩)
       rotate_left
       ·exact ⟨rfl, Or.inr ⟨rfl, hp⟩⟩
       refine hK _ _ ?_; clear hK hy2 HR2 cy2 ck2 cs2
       try (simp only [Act.put, qA, qB, qC, qD, qE, qF])
       cases t2 with
       | false =>
        refine wpAnyIn_take (i := 20) (oi := _) (v := .bool true) rfl rfl (by kernel_rfl) (by kernel_rfl) (by kernel_rfl) (fun _ _ _ h => h) ⟨Or.inl ⟨by rfl, fun w => by go_simp⟩, fun w => by first | rfl | go_simp⟩ ?_
        try (simp only [Act.put, qA, qB, qC, qD, qE, qF])
        refine wpAnyIn_take (i := 21) (oi := _) (v := .bool true) rfl rfl (by kernel_rfl) (by kernel_rfl) (by kernel_rfl) (fun _ _ _ h => h) ⟨Or.inl ⟨by rfl, fun w => by go_simp⟩, fun w => by first | rfl | go_simp⟩ ?_
        try (simp only [Act.put, qA, qB, qC, qD, qE, qF])
        refine wpAnyIn_done (by kernel_rfl) ?_ _; gi_wp2_with fail
        first | go_end0 | refine bodyPost_ret (results_none rfl _ _ _) rfl ?_
        have hx : Jx W3 := by
         rcases h2.out with ⟨q1, _⟩ | ⟨_, q2⟩
         ·cases q1
         ·exact q2
        exact Or.inl ⟨_, rfl, Or.inr hx⟩
       | true =>
        refine wpAnyIn_take (i := 20) (oi := _) (v := .bool false) rfl rfl (by kernel_rfl) (by kernel_rfl) (by kernel_rfl) (fun _ _ _ h => h) ⟨Or.inl ⟨by rfl, fun w => by go_simp⟩, fun w => by first | rfl | go_simp⟩ ?_
        try (simp only [Act.put, qA, qB, qC, qD, qE, qF])
        refine wpAnyIn_take (i := 21) (oi := _) (v := .bool false) rfl rfl (by kernel_rfl) (by kernel_rfl) (by kernel_rfl) (fun _ _ _ h => h) ⟨Or.inl ⟨by rfl, fun w => by go_simp⟩, fun w => by first | rfl | go_simp⟩ ?_
        try (simp only [Act.put, qA, qB, qC, qD, qE, qF])
        refine wpAnyIn_done (by kernel_rfl) ?_ _
        obtain ⟨hJ3, hb3⟩ : J (pre0 ++ q ++ [(⟨db, do0 + i * 6, 1, d.rn⟩ : RefL)] ++ [(⟨db, do0 + i * 6 + 2, 2, d.pn⟩ : RefL)]) W3 ∧ Beyond B0 W2 W3 := by
         rcases h2.out with ⟨_, q1, q2⟩ | ⟨q1, _⟩
         ·exact ⟨q1, q2⟩
         ·cases q1
        have HJ3 := qh hJ3; have HB3 := qh (HB2.out.trans hb3); have HW3 := qh (HW2.out.keep hb3); clear h2 hJ3 hb3; gi_wp2_with fail; go_roundw
        case rel => exact ⟨i + 1, r, q ++ [(⟨db, do0 + i * 6, 1, d.rn⟩ : RefL), (⟨db, do0 + i * 6 + 2, 2, d.pn⟩ : RefL)], by go_num, by omega, qh (by rw [hq.out]; simp only [Ak]; rw [Nat.add_mul, Nat.one_mul, ← Nat.add_assoc]; simp), qh (by have := HJ3.out; simpa [List.append_assoc] using this), HW3, HB3⟩
        case measure => simp [intOf]; omega
      ·skip
       go_simp; refine hK _ _ ?_; clear hK
       try (simp only [Act.put, qA, qB, qC, qD, qE, qF])
       refine wpAnyIn_take (i := 13) (oi := _) (v := (.pointer (some ⟨S, 0, none⟩))) rfl rfl (by kernel_rfl) (by kernel_rfl) (by kernel_rfl) (fun _ _ _ h => h) ⟨Or.inl ⟨by rfl, fun w => by go_simp⟩, fun w => by first | rfl | go_simp⟩ ?_
       try (simp only [Act.put, qA, qB, qC, qD, qE, qF])
       refine wpAnyIn_take (i := 14) (oi := _) (v := (.pointer (some ⟨S, 11, none⟩))) rfl rfl (by kernel_rfl) (by kernel_rfl) (by kernel_rfl) (fun _ _ _ h => h) ⟨Or.inl ⟨by rfl, fun w => by go_simp⟩, fun w => by first | rfl | go_simp⟩ ?_
       try (simp only [Act.put, qA, qB, qC, qD, qE, qF])
       refine wpAnyIn_ready (rs := [11, 15]) (by kernel_rfl) (by simp) ?_; refine AllReadyIn.cons (o := _) rfl (fun K1 hK => ?_) (AllReadyIn.cons (o := _) rfl (fun K2 hK => ?_) AllReadyIn.nil)
       ·skip
        go_simp; refine hK _ _ ?_; clear hK
        try (simp only [Act.put, qA, qB, qC, qD, qE, qF])
        refine wpAnyIn_ready (rs := [15]) (by kernel_rfl) (by simp) ?_; refine AllReadyIn.cons (o := _) rfl (fun K1 hK => ?_) AllReadyIn.nil; go_simp; refine hK _ _ ?_; clear hK
        try (simp only [Act.put, qA, qB, qC, qD, qE, qF])
        refine wpAnyIn_take (i := 17) (oi := _) (v := (.pointer (some ⟨db, do0 + i * 6, none⟩))) rfl rfl (by kernel_rfl) (by kernel_rfl) (by kernel_rfl) (fun _ _ _ h => h) ⟨Or.inl ⟨by rfl, fun w => by go_simp⟩, fun w => by first | rfl | go_simp⟩ ?_
        try (simp only [Act.put, qA, qB, qC, qD, qE, qF])
        refine wpAnyIn_take (i := 18) (oi := _) (v := (.pointer (some ⟨db, do0 + i * 6 + 2, none⟩))) rfl rfl (by kernel_rfl) (by kernel_rfl) (by kernel_rfl) (fun _ _ _ h => h) ⟨Or.inl ⟨by rfl, fun w => by go_simp⟩, fun w => by first | rfl | go_simp⟩ ?_
        try (simp only [Act.put, qA, qB, qC, qD, qE, qF])
        refine wpAnyIn_ready (rs := [19]) (by kernel_rfl) (by simp) ?_; refine AllReadyIn.cons (o := _) rfl (fun K1 hK => ?_) AllReadyIn.nil; go_simp; refine RoundIn.mono (RoundIn.anyDepth rfl HR2.out) ?_; rintro e W3 (⟨t2, rfl, h2⟩ | ⟨rfl, hp⟩)
        rotate_left
        ·exact ⟨rfl, Or.inr ⟨rfl, hp⟩⟩
        refine hK _ _ ?_; clear hK hy2 HR2 cy2 ck2 cs2
        try (simp only [Act.put, qA, qB, qC, qD, qE, qF])
        cases t2 with
        | false =>
         refine wpAnyIn_take (i := 20) (oi := _) (v := .bool true) rfl rfl (by kernel_rfl) (by kernel_rfl) (by kernel_rfl) (fun _ _ _ h => h) ⟨Or.inl ⟨by rfl, fun w => by go_simp⟩, fun w => by first | rfl | go_simp⟩ ?_
         try (simp only [Act.put, qA, qB, qC, qD, qE, qF])
         refine wpAnyIn_take (i := 21) (oi := _) (v := .bool true) rfl rfl (by kernel_rfl) (by kernel_rfl) (by kernel_rfl) (fun _ _ _ h => h) ⟨Or.inl ⟨by rfl, fun w => by go_simp⟩, fun w => by first | rfl | go_simp⟩ ?_
         try (simp only [Act.put, qA, qB, qC, qD, qE, qF])
         refine wpAnyIn_done (by kernel_rfl) ?_ _; gi_wp2_with fail
         first | go_end0 | refine bodyPost_ret (results_none rfl _ _ _) rfl ?_
         have hx : Jx W3 := by
          rcases h2.out with ⟨q1, _⟩ | ⟨_, q2⟩
          ·cases q1
          ·exact q2
         exact Or.inl ⟨_, rfl, Or.inr hx⟩
        | true =>
         refine wpAnyIn_take (i := 20) (oi := _) (v := .bool false) rfl rfl (by kernel_rfl) (by kernel_rfl) (by kernel_rfl) (fun _ _ _ h => h) ⟨Or.inl ⟨by rfl, fun w => by go_simp⟩, fun w => by first | rfl | go_simp⟩ ?_
         try (simp only [Act.put, qA, qB, qC, qD, qE, qF])
         refine wpAnyIn_take (i := 21) (oi := _) (v := .bool false) rfl rfl (by kernel_rfl) (by kernel_rfl) (by kernel_rfl) (fun _ _ _ h => h) ⟨Or.inl ⟨by rfl, fun w => by go_simp⟩, fun w => by first | rfl | go_simp⟩ ?_
         try (simp only [Act.put, qA, qB, qC, qD, qE, qF])
         refine wpAnyIn_done (by kernel_rfl) ?_ _
         obtain ⟨hJ3, hb3⟩ : J (pre0 ++ q ++ [(⟨db, do0 + i * 6, 1, d.rn⟩ : RefL)] ++ [(⟨db, do0 + i * 6 + 2, 2, d.pn⟩ : RefL)]) W3 ∧ Beyond B0 W2 W3 := by
          rcases h2.out with ⟨_, q1, q2⟩ | ⟨q1, _⟩
          ·exact ⟨q1, q2⟩
          ·cases q1
         have HJ3 := qh hJ3; have HB3 := qh (HB2.out.trans hb3); have HW3 := qh (HW2.out.keep hb3); clear h2 hJ3 hb3; gi_wp2_with fail; go_roundw
         case rel => exact ⟨i + 1, r, q ++ [(⟨db, do0 + i * 6, 1, d.rn⟩ : RefL), (⟨db, do0 + i * 6 + 2, 2, d.pn⟩ : RefL)], by go_num, by omega, qh (by rw [hq.out]; simp only [Ak]; rw [Nat.add_mul, Nat.one_mul, ← Nat.add_assoc]; simp), qh (by have := HJ3.out; simpa [List.append_assoc] using this), HW3, HB3⟩
         case measure => simp [intOf]; omega
       ·skip
        go_simp; refine hK _ _ ?_; clear hK
        try (simp only [Act.put, qA, qB, qC, qD, qE, qF])
        refine wpAnyIn_take (i := 17) (oi := _) (v := (.pointer (some ⟨db, do0 + i * 6, none⟩))) rfl rfl (by kernel_rfl) (by kernel_rfl) (by kernel_rfl) (fun _ _ _ h => h) ⟨Or.inl ⟨by rfl, fun w => by go_simp⟩, fun w => by first | rfl | go_simp⟩ ?_
        try (simp only [Act.put, qA, qB, qC, qD, qE, qF])
        refine wpAnyIn_take (i := 18) (oi := _) (v := (.pointer (some ⟨db, do0 + i * 6 + 2, none⟩))) rfl rfl (by kernel_rfl) (by kernel_rfl) (by kernel_rfl) (fun _ _ _ h => h) ⟨Or.inl ⟨by rfl, fun w => by go_simp⟩, fun w => by first | rfl | go_simp⟩ ?_
        try (simp only [Act.put, qA, qB, qC, qD, qE, qF])
        refine wpAnyIn_ready (rs := [11]) (by kernel_rfl) (by simp) ?_; refine AllReadyIn.cons (o := _) rfl (fun K1 hK => ?_) AllReadyIn.nil; go_simp; refine hK _ _ ?_; clear hK
        try (simp only [Act.put, qA, qB, qC, qD, qE, qF])
        refine wpAnyIn_ready (rs := [19]) (by kernel_rfl) (by simp) ?_; refine AllReadyIn.cons (o := _) rfl (fun K1 hK => ?_) AllReadyIn.nil; go_simp; refine RoundIn.mono (RoundIn.anyDepth rfl HR2.out) ?_; rintro e W3 (⟨t2, rfl, h2⟩ | ⟨rfl, hp⟩)
        rotate_left
        ·exact ⟨rfl, Or.inr ⟨rfl, hp⟩⟩
        refine hK _ _ ?_; clear hK hy2 HR2 cy2 ck2 cs2
        try (simp only [Act.put, qA, qB, qC, qD, qE, qF])
        cases t2 with
        | false =>
         refine wpAnyIn_take (i := 20) (oi := _) (v := .bool true) rfl rfl (by kernel_rfl) (by kernel_rfl) (by kernel_rfl) (fun _ _ _ h => h) ⟨Or.inl ⟨by rfl, fun w => by go_simp⟩, fun w => by first | rfl | go_simp⟩ ?_
         try (simp only [Act.put, qA, qB, qC, qD, qE, qF])
         refine wpAnyIn_take (i := 21) (oi := _) (v := .bool true) rfl rfl (by kernel_rfl) (by kernel_rfl) (by kernel_rfl) (fun _ _ _ h => h) ⟨Or.inl ⟨by rfl, fun w => by go_simp⟩, fun w => by first | rfl | go_simp⟩ ?_
         try (simp only [Act.put, qA, qB, qC, qD, qE, qF])
         refine wpAnyIn_done (by kernel_rfl) ?_ _; gi_wp2_with fail
         first | go_end0 | refine bodyPost_ret (results_none rfl _ _ _) rfl ?_
         have hx : Jx W3 := by
          rcases h2.out with ⟨q1, _⟩ | ⟨_, q2⟩
          ·cases q1
          ·exact q2
         exact Or.inl ⟨_, rfl, Or.inr hx⟩
        | true =>
         refine wpAnyIn_take (i := 20) (oi := _) (v := .bool false) rfl rfl (by kernel_rfl) (by kernel_rfl) (by kernel_rfl) (fun _ _ _ h => h) ⟨Or.inl ⟨by rfl, fun w => by go_simp⟩, fun w => by first | rfl | go_simp⟩ ?_
         try (simp only [Act.put, qA, qB, qC, qD, qE, qF])
         refine wpAnyIn_take (i := 21) (oi := _) (v := .bool false) rfl rfl (by kernel_rfl) (by kernel_rfl) (by kernel_rfl) (fun _ _ _ h => h) ⟨Or.inl ⟨by rfl, fun w => by go_simp⟩, fun w => by first | rfl | go_simp⟩ ?_
         try (simp only [Act.put, qA, qB, qC, qD, qE, qF])
         refine wpAnyIn_done (by kernel_rfl) ?_ _
         obtain ⟨hJ3, hb3⟩ : J (pre0 ++ q ++ [(⟨db, do0 + i * 6, 1, d.rn⟩ : RefL)] ++ [(⟨db, do0 + i * 6 + 2, 2, d.pn⟩ : RefL)]) W3 ∧ Beyond B0 W2 W3 := by
          rcases h2.out with ⟨_, q1, q2⟩ | ⟨q1, _⟩
          ·exact ⟨q1, q2⟩
          ·cases q1
         have HJ3 := qh hJ3; have HB3 := qh (HB2.out.trans hb3); have HW3 := qh (HW2.out.keep hb3); clear h2 hJ3 hb3; gi_wp2_with fail; go_roundw
         case rel => exact ⟨i + 1, r, q ++ [(⟨db, do0 + i * 6, 1, d.rn⟩ : RefL), (⟨db, do0 + i * 6 + 2, 2, d.pn⟩ : RefL)], by go_num, by omega, qh (by rw [hq.out]; simp only [Ak]; rw [Nat.add_mul, Nat.one_mul, ← Nat.add_assoc]; simp), qh (by have := HJ3.out; simpa [List.append_assoc] using this), HW3, HB3⟩
         case measure => simp [intOf]; omega
end
end
end Go.Proofs.Ytpnbpepkoekkoaa
