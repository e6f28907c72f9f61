/- The walk of the statement: part 3. -/
import Derived.Test.YtpnbpepkoekkoaaZ13
import Derived.BigQuiet
import Derived.BigCall
import Derived.BigGuard
set_option linter.unusedVariables false
set_option linter.unusedSimpArgs false
section
namespace Go.Proofs.Ytpnbpepkoekkoaa
open Go Go.RowKit Go.Deep
theorem NsAt.split2 {w : World} {xs ys xs' ys' : List RefL} {ks : List Int} (h : NsAt w (xs ++ ys) ks) (h' : NsAt w (xs' ++ ys') ks) (hl : xs.length = xs'.length) : ∃ k1 k2, NsAt w xs k1 ∧ NsAt w ys k2 ∧ NsAt w xs' k1 ∧ NsAt w ys' k2 := by
 obtain ⟨a, b, rfl, ha, hb⟩ := h.split
 obtain ⟨a', b', e, ha', hb'⟩ := h'.split
 have hla : a.length = a'.length := by rw [ha.len, ha'.len, hl]
 obtain ⟨rfl, rfl⟩ := List.append_inj e hla
 exact ⟨a, b, ha, hb, ha', hb'⟩
theorem movRefs_len (b : Nat) : ∀ (o : Nat) (ms : List Mov), (movRefs b o ms).length = ms.length
 | _, [] => rfl
 | o, m :: r => by simp [movRefs, movRefs_len b (o + 12) r]
theorem Lt.refsL_len : ∀ {T T' : Lt} {b o b' o' : Nat}, T.strip = T'.strip → (T.refsL b o).length = (T'.refsL b' o').length := by
 intro T T' b o b' o' h
 have e1 := congrArg List.length (T.refsL_key b o)
 have e2 := congrArg List.length (T'.refsL_key b' o')
 rw [List.length_map] at e1 e2
 rw [e1, e2, h]
theorem Lt.At.dn {w : World} {T : Lt} {b o : Nat} (h : T.At w b o) (q : Nat) : T.At (w.drewN q) b o := h.kept (fun _ _ _ h => h) (fun _ _ _ _ h => h)
theorem NsAt.dn {w : World} {xs : List RefL} {ks : List Int} (h : NsAt w xs ks) (q : Nat) : NsAt (w.drewN q) xs ks := h.kept fun _ _ _ h => h
def TrueP (w : World) (e : Ending) (w' : World) : Prop := e = .returned (.bool true) ∧ ∃ m, w' = w.drewN m
set_option maxRecDepth 100000 in
set_option maxHeartbeats 8000000 in
theorem same_step (T T' : Lt) (hI : ∀ U U' : Lt, U.size < T.size → U.strip = U'.strip → ∀ (a : Option Addr) (c : Nat) (a' : Option Addr) (c' : Nat) (ks : List Int) (W : World), U.len ≤ maxLen → (U.len = 0 ∨ a = some ⟨blk a, off a, none⟩) → U.At W (blk a) (off a) → (U'.len = 0 ∨ a' = some ⟨blk a', off a', none⟩) → U'.At W (blk a') (off a') → NsAt W (U.refsL (blk a) (off a)) ks → NsAt W (U'.refsL (blk a') (off a')) ks → Calls Try.prog 76 #[.slice a U.len c, .slice a' U'.len c'] W (TrueP W))
  (hs : T.strip = T'.strip) (a : Option Addr) (c : Nat) (a' : Option Addr) (c' : Nat) (ks : List Int) (W : World) (hl : T.len ≤ maxLen) (hf : T.len = 0 ∨ a = some ⟨blk a, off a, none⟩) (hT : T.At W (blk a) (off a)) (hf' : T'.len = 0 ∨ a' = some ⟨blk a', off a', none⟩) (hT' : T'.At W (blk a') (off a')) (hN : NsAt W (T.refsL (blk a) (off a)) ks) (hN' : NsAt W (T'.refsL (blk a') (off a')) ks) : Calls Try.prog 76 #[.slice a T.len c, .slice a' T'.len c'] W (TrueP W) := by
 have hll : T'.len = T.len := by rw [← T'.strip_len, ← T.strip_len, hs]
 rw [hll] at hf' ⊢
 have HI := Lib.hid hI; have HT := Lib.hid hT; have HT' := Lib.hid hT'; have HN := Lib.hid hN; have HN' := Lib.hid hN'; have HF := Lib.hid hf; have HF' := Lib.hid hf'; have HS := Lib.hid hs
 clear hI hT hT' hN hN' hf hf' hs hll
 unfold maxLen at hl
 generalize hm : T.len = m at *
 have HM := Lib.hid hm
 clear hm
 go_enter Try.func76, Try.ntmps76
 go_wp2_with fail
 go_loopw [5] (fun iv wr => ∃ (i : Nat) (R R' : Lt) (ks : List Int) (q : Nat), iv = .int .i64 i ∧ i + R.len = m ∧ wr = W.drewN q ∧ Hid (R.size ≤ T.size) ∧ Hid (R.strip = R'.strip) ∧ Hid (R.At W (blk a) (off a + i * 6)) ∧ Hid (R'.At W (blk a') (off a' + i * 6)) ∧ Hid (NsAt W (R.refsL (blk a) (off a + i * 6)) ks) ∧ Hid (NsAt W (R'.refsL (blk a') (off a' + i * 6)) ks)) (fun iv _ => m + 1 - (intOf iv).toNat)
 case atStart => exact ⟨0, T, T', ks, 0, rfl, by rw [HM.out]; omega, rfl, Lib.hid (Nat.le_refl _), HS, by simpa [Hid] using HT.out, by simpa [Hid] using HT'.out, by simpa [Hid] using HN.out, by simpa [Hid] using HN'.out⟩
 case round =>
  obtain ⟨i, R, R', ks, q, rfl, hin, rfl, hsz, hS, hR, hR', hN, hN'⟩ := hrel
  cases R with
  | nil =>
   simp only [Lt.len, Nat.add_zero] at hin
   subst hin
   go_wp2_with fail
   go_ret
   exact ⟨rfl, q, rfl⟩
  | cons k n un ia ic its ma mc ms r =>
   cases R' with
   | nil => exact absurd hS.out (by simp [Lt.strip])
   | cons k' n' un' ia' ic' its' ma' mc' ms' r' =>
   have hSS := hS.out
   simp only [Lt.strip] at hSS
   injection hSS with e1 e2 e3 e4 e5 e6
   subst e1 e2 e3 e5
   simp only [Lt.len] at hin
   have hi : (i : Int) < (m : Int) := by omega
   have ea := HF.out.resolve_left (by omega)
   have ea' := HF'.out.resolve_left (by omega)
   obtain ⟨⟨c0, c1, c2, c4, c5⟩, ⟨m1, m2, m3⟩, ⟨i1, i2, i3⟩, hr⟩ := hR.out
   obtain ⟨⟨d0, d1, d2, d4, d5⟩, ⟨m1', m2', m3'⟩, ⟨i1', i2', i3'⟩, hr'⟩ := hR'.out
   cases ks with
   | nil => exact absurd hN.out (by simp [Lt.refsL, NsAt])
   | cons n0 ks =>
   obtain ⟨c3, hNr⟩ := hN.out
   obtain ⟨d3, hNr'⟩ := hN'.out
   obtain ⟨k1, k2, hn1, hn2, hn1', hn2'⟩ := hNr.split2 hNr' (by rw [movRefs_len, movRefs_len])
   obtain ⟨k3, k4, hn3, hn4, hn3', hn4'⟩ := hn2.split2 hn2' (Lt.refsL_len e4)
   have hlt : its.size < T.size := by have := hsz.out; simp only [Lt.size] at this; omega
   have hszr : r.size ≤ T.size := by have := hsz.out; simp only [Lt.size] at this; omega
   have C : ∀ q n : Nat, Calls Try.prog 76 #[.slice ia its.len ic, .slice ia' its'.len ic'] (W.drewN (q + n)) fun e w' => e = .returned (.bool true) ∧ ∃ m, w' = W.drewN (q + m) := fun q n => (HI.out its its' hlt e4 ia ic ia' ic' k3 (W.drewN (q + n)) i2 i1 (i3.dn _) i1' (i3'.dn _) (hn3.dn _) (hn3'.dn _)).mono fun e w' h => ⟨h.1, by obtain ⟨m, hm⟩ := h.2; exact ⟨n + m, by rw [hm, World.drewN_drewN, Nat.add_assoc]⟩⟩
   have hli : its'.len = its.len := by rw [← its'.strip_len, ← its.strip_len, e4]
   rw [hli] at C d4
   have HC := Lib.hid C
   have HNX : Hid (r.strip = r'.strip ∧ r.At W (blk a) (off a + (i + 1) * 6) ∧ r'.At W (blk a') (off a' + (i + 1) * 6) ∧ NsAt W (r.refsL (blk a) (off a + (i + 1) * 6)) k4 ∧ NsAt W (r'.refsL (blk a') (off a' + (i + 1) * 6)) k4) := Lib.hid (by
    rw [show off a + (i + 1) * 6 = off a + i * 6 + 6 by omega, show off a' + (i + 1) * 6 = off a' + i * 6 + 6 by omega]
    exact ⟨e6, hr, hr', hn4, hn4'⟩)
   have HM1 := Lib.hid m1; have HM1' := Lib.hid m1'; have HM3 := Lib.hid m3; have HM3' := Lib.hid m3'; have HN1 := Lib.hid hn1; have HN1' := Lib.hid hn1'; have HSZ := Lib.hid hszr
   unfold maxLen at m2
   generalize hnm : ms.length = nm at *
   have HNM := Lib.hid hnm
   clear hN hN' hNr hNr' hn2 hn2' hn3 hn3' hn4 hn4' hn1 hn1' hlt C hr hr' i3 i3' i1 i1' i2 i2' m1 m1' m2' m3 m3' hS hR hR' hsz e4 e6 hli hnm hszr
   generalize hb1 : blk a = b1 at *
   generalize ho1 : off a = o1 at *
   generalize hb2 : blk a' = b2 at *
   generalize ho2 : off a' = o2 at *
   subst ea ea'
   clear hb1 hb2 ho1 ho2 HF HF' HT HT' HN HN'
   go_wp2_with fail
   go_quiet (fail)
   go_wp2_with fail
   clear c0 c1 c2 c3 d0 d1 d2 d3
   go_loopw [6] (fun jv wr => ∃ (j : Nat) (s : List Mov) (ls : List Int) (q : Nat), jv = .int .i64 j ∧ j + s.length = nm ∧ wr = W.drewN q ∧ Hid (movAt W (blk ma) (off ma + j * 12) s) ∧ Hid (movAt W (blk ma') (off ma' + j * 12) s) ∧ Hid (NsAt W (movRefs (blk ma) (off ma + j * 12) s) ls) ∧ Hid (NsAt W (movRefs (blk ma') (off ma' + j * 12) s) ls)) (fun jv _ => nm + 1 - (intOf jv).toNat)
   case atStart => exact ⟨0, ms, k1, _, rfl, by rw [HNM.out]; omega, World.drewN_drewN _ _ _, by simpa [Hid] using HM3.out, by simpa [Hid] using HM3'.out, by simpa [Hid] using HN1.out, by simpa [Hid] using HN1'.out⟩
   case round =>
    obtain ⟨j, s, ls, q2, rfl, hjn, rfl, hM, hM', hL, hL'⟩ := hrel
    cases s with
    | nil =>
     simp only [List.length_nil, Nat.add_zero] at hjn
     subst hjn
     go_wp2_with fail
     go_quiet (first | (go_at_call 76; exact HC.out _ _))
     go_wp2_with fail
     go_roundw
     case rel => exact ⟨i + 1, r, r', k4, _, by go_num, by omega, rfl, HSZ, Lib.hid HNX.out.1, Lib.hid HNX.out.2.1, Lib.hid HNX.out.2.2.1, Lib.hid HNX.out.2.2.2.1, Lib.hid HNX.out.2.2.2.2⟩
     case measure => simp [intOf]; omega
    | cons x s =>
     simp only [List.length_cons] at hjn
     have hj : (j : Int) < (nm : Int) := by omega
     have ema := HM1.out.resolve_left (fun e => by rw [e] at HNM; have := HNM.out; simp at this; omega)
     have ema' := HM1'.out.resolve_left (fun e => by rw [e] at HNM; have := HNM.out; simp at this; omega)
     cases ls with
     | nil => exact absurd hL.out (by simp [movRefs, NsAt])
     | cons n1 ls =>
     obtain ⟨⟨f0, f1, f2, f3, f4, f5, f6, f8, f9, f10, f11⟩, hMr⟩ := hM.out
     obtain ⟨⟨g0, g1, g2, g3, g4, g5, g6, g8, g9, g10, g11⟩, hMr'⟩ := hM'.out
     obtain ⟨f7, hLr⟩ := hL.out
     obtain ⟨g7, hLr'⟩ := hL'.out
     have HNY : Hid (movAt W (blk ma) (off ma + (j + 1) * 12) s ∧ movAt W (blk ma') (off ma' + (j + 1) * 12) s ∧ NsAt W (movRefs (blk ma) (off ma + (j + 1) * 12) s) ls ∧ NsAt W (movRefs (blk ma') (off ma' + (j + 1) * 12) s) ls) := Lib.hid (by
      rw [show off ma + (j + 1) * 12 = off ma + j * 12 + 12 by omega, show off ma' + (j + 1) * 12 = off ma' + j * 12 + 12 by omega]
      exact ⟨hMr, hMr', hLr, hLr'⟩)
     clear hM hM' hL hL' hMr hMr' hLr hLr'
     generalize hb3 : blk ma = b3 at *
     generalize ho3 : off ma = o3 at *
     generalize hb4 : blk ma' = b4 at *
     generalize ho4 : off ma' = o4 at *
     subst ema ema'
     clear hb3 hb4 ho3 ho4
     go_wp2_with fail
     go_quiet (fail)
     go_wp2_with fail
     go_roundw
     case rel => exact ⟨j + 1, s, ls, _, by go_num, by omega, rfl, Lib.hid HNY.out.1, Lib.hid HNY.out.2.1, Lib.hid HNY.out.2.2.1, Lib.hid HNY.out.2.2.2⟩
     case measure => simp [intOf]; omega
theorem sameItems_any : ∀ (s : Nat) (T T' : Lt), T.size ≤ s → T.strip = T'.strip → ∀ (a : Option Addr) (c : Nat) (a' : Option Addr) (c' : Nat) (ks : List Int) (W : World), T.len ≤ maxLen → (T.len = 0 ∨ a = some ⟨blk a, off a, none⟩) → T.At W (blk a) (off a) → (T'.len = 0 ∨ a' = some ⟨blk a', off a', none⟩) → T'.At W (blk a') (off a') → NsAt W (T.refsL (blk a) (off a)) ks → NsAt W (T'.refsL (blk a') (off a')) ks → Calls Try.prog 76 #[.slice a T.len c, .slice a' T'.len c'] W (TrueP W) := by
 intro s
 induction s with
 | zero => intro T T' hs; exact same_step T T' (fun U U' hlt => absurd hlt (by omega))
 | succ s ih => intro T T' hs; exact same_step T T' (fun U U' hlt => ih U U' (by omega))
end Go.Proofs.Ytpnbpepkoekkoaa
end
