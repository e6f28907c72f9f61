/- The walk of the statement: part 3. -/
import Derived.Test.YtpnbpepkoekkoaaZ36
import Derived.Test.YtpnbpepkoekkoaaYRRDp1
import Derived.Test.YtpnbpepkoekkoaaYRRDp2
import Derived.Test.YtpnbpepkoekkoaaZ37
import Derived.Test.YtpnbpepkoekkoaaZ28
import Derived.Test.YtpnbpepkoekkoaaZ31
import Derived.Test.YtpnbpepkoekkoaaZ33
import Derived.BigQuiet
import Derived.BigCall
import Derived.BigGuard
import Derived.Test.YtpnbpepkoekkoaaZ3
set_option linter.unusedVariables false
set_option linter.unusedSimpArgs false
set_option maxRecDepth 100000
set_option maxHeartbeats 16000000
namespace Go.Proofs.Ytpnbpepkoekkoaa
open Go.Value (int)
open Go.IntKind (i64)
section
open Go Go.RowKit
def RU (lim : Int) (w : World) (e : Ending) (w' : World) : Prop := ∃ k : Int, 0 ≤ k ∧ k ≤ 1000000000000100 ∧ (k ≤ 60 → lim ≤ k) ∧ e = .returned (int i64 k) ∧ Below w.heap.size w w'
theorem QT (T : Lt) (hI : ∀ T' : Lt, T'.size < T.size → ∀ (ia : Option Addr) (ic : Nat) (n d : Int) (W : World), T'.mfit → 0 ≤ n → n ≤ 1000000000000100 → 0 ≤ d → d ≤ 21 → (T'.len = 0 ∨ ia = some ⟨blk ia, off ia, none⟩) → T'.len ≤ maxLen → T'.At W (blk ia) (off ia) → Calls Try.prog 83 #[.slice ia T'.len ic, int i64 n, int i64 d] W (RU (n + (T'.size : Nat)) W))
  (ia : Option Addr) (ic : Nat) (n d : Int) (W : World) (hmf : T.mfit) (hn0 : 0 ≤ n) (hn1 : n ≤ 1000000000000100) (hd0 : 0 ≤ d) (hd1 : d ≤ 21) (hf : T.len = 0 ∨ ia = some ⟨blk ia, off ia, none⟩) (hl : T.len ≤ maxLen) (hT : T.At W (blk ia) (off ia)) : Calls Try.prog 83 #[.slice ia T.len ic, int i64 n, int i64 d] W (RU (n + (T.size : Nat)) W) := by
 have HI := qh hI; have HT := qh hT; have HF := qh hf; have HMF := qh hmf; clear hI hT hf hmf; generalize hn : T.len = m at *; have HN := qh hn; clear hn; unfold maxLen at hl; go_enter Try.func83, Try.ntmps83; go_wp2_with fail; go_loopw [1, 7] (fun nv iv wr => ∃ (i : Nat) (k : Int) (R : Lt), iv = int i64 i ∧ nv = int i64 k ∧ i + R.len = m ∧ 0 ≤ k ∧ k ≤ 1000000000000100 ∧ Hid (k ≤ 60 → n + ((T.size : Nat) : Int) ≤ k + ((R.size : Nat) : Int)) ∧ Hid (R.size ≤ T.size) ∧ Hid R.mfit ∧ Hid (R.At wr (blk ia) (off ia + i * 6)) ∧ Hid (Below W.heap.size W wr)) (fun _ iv _ => m + 1 - (intOf iv).toNat)
 case atStart => exact ⟨0, n, T, rfl, rfl, by rw [HN.out]; omega, hn0, hn1, qh (fun _ => Int.le_refl _), qh (qn _), HMF, by simpa [Hid] using HT.out, qh (Below.refl _ _)⟩
 case round =>
  obtain ⟨i, k, R, rfl, rfl, hin, hk0, hk1, hkn, hsz, hMF, hR, hB⟩ := hrel
  cases R with
  | nil =>
   simp only [Lt.len, Nat.add_zero] at hin; subst hin; go_wp2_with fail
   all_goals (go_ret; exact ⟨k, hk0, hk1, fun h => (by have := hkn.out h; simp only [Lt.size] at this; omega), rfl, hB.out⟩)
  | cons kk n' un ja ic' its ma mc ms r =>
   simp only [Lt.len] at hin; have hi : (i : Int) < (m : Int) := by omega
   have e := HF.out.resolve_left (by omega); obtain ⟨⟨_, _, _, g4, g5⟩, _, ⟨i1, i2, i3⟩, hr⟩ := hR.out; obtain ⟨hml, hmi, hmr⟩ := hMF.out; have hlt : its.size < T.size := by have := hsz.out; simp only [Lt.size] at this; omega
   have hszr : r.size ≤ T.size := by have := hsz.out; simp only [Lt.size] at this; omega
   by_cases hd : 20 < d
   ·generalize hbb : blk ia = bb at *
    generalize hoo : off ia = oo at *; subst e; clear hbb hoo HF i3 hr; by_cases hk : k ≤ 60
    ·have hw1 : IntKind.i64.wrap (k + 1) = k + 1 := IntWalk.i64_in _ (by omega)
     have hw2 : IntKind.i64.wrap (k + 1 + (ms.length : Int)) = k + 1 + (ms.length : Int) := IntWalk.i64_in _ (by omega); go_wp2_with fail; go_ret; exact ⟨100, by omega, by omega, fun h => (by omega), rfl, hB.out⟩
    ·go_wp2_with fail
     go_ret; exact ⟨k, hk0, hk1, fun h => (by omega), rfl, hB.out⟩
   ·have C := HI.out its hlt ja ic' (k + 1 + (ms.length : Int)) (d + 1) wr hmi
    have HC := qh C; have HR := qh hr; have HMR := qh hmr; have HSZ := qh hszr; have HI3 := qh (And.intro i1 (And.intro i2 i3)); clear C i1 i2 i3 hr hlt hmi hmr hMF hszr; generalize hbb : blk ia = bb at *; generalize hoo : off ia = oo at *; subst e; clear hbb hoo HF; by_cases hk : k ≤ 60
    ·have hw1 : IntKind.i64.wrap (k + 1) = k + 1 := IntWalk.i64_in _ (by omega)
     have hw2 : IntKind.i64.wrap (k + 1 + (ms.length : Int)) = k + 1 + (ms.length : Int) := IntWalk.i64_in _ (by omega)
     go_wp2_with (go_at_call 83; refine (HC.out (by omega) (by omega) (by omega) (by omega) HI3.out.1 HI3.out.2.1 HI3.out.2.2).mono ?_; rintro e w5 ⟨k5, hk5, hk6, hk7, rfl, hb5⟩; have HK7 := qh hk7; clear hk7); go_roundw
     case rel => exact ⟨i + 1, k5, r, by go_num, rfl, by omega, hk5, hk6, qh (fun h5 => by have h6 := HK7.out h5; have h7 := hkn.out hk; simp only [Lt.size] at h7; omega), HSZ, HMR, qh (by rw [show oo + (i + 1) * 6 = oo + i * 6 + 6 by omega]; exact HR.out.below hb5), qh (Ag hB.out hb5)⟩
     case measure => simp [intOf]; omega
    ·go_wp2_with fail
     go_ret; exact ⟨k, hk0, hk1, fun h => (by omega), rfl, hB.out⟩
theorem RL : ∀ (s : Nat) (T : Lt), T.size ≤ s → ∀ (ia : Option Addr) (ic : Nat) (n d : Int) (W : World), T.mfit → 0 ≤ n → n ≤ 1000000000000100 → 0 ≤ d → d ≤ 21 → (T.len = 0 ∨ ia = some ⟨blk ia, off ia, none⟩) → T.len ≤ maxLen → T.At W (blk ia) (off ia) → Calls Try.prog 83 #[.slice ia T.len ic, int i64 n, int i64 d] W (RU (n + (T.size : Nat)) W) := by
 intro s
 induction s with
 | zero => intro T hs; exact QT T (fun T' hlt => absurd hlt (by omega))
 | succ s ih => intro T hs; exact QT T (fun T' hlt => ih T' (by omega))
def RY (s : Ls) (w : World) (e : Ending) (w' : World) : Prop := ∃ b : Bool, e = .returned (.bool b) ∧ (b = true → ∀ p ∈ s.phrases, p.its.size ≤ 60) ∧ Below w.heap.size w w'
theorem R4 (s : Ls) (W : World) (hA : s.At W) (hm : s.mfit) (hl : s.phrases.length ≤ 100000) : Calls Try.prog 60 #[.slice s.fa s.phrases.length s.fc] W (RY s W) := by
 have HA := qh hA; have HM := qh hm; clear hA hm; generalize hn : s.phrases.length = n at *; have HN := qh hn; clear hn; generalize hga : s.fa = fa at *; have HGA := qh hga; clear hga; go_enter Try.func60, Try.ntmps60; go_wp2_with fail; go_loopw [3] (fun iv wr => ∃ i : Nat, iv = int i64 i ∧ i ≤ n ∧ Hid (∀ p ∈ s.phrases.take i, p.its.size ≤ 60) ∧ Hid (Below W.heap.size W wr)) (fun iv _ => n + 1 - (intOf iv).toNat)
 case atStart => exact ⟨0, rfl, Nat.zero_le _, qh (by simp), qh (Below.refl _ _)⟩
 case round =>
  obtain ⟨i, rfl, hin, hTK, hB⟩ := hrel; by_cases hlt : i < n
  ·have hi : (i : Int) < (n : Int) := by omega
   obtain ⟨p, hp⟩ : ∃ p, s.phrases[i]? = some p := ⟨_, qg (by rw [HN.out]; exact hlt)⟩; have hAr := HA.out.below hB.out; obtain ⟨c0, c1⟩ := CO hAr.phrases hp; obtain ⟨i1, i2, i3⟩ := CQ hAr.phrases hp; have hfa := hAr.pform.resolve_left (fun e => by rw [e] at hp; cases hp); have HPI := qh hp; have C := RL _ p.its (qn _) p.ia p.ic 0 0 wr (HM.out p (List.mem_of_getElem? hp)) (by omega) (by omega) (by omega) (by omega) i1 i2 i3; unfold Ph.val at c1; rw [HGA.out] at c0 c1 hfa; have HC := qh C; clear hp hAr i1 i2 i3 C c0; generalize hbb : blk fa = fb at *; generalize hoo : off fa = fo at *; subst hfa; clear hbb hoo
   go_wp2_with (go_at_call 83; refine HC.out.mono ?_; rintro e w5 ⟨k5, hk5, hk6, hk7, rfl, hb5⟩; have HB5 := qh hb5; have HK7 := qh hk7; clear hb5 hk7)
   ·go_ret
    exact ⟨false, rfl, fun h => (by cases h), Ag hB.out HB5.out⟩
   ·go_roundw
    case rel => exact ⟨i + 1, by go_num, by omega, qh (fun p' hp' => by
     rw [List.take_add_one, HPI.out] at hp'; rcases List.mem_append.1 hp' with h | h
     ·exact hTK.out p' h
     ·obtain rfl : p' = p := by simpa using h
      have := HK7.out (by omega)
      omega), qh (Ag hB.out HB5.out)⟩
    case measure => simp [intOf]; omega
  ·have : i = n := by omega
   subst this; have hz : ¬ (i : Int) < (i : Int) := by omega
   go_wp2_with fail; go_ret; exact ⟨true, rfl, fun _ p hp => hTK.out p (by rw [List.take_of_length_le (by rw [HN.out]; exact qn _)]; exact hp), hB.out⟩
def RT (s : Ls) (w : World) (e : Ending) (w' : World) : Prop := ∃ b : Bool, e = .returned (.bool b) ∧ (b = true → s.phrases.length ≤ 12 ∧ s.roles.length ≤ 70 ∧ s.dances.length ≤ 300 ∧ ∀ p ∈ s.phrases, p.its.size ≤ 60) ∧ Below w.heap.size w w'
theorem R3 (s : Ls) (w : World) (hA : s.At w) (hm : s.mfit) : Calls Try.prog 26 #[s.val] w (RT s w) := by
 obtain ⟨W, hW, hB, hbW, sW⟩ := Ai w s.cells 30; have y10 : W.cell? ⟨w.heap.size, 10, none⟩ = some (.slice s.fa s.phrases.length s.fc) := Aa hB 10 rfl; have y7 : W.cell? ⟨w.heap.size, 7, none⟩ = some (.slice s.ta s.tempos.length s.tc) := Aa hB 7 rfl; have y8 : W.cell? ⟨w.heap.size, 8, none⟩ = some (.slice s.ua s.pauses.length s.uc) := Aa hB 8 rfl; have y9 : W.cell? ⟨w.heap.size, 9, none⟩ = some (.slice s.sa s.spans.length s.sc) := Aa hB 9 rfl; have y6 : W.cell? ⟨w.heap.size, 6, none⟩ = some (.slice s.ra s.roles.length s.rc) := Aa hB 6 rfl; have y11 : W.cell? ⟨w.heap.size, 11, none⟩ = some (.slice s.da s.dances.length s.dc) := Aa hB 11 rfl; have HS : Hid (s.phrases.length ≤ 12 → Calls Try.prog 60 #[.slice s.fa s.phrases.length s.fc] W (RY s W)) := qh (fun h => R4 s W (hA.below hbW) hm (by omega)); have HNO : Hid (RT s w (.returned (.bool false)) W) := qh ⟨false, rfl, fun h => (by cases h), hbW⟩; have HBW := qh hbW; have hv : s.val = .agg s.cells := rfl; rw [hv]; unfold Ls.cells at hW ⊢; clear hA hm hB hbW sW hv; by_cases q0 : s.phrases.length ≤ 12
 ·skip
  by_cases q1 : s.tempos.length ≤ 100
  ·skip
   by_cases q2 : s.pauses.length ≤ 100
   ·skip
    by_cases q3 : s.spans.length ≤ 300
    ·skip
     by_cases q4 : s.roles.length ≤ 70
     ·skip
      by_cases q5 : s.dances.length ≤ 300
      ·skip
       have HC := qh (HS.out q0); have HYES : Hid (∀ b V, (b = true → ∀ p ∈ s.phrases, p.its.size ≤ 60) → Below W.heap.size W V → RT s w (.returned (.bool b)) V) := qh (fun b V h0 h => ⟨b, rfl, fun hb => ⟨q0, q4, q5, h0 hb⟩, Ag HBW.out h⟩); clear HS; go_enter Try.func26, Try.ntmps26
       go_wp2_with (go_at_call 60; refine HC.out.mono ?_; rintro e V ⟨b, rfl, hb0, hb⟩; have HB := qh hb; have HB0 := qh hb0; clear hb hb0); go_ret; exact HYES.out b _ HB0.out HB.out
      ·have r5 : 300 < s.dances.length := by omega
       clear HS; go_enter Try.func26, Try.ntmps26; go_wp2_with fail; go_ret; exact HNO.out
     ·have r4 : 70 < s.roles.length := by omega
      clear HS; go_enter Try.func26, Try.ntmps26; go_wp2_with fail; go_ret; exact HNO.out
    ·have r3 : 300 < s.spans.length := by omega
     clear HS; go_enter Try.func26, Try.ntmps26; go_wp2_with fail; go_ret; exact HNO.out
   ·have r2 : 100 < s.pauses.length := by omega
    clear HS; go_enter Try.func26, Try.ntmps26; go_wp2_with fail; go_ret; exact HNO.out
  ·have r1 : 100 < s.tempos.length := by omega
   clear HS; go_enter Try.func26, Try.ntmps26; go_wp2_with fail; go_ret; exact HNO.out
 ·have r0 : 12 < s.phrases.length := by omega
  clear HS; go_enter Try.func26, Try.ntmps26; go_wp2_with fail; go_ret; exact HNO.out
end
section
open Go Go.RowKit Go.Deep
noncomputable def Qq : Code := (Try.f11.body).getD .skip
noncomputable def Rp : Code := match Ab 0 Qq with
 | .seq a _ => a
 | c => c
noncomputable def Rq : Code := match Ab 1 Qq with
 | .seq a _ => a
 | c => c
noncomputable def Rr : Code := match Ab 2 Qq with
 | .seq a _ => a
 | c => c
noncomputable def Rs : Code := match Ab 3 Qq with
 | .seq a _ => a
 | c => c
noncomputable def Rt : Code := match Ab 4 Qq with
 | .seq a _ => a
 | c => c
noncomputable def Ru : Code := match Ab 5 Qq with
 | .seq a _ => a
 | c => c
noncomputable def Rv : Code := match Ab 6 Qq with
 | .seq a _ => a
 | c => c
noncomputable def elem11n7 : Code := match Ab 7 Qq with
 | .seq a _ => a
 | c => c
noncomputable def elem11n8 : Code := match Ab 8 Qq with
 | .seq a _ => a
 | c => c
noncomputable def elem11n9 : Code := match Ab 9 Qq with
 | .seq a _ => a
 | c => c
noncomputable def elem11n10 : Code := match Ab 10 Qq with
 | .seq a _ => a
 | c => c
noncomputable def elem11n11 : Code := match Ab 11 Qq with
 | .seq a _ => a
 | c => c
noncomputable def R8 : Code := match Ab 12 Qq with
 | .seq a _ => a
 | c => c
noncomputable def R9 : Code := match Ab 13 Qq with
 | .seq a _ => a
 | c => c
noncomputable def Re : Code := match Ab 14 Qq with
 | .seq a _ => a
 | c => c
noncomputable def Rf : Code := match Ab 15 Qq with
 | .seq a _ => a
 | c => c
noncomputable def Rg : Code := match Ab 16 Qq with
 | .seq a _ => a
 | c => c
theorem Rz : Ab 1 Qq = .seq Rq (Ab 2 Qq) := rfl
theorem RA : Ab 2 Qq = .seq Rr (Ab 3 Qq) := rfl
theorem RB : Ab 3 Qq = .seq Rs (Ab 4 Qq) := rfl
theorem RC : Ab 4 Qq = .seq Rt (Ab 5 Qq) := rfl
theorem QW : Ab 5 Qq = .seq Ru (Ab 6 Qq) := rfl
theorem RD : Ab 6 Qq = .seq Rv (Ab 7 Qq) := rfl
theorem RE : Ab 7 Qq = .seq elem11n7 (Ab 8 Qq) := rfl
theorem RF : Ab 8 Qq = .seq elem11n8 (Ab 9 Qq) := rfl
theorem RG : Ab 9 Qq = .seq elem11n9 (Ab 10 Qq) := rfl
theorem Rh : Ab 10 Qq = .seq elem11n10 (Ab 11 Qq) := rfl
theorem Ri : Ab 11 Qq = .seq elem11n11 (Ab 12 Qq) := rfl
theorem Rj : Ab 12 Qq = .seq R8 (Ab 13 Qq) := rfl
theorem Rk : Ab 13 Qq = .seq R9 (Ab 14 Qq) := rfl
theorem Rl : Ab 14 Qq = .seq Re (Ab 15 Qq) := rfl
theorem QH : Ab 15 Qq = .seq Rf (Ab 16 Qq) := rfl
theorem QI : Ab 16 Qq = .seq Rg (Ab 17 Qq) := rfl
theorem RW (s : Ls) (ns : List Int) (w W : World) (n1 : Nat) (n2 : Nat) (h : LawIn s ns w) (hW : LawW s w W) (hrest : ∀ (V : World) (e0 e4 e5 e6 e7 e8 e9 ea eb ec ed ee ef eg eh ei ej ek el em en eo ep eq er es et eu ev ew ex ey ez eA eB eC eD eE eF eG eH eI eJ eK eL eM eN eO eP eQ eR eS eT eU eV eW eX eY eZ aa ab ac ad ae af ag ah ai aj ak al am an ao ap aq ar au av aw ax ay az aA aB aC aD aE aF aG aH aI aJ aK aL aM aN aO aP aQ aR aS aT aU aV aW aX aY aZ ba bb bc bd be bf bg bh bi bj bk bl bm bn bo bp bq br bs bt bu bv bw bx bz bA : Value), LawW s w V → AE s ns = 0 → (s.phrases.length ≤ 12 ∧ s.roles.length ≤ 70 ∧ s.dances.length ≤ 300 ∧ ∀ p ∈ s.phrases, p.its.size ≤ 60) → s.phrases.length ≠ 0 → (Ab 3 Qq).wp Try.prog (bodyPost Try.prog Try.f11 (fun e w' => e = .returned (.bool true) ∧ Below w.heap.size w w')) { tmps := #[e0, .int .u8 (n1 : Nat), .int .u8 (n2 : Nat), .pointer (some ⟨w.heap.size, 0, none⟩), e4, e5, e6, e7, e8, e9, ea, eb, ec, ed, ee, ef, eg, eh, ei, ej, ek, el, em, en, eo, ep, eq, er, es, et, eu, ev, ew, ex, ey, ez, eA, eB, eC, eD, eE, eF, eG, eH, eI, eJ, eK, eL, eM, eN, eO, eP, eQ, eR, eS, eT, eU, eV, eW, eX, eY, eZ, aa, ab, ac, ad, ae, af, ag, ah, ai, aj, ak, al, am, an, ao, ap, aq, ar, au, av, aw, ax, ay, az, aA, aB, aC, aD, aE, aF, aG, aH, aI, aJ, aK, aL, aM, aN, aO, aP, aQ, aR, aS, aT, aU, aV, aW, aX, aY, aZ, ba, bb, bc, bd, be, bf, bg, bh, bi, bj, bk, bl, bm, bn, bo, bp, bq, br, bs, bt, bu, bv, bw, bx, bz, bA], defers := [] } V) (e0 e4 e5 e6 e7 e8 e9 ea eb ec ed ee ef eg eh ei ej ek el em en eo ep eq er es et eu ev ew ex ey ez eA eB eC eD eE eF eG eH eI eJ eK eL eM eN eO eP eQ eR eS eT eU eV eW eX eY eZ aa ab ac ad ae af ag ah ai aj ak al am an ao ap aq ar au av aw ax ay az aA aB aC aD aE aF aG aH aI aJ aK aL aM aN aO aP aQ aR aS aT aU aV aW aX aY aZ ba bb bc bd be bf bg bh bi bj bk bl bm bn bo bp bq br bs bt bu bv bw bx bz bA : Value) :
  (Ab 2 Qq).wp Try.prog (bodyPost Try.prog Try.f11 (fun e w' => e = .returned (.bool true) ∧ Below w.heap.size w w')) { tmps := #[e0, .int .u8 (n1 : Nat), .int .u8 (n2 : Nat), .pointer (some ⟨w.heap.size, 0, none⟩), e4, e5, e6, e7, e8, e9, ea, eb, ec, ed, ee, ef, eg, eh, ei, ej, ek, el, em, en, eo, ep, eq, er, es, et, eu, ev, ew, ex, ey, ez, eA, eB, eC, eD, eE, eF, eG, eH, eI, eJ, eK, eL, eM, eN, eO, eP, eQ, eR, eS, eT, eU, eV, eW, eX, eY, eZ, aa, ab, ac, ad, ae, af, ag, ah, ai, aj, ak, al, am, an, ao, ap, aq, ar, au, av, aw, ax, ay, az, aA, aB, aC, aD, aE, aF, aG, aH, aI, aJ, aK, aL, aM, aN, aO, aP, aQ, aR, aS, aT, aU, aV, aW, aX, aY, aZ, ba, bb, bc, bd, be, bf, bg, bh, bi, bj, bk, bl, bm, bn, bo, bp, bq, br, bs, bt, bu, bv, bw, bx, bz, bA], defers := [] } W := by
 have C := R3 s W (h.at_.below hW.below) h.fit; unfold Ls.val at C; have HC := qh C; have HL := qh hW.box; have HW := qh hW; have HH := qh h; have HR := qh hrest; clear C h hW hrest; rw [RA]; refine Ac (fun K hK => ?_); have HK := qh hK; clear hK
 conv => arg 2; whnf
 go_wp2_with (refine wpList_load_row rfl 30 _ rfl w.heap.size rfl 30 s.cells (0, 0) _ HL.out Try.underlying30 rfl (by kernel_rfl) ?_; simp only [Act.put, qD, qE, qF]); refine HC.out.mono ?_; rintro e V ⟨b, rfl, hf, hv⟩; have H3 := qh (HW.out.next hv); have HF := qh hf; clear HC HL hv hf HW
 cases b with
 | false =>
  go_wp2_with fail
  try simp only [Exit.then]
  go_ret; exact ⟨rfl, H3.out.below⟩
 | true =>
 have C := Ck s ns V (HH.out.at_.below H3.out.below) (HH.out.ns.below H3.out.below) (HH.out.env _ H3.out.below); obtain ⟨c, hc⟩ : ∃ c, AE s ns = c := ⟨_, rfl⟩; unfold DD at C; rw [hc] at C; unfold Ls.val at C; have HC := qh C; have HL := qh H3.out.box; have HCE := qh hc; clear C hc
 go_wp2_with (refine BP (by kernel_rfl) 30 _ rfl w.heap.size rfl 30 s.cells (0, 0) _ HL.out Try.underlying30 rfl (by kernel_rfl) ?_; simp only [Act.put, qD, qE, qF]); refine HC.out.mono ?_; rintro e V2 ⟨rfl, hv⟩; have H4 := qh (H3.out.next hv); clear HC HL hv H3; by_cases hz : c = 0
 ·subst hz
  have HB4 := qh H4.out.box; have yp : V2.cell? ⟨w.heap.size, 10, none⟩ = some (.slice s.fa s.phrases.length s.fc) := Aa HB4.out 10 rfl; by_cases hp : s.phrases.length = 0
  ·rw [hp] at yp
   go_wp2_with fail
   try simp only [Exit.then]
   go_ret; exact ⟨rfl, H4.out.below⟩
  ·have hp1 : ¬ (s.phrases.length : Int) = 0 := by omega
   have hp2 : ((s.phrases.length : Int) == 0) = false := by simpa using hp1
   go_wp2_with fail; refine HK.out _ _ ?_; exact HR.out _ _ _ _ _ _ _ _ _ _ _ _ _ _ _ _ _ _ _ _ _ _ _ _ _ _ _ _ _ _ _ _ _ _ _ _ _ _ _ _ _ _ _ _ _ _ _ _ _ _ _ _ _ _ _ _ _ _ _ _ _ _ _ _ _ _ _ _ _ _ _ _ _ _ _ _ _ _ _ _ _ _ _ _ _ _ _ _ _ _ _ _ _ _ _ _ _ _ _ _ _ _ _ _ _ _ _ _ _ _ _ _ _ _ _ _ _ _ _ _ _ _ _ _ _ _ _ _ _ _ _ _ _ _ _ _ H4.out HCE.out (HF.out trivial) hp
 ·have hne : (c != 0) = true := by simpa using hz
  have hne2 : (c == 0) = false := by simpa using hz
  go_wp2_with fail
  try simp only [Exit.then]
  go_ret; exact ⟨rfl, H4.out.below⟩
theorem Ry (s : Ls) (ns : List Int) (w : World) (n1 : Nat) (n2 : Nat) (h : LawIn s ns w) (hrest : ∀ (V : World) (e0 e4 e5 e6 e7 e8 e9 ea eb ec ed ee ef eg eh ei ej ek el em en eo ep eq er es et eu ev ew ex ey ez eA eB eC eD eE eF eG eH eI eJ eK eL eM eN eO eP eQ eR eS eT eU eV eW eX eY eZ aa ab ac ad ae af ag ah ai aj ak al am an ao ap aq ar au av aw ax ay az aA aB aC aD aE aF aG aH aI aJ aK aL aM aN aO aP aQ aR aS aT aU aV aW aX aY aZ ba bb bc bd be bf bg bh bi bj bk bl bm bn bo bp bq br bs bt bu bv bw bx bz bA : Value), LawW s w V → AE s ns = 0 → (s.phrases.length ≤ 12 ∧ s.roles.length ≤ 70 ∧ s.dances.length ≤ 300 ∧ ∀ p ∈ s.phrases, p.its.size ≤ 60) → s.phrases.length ≠ 0 → (Ab 3 Qq).wp Try.prog (bodyPost Try.prog Try.f11 (fun e w' => e = .returned (.bool true) ∧ Below w.heap.size w w')) { tmps := #[e0, .int .u8 (n1 : Nat), .int .u8 (n2 : Nat), .pointer (some ⟨w.heap.size, 0, none⟩), e4, e5, e6, e7, e8, e9, ea, eb, ec, ed, ee, ef, eg, eh, ei, ej, ek, el, em, en, eo, ep, eq, er, es, et, eu, ev, ew, ex, ey, ez, eA, eB, eC, eD, eE, eF, eG, eH, eI, eJ, eK, eL, eM, eN, eO, eP, eQ, eR, eS, eT, eU, eV, eW, eX, eY, eZ, aa, ab, ac, ad, ae, af, ag, ah, ai, aj, ak, al, am, an, ao, ap, aq, ar, au, av, aw, ax, ay, az, aA, aB, aC, aD, aE, aF, aG, aH, aI, aJ, aK, aL, aM, aN, aO, aP, aQ, aR, aS, aT, aU, aV, aW, aX, aY, aZ, ba, bb, bc, bd, be, bf, bg, bh, bi, bj, bk, bl, bm, bn, bo, bp, bq, br, bs, bt, bu, bv, bw, bx, bz, bA], defers := [] } V) : Calls Try.prog 11 #[s.val, .int .u8 (n1 : Nat), .int .u8 (n2 : Nat)] w (fun e w' => e = .returned (.bool true) ∧ Below w.heap.size w w') := by
 obtain ⟨W1, hW1, h1⟩ : ∃ W1, w.alloc (.cells s.cells 30) = W1 ∧ LawW s w W1 := ⟨_, rfl, (Below.refl _ w).alloc (qn _) _, heap_alloc_new w _⟩; obtain ⟨cs, hcs⟩ : ∃ cs, s.cells = cs := ⟨_, rfl⟩; have hsv : s.val = .agg cs := by rw [← hcs]; rfl
 have hW1' : w.alloc (.cells cs 30) = W1 := by rw [← hcs]; exact hW1
 rw [hsv]; have HW1 := qh hW1'; have HCS := qh hcs; have HH := qh h; have HR := qh hrest; have H1 := qh h1; clear hcs hW1 hW1' hsv h1 h hrest; go_enter Try.func11, Try.ntmps11; change Code.wp Try.prog (.seq Rp (Ab 1 Qq)) _ _ _; refine Ac (fun K hK => ?_); have HK := qh hK; clear hK
 conv => arg 2; whnf
 go_wp2_with fail; refine HK.out _ _ ?_; clear HK K; rw [HW1.out]; rw [Rz]; refine Ac (fun K hK => ?_); have HK := qh hK; clear hK
 conv => arg 2; whnf
 have C := OK W1 (fun V hV => HH.out.env _ (Ag H1.out.below hV)); have HC := qh C; clear C
 go_wp2_with (go_at_call 25; refine HC.out.mono ?_; rintro e V ⟨rfl, hv⟩); refine HK.out _ _ ?_; have H2 := qh (H1.out.next hv); clear HK K HC H1 HW1 hv; exact RW s ns w V n1 n2 HH.out H2.out HR.out _ _ _ _ _ _ _ _ _ _ _ _ _ _ _ _ _ _ _ _ _ _ _ _ _ _ _ _ _ _ _ _ _ _ _ _ _ _ _ _ _ _ _ _ _ _ _ _ _ _ _ _ _ _ _ _ _ _ _ _ _ _ _ _ _ _ _ _ _ _ _ _ _ _ _ _ _ _ _ _ _ _ _ _ _ _ _ _ _ _ _ _ _ _ _ _ _ _ _ _ _ _ _ _ _ _ _ _ _ _ _ _ _ _ _ _ _ _ _ _ _ _ _ _ _ _ _ _ _ _ _ _ _ _ _
end
section
open Go Go.RowKit
def Its.shal : Its → Nat → Bool
 | .nil, _ => true
 | .cons _ _ _ its _ r, d => decide (d < 16) && (its.shal (d + 1) && r.shal d)
theorem QK (f : Nm → Int) (T : Lt) (hI : ∀ T' : Lt, T'.size < T.size → ∀ (ia : Option Addr) (ic d : Nat) (W : World), d ≤ 17 → (T'.len = 0 ∨ ia = some ⟨blk ia, off ia, none⟩) → T'.len ≤ maxLen → T'.At W (blk ia) (off ia) → NumAt f W (T'.refsL (blk ia) (off ia)) → Calls Try.prog 32 #[.slice ia T'.len ic, int i64 (d : Nat)] W (fun e w' => e = .returned (.bool (T'.strip.shal d)) ∧ Below W.heap.size W w'))
  (ia : Option Addr) (ic d : Nat) (W : World) (hd : d ≤ 17) (hf : T.len = 0 ∨ ia = some ⟨blk ia, off ia, none⟩) (hl : T.len ≤ maxLen) (hT : T.At W (blk ia) (off ia)) (hU : NumAt f W (T.refsL (blk ia) (off ia))) : Calls Try.prog 32 #[.slice ia T.len ic, int i64 (d : Nat)] W (fun e w' => e = .returned (.bool (T.strip.shal d)) ∧ Below W.heap.size W w') := by
 have HI := qh hI; have HT := qh hT; have HF := qh hf; have HU := qh hU; clear hI hT hf hU; generalize hn : T.len = m at *; have HN := qh hn; clear hn; unfold maxLen at hl; have hwd : IntKind.i64.wrap ((d : Int) + 1) = ((d + 1 : Nat) : Int) := by rw [IntWalk.i64_in _ (by omega)]; omega
 go_enter Try.func32, Try.ntmps32; go_wp2_with fail; go_loopw [4, 9] (fun rv iv wr => ∃ (i : Nat) (R : Lt), iv = int i64 i ∧ i + R.len = m ∧ Hid (R.size ≤ T.size) ∧ Hid (T.strip.shal d = R.strip.shal d) ∧ Hid (R.At W (blk ia) (off ia + i * 6)) ∧ Hid (NumAt f W (R.refsL (blk ia) (off ia + i * 6))) ∧ Hid (Below W.heap.size W wr)) (fun _ iv _ => m + 1 - (intOf iv).toNat)
 case atStart => exact ⟨0, T, rfl, by rw [HN.out]; omega, qh (qn _), qh rfl, by simpa [Hid] using HT.out, by simpa [Hid] using HU.out, qh (Below.refl _ _)⟩
 case round =>
  obtain ⟨i, R, rfl, hin, hsz, hsh, hR, hK, hB⟩ := hrel
  cases R with
  | nil =>
   simp only [Lt.len, Nat.add_zero] at hin; subst hin; go_wp2_with fail; go_ret; exact ⟨by rw [hsh.out]; rfl, hB.out⟩
  | cons kk n' un ja ic' its ma mc ms r =>
   simp only [Lt.len] at hin; have hi : (i : Int) < (m : Int) := by omega
   have e := HF.out.resolve_left (by omega); obtain ⟨⟨u, g3', hu⟩, _, k2, k3⟩ := hK.out.mov; obtain ⟨⟨g0', g1', g2', g4', g5'⟩, _, ⟨i1, i2, i3⟩, hr⟩ := hR.out; have g0 := Ae hB.out g0'; have g1 := Ae hB.out g1'; have g2 := Ae hB.out g2'; have g3 := Ae hB.out g3'; have g4 := Ae hB.out g4'; have g5 := Ae hB.out g5'; obtain ⟨W2, hW2, gW2, bW2, sW2⟩ := Ai wr #[int i64 kk, int i64 n', sv un, int i64 u, .slice ja its.len ic', .slice ma ms.length mc] 78; have y4 := Aa gW2 4 rfl; clear g0' g1' g2' g3' g4' g5' gW2 sW2 hu; have hlt : its.size < T.size := by have := hsz.out; simp only [Lt.size] at this; omega
   have hszr : r.size ≤ T.size := by have := hsz.out; simp only [Lt.size] at this; omega
   have hsp : T.strip.shal d = (decide (d < 16) && (its.strip.shal (d + 1) && r.strip.shal d)) := hsh.out; by_cases hd16 : 16 ≤ d
   ·have hq : T.strip.shal d = false := by rw [hsp, decide_eq_false (by omega)]; rfl
    have HQ := qh hq; have hd2 : (16 : Int) ≤ (d : Int) := by omega
    generalize hbb : blk ia = bb at *; generalize hoo : off ia = oo at *; subst e; clear hbb hoo HF i3 hr hq hsp k2 k3; go_wp2_with fail; go_ret; exact ⟨BM HQ.out.symm, Ag hB.out bW2⟩
   ·have hd2 : ¬ (16 : Int) ≤ (d : Int) := by omega
    have hdd : decide (d < 16) = true := decide_eq_true (by omega); rw [hdd, Bool.true_and] at hsp; have C := HI.out its hlt ja ic' (d + 1) W2 (by omega) i1 i2 (i3.below (Ag hB.out bW2)) (k2.below (Ag hB.out bW2)); obtain ⟨b, hb⟩ : ∃ b, its.strip.shal (d + 1) = b := ⟨_, rfl⟩; rw [hb] at hsp C; have HC := qh C; have HR := qh hr; have HSZ := qh hszr; have HSP := qh hsp; have HK3 := qh k3; have HB2 := qh (Ag hB.out bW2); clear C i1 i2 i3 hr hlt hszr hsp hb hdd k2 k3 bW2 hR hK; generalize hbb : blk ia = bb at *; generalize hoo : off ia = oo at *; subst e; clear hbb hoo HF
    cases b with
    | false =>
     go_wp2_with (go_at_call 32; refine HC.out.mono ?_; rintro e w5 ⟨rfl, hb5⟩; have HB5 := qh (Ag HB2.out hb5); clear hb5); go_ret; exact ⟨by rw [HSP.out]; rfl, HB5.out⟩
    | true =>
     go_wp2_with (go_at_call 32; refine HC.out.mono ?_; rintro e w5 ⟨rfl, hb5⟩; have HB5 := qh (Ag HB2.out hb5); clear hb5); go_roundw
     case rel => exact ⟨i + 1, r, by go_num, by omega, HSZ, qh (by rw [HSP.out, Bool.true_and]), qh (by rw [show oo + (i + 1) * 6 = oo + i * 6 + 6 by omega]; exact HR.out), qh (by rw [show oo + (i + 1) * 6 = oo + i * 6 + 6 by omega]; exact HK3.out), HB5⟩
     case measure => simp [intOf]; omega
theorem RI (f : Nm → Int) : ∀ (s : Nat) (T : Lt), T.size ≤ s → ∀ (ia : Option Addr) (ic d : Nat) (W : World), d ≤ 17 → (T.len = 0 ∨ ia = some ⟨blk ia, off ia, none⟩) → T.len ≤ maxLen → T.At W (blk ia) (off ia) → NumAt f W (T.refsL (blk ia) (off ia)) → Calls Try.prog 32 #[.slice ia T.len ic, int i64 (d : Nat)] W (fun e w' => e = .returned (.bool (T.strip.shal d)) ∧ Below W.heap.size W w') := by
 intro s
 induction s with
 | zero => intro T hs; exact QK f T (fun T' hlt => absurd hlt (by omega))
 | succ s ih => intro T hs; exact QK f T (fun T' hlt => ih T' (by omega))
end
section
open Go Go.RowKit Go.Deep
theorem Qz : ∀ (t : Its) (d : Nat), t.ok d = true → t.shal d = true → t.ok (d + 1) = true
 | .nil, _, _, _ => rfl
 | .cons k n un its ms r, d, h, hs => by
  rw [Its.ok_cons] at h ⊢; simp only [Its.shal, Bool.and_eq_true, decide_eq_true_eq] at hs; obtain ⟨h1, h2, h3, h4⟩ := h; obtain ⟨s1, s2, s3⟩ := hs; refine ⟨h1, ?_, Qz its (d + 1) h3 s2, Qz r d h4 s3⟩
  cases its with
  | nil => exact Or.inl rfl
  | cons k' n' un' its' ms' r' =>
   simp only [Its.shal, Bool.and_eq_true, decide_eq_true_eq] at s2; exact Or.inr (by omega)
def Qr (kd n : Int) (t : Its) : Its := .cons kd n [] t [] .nil
theorem Rm {kd n : Int} {t : Its} (h : kd ≠ 4) : (Qr kd n t).refs = (0, []) :: t.refs := by
 simp [Qr, Its.refs, Bh, h]
theorem Ro {kd n : Int} {t : Its} {f : Nm → Int} (h : kd ≠ 4) : (Qr kd n t).uses f = t.uses f := by
 simp [Qr, Its.uses, h]
theorem Rn (kd n : Int) (t : Its) : (Qr kd n t).size = t.size + 1 := by simp [Qr, Its.size]
theorem QM : ∀ {ps : List Phr} {k : Nat} {p q : Phr}, ps[k]? = some p → Qt (ps.set k q) + p.items.size = Qt ps + q.items.size
 | [], k, p, q, h => by simp at h
 | x :: ps, 0, p, q, h => by simp at h; subst h; simp [Qt]; omega
 | x :: ps, k + 1, p, q, h => by
  have := QM (ps := ps) (k := k) (q := q) (by simpa using h); unfold Qt at this ⊢; simp only [List.set_cons_succ, List.map_cons, List.sum_cons]; omega
theorem QL : ∀ {ps : List Phr}, (∀ p ∈ ps, p.items.size ≤ 60) → Qt ps ≤ 60 * ps.length
 | [], _ => by simp [Qt]
 | x :: ps, h => by
  have h1 := QL (ps := ps) (fun p hp => h p (by simp [hp])); have h2 := h x (by simp); unfold Qt at h1 ⊢; simp only [List.map_cons, List.sum_cons, List.length_cons]; omega
theorem QJ {ps : List Phr} {k : Nat} {p : Phr} (h : ps[k]? = some p) (t : Its) : (ps.set k ⟨p.name, t⟩).map Phr.name = ps.map Phr.name := by
 rw [List.map_set]; refine List.ext_getElem? fun j => ?_
 rw [List.getElem?_set]
 split
 ·rename_i e; subst e
  have hk := (ql.1 h).1; rw [if_pos (by simpa using hk), List.getElem?_map, h]; rfl
 ·rfl
theorem QQ {s : Sc} {ns : List Int} (h : Bp s ns = 0) {k : Nat} {p : Phr} (hp : s.phrases[k]? = some p) {kd : Int} (hkd : kd = 2 ∨ kd = 3) (n : Int) (hs : p.items.shal 1 = true) (hf : ∀ p ∈ s.phrases, p.items.size ≤ 60) (hl : s.phrases.length ≤ 12) (ds : List Dan) (hds : ds = s.dances ∨ ds = []) :
  Bp { s with phrases := s.phrases.set k ⟨p.name, Qr kd n p.items⟩, dances := ds } (({ s with phrases := s.phrases.set k ⟨p.name, Qr kd n p.items⟩, dances := ds } : Sc).refs.map (BJ s.rnames s.pnames)) = 0 := by
 obtain ⟨h1, h2, h3, h4, h5, _⟩ := En h; obtain ⟨l1, l2, l3⟩ := (QV s).1 h1; have hpm := List.mem_of_getElem? hp; have hpn : ({ s with phrases := s.phrases.set k ⟨p.name, Qr kd n p.items⟩, dances := ds } : Sc).pnames = s.pnames := QJ hp _; have hk4 : kd ≠ 4 := by rcases hkd with e | e <;> omega
 have hmem : ∀ q ∈ s.phrases.set k ⟨p.name, Qr kd n p.items⟩, q ∈ s.phrases ∨ q = ⟨p.name, Qr kd n p.items⟩ := fun q hq => List.mem_or_eq_of_mem_set hq
 have := GQ (s := { s with phrases := s.phrases.set k ⟨p.name, Qr kd n p.items⟩, dances := ds }) ?_ ?_ ?_ ?_ ?_
 ·rw [hpn] at this
  exact this
 ·rw [QV]
  refine ⟨?_, fun q hq => ?_, ?_⟩
  ·rw [RV] at l1 ⊢
   obtain ⟨a1, a2, a3, a4, a5, a6⟩ := l1; refine ⟨a1, a2, a3, a4, ?_, ?_⟩
   ·show (s.phrases.set k _).length ≤ 64
    rw [List.length_set]; exact a5
   ·show ds.length ≤ 256
    rcases hds with e | e
    ·rw [e]; exact a6
    ·rw [e]; simp
  ·rcases hmem q hq with h6 | rfl
   ·exact l2 q h6
   ·show (Qr kd n p.items).ok 1 = true
    unfold Qr; rw [Its.ok_cons]; exact ⟨by simp, Or.inr (by omega), Qz p.items 1 (l2 p hpm) hs, rfl⟩
  ·have e1 := QM (q := ⟨p.name, Qr kd n p.items⟩) hp
   have e2 := QL hf; have e3 := Rn kd n p.items
   show Qt (s.phrases.set k _) ≤ 4096
   have e4 : (⟨p.name, Qr kd n p.items⟩ : Phr).items.size = p.items.size + 1 := e3; omega
 ·unfold Sc.named at h2 ⊢
  rw [hpn]; exact h2
 ·unfold Sc.apart at h3 ⊢
  rw [hpn]; exact h3
 ·unfold Sc.kinds at h4 ⊢
  rw [List.all_eq_true] at h4 ⊢; intro q hq; rcases hmem q hq with h6 | rfl
  ·exact h4 q h6
  ·have := h4 p hpm
   show (Qr kd n p.items).kinds = true
   simp only [Qr, Its.kinds, List.all_nil, this, Bool.and_true, Bool.true_and, Bool.and_eq_true, decide_eq_true_eq]; rcases hkd with e | e <;> omega
 ·rw [hpn]
  intro r hr; rcases List.mem_append.1 hr with hr | hr
  ·obtain ⟨q, hq, hr⟩ := List.mem_flatMap.1 hr
   rcases hmem q hq with h6 | rfl
   ·exact h5 r (List.mem_append.2 (Or.inl (List.mem_flatMap.2 ⟨q, h6, hr⟩)))
   ·have hr' : r ∈ (Qr kd n p.items).refs := hr
    rw [Rm hk4] at hr'; rcases List.mem_cons.1 hr' with rfl | hr'
    ·unfold EN; simp
    ·exact h5 r (List.mem_append.2 (Or.inl (List.mem_flatMap.2 ⟨p, hpm, hr'⟩)))
  ·have hr' : r ∈ ds.flatMap fun d => [(1, d.rn), (2, d.pn)] := hr
   rcases hds with e | e
   ·rw [e] at hr'
    exact h5 r (List.mem_append.2 (Or.inr hr'))
   ·rw [e] at hr'; simp at hr'
def Ph.wrap (p : Ph) (kd n : Int) (b : Nat) : Ph := ⟨p.name, some ⟨b, 0, none⟩, 1, .cons kd n [] p.ia p.ic p.its none 0 [] .nil⟩
theorem Ph.wrap_strip (p : Ph) (kd n : Int) (b : Nat) : (p.wrap kd n b).strip = ⟨p.name, Qr kd n p.its.strip⟩ := rfl
def Ls.withF (s : Ls) (g c : Nat) (ps : List Ph) : Ls := { s with fa := some ⟨g, 0, none⟩, fc := c, phrases := ps }
def Ls.noDan (s : Ls) : Ls := { s with da := none, dc := 0, dances := [] }
theorem Qs {s : Ls} {g c k : Nat} {p : Ph} (kd n : Int) (b : Nat) : (s.withF g c (s.phrases.set k (p.wrap kd n b))).strip = { s.strip with phrases := s.strip.phrases.set k ⟨p.name, Qr kd n p.its.strip⟩ } := by
 unfold Ls.withF Ls.strip; simp only [List.map_set, Ph.wrap_strip]
theorem QB {s : Ls} {k : Nat} {p : Ph} (h : s.phrases[k]? = some p) : s.strip.phrases[k]? = some p.strip := by
 show (s.phrases.map Ph.strip)[k]? = _
 rw [List.getElem?_map, h]; rfl
theorem QC {L : List Its} {f : Nm → Int} (hx : ∀ t ∈ L, t.exB = true) {k : Nat} {t : Its} (ht : L[k]? = some t) : ∀ d : Nat, Fl (L.set k (Qr 3 0 t)) f d = Fl L f d
 | 0 => rfl
 | d + 1 => by
  funext j
  unfold Fl; rw [QC hx ht d]; by_cases h0 : 0 ≤ j
  ·rw [if_pos h0, if_pos h0]
   by_cases e : k = j.toNat
   ·have hk := (ql.1 ht).1
    have e1 : (L.set k (Qr 3 0 t))[j.toNat]? = some (Qr 3 0 t) := by rw [List.getElem?_set, if_pos e, if_pos hk]
    have e2 : L[j.toNat]? = some t := by rw [← e]; exact ht
    rw [e1, e2]; have hb := t.sumF_bound f (Fl L f d) 0 (hx t (List.mem_of_getElem? ht)) (fun u _ => Fm hx d u) (by omega) (by omega); simp only [Qr, Its.sumF]; simp; omega
   ·have e1 : (L.set k (Qr 3 0 t))[j.toNat]? = L[j.toNat]? := by rw [List.getElem?_set, if_neg e]
    rw [e1]
  ·rw [if_neg h0, if_neg h0]
theorem QU {L : List Its} {f : Nm → Int} (hx : ∀ t ∈ L, t.exB = true) {k : Nat} {t : Its} (ht : L[k]? = some t) : C7 (L.set k (Qr 3 0 t)) f = C7 L f := by
 unfold C7; rw [List.length_set]; exact QC hx ht _
theorem Rw {s : Ls} {g c k : Nat} {p : Ph} (kd n : Int) (b : Nat) : (s.withF g c (s.phrases.set k (p.wrap kd n b))).itsL = s.itsL.set k (Qr kd n p.its.strip) := by
 unfold Ls.itsL Ls.withF; simp only [List.map_set]
 rfl
theorem Qy {s : Ls} {f : Nm → Int} {g c k : Nat} {p : Ph} (hp : s.phrases[k]? = some p) {kd : Int} (hk : kd ≠ 4) (n : Int) (b : Nat) : (s.withF g c (s.phrases.set k (p.wrap kd n b))).nexts f = s.nexts f := by
 unfold Ls.nexts Ls.withF; simp only [List.map_set]; refine List.ext_getElem? fun j => ?_
 rw [List.getElem?_set]
 split
 ·rename_i e; subst e
  have hkl := (ql.1 hp).1; rw [if_pos (by simpa using hkl), List.getElem?_map, hp]
  show some (((Qr kd n p.its.strip).uses f).foldl AU []) = some ((p.its.strip.uses f).foldl AU [])
  rw [Ro hk]
 ·rfl
theorem Qv {s : Ls} {g c k : Nat} {p : Ph} (hp : s.phrases[k]? = some p) (kd n : Int) (b : Nat) : AG (s.withF g c (s.phrases.set k (p.wrap kd n b))).strip = AG s.strip := by
 funext nm
 unfold AG; rw [Qs]; have : ({ s.strip with phrases := s.strip.phrases.set k ⟨p.name, Qr kd n p.its.strip⟩ } : Sc).pnames = s.strip.pnames := QJ (QB hp) _; rw [this]
theorem R6 {kd n : Int} {t : Its} (h : t.exB = true) (hn : (kd = 2 ∧ 1 ≤ n ∧ n ≤ 64) ∨ (kd = 3 ∧ n = 0)) : (Qr kd n t).exB = true := by
 simp only [Qr, Its.exB, h, DF, inB, List.length_nil, List.all_nil]; rcases hn with ⟨rfl, h1, h2⟩ | ⟨rfl, rfl⟩
 ·simp [h1, h2]
 ·simp
def Ls.nsF (s : Ls) (k : Nat) (p : Ph) (kd n : Int) (ds : List Dan) : List Int := ({ s.strip with phrases := s.strip.phrases.set k ⟨p.name, Qr kd n p.its.strip⟩, dances := ds } : Sc).refs.map (BJ s.strip.rnames s.strip.pnames)
theorem QN {s : Ls} {ns : List Int} (h : AE s ns = 0) {k : Nat} {p : Ph} (hp : s.phrases[k]? = some p) (hs : p.its.strip.shal 1 = true) (hf : ∀ p ∈ s.phrases, p.its.size ≤ 60) (hl : s.phrases.length ≤ 12) (g c b : Nat) :
  AE (s.withF g c (s.phrases.set k (p.wrap 3 0 b))) (s.nsF k p 3 0 s.dances) = 0 ∧ C7 (s.withF g c (s.phrases.set k (p.wrap 3 0 b))).itsL (AG (s.withF g c (s.phrases.set k (p.wrap 3 0 b))).strip) = C7 s.itsL (AG s.strip) := by
 obtain ⟨h1, h2, h3, h4, h5, h6, h7⟩ := Dw h; have hex : ∀ p ∈ s.phrases, p.its.strip.exB = true := List.all_eq_true.1 h5
 have hexL : ∀ t ∈ s.itsL, t.exB = true := fun t ht => by
  obtain ⟨p, hp, rfl⟩ := List.mem_map.1 ht; exact hex p hp
 have hpm := List.mem_of_getElem? hp; have hti : s.itsL[k]? = some p.its.strip := by unfold Ls.itsL; rw [List.getElem?_map, hp]; rfl
 have hlen : C7 (s.withF g c (s.phrases.set k (p.wrap 3 0 b))).itsL (AG (s.withF g c (s.phrases.set k (p.wrap 3 0 b))).strip) = C7 s.itsL (AG s.strip) := by
  rw [Qv hp, Rw, QU hexL hti]
 refine ⟨DY ?_ h2 h3 h4 ?_ ?_ ?_, hlen⟩
 ·rw [Qs]
  have := QQ h1 (QB hp) (Or.inr rfl : (3 : Int) = 2 ∨ (3 : Int) = 3) 0 hs (fun q hq => by
   obtain ⟨q', hq', rfl⟩ := List.mem_map.1 hq
   show q'.its.strip.size ≤ 60
   rw [q'.its.strip_size]; exact hf q' hq') (by simpa [Ls.strip] using hl) s.dances (Or.inl rfl)
  exact this
 ·refine List.all_eq_true.2 fun q hq => ?_
  rcases List.mem_or_eq_of_mem_set hq with h8 | rfl
  ·exact hex q h8
  ·exact R6 (hex p hpm) (Or.inr ⟨rfl, rfl⟩)
 ·rw [Qv hp, Qy hp (by omega)]; exact h6
 ·rw [hlen, Qv hp]; exact h7
theorem QO {s : Ls} {ns : List Int} (h : AE s ns = 0) {k : Nat} {p : Ph} (hp : s.phrases[k]? = some p) (hs : p.its.strip.shal 1 = true) (hf : ∀ p ∈ s.phrases, p.its.size ≤ 60) (hl : s.phrases.length ≤ 12) {n : Int} (hn : 1 ≤ n ∧ n ≤ 64) (g c b : Nat) :
  AE (s.withF g c (s.phrases.set k (p.wrap 2 n b))).noDan (s.nsF k p 2 n []) = 0 ∧ C7 (s.withF g c (s.phrases.set k (p.wrap 2 n b))).noDan.itsL (AG (s.withF g c (s.phrases.set k (p.wrap 2 n b))).noDan.strip) k = min (n * C7 s.itsL (AG s.strip) k) 4097 := by
 obtain ⟨h1, h2, h3, h4, h5, h6, h7⟩ := Dw h; have hex : ∀ p ∈ s.phrases, p.its.strip.exB = true := List.all_eq_true.1 h5; have hpm := List.mem_of_getElem? hp; have hkl := (ql.1 hp).1
 have hsnd : AE (s.withF g c (s.phrases.set k (p.wrap 2 n b))).noDan (s.nsF k p 2 n []) = 0 := by
  refine DY ?_ h2 h3 h4 ?_ ?_ rfl
  ·have e : (s.withF g c (s.phrases.set k (p.wrap 2 n b))).noDan.strip = { (s.withF g c (s.phrases.set k (p.wrap 2 n b))).strip with dances := [] } := rfl
   rw [e, Qs]
   exact QQ h1 (QB hp) (Or.inl rfl : (2 : Int) = 2 ∨ (2 : Int) = 3) n hs (fun q hq => by
    obtain ⟨q', hq', rfl⟩ := List.mem_map.1 hq
    show q'.its.strip.size ≤ 60
    rw [q'.its.strip_size]; exact hf q' hq') (by simpa [Ls.strip] using hl) [] (Or.inr rfl)
  ·refine List.all_eq_true.2 fun q hq => ?_
   rcases List.mem_or_eq_of_mem_set hq with h8 | rfl
   ·exact hex q h8
   ·exact R6 (hex p hpm) (Or.inl ⟨rfl, hn.1, hn.2⟩)
  ·have e1 : AG (s.withF g c (s.phrases.set k (p.wrap 2 n b))).noDan.strip = AG s.strip := Qv (g := g) (c := c) hp 2 n b
   rw [e1]; have e2 : (s.withF g c (s.phrases.set k (p.wrap 2 n b))).noDan.nexts (AG s.strip) = s.nexts (AG s.strip) := Qy (g := g) (c := c) hp (by omega) n b; rw [e2]; exact h6
 refine ⟨hsnd, ?_⟩; have L1 := Kr h; have L2 := Kr hsnd; have e1 : AG (s.withF g c (s.phrases.set k (p.wrap 2 n b))).noDan.strip = AG s.strip := Qv (g := g) (c := c) hp 2 n b; rw [e1] at L2 ⊢; have e2 : (s.withF g c (s.phrases.set k (p.wrap 2 n b))).noDan.nexts (AG s.strip) = s.nexts (AG s.strip) := Qy (g := g) (c := c) hp (by omega) n b; rw [e2] at L2; obtain ⟨len2, hlen2⟩ : ∃ q, C7 (s.withF g c (s.phrases.set k (p.wrap 2 n b))).noDan.itsL (AG s.strip) = q := ⟨_, rfl⟩; rw [hlen2] at L2 ⊢; have hph : (s.withF g c (s.phrases.set k (p.wrap 2 n b))).noDan.phrases = s.phrases.set k (p.wrap 2 n b) := rfl; rw [hph] at L2; generalize C7 s.itsL (AG s.strip) = len1 at *; generalize AG s.strip = f at *
 have key : ∀ (z j : Nat), D7 (s.nexts f) j ≤ z → D7 (s.nexts f) j < D7 (s.nexts f) k → j < s.phrases.length → len2 j = len1 j := by
  intro z
  induction z with
  | zero =>
   intro j hz hj hjl; obtain ⟨q, hq⟩ : ∃ q, s.phrases[j]? = some q := ⟨_, qg hjl⟩; have hjk : k ≠ j := fun e => by subst e; omega
   rw [L1.fix j q hq, L2.fix j q (by rw [List.getElem?_set, if_neg hjk]; exact hq)]; refine Its.sumF_congr f _ _ _ 0 fun u hu => ?_
   obtain ⟨i, rfl, hi, hr⟩ := L1.down j q hq u hu; omega
  | succ z ih =>
   intro j hz hj hjl; obtain ⟨q, hq⟩ : ∃ q, s.phrases[j]? = some q := ⟨_, qg hjl⟩; have hjk : k ≠ j := fun e => by subst e; omega
   rw [L1.fix j q hq, L2.fix j q (by rw [List.getElem?_set, if_neg hjk]; exact hq)]; refine Its.sumF_congr f _ _ _ 0 fun u hu => ?_
   obtain ⟨i, rfl, hi, hr⟩ := L1.down j q hq u hu; exact ih i (by omega) (by omega) hi
 have hk2 := L2.fix k (p.wrap 2 n b) (by rw [List.getElem?_set, if_pos rfl, if_pos hkl]); rw [hk2, L1.fix k p hp]; have e3 : (p.wrap 2 n b).its.strip = Qr 2 n p.its.strip := rfl; rw [e3]
 have e4 : p.its.strip.sumF f len2 0 = p.its.strip.sumF f len1 0 := Its.sumF_congr f _ _ _ 0 fun u hu => by
  obtain ⟨i, rfl, hi, hr⟩ := L1.down k p hp u hu; exact key _ i (qn _) hr hi
 simp only [Qr, Its.sumF]; rw [e4]; simp
end
section
open Go Go.RowKit Go.Deep
end
section
open Go Go.RowKit Go.Deep
theorem QF {w : World} {B e k n : Nat} {v : Value} {xs : List Value} (h : w.ownsRow B e k v n xs) (hv : ∃ g, v.ownBlock = some g) : ∃ g c, v = .slice (some ⟨g, 0, none⟩) n c ∧ B ≤ g ∧ FreeB w g ∧ ∀ j u, xs[j]? = some u → w.cell? ⟨g, j, none⟩ = some u := by
 rcases h.2 with ⟨rfl, rfl⟩ | ⟨g, cap, cur, rfl, hg, hh, _⟩
 ·obtain ⟨g, hg⟩ := hv; cases hg
 ·refine ⟨g, cap, rfl, hg, ⟨cur, _, hh⟩, fun j u hj => ?_⟩
  have := h.cells (g := g) rfl j u hj; rw [AX, Nat.zero_add] at this; exact this
end
section
open Go Go.RowKit Go.Deep
end
section
open Go Go.RowKit
theorem Its.sumF_ge (f : Nm → Int) (F : Int → Int) : ∀ (T : Its) (n : Int), T.exB = true → (∀ u ∈ T.uses f, 0 ≤ F u ∧ F u ≤ 4097) → 0 ≤ n → n ≤ 4097 → n ≤ T.sumF f F n
 | .nil, n, _, _, _, _ => Int.le_refl n
 | .cons k nn un its ms r, n, hx, hu, h0, h1 => by
  obtain ⟨hn, hi, hr⟩ := Its.exB_parts hx; have hbi := its.sumF_bound f F 0 hi (fun u h => hu u (by simp [Its.uses, h])) (by omega) (by omega); have hF : k = 4 → 0 ≤ F (f un) := fun hk => (hu (f un) (by simp [Its.uses, hk])).1
  unfold Its.sumF
  have hv : 0 ≤ (if k = 1 then 1 else if k = 2 then nn * its.sumF f F 0 else if k = 3 then its.sumF f F 0 else if k = 4 then F (f un) else 0) := by
   split
   ·omega
   ·split
    ·rename_i h2
     subst h2; exact Int.mul_nonneg (by have := J8 hn; omega) hbi.1
    ·split
     ·exact hbi.1
     ·split
      ·rename_i h4; exact hF h4
      ·omega
  have := r.sumF_ge f F (min (n + (if k = 1 then 1 else if k = 2 then nn * its.sumF f F 0 else if k = 3 then its.sumF f F 0 else if k = 4 then F (f un) else 0)) 4097) hr (fun u h => hu u (by simp [Its.uses, h])) (by omega) (by omega); omega
theorem Its.sumF_sat (f : Nm → Int) (F : Int → Int) (T : Its) (hx : T.exB = true) (hu : ∀ u ∈ T.uses f, 0 ≤ F u ∧ F u ≤ 4097) : T.sumF f F 4097 = 4097 := by
 have h1 := T.sumF_ge f F 4097 hx hu (by omega) (by omega); have h2 := T.sumF_bound f F 4097 hx hu (by omega) (by omega); omega
def SumAt (T R : Its) (f : Nm → Int) (len : Int → Int) (n : Int) (ok : Bool) : Prop := (ok = true → 0 ≤ n ∧ n ≤ 1048576 ∧ T.sumF f len 0 = R.sumF f len (min n 4097)) ∧ (ok = false → T.sumF f len 0 = 4097)
def QR (k nn : Int) (un : Nm) (si : Int) (f : Nm → Int) (len : Int → Int) : Int := if k = 1 then 1 else if k = 2 then nn * si else if k = 3 then si else if k = 4 then len (f un) else 0
theorem SumAt.step {T r its : Its} {f : Nm → Int} {len : Int → Int} {k nn : Int} {un : Nm} {ms : List Mov} {a m a2 : Int} {ok fine : Bool} (h : SumAt T (.cons k nn un its ms r) f len a ok) (hr : r.exB = true) (hu : ∀ u ∈ r.uses f, 0 ≤ len u ∧ len u ≤ 4097)
  (h1 : fine = true → 0 ≤ m ∧ m ≤ 67108864 ∧ min (QR k nn un (its.sumF f len 0) f len) 4097 = min m 4097 ∧ 0 ≤ QR k nn un (its.sumF f len 0) f len) (h2 : fine = false → 4097 ≤ QR k nn un (its.sumF f len 0) f len) (ha : a2 = wrap64 (a + m)) :
  (a2 ≤ 1048576 → SumAt T r f len a2 (ok && fine)) ∧ (1048576 < a2 → T.sumF f len 0 = 4097) := by
 have hs := r.sumF_sat f len hr hu
 cases ok with
 | false => exact ⟨fun _ => ⟨fun h => (by cases h), fun _ => h.2 rfl⟩, fun _ => h.2 rfl⟩
 | true =>
  obtain ⟨b1, b2, b3⟩ := h.1 rfl; have hq : ∀ x y : Int, min x 4097 = min y 4097 → 0 ≤ x → 0 ≤ y → min (min a 4097 + x) 4097 = min (min a 4097 + y) 4097 := by omega
  have b4 : T.sumF f len 0 = r.sumF f len (min (min a 4097 + QR k nn un (its.sumF f len 0) f len) 4097) := by rw [b3]; rfl
  cases fine with
  | false =>
   have h3 := h2 rfl; rw [show min (min a 4097 + QR k nn un (its.sumF f len 0) f len) 4097 = 4097 by omega, hs] at b4; exact ⟨fun _ => ⟨fun h => (by cases h), fun _ => b4⟩, fun _ => b4⟩
  | true =>
   obtain ⟨c1, c2, c3, c4⟩ := h1 rfl; have hw : a2 = a + m := by rw [ha, ← IntWalk.i64_left]; exact IntWalk.i64_in _ (by omega)
   rw [hq _ m c3 c4 c1] at b4; refine ⟨fun h => ⟨fun _ => ⟨by omega, h, ?_⟩, fun h => (by cases h)⟩, fun h => ?_⟩
   ·rw [b4, hw]
    congr 1
    omega
   ·rw [b4, show min (min a 4097 + m) 4097 = 4097 by omega, hs]
end
section
open Go Go.RowKit
end
section
open Go Go.RowKit Go.Deep
theorem NI.of {s : Ls} {ns : List Int} (h : AE s ns = 0) {j : Nat} (hj : j < s.phrases.length) {w : World} {e : Ending} {w' : World} (h2 : NI s ns j w e w') : e = .returned (.tuple #[int i64 (if C7 s.itsL (AG s.strip) j ≤ 4096 then C7 s.itsL (AG s.strip) j else 0), int i64 (if C7 s.itsL (AG s.strip) j ≤ 4096 then 0 else 2)]) ∧ Below w.heap.size w w' := by
 obtain ⟨h3, h4⟩ := h2; refine ⟨?_, h4⟩; rw [h3]; unfold EW; rw [if_pos h, if_pos (AY.2 ⟨by omega, by omega⟩)]
 split <;> rfl
end
section
open Go Go.RowKit Go.Deep
theorem RS {α : Type} {enc : α → List Value} {k : Nat} (hk : ∀ x, (enc x).length = k) {W : World} {g i q : Nat} {xs : List α} {x x' : α} {v : Value} (h : RowV enc W g xs) (hx : xs[i]? = some x) (hq : (enc x')[q]? = some v) (hsame : ∀ r, r ≠ q → (enc x')[r]? = (enc x)[r]?) : RowV enc (W.setCell ⟨g, i * k + q, none⟩ v) g (xs.set i x') := by
 have hi := (ql.1 hx).1; have hql : q < k := by rw [← hk x']; exact (ql.1 hq).1
 have hg := fun r u hr => h.get hk (r := r) (u := u) hx hr
 refine h.set hk hi (fun r u hr => ?_) (fun q' v' hq' hc => Ad hc (Av (Or.inr (by omega)))); by_cases h4 : r = q
 ·subst h4
  rw [hq] at hr; cases hr; obtain ⟨u0, hu0⟩ : ∃ u, (enc x)[r]? = some u := ⟨_, qg (by rw [hk x]; exact hql)⟩; exact World.cell?_setCell_same _ _ _ (hg r _ hu0)
 ·rw [hsame r h4] at hr
  exact Ad (hg r u hr) (Av (Or.inr (by omega)))
end
end Go.Proofs.Ytpnbpepkoekkoaa
