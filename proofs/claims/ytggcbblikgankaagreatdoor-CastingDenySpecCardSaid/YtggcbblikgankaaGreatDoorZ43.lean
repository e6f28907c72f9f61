/- Contracts and plain laws on the way to the statement: part 43. -/
import Derived.Test.YtggcbblikgankaaGreatDoorZ42
import Derived.Test.YtggcbblikgankaaGreatDoorZ13
import Derived.Test.YtggcbblikgankaaGreatDoorZ5
import Derived.Test.YtggcbblikgankaaGreatDoorZ27
import Derived.Test.YtggcbblikgankaaGreatDoorZ34
import Derived.StillTailTactics
set_option linter.unusedVariables false
set_option linter.unusedSimpArgs false
section
namespace Go.Proofs.YtggcbblikgankaaGreatDoor
open Go Go.RowKit Go.Deep
theorem Below.drewN {B : Nat} {a w : World} (h : Below B a w) (k : Nat) : Below B a (w.drewN k) := ⟨h.os, h.tape, h.output, h.size, h.block⟩
def CheapP (CH : Prop) (w : World) (e : Ending) (w' : World) : Prop := ∃ b : Bool, e = .returned (.bool b) ∧ (b = true ↔ CH) ∧ Below w.heap.size w w'
structure CheapW (kT kC kM kS kB D n m : Nat) (cost : List (List Int)) (taken : List Bool) (aoC : Option Addr) (ccC : Nat) (spent best : Int) (w : World) : Prop where
 mat : IsMat w (.slice aoC n ccC) cost
 boxC : w.cell? ⟨kC, 0, none⟩ = some (.slice aoC n ccC)
 boxT : w.cell? ⟨kT, 0, none⟩ = some (.slice (some ⟨D, 0, none⟩) m m)
 boxM : w.cell? ⟨kM, 0, none⟩ = some (.int .i64 m)
 boxS : w.cell? ⟨kS, 0, none⟩ = some (.int .i64 spent)
 boxB : w.cell? ⟨kB, 0, none⟩ = some (.int .i64 best)
 tk : BB w D taken
 ltC : kC < w.heap.size
 ltT : kT < w.heap.size
 ltM : kM < w.heap.size
 ltS : kS < w.heap.size
 ltB : kB < w.heap.size
set_option maxRecDepth 100000 in
set_option maxHeartbeats 8000000 in
theorem cheap_any (kT kC kM kS kB D n m i j : Nat) (cost : List (List Int)) (taken : List Bool) (aoC : Option Addr) (ccC : Nat) (spent best : Int) (p : Nat → Nat) (hl : cost.length = n) (hrl : ∀ r ∈ cost, r.length = m) (htl : taken.length = m) (hm : m ≤ 16) (hn : n ≤ 16) (hi : i < n) (hj : j < m) (hcap : n ≤ ccC) (hcc : ccC ≤ maxLen)
  (hc : ∀ r k, cI cost r k ≤ topC) (hc0 : ∀ r k, -1 ≤ cI cost r k) (hsp : spent = sumT (fun r => cI cost r (p r)) i) (hp : PrefOk m (cI cost) i p taken) (hbest : ∀ t, CastN n m (cI cost) t → best ≤ sumT (fun r => cI cost r (t r)) n)
  (w : World) (hW : CheapW kT kC kM kS kB D n m cost taken aoC ccC spent best w) :
  Calls Tryz.prog 47 #[.int .i64 i, .int .i64 j, .pointer (some ⟨kT, 0, none⟩), .pointer (some ⟨kC, 0, none⟩), .pointer (some ⟨kM, 0, none⟩), .pointer (some ⟨kS, 0, none⟩), .pointer (some ⟨kB, 0, none⟩)] w (CheapP (CheapAt n m (cI cost) i j p best) w) := by
 have h0 : (gb taken j = true ∨ cI cost i j < 0) → ¬ CheapAt n m (cI cost) i j p best := fun h => cheap_not hp hi hj h
 have hLO : LeftOk n m (cI cost) (cI (leftM cost i j taken)) i j taken := by rw [← hl]; exact leftM_ok hrl hj htl
 have hN : Hall (n - (i + 1)) m (cI (leftM cost i j taken)) → ¬ CheapAt n m (cI cost) i j p best := fun h => cheap_none hp hi hLO h
 have hY : gb taken j = false → 0 ≤ cI cost i j → ∀ s, SolOk (n - (i + 1)) m (cI (leftM cost i j taken)) s → (CheapAt n m (cI cost) i j p best ↔ spent + cI cost i j + sumT (fun r => cI (leftM cost i j taken) r (gi s.to r).toNat) (n - (i + 1)) = best) := fun h1 h2 s hs => by
  rw [hsp]; exact cheap_iff hbest hp hi hj h1 h2 hLO hs
 have hspb : 0 ≤ spent ∧ spent ≤ 17179869184 := by
  have hA : ∀ k, k ≤ i → 0 ≤ sumT (fun r => cI cost r (p r)) k ∧ sumT (fun r => cI cost r (p r)) k ≤ 1048576 * (k : Int) := by
   intro k
   induction k with
   | zero => intro _; exact ⟨Int.le_refl _, Int.le_refl _⟩
   | succ k ih =>
    intro hk
    have h1 := ih (by omega)
    have h2 := hp.ok k (by omega)
    have h3 : cI cost k (p k) ≤ 1048576 := hc k (p k)
    unfold sumT
    omega
  have := hA i (Nat.le_refl _)
  rw [hsp]; omega
 obtain ⟨hb1, hb2⟩ := leftM_bounds (i := i) hrl hj htl hc hc0
 have H0 := Lib.hid h0; have HN := Lib.hid hN; have HY := Lib.hid hY; have HB1 := Lib.hid hb1; have HB2 := Lib.hid hb2; have HW := Lib.hid hW; have HL := Lib.hid hl; have HRL := Lib.hid hrl; have HTL := Lib.hid htl
 have hij : -1 ≤ cI cost i j ∧ cI cost i j ≤ 1048576 := ⟨hc0 i j, hc i j⟩
 have hboxC := hW.boxC; have hboxT := hW.boxT
 have cT := hW.tk.cell (j := j) (by omega)
 obtain ⟨b1, o1, rfl, aR, cR, cH, hrow, hlt1⟩ := hW.mat.at_ (i := i) (by omega)
 have hrl2 : (cost[i]?.getD []).length = m := hrl _ (by rw [List.getElem?_eq_getElem (by omega)]; exact List.getElem_mem _)
 rw [hrl2] at cH hrow
 obtain ⟨b2, o2, rfl, cX, hlt2⟩ := hrow.int (j := j) (by omega)
 have cX2 : w.cell? ⟨b2, o2 + j, none⟩ = some (.int .i64 (cI cost i j)) := cX
 have hlc := HW.out.ltC
 clear hrow cX h0 hN hY hb1 hb2 hW hl hrl htl hLO hp hbest hsp hc hc0 hrl2
 have hmx : (maxLen : Nat) < 9223372036854775808 := by decide
 have hi' : (i : Int) < (n : Int) := by omega
 have hj' : (j : Int) < (m : Int) := by omega
 generalize CheapAt n m (cI cost) i j p best = CH at *
 generalize hx : cI cost i j = xij at *
 cases htk : gb taken j with
 | true =>
  rw [htk] at cT
  have hno : ¬ CH := H0.out (Or.inl htk)
  have HNO := Lib.hid hno
  clear hno
  go_enter Tryz.func47, Tryz.ntmps47
  go_wp2_with fail
  go_ret
  exact ⟨false, rfl, by simp [HNO.out], Below.refl _ _⟩
 | false =>
  rw [htk] at cT
  by_cases hx0 : xij < 0
  ·have hno : ¬ CH := H0.out (Or.inr hx0)
   have HNO := Lib.hid hno
   clear hno
   go_enter Tryz.func47, Tryz.ntmps47
   go_wp2_with fail
   go_ret
   exact ⟨false, rfl, by simp [HNO.out], Below.refl _ _⟩
  ·have HTK := Lib.hid htk
   clear htk H0
   go_enter Tryz.func47, Tryz.ntmps47
   change Code.wp Tryz.prog (withLast 3 code66 (.seq part66n3 part66n4)) _ _ _
   conv => arg 2; whnf
   go_wp2_with fail
   conv => arg 2; whnf
   go_wp2_with fail
   conv => arg 2; whnf
   obtain ⟨i79, hi79, hz0, hz1, hz2⟩ := info_parts info79b
   go_wp2_with (at_make; refine wpList_make_own _ rfl _ _ 50 rfl w.heap.size 55 i79 (.slice none 0 0) 1 Tryz.underlying50 hi79 hz0 hz1 _ _ _ n rfl rfl rfl (by rw [hz2]; omega) (by simp only [maxLen]; omega) (Nat.le_refl _) ?_; intro w1 hown1 hgrow1)
   have hb1 : Below w.heap.size w w1 := ⟨hgrow1.os, hgrow1.tape, hgrow1.output, hgrow1.size, fun k hk => hgrow1.block k hk (by simp)⟩
   have hL1 : w.heap.size < w1.heap.size := by
    obtain ⟨_, ⟨h2, _⟩ | ⟨g, cap, cur, e, hb, hg, _⟩⟩ := hown1
    ·cases h2
    ·have := (Array.getElem?_eq_some_iff.1 hg).1; omega
   have hLW : LeftW w.heap.size n m cost i j taken w1 0 [] w1 := ⟨Below.refl _ _, hL1, hown1, rfl, fun r hr => by omega⟩
   have HLW := Lib.hid hLW; have HBL := Lib.hid hb1
   clear hLW hown1 hgrow1
   refine left_loop kT kC D w.heap.size n m i j cost taken _ ccC HL.out HRL.out HTL.out (by omega) (by omega) hi hj hcap hcc w1 (HW.out.mat.below hb1 (Nat.le_refl _)) (fun W hWW => HW.out.mat.below (hb1.trans hWW) (Nat.le_refl _)) ((hb1.cell (p := ⟨kC, 0, none⟩) HW.out.ltC).trans HW.out.boxC) HW.out.ltC ((hb1.cell (p := ⟨kT, 0, none⟩) HW.out.ltT).trans HW.out.boxT) HW.out.ltT ((hb1.block D HW.out.tk.lt).trans HW.out.tk) HW.out.tk.lt HLW.out _ _ _ _ _ _ _ _ _ _ _ _ _ _ _ _ _ _ _ _ _ _ _ _ _ _ _ _ _ _ _ _ _ _ _ _ _ _ _ _ _ _ _ _ _ _ _ _ _ _ _ _ _ _ _ _ _ _ _ _ _ _ _ _ _ _ _ _ _ _ _ _ _ _ _ _ _ _ _ _ _ _ _ _ _ _ _ _ _ _ _ _ _ _ _ _ _ _ _ _ _ _ _ _ _ _ _ _ ?_
   intro w2 hs _ _ _ _ _ _ _ _ _ _ _ _ _ _ _ _ _ _ _ _ _ _ _ _ _ _ _ _ _ _ _ _ _ _ _ hLW2
   have hbw2 : Below w.heap.size w w2 := HBL.out.trans hLW2.below
   have hmat := hLW2.mat HL.out HRL.out HTL.out (by omega) (by omega)
   obtain ⟨res, _, hres, c65⟩ := solve_right (leftM cost i j taken) (some ⟨w.heap.size, 0, none⟩) n m w2 (by rw [leftM_len, HL.out]; exact hmat) (leftM_rl HRL.out) (by rw [leftM_len, HL.out]; omega) hm HB1.out HB2.out
   rw [leftM_len, HL.out] at hres c65
   have HRES := Lib.hid hres; have HMAT := Lib.hid hmat; have HW2 := Lib.hid hbw2
   have cM := (hbw2.cell (p := ⟨kM, 0, none⟩) HW.out.ltM).trans HW.out.boxM
   clear hres hmat hLW2 HLW
   unfold part66n4 code66
   conv => arg 2; whnf
   go_wp2_with (go_at_call 46; refine c65.mono ?_)
   have key : ∀ w3, Below w2.heap.size w2 w3 → Below w.heap.size w w3 := fun w3 h => hbw2.trans (h.mono hbw2.size)
   cases res with
   | none =>
    rintro e w3 ⟨rfl, hb3⟩
    have hb30 := key w3 hb3
    have hno : ¬ CH := HN.out HRES.out
    have HNO := Lib.hid hno
    have cS3 := (hb30.cell (p := ⟨kS, 0, none⟩) HW.out.ltS).trans HW.out.boxS
    have cC3 := (hb30.cell (p := ⟨kC, 0, none⟩) HW.out.ltC).trans HW.out.boxC
    have cH3 := (hb30.cell (p := ⟨b1, o1 + i, none⟩) hlt1).trans cH
    have cX3 := (hb30.cell (p := ⟨b2, o2 + j, none⟩) hlt2).trans cX2
    have H3 := Lib.hid hb30
    clear hno hb30 hb3 key hbw2 c65
    go_wp2_with fail
    conv => arg 2; whnf
    go_wp2_with fail
    go_quiet (fail)
    go_wp2_with fail
    conv => arg 2; whnf
    go_wp2_with fail
    conv => arg 2; whnf
    go_wp2_with fail
    go_loopw [90] (fun iv wr => iv = .int .i64 0 ∧ Hid (Below w.heap.size w wr)) (fun _ _ => 0)
    case atStart => exact ⟨rfl, Lib.hid (Below.drewN H3.out _)⟩
    case round =>
     obtain ⟨rfl, hB⟩ := hrel
     go_wp2_with fail
     conv => arg 2; whnf
     go_wp2_with fail
     go_ret
     exact ⟨false, rfl, by simp [HNO.out], hB.out⟩
   | some s =>
    rintro e w3 ⟨T, U, V, rfl, hT, _, _, ⟨hT2, _, _⟩, hb3⟩
    have hb30 := key w3 hb3
    have hok : SolOk (n - (i + 1)) m (cI (leftM cost i j taken)) s := HRES.out
    have hiff := HY.out HTK.out (by omega) s hok
    have cS3 := (hb30.cell (p := ⟨kS, 0, none⟩) HW.out.ltS).trans HW.out.boxS
    have cB3 := (hb30.cell (p := ⟨kB, 0, none⟩) HW.out.ltB).trans HW.out.boxB
    have cC3 := (hb30.cell (p := ⟨kC, 0, none⟩) HW.out.ltC).trans HW.out.boxC
    have cH3 := (hb30.cell (p := ⟨b1, o1 + i, none⟩) hlt1).trans cH
    have cX3 := (hb30.cell (p := ⟨b2, o2 + j, none⟩) hlt2).trans cX2
    have HM3 := Lib.hid (HMAT.out.below hb3 (Nat.le_refl _))
    have hsum : ∀ k, k ≤ n - (i + 1) → -1048576 * (k : Int) ≤ sumT (fun r => cI (leftM cost i j taken) r (gi s.to r).toNat) k ∧ sumT (fun r => cI (leftM cost i j taken) r (gi s.to r).toNat) k ≤ 1048576 * (k : Int) := by
     intro k
     induction k with
     | zero => intro _; exact ⟨Int.le_refl _, Int.le_refl _⟩
     | succ k ih =>
      intro hk
      have h1 := ih (by omega)
      have h2 := HB2.out k (gi s.to k).toNat
      have h3 : cI (leftM cost i j taken) k (gi s.to k).toNat ≤ 1048576 := HB1.out k _
      unfold sumT
      omega
    have HSUM := Lib.hid hsum; have HIFF := Lib.hid hiff; have HT := Lib.hid hT; have HOK := Lib.hid hok; have H3 := Lib.hid hb30
    clear hsum hiff hT hok hb30 hb3 key hbw2 c65 HRES HY
    go_wp2_with fail
    conv => arg 2; whnf
    go_wp2_with fail
    go_quiet (fail)
    go_wp2_with fail
    conv => arg 2; whnf
    refine sum_loop (leftM cost i j taken) (n - (i + 1)) m s.to _ n T (by rw [leftM_len, HL.out]) (leftM_rl HRL.out) HOK.out.lt (fun r hr => by obtain ⟨q, hq, e, _⟩ := HOK.out.cast r hr; omega) (spent + xij) (fun k hk => by have := HSUM.out k hk; omega) (by omega) (by omega) _ (HM3.out.below (Below.drewN (Below.refl _ w3) _) (Nat.le_refl _)) HT.out _ _ _ _ _ _ _ _ _ _ _ _ _ _ _ _ _ _ _ _ _ _ _ _ _ _ _ _ _ _ _ _ _ _ _ _ _ _ _ _ _ _ _ _ _ _ _ _ _ _ _ _ _ _ _ _ _ _ _ _ _ _ _ _ _ _ _ _ _ _ _ _ _ _ _ _ _ _ _ _ _ _ _ _ _ _ _ _ _ _ _ _ _ _ _ _ _ _ _ _ _ _ _ _ _ _ _ _ _ _ ?_
    intro _ _ _ _ _ _ _ _ _ _ _ _ _ _ _ _ _ _ _
    have HC3 := Lib.hid (Below.drewN H3.out nq)
    have cB4 : (w3.drewN nq).cell? ⟨kB, 0, none⟩ = some (.int .i64 best) := cB3
    conv => arg 2; whnf
    have hsb := HSUM.out _ (Nat.le_refl _)
    have HIF := HIFF.out
    clear HIFF HSUM HOK HM3 cB3 cX3 cH3 cC3 cS3
    generalize sumT (fun r => cI (leftM cost i j taken) r (gi s.to r).toNat) (n - (i + 1)) = sm at *
    have HI := Lib.hid HIF
    clear HIF
    by_cases he : spent + xij + sm = best
    ·have hd : ((spent + xij + sm) == best) = true := by simp [he]
     go_wp2_with fail
     go_ret
     exact ⟨true, rfl, by simp [HI.out, he], HC3.out⟩
    ·have hd : ((spent + xij + sm) == best) = false := by simp [he]
     go_wp2_with fail
     go_ret
     exact ⟨false, rfl, by simp [HI.out, he], HC3.out⟩
end Go.Proofs.YtggcbblikgankaaGreatDoor
end
section
namespace Go.Proofs.YtggcbblikgankaaGreatDoor
open Go Go.RowKit Go.Deep
noncomputable def code32 : Code := (Tryz.f20.body).getD .skip
noncomputable def part32n5 : Code := fstC (lastPart 5 code32)
set_option maxRecDepth 100000 in
set_option maxHeartbeats 8000000 in
theorem cost_loop (cost : List (List Int)) (n m : Nat) (own : List Int) (aoC : Option Addr) (ccC T kC kB B : Nat) (hl : cost.length = n) (hrl : ∀ r ∈ cost, r.length = m) (hto : own.length = n) (htr : ∀ r, r < n → 0 ≤ gi own r ∧ gi own r < (m : Int)) (hs : ∀ k, k ≤ n → -1099511627776 ≤ sumT (fun r => cI cost r (gi own r).toNat) k ∧ sumT (fun r => cI cost r (gi own r).toNat) k ≤ 1099511627776) (hn0 : n ≤ 1000)
  (w : World) (hcl : ∀ W, Below B w W → IsMat W (.slice aoC n ccC) cost) (hT : BI w T own) (hC : w.cell? ⟨kC, 0, none⟩ = some (.slice aoC n ccC)) (hne : kC ≠ kB) (hne2 : T ≠ kB) (hB : B ≤ kB) (h0 : w.cell? ⟨kB, 0, none⟩ = some (.int .i64 0)) (hf : w.frozen? ⟨kB, 0, none⟩ = false) (e0 e2 e4 e5 e6 e8 e9 e10 e11 e12 e13 e14 e15 e16 e17 e18 e19 e20 e21 e22 e23 e24 e25 e26 e27 e28 e29 e30 e31 e32 e33 e34 e35 e36 e37 e38 e39 e40 e41 e42 e43 e44 e45 e46 e47 e48 e49 e50 e51 e52 e53 e54 e55 e56 e57 e58 e59 e60 e61 e62 e63 e64 e65 e66 e67 e68 e69 e70 e71 e72 e73 e74 e75 e76 e77 e78 e79 e80 e81 e82 e83 e84 : Value) (Q : Exit → Act → World → Prop) (X : Code)
  (hX : ∀ (w' : World) (f10 f11 f34 f35 f36 f37 f38 f39 f40 f41 f42 f43 f44 f45 f46 f47 f48 f49 f50 : Value), Below B w w' → (∀ h, h ≠ kB → w'.heap[h]? = w.heap[h]?) → w'.cell? ⟨kB, 0, none⟩ = some (.int .i64 (sumT (fun r => cI cost r (gi own r).toNat) n)) → w'.frozen? ⟨kB, 0, none⟩ = false → Code.wp Tryz.prog X Q { tmps := #[e0, .pointer (some ⟨kC, 0, none⟩), e2, .pointer (some ⟨kB, 0, none⟩), e4, e5, e6, .slice (some ⟨T, 0, none⟩) n n, e8, e9, f10, f11, e12, e13, e14, e15, e16, e17, e18, e19, e20, e21, e22, e23, e24, e25, e26, e27, e28, e29, e30, e31, e32, e33, f34, f35, f36, f37, f38, f39, f40, f41, f42, f43, f44, f45, f46, f47, f48, f49, f50, e51, e52, e53, e54, e55, e56, e57, e58, e59, e60, e61, e62, e63, e64, e65, e66, e67, e68, e69, e70, e71, e72, e73, e74, e75, e76, e77, e78, e79, e80, e81, e82, e83, e84], defers := [] } w') :
  Code.wp Tryz.prog (.seq part32n5 X) Q { tmps := #[e0, .pointer (some ⟨kC, 0, none⟩), e2, .pointer (some ⟨kB, 0, none⟩), e4, e5, e6, .slice (some ⟨T, 0, none⟩) n n, e8, e9, e10, e11, e12, e13, e14, e15, e16, e17, e18, e19, e20, e21, e22, e23, e24, e25, e26, e27, e28, e29, e30, e31, e32, e33, e34, e35, e36, e37, e38, e39, e40, e41, e42, e43, e44, e45, e46, e47, e48, e49, e50, e51, e52, e53, e54, e55, e56, e57, e58, e59, e60, e61, e62, e63, e64, e65, e66, e67, e68, e69, e70, e71, e72, e73, e74, e75, e76, e77, e78, e79, e80, e81, e82, e83, e84], defers := [] } w := by
 have HX := Lib.hid hX; have HCL := Lib.hid hcl; have HT := Lib.hid hT; have HS := Lib.hid hs; have HTR := Lib.hid htr; have HTO := Lib.hid hto; have HL := Lib.hid hl; have HRL := Lib.hid hrl; have HC := Lib.hid hC; have H0 := Lib.hid h0; have HF := Lib.hid hf
 clear hX hcl hT hs htr hto hl hrl hC h0 hf
 unfold part32n5 code32
 conv => arg 2; arg 1; whnf
 go_wp2_with fail
 go_loopw [36] (fun iv wr => ∃ k : Nat, k ≤ n ∧ iv = .int .i64 k ∧ Hid (Below B w wr) ∧ Hid (∀ h, h ≠ kB → wr.heap[h]? = w.heap[h]?) ∧ Hid (wr.cell? ⟨kB, 0, none⟩ = some (.int .i64 (sumT (fun r => cI cost r (gi own r).toNat) k))) ∧ Hid (wr.frozen? ⟨kB, 0, none⟩ = false)) (fun iv _ => n - (intOf iv).toNat)
 case atStart => exact ⟨0, Nat.zero_le _, rfl, Lib.hid (Below.refl _ _), Lib.hid (fun _ _ => rfl), H0, HF⟩
 case round =>
  clear H0 HF
  obtain ⟨k, hkn, rfl, hBl, hO, hcB, hfB⟩ := hrel
  by_cases hk : k < n
  ·have hk' : (k : Int) < (n : Int) := by omega
   have cT := BI.cell (w := wr) ((hO.out T hne2).trans HT.out) (j := k) (by rw [HTO.out]; exact hk)
   have cC : wr.cell? ⟨kC, 0, none⟩ = some (.slice aoC n ccC) := (World.cell?_of_block (w := w) (hO.out kC hne)).trans HC.out
   obtain ⟨ht0, htm⟩ := HTR.out k hk
   have hb1 := HS.out k hkn
   have hb2 := HS.out (k + 1) hk
   have hstep : sumT (fun r => cI cost r (gi own r).toNat) (k + 1) = sumT (fun r => cI cost r (gi own r).toNat) k + cI cost k (gi own k).toNat := rfl
   have HST := Lib.hid hstep
   rw [hstep] at hb2
   have cB := hcB.out
   have fB := hfB.out
   generalize sumT (fun r => cI cost r (gi own r).toNat) k = sk at *
   obtain ⟨q, hq⟩ : ∃ q : Nat, gi own k = (q : Int) := ⟨(gi own k).toNat, by omega⟩
   rw [hq] at cT htm hb2 HST hstep
   have hkl : k < cost.length := by have := HL.out; omega
   obtain ⟨b1, o1, rfl, aR, cR, cH, hrow, _⟩ := (HCL.out wr hBl.out).at_ hkl
   have hrl2 : (cost[k]?.getD []).length = m := HRL.out _ (by rw [List.getElem?_eq_getElem hkl]; exact List.getElem_mem _)
   have hcell : cI cost k ((q : Int)).toNat = gi (cost[k]?.getD []) q := rfl
   rw [hcell] at hb2 HST
   generalize cost[k]?.getD [] = row at cH hrow hrl2 hb2 HST
   rw [hrl2] at cH hrow
   obtain ⟨b2, o2, rfl, cX, _⟩ := hrow.int (j := q) (by omega)
   generalize gi row q = xq at cX hb2 HST
   have hlo : -9223372036854775808 ≤ sk + xq := by omega
   have hhi : sk + xq ≤ 9223372036854775807 := by omega
   clear hstep hcell hq hrow hcB hfB
   go_wp2_with fail
   refine region_tail (fun w2 => w2 = wr.drew) 9 (by kernel_rfl) (by kernel_rfl) rfl ?_
   intro w2 hS2
   subst hS2
   simp only [List.take_succ_cons, List.take_zero, List.drop_succ_cons, List.drop_zero]
   repeat still_step
   refine wpStill_nil ?_
   go_wp2_with fail
   have HBn := Lib.hid ((hBl.out.setCell (p := ⟨kB, 0, none⟩) hB (.int .i64 (sk + xq))).drew)
   have HOn := Lib.hid (fun h (hh : h ≠ kB) => (heap_setCell (w := wr) (a := ⟨kB, 0, none⟩) (v := .int .i64 (sk + xq)) hh).trans (hO.out h hh))
   have hcn : (wr.setCell ⟨kB, 0, none⟩ (.int .i64 (sk + xq))).cell? ⟨kB, 0, none⟩ = some (.int .i64 (sk + xq)) := World.cell?_setCell_same _ _ _ cB
   have hfn : (wr.setCell ⟨kB, 0, none⟩ (.int .i64 (sk + xq))).frozen? ⟨kB, 0, none⟩ = false := by rw [World.frozen?_setCell]; exact fB
   have HCn := Lib.hid hcn; have HFn := Lib.hid hfn
   exact ⟨⟨k + 1, by omega, by go_num, HBn, HOn, Lib.hid (by rw [HST.out]; exact HCn.out), HFn⟩, by simp [intOf]; omega⟩
  ·obtain rfl : k = n := by omega
   have hk' : ¬ (k : Int) < (k : Int) := by omega
   go_wp2_with fail
   exact HX.out _ _ _ _ _ _ _ _ _ _ _ _ _ _ _ _ _ _ _ _ hBl.out hO.out hcB.out hfB.out
end Go.Proofs.YtggcbblikgankaaGreatDoor
end
section
namespace Go.Proofs.YtggcbblikgankaaGreatDoor
open Go Go.RowKit Go.Deep
structure BestA (B Z kT kC kM kS kB D : Nat) : Prop where
 ts : kT ≠ kS
 cs : kC ≠ kS
 ms : kM ≠ kS
 bs : kB ≠ kS
 ds : D ≠ kS
 td : kT ≠ D
 cd : kC ≠ D
 md : kM ≠ D
 sd : kS ≠ D
 bd : kB ≠ D
 lt : kT < Z ∧ kC < Z ∧ kM < Z ∧ kS < Z ∧ kB < Z ∧ D < Z
 own : B ≤ kS ∧ B ≤ D ∧ B ≤ Z
structure BestW (B Z : Nat) (w0 : World) (kT kC kM kS kB D n m : Nat) (taken : List Bool) (aoC : Option Addr) (ccC : Nat) (spent best : Int) (v : Value) (i : Nat) (to : List Int) (w : World) : Prop where
 below : Below B w0 w
 boxC : w.cell? ⟨kC, 0, none⟩ = some (.slice aoC n ccC)
 boxT : w.cell? ⟨kT, 0, none⟩ = some (.slice (some ⟨D, 0, none⟩) m m)
 boxM : w.cell? ⟨kM, 0, none⟩ = some (.int .i64 m)
 boxS : w.cell? ⟨kS, 0, none⟩ = some (.int .i64 spent)
 boxB : w.cell? ⟨kB, 0, none⟩ = some (.int .i64 best)
 tk : BB w D taken
 freeS : w.frozen? ⟨kS, 0, none⟩ = false
 freeB : w.frozen? ⟨kB, 0, none⟩ = false
 size : Z ≤ w.heap.size
 own : w.ownsRow Z 3 1 v i (intsL to)
section
variable {B Z : Nat} {w0 : World} {kT kC kM kS kB D n m : Nat} {taken : List Bool} {aoC : Option Addr} {ccC : Nat} {spent best : Int} {v : Value} {i : Nat} {to : List Int} {w w' : World}
theorem BestW.cheap (h : BestW B Z w0 kT kC kM kS kB D n m taken aoC ccC spent best v i to w) (ha : BestA B Z kT kC kM kS kB D) (cost : List (List Int)) (hcl : ∀ W, Below B w0 W → IsMat W (.slice aoC n ccC) cost) : CheapW kT kC kM kS kB D n m cost taken aoC ccC spent best w := by
 have hs := h.size
 obtain ⟨l1, l2, l3, l4, l5, l6⟩ := ha.lt
 exact ⟨hcl w h.below, h.boxC, h.boxT, h.boxM, h.boxS, h.boxB, h.tk, by omega, by omega, by omega, by omega, by omega⟩
theorem BestW.keep (h : BestW B Z w0 kT kC kM kS kB D n m taken aoC ccC spent best v i to w) (ha : BestA B Z kT kC kM kS kB D) (hb : Below Z w w') {v' : Value} {i' : Nat} {to' : List Int} (ho : w'.ownsRow Z 3 1 v' i' (intsL to')) : BestW B Z w0 kT kC kM kS kB D n m taken aoC ccC spent best v' i' to' w' := by
 obtain ⟨l1, l2, l3, l4, l5, l6⟩ := ha.lt
 have hs := h.size
 refine ⟨h.below.trans (hb.mono ha.own.2.2), (hb.cell (p := ⟨kC, 0, none⟩) l2).trans h.boxC, (hb.cell (p := ⟨kT, 0, none⟩) l1).trans h.boxT, (hb.cell (p := ⟨kM, 0, none⟩) l3).trans h.boxM, (hb.cell (p := ⟨kS, 0, none⟩) l4).trans h.boxS, (hb.cell (p := ⟨kB, 0, none⟩) l5).trans h.boxB, (hb.block D l6).trans h.tk, (hb.frozen (p := ⟨kS, 0, none⟩) l4).trans h.freeS, (hb.frozen (p := ⟨kB, 0, none⟩) l5).trans h.freeB, Nat.le_trans hs hb.size, ho⟩
theorem BestW.call (h : BestW B Z w0 kT kC kM kS kB D n m taken aoC ccC spent best v i to w) (ha : BestA B Z kT kC kM kS kB D) (hb : Below w.heap.size w w') : BestW B Z w0 kT kC kM kS kB D n m taken aoC ccC spent best v i to w' := by
 refine h.keep ha (hb.mono h.size) (owns_below h.own hb)
theorem BestW.spend (h : BestW B Z w0 kT kC kM kS kB D n m taken aoC ccC spent best v i to w) (ha : BestA B Z kT kC kM kS kB D) (x : Int) : BestW B Z w0 kT kC kM kS kB D n m taken aoC ccC x best v i to (w.setCell ⟨kS, 0, none⟩ (.int .i64 x)) := by
 obtain ⟨l1, l2, l3, l4, l5, l6⟩ := ha.lt
 have hne : ∀ {g : Nat} {u : Value}, g ≠ kS → w.cell? ⟨g, 0, none⟩ = some u → (w.setCell ⟨kS, 0, none⟩ (.int .i64 x)).cell? ⟨g, 0, none⟩ = some u := fun hg hc => (World.cell?_of_block (w := w) (heap_setCell (a := ⟨kS, 0, none⟩) hg)).trans hc
 refine ⟨h.below.setCell (p := ⟨kS, 0, none⟩) ha.own.1 _, hne ha.cs h.boxC, hne ha.ts h.boxT, hne ha.ms h.boxM, World.cell?_setCell_same _ _ _ h.boxS, hne ha.bs h.boxB, (heap_setCell (a := ⟨kS, 0, none⟩) ha.ds).trans h.tk, ?_, ?_, ?_, ?_⟩
 ·rw [World.frozen?_setCell]; exact h.freeS
 ·rw [World.frozen?_setCell]; exact h.freeB
 ·have := ((Below.refl 0 w).setCell (p := ⟨kS, 0, none⟩) (Nat.zero_le _) (.int .i64 x)).size
  exact Nat.le_trans h.size this
 ·refine ⟨h.own.1, ?_⟩
  rcases h.own.2 with q | ⟨g, cap, cur, e, h1, hg, h2⟩
  ·exact Or.inl q
  ·exact Or.inr ⟨g, cap, cur, e, h1, (heap_setCell (a := ⟨kS, 0, none⟩) (by show g ≠ kS; omega)).trans hg, h2⟩
theorem BestW.take (h : BestW B Z w0 kT kC kM kS kB D n m taken aoC ccC spent best v i to w) (ha : BestA B Z kT kC kM kS kB D) (j : Nat) : BestW B Z w0 kT kC kM kS kB D n m (taken.set j true) aoC ccC spent best v i to (w.setCell ⟨D, j, none⟩ (.bool true)) := by
 obtain ⟨l1, l2, l3, l4, l5, l6⟩ := ha.lt
 have hne : ∀ {g : Nat} {u : Value}, g ≠ D → w.cell? ⟨g, 0, none⟩ = some u → (w.setCell ⟨D, j, none⟩ (.bool true)).cell? ⟨g, 0, none⟩ = some u := fun hg hc => (World.cell?_of_block (w := w) (heap_setCell (a := ⟨D, j, none⟩) hg)).trans hc
 refine ⟨h.below.setCell (p := ⟨D, j, none⟩) ha.own.2.1 _, hne ha.cd h.boxC, hne ha.td h.boxT, hne ha.md h.boxM, hne ha.sd h.boxS, hne ha.bd h.boxB, h.tk.set j true, ?_, ?_, ?_, ?_⟩
 ·rw [World.frozen?_setCell]; exact h.freeS
 ·rw [World.frozen?_setCell]; exact h.freeB
 ·have := ((Below.refl 0 w).setCell (p := ⟨D, j, none⟩) (Nat.zero_le _) (.bool true)).size
  exact Nat.le_trans h.size this
 ·refine ⟨h.own.1, ?_⟩
  rcases h.own.2 with q | ⟨g, cap, cur, e, h1, hg, h2⟩
  ·exact Or.inl q
  ·exact Or.inr ⟨g, cap, cur, e, h1, (heap_setCell (a := ⟨D, j, none⟩) (by show g ≠ D; omega)).trans hg, h2⟩
end
end Go.Proofs.YtggcbblikgankaaGreatDoor
end
section
namespace Go.Proofs.YtggcbblikgankaaGreatDoor
open Go Go.RowKit Go.Deep
theorem BestW.drew {B Z : Nat} {w0 : World} {kT kC kM kS kB D n m : Nat} {taken : List Bool} {aoC : Option Addr} {ccC : Nat} {spent best : Int} {v : Value} {i : Nat} {to : List Int} {w : World} (h : BestW B Z w0 kT kC kM kS kB D n m taken aoC ccC spent best v i to w) : BestW B Z w0 kT kC kM kS kB D n m taken aoC ccC spent best v i to w.drew :=
 ⟨h.below.drew, h.boxC, h.boxT, h.boxM, h.boxS, h.boxB, h.tk, h.freeS, h.freeB, h.size, h.own⟩
theorem own_ge {w : World} {Z e s n : Nat} {v : Value} {xs : List Value} (h : w.ownsRow Z e s v n xs) : ∀ k, v.ownBlock = some k → Z ≤ k := by
 intro k hk
 rcases h.2 with ⟨q, _⟩ | ⟨g, cap, cur, q, h1, _⟩
 ·subst q; cases hk
 ·subst q; cases hk; exact h1
noncomputable def part32n7 : Code := fstC (lastPart 7 code32)
noncomputable def part32n8 : Code := fstC (lastPart 8 code32)
def toL (t : Nat → Nat) (i : Nat) : List Int := (List.range i).map fun r => (t r : Int)
theorem toL_next (t : Nat → Nat) (i j : Nat) : toL (updN t i j) (i + 1) = toL t i ++ [(j : Int)] := by
 unfold toL
 rw [List.range_succ, List.map_append, List.map_cons, List.map_nil, updN_self]
 congr 1
 exact List.map_congr_left fun r hr => by rw [updN_lt (by simpa using hr)]
theorem sum_next (c : Nat → Nat → Int) (t : Nat → Nat) (i j : Nat) : sumT (fun r => c r (updN t i j r)) (i + 1) = sumT (fun r => c r (t r)) i + c i j := by
 show sumT _ i + c i (updN t i j i) = _
 rw [updN_self, sumT_congr (f := fun r => c r (updN t i j r)) (g := fun r => c r (t r)) (fun r hr => by rw [updN_lt hr])]
theorem pref_bound {m i : Nat} {c : Nat → Nat → Int} {t : Nat → Nat} {taken : List Bool} (hp : PrefOk m c i t taken) (hc : ∀ r k, c r k ≤ topC) : 0 ≤ sumT (fun r => c r (t r)) i ∧ sumT (fun r => c r (t r)) i ≤ 1048576 * (i : Int) := by
 have hA : ∀ k, k ≤ i → 0 ≤ sumT (fun r => c r (t r)) k ∧ sumT (fun r => c r (t r)) k ≤ 1048576 * (k : Int) := by
  intro k
  induction k with
  | zero => intro _; exact ⟨Int.le_refl _, Int.le_refl _⟩
  | succ k ih =>
   intro hk
   have h1 := ih (by omega)
   have h2 := hp.ok k (by omega)
   have h3 : c k (t k) ≤ 1048576 := hc k (t k)
   unfold sumT
   omega
 exact hA i (Nat.le_refl _)
set_option maxRecDepth 100000 in
set_option maxHeartbeats 8000000 in
theorem best_loop (B Z : Nat) (w0 : World) (kT kC kM kS kB D n m : Nat) (cost : List (List Int)) (aoC : Option Addr) (ccC : Nat) (best : Int) (hl : cost.length = n) (hrl : ∀ r ∈ cost, r.length = m) (hm : m ≤ 16) (hn : n ≤ 16) (hcap : n ≤ ccC) (hcc : ccC ≤ maxLen)
  (hc : ∀ r k, cI cost r k ≤ topC) (hc0 : ∀ r k, -1 ≤ cI cost r k) (hbest : ∀ t, CastN n m (cI cost) t → best ≤ sumT (fun r => cI cost r (t r)) n) (hex : ∃ s, CastN n m (cI cost) s ∧ sumT (fun r => cI cost r (s r)) n = best)
  (ha : BestA B Z kT kC kM kS kB D) (hcl : ∀ W, Below B w0 W → IsMat W (.slice aoC n ccC) cost)
  (w : World) (hW : BestW B Z w0 kT kC kM kS kB D n m (List.replicate m false) aoC ccC 0 best (.slice none 0 0) 0 [] w) (e0 e4 e5 e7 e8 e9 e10 e11 e14 e15 e16 e17 e18 e19 e20 e21 e22 e23 e24 e25 e26 e27 e28 e29 e30 e31 e32 e33 e34 e35 e36 e37 e38 e39 e40 e41 e42 e43 e44 e45 e46 e47 e48 e49 e50 e51 e52 e53 e54 e55 e56 e57 e58 e59 e60 e61 e62 e63 e64 e65 e66 e67 e68 e69 e70 e71 e72 e73 e74 e75 e76 e77 e78 e79 e80 e81 e82 e83 e84 : Value) (Q : Exit → Act → World → Prop) (X : Code)
  (hX : ∀ (w' : World) (v : Value) (t : Nat → Nat) (taken : List Bool) (spent : Int) (f14 f15 f16 f53 f54 f55 f56 f57 f58 f59 f60 f61 f62 f63 f64 f65 f66 f67 f68 f69 f70 f71 f72 f73 f74 f75 f76 f77 f78 f79 f80 f81 f82 : Value), FirstOk n m (cI cost) best n t taken → BestW B Z w0 kT kC kM kS kB D n m taken aoC ccC spent best v n (toL t n) w' → Code.wp Tryz.prog X Q { tmps := #[e0, .pointer (some ⟨kC, 0, none⟩), v, .pointer (some ⟨kB, 0, none⟩), e4, e5, .pointer (some ⟨kM, 0, none⟩), e7, e8, e9, e10, e11, .pointer (some ⟨kS, 0, none⟩), .pointer (some ⟨kT, 0, none⟩), f14, f15, f16, e17, e18, e19, e20, e21, e22, e23, e24, e25, e26, e27, e28, e29, e30, e31, e32, e33, e34, e35, e36, e37, e38, e39, e40, e41, e42, e43, e44, e45, e46, e47, e48, e49, e50, e51, e52, f53, f54, f55, f56, f57, f58, f59, f60, f61, f62, f63, f64, f65, f66, f67, f68, f69, f70, f71, f72, f73, f74, f75, f76, f77, f78, f79, f80, f81, f82, e83, e84], defers := [] } w') :
  Code.wp Tryz.prog (.seq part32n7 (.seq part32n8 X)) Q { tmps := #[e0, .pointer (some ⟨kC, 0, none⟩), .slice none 0 0, .pointer (some ⟨kB, 0, none⟩), e4, e5, .pointer (some ⟨kM, 0, none⟩), e7, e8, e9, e10, e11, .pointer (some ⟨kS, 0, none⟩), .pointer (some ⟨kT, 0, none⟩), e14, e15, e16, e17, e18, e19, e20, e21, e22, e23, e24, e25, e26, e27, e28, e29, e30, e31, e32, e33, e34, e35, e36, e37, e38, e39, e40, e41, e42, e43, e44, e45, e46, e47, e48, e49, e50, e51, e52, e53, e54, e55, e56, e57, e58, e59, e60, e61, e62, e63, e64, e65, e66, e67, e68, e69, e70, e71, e72, e73, e74, e75, e76, e77, e78, e79, e80, e81, e82, e83, e84], defers := [] } w := by
 have HX := Lib.hid hX; have HW := Lib.hid hW; have HCL := Lib.hid hcl; have HA := Lib.hid ha; have HL := Lib.hid hl; have HRL := Lib.hid hrl; have HC := Lib.hid hc; have HC0 := Lib.hid hc0; have HB := Lib.hid hbest
 have h0 : FirstOk n m (cI cost) best 0 (fun _ => 0) (List.replicate m false) := FirstOk.zero hex
 have HF0 := Lib.hid h0
 have hboxC := hW.boxC
 clear hX hW hcl ha hl hrl hc hc0 hbest hex h0
 unfold part32n7 part32n8 code32
 conv => arg 2; arg 1; whnf
 conv => arg 2; arg 2; arg 1; whnf
 go_wp2_with fail
 go_loopw [2, 56] (fun tv iv wr => ∃ (i : Nat) (t : Nat → Nat) (taken : List Bool), i ≤ n ∧ iv = .int .i64 i ∧ Hid (FirstOk n m (cI cost) best i t taken) ∧ Hid (taken.length = m) ∧ Hid (BestW B Z w0 kT kC kM kS kB D n m taken aoC ccC (sumT (fun r => cI cost r (t r)) i) best tv i (toL t i) wr)) (fun _ iv _ => n - (intOf iv).toNat)
 case atStart => exact ⟨0, fun _ => 0, List.replicate m false, Nat.zero_le _, rfl, HF0, Lib.hid (by simp), HW⟩
 case round =>
  clear HF0 HW
  obtain ⟨i, t, taken, hin, rfl, hF, hT, hW⟩ := hrel
  by_cases hi : i < n
  ·have hi' : (i : Int) < (n : Int) := by omega
   obtain ⟨js, hjs, hCs⟩ := hF.out.found hi
   have HCS := Lib.hid hCs
   clear hCs
   go_wp2_with fail
   go_loopw [16] (fun jv wr2 => ∃ j : Nat, jv = .int .i64 j ∧ j ≤ js ∧ Hid (∀ k, k < j → ¬ CheapAt n m (cI cost) i k t best) ∧ Hid (BestW B Z w0 kT kC kM kS kB D n m taken aoC ccC (sumT (fun r => cI cost r (t r)) i) best u2 i (toL t i) wr2)) (fun jv _ => m - (intOf jv).toNat)
   case atStart => exact ⟨0, rfl, Nat.zero_le _, Lib.hid (fun k hk => by omega), hW⟩
   case round =>
    clear hW
    obtain ⟨j, rfl, hjl, hno, hW⟩ := hrel
    have hCW := hW.out.cheap HA.out cost HCL.out
    have c66 := cheap_any kT kC kM kS kB D n m i j cost taken aoC ccC _ best t HL.out HRL.out hT.out hm hn hi (by omega) hcap hcc HC.out HC0.out rfl hF.out.pre HB.out _ hCW
    clear hCW
    go_wp2_with fail
    refine c66.mono ?_
    rintro e w2 ⟨b, rfl, hiff, hb2⟩
    have HW2 := Lib.hid (hW.out.call HA.out hb2)
    clear c66 hW hb2
    cases b with
    | false =>
     have hnc : ¬ CheapAt n m (cI cost) i j t best := fun q => by have := hiff.2 q; cases this
     have hjs2 : j ≠ js := fun q => by subst q; exact hnc HCS.out
     have HNO := Lib.hid (fun k (hk : k < j + 1) => by
      by_cases e : k = j
      ·subst e; exact hnc
      ·exact hno.out k (by omega) : ∀ k, k < j + 1 → ¬ CheapAt n m (cI cost) i k t best)
     clear hiff hnc hno
     go_wp2_with fail
     exact ⟨⟨j + 1, by go_num, by omega, HNO, HW2⟩, by simp [intOf]; omega⟩
    | true =>
     have hCj : CheapAt n m (cI cost) i j t best := hiff.1 rfl
     obtain ⟨hjm, hF2⟩ := hF.out.next hi hT.out hCj hno.out
     have HF2 := Lib.hid hF2
     have hbd := pref_bound hF.out.pre HC.out
     have hsn := sum_next (cI cost) t i j
     have hbd2 := pref_bound hF2.pre HC.out
     rw [hsn] at hbd2
     have HSN := Lib.hid hsn
     have HTN := Lib.hid (toL_next t i j)
     clear hiff hCj hno hF2 hsn HCS hF
     generalize sumT (fun r => cI cost r (t r)) i = sp at *
     have hj' : (j : Int) < (m : Int) := by omega
     obtain ⟨i3, hi3, hz3, hs3, hb3⟩ := info3
     have HO := Lib.hid (HW2.out.own.alloc (.cells #[.int .i64 (j : Int)] 3))
     have hsz2 := HW2.out.size
     go_wp2_with (at_builtin; refine wpList_append_own _ rfl _ _ 55 rfl Z 3 i3 (.int .i64 0) 1 8 Tryz.underlying55 hi3 hz3 hs3 hb3 rfl (by decide) u2 i (intsL (toL t i)) rfl HO.out ⟨w2.heap.size, 0, none⟩ 1 1 [.int .i64 (j : Int)] rfl rfl (cell_one_new _ _ _) (by intro u hu; simp at hu; subst hu; rfl) (by simp only [maxLen]; omega) (by omega) (by simp; omega) ?_; intro v' w4 hown hgrow _)
     have hkp : Below Z w2 w4 := ((Below.refl Z w2).alloc hsz2 _).grown hgrow (by simp; omega) (own_ge HW2.out.own)
     have hW4 := HW2.out.keep (to' := toL (updN t i j) (i + 1)) (v' := v') (i' := i + 1) HA.out hkp (by rw [HTN.out]; unfold intsL at hown ⊢; rw [List.map_append]; exact hown)
     have HW4 := Lib.hid hW4
     clear hown hgrow hkp HW2 HO
     have hkl : i < cost.length := by have := HL.out; omega
     have hr2 : (cost[i]?.getD []).length = m := HRL.out _ (by rw [List.getElem?_eq_getElem hkl]; exact List.getElem_mem _)
     obtain ⟨b1, o1, eo, aR, cR, cH, hrow, _⟩ := (HCL.out w4 hW4.below).at_ hkl
     rw [hr2] at cH hrow
     obtain ⟨b2, o2, e2, cX, _⟩ := hrow.int (j := j) (by omega)
     subst e2
     have cX2 : w4.cell? ⟨b2, o2 + j, none⟩ = some (.int .i64 (cI cost i j)) := cX
     have cS4 := hW4.boxS; have cC4 := hW4.boxC; have fS4 := hW4.freeS
     rw [eo] at cC4
     have hW5 := hW4.spend HA.out (sp + cI cost i j)
     have hW6 := hW5.take HA.out j
     have cT5 := hW5.boxT
     have cD5 := hW5.tk.cell (j := j) (by rw [hT.out]; exact hjm)
     have fD5 := hW5.tk.free j
     have HW6 := Lib.hid hW6
     have hdS := HA.out.ds; have htS := HA.out.ts
     clear hW4 hW5 hW6 cX hrow eo hsz2
     generalize cI cost i j = xij at *
     generalize gb taken j = gbj at *
     refine region_tail (fun w2 => w2 = w4.drew) 9 (by kernel_rfl) (by kernel_rfl) rfl ?_
     intro w5 hS5
     subst hS5
     simp only [List.take_succ_cons, List.take_zero, List.drop_succ_cons, List.drop_zero]
     repeat still_step
     refine wpStill_nil ?_
     go_wp2_with fail
     exact ⟨⟨i + 1, updN t i j, taken.set j true, by omega, by go_num, HF2, Lib.hid (by rw [List.length_set]; exact hT.out), Lib.hid (by rw [HSN.out]; exact HW6.out.drew)⟩, by simp [intOf]; omega⟩
  ·obtain rfl : i = n := by omega
   have hi' : ¬ (i : Int) < (i : Int) := by omega
   go_wp2_with fail
   exact HX.out _ _ t taken _ _ _ _ _ _ _ _ _ _ _ _ _ _ _ _ _ _ _ _ _ _ _ _ _ _ _ _ _ _ _ _ _ _ hF.out hW.out
end Go.Proofs.YtggcbblikgankaaGreatDoor
end
section
namespace Go.Proofs.YtggcbblikgankaaGreatDoor
open Go Go.RowKit Go.Deep
noncomputable def part32n6 : Code := fstC (lastPart 6 code32)
theorem st_step {w : World} {g : Nat} {x : Value} {t : TypeId} (h : w.heap[g]? = some (.cells #[x] t (0, 0))) (v : Value) : ∃ w', w.setCell ⟨g, 0, none⟩ v = w' ∧ w'.heap[g]? = some (.cells #[v] t (0, 0)) ∧ (∀ q, q ≠ g → w'.heap[q]? = w.heap[q]?) ∧ (∀ B w0, Below B w0 w → B ≤ g → Below B w0 w') ∧ w'.heap.size ≤ w.heap.size ∧ w.heap.size ≤ w'.heap.size := by
 refine ⟨_, rfl, ?_, fun q hq => heap_setCell (a := ⟨g, 0, none⟩) hq, fun B w0 hb hg => hb.setCell (p := ⟨g, 0, none⟩) hg v, ?_, ?_⟩
 ·simp only [World.setCell, Array.getElem?_modify, h, if_true, Option.map_some]
  simp
 ·simp [World.setCell]
 ·simp [World.setCell]
set_option maxRecDepth 100000 in
set_option maxHeartbeats 8000000 in
theorem best_make (kM m : Nat) (hm0 : m ≤ 1000) (w : World) (hM : w.cell? ⟨kM, 0, none⟩ = some (.int .i64 m)) (hkM : kM < w.heap.size) (e0 e1 e2 e3 e4 e5 e7 e8 e9 e10 e11 e12 e13 e14 e15 e16 e17 e18 e19 e20 e21 e22 e23 e24 e25 e26 e27 e28 e29 e30 e31 e32 e33 e34 e35 e36 e37 e38 e39 e40 e41 e42 e43 e44 e45 e46 e47 e48 e49 e50 e51 e52 e53 e54 e55 e56 e57 e58 e59 e60 e61 e62 e63 e64 e65 e66 e67 e68 e69 e70 e71 e72 e73 e74 e75 e76 e77 e78 e79 e80 e81 e82 e83 e84 : Value) (Q : Exit → Act → World → Prop) (X : Code)
  (hX : ∀ (w' : World) (kS kT D : Nat) (f51 f52 : Value), Below w.heap.size w w' → w'.heap[kS]? = some (.cells #[.int .i64 0] 3 (0, 0)) → w'.heap[kT]? = some (.cells #[.slice (some ⟨D, 0, none⟩) m m] 97 (0, 0)) → w'.heap[D]? = some (.cells (Array.replicate m (.bool false)) 4 (0, 0)) → (w.heap.size ≤ kS ∧ w.heap.size ≤ kT ∧ w.heap.size ≤ D) → (kS ≠ kT ∧ kS ≠ D ∧ kT ≠ D) → Code.wp Tryz.prog X Q { tmps := #[e0, e1, e2, e3, e4, e5, .pointer (some ⟨kM, 0, none⟩), e7, e8, e9, e10, e11, .pointer (some ⟨kS, 0, none⟩), .pointer (some ⟨kT, 0, none⟩), e14, e15, e16, e17, e18, e19, e20, e21, e22, e23, e24, e25, e26, e27, e28, e29, e30, e31, e32, e33, e34, e35, e36, e37, e38, e39, e40, e41, e42, e43, e44, e45, e46, e47, e48, e49, e50, f51, f52, e53, e54, e55, e56, e57, e58, e59, e60, e61, e62, e63, e64, e65, e66, e67, e68, e69, e70, e71, e72, e73, e74, e75, e76, e77, e78, e79, e80, e81, e82, e83, e84], defers := [] } w') :
  Code.wp Tryz.prog (.seq part32n6 X) Q { tmps := #[e0, e1, e2, e3, e4, e5, .pointer (some ⟨kM, 0, none⟩), e7, e8, e9, e10, e11, e12, e13, e14, e15, e16, e17, e18, e19, e20, e21, e22, e23, e24, e25, e26, e27, e28, e29, e30, e31, e32, e33, e34, e35, e36, e37, e38, e39, e40, e41, e42, e43, e44, e45, e46, e47, e48, e49, e50, e51, e52, e53, e54, e55, e56, e57, e58, e59, e60, e61, e62, e63, e64, e65, e66, e67, e68, e69, e70, e71, e72, e73, e74, e75, e76, e77, e78, e79, e80, e81, e82, e83, e84], defers := [] } w := by
 have HX := Lib.hid hX; have HM := Lib.hid hM; have HKM := Lib.hid hkM
 clear hX hM hkM
 have hmk2 := fun (W : World) => make_bools m hm0 W
 have hB : Below w.heap.size w w.drew := (Below.refl _ w).drew
 unfold part32n6 code32
 conv => arg 2; arg 1; whnf
 refine wp_seq (wp_mono (Q := noP (Exit.then (Code.wp Tryz.prog X Q) Q)) ?_ (noP_le _))
 refine wp_region_held (S := fun w2 => w2.cell? ⟨kM, 0, none⟩ = some (.int .i64 m)) (by kernel_rfl) ?_
 change wpAnyH _ _ _ _ _ _ _ _ w.drew
 have hz0 : w.heap.size = w.drew.heap.size := rfl
 generalize w.drew = V0 at *
 refine wpAnyH_take (i := 0) (oi := _) (v := .int .i64 m) rfl (by kernel_rfl) (by kernel_rfl) (by kernel_rfl) (fun _ _ _ h => h) (Or.inl ⟨by rfl, fun w hw => by go_simp⟩) (((hB).cell (p := ⟨kM, 0, none⟩) HKM.out).trans HM.out) ?_
 try (simp only [Act.put, List.getElem_toArray, List.getElem_cons_zero, List.getElem_cons_succ, List.setIfInBounds_toArray, List.set_cons_zero, List.set_cons_succ])
 refine wpAnyH_ready (rs := [1, 2, 3]) (by kernel_rfl) (by simp) ?_
 refine AllReadyH.cons (o := _) rfl (fun K1 hK => ?_) (AllReadyH.cons (o := _) rfl (fun K2 hK => ?_) (AllReadyH.cons (o := _) rfl (fun K3 hK => ?_) AllReadyH.nil))
 ·go_simp
  obtain ⟨V1, hV1, gV1, bV1⟩ := mk_step V0 (.cells (Array.replicate m (.bool false)) 4)
  rw [hV1]
  clear hV1
  have hB := hB.trans (bV1.mono hB.size)
  have zV1 : V0.heap.size < V1.heap.size := (Array.getElem?_eq_some_iff.1 gV1).1
  have gD := gV1
  refine hK.out _ _ (((hB).cell (p := ⟨kM, 0, none⟩) HKM.out).trans HM.out) (fun _ => ?_)
  clear hK
  try (simp only [Act.put, List.getElem_toArray, List.getElem_cons_zero, List.getElem_cons_succ, List.setIfInBounds_toArray, List.set_cons_zero, List.set_cons_succ])
  refine wpAnyH_ready (rs := [2, 3]) (by kernel_rfl) (by simp) ?_
  refine AllReadyH.cons (o := _) rfl (fun K1 hK => ?_) (AllReadyH.cons (o := _) rfl (fun K2 hK => ?_) AllReadyH.nil)
  ·go_simp
   obtain ⟨V2, hV2, gV2, bV2⟩ := mk_step V1 (.cells #[.int .i64 0] 3)
   rw [hV2]
   clear hV2
   have gD := (bV2.block _ (Array.getElem?_eq_some_iff.1 gD).1).trans gD
   have hB := hB.trans (bV2.mono hB.size)
   have zV2 : V1.heap.size < V2.heap.size := (Array.getElem?_eq_some_iff.1 gV2).1
   have gS := gV2
   refine hK.out _ _ (((hB).cell (p := ⟨kM, 0, none⟩) HKM.out).trans HM.out) (fun _ => ?_)
   clear hK
   try (simp only [Act.put, List.getElem_toArray, List.getElem_cons_zero, List.getElem_cons_succ, List.setIfInBounds_toArray, List.set_cons_zero, List.set_cons_succ])
   refine wpAnyH_ready (rs := [3]) (by kernel_rfl) (by simp) ?_
   refine AllReadyH.cons (o := _) rfl (fun K1 hK => ?_) AllReadyH.nil
   go_simp
   obtain ⟨V3, hV3, gV3, bV3⟩ := mk_step V2 (.cells #[.slice none 0 0] 97)
   rw [hV3]
   clear hV3
   have gD := (bV3.block _ (Array.getElem?_eq_some_iff.1 gD).1).trans gD
   have gS := (bV3.block _ (Array.getElem?_eq_some_iff.1 gS).1).trans gS
   have hB := hB.trans (bV3.mono hB.size)
   have zV3 : V2.heap.size < V3.heap.size := (Array.getElem?_eq_some_iff.1 gV3).1
   have gT := gV3
   refine hK.out _ _ (((hB).cell (p := ⟨kM, 0, none⟩) HKM.out).trans HM.out) (fun _ => ?_)
   clear hK
   try (simp only [Act.put, List.getElem_toArray, List.getElem_cons_zero, List.getElem_cons_succ, List.setIfInBounds_toArray, List.set_cons_zero, List.set_cons_succ])
   refine wpAnyH_ready (rs := [4]) (by kernel_rfl) (by simp) ?_
   refine AllReadyH.cons (o := _) rfl (fun K1 hK => ?_) AllReadyH.nil
   have cc := cell_at gS 0 rfl
   have ff : V3.frozen? ⟨V1.heap.size, 0, none⟩ = false := by simp [World.frozen?, gS]
   go_simp
   obtain ⟨V4, hV4, gV4, oV4, bV4, zV4, yV4⟩ := st_step gS (.int .i64 0)
   rw [hV4]
   clear hV4 cc ff
   have gD := (oV4 _ (by omega)).trans gD
   have gT := (oV4 _ (by omega)).trans gT
   have hB := bV4 _ _ hB (by have := hB.size; omega)
   have gS := gV4
   refine hK.out _ _ (((hB).cell (p := ⟨kM, 0, none⟩) HKM.out).trans HM.out) (fun _ => ?_)
   clear hK
   try (simp only [Act.put, List.getElem_toArray, List.getElem_cons_zero, List.getElem_cons_succ, List.setIfInBounds_toArray, List.set_cons_zero, List.set_cons_succ])
   refine wpAnyH_ready (rs := [5]) (by kernel_rfl) (by simp) ?_
   refine AllReadyH.cons (o := _) rfl (fun K1 hK => ?_) AllReadyH.nil
   have cc := cell_at gT 0 rfl
   have ff : V4.frozen? ⟨V2.heap.size, 0, none⟩ = false := by simp [World.frozen?, gT]
   go_simp
   obtain ⟨V5, hV5, gV5, oV5, bV5, zV5, yV5⟩ := st_step gT (.slice (some ⟨V0.heap.size, 0, none⟩) m m)
   rw [hV5]
   clear hV5 cc ff
   have gD := (oV5 _ (by omega)).trans gD
   have gS := (oV5 _ (by omega)).trans gS
   have hB := bV5 _ _ hB (by have := hB.size; omega)
   have gT := gV5
   refine hK.out _ _ (((hB).cell (p := ⟨kM, 0, none⟩) HKM.out).trans HM.out) (fun _ => ?_)
   clear hK
   try (simp only [Act.put, List.getElem_toArray, List.getElem_cons_zero, List.getElem_cons_succ, List.setIfInBounds_toArray, List.set_cons_zero, List.set_cons_succ])
   refine wpAnyH_done (by kernel_rfl) ?_ _
   exact HX.out _ _ _ _ _ _ hB gS gT gD ⟨by omega, by omega, by omega⟩ ⟨by omega, by omega, by omega⟩
  ·go_simp
   obtain ⟨V6, hV6, gV6, bV6⟩ := mk_step V1 (.cells #[.slice none 0 0] 97)
   rw [hV6]
   clear hV6
   have gD := (bV6.block _ (Array.getElem?_eq_some_iff.1 gD).1).trans gD
   have hB := hB.trans (bV6.mono hB.size)
   have zV6 : V1.heap.size < V6.heap.size := (Array.getElem?_eq_some_iff.1 gV6).1
   have gT := gV6
   refine hK.out _ _ (((hB).cell (p := ⟨kM, 0, none⟩) HKM.out).trans HM.out) (fun _ => ?_)
   clear hK
   try (simp only [Act.put, List.getElem_toArray, List.getElem_cons_zero, List.getElem_cons_succ, List.setIfInBounds_toArray, List.set_cons_zero, List.set_cons_succ])
   refine wpAnyH_ready (rs := [2]) (by kernel_rfl) (by simp) ?_
   refine AllReadyH.cons (o := _) rfl (fun K1 hK => ?_) AllReadyH.nil
   go_simp
   obtain ⟨V7, hV7, gV7, bV7⟩ := mk_step V6 (.cells #[.int .i64 0] 3)
   rw [hV7]
   clear hV7
   have gD := (bV7.block _ (Array.getElem?_eq_some_iff.1 gD).1).trans gD
   have gT := (bV7.block _ (Array.getElem?_eq_some_iff.1 gT).1).trans gT
   have hB := hB.trans (bV7.mono hB.size)
   have zV7 : V6.heap.size < V7.heap.size := (Array.getElem?_eq_some_iff.1 gV7).1
   have gS := gV7
   refine hK.out _ _ (((hB).cell (p := ⟨kM, 0, none⟩) HKM.out).trans HM.out) (fun _ => ?_)
   clear hK
   try (simp only [Act.put, List.getElem_toArray, List.getElem_cons_zero, List.getElem_cons_succ, List.setIfInBounds_toArray, List.set_cons_zero, List.set_cons_succ])
   refine wpAnyH_ready (rs := [4]) (by kernel_rfl) (by simp) ?_
   refine AllReadyH.cons (o := _) rfl (fun K1 hK => ?_) AllReadyH.nil
   have cc := cell_at gS 0 rfl
   have ff : V7.frozen? ⟨V6.heap.size, 0, none⟩ = false := by simp [World.frozen?, gS]
   go_simp
   obtain ⟨V8, hV8, gV8, oV8, bV8, zV8, yV8⟩ := st_step gS (.int .i64 0)
   rw [hV8]
   clear hV8 cc ff
   have gD := (oV8 _ (by omega)).trans gD
   have gT := (oV8 _ (by omega)).trans gT
   have hB := bV8 _ _ hB (by have := hB.size; omega)
   have gS := gV8
   refine hK.out _ _ (((hB).cell (p := ⟨kM, 0, none⟩) HKM.out).trans HM.out) (fun _ => ?_)
   clear hK
   try (simp only [Act.put, List.getElem_toArray, List.getElem_cons_zero, List.getElem_cons_succ, List.setIfInBounds_toArray, List.set_cons_zero, List.set_cons_succ])
   refine wpAnyH_ready (rs := [5]) (by kernel_rfl) (by simp) ?_
   refine AllReadyH.cons (o := _) rfl (fun K1 hK => ?_) AllReadyH.nil
   have cc := cell_at gT 0 rfl
   have ff : V8.frozen? ⟨V1.heap.size, 0, none⟩ = false := by simp [World.frozen?, gT]
   go_simp
   obtain ⟨V9, hV9, gV9, oV9, bV9, zV9, yV9⟩ := st_step gT (.slice (some ⟨V0.heap.size, 0, none⟩) m m)
   rw [hV9]
   clear hV9 cc ff
   have gD := (oV9 _ (by omega)).trans gD
   have gS := (oV9 _ (by omega)).trans gS
   have hB := bV9 _ _ hB (by have := hB.size; omega)
   have gT := gV9
   refine hK.out _ _ (((hB).cell (p := ⟨kM, 0, none⟩) HKM.out).trans HM.out) (fun _ => ?_)
   clear hK
   try (simp only [Act.put, List.getElem_toArray, List.getElem_cons_zero, List.getElem_cons_succ, List.setIfInBounds_toArray, List.set_cons_zero, List.set_cons_succ])
   refine wpAnyH_done (by kernel_rfl) ?_ _
   exact HX.out _ _ _ _ _ _ hB gS gT gD ⟨by omega, by omega, by omega⟩ ⟨by omega, by omega, by omega⟩
 ·go_simp
  obtain ⟨V10, hV10, gV10, bV10⟩ := mk_step V0 (.cells #[.int .i64 0] 3)
  rw [hV10]
  clear hV10
  have hB := hB.trans (bV10.mono hB.size)
  have zV10 : V0.heap.size < V10.heap.size := (Array.getElem?_eq_some_iff.1 gV10).1
  have gS := gV10
  refine hK.out _ _ (((hB).cell (p := ⟨kM, 0, none⟩) HKM.out).trans HM.out) (fun _ => ?_)
  clear hK
  try (simp only [Act.put, List.getElem_toArray, List.getElem_cons_zero, List.getElem_cons_succ, List.setIfInBounds_toArray, List.set_cons_zero, List.set_cons_succ])
  refine wpAnyH_ready (rs := [1, 3]) (by kernel_rfl) (by simp) ?_
  refine AllReadyH.cons (o := _) rfl (fun K1 hK => ?_) (AllReadyH.cons (o := _) rfl (fun K2 hK => ?_) AllReadyH.nil)
  ·go_simp
   obtain ⟨V11, hV11, gV11, bV11⟩ := mk_step V10 (.cells (Array.replicate m (.bool false)) 4)
   rw [hV11]
   clear hV11
   have gS := (bV11.block _ (Array.getElem?_eq_some_iff.1 gS).1).trans gS
   have hB := hB.trans (bV11.mono hB.size)
   have zV11 : V10.heap.size < V11.heap.size := (Array.getElem?_eq_some_iff.1 gV11).1
   have gD := gV11
   refine hK.out _ _ (((hB).cell (p := ⟨kM, 0, none⟩) HKM.out).trans HM.out) (fun _ => ?_)
   clear hK
   try (simp only [Act.put, List.getElem_toArray, List.getElem_cons_zero, List.getElem_cons_succ, List.setIfInBounds_toArray, List.set_cons_zero, List.set_cons_succ])
   refine wpAnyH_ready (rs := [3]) (by kernel_rfl) (by simp) ?_
   refine AllReadyH.cons (o := _) rfl (fun K1 hK => ?_) AllReadyH.nil
   go_simp
   obtain ⟨V12, hV12, gV12, bV12⟩ := mk_step V11 (.cells #[.slice none 0 0] 97)
   rw [hV12]
   clear hV12
   have gS := (bV12.block _ (Array.getElem?_eq_some_iff.1 gS).1).trans gS
   have gD := (bV12.block _ (Array.getElem?_eq_some_iff.1 gD).1).trans gD
   have hB := hB.trans (bV12.mono hB.size)
   have zV12 : V11.heap.size < V12.heap.size := (Array.getElem?_eq_some_iff.1 gV12).1
   have gT := gV12
   refine hK.out _ _ (((hB).cell (p := ⟨kM, 0, none⟩) HKM.out).trans HM.out) (fun _ => ?_)
   clear hK
   try (simp only [Act.put, List.getElem_toArray, List.getElem_cons_zero, List.getElem_cons_succ, List.setIfInBounds_toArray, List.set_cons_zero, List.set_cons_succ])
   refine wpAnyH_ready (rs := [4]) (by kernel_rfl) (by simp) ?_
   refine AllReadyH.cons (o := _) rfl (fun K1 hK => ?_) AllReadyH.nil
   have cc := cell_at gS 0 rfl
   have ff : V12.frozen? ⟨V0.heap.size, 0, none⟩ = false := by simp [World.frozen?, gS]
   go_simp
   obtain ⟨V13, hV13, gV13, oV13, bV13, zV13, yV13⟩ := st_step gS (.int .i64 0)
   rw [hV13]
   clear hV13 cc ff
   have gD := (oV13 _ (by omega)).trans gD
   have gT := (oV13 _ (by omega)).trans gT
   have hB := bV13 _ _ hB (by have := hB.size; omega)
   have gS := gV13
   refine hK.out _ _ (((hB).cell (p := ⟨kM, 0, none⟩) HKM.out).trans HM.out) (fun _ => ?_)
   clear hK
   try (simp only [Act.put, List.getElem_toArray, List.getElem_cons_zero, List.getElem_cons_succ, List.setIfInBounds_toArray, List.set_cons_zero, List.set_cons_succ])
   refine wpAnyH_ready (rs := [5]) (by kernel_rfl) (by simp) ?_
   refine AllReadyH.cons (o := _) rfl (fun K1 hK => ?_) AllReadyH.nil
   have cc := cell_at gT 0 rfl
   have ff : V13.frozen? ⟨V11.heap.size, 0, none⟩ = false := by simp [World.frozen?, gT]
   go_simp
   obtain ⟨V14, hV14, gV14, oV14, bV14, zV14, yV14⟩ := st_step gT (.slice (some ⟨V10.heap.size, 0, none⟩) m m)
   rw [hV14]
   clear hV14 cc ff
   have gS := (oV14 _ (by omega)).trans gS
   have gD := (oV14 _ (by omega)).trans gD
   have hB := bV14 _ _ hB (by have := hB.size; omega)
   have gT := gV14
   refine hK.out _ _ (((hB).cell (p := ⟨kM, 0, none⟩) HKM.out).trans HM.out) (fun _ => ?_)
   clear hK
   try (simp only [Act.put, List.getElem_toArray, List.getElem_cons_zero, List.getElem_cons_succ, List.setIfInBounds_toArray, List.set_cons_zero, List.set_cons_succ])
   refine wpAnyH_done (by kernel_rfl) ?_ _
   exact HX.out _ _ _ _ _ _ hB gS gT gD ⟨by omega, by omega, by omega⟩ ⟨by omega, by omega, by omega⟩
  ·go_simp
   obtain ⟨V15, hV15, gV15, bV15⟩ := mk_step V10 (.cells #[.slice none 0 0] 97)
   rw [hV15]
   clear hV15
   have gS := (bV15.block _ (Array.getElem?_eq_some_iff.1 gS).1).trans gS
   have hB := hB.trans (bV15.mono hB.size)
   have zV15 : V10.heap.size < V15.heap.size := (Array.getElem?_eq_some_iff.1 gV15).1
   have gT := gV15
   refine hK.out _ _ (((hB).cell (p := ⟨kM, 0, none⟩) HKM.out).trans HM.out) (fun _ => ?_)
   clear hK
   try (simp only [Act.put, List.getElem_toArray, List.getElem_cons_zero, List.getElem_cons_succ, List.setIfInBounds_toArray, List.set_cons_zero, List.set_cons_succ])
   refine wpAnyH_ready (rs := [1, 4]) (by kernel_rfl) (by simp) ?_
   refine AllReadyH.cons (o := _) rfl (fun K1 hK => ?_) (AllReadyH.cons (o := _) rfl (fun K2 hK => ?_) AllReadyH.nil)
   ·go_simp
    obtain ⟨V16, hV16, gV16, bV16⟩ := mk_step V15 (.cells (Array.replicate m (.bool false)) 4)
    rw [hV16]
    clear hV16
    have gS := (bV16.block _ (Array.getElem?_eq_some_iff.1 gS).1).trans gS
    have gT := (bV16.block _ (Array.getElem?_eq_some_iff.1 gT).1).trans gT
    have hB := hB.trans (bV16.mono hB.size)
    have zV16 : V15.heap.size < V16.heap.size := (Array.getElem?_eq_some_iff.1 gV16).1
    have gD := gV16
    refine hK.out _ _ (((hB).cell (p := ⟨kM, 0, none⟩) HKM.out).trans HM.out) (fun _ => ?_)
    clear hK
    try (simp only [Act.put, List.getElem_toArray, List.getElem_cons_zero, List.getElem_cons_succ, List.setIfInBounds_toArray, List.set_cons_zero, List.set_cons_succ])
    refine wpAnyH_ready (rs := [4]) (by kernel_rfl) (by simp) ?_
    refine AllReadyH.cons (o := _) rfl (fun K1 hK => ?_) AllReadyH.nil
    have cc := cell_at gS 0 rfl
    have ff : V16.frozen? ⟨V0.heap.size, 0, none⟩ = false := by simp [World.frozen?, gS]
    go_simp
    obtain ⟨V17, hV17, gV17, oV17, bV17, zV17, yV17⟩ := st_step gS (.int .i64 0)
    rw [hV17]
    clear hV17 cc ff
    have gT := (oV17 _ (by omega)).trans gT
    have gD := (oV17 _ (by omega)).trans gD
    have hB := bV17 _ _ hB (by have := hB.size; omega)
    have gS := gV17
    refine hK.out _ _ (((hB).cell (p := ⟨kM, 0, none⟩) HKM.out).trans HM.out) (fun _ => ?_)
    clear hK
    try (simp only [Act.put, List.getElem_toArray, List.getElem_cons_zero, List.getElem_cons_succ, List.setIfInBounds_toArray, List.set_cons_zero, List.set_cons_succ])
    refine wpAnyH_ready (rs := [5]) (by kernel_rfl) (by simp) ?_
    refine AllReadyH.cons (o := _) rfl (fun K1 hK => ?_) AllReadyH.nil
    have cc := cell_at gT 0 rfl
    have ff : V17.frozen? ⟨V10.heap.size, 0, none⟩ = false := by simp [World.frozen?, gT]
    go_simp
    obtain ⟨V18, hV18, gV18, oV18, bV18, zV18, yV18⟩ := st_step gT (.slice (some ⟨V15.heap.size, 0, none⟩) m m)
    rw [hV18]
    clear hV18 cc ff
    have gS := (oV18 _ (by omega)).trans gS
    have gD := (oV18 _ (by omega)).trans gD
    have hB := bV18 _ _ hB (by have := hB.size; omega)
    have gT := gV18
    refine hK.out _ _ (((hB).cell (p := ⟨kM, 0, none⟩) HKM.out).trans HM.out) (fun _ => ?_)
    clear hK
    try (simp only [Act.put, List.getElem_toArray, List.getElem_cons_zero, List.getElem_cons_succ, List.setIfInBounds_toArray, List.set_cons_zero, List.set_cons_succ])
    refine wpAnyH_done (by kernel_rfl) ?_ _
    exact HX.out _ _ _ _ _ _ hB gS gT gD ⟨by omega, by omega, by omega⟩ ⟨by omega, by omega, by omega⟩
   ·have cc := cell_at gS 0 rfl
    have ff : V15.frozen? ⟨V0.heap.size, 0, none⟩ = false := by simp [World.frozen?, gS]
    go_simp
    obtain ⟨V19, hV19, gV19, oV19, bV19, zV19, yV19⟩ := st_step gS (.int .i64 0)
    rw [hV19]
    clear hV19 cc ff
    have gT := (oV19 _ (by omega)).trans gT
    have hB := bV19 _ _ hB (by have := hB.size; omega)
    have gS := gV19
    refine hK.out _ _ (((hB).cell (p := ⟨kM, 0, none⟩) HKM.out).trans HM.out) (fun _ => ?_)
    clear hK
    try (simp only [Act.put, List.getElem_toArray, List.getElem_cons_zero, List.getElem_cons_succ, List.setIfInBounds_toArray, List.set_cons_zero, List.set_cons_succ])
    refine wpAnyH_ready (rs := [1]) (by kernel_rfl) (by simp) ?_
    refine AllReadyH.cons (o := _) rfl (fun K1 hK => ?_) AllReadyH.nil
    go_simp
    obtain ⟨V20, hV20, gV20, bV20⟩ := mk_step V19 (.cells (Array.replicate m (.bool false)) 4)
    rw [hV20]
    clear hV20
    have gS := (bV20.block _ (Array.getElem?_eq_some_iff.1 gS).1).trans gS
    have gT := (bV20.block _ (Array.getElem?_eq_some_iff.1 gT).1).trans gT
    have hB := hB.trans (bV20.mono hB.size)
    have zV20 : V19.heap.size < V20.heap.size := (Array.getElem?_eq_some_iff.1 gV20).1
    have gD := gV20
    refine hK.out _ _ (((hB).cell (p := ⟨kM, 0, none⟩) HKM.out).trans HM.out) (fun _ => ?_)
    clear hK
    try (simp only [Act.put, List.getElem_toArray, List.getElem_cons_zero, List.getElem_cons_succ, List.setIfInBounds_toArray, List.set_cons_zero, List.set_cons_succ])
    refine wpAnyH_ready (rs := [5]) (by kernel_rfl) (by simp) ?_
    refine AllReadyH.cons (o := _) rfl (fun K1 hK => ?_) AllReadyH.nil
    have cc := cell_at gT 0 rfl
    have ff : V20.frozen? ⟨V10.heap.size, 0, none⟩ = false := by simp [World.frozen?, gT]
    go_simp
    obtain ⟨V21, hV21, gV21, oV21, bV21, zV21, yV21⟩ := st_step gT (.slice (some ⟨V19.heap.size, 0, none⟩) m m)
    rw [hV21]
    clear hV21 cc ff
    have gS := (oV21 _ (by omega)).trans gS
    have gD := (oV21 _ (by omega)).trans gD
    have hB := bV21 _ _ hB (by have := hB.size; omega)
    have gT := gV21
    refine hK.out _ _ (((hB).cell (p := ⟨kM, 0, none⟩) HKM.out).trans HM.out) (fun _ => ?_)
    clear hK
    try (simp only [Act.put, List.getElem_toArray, List.getElem_cons_zero, List.getElem_cons_succ, List.setIfInBounds_toArray, List.set_cons_zero, List.set_cons_succ])
    refine wpAnyH_done (by kernel_rfl) ?_ _
    exact HX.out _ _ _ _ _ _ hB gS gT gD ⟨by omega, by omega, by omega⟩ ⟨by omega, by omega, by omega⟩
 ·go_simp
  obtain ⟨V22, hV22, gV22, bV22⟩ := mk_step V0 (.cells #[.slice none 0 0] 97)
  rw [hV22]
  clear hV22
  have hB := hB.trans (bV22.mono hB.size)
  have zV22 : V0.heap.size < V22.heap.size := (Array.getElem?_eq_some_iff.1 gV22).1
  have gT := gV22
  refine hK.out _ _ (((hB).cell (p := ⟨kM, 0, none⟩) HKM.out).trans HM.out) (fun _ => ?_)
  clear hK
  try (simp only [Act.put, List.getElem_toArray, List.getElem_cons_zero, List.getElem_cons_succ, List.setIfInBounds_toArray, List.set_cons_zero, List.set_cons_succ])
  refine wpAnyH_ready (rs := [1, 2]) (by kernel_rfl) (by simp) ?_
  refine AllReadyH.cons (o := _) rfl (fun K1 hK => ?_) (AllReadyH.cons (o := _) rfl (fun K2 hK => ?_) AllReadyH.nil)
  ·go_simp
   obtain ⟨V23, hV23, gV23, bV23⟩ := mk_step V22 (.cells (Array.replicate m (.bool false)) 4)
   rw [hV23]
   clear hV23
   have gT := (bV23.block _ (Array.getElem?_eq_some_iff.1 gT).1).trans gT
   have hB := hB.trans (bV23.mono hB.size)
   have zV23 : V22.heap.size < V23.heap.size := (Array.getElem?_eq_some_iff.1 gV23).1
   have gD := gV23
   refine hK.out _ _ (((hB).cell (p := ⟨kM, 0, none⟩) HKM.out).trans HM.out) (fun _ => ?_)
   clear hK
   try (simp only [Act.put, List.getElem_toArray, List.getElem_cons_zero, List.getElem_cons_succ, List.setIfInBounds_toArray, List.set_cons_zero, List.set_cons_succ])
   refine wpAnyH_ready (rs := [2]) (by kernel_rfl) (by simp) ?_
   refine AllReadyH.cons (o := _) rfl (fun K1 hK => ?_) AllReadyH.nil
   go_simp
   obtain ⟨V24, hV24, gV24, bV24⟩ := mk_step V23 (.cells #[.int .i64 0] 3)
   rw [hV24]
   clear hV24
   have gT := (bV24.block _ (Array.getElem?_eq_some_iff.1 gT).1).trans gT
   have gD := (bV24.block _ (Array.getElem?_eq_some_iff.1 gD).1).trans gD
   have hB := hB.trans (bV24.mono hB.size)
   have zV24 : V23.heap.size < V24.heap.size := (Array.getElem?_eq_some_iff.1 gV24).1
   have gS := gV24
   refine hK.out _ _ (((hB).cell (p := ⟨kM, 0, none⟩) HKM.out).trans HM.out) (fun _ => ?_)
   clear hK
   try (simp only [Act.put, List.getElem_toArray, List.getElem_cons_zero, List.getElem_cons_succ, List.setIfInBounds_toArray, List.set_cons_zero, List.set_cons_succ])
   refine wpAnyH_ready (rs := [4]) (by kernel_rfl) (by simp) ?_
   refine AllReadyH.cons (o := _) rfl (fun K1 hK => ?_) AllReadyH.nil
   have cc := cell_at gS 0 rfl
   have ff : V24.frozen? ⟨V23.heap.size, 0, none⟩ = false := by simp [World.frozen?, gS]
   go_simp
   obtain ⟨V25, hV25, gV25, oV25, bV25, zV25, yV25⟩ := st_step gS (.int .i64 0)
   rw [hV25]
   clear hV25 cc ff
   have gT := (oV25 _ (by omega)).trans gT
   have gD := (oV25 _ (by omega)).trans gD
   have hB := bV25 _ _ hB (by have := hB.size; omega)
   have gS := gV25
   refine hK.out _ _ (((hB).cell (p := ⟨kM, 0, none⟩) HKM.out).trans HM.out) (fun _ => ?_)
   clear hK
   try (simp only [Act.put, List.getElem_toArray, List.getElem_cons_zero, List.getElem_cons_succ, List.setIfInBounds_toArray, List.set_cons_zero, List.set_cons_succ])
   refine wpAnyH_ready (rs := [5]) (by kernel_rfl) (by simp) ?_
   refine AllReadyH.cons (o := _) rfl (fun K1 hK => ?_) AllReadyH.nil
   have cc := cell_at gT 0 rfl
   have ff : V25.frozen? ⟨V0.heap.size, 0, none⟩ = false := by simp [World.frozen?, gT]
   go_simp
   obtain ⟨V26, hV26, gV26, oV26, bV26, zV26, yV26⟩ := st_step gT (.slice (some ⟨V22.heap.size, 0, none⟩) m m)
   rw [hV26]
   clear hV26 cc ff
   have gD := (oV26 _ (by omega)).trans gD
   have gS := (oV26 _ (by omega)).trans gS
   have hB := bV26 _ _ hB (by have := hB.size; omega)
   have gT := gV26
   refine hK.out _ _ (((hB).cell (p := ⟨kM, 0, none⟩) HKM.out).trans HM.out) (fun _ => ?_)
   clear hK
   try (simp only [Act.put, List.getElem_toArray, List.getElem_cons_zero, List.getElem_cons_succ, List.setIfInBounds_toArray, List.set_cons_zero, List.set_cons_succ])
   refine wpAnyH_done (by kernel_rfl) ?_ _
   exact HX.out _ _ _ _ _ _ hB gS gT gD ⟨by omega, by omega, by omega⟩ ⟨by omega, by omega, by omega⟩
  ·go_simp
   obtain ⟨V27, hV27, gV27, bV27⟩ := mk_step V22 (.cells #[.int .i64 0] 3)
   rw [hV27]
   clear hV27
   have gT := (bV27.block _ (Array.getElem?_eq_some_iff.1 gT).1).trans gT
   have hB := hB.trans (bV27.mono hB.size)
   have zV27 : V22.heap.size < V27.heap.size := (Array.getElem?_eq_some_iff.1 gV27).1
   have gS := gV27
   refine hK.out _ _ (((hB).cell (p := ⟨kM, 0, none⟩) HKM.out).trans HM.out) (fun _ => ?_)
   clear hK
   try (simp only [Act.put, List.getElem_toArray, List.getElem_cons_zero, List.getElem_cons_succ, List.setIfInBounds_toArray, List.set_cons_zero, List.set_cons_succ])
   refine wpAnyH_ready (rs := [1, 4]) (by kernel_rfl) (by simp) ?_
   refine AllReadyH.cons (o := _) rfl (fun K1 hK => ?_) (AllReadyH.cons (o := _) rfl (fun K2 hK => ?_) AllReadyH.nil)
   ·go_simp
    obtain ⟨V28, hV28, gV28, bV28⟩ := mk_step V27 (.cells (Array.replicate m (.bool false)) 4)
    rw [hV28]
    clear hV28
    have gT := (bV28.block _ (Array.getElem?_eq_some_iff.1 gT).1).trans gT
    have gS := (bV28.block _ (Array.getElem?_eq_some_iff.1 gS).1).trans gS
    have hB := hB.trans (bV28.mono hB.size)
    have zV28 : V27.heap.size < V28.heap.size := (Array.getElem?_eq_some_iff.1 gV28).1
    have gD := gV28
    refine hK.out _ _ (((hB).cell (p := ⟨kM, 0, none⟩) HKM.out).trans HM.out) (fun _ => ?_)
    clear hK
    try (simp only [Act.put, List.getElem_toArray, List.getElem_cons_zero, List.getElem_cons_succ, List.setIfInBounds_toArray, List.set_cons_zero, List.set_cons_succ])
    refine wpAnyH_ready (rs := [4]) (by kernel_rfl) (by simp) ?_
    refine AllReadyH.cons (o := _) rfl (fun K1 hK => ?_) AllReadyH.nil
    have cc := cell_at gS 0 rfl
    have ff : V28.frozen? ⟨V22.heap.size, 0, none⟩ = false := by simp [World.frozen?, gS]
    go_simp
    obtain ⟨V29, hV29, gV29, oV29, bV29, zV29, yV29⟩ := st_step gS (.int .i64 0)
    rw [hV29]
    clear hV29 cc ff
    have gT := (oV29 _ (by omega)).trans gT
    have gD := (oV29 _ (by omega)).trans gD
    have hB := bV29 _ _ hB (by have := hB.size; omega)
    have gS := gV29
    refine hK.out _ _ (((hB).cell (p := ⟨kM, 0, none⟩) HKM.out).trans HM.out) (fun _ => ?_)
    clear hK
    try (simp only [Act.put, List.getElem_toArray, List.getElem_cons_zero, List.getElem_cons_succ, List.setIfInBounds_toArray, List.set_cons_zero, List.set_cons_succ])
    refine wpAnyH_ready (rs := [5]) (by kernel_rfl) (by simp) ?_
    refine AllReadyH.cons (o := _) rfl (fun K1 hK => ?_) AllReadyH.nil
    have cc := cell_at gT 0 rfl
    have ff : V29.frozen? ⟨V0.heap.size, 0, none⟩ = false := by simp [World.frozen?, gT]
    go_simp
    obtain ⟨V30, hV30, gV30, oV30, bV30, zV30, yV30⟩ := st_step gT (.slice (some ⟨V27.heap.size, 0, none⟩) m m)
    rw [hV30]
    clear hV30 cc ff
    have gS := (oV30 _ (by omega)).trans gS
    have gD := (oV30 _ (by omega)).trans gD
    have hB := bV30 _ _ hB (by have := hB.size; omega)
    have gT := gV30
    refine hK.out _ _ (((hB).cell (p := ⟨kM, 0, none⟩) HKM.out).trans HM.out) (fun _ => ?_)
    clear hK
    try (simp only [Act.put, List.getElem_toArray, List.getElem_cons_zero, List.getElem_cons_succ, List.setIfInBounds_toArray, List.set_cons_zero, List.set_cons_succ])
    refine wpAnyH_done (by kernel_rfl) ?_ _
    exact HX.out _ _ _ _ _ _ hB gS gT gD ⟨by omega, by omega, by omega⟩ ⟨by omega, by omega, by omega⟩
   ·have cc := cell_at gS 0 rfl
    have ff : V27.frozen? ⟨V22.heap.size, 0, none⟩ = false := by simp [World.frozen?, gS]
    go_simp
    obtain ⟨V31, hV31, gV31, oV31, bV31, zV31, yV31⟩ := st_step gS (.int .i64 0)
    rw [hV31]
    clear hV31 cc ff
    have gT := (oV31 _ (by omega)).trans gT
    have hB := bV31 _ _ hB (by have := hB.size; omega)
    have gS := gV31
    refine hK.out _ _ (((hB).cell (p := ⟨kM, 0, none⟩) HKM.out).trans HM.out) (fun _ => ?_)
    clear hK
    try (simp only [Act.put, List.getElem_toArray, List.getElem_cons_zero, List.getElem_cons_succ, List.setIfInBounds_toArray, List.set_cons_zero, List.set_cons_succ])
    refine wpAnyH_ready (rs := [1]) (by kernel_rfl) (by simp) ?_
    refine AllReadyH.cons (o := _) rfl (fun K1 hK => ?_) AllReadyH.nil
    go_simp
    obtain ⟨V32, hV32, gV32, bV32⟩ := mk_step V31 (.cells (Array.replicate m (.bool false)) 4)
    rw [hV32]
    clear hV32
    have gT := (bV32.block _ (Array.getElem?_eq_some_iff.1 gT).1).trans gT
    have gS := (bV32.block _ (Array.getElem?_eq_some_iff.1 gS).1).trans gS
    have hB := hB.trans (bV32.mono hB.size)
    have zV32 : V31.heap.size < V32.heap.size := (Array.getElem?_eq_some_iff.1 gV32).1
    have gD := gV32
    refine hK.out _ _ (((hB).cell (p := ⟨kM, 0, none⟩) HKM.out).trans HM.out) (fun _ => ?_)
    clear hK
    try (simp only [Act.put, List.getElem_toArray, List.getElem_cons_zero, List.getElem_cons_succ, List.setIfInBounds_toArray, List.set_cons_zero, List.set_cons_succ])
    refine wpAnyH_ready (rs := [5]) (by kernel_rfl) (by simp) ?_
    refine AllReadyH.cons (o := _) rfl (fun K1 hK => ?_) AllReadyH.nil
    have cc := cell_at gT 0 rfl
    have ff : V32.frozen? ⟨V0.heap.size, 0, none⟩ = false := by simp [World.frozen?, gT]
    go_simp
    obtain ⟨V33, hV33, gV33, oV33, bV33, zV33, yV33⟩ := st_step gT (.slice (some ⟨V31.heap.size, 0, none⟩) m m)
    rw [hV33]
    clear hV33 cc ff
    have gS := (oV33 _ (by omega)).trans gS
    have gD := (oV33 _ (by omega)).trans gD
    have hB := bV33 _ _ hB (by have := hB.size; omega)
    have gT := gV33
    refine hK.out _ _ (((hB).cell (p := ⟨kM, 0, none⟩) HKM.out).trans HM.out) (fun _ => ?_)
    clear hK
    try (simp only [Act.put, List.getElem_toArray, List.getElem_cons_zero, List.getElem_cons_succ, List.setIfInBounds_toArray, List.set_cons_zero, List.set_cons_succ])
    refine wpAnyH_done (by kernel_rfl) ?_ _
    exact HX.out _ _ _ _ _ _ hB gS gT gD ⟨by omega, by omega, by omega⟩ ⟨by omega, by omega, by omega⟩
end Go.Proofs.YtggcbblikgankaaGreatDoor
end
section
namespace Go.Proofs.YtggcbblikgankaaGreatDoor
open Go Go.RowKit Go.Deep
def BestP (cost : List (List Int)) (w : World) (e : Ending) (w' : World) : Prop :=
  Below w.heap.size w w' ∧
  ((castE cost ≠ 0 ∧ e = .returned (.tuple #[.slice none 0 0, .int .i64 0, .bool false, .int .i64 (castE cost)])) ∨
   (castE cost = 0 ∧ (∀ t, ¬ CastN cost.length (widN cost) (cI cost) t) ∧ e = .returned (.tuple #[.slice none 0 0, .int .i64 0, .bool false, .int .i64 0])) ∨
   (castE cost = 0 ∧ ∃ (v : Value) (t : Nat → Nat) (taken : List Bool) (best : Int), e = .returned (.tuple #[v, .int .i64 best, .bool true, .int .i64 0]) ∧ (∀ s, CastN cost.length (widN cost) (cI cost) s → best ≤ sumT (fun r => cI cost r (s r)) cost.length) ∧ FirstOk cost.length (widN cost) (cI cost) best cost.length t taken ∧ w'.ownsRow w.heap.size 3 1 v cost.length (intsL (toL t cost.length))))
theorem results_best (tmps : Array Value) (w : World) (p : Addr) (x : Value) (h3 : tmps.getD 3 undef = .pointer (some p)) (hc : w.cell? p = some x) :
    (results Tryz.f20 tmps).run Tryz.prog w = .ok (.tuple #[tmps.getD 2 undef, x, tmps.getD 4 undef, tmps.getD 5 undef]) w := by
  have h4 : tmps[3]?.getD undef = .pointer (some p) := by simpa using h3
  simp [results, h4, hc, go_sem]
theorem two_new (w : World) (x y : Value) (s t : TypeId) : ∃ W, (w.alloc (.cells #[x] s)).alloc (.cells #[y] t) = W ∧ W.heap[w.heap.size]? = some (.cells #[x] s (0, 0)) ∧ W.heap[w.heap.size + 1]? = some (.cells #[y] t (0, 0)) ∧ Below w.heap.size w W ∧ w.heap.size + 2 ≤ W.heap.size := by
  obtain ⟨A, hA, gA, bA⟩ := mk_step w (.cells #[x] s)
  have hs : A.heap.size = w.heap.size + 1 := by rw [← hA]; simp
  obtain ⟨C, hC, gC, bC⟩ := mk_step A (.cells #[y] t)
  have hs2 : C.heap.size = A.heap.size + 1 := by rw [← hC]; simp
  refine ⟨C, by rw [hA, hC], (bC.block _ (by omega)).trans gA, by rw [← hs]; exact gC, bA.trans (bC.mono (by omega)), by omega⟩
set_option maxRecDepth 100000 in
set_option maxHeartbeats 8000000 in
theorem best_odd (cost : List (List Int)) (aoC : Option Addr) (ccC : Nat) (w : World) (h : IsMat w (.slice aoC cost.length ccC) cost) (hce : castE cost ≠ 0) :
    Calls Tryz.prog 20 #[.slice aoC cost.length ccC] w (BestP cost w) := by
  have HC := Lib.hid (fun W (hb : Below w.heap.size w W) => ccheck_any W (h.below hb (Nat.le_refl _)))
  have HE := Lib.hid hce
  have hP : ∀ W, Below w.heap.size w W → BestP cost w (.returned (.tuple #[.slice none 0 0, .int .i64 0, .bool false, .int .i64 (castE cost)])) W := fun W hb => ⟨hb, Or.inl ⟨hce, rfl⟩⟩
  have HP := Lib.hid hP
  have hne : (castE cost != 0) = true := by simp [hce]
  clear hP h hce
  generalize castE cost = ce at *
  generalize cost.length = n at *
  go_enter Tryz.func20, Tryz.ntmps20
  go_wp2_with fail
  obtain ⟨W, hW, g1, g2, hb, hs⟩ := two_new w (.slice aoC n ccC) (.int .i64 0) 50 3
  rw [hW]
  refine (HC.out W hb).mono ?_
  rintro e w2 ⟨rfl, hb2⟩
  have g3 := (hb2.block (w.heap.size + 1) (by omega)).trans g2
  have hb3 := hb.trans (hb2.mono hb.size)
  have c3 := cell_at g3 0 rfl
  have f3 : w2.frozen? ⟨w.heap.size + 1, 0, none⟩ = false := by simp [World.frozen?, g3]
  have HB3 := Lib.hid hb3
  clear hW g1 g2 hb hs hb2 g3 hb3 HC
  go_wp2_with fail
  have c4 : (w2.setCell ⟨w.heap.size + 1, 0, none⟩ (.int .i64 0)).cell? ⟨w.heap.size + 1, 0, none⟩ = some (.int .i64 0) := World.cell?_setCell_same _ _ _ c3
  refine bodyPost_ret (results_best _ _ _ _ rfl c4) rfl ?_
  exact HP.out _ (HB3.out.setCell (p := ⟨w.heap.size + 1, 0, none⟩) (Nat.le_succ _) _)
end Go.Proofs.YtggcbblikgankaaGreatDoor
end
section
namespace Go.Proofs.YtggcbblikgankaaGreatDoor
open Go Go.RowKit Go.Deep
noncomputable def code99 : Code := (Tryz.f87.body).getD .skip
noncomputable def part99n4 : Code := lastPart 4 code99
theorem own_lower' {w : World} {Z B e s n : Nat} {v : Value} {xs : List Value} (h : w.ownsRow Z e s v n xs) (hB : B ≤ Z) : w.ownsRow B e s v n xs := by
  refine ⟨h.1, ?_⟩
  rcases h.2 with q | ⟨g, cap, cur, e, h1, h2⟩
  · exact Or.inl q
  · exact Or.inr ⟨g, cap, cur, e, Nat.le_trans hB h1, h2⟩
theorem own_ge' {w : World} {Z e s n : Nat} {v : Value} {xs : List Value} (h : w.ownsRow Z e s v n xs) : ∀ k, v.ownBlock = some k → Z ≤ k := by
  intro k hk
  rcases h.2 with ⟨q, _⟩ | ⟨g, cap, cur, q, h1, _⟩
  · subst q; cases hk
  · subst q; cases hk; exact h1
theorem own_at_below {w w' : World} {Z e s n : Nat} {v : Value} {xs : List Value} (h : w.ownsRow Z e s v n xs) (hb : Below w.heap.size w w') : w'.ownsRow Z e s v n xs := by
  refine ⟨h.1, ?_⟩
  rcases h.2 with q | ⟨g, cap, cur, e1, h1, hg, h2⟩
  · exact Or.inl q
  · exact Or.inr ⟨g, cap, cur, e1, h1, (hb.block g (Array.getElem?_eq_some_iff.1 hg).1).trans hg, h2⟩
theorem clone_own (xs : List Int) (n B : Nat) (hn : xs.length = n) (hb : n ≤ 1000) (v : Value) (w : World) (h : w.ownsRow B 3 1 v n (intsL xs)) :
    Calls Tryz.prog 48 #[v] w fun e w' => ∃ v', e = .returned v' ∧ w'.ownsRow w.heap.size 3 1 v' n (intsL xs) ∧ Below w.heap.size w w' := by
  have hrow := own_ints h hn
  rcases h.2 with ⟨rfl, h1⟩ | ⟨g, cap, cur, rfl, _⟩
  · subst h1
    obtain rfl : xs = [] := List.length_eq_zero_iff.1 hn
    refine (Tryz.slices_Clone_int_nil 0 0 w).mono ?_
    rintro e w' ⟨rfl, hw⟩
    rw [hw]
    exact ⟨_, rfl, World.ownsRow_nil _ _ _ _, Below.refl _ _⟩
  · have hc := Tryz.slices_Clone_int g 0 n cap xs w (by omega) (by omega) (fun j hj => by
      obtain ⟨b, o, e, hc, _⟩ := hrow.int hj
      have e2 := Option.some.inj e
      injection e2 with e3 e4
      subst e3 e4
      rw [hc]
      unfold gi
      rw [List.getD_eq_getElem?_getD])
    refine hc.mono ?_
    rintro e w' ⟨v', rfl, ho, _, hb2⟩
    rw [List.take_of_length_le (by omega)] at ho
    exact ⟨v', rfl, ho, hb2⟩
theorem ExtP.past {n R : Nat} {J Jx : List (Value × List Nat) → World → Prop} {pre : List (Value × List Nat)} {L : List (List Nat)} {W W' : World} {e : Ending} (h : ExtP n R J Jx pre L W e W') : Past R W W' := by
  rcases h with ⟨_, _, _, _, h⟩ | ⟨_, _, _, _, h⟩
  · exact h.past
  · exact h
theorem ext_next {fr i : Nat} (h : fr ≤ i) (f : Nat → List (List Nat)) : (List.range' fr (i + 1 - fr)).flatMap f = (List.range' fr (i - fr)).flatMap f ++ f i := by
  rw [show i + 1 - fr = (i - fr) + 1 by omega, List.range'_1_concat, List.flatMap_append, show fr + (i - fr) = i by omega]
  simp
theorem ext_pre {fr i q : Nat} (h : fr ≤ i) (hi : i < q) (f : Nat → List (List Nat)) {A : List (List Nat)} (hA : A <+: f i) : (List.range' fr (i - fr)).flatMap f ++ A <+: (List.range' fr (q - fr)).flatMap f := by
  obtain ⟨B, hB⟩ := hA
  have h1 : List.range' fr (q - fr) = List.range' fr (i + 1 - fr) ++ List.range' (i + 1) (q - (i + 1)) := by
    have := List.range'_append_1 (s := fr) (m := i + 1 - fr) (n := q - (i + 1))
    rw [show fr + (i + 1 - fr) = i + 1 by omega, show i + 1 - fr + (q - (i + 1)) = q - fr by omega] at this
    exact this.symm
  refine ⟨B ++ (List.range' (i + 1) (q - (i + 1))).flatMap f, ?_⟩
  rw [h1, List.flatMap_append, ext_next h, ← hB]
  simp
theorem intsN_snoc (l : List Nat) (i : Nat) : intsN (l ++ [i]) = intsN l ++ [(i : Int)] := by unfold intsN; simp
theorem intsL_snoc (l : List Int) (i : Int) : intsL (l ++ [i]) = intsL l ++ [.int .i64 i] := by unfold intsL; simp
set_option maxRecDepth 100000 in
set_option maxHeartbeats 8000000 in
theorem ext_loop (lp R kB yB nB eB n k B d : Nat) (hk : k ≤ n) (hn : n ≤ 16) (hRB : R < B) (J Jx : List (Value × List Nat) → World → Prop) (hJ : KeptBy J)
    (ls : List Nat) (hls : ls.length + (d + 1) = k)
    (hI : ∀ (i : Nat) (v' : Value) (pre : List (Value × List Nat)) (W : World), nextI ls ≤ i → i < n - d → ExtW R kB yB nB eB lp n k W → B ≤ W.heap.size → J pre W → W.ownsRow B 3 1 v' (ls.length + 1) (intsL (intsN (ls ++ [i]))) → Calls Tryz.prog 87 #[v', .pointer (some ⟨kB, 0, none⟩), .pointer (some ⟨yB, 0, none⟩), .pointer (some ⟨nB, 0, none⟩), .pointer (some ⟨eB, 0, none⟩)] W (ExtP n R J Jx pre (ext n d (ls ++ [i])) W))
    (ao : Option Addr) (c : Nat) (pre : List (Value × List Nat)) (W : World) (hW : ExtW R kB yB nB eB lp n k W) (hB : B ≤ W.heap.size) (hj : J pre W) (ho : W.ownsRow B 3 1 (.slice ao ls.length c) ls.length (intsL (intsN ls)))
    (e5 e8 e9 e10 e11 e12 e13 e14 e15 e16 e17 e18 e19 e20 e21 e22 e23 e24 e25 e26 e27 e28 e29 e30 e31 e32 e33 e34 e35 e36 e37 e38 e39 e40 e41 e42 e43 e44 : Value) :
    Code.wp Tryz.prog part99n4 (bodyPost Tryz.prog Tryz.f87 (ExtP n R J Jx pre (ext n (d + 1) ls) W)) { tmps := #[.slice ao ls.length c, .pointer (some ⟨kB, 0, none⟩), .pointer (some ⟨yB, 0, none⟩), .pointer (some ⟨nB, 0, none⟩), .pointer (some ⟨eB, 0, none⟩), e5, .bool false, .int .i64 (nextI ls), e8, e9, e10, e11, e12, e13, e14, e15, e16, e17, e18, e19, e20, e21, e22, e23, e24, e25, e26, e27, e28, e29, e30, e31, e32, e33, e34, e35, e36, e37, e38, e39, e40, e41, e42, e43, e44], defers := [] } W := by
  have hI2 : ∀ (i : Nat) (v' : Value) (pre : List (Value × List Nat)) (W : World), nextI ls ≤ i → i < n - d → ExtW R kB yB nB eB lp n k W → B ≤ W.heap.size → J pre W → W.ownsRow B 3 1 v' (ls.length + 1) (intsL (intsN ls) ++ [.int .i64 (i : Int)]) → Calls Tryz.prog 87 #[v', .pointer (some ⟨kB, 0, none⟩), .pointer (some ⟨yB, 0, none⟩), .pointer (some ⟨nB, 0, none⟩), .pointer (some ⟨eB, 0, none⟩)] W (fun e W' => ∃ b : Bool, e = .returned (.bool b) ∧ Hid (ExtP n R J Jx pre (ext n d (ls ++ [i])) W (.returned (.bool b)) W')) := by
    intro i v' pre W h1 h2 h3 h4 h5 h6
    rw [← intsL_snoc, ← intsN_snoc] at h6
    refine (hI i v' pre W h1 h2 h3 h4 h5 h6).mono ?_
    intro e W' h
    have h' := h
    rcases h with ⟨rfl, _⟩ | ⟨rfl, _⟩
    · exact ⟨true, rfl, Lib.hid h'⟩
    · exact ⟨false, rfl, Lib.hid h'⟩
  have hlI := intsN_len ls
  have HJ := Lib.hid hJ; have HI := Lib.hid hI2; have HW := Lib.hid hW; have HO := Lib.hid ho; have HLI := Lib.hid hlI; have H0 := Lib.hid hj
  clear hJ hI hI2 hW ho hlI hj
  unfold part99n4 code99
  conv => arg 2; whnf
  generalize hfr : nextI ls = fr at *
  generalize hlen : ls.length = len at *
  have HFR := Lib.hid hfr
  clear hfr hlen
  go_wp2_with fail
  go_loopw [8] (fun iv wr => ∃ (i : Nat) (xs : List (Value × List Nat)), iv = .int .i64 i ∧ fr ≤ i ∧ i - fr ≤ n - d - fr ∧ Hid (xs.map (·.2) = (List.range' fr (i - fr)).flatMap fun i => ext n d (ls ++ [i])) ∧ Hid (J (pre ++ xs) wr) ∧ Hid (ButOne R W wr)) (fun iv _ => fr + n + 1 - (intOf iv).toNat)
  case atStart => exact ⟨fr, [], rfl, Nat.le_refl _, by omega, Lib.hid (by simp), Lib.hid (by simpa using H0.out), Lib.hid (ButOne.of_below (Below.refl _ _))⟩
  case round =>
    obtain ⟨i, xs, rfl, hfi, hin, hxs, hjx, hbo⟩ := hrel
    have hB1 := hbo.out.size
    have hEW := HW.out.keep hbo.out
    have ck := cell_at hEW.bk 0 rfl
    have cn := cell_at hEW.bn 0 rfl
    have ce := cell_at hEW.be 0 rfl
    have hle := (Array.getElem?_eq_some_iff.1 hEW.be).1
    have HEW := Lib.hid hEW; have HE := Lib.hid ce
    by_cases hi : i < n - d
    · have hi' : (i : Int) ≤ (n : Int) - (k : Int) + (len : Int) := by omega
      have hown := own_keep HO.out hbo.out hRB
      have CLN : ∀ w', Below wr.heap.size wr w' → Calls Tryz.prog 48 #[.slice ao len c] w' (fun e w2 => ∃ v', e = .returned v' ∧ w2.ownsRow w'.heap.size 3 1 v' len (intsL (intsN ls)) ∧ Below w'.heap.size w' w2) := fun w' hw' => clone_own _ _ _ HLI.out (by omega) _ _ (own_at_below hown hw')
      have HCLN := Lib.hid CLN
      obtain ⟨i3, hi3, hz3, hs3, hb3⟩ := info3
      clear hown CLN hEW
      go_wp2_with fail
      have hS0 : Below wr.heap.size wr wr.drew := (Below.refl _ _).drew
      have hkeep : ∀ w2, Below wr.heap.size wr w2 → w2.cell? ⟨eB, 0, none⟩ = some (.func (.func 87) #[] #[.pointer (some ⟨kB, 0, none⟩), .pointer (some ⟨yB, 0, none⟩), .pointer (some ⟨nB, 0, none⟩), .pointer (some ⟨eB, 0, none⟩)]) := fun w2 h => (h.cell (p := ⟨eB, 0, none⟩) hle).trans HE.out
      have HK := Lib.hid hkeep
      clear hkeep
      have hene := HEW.out.ne.2.2.2
      go_region_held3 (fun w2 => w2.cell? ⟨eB, 0, none⟩ = some (.func (.func 87) #[] #[.pointer (some ⟨kB, 0, none⟩), .pointer (some ⟨yB, 0, none⟩), .pointer (some ⟨nB, 0, none⟩), .pointer (some ⟨eB, 0, none⟩)])) (first | assumption | exact HE.out | exact HK.out _ (hS0.alloc hS0.size _) | exact HK.out _ (hbw5.alloc hbw5.size _))
        (first
        | (go_at_call 48; refine (HCLN.out _ (hS0)).mono ?_; rintro e w5 ⟨v5, rfl, ho5, hb5⟩; have hbw5 : Below wr.heap.size wr w5 := Below.trans (hS0) (hb5.mono (Below.size (hS0))); have hc5 := HK.out _ hbw5; have ho5b := own_lower' (B := wr.heap.size) ho5 (Below.size (hS0)))
        | (go_at_call 48; refine (HCLN.out _ (hS0.alloc hS0.size _)).mono ?_; rintro e w5 ⟨v5, rfl, ho5, hb5⟩; have hbw5 : Below wr.heap.size wr w5 := Below.trans (hS0.alloc hS0.size _) (hb5.mono (Below.size (hS0.alloc hS0.size _))); have hc5 := HK.out _ hbw5; have ho5b := own_lower' (B := wr.heap.size) ho5 (Below.size (hS0.alloc hS0.size _)))
        | (rw [if_pos (by rfl)]
           refine wp_append_own _ _ _ 55 rfl wr.heap.size 3 i3 (.int .i64 0) 1 8 Tryz.underlying55 hi3 hz3 hs3 hb3 rfl (by decide) v5 len (intsL (intsN ls)) rfl (ho5b.alloc _) ⟨w5.heap.size, 0, none⟩ 1 1 [.int .i64 (i : Int)] rfl rfl (cell_one_new _ _ _) (by intro u hu; simp at hu; subst hu; rfl) (by simp only [maxLen]; omega) (by omega) (by have := Below.size hbw5; simp; omega) ?_
           intro v6 w6 ho6 hg6 _
           have hbw6 : Below wr.heap.size wr w6 := (hbw5.alloc hbw5.size _).grown hg6 (by have := hbw5.size; simp; omega) (own_ge' ho5b)
           have hc6 := HK.out _ hbw6)
        | (rw [if_pos (by rfl)]
           refine wp_append_own _ _ _ 55 rfl wr.heap.size 3 i3 (.int .i64 0) 1 8 Tryz.underlying55 hi3 hz3 hs3 hb3 rfl (by decide) v5 len (intsL (intsN ls)) rfl (ho5b) ⟨wr.drew.heap.size, 0, none⟩ 1 1 [.int .i64 (i : Int)] rfl rfl (fun j u hj => (hb5.cell (by rw [addr_plain]; simp)).trans (cell_one_new _ _ _ j u hj)) (by intro u hu; simp at hu; subst hu; rfl) (by simp only [maxLen]; omega) (by omega) (Below.size hbw5) ?_
           intro v6 w6 ho6 hg6 _
           have hbw6 : Below wr.heap.size wr w6 := hbw5.grown hg6 hbw5.size (own_ge' ho5b)
           have hc6 := HK.out _ hbw6)
        | (go_at_call 87; refine (HI.out i v6 (pre ++ xs) w6 hfi hi (HEW.out.keep (ButOne.of_below hbw6)) (by have := hbw6.size; omega) (HJ.out _ _ _ hjx.out hbw6) (own_lower' ho6 (by omega))).mono ?_; rintro e w7 ⟨b7, rfl, hx7⟩; have hc7 := (World.cell?_of_block (a := ⟨eB, 0, none⟩) (hx7.out.past eB hene (Nat.lt_of_lt_of_le hle hbw6.size))).trans hc6))
      all_goals
        have HX7 := hx7
        have HB6 := Lib.hid (hbo.out.trans (ButOne.of_below (hbw6.mono (Nat.le_refl _)) : ButOne R wr w6))
        clear hx7 hc7 hg6 hbw6 hc6 hbw5 hc5 hb5 ho5 ho5b ho6 hS0
        cases b7 with
        | false =>
          go_wp2_with fail
          go_ret
          rcases HX7.out with ⟨q, _⟩ | ⟨_, ys, hys, hjy, hpy⟩
          · cases q
          · refine Or.inr ⟨rfl, xs ++ ys, ?_, by rw [← List.append_assoc]; exact hjy, HB6.out.then_past hpy⟩
            rw [List.map_append, hxs.out]
            have := ext_pre hfi hi (fun i => ext n d (ls ++ [i])) hys
            rw [← HFR.out] at this ⊢
            exact this
        | true =>
          obtain ⟨ys, hys, hjy, hby⟩ : ∃ ys, ys.map (·.2) = ext n d (ls ++ [i]) ∧ J (pre ++ xs ++ ys) w7 ∧ ButOne R w6 w7 := by
            rcases HX7.out with ⟨_, ys, h⟩ | ⟨q, _⟩
            · exact ⟨ys, h⟩
            · cases q
          have H1 := Lib.hid hys; have H2 := Lib.hid hjy; have H3 := Lib.hid (HB6.out.trans hby)
          clear hys hjy hby HX7
          go_wp2_with fail
          go_roundw
          case rel => exact ⟨i + 1, xs ++ ys, by go_num, by omega, by omega, Lib.hid (by rw [List.map_append, hxs.out, H1.out, ext_next hfi]), Lib.hid (by rw [← List.append_assoc]; exact H2.out), H3⟩
          case measure => simp [intOf]; omega
    · have hi' : ¬ (i : Int) ≤ (n : Int) - (k : Int) + (len : Int) := by omega
      have hii : i - fr = n - d - fr := by omega
      clear hEW
      go_wp2_with fail
      go_ret
      refine Or.inl ⟨rfl, xs, ?_, hjx.out, hbo.out⟩
      rw [hxs.out, hii, ← HFR.out]; rfl
end Go.Proofs.YtggcbblikgankaaGreatDoor
end
