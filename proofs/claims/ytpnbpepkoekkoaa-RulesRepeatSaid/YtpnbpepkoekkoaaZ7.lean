/- Contracts and plain laws on the way to the statement: part 7. -/
import Derived.Test.YtpnbpepkoekkoaaZ5
import Derived.Test.YtpnbpepkoekkoaaProg
import Derived.IntWalk
import Derived.Deep.RegionHeld3
import Derived.Laws.Pointers
import Derived.Test.YtpnbpepkoekkoaaZ3
set_option linter.unusedVariables false
set_option linter.unusedSimpArgs false
set_option maxRecDepth 100000
set_option maxHeartbeats 16000000
namespace Go.Proofs.Ytpnbpepkoekkoaa
open Go.Value (int)
open Go.IntKind (i64)
section
open Go Go.RowKit
def Af (c : Int) : Ending := .panicked [{ v := .iface 35 (int i64 c), recovered := false }]
theorem Bn (c : Int) (w : World) : Calls Try.prog 45 #[.bool true, int i64 c] w fun e w' => e = .returned (.tuple #[]) ∧ w = w' := by
 go_enter Try.func45, Try.ntmps45; go_wp2; go_end0; exact ⟨rfl, rfl⟩
theorem AK (c : Int) (w : World) : Calls Try.prog 45 #[.bool false, int i64 c] w fun e w' => e = Af c ∧ w = w' := by
 go_enter Try.func45, Try.ntmps45; go_wp2; exact ⟨rfl, rfl, rfl⟩
structure ButOne (R : Nat) (W W' : World) : Prop where
 os : W'.os = W.os
 tape : W'.tape = W.tape
 output : W'.output = W.output
 size : W.heap.size ≤ W'.heap.size
 block : ∀ b, b < W.heap.size → b ≠ R → W'.heap[b]? = W.heap[b]?
theorem ButOne.of_below {R : Nat} {W W' : World} (h : Below W.heap.size W W') : ButOne R W W' := ⟨h.os, h.tape, h.output, h.size, fun b hb _ => h.block b hb⟩
theorem ButOne.refl (R : Nat) (W : World) : ButOne R W W := ⟨rfl, rfl, rfl, qn _, fun _ _ _ => rfl⟩
theorem ButOne.trans {R : Nat} {A B C : World} (h : ButOne R A B) (k : ButOne R B C) : ButOne R A C :=
 ⟨k.os.trans h.os, k.tape.trans h.tape, k.output.trans h.output, Nat.le_trans h.size k.size, fun b hb hr => (k.block b (Nat.lt_of_lt_of_le hb h.size) hr).trans (h.block b hb hr)⟩
theorem ButOne.below {R B : Nat} {W W' : World} (h : ButOne R W W') (hr : B ≤ R) (hB : B ≤ W.heap.size) : Below B W W' :=
 ⟨h.os, h.tape, h.output, h.size, fun k hk => h.block k (by omega) (by omega)⟩
theorem ButOne.setCell {W : World} {p : Addr} (v : Value) : ButOne p.block W (W.setCell p v) :=
 ⟨rfl, rfl, rfl, by simp [World.setCell], fun _ _ hr => Below.heap_setCell _ _ _ _ hr⟩
theorem ButOne.cell {R : Nat} {W W' : World} (h : ButOne R W W') {a : Addr} {v : Value} (hc : W.cell? a = some v) (hr : a.block ≠ R) : W'.cell? a = some v :=
 (World.cell?_of_block (h.block _ (BT hc) hr)).trans hc
theorem Ar {B : Nat} {a w : World} (h : Below B a w) (n : Nat) : Below B a (w.drewN n) := ⟨h.os, h.tape, h.output, h.size, h.block⟩
theorem Cy {a b : Int} (h : a = b) : Ending.returned (int i64 a) = .returned (int i64 b) := by rw [h]
theorem BM {a b : Bool} (h : a = b) : Ending.returned (.bool a) = .returned (.bool b) := by rw [h]
theorem Aa {w : World} {g : Nat} {xs : Array Value} {t : TypeId} {f : Nat × Nat} {v : Value} (h : w.heap[g]? = some (.cells xs t f)) (r : Nat) (hv : xs[r]? = some v) : w.cell? ⟨g, r, none⟩ = some v := by
 rw [← hv]; simp [World.cell?, h]
end
section
open Go Go.RowKit
structure CntW (L C : Nat) (left : Int) (W : World) : Prop where
 bl : W.heap[L]? = some (.cells #[int i64 left] 3 (0, 0))
 bc : W.heap[C]? = some (.cells #[.func (.func 69) #[] #[.pointer (some ⟨L, 0, none⟩), .pointer (some ⟨C, 0, none⟩)]] 123 (0, 0))
theorem CntW.ne {L C : Nat} {left : Int} {W : World} (h : CntW L C left W) : C ≠ L := by
 rintro rfl; have := h.bl.symm.trans h.bc; simp at this
theorem CntW.keep {L C : Nat} {left : Int} {W W' : World} (h : CntW L C left W) (hb : Below W.heap.size W W') : CntW L C left W' :=
 ⟨(hb.block _ (qs.1 h.bl).1).trans h.bl, (hb.block _ (qs.1 h.bc).1).trans h.bc⟩
def ES (L C : Nat) (r : Option Int) (W : World) (e : Ending) (W' : World) : Prop :=
 (∃ l, r = some l ∧ 0 ≤ l ∧ l ≤ 4096 ∧ e = .returned (.tuple #[]) ∧ CntW L C l W' ∧ ButOne L W W') ∨ (r = none ∧ e = Af 2 ∧ ButOne L W W')
theorem Lt.At.kept1 {L : Nat} {W W' : World} {T : Lt} {b o : Nat} (h : T.At W b o) (hb : ButOne L W W') (hL : L ∉ b :: T.blocks) : T.At W' b o :=
 h.kept (fun q v _ hc => hb.cell hc (fun e => hL (by simp [← e]))) (fun c hcm q v hc => hb.cell hc (fun e => hL (by rw [← e]; exact List.mem_cons_of_mem _ hcm)))
theorem NsAt.kept1 {L : Nat} {W W' : World} {xs : List RefL} {ns : List Int} (h : NsAt W xs ns) (hb : ButOne L W W') (hL : ∀ x ∈ xs, x.b ≠ L) : NsAt W' xs ns :=
 h.kept fun x hx v hc => hb.cell hc (hL x hx)
theorem Lt.At.cells {W : World} {k n : Int} {un : Nm} {ia : Option Addr} {ic : Nat} {its : Lt} {ma : Option Addr} {mc : Nat} {ms : List Mov} {r : Lt} {b o : Nat} {ns : List Int} (h : (Lt.cons k n un ia ic its ma mc ms r).At W b o) (hn : NsAt W ((Lt.cons k n un ia ic its ma mc ms r).refsL b o) ns) :
  ∃ (u : Int), W.cell? ⟨b, o, none⟩ = some (int i64 k) ∧ W.cell? ⟨b, o + 1, none⟩ = some (int i64 n) ∧ W.cell? ⟨b, o + 2, none⟩ = some (sv un) ∧ W.cell? ⟨b, o + 3, none⟩ = some (int i64 u) ∧ W.cell? ⟨b, o + 4, none⟩ = some (.slice ia its.len ic) ∧ W.cell? ⟨b, o + 5, none⟩ = some (.slice ma ms.length mc) ∧
   ∃ n1 n2 n3, ns = u :: (n1 ++ (n2 ++ n3)) ∧ NsAt W (Aw (blk ma) (off ma) ms) n1 ∧ NsAt W (its.refsL (blk ia) (off ia)) n2 ∧ NsAt W (r.refsL b (o + 6)) n3 := by
 obtain ⟨⟨h0, h1, h2, h4, h5⟩, _⟩ := h
 cases ns with
 | nil => exact hn.elim
 | cons u ns =>
  obtain ⟨g1, g2⟩ := hn; obtain ⟨n1, n', rfl, k1, k2⟩ := g2.split; obtain ⟨n2, n3, rfl, k3, k4⟩ := k2.split; exact ⟨u, h0, h1, h2, g1, h4, h5, n1, n2, n3, rfl, k1, k3, k4⟩
theorem It (k n : Int) (un : Nm) (its : Its) (ms : List Mov) (r : Its) (d : Nat) (left : Int) :
  (Its.cons k n un its ms r).count d left = if ms.length ≤ 64 then (match its.countL (d + 1) left with | none => none | some l => r.count d l) else none := by
 rw [Its.count]; unfold Its.countL; by_cases h1 : ms.length ≤ 64
 ·by_cases h2 : (its.len : Int) ≤ left ∧ (its.len = 0 ∨ d + 1 ≤ 16)
  ·rw [if_pos ⟨h1, h2⟩, if_pos h1, if_pos h2]
   cases its.count (d + 1) (left - its.len) <;> rfl
  ·rw [if_neg (fun h => h2 h.2), if_pos h1, if_neg h2]
 ·rw [if_neg (fun h => h1 h.1), if_neg h1]
end
section
open Go Go.RowKit
theorem JD (L C : Nat) (n d : Nat) (left : Int) (ia : Option Addr) (ic : Nat) (W : World) (hW : CntW L C left W) (h : left < n ∨ (0 < n ∧ 16 < d)) :
  Calls Try.prog 69 #[.slice ia n ic, int i64 d, .pointer (some ⟨L, 0, none⟩), .pointer (some ⟨C, 0, none⟩)] W (ES L C none W) := by
 have cl := cell_of_one hW.bl; have hP : ES L C none W (Af 2) W := Or.inr ⟨rfl, rfl, ButOne.refl _ _⟩; have HP := qh hP; clear hP hW; by_cases h1 : (n : Int) ≤ left
 ·obtain ⟨h2, h3⟩ : 0 < n ∧ 16 < d := by omega
  have h4 : ((n : Int) == 0) = false := by simp; omega
  have h5 : ¬ (d : Int) ≤ 16 := by omega
  go_enter Try.func69, Try.ntmps69
  go_wp2_with (go_at_call 45; refine (AK _ _).mono ?_; unfold Af; rintro e w' ⟨rfl, rfl⟩); exact ⟨rfl, HP.out⟩
 ·go_enter Try.func69, Try.ntmps69
  go_wp2_with (go_at_call 45; refine (AK _ _).mono ?_; unfold Af; rintro e w' ⟨rfl, rfl⟩); exact ⟨rfl, HP.out⟩
theorem FZ (L C : Nat) (ia : Option Addr) (ic d : Nat) (left : Int) (W : World) (hW : CntW L C left W) (h0 : 0 ≤ left) (h1 : left ≤ 4096) :
  Calls Try.prog 69 #[.slice ia Lt.nil.len ic, int i64 d, .pointer (some ⟨L, 0, none⟩), .pointer (some ⟨C, 0, none⟩)] W (ES L C (Lt.nil.strip.countL d left) W) := by
 have cl := cell_of_one hW.bl; have fl := free_of_one hW.bl; have hgo : (CntW L C left (W.setCell ⟨L, 0, none⟩ (int i64 left))) := ⟨one_setCell hW.bl, (Below.heap_setCell _ _ _ _ hW.ne).trans hW.bc⟩; have hgo2 : ButOne L W (W.setCell ⟨L, 0, none⟩ (int i64 left)) := ButOne.setCell (p := ⟨L, 0, none⟩) _; have hP : ES L C (Lt.nil.strip.countL d left) W (.returned (.tuple #[])) (W.setCell ⟨L, 0, none⟩ (int i64 left)) :=
  Or.inl ⟨left, by simp [Its.countL, Its.len, Lt.strip, Its.count, h0], h0, h1, rfl, hgo, hgo2⟩
 have HP := qh hP; have hz2 : ((0 : Int) == 0) = true := rfl; clear hP hgo hgo2 hW; simp only [Lt.len]; go_enter Try.func69, Try.ntmps69
 go_wp2_with (go_at_call 45; refine (Bn _ _).mono ?_; rintro e w' ⟨rfl, rfl⟩); go_loopw [28] (fun iv wr => iv = int i64 0 ∧ Hid (ES L C (Lt.nil.strip.countL d left) W (.returned (.tuple #[])) wr)) (fun _ _ => 0)
 case atStart => exact ⟨rfl, HP⟩
 case round =>
  obtain ⟨rfl, hC⟩ := hrel; go_wp2_with fail; go_end0; exact hC.out
theorem Iu (L C : Nat) (T : Lt) (hI : ∀ T' : Lt, T'.size < T.size → ∀ (ia : Option Addr) (ic d : Nat) (left : Int) (ns : List Int) (W : World), d ≤ 17 → T'.len ≤ maxLen → (T'.len = 0 ∨ (ia = some ⟨blk ia, off ia, none⟩ ∧ blk ia ≠ L)) → L ∉ T'.blocks → T'.At W (blk ia) (off ia) → NsAt W (T'.refsL (blk ia) (off ia)) ns → CntW L C left W → 0 ≤ left → left ≤ 4096 →
   Calls Try.prog 69 #[.slice ia T'.len ic, int i64 d, .pointer (some ⟨L, 0, none⟩), .pointer (some ⟨C, 0, none⟩)] W (ES L C (T'.strip.countL d left) W))
  (b o ic d : Nat) (left : Int) (ns : List Int) (W : World) (hd : d ≤ 17) (hlen : T.len ≤ maxLen) (hb : T.len = 0 ∨ b ≠ L) (hbl : L ∉ T.blocks) (hT : T.At W b o) (hN : NsAt W (T.refsL b o) ns) (hW : CntW L C left W) (h0 : 0 ≤ left) (h1 : left ≤ 4096)
  (hfit : (T.len : Int) ≤ left) (hdep : T.len = 0 ∨ d ≤ 16) :
  Calls Try.prog 69 #[.slice (some ⟨b, o, none⟩) T.len ic, int i64 d, .pointer (some ⟨L, 0, none⟩), .pointer (some ⟨C, 0, none⟩)] W (ES L C (T.strip.count d (left - T.len)) W) := by
 have cl := cell_of_one hW.bl; have fl := free_of_one hW.bl; have hgo : (CntW L C (left - T.len) (W.setCell ⟨L, 0, none⟩ (int i64 (left - T.len)))) := ⟨one_setCell hW.bl, (Below.heap_setCell _ _ _ _ hW.ne).trans hW.bc⟩; have hgo2 : ButOne L W (W.setCell ⟨L, 0, none⟩ (int i64 (left - T.len))) := ButOne.setCell (p := ⟨L, 0, none⟩) _; have hT1 := hT.kept1 hgo2; have HGO := qh hgo; have HGO2 := qh hgo2; have HI := qh hI; have HBL := qh hbl; have hle := hfit; rcases hdep with hz | hd16
 ·obtain rfl := Lt.len_zero hz
  have hz2 : ((0 : Int) == 0) = true := rfl; simp only [Lt.len, Lt.strip, Its.count] at *; clear hgo hgo2 hT hN hI hbl hT1 hW; go_enter Try.func69, Try.ntmps69
  go_wp2_with (go_at_call 45; refine (Bn _ _).mono ?_; rintro e w' ⟨rfl, rfl⟩); go_loopw [28] (fun iv wr => iv = int i64 0 ∧ Hid (ES L C (some (left - 0)) W (.returned (.tuple #[])) wr)) (fun _ _ => 0)
  case atStart => exact ⟨rfl, qh (Or.inl ⟨left - 0, rfl, by omega, by omega, rfl, by simpa using HGO.out, by simpa using HGO2.out⟩)⟩
  case round =>
   obtain ⟨rfl, hC⟩ := hrel; go_wp2_with fail; go_end0; simpa using hC.out
 ·by_cases hz : T.len = 0
  ·obtain rfl := Lt.len_zero hz
   have hz2 : ((0 : Int) == 0) = true := rfl; simp only [Lt.len, Lt.strip, Its.count] at *; clear hgo hgo2 hT hN hI hbl hT1 hW; go_enter Try.func69, Try.ntmps69
   go_wp2_with (go_at_call 45; refine (Bn _ _).mono ?_; rintro e w' ⟨rfl, rfl⟩); go_loopw [28] (fun iv wr => iv = int i64 0 ∧ Hid (ES L C (some (left - 0)) W (.returned (.tuple #[])) wr)) (fun _ _ => 0)
   case atStart => exact ⟨rfl, qh (Or.inl ⟨left - 0, rfl, by omega, by omega, rfl, by simpa using HGO.out, by simpa using HGO2.out⟩)⟩
   case round =>
    obtain ⟨rfl, hC⟩ := hrel; go_wp2_with fail; go_end0; simpa using hC.out
  have hbL : b ≠ L := hb.resolve_left hz
  have hlt : ∀ c ∈ b :: T.blocks, c ≠ L := by
   intro c hc e; rcases List.mem_cons.1 hc with rfl | hc
   ·exact hbL e
   ·exact hbl (e ▸ hc)
  have HT := qh (hT1 (fun h => hlt _ h rfl))
  have HN := qh (hN.kept1 hgo2 (fun x hx e => by
   rcases Lt.refsL_mem hx with ⟨h, _⟩ | h
   ·exact hbL (h.symm.trans e)
   ·exact hbl (e ▸ h)))
  have HLT := qh hlt; have hzz : ((T.len : Int) == 0) = false := by simp; omega
  have hd16' : (d : Int) ≤ 16 := by omega
  clear hgo hgo2 hT hN hI hbl hT1 hW hlt; generalize hres : T.strip.count d (left - T.len) = res; have HRES := qh hres; clear hres hb; generalize hn : T.len = n at *; have HLN := qh hn; clear hn; go_enter Try.func69, Try.ntmps69
  go_wp2_with (go_at_call 45; refine (Bn _ _).mono ?_; rintro e w' ⟨rfl, rfl⟩); have HG := HGO; generalize W.setCell ⟨L, 0, none⟩ (int i64 (left - n)) = W1 at *; clear HGO; go_loopw [28] (fun iv wr => ∃ (i : Nat) (R : Lt) (l : Int) (ks : List Int), iv = int i64 i ∧ i + R.len = n ∧ Hid (R.strip.count d l = res) ∧ Hid (R.size ≤ T.size) ∧ Hid (∀ c ∈ b :: R.blocks, c ≠ L) ∧ Hid (R.At wr b (o + i * 6)) ∧ Hid (NsAt wr (R.refsL b (o + i * 6)) ks) ∧ Hid (CntW L C l wr) ∧ 0 ≤ l ∧ l ≤ 4096 ∧ Hid (ButOne L W wr)) (fun iv _ => n + 1 - (intOf iv).toNat)
  case atStart => exact ⟨0, T, left - n, ns, rfl, by rw [HLN.out]; omega, HRES, qh (qn _), HLT, by simpa [Hid] using HT.out, by simpa [Hid] using HN.out, HG, by omega, by omega, HGO2⟩
  case round =>
   obtain ⟨i, R, l, ks, rfl, hin, hcnt, hsz, hlt, hR, hNR, hC, hl0, hl1, hBO⟩ := hrel
   cases R with
   | nil =>
    simp only [Lt.len] at hin; obtain rfl : i = n := by omega
    clear hR hNR; have hc := hcnt.out; simp only [Lt.strip, Its.count] at hc; go_wp2_with fail; go_end0; exact Or.inl ⟨l, hc.symm, hl0, hl1, rfl, hC.out, hBO.out⟩
   | cons k n' un ia ic' its ma mc ms r =>
    simp only [Lt.len] at hin; have hi : (i : Int) < (n : Int) := by omega
    obtain ⟨u, g0, g1, g2, g3, g4, g5, n1, n2, n3, rfl, k1, k2, k3⟩ := Lt.At.cells hR.out hNR.out; obtain ⟨_, ⟨m1, m2, m3⟩, ⟨i1, i2, i3⟩, hr⟩ := hR.out; have cc := cell_of_one hC.out.bc; have hcc := hcnt.out; simp only [Lt.strip] at hcc; rw [It] at hcc; by_cases hm : ms.length ≤ 64
    ·have hm' : (ms.length : Int) ≤ 64 := by omega
     rw [if_pos hm] at hcc; have HR := hR; have HNR := hNR; have hd1 : ((d : Int) + 1) = ((d + 1 : Nat) : Int) := by omega
     obtain ⟨w2, hw2⟩ : ∃ w2, wr.alloc (.cells #[int i64 k, int i64 n', sv un, int i64 u, .slice ia its.len ic', .slice ma ms.length mc] 78) = w2 := ⟨_, rfl⟩; have hb2 : Below wr.heap.size wr w2 := by rw [← hw2]; exact (Below.refl _ _).alloc (qn _) _
     have c4 : w2.cell? ⟨wr.heap.size, 4, none⟩ = some (.slice ia its.len ic') := by rw [← hw2]; exact Aa (heap_alloc_new wr _) 4 rfl
     have c5 : w2.cell? ⟨wr.heap.size, 5, none⟩ = some (.slice ma ms.length mc) := by rw [← hw2]; exact Aa (heap_alloc_new wr _) 5 rfl
     have cw2 := (hC.out.keep hb2); have cc2 := cell_of_one cw2.bc
     have hih := HI.out its (by have := hsz.out; simp only [Lt.size] at this; omega) ia ic' (d + 1) l n2 w2 (by omega) i2 (by
       by_cases hi0 : its.len = 0
       ·exact Or.inl hi0
       ·exact Or.inr ⟨i1.resolve_left hi0, hlt.out _ (by simp [Lt.blocks, hi0])⟩) (fun h => hlt.out _ (by simp [Lt.blocks, h]) rfl) (i3.below hb2) (k2.below hb2) cw2 hl0 hl1
     rw [← hd1] at hih; have HIH := qh hih; clear hd1; have HR2 := qh (hr.below hb2); have HK3 := qh (k3.below hb2); have HB2 := qh hb2; have HCC := qh hcc; clear hR hNR HT HN hih k1 k2 k3 i3 m3 hr hb2 cw2 hcc hcnt
     go_wp2_with (first | (go_at_call 45; refine (Bn _ _).mono ?_; rintro e w' ⟨rfl, rfl⟩) | (go_at_call 69; refine HIH.out.mono ?_; unfold ES Af; rintro e w3 (⟨l2, e2, hl2, hl3, rfl, hC3, hB3⟩ | ⟨e2, rfl, hB3⟩)))
     ·have hc2 := HCC.out
      rw [e2] at hc2; have hbo : ButOne L wr w3 := (ButOne.of_below HB2.out).trans hB3; go_roundw
      case rel => exact ⟨i + 1, r, l2, n3, by go_num, by omega, hc2, qh (by have := hsz.out; simp only [Lt.size] at this; omega), qh (fun c hc => hlt.out c (by
        rcases List.mem_cons.1 hc with rfl | hc
        ·exact List.mem_cons_self
        ·exact List.mem_cons_of_mem _ (by simp [Lt.blocks, hc]))), qh (by rw [Nat.add_mul, Nat.one_mul, ← Nat.add_assoc]; exact HR2.out.kept1 hB3 (fun h => hlt.out L (by
        rcases List.mem_cons.1 h with rfl | h
        ·exact List.mem_cons_self
        ·exact List.mem_cons_of_mem _ (by simp [Lt.blocks, h])) rfl)), qh (by rw [Nat.add_mul, Nat.one_mul, ← Nat.add_assoc]; exact HK3.out.kept1 hB3 (fun x hx e => hlt.out L (by
        rcases Lt.refsL_mem hx with ⟨h, _⟩ | h
        ·rw [← e, h]; exact List.mem_cons_self
        ·rw [← e]; exact List.mem_cons_of_mem _ (by simp [Lt.blocks, h])) rfl)), qh hC3, hl2, hl3, qh (hBO.out.trans hbo)⟩
      case measure => simp [intOf]; omega
     ·have hc2 := HCC.out
      rw [e2] at hc2; exact ⟨rfl, Or.inr ⟨hc2.symm, rfl, hBO.out.trans ((ButOne.of_below HB2.out).trans hB3)⟩⟩
    ·have hm' : ¬ (ms.length : Int) ≤ 64 := by omega
     rw [if_neg hm] at hcc; have HR := hR; have HNR := hNR; clear hR hNR HT HN k1 k2 k3 i3 m3 hr
     go_wp2_with (go_at_call 45; refine (AK _ _).mono ?_; unfold Af; rintro e w' ⟨rfl, rfl⟩); exact ⟨rfl, Or.inr ⟨hcc.symm, rfl, hBO.out.trans (ButOne.of_below ((Below.refl _ _).alloc (qn _) _))⟩⟩
theorem JC (L C : Nat) : ∀ (s : Nat) (T : Lt), T.size ≤ s → ∀ (ia : Option Addr) (ic d : Nat) (left : Int) (ns : List Int) (W : World), d ≤ 17 → T.len ≤ maxLen → (T.len = 0 ∨ (ia = some ⟨blk ia, off ia, none⟩ ∧ blk ia ≠ L)) → L ∉ T.blocks → T.At W (blk ia) (off ia) → NsAt W (T.refsL (blk ia) (off ia)) ns → CntW L C left W → 0 ≤ left → left ≤ 4096 →
   Calls Try.prog 69 #[.slice ia T.len ic, int i64 d, .pointer (some ⟨L, 0, none⟩), .pointer (some ⟨C, 0, none⟩)] W (ES L C (T.strip.countL d left) W) := by
 intro s
 induction s with
 | zero =>
  intro T hs ia ic d left ns W hd hlen hb hbl hT hN hW h0 h1
  cases T with
  | cons => simp [Lt.size] at hs
  | nil => exact FZ L C ia ic d left W hW h0 h1
 | succ s ih =>
  intro T hs ia ic d left ns W hd hlen hb hbl hT hN hW h0 h1; by_cases h : (T.len : Int) ≤ left ∧ (T.len = 0 ∨ d ≤ 16)
  ·have e : T.strip.countL d left = T.strip.count d (left - T.len) := by
    unfold Its.countL; rw [T.strip_len, if_pos h]
   rw [e]; by_cases hz : T.len = 0
   ·obtain rfl := Lt.len_zero hz
    have := FZ L C ia ic d left W hW h0 h1; simpa [Its.countL, Its.len, Lt.strip, Its.count, h0, Lt.len] using this
   ·obtain ⟨e1, e2⟩ := hb.resolve_left hz
    rw [e1]; exact Iu L C T (fun T' hlt => ih T' (by omega)) (blk ia) (off ia) ic d left ns W hd hlen (Or.inr e2) hbl hT hN hW h0 h1 h.1 h.2
  ·have e : T.strip.countL d left = none := by
    unfold Its.countL; rw [T.strip_len, if_neg h]
   rw [e]; exact JD L C T.len d left ia ic W hW (by omega)
end
end Go.Proofs.Ytpnbpepkoekkoaa
