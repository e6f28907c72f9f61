/- Contracts and plain laws on the way to the statement: part 15. -/
import Derived.Test.YtggcbblikgankaaGreatDoorZ14
import Derived.Test.YtggcbblikgankaaGreatDoorZ11
import Derived.Test.YtggcbblikgankaaGreatDoorZ3
set_option linter.unusedVariables false
set_option linter.unusedSimpArgs false
set_option maxRecDepth 100000
set_option maxHeartbeats 16000000
namespace Go.Proofs.YtggcbblikgankaaGreatDoor
open Go.Value (int)
open Go.IntKind (i64)
section
open Go.RowKit
def Cz (k : Nat) (side dir level size wth roles : Int) : Bool :=
 Cn side (Dq k) 1 2 && Cn dir (Fz k) (Cr k) 8 && Cn level (decide (0 < BS k)) 1 (BS k) && Cn size (decide (0 < CU k)) 1 (CU k) && Cn wth (Dn k) 1 roles
def E6 (fn fd tn td : Int) : Bool := AE fn fd && AE tn td && decide (0 ≤ fn) && decide (fn * td < tn * fd) && decide (tn ≤ td)
def CS (role bar mark kind side dir level size wth fn fd tn td roles bars : Int) : Bool :=
 inB kind 1 9 && inB role 0 (roles - 1) && inB bar 0 (bars - 1) && inB mark 1 3 && Cz kind.toNat side dir level size wth roles && E6 fn fd tn td
theorem Cu {role bar mark kind side dir level size wth fn fd tn td roles bars : Int} (h : Cz kind.toNat side dir level size wth roles = false) : false = CS role bar mark kind side dir level size wth fn fd tn td roles bars := by
 unfold CS; rw [h]; simp
theorem Ca {role bar mark kind side dir level size wth fn fd tn td roles bars : Int} (h : E6 fn fd tn td = false) : false = CS role bar mark kind side dir level size wth fn fd tn td roles bars := by
 unfold CS; rw [h]; simp
theorem GP {a b : Int} (h : a < b) : By a b = -1 := by unfold By; rw [if_pos h]
theorem Kn {a b : Int} (h : b < a) : By a b = 1 := by unfold By; rw [if_neg (by omega), if_pos h]
theorem Kd {a b : Int} (h : a = b) : By a b = 0 := by unfold By; rw [if_neg (by omega), if_neg (by omega)]
theorem NA {a b c d : Int} (h : AE a b = false ∨ AE c d = false) : Gq a b c d = .tuple #[int i64 0, int i64 120] := by
 unfold Gq; rcases h with h | h <;> rw [h] <;> simp
theorem JI {a b c d : Int} (h1 : AE a b = true) (h2 : AE c d = true) : Gq a b c d = .tuple #[int i64 (By (a * d) (c * b)), int i64 0] := by
 unfold Gq; rw [h1, h2]; rfl
theorem OG {d : Int} (h : AE 0 d = true) : d = 1 := by
 obtain ⟨h1, _, _, _⟩ := JZ h
 unfold AE at h
 simp only [Bool.and_eq_true, decide_eq_true_eq] at h
 have h2 := h.2
 rw [show (0 : Int).natAbs = 0 from rfl, Nat.gcd_zero_left] at h2
 omega
theorem S5 {fn fd tn td : Int} (h : (fn == tn && fd == td) = true) : E6 fn fd tn td = false := by
 simp at h
 obtain ⟨rfl, rfl⟩ := h
 unfold E6; simp
theorem Rc {fn fd tn td : Int} (h : fn * td < tn * fd) : (tn == fn && td == fd) = false := by
 rw [Bool.eq_false_iff]
 intro e
 simp at e
 obtain ⟨rfl, rfl⟩ := e
 omega
def St (fn fd tn td z : Int) : Prop := z = 0 ∨ (z = 1 ∧ AE fn fd = true ∧ 0 ≤ fn) ∨ (z = 2 ∧ AE fn fd = true ∧ AE tn td = true ∧ 0 ≤ fn ∧ fn * td < tn * fd) ∨
 (z = 3 ∧ AE fn fd = true ∧ AE tn td = true ∧ 0 ≤ fn ∧ fn * td < tn * fd ∧ tn ≤ td)
theorem RB {fn fd tn td : Int} (h : AE fn fd = true ∧ AE tn td = true ∧ 0 ≤ fn ∧ fn * td < tn * fd ∧ tn ≤ td) : E6 fn fd tn td = true := by
 unfold E6; rw [h.1, h.2.1, decide_eq_true h.2.2.1, decide_eq_true h.2.2.2.1, decide_eq_true h.2.2.2.2]; rfl
theorem NY (id role bar mark kind side dir level size wth fn fd tn td roles bars : Int) (hr1 : 0 ≤ roles) (hr2 : roles ≤ 65536) (hb1 : -9223372036854775807 ≤ bars) (hb2 : bars ≤ 65536) (w : World) (hE : Env w) :
  Calls Tryz.prog 82 #[.agg #[int i64 id, int i64 role, int i64 bar, int i64 mark, int i64 kind, int i64 side, int i64 dir, int i64 level, int i64 size, int i64 wth, int i64 fn, int i64 fd, int i64 tn, int i64 td], int i64 roles, int i64 bars] w
   fun e w' => e = .returned (.bool (CS role bar mark kind side dir level size wth fn fd tn td roles bars)) ∧ Below w.heap.size w w' := by
 have hB0 : Below w.heap.size w (w.alloc (.cells #[int i64 id, int i64 role, int i64 bar, int i64 mark, int i64 kind, int i64 side, int i64 dir, int i64 level, int i64 size, int i64 wth, int i64 fn, int i64 fd, int i64 tn, int i64 td] 72)) := (Below.refl _ w).alloc (qn _) _
 have hz : w.heap.size < (w.alloc (.cells #[int i64 id, int i64 role, int i64 bar, int i64 mark, int i64 kind, int i64 side, int i64 dir, int i64 level, int i64 size, int i64 wth, int i64 fn, int i64 fd, int i64 tn, int i64 td] 72)).heap.size := by simp
 have g0 := heap_alloc_new w (.cells #[int i64 id, int i64 role, int i64 bar, int i64 mark, int i64 kind, int i64 side, int i64 dir, int i64 level, int i64 size, int i64 wth, int i64 fn, int i64 fd, int i64 tn, int i64 td] 72)
 have HE := qh (hE.below hB0); clear hE
 go_enter Tryz.func82, Tryz.ntmps82
 go_wp2_with fail
 generalize w.alloc (.cells #[int i64 id, int i64 role, int i64 bar, int i64 mark, int i64 kind, int i64 side, int i64 dir, int i64 level, int i64 size, int i64 wth, int i64 fn, int i64 fd, int i64 tn, int i64 td] 72) = w0 at *
 have HB0 := qh hB0; clear hB0
 have G0 := qh g0
 have c0 : w0.cell? ⟨w.heap.size, 0, none⟩ = some (int i64 id) := A0 g0 0 rfl
 have c1 : w0.cell? ⟨w.heap.size, 1, none⟩ = some (int i64 role) := A0 g0 1 rfl
 have c2 : w0.cell? ⟨w.heap.size, 2, none⟩ = some (int i64 bar) := A0 g0 2 rfl
 have c3 : w0.cell? ⟨w.heap.size, 3, none⟩ = some (int i64 mark) := A0 g0 3 rfl
 have c4 : w0.cell? ⟨w.heap.size, 4, none⟩ = some (int i64 kind) := A0 g0 4 rfl
 have c5 : w0.cell? ⟨w.heap.size, 5, none⟩ = some (int i64 side) := A0 g0 5 rfl
 have c6 : w0.cell? ⟨w.heap.size, 6, none⟩ = some (int i64 dir) := A0 g0 6 rfl
 have c7 : w0.cell? ⟨w.heap.size, 7, none⟩ = some (int i64 level) := A0 g0 7 rfl
 have c8 : w0.cell? ⟨w.heap.size, 8, none⟩ = some (int i64 size) := A0 g0 8 rfl
 have c9 : w0.cell? ⟨w.heap.size, 9, none⟩ = some (int i64 wth) := A0 g0 9 rfl
 have c10 : w0.cell? ⟨w.heap.size, 10, none⟩ = some (int i64 fn) := A0 g0 10 rfl
 have c11 : w0.cell? ⟨w.heap.size, 11, none⟩ = some (int i64 fd) := A0 g0 11 rfl
 have c12 : w0.cell? ⟨w.heap.size, 12, none⟩ = some (int i64 tn) := A0 g0 12 rfl
 have c13 : w0.cell? ⟨w.heap.size, 13, none⟩ = some (int i64 td) := A0 g0 13 rfl
 clear g0
 refine (AI kind 1 9 _).mono ?_
 rintro e w' ⟨rfl, rfl⟩
 cases h1 : inB kind 1 9 with
 | false =>
  go_wp2_with fail
  go_ret
  exact ⟨Aa (by unfold CS; rw [h1]; rfl), HB0.out⟩
 | true =>
  have H1 := qh h1; clear h1
  obtain ⟨k, hk, hk1, hk2⟩ : ∃ k : Nat, kind = (k : Int) ∧ 1 ≤ k ∧ k ≤ 9 := ⟨kind.toNat, by have := A4.1 H1.out; omega, by have := A4.1 H1.out; omega, by have := A4.1 H1.out; omega⟩
  subst hk
  go_wp2_with fail
  refine (AI role 0 _ _).mono ?_
  rintro e w' ⟨rfl, rfl⟩
  cases h2 : inB role 0 (roles - 1) with
  | false =>
   go_wp2_with fail
   go_ret
   exact ⟨Aa (by unfold CS; rw [H1.out, h2]; rfl), HB0.out⟩
  | true =>
   have H2 := qh h2; clear h2
   go_wp2_with fail
   refine (AI bar 0 _ _).mono ?_
   rintro e w' ⟨rfl, rfl⟩
   cases h3 : inB bar 0 (bars - 1) with
   | false =>
    go_wp2_with fail
    go_ret
    exact ⟨Aa (by unfold CS; rw [H1.out, H2.out, h3]; rfl), HB0.out⟩
   | true =>
    have H3 := qh h3; clear h3
    go_wp2_with fail
    refine (AI mark 1 3 _).mono ?_
    rintro e w' ⟨rfl, rfl⟩
    cases h4 : inB mark 1 3 with
    | false =>
     go_wp2_with fail
     go_ret
     exact ⟨Aa (by unfold CS; rw [H1.out, H2.out, H3.out, h4]; rfl), HB0.out⟩
    | true =>
     have H4 := qh h4; clear h4
     have kf := HE.out.kinds k (by omega)
     have t0 : w0.cell? ⟨0, k * 6, none⟩ = some (.bool (Dq k)) := kf 0 _ rfl
     have t1 : w0.cell? ⟨0, k * 6 + 1, none⟩ = some (.bool (Fz k)) := kf 1 _ rfl
     have t2 : w0.cell? ⟨0, k * 6 + 2, none⟩ = some (.bool (Dn k)) := kf 2 _ rfl
     have t3 : w0.cell? ⟨0, k * 6 + 3, none⟩ = some (int i64 (Cr k)) := kf 3 _ rfl
     have t4 : w0.cell? ⟨0, k * 6 + 4, none⟩ = some (int i64 (BS k)) := kf 4 _ rfl
     have t5 : w0.cell? ⟨0, k * 6 + 5, none⟩ = some (int i64 (CU k)) := kf 5 _ rfl
     clear kf
     have b1 : Below w.heap.size w (w0.alloc (.cells #[.bool (Dq k), .bool (Fz k), .bool (Dn k), int i64 (Cr k), int i64 (BS k), int i64 (CU k)] 153)) := HB0.out.alloc HB0.out.size _
     have q0 := (Below.heap_alloc w0 (.cells #[.bool (Dq k), .bool (Fz k), .bool (Dn k), int i64 (Cr k), int i64 (BS k), int i64 (CU k)] 153) w.heap.size (by omega)).trans G0.out
     have q1 := heap_alloc_new w0 (.cells #[.bool (Dq k), .bool (Fz k), .bool (Dn k), int i64 (Cr k), int i64 (BS k), int i64 (CU k)] 153)
     have hz1 : (w0.alloc (.cells #[.bool (Dq k), .bool (Fz k), .bool (Dn k), int i64 (Cr k), int i64 (BS k), int i64 (CU k)] 153)).heap.size = w0.heap.size + 1 := by simp
     go_wp2_with fail
     generalize w0.alloc (.cells #[.bool (Dq k), .bool (Fz k), .bool (Dn k), int i64 (Cr k), int i64 (BS k), int i64 (CU k)] 153) = w1 at *
     have HB1 := qh b1; clear b1 HB0
     have hl1 : w.heap.size < w1.heap.size := by omega
     have hl2 : w0.heap.size < w1.heap.size := by omega
     clear hz1
     have Q0 := qh q0; have Q1 := qh q1
     clear c0 c1 c2 c3 c4 c5 c6 c7 c8 c9 c10 c11 c12 c13 t0 t1 t2 t3 t4 t5 HE
     have c0 : w1.cell? ⟨w.heap.size, 0, none⟩ = some (int i64 id) := A0 q0 0 rfl
     have c1 : w1.cell? ⟨w.heap.size, 1, none⟩ = some (int i64 role) := A0 q0 1 rfl
     have c2 : w1.cell? ⟨w.heap.size, 2, none⟩ = some (int i64 bar) := A0 q0 2 rfl
     have c3 : w1.cell? ⟨w.heap.size, 3, none⟩ = some (int i64 mark) := A0 q0 3 rfl
     have c4 : w1.cell? ⟨w.heap.size, 4, none⟩ = some (int i64 (k : Int)) := A0 q0 4 rfl
     have c5 : w1.cell? ⟨w.heap.size, 5, none⟩ = some (int i64 side) := A0 q0 5 rfl
     have c6 : w1.cell? ⟨w.heap.size, 6, none⟩ = some (int i64 dir) := A0 q0 6 rfl
     have c7 : w1.cell? ⟨w.heap.size, 7, none⟩ = some (int i64 level) := A0 q0 7 rfl
     have c8 : w1.cell? ⟨w.heap.size, 8, none⟩ = some (int i64 size) := A0 q0 8 rfl
     have c9 : w1.cell? ⟨w.heap.size, 9, none⟩ = some (int i64 wth) := A0 q0 9 rfl
     have c10 : w1.cell? ⟨w.heap.size, 10, none⟩ = some (int i64 fn) := A0 q0 10 rfl
     have c11 : w1.cell? ⟨w.heap.size, 11, none⟩ = some (int i64 fd) := A0 q0 11 rfl
     have c12 : w1.cell? ⟨w.heap.size, 12, none⟩ = some (int i64 tn) := A0 q0 12 rfl
     have c13 : w1.cell? ⟨w.heap.size, 13, none⟩ = some (int i64 td) := A0 q0 13 rfl
     have t0 : w1.cell? ⟨w0.heap.size, 0, none⟩ = some (.bool (Dq k)) := A0 q1 0 rfl
     have t1 : w1.cell? ⟨w0.heap.size, 1, none⟩ = some (.bool (Fz k)) := A0 q1 1 rfl
     have t2 : w1.cell? ⟨w0.heap.size, 2, none⟩ = some (.bool (Dn k)) := A0 q1 2 rfl
     have t3 : w1.cell? ⟨w0.heap.size, 3, none⟩ = some (int i64 (Cr k)) := A0 q1 3 rfl
     have t4 : w1.cell? ⟨w0.heap.size, 4, none⟩ = some (int i64 (BS k)) := A0 q1 4 rfl
     have t5 : w1.cell? ⟨w0.heap.size, 5, none⟩ = some (int i64 (CU k)) := A0 q1 5 rfl
     clear q0 q1
     refine (DJ side (Dq k) 1 2 _).mono ?_
     rintro e w' ⟨rfl, rfl⟩
     cases f0 : Cn side (Dq k) 1 2 with
     | false =>
      go_wp2_with fail
      go_ret
      exact ⟨Aa (by exact Cu (by unfold Cz; rw [Int.toNat_natCast, f0]; simp)), HB1.out⟩
     | true =>
      have F0 := qh f0; clear f0
      go_wp2_with fail
      refine (DJ dir (Fz k) (Cr k) 8 _).mono ?_
      rintro e w' ⟨rfl, rfl⟩
      cases f1 : Cn dir (Fz k) (Cr k) 8 with
      | false =>
       go_wp2_with fail
       go_ret
       exact ⟨Aa (by exact Cu (by unfold Cz; rw [Int.toNat_natCast, F0.out, f1]; simp)), HB1.out⟩
      | true =>
       have F1 := qh f1; clear f1
       go_wp2_with fail
       refine (DJ level _ 1 (BS k) _).mono ?_
       rintro e w' ⟨rfl, rfl⟩
       cases f2 : Cn level (decide (0 < BS k)) 1 (BS k) with
       | false =>
        go_wp2_with fail
        go_ret
        exact ⟨Aa (by exact Cu (by unfold Cz; rw [Int.toNat_natCast, F0.out, F1.out, f2]; simp)), HB1.out⟩
       | true =>
        have F2 := qh f2; clear f2
        go_wp2_with fail
        refine (DJ size _ 1 (CU k) _).mono ?_
        rintro e w' ⟨rfl, rfl⟩
        cases f3 : Cn size (decide (0 < CU k)) 1 (CU k) with
        | false =>
         go_wp2_with fail
         go_ret
         exact ⟨Aa (by exact Cu (by unfold Cz; rw [Int.toNat_natCast, F0.out, F1.out, F2.out, f3]; simp)), HB1.out⟩
        | true =>
         have F3 := qh f3; clear f3
         go_wp2_with fail
         refine (DJ wth (Dn k) 1 roles _).mono ?_
         rintro e w' ⟨rfl, rfl⟩
         cases f4 : Cn wth (Dn k) 1 roles with
         | false =>
          go_wp2_with fail
          go_ret
          exact ⟨Aa (by exact Cu (by unfold Cz; rw [Int.toNat_natCast, F0.out, F1.out, F2.out, F3.out, f4]; simp)), HB1.out⟩
         | true =>
          have F4 := qh f4; clear f4
          go_wp2_with fail
          have r0 : (((w1.alloc (.cells #[int i64 0, int i64 1] 70)).alloc (.cells #[int i64 1, int i64 1] 70)).alloc (.cells #[int i64 0, int i64 1, int i64 fn, int i64 fd, int i64 fn, int i64 fd, int i64 tn, int i64 td, int i64 tn, int i64 td, int i64 1, int i64 1] 156)).heap[w.heap.size]? = some (.cells #[int i64 id, int i64 role, int i64 bar, int i64 mark, int i64 (k : Int), int i64 side, int i64 dir, int i64 level, int i64 size, int i64 wth, int i64 fn, int i64 fd, int i64 tn, int i64 td] 72 (0, 0)) := by
           rw [Below.heap_alloc _ _ _ (by simp; omega), Below.heap_alloc _ _ _ (by simp; omega), Below.heap_alloc _ _ _ (by omega)]; exact Q0.out
          have r1 : (((w1.alloc (.cells #[int i64 0, int i64 1] 70)).alloc (.cells #[int i64 1, int i64 1] 70)).alloc (.cells #[int i64 0, int i64 1, int i64 fn, int i64 fd, int i64 fn, int i64 fd, int i64 tn, int i64 td, int i64 tn, int i64 td, int i64 1, int i64 1] 156)).heap[w1.heap.size + 2]? = some (.cells #[int i64 0, int i64 1, int i64 fn, int i64 fd, int i64 fn, int i64 fd, int i64 tn, int i64 td, int i64 tn, int i64 td, int i64 1, int i64 1] 156 (0, 0)) := by
           have := heap_alloc_new ((w1.alloc (.cells #[int i64 0, int i64 1] 70)).alloc (.cells #[int i64 1, int i64 1] 70)) (.cells #[int i64 0, int i64 1, int i64 fn, int i64 fd, int i64 fn, int i64 fd, int i64 tn, int i64 td, int i64 tn, int i64 td, int i64 1, int i64 1] 156); simpa using this
          have hb3 : Below w.heap.size w (((w1.alloc (.cells #[int i64 0, int i64 1] 70)).alloc (.cells #[int i64 1, int i64 1] 70)).alloc (.cells #[int i64 0, int i64 1, int i64 fn, int i64 fd, int i64 fn, int i64 fd, int i64 tn, int i64 td, int i64 tn, int i64 td, int i64 1, int i64 1] 156)) := ((HB1.out.alloc (by omega) _).alloc (by simp; omega) _).alloc (by simp; omega) _
          have hz3 : (((w1.alloc (.cells #[int i64 0, int i64 1] 70)).alloc (.cells #[int i64 1, int i64 1] 70)).alloc (.cells #[int i64 0, int i64 1, int i64 fn, int i64 fd, int i64 fn, int i64 fd, int i64 tn, int i64 td, int i64 tn, int i64 td, int i64 1, int i64 1] 156)).heap.size = w1.heap.size + 3 := by simp
          generalize (((w1.alloc (.cells #[int i64 0, int i64 1] 70)).alloc (.cells #[int i64 1, int i64 1] 70)).alloc (.cells #[int i64 0, int i64 1, int i64 fn, int i64 fd, int i64 fn, int i64 fd, int i64 tn, int i64 td, int i64 tn, int i64 td, int i64 1, int i64 1] 156)) = w3 at *
          have hl4 : w.heap.size < w3.heap.size := by omega
          have hl5 : w1.heap.size + 2 < w3.heap.size := by omega
          clear c0 c1 c2 c3 c4 c5 c6 c7 c8 c9 c10 c11 c12 c13 t0 t1 t2 t3 t4 t5 hz3
          generalize w1.heap.size = gs at *
          have HR0 := qh r0; have HR1 := qh r1; have HB3 := qh hb3
          clear r0 r1 hb3 HB1 Q0 Q1
          have HF : Hid (Cz ((k : Int).toNat) side dir level size wth roles = true) := qh (by unfold Cz; rw [Int.toNat_natCast, F0.out, F1.out, F2.out, F3.out, F4.out]; rfl)
          clear F0 F1 F2 F3 F4
          go_loopw [108] (fun i wr => ∃ z : Int, i = int i64 z ∧ St fn fd tn td z ∧ Hid (wr.heap[w.heap.size]? = some (.cells #[int i64 id, int i64 role, int i64 bar, int i64 mark, int i64 (k : Int), int i64 side, int i64 dir, int i64 level, int i64 size, int i64 wth, int i64 fn, int i64 fd, int i64 tn, int i64 td] 72 (0, 0))) ∧ Hid (wr.heap[gs + 2]? = some (.cells #[int i64 0, int i64 1, int i64 fn, int i64 fd, int i64 fn, int i64 fd, int i64 tn, int i64 td, int i64 tn, int i64 td, int i64 1, int i64 1] 156 (0, 0))) ∧ w.heap.size < wr.heap.size ∧ gs + 2 < wr.heap.size ∧ Hid (Below w.heap.size w wr)) (fun i _ => (3 - intOf i).toNat)
          case atStart => exact ⟨0, rfl, Or.inl rfl, HR0, HR1, hl4, hl5, HB3⟩
          case round =>
           obtain ⟨z, rfl, hsp, hr0, hr1', hs0, hs1, hbw⟩ := hrel
           clear HR0 HR1 HB3
           rcases hsp with rfl | ⟨rfl, hs⟩ | ⟨rfl, hs⟩ | ⟨rfl, hs⟩
           ·have e0 : wr.cell? ⟨gs + 2, 0, none⟩ = some (int i64 0) := A0 hr1'.out 0 rfl
            have e1 : wr.cell? ⟨gs + 2, 1, none⟩ = some (int i64 1) := A0 hr1'.out 1 rfl
            have e2 : wr.cell? ⟨gs + 2, 2, none⟩ = some (int i64 fn) := A0 hr1'.out 2 rfl
            have e3 : wr.cell? ⟨gs + 2, 3, none⟩ = some (int i64 fd) := A0 hr1'.out 3 rfl
            have x0 := (Below.heap_alloc wr (.cells #[int i64 0, int i64 1, int i64 fn, int i64 fd] 156) w.heap.size hs0).trans hr0.out
            have x1 := (Below.heap_alloc wr (.cells #[int i64 0, int i64 1, int i64 fn, int i64 fd] 156) (gs + 2) hs1).trans hr1'.out
            have x2 := heap_alloc_new wr (.cells #[int i64 0, int i64 1, int i64 fn, int i64 fd] 156)
            have x3 : Below w.heap.size w (wr.alloc (.cells #[int i64 0, int i64 1, int i64 fn, int i64 fd] 156)) := hbw.out.alloc (by omega) _
            have x4 : (wr.alloc (.cells #[int i64 0, int i64 1, int i64 fn, int i64 fd] 156)).heap.size = wr.heap.size + 1 := by simp
            have X0 := qh x0; have X1 := qh x1; have X2 := qh x2; have X3 := qh x3; have X4 := qh x4; clear x0 x1 x2 x3 x4
            go_wp2_with fail
            refine (Hs 0 1 fn fd _).mono ?_
            rintro e w5 ⟨rfl, b5⟩
            have hl6 := b5.size
            rw [X4.out] at hl6
            have y0 := (b5.block _ (by rw [X4.out]; omega)).trans X0.out
            have y1 := (b5.block _ (by rw [X4.out]; omega)).trans X1.out
            have y2 := (b5.block _ (by rw [X4.out]; omega)).trans X2.out
            have HB5 := qh (X3.out.trans (b5.mono (by rw [X4.out]; omega)))
            have Y0 := qh y0; have Y1 := qh y1
            clear b5 X0 X1 X2 X3 X4 hr0 hr1' hbw
            generalize wr.heap.size = gw at *
            have l0 : w5.cell? ⟨gw, 0, none⟩ = some (int i64 0) := A0 y2 0 rfl
            have l1 : w5.cell? ⟨gw, 1, none⟩ = some (int i64 1) := A0 y2 1 rfl
            have l2 : w5.cell? ⟨gw, 2, none⟩ = some (int i64 fn) := A0 y2 2 rfl
            have l3 : w5.cell? ⟨gw, 3, none⟩ = some (int i64 fd) := A0 y2 3 rfl
            have b10 : w5.cell? ⟨w.heap.size, 10, none⟩ = some (int i64 fn) := A0 y0 10 rfl
            have b11 : w5.cell? ⟨w.heap.size, 11, none⟩ = some (int i64 fd) := A0 y0 11 rfl
            have b12 : w5.cell? ⟨w.heap.size, 12, none⟩ = some (int i64 tn) := A0 y0 12 rfl
            have b13 : w5.cell? ⟨w.heap.size, 13, none⟩ = some (int i64 td) := A0 y0 13 rfl
            clear y0 y1 y2 e0 e1 e2 e3
            have hl7 : w.heap.size < w5.heap.size := by omega
            have hl8 : gs + 2 < w5.heap.size := by omega
            clear hl6
            cases hA : AE fn fd with
            | false =>
             rw [NA (Or.inr hA)]
             go_wp2_with fail
             go_ret
             exact ⟨Aa (Ca (by unfold E6; rw [hA]; simp)), HB5.out⟩
            | true =>
             have HA := qh hA; clear hA
             rw [JI (by decide) HA.out]
             rcases Int.lt_trichotomy fn 0 with h | h | h
             ·have hc : By (0 * fd) (fn * 1) = 1 := Kn (by omega)
              rw [hc]
              have HH := qh h; clear h hc
              go_wp2_with fail
              go_ret
              exact ⟨Aa (Ca (by unfold E6; rw [decide_eq_false (show ¬ 0 ≤ fn by have := HH.out; omega)]; simp)), HB5.out⟩
             ·have hd1 := OG (by rw [← h]; exact HA.out)
              have hc : By (0 * fd) (fn * 1) = 0 := Kd (by omega)
              rw [hc]
              have f1 : ((0 : Int) == fn) = true := by simpa using h.symm
              have f2 : ((1 : Int) == fd) = true := by simpa using hd1.symm
              have HH := qh h; have HD1 := qh hd1; clear h hc hd1
              have hq := Ed 0 1 fn fd
              have hq2 := Ed fn fd tn td
              by_cases hw : (fn == tn && fd == td) = true
              ·have HW := qh hw
               go_wp2_with fail
               go_ret
               exact ⟨Aa (Ca (S5 HW.out)), HB5.out⟩
              ·have hw' : (fn == tn && fd == td) = false := by simpa using hw
               clear hw
               go_wp2_with fail
               go_roundw
               case rel => exact ⟨1, rfl, Or.inr (Or.inl ⟨rfl, HA.out, by have := HH.out; omega⟩), Y0, Y1, hl7, hl8, HB5⟩
               case measure => simp [intOf]
             ·have hc : By (0 * fd) (fn * 1) = -1 := GP (by omega)
              rw [hc]
              have HH := qh h; clear h hc
              go_wp2_with fail
              go_roundw
              case rel => exact ⟨1, rfl, Or.inr (Or.inl ⟨rfl, HA.out, by have := HH.out; omega⟩), Y0, Y1, hl7, hl8, HB5⟩
              case measure => simp [intOf]
           ·have HS := qh hs; clear hs
            have e0 : wr.cell? ⟨gs + 2, 4, none⟩ = some (int i64 fn) := A0 hr1'.out 4 rfl
            have e1 : wr.cell? ⟨gs + 2, 5, none⟩ = some (int i64 fd) := A0 hr1'.out 5 rfl
            have e2 : wr.cell? ⟨gs + 2, 6, none⟩ = some (int i64 tn) := A0 hr1'.out 6 rfl
            have e3 : wr.cell? ⟨gs + 2, 7, none⟩ = some (int i64 td) := A0 hr1'.out 7 rfl
            have x0 := (Below.heap_alloc wr (.cells #[int i64 fn, int i64 fd, int i64 tn, int i64 td] 156) w.heap.size hs0).trans hr0.out
            have x1 := (Below.heap_alloc wr (.cells #[int i64 fn, int i64 fd, int i64 tn, int i64 td] 156) (gs + 2) hs1).trans hr1'.out
            have x2 := heap_alloc_new wr (.cells #[int i64 fn, int i64 fd, int i64 tn, int i64 td] 156)
            have x3 : Below w.heap.size w (wr.alloc (.cells #[int i64 fn, int i64 fd, int i64 tn, int i64 td] 156)) := hbw.out.alloc (by omega) _
            have x4 : (wr.alloc (.cells #[int i64 fn, int i64 fd, int i64 tn, int i64 td] 156)).heap.size = wr.heap.size + 1 := by simp
            have X0 := qh x0; have X1 := qh x1; have X2 := qh x2; have X3 := qh x3; have X4 := qh x4; clear x0 x1 x2 x3 x4
            go_wp2_with fail
            refine (Hs fn fd tn td _).mono ?_
            rintro e w5 ⟨rfl, b5⟩
            have hl6 := b5.size
            rw [X4.out] at hl6
            have y0 := (b5.block _ (by rw [X4.out]; omega)).trans X0.out
            have y1 := (b5.block _ (by rw [X4.out]; omega)).trans X1.out
            have y2 := (b5.block _ (by rw [X4.out]; omega)).trans X2.out
            have HB5 := qh (X3.out.trans (b5.mono (by rw [X4.out]; omega)))
            have Y0 := qh y0; have Y1 := qh y1
            clear b5 X0 X1 X2 X3 X4 hr0 hr1' hbw
            generalize wr.heap.size = gw at *
            have l0 : w5.cell? ⟨gw, 0, none⟩ = some (int i64 fn) := A0 y2 0 rfl
            have l1 : w5.cell? ⟨gw, 1, none⟩ = some (int i64 fd) := A0 y2 1 rfl
            have l2 : w5.cell? ⟨gw, 2, none⟩ = some (int i64 tn) := A0 y2 2 rfl
            have l3 : w5.cell? ⟨gw, 3, none⟩ = some (int i64 td) := A0 y2 3 rfl
            have b10 : w5.cell? ⟨w.heap.size, 10, none⟩ = some (int i64 fn) := A0 y0 10 rfl
            have b11 : w5.cell? ⟨w.heap.size, 11, none⟩ = some (int i64 fd) := A0 y0 11 rfl
            have b12 : w5.cell? ⟨w.heap.size, 12, none⟩ = some (int i64 tn) := A0 y0 12 rfl
            have b13 : w5.cell? ⟨w.heap.size, 13, none⟩ = some (int i64 td) := A0 y0 13 rfl
            clear y0 y1 y2 e0 e1 e2 e3
            have hl7 : w.heap.size < w5.heap.size := by omega
            have hl8 : gs + 2 < w5.heap.size := by omega
            clear hl6
            cases hA : AE tn td with
            | false =>
             rw [NA (Or.inr hA)]
             go_wp2_with fail
             go_ret
             exact ⟨Aa (Ca (by unfold E6; rw [hA]; simp)), HB5.out⟩
            | true =>
             have HA := qh hA; clear hA
             rw [JI HS.out.1 HA.out]
             rcases Int.lt_trichotomy (fn * td) (tn * fd) with h | h | h
             ·have hc : By (fn * td) (tn * fd) = -1 := GP h
              rw [hc]
              have HH := qh h; clear h hc
              go_wp2_with fail
              go_roundw
              case rel => exact ⟨2, rfl, Or.inr (Or.inr (Or.inl ⟨rfl, HS.out.1, HA.out, HS.out.2, HH.out⟩)), Y0, Y1, hl7, hl8, HB5⟩
              case measure => simp [intOf]
             ·have hc : By (fn * td) (tn * fd) = 0 := Kd h
              rw [hc]
              have HH := qh h; clear h hc
              have hq := Ed fn fd fn fd
              have hq2 := Ed tn td tn td
              go_wp2_with fail
              go_ret
              exact ⟨Aa (Ca (by unfold E6; rw [decide_eq_false (show ¬ fn * td < tn * fd by rw [HH.out]; exact Int.lt_irrefl _)]; simp)), HB5.out⟩
             ·have hc : By (fn * td) (tn * fd) = 1 := Kn h
              rw [hc]
              have HH := qh h; clear h hc
              go_wp2_with fail
              go_ret
              exact ⟨Aa (Ca (by unfold E6; rw [decide_eq_false (show ¬ fn * td < tn * fd from Int.not_lt.2 (Int.le_of_lt HH.out))]; simp)), HB5.out⟩
           ·have HS := qh hs; clear hs
            have e0 : wr.cell? ⟨gs + 2, 8, none⟩ = some (int i64 tn) := A0 hr1'.out 8 rfl
            have e1 : wr.cell? ⟨gs + 2, 9, none⟩ = some (int i64 td) := A0 hr1'.out 9 rfl
            have e2 : wr.cell? ⟨gs + 2, 10, none⟩ = some (int i64 1) := A0 hr1'.out 10 rfl
            have e3 : wr.cell? ⟨gs + 2, 11, none⟩ = some (int i64 1) := A0 hr1'.out 11 rfl
            have x0 := (Below.heap_alloc wr (.cells #[int i64 tn, int i64 td, int i64 1, int i64 1] 156) w.heap.size hs0).trans hr0.out
            have x1 := (Below.heap_alloc wr (.cells #[int i64 tn, int i64 td, int i64 1, int i64 1] 156) (gs + 2) hs1).trans hr1'.out
            have x2 := heap_alloc_new wr (.cells #[int i64 tn, int i64 td, int i64 1, int i64 1] 156)
            have x3 : Below w.heap.size w (wr.alloc (.cells #[int i64 tn, int i64 td, int i64 1, int i64 1] 156)) := hbw.out.alloc (by omega) _
            have x4 : (wr.alloc (.cells #[int i64 tn, int i64 td, int i64 1, int i64 1] 156)).heap.size = wr.heap.size + 1 := by simp
            have X0 := qh x0; have X1 := qh x1; have X2 := qh x2; have X3 := qh x3; have X4 := qh x4; clear x0 x1 x2 x3 x4
            go_wp2_with fail
            refine (Hs tn td 1 1 _).mono ?_
            rintro e w5 ⟨rfl, b5⟩
            have hl6 := b5.size
            rw [X4.out] at hl6
            have y0 := (b5.block _ (by rw [X4.out]; omega)).trans X0.out
            have y1 := (b5.block _ (by rw [X4.out]; omega)).trans X1.out
            have y2 := (b5.block _ (by rw [X4.out]; omega)).trans X2.out
            have HB5 := qh (X3.out.trans (b5.mono (by rw [X4.out]; omega)))
            have Y0 := qh y0; have Y1 := qh y1
            clear b5 X0 X1 X2 X3 X4 hr0 hr1' hbw
            generalize wr.heap.size = gw at *
            have l0 : w5.cell? ⟨gw, 0, none⟩ = some (int i64 tn) := A0 y2 0 rfl
            have l1 : w5.cell? ⟨gw, 1, none⟩ = some (int i64 td) := A0 y2 1 rfl
            have l2 : w5.cell? ⟨gw, 2, none⟩ = some (int i64 1) := A0 y2 2 rfl
            have l3 : w5.cell? ⟨gw, 3, none⟩ = some (int i64 1) := A0 y2 3 rfl
            have b10 : w5.cell? ⟨w.heap.size, 10, none⟩ = some (int i64 fn) := A0 y0 10 rfl
            have b11 : w5.cell? ⟨w.heap.size, 11, none⟩ = some (int i64 fd) := A0 y0 11 rfl
            have b12 : w5.cell? ⟨w.heap.size, 12, none⟩ = some (int i64 tn) := A0 y0 12 rfl
            have b13 : w5.cell? ⟨w.heap.size, 13, none⟩ = some (int i64 td) := A0 y0 13 rfl
            clear y0 y1 y2 e0 e1 e2 e3
            have hl7 : w.heap.size < w5.heap.size := by omega
            have hl8 : gs + 2 < w5.heap.size := by omega
            clear hl6
            rw [JI HS.out.2.1 (by decide)]
            rcases Int.lt_trichotomy tn td with h | h | h
            ·have hc : By (tn * 1) (1 * td) = -1 := GP (by omega)
             rw [hc]
             have HH := qh h; clear h hc
             go_wp2_with fail
             go_roundw
             case rel => exact ⟨3, rfl, Or.inr (Or.inr (Or.inr ⟨rfl, HS.out.1, HS.out.2.1, HS.out.2.2.1, HS.out.2.2.2, by have := HH.out; omega⟩)), Y0, Y1, hl7, hl8, HB5⟩
             case measure => simp [intOf]
            ·have hc : By (tn * 1) (1 * td) = 0 := Kd (by omega)
             rw [hc]
             have HH := qh h; clear h hc
             have hq := Ed tn td fn fd
             have hne : (tn == fn && td == fd) = false := Rc HS.out.2.2.2
             have HNE := qh hne
             go_wp2_with fail
             go_roundw
             case rel => exact ⟨3, rfl, Or.inr (Or.inr (Or.inr ⟨rfl, HS.out.1, HS.out.2.1, HS.out.2.2.1, HS.out.2.2.2, by have := HH.out; omega⟩)), Y0, Y1, hl7, hl8, HB5⟩
             case measure => simp [intOf]
            ·have hc : By (tn * 1) (1 * td) = 1 := Kn (by omega)
             rw [hc]
             have HH := qh h; clear h hc
             go_wp2_with fail
             go_ret
             exact ⟨Aa (Ca (by unfold E6; rw [decide_eq_false (show ¬ tn ≤ td by have := HH.out; omega)]; simp)), HB5.out⟩
           ·have HS := qh hs; clear hs
            go_wp2_with fail
            go_ret
            exact ⟨Aa (by unfold CS; rw [H1.out, H2.out, H3.out, H4.out, HF.out, RB HS.out]; rfl), hbw.out⟩
end
end Go.Proofs.YtggcbblikgankaaGreatDoor
