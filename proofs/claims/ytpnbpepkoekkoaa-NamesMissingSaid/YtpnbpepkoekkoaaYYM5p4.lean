/- The walk of the statement: part 4. -/
import Derived.Test.YtpnbpepkoekkoaaYYM5p3
import Derived.BigQuiet
import Derived.BigCall
import Derived.BigGuard
set_option linter.unusedVariables false
set_option linter.unusedSimpArgs false
section
namespace Go.Proofs.Ytpnbpepkoekkoaa
open Go Go.RowKit Go.Deep
def Ls.namesOf (x : Ls) (phrase : Bool) : List Nm := if phrase then x.phrases.map (fun p => p.name) else x.roles.map fun p => p.name
set_option maxRecDepth 100000 in
set_option maxHeartbeats 16000000 in
theorem right_any (x : Ls) (ks : List Int) (w : World) (hA : x.At w) (hN : NsAt w x.refs ks) (hlen : (ptrs x.refs).length ≤ 1000000) (hl1 : x.roles.length ≤ 1000000000) (hl2 : x.phrases.length ≤ 1000000000)
  (hR : ∀ (pre : List RefL) (r : RefL) (rest : List RefL) (kp : List Int) (k : Int) (kr : List Int), x.refs = pre ++ r :: rest → ks = kp ++ k :: kr → kp.length = pre.length → r.to ≠ 0 → ∃ j : Nat, k = (j : Int) ∧ (x.namesOf (decide (r.to = 2)))[j]? = some r.nm) :
  Calls Try.prog 19 #[x.val] w fun e w' => e = .returned (.bool true) ∧ Below w.heap.size w w' := by
 obtain ⟨A, hAe⟩ : ∃ A, w.heap.size = A := ⟨_, rfl⟩
 obtain ⟨W1, hW1, hX, hB⟩ : ∃ W1, w.alloc (.cells x.cells 30) = W1 ∧ W1.heap[A]? = some (.cells x.cells 30 (0, 0)) ∧ Below w.heap.size w W1 := ⟨_, rfl, by rw [← hAe]; exact heap_alloc_new w _, (Below.refl _ w).alloc (Nat.le_refl _) _⟩
 have C := pointers_any x A W1 hX (hA.below hB) hlen
 unfold PtrP at C
 have hC2 : Calls Try.prog 21 #[.pointer (some ⟨A, 0, none⟩)] W1 fun e w' => ∃ v, e = .returned v ∧ w'.ownsRow W1.heap.size 48 2 v (ptrs x.refs).length ((ptrs x.refs).flatMap encQ) ∧ Below W1.heap.size W1 w' := C
 have hAl : A < W1.heap.size := (Array.getElem?_eq_some_iff.1 hX).1
 obtain ⟨cs, hcs⟩ : ∃ cs, x.cells = cs := ⟨_, rfl⟩
 have hsv : x.val = .agg cs := by rw [← hcs]; rfl
 have hW1' : w.alloc (.cells cs 30) = W1 := by rw [← hcs]; exact hW1
 rw [hsv]
 have HC := Lib.hid hC2; have HX := Lib.hid hX; have HB := Lib.hid hB; have HW1 := Lib.hid hW1'; have HA := Lib.hid (hA.below hB); have HN := Lib.hid (hN.below hB); have HR := Lib.hid hR; have HAE := Lib.hid hAe
 clear C hC2 hX hB hW1 hW1' hA hN hR hsv hcs
 generalize hm : (ptrs x.refs).length = m at *
 have HM := Lib.hid hm
 clear hm
 go_enter Try.func19, Try.ntmps19
 refine wp_seq_thenQ (fun K hK => ?_)
 have HK := Lib.hid hK
 clear hK
 go_wp2_with fail
 refine HK.out _ _ ?_
 rw [HW1.out, HAE.out]
 clear HK K HW1
 go_wp2_with (go_at_call 21; refine HC.out.mono ?_; rintro e w5 ⟨v5, rfl, ho5, hb5⟩; obtain ⟨ao5, c5, rfl, hform, _, _, _, _⟩ := own_new (by omega) ho5; have HO := Lib.hid ho5; have H5 := Lib.hid hb5; have HF := Lib.hid hform; clear ho5 hb5 hform)
 go_loopw [8] (fun iv wr => ∃ i : Nat, iv = .int .i64 i ∧ i ≤ m ∧ Hid (Below w5.heap.size w5 wr)) (fun iv _ => m + 1 - (intOf iv).toNat)
 case atStart => exact ⟨0, rfl, Nat.zero_le _, Lib.hid (Below.refl _ _)⟩
 case round =>
  obtain ⟨i, rfl, hin, hW⟩ := hrel
  by_cases hlt : i < m
  ·have hji : (i : Int) < (m : Int) := by omega
   obtain ⟨r, hr⟩ : ∃ r, (ptrs x.refs)[i]? = some r := ⟨_, List.getElem?_eq_getElem (by rw [HM.out]; exact hlt)⟩
   obtain ⟨ea, _, _⟩ := HF.out.resolve_left (by omega)
   have hrow := HO.out
   rw [ea] at hrow
   have hrv := own_rowV hrow
   have q0 := keep_cell hW.out (hrv.get encQ_len (r := 0) hr rfl)
   have q1 := keep_cell hW.out (hrv.get encQ_len (r := 1) hr rfl)
   simp only [Nat.add_zero] at q0
   obtain ⟨hm, hto⟩ := List.mem_filter.1 (show r ∈ x.refs.filter _ from List.mem_of_getElem? hr)
   have hto : r.to ≠ 0 := by simpa using hto
   obtain ⟨pre, rest, hsp⟩ := List.append_of_mem hm
   have hN1 := HN.out
   rw [hsp] at hN1
   obtain ⟨kp, kr, hke, hn1, hn2⟩ := hN1.split
   cases kr with
   | nil => exact hn2.elim
   | cons k kr =>
   obtain ⟨j, rfl, hj⟩ := HR.out pre r rest kp k kr hsp hke hn1.len hto
   have b1w : Below W1.heap.size W1 wr := thenB H5.out hW.out
   have cN := keep_cell b1w hn2.1
   have cM := keep_cell b1w (score_nm HA.out.phrases HA.out.dances r hm)
   have hXw := keepO b1w HX.out
   obtain ⟨ph, hph⟩ : ∃ ph, decide (r.to = 2) = ph := ⟨_, rfl⟩
   rw [hph] at q1 hj
   have q1 : wr.cell? ⟨blk ao5, i * 2 + 1, none⟩ = some (.bool ph) := by
    have e : encQ r = [.pointer (some ⟨r.b, r.o, none⟩), .bool (decide (r.to = 2))] := rfl
    have := keep_cell hW.out (hrv.get encQ_len (r := 1) (u := .bool (decide (r.to = 2))) hr rfl)
    rw [hph] at this; exact this
   obtain ⟨W2, hW2, gW2, bW2, sW2⟩ := mk_cells wr #[.pointer (some ⟨r.b, r.o, none⟩), .bool ph] 48
   have b0 : (wr.alloc (.cells #[.pointer (some ⟨r.b, r.o, none⟩), .bool ph] 48)).cell? ⟨wr.heap.size, 1, none⟩ = some (.bool ph) := by rw [hW2]; exact cell_at gW2 1 rfl
   have hX2 : (wr.alloc (.cells #[.pointer (some ⟨r.b, r.o, none⟩), .bool ph] 48)).heap[A]? = some (.cells x.cells 30 (0, 0)) := by rw [hW2]; exact keepO bW2 hXw
   have CL := list_any x ph (wr.alloc (.cells #[.pointer (some ⟨r.b, r.o, none⟩), .bool ph] 48)) (by rw [hW2]; exact HA.out.below (thenB b1w bW2)) (by omega) (by omega)
   unfold Ls.val at CL
   have hnl : (if ph then x.phrases.map (fun p => p.name) else x.roles.map fun p => p.name) = x.namesOf ph := rfl
   rw [hnl] at CL
   have hjl : j < (x.namesOf ph).length := (List.getElem?_eq_some_iff.1 hj).1
   have HCL := Lib.hid CL; have HL := Lib.hid hX2; have HEA := Lib.hid ea; have HW2 := Lib.hid hW2; have HBW2 := Lib.hid bW2; have HG2 := Lib.hid gW2
   have HCN := Lib.hid cN; have HCM := Lib.hid cM; have HJ := Lib.hid hj
   have hml : (x.namesOf ph).length ≤ 1000000000 := by unfold Ls.namesOf; split <;> simpa
   clear ea CL hr hrow hrv hm hsp hke hn1 hn2 hN1 hto cN cM hXw hX2 hW2 gW2 bW2 sW2 hj hnl b1w hph
   generalize hnn : (x.namesOf ph).length = nl at *
   unfold NamesP at HCL
   rw [HEA.out]
   go_wp2_with (first
    | (go_at_call 22; refine HCL.out.mono ?_; rintro e w6 ⟨v6, rfl, ho6, hb6⟩)
    | (refine wpList_load_row rfl 30 _ rfl A rfl 30 x.cells (0, 0) _ HL.out Try.underlying30 rfl (by kernel_rfl) ?_; simp only [Act.put, List.setIfInBounds_toArray, List.set_cons_zero, List.set_cons_succ]))
   obtain ⟨ao6, c6, rfl, hform6, _, _, _, hcl6⟩ := own_new (by omega) ho6
   obtain ⟨ea6, _, _⟩ := hform6.resolve_left (by omega)
   have d6 := hcl6 j (sv r.nm) (by rw [List.getElem?_map, HJ.out]; rfl)
   rw [Nat.zero_add] at d6
   have b26 : Below wr.heap.size wr w6 := by have := HW2.out; rw [this] at hb6; exact HBW2.out.trans (hb6.mono HBW2.out.size)
   have cN := keep_cell b26 HCN.out
   have cM := keep_cell b26 HCM.out
   have b0 : w6.cell? ⟨wr.heap.size, 0, none⟩ = some (.pointer (some ⟨r.b, r.o, none⟩)) := by
    have := hb6; rw [HW2.out] at this; exact keep_cell this (cell_at HG2.out 0 rfl)
   have HB6 := Lib.hid (hW.out.trans (b26.mono hW.out.size))
   generalize hg6 : blk ao6 = g6 at *
   have hj0 : ¬ ((j : Int) < 0) := by omega
   have hjn : (j : Int) < (nl : Int) := by omega
   have hjn2 : ¬ ((nl : Int) ≤ (j : Int)) := by omega
   rw [ea6]
   clear ho6 hb6 hform6 hcl6 HCL HL HW2 HBW2 HG2 HCN HCM HJ b26 ea6 hg6 q0
   go_wp2_with fail
   go_quiet (fail)
   go_wp2_with fail
   go_roundw
   case rel => exact ⟨i + 1, by go_num, by omega, Lib.hid (below_drewN HB6.out _)⟩
   case measure => simp [intOf]; omega
  ·obtain rfl : i = m := by omega
   have hz : ¬ (i : Int) < (i : Int) := by omega
   go_wp2_with fail
   go_ret
   exact ⟨rfl, by rw [← HAE.out]; exact thenB HB.out (thenB H5.out hW.out)⟩
end Go.Proofs.Ytpnbpepkoekkoaa
end
section
namespace Go.Proofs.Ytpnbpepkoekkoaa
open Go Go.RowKit Go.Deep
end Go.Proofs.Ytpnbpepkoekkoaa
end
section
namespace Go.Proofs.Ytpnbpepkoekkoaa
open Go Go.RowKit Go.Deep
structure LawIn (s : Ls) (ns : List Int) (w : World) : Prop where
 at_ : s.At w
 ns : NsAt w s.refs ns
 env : ∀ V, Below w.heap.size w V → Env V
 fit : s.mfit
structure LawW (s : Ls) (w W : World) : Prop where
 below : Below w.heap.size w W
 box : W.heap[w.heap.size]? = some (.cells s.cells 30 (0, 0))
theorem LawW.next {s : Ls} {w W W' : World} (h : LawW s w W) (hb : Below W.heap.size W W') : LawW s w W' := ⟨thenB h.below hb, keepO hb h.box⟩
end Go.Proofs.Ytpnbpepkoekkoaa
end
