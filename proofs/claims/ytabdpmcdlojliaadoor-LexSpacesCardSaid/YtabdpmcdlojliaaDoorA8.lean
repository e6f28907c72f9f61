/- Contracts of the scanner's method sign. -/
import Derived.Test.YtabdpmcdlojliaaDoorA7
namespace Go.Proofs.YtabdpmcdlojliaaDoor
open Go.RowKit

theorem extract_tail (src : ByteArray) (a : Nat) : (src.extract a src.size).data.toList = src.data.toList.drop a := by
  rw [extract_list]
  show (src.data.toList.drop a).take (src.size - a) = _
  rw [List.take_of_length_le (by simp)]
theorem take_tail (src : ByteArray) (a : Nat) : List.take (src.size - a) (List.drop a src.data.toList) = src.data.toList.drop a := List.take_of_length_le (by simp)
theorem hasPrefix_two (l : List UInt8) (x y : UInt8) : Lib.hasPrefix l [x, y] = decide (l.take 2 = [x, y]) := by
  unfold Lib.hasPrefix
  match l with
  | [] => rfl
  | [b] => simp [List.isPrefixOf]
  | b :: d :: r => rw [Bool.eq_iff_iff]; simp [List.isPrefixOf]; constructor <;> (rintro ⟨rfl, rfl⟩; exact ⟨rfl, rfl⟩)
theorem extract_one {src : ByteArray} {a : Nat} (h : a < src.size) : src.extract a (a + 1) = ⟨#[src[a]]⟩ := by
  rw [extract_list, show a + 1 - a = 1 by omega]
  have : (src.data.toList.drop a).take 1 = [src[a]] := by
    rw [List.take_one, List.head?_drop, getElem_byte src a h]; rfl
  rw [this]
theorem validT_sign {c : UInt8} (h : isSign c = true) (ps : Int) : validT ⟨3, [c], 0, ps⟩ = true := by unfold validT; simp [h]

set_option maxHeartbeats 1000000 in
theorem sign_tok (S base a n : Nat) (src : ByteArray) (v : Value) (xs : List Value) (w : World) (hS : w.heap[S]? = some (.cells #[.string src, .int .i64 a, v] 49 (0, 0)))
    (hown : w.ownsRow base 35 4 v n xs) (hSb : S < base) (hbase : base ≤ w.heap.size) (hs : src.size ≤ 65536) (ha : a < src.size) (hn : n ≤ 65536) (hc : isSign src[a] = true) (hno : ¬ (src.data.toList.drop a).take 2 = [47, 47]) :
    Calls Tryd.prog 29 #[.pointer (some ⟨S, 0, none⟩)] w fun e w' =>
      e = .returned (.tuple #[]) ∧ ∃ v', w'.heap[S]? = some (.cells #[.string src, .int .i64 (a + 1 : Nat), v'] 49 (0, 0)) ∧
        w'.ownsRow base 35 4 v' (n + 1) (xs ++ [.int .i64 3, .string ⟨#[src[a]]⟩, .int .i64 0, .int .i64 a]) ∧ Below S w w' := by
  have hSl : S < w.heap.size := by omega
  have c0 := cell_of_block hS 0 (by simp)
  have c1 := cell_of_block hS 1 (by simp)
  simp at c0 c1
  have HS := Lib.hid hS; clear hS
  have HO := Lib.hid hown; clear hown
  have HC := Lib.hid hc; clear hc
  have hp : Lib.hasPrefix (src.extract a src.size).data.toList [47, 47] = false := by rw [hasPrefix_two, extract_tail]; simp [hno]
  clear hno
  go_enter Tryd.func29, Tryd.ntmps29
  go_wp2_with fail
  go_quiet ((go_at_call 46; exact Calls.quiet_of_same (Tryd.strings_HasPrefix _ _ _)))
  generalize nq = nq0
  clear nq
  rw [show Lib.hasPrefix (src.extract a src.size).data.toList (⟨#[47, 47]⟩ : ByteArray).data.toList = false from hp]
  clear hp
  go_wp2_with fail
  have w1 : IntKind.i64.wrap ((a : Int) + 1) = (a : Int) + 1 := IntWalk.i64_in _ (by omega)
  have w2 : (0 : Int) ≤ (a : Int) + 1 := by omega
  have w3 : ((a : Int) + 1).toNat = a + 1 := by omega
  have w4 : (a : Int) + 1 ≤ (src.size : Int) := by omega
  have w5 : (a : Int) ≤ (a : Int) + 1 := by omega
  go_quiet (fail)
  clear w1 w2 w3 w4 w5
  go_wp2_with fail
  rw [extract_one ha]
  clear c0 c1
  generalize nq = nq1
  have hS2 : (w.drewN (nq0 + nq1)).heap[S]? = some (.cells #[.string src, .int .i64 a, v] 49 (0, 0)) := HS.out
  refine (add_ok S base a n src ⟨#[src[a]]⟩ ⟨#[src[a]]⟩ 3 0 0 v xs _ hS2 (ownsRow_drewN HO.out _) hSb hbase (validT_sign HC.out _) (by show 1 ≤ maxLen; unfold maxLen; decide) (by show a + 1 ≤ 65536; omega) hn).mono ?_
  rintro e w3 ⟨rfl, v', h1, h2, h3⟩
  have H1 := Lib.hid h1; have H2 := Lib.hid h2; have H3 := Lib.hid ((below_drewN' (nq0 + nq1) (Below.refl S w)).trans h3); clear h1 h2 h3 hS2
  go_wp2
  go_end0
  exact ⟨rfl, v', H1.out, H2.out, H3.out⟩

theorem indexByte_run : ∀ (l : List UInt8), (Lib.indexByte l 10 = runLen (· != 10) l ∧ runLen (· != 10) l < l.length) ∨ (Lib.indexByte l 10 = -1 ∧ runLen (· != 10) l = l.length)
  | [] => Or.inr ⟨rfl, rfl⟩
  | b :: l => by
    have ih := indexByte_run l
    unfold Lib.indexByte runLen
    by_cases hb : b = 10
    · subst hb
      left
      rw [List.takeWhile_cons_of_neg (by decide)]
      exact ⟨rfl, by simp⟩
    · have h1 : (b == 10) = false := by simpa using hb
      rw [List.takeWhile_cons_of_pos (by simpa using hb), h1]
      simp only [runLen] at ih
      rcases ih with ⟨e, hl⟩ | ⟨e, hl⟩
      · left
        rw [e]
        refine ⟨?_, by simp; omega⟩
        rw [if_neg (by simp), if_neg (by simp)]
        simp
      · right
        rw [e]
        exact ⟨rfl, by simp; omega⟩

set_option maxHeartbeats 1000000 in
theorem sign_comment (S base a n : Nat) (src : ByteArray) (v : Value) (xs : List Value) (w : World) (hS : w.heap[S]? = some (.cells #[.string src, .int .i64 a, v] 49 (0, 0)))
    (hown : w.ownsRow base 35 4 v n xs) (hSb : S < base) (hbase : base ≤ w.heap.size) (hs : src.size ≤ 65536) (ha : a < src.size) (hyes : (src.data.toList.drop a).take 2 = [47, 47]) :
    Calls Tryd.prog 29 #[.pointer (some ⟨S, 0, none⟩)] w fun e w' =>
      e = .returned (.tuple #[]) ∧ w'.heap[S]? = some (.cells #[.string src, .int .i64 (a + runLen (· != 10) (src.data.toList.drop a) : Nat), v] 49 (0, 0)) ∧
        w'.ownsRow base 35 4 v n xs ∧ Below S w w' := by
  have hSl : S < w.heap.size := by omega
  have c0 := cell_of_block hS 0 (by simp)
  have c1 := cell_of_block hS 1 (by simp)
  have f1 := free_of_block hS 1
  simp at c0 c1
  have HS := Lib.hid hS; clear hS
  have HO := Lib.hid hown; clear hown
  have hp : Lib.hasPrefix (src.extract a src.size).data.toList [47, 47] = true := by rw [hasPrefix_two, extract_tail]; simp [hyes]
  clear hyes
  have hix := indexByte_run (src.data.toList.drop a)
  have HT := Lib.hid (extract_tail src a)
  go_enter Tryd.func29, Tryd.ntmps29
  go_wp2_with fail
  go_quiet ((go_at_call 46; exact Calls.quiet_of_same (Tryd.strings_HasPrefix _ _ _)))
  rw [show Lib.hasPrefix (src.extract a src.size).data.toList (⟨#[47, 47]⟩ : ByteArray).data.toList = true from hp]
  clear hp
  have HI := Lib.hid hix; clear hix
  have hS1 : (w.drewN nq).heap[S]? = some (.cells #[.string src, .int .i64 a, v] 49 (0, 0)) := HS.out
  have hO1 := ownsRow_drewN HO.out nq
  have hB1 := below_drewN' nq (Below.refl S w)
  generalize w.drewN nq = w1 at *
  clear c0 c1 f1 nq
  have c0 := cell_of_block hS1 0 (by simp)
  have c1 := cell_of_block hS1 1 (by simp)
  have f1 := free_of_block hS1 1
  simp at c0 c1
  have HS1 := Lib.hid hS1; clear hS1
  have HO1 := Lib.hid hO1; clear hO1
  have HB1 := Lib.hid hB1; clear hB1
  go_wp2_with fail
  have hle : (a : Int) ≤ (src.size : Int) := by omega
  go_quiet ((go_at_call 47; exact Calls.quiet_of_same (Tryd.strings_IndexByte _ _ _)))
  rw [HT.out, show (10 : Int).toNat.toUInt8 = 10 from rfl]
  have hS2 : (w1.drewN nq).heap[S]? = some (.cells #[.string src, .int .i64 a, v] 49 (0, 0)) := HS1.out
  have hO2 := ownsRow_drewN HO1.out nq
  have hB2 := below_drewN' nq HB1.out
  generalize w1.drewN nq = w2 at *
  clear c0 c1 f1 nq
  have c0 := cell_of_block hS2 0 (by simp)
  have c1 := cell_of_block hS2 1 (by simp)
  have f1 := free_of_block hS2 1
  simp at c0 c1
  have HS2 := Lib.hid hS2; clear hS2
  have HO2 := Lib.hid hO2; clear hO2
  have HB2 := Lib.hid hB2; clear hB2
  rcases HI.out with ⟨e, hl⟩ | ⟨e, hl⟩
  · rw [e]; clear e
    have hl2 : (a : Int) + (runLen (· != 10) (src.data.toList.drop a) : Int) ≤ 65536 := by simp at hl; omega
    generalize hr : runLen (· != 10) (src.data.toList.drop a) = r at *
    have HR := Lib.hid hr; clear hr hl
    go_wp2_with fail
    refine bodyPost_ret (results_none rfl _ _ _) rfl ?_
    have e := HR.out
    subst e
    exact ⟨rfl, by rw [heap_setCell_same HS2.out]; simp, ownsRow_setCell_below HO2.out (a := ⟨S, 1, none⟩) hSb _, HB2.out.setCell (p := ⟨S, 1, none⟩) (Nat.le_refl _) _⟩
  · rw [e]; clear e
    have hr : a + runLen (· != 10) (src.data.toList.drop a) = src.size := by rw [hl]; simp; omega
    have HR := Lib.hid hr; clear hl hr
    go_wp2_with fail
    refine bodyPost_ret (results_none rfl _ _ _) rfl ?_
    exact ⟨rfl, by rw [heap_setCell_same HS2.out, HR.out]; simp, ownsRow_setCell_below HO2.out (a := ⟨S, 1, none⟩) hSb _, HB2.out.setCell (p := ⟨S, 1, none⟩) (Nat.le_refl _) _⟩
end Go.Proofs.YtabdpmcdlojliaaDoor
