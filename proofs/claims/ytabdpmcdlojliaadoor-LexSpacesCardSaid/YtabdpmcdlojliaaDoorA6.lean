/- Contracts of the scanner's methods name, space, sign. -/
import Derived.Test.YtabdpmcdlojliaaDoorA5
import Derived.Deep.RegionWith
import Derived.IntWalk
namespace Go.Proofs.YtabdpmcdlojliaaDoor
open Go.RowKit

theorem inCls_part (c : UInt8) : inCls [2, 3, 5] c = isPart c := by
  unfold inCls isPart; rw [Bool.eq_iff_iff]; simp [or_assoc]
theorem inCls_digit (c : UInt8) : inCls [3] c = isDigit c := by
  unfold inCls isDigit; rw [Bool.eq_iff_iff]; simp
theorem inCls_space (c : UInt8) : inCls [1] c = isSpace c := by
  unfold inCls isSpace; rw [Bool.eq_iff_iff]; simp
theorem runLen_le (p : UInt8 → Bool) (l : List UInt8) : runLen p l ≤ l.length := (List.takeWhile_sublist p).length_le
theorem runText_len (p : UInt8 → Bool) (src : ByteArray) (a : Nat) : (runText p src a).length = runLen p (src.data.toList.drop a) := by
  unfold runText; rw [List.length_take]; exact Nat.min_eq_left (runLen_le _ _)
theorem runText_le (p : UInt8 → Bool) (src : ByteArray) (a : Nat) : (runText p src a).length ≤ src.size - a := by
  rw [runText_len]; refine Nat.le_trans (runLen_le _ _) ?_; simp
theorem size_mk (l : List UInt8) : (⟨l.toArray⟩ : ByteArray).size = l.length := by simp [ByteArray.size]
theorem heap_drewN (w : World) (k : Nat) : (w.drewN k).heap = w.heap := rfl
theorem below_drewN' {B : Nat} {w w' : World} (k : Nat) (h : Below B w w') : Below B w (w'.drewN k) := ⟨h.os, h.tape, h.output, h.size, h.block⟩
theorem ownsRow_drewN {w : World} {base : Nat} {e : TypeId} {size : Nat} {v : Value} {n : Nat} {xs : List Value} (h : w.ownsRow base e size v n xs) (k : Nat) : (w.drewN k).ownsRow base e size v n xs := h
theorem cells3 {w : World} {g : Nat} {x y z : Int} {t : TypeId} (h : w.heap[g]? = some (.cells #[.int .i64 x, .int .i64 y, .int .i64 z] t (0, 0))) : ∀ j, j < [x, y, z].length → w.cell? ⟨g, 0 + j, none⟩ = some (.int .i64 ([x, y, z].getD j 0)) := by
  intro j hj
  match j, hj with
  | 0, _ => simp [World.cell?, h]
  | 1, _ => simp [World.cell?, h]
  | 2, _ => simp [World.cell?, h]
theorem cells1 {w : World} {g : Nat} {x : Int} {t : TypeId} (h : w.heap[g]? = some (.cells #[.int .i64 x] t (0, 0))) : ∀ j, j < [x].length → w.cell? ⟨g, 0 + j, none⟩ = some (.int .i64 ([x].getD j 0)) := by
  intro j hj
  match j, hj with
  | 0, _ => simp [World.cell?, h]

theorem validT_name (l : List UInt8) : validT ⟨1, l, 0, 0⟩ = nameOk l := by unfold validT; simp

set_option maxHeartbeats 1000000 in
theorem name_ok (S base a n : Nat) (src : ByteArray) (v : Value) (xs : List Value) (w : World) (hS : w.heap[S]? = some (.cells #[.string src, .int .i64 a, v] 49 (0, 0)))
    (hown : w.ownsRow base 35 4 v n xs) (hSb : S < base) (hbase : base ≤ w.heap.size) (hs : src.size ≤ 65536) (ha : a ≤ src.size) (hn : n ≤ 65536) (hok : nameOk (runText isPart src a) = true) :
    Calls Tryd.prog 27 #[.pointer (some ⟨S, 0, none⟩)] w fun e w' =>
      e = .returned (.tuple #[]) ∧ ∃ v', w'.heap[S]? = some (.cells #[.string src, .int .i64 (a + (runText isPart src a).length : Nat), v'] 49 (0, 0)) ∧
        w'.ownsRow base 35 4 v' (n + 1) (xs ++ [.int .i64 1, .string ⟨(runText isPart src a).toArray⟩, .int .i64 0, .int .i64 a]) ∧ Below S w w' := by
  have hSl : S < w.heap.size := by omega
  have HS := Lib.hid hS; clear hS
  have HO := Lib.hid hown; clear hown
  have HK := Lib.hid hok; clear hok
  go_enter Tryd.func27, Tryd.ntmps27
  go_wp2_with fail
  have hS1 := (Below.heap_alloc w (.cells #[.int .i64 2, .int .i64 3, .int .i64 5] 3) S hSl).trans HS.out
  refine (run_any S w.heap.size a 3 src [2, 3, 5] _ (by have := cell_of_block hS1 0 (by simp); simpa using this) (by have := cell_of_block hS1 1 (by simp); simpa using this) (by decide) (cells3 (heap_alloc_new w _)) (by unfold maxLen; omega) ha).mono ?_
  rintro e w1 ⟨rfl, k, rfl⟩
  have hp : inCls [2, 3, 5] = isPart := funext inCls_part
  rw [hp]; clear hp
  have hle := runText_le isPart src a
  have hT : (⟨(runText isPart src a).toArray⟩ : ByteArray).size = (runText isPart src a).length := size_mk _
  clear hS1
  go_wp2_with fail
  have hS2 : ((w.alloc (.cells #[.int .i64 2, .int .i64 3, .int .i64 5] 3)).drewN k).heap[S]? = some (.cells #[.string src, .int .i64 a, v] 49 (0, 0)) := (Below.heap_alloc w _ S hSl).trans HS.out
  have hO2 := ownsRow_drewN (HO.out.alloc (.cells #[.int .i64 2, .int .i64 3, .int .i64 5] 3)) k
  have hB2 := below_drewN' k ((Below.refl S w).alloc (by omega) (.cells #[.int .i64 2, .int .i64 3, .int .i64 5] 3))
  have hz2 : base ≤ ((w.alloc (.cells #[.int .i64 2, .int .i64 3, .int .i64 5] 3)).drewN k).heap.size := by rw [heap_drewN]; simp; omega
  generalize (w.alloc (.cells #[.int .i64 2, .int .i64 3, .int .i64 5] 3)).drewN k = w2 at *
  refine (add_ok S base a n src _ _ 1 0 0 v xs w2 hS2 hO2 hSb hz2 ((validT_name _).trans HK.out) (by rw [hT]; unfold maxLen; omega) (by rw [hT]; omega) hn).mono ?_
  rintro e w3 ⟨rfl, v', h1, h2, h3⟩
  have hB3 := hB2.trans h3
  rw [hT] at h1
  have H1 := Lib.hid h1; have H2 := Lib.hid h2; have H3 := Lib.hid hB3; clear h1 h2 h3 hB3 hS2 hO2 hB2 hT
  go_wp2
  go_end0
  exact ⟨rfl, v', H1.out, H2.out, H3.out⟩

set_option maxHeartbeats 1000000 in
theorem name_bad (S a : Nat) (src : ByteArray) (v : Value) (w : World) (hS : w.heap[S]? = some (.cells #[.string src, .int .i64 a, v] 49 (0, 0)))
    (hSl : S < w.heap.size) (hs : src.size ≤ 65536) (ha : a ≤ src.size) (hok : nameOk (runText isPart src a) = false) :
    Calls Tryd.prog 27 #[.pointer (some ⟨S, 0, none⟩)] w fun e w' => e = placePanic a ∧ Below w.heap.size w w' := by
  have HS := Lib.hid hS; clear hS
  have HK := Lib.hid hok; clear hok
  go_enter Tryd.func27, Tryd.ntmps27
  go_wp2_with fail
  have hS1 := (Below.heap_alloc w (.cells #[.int .i64 2, .int .i64 3, .int .i64 5] 3) S hSl).trans HS.out
  refine (run_any S w.heap.size a 3 src [2, 3, 5] _ (by have := cell_of_block hS1 0 (by simp); simpa using this) (by have := cell_of_block hS1 1 (by simp); simpa using this) (by decide) (cells3 (heap_alloc_new w _)) (by unfold maxLen; omega) ha).mono ?_
  rintro e w1 ⟨rfl, k, rfl⟩
  have hp : inCls [2, 3, 5] = isPart := funext inCls_part
  rw [hp]; clear hp
  have hle := runText_le isPart src a
  have hT : (⟨(runText isPart src a).toArray⟩ : ByteArray).size = (runText isPart src a).length := size_mk _
  clear hS1
  go_wp2_with fail
  have hS2 : ((w.alloc (.cells #[.int .i64 2, .int .i64 3, .int .i64 5] 3)).drewN k).heap[S]? = some (.cells #[.string src, .int .i64 a, v] 49 (0, 0)) := (Below.heap_alloc w _ S hSl).trans HS.out
  have hB2 := below_drewN' k ((Below.refl w.heap.size w).alloc (Nat.le_refl _) (.cells #[.int .i64 2, .int .i64 3, .int .i64 5] 3))
  have hz2 : w.heap.size ≤ ((w.alloc (.cells #[.int .i64 2, .int .i64 3, .int .i64 5] 3)).drewN k).heap.size := by rw [heap_drewN]; simp
  generalize (w.alloc (.cells #[.int .i64 2, .int .i64 3, .int .i64 5] 3)).drewN k = w2 at *
  refine (add_bad S a src _ _ 1 0 0 v w2 hS2 (by omega) ((validT_name _).trans HK.out) (by rw [hT]; unfold maxLen; omega)).mono ?_
  rintro e w3 ⟨rfl, h3⟩
  have H3 := Lib.hid (hB2.trans (h3.mono hz2)); clear h3 hS2 hB2 hT
  unfold placePanic
  go_wp2
  exact ⟨rfl, rfl, H3.out⟩

set_option maxHeartbeats 1000000 in
theorem space_any (S base a n : Nat) (src : ByteArray) (v : Value) (xs : List Value) (w : World) (hS : w.heap[S]? = some (.cells #[.string src, .int .i64 a, v] 49 (0, 0)))
    (hown : w.ownsRow base 35 4 v n xs) (hSb : S < base) (hbase : base ≤ w.heap.size) (hs : src.size ≤ 65536) (ha : a ≤ src.size) :
    Calls Tryd.prog 26 #[.pointer (some ⟨S, 0, none⟩)] w fun e w' =>
      e = .returned (.tuple #[]) ∧ w'.heap[S]? = some (.cells #[.string src, .int .i64 (a + (runText isSpace src a).length : Nat), v] 49 (0, 0)) ∧ w'.ownsRow base 35 4 v n xs ∧ Below S w w' := by
  have hSl : S < w.heap.size := by omega
  have c1 := cell_of_block hS 1 (by simp)
  have f1 := free_of_block hS 1
  simp at c1
  have HS := Lib.hid hS; clear hS
  have HO := Lib.hid hown; clear hown
  have hle := runText_le isSpace src a
  have hT : ((⟨(runText isSpace src a).toArray⟩ : ByteArray).size : Int) = (runText isSpace src a).length := by rw [size_mk]
  have hS1 := (Below.heap_alloc w (.cells #[.int .i64 1] 3) S hSl).trans HS.out
  have hr := run_any S w.heap.size a 1 src [1] (w.alloc (.cells #[.int .i64 1] 3)).drew (by have := cell_of_block hS1 0 (by simp); simpa using this) (by have := cell_of_block hS1 1 (by simp); simpa using this) (by decide) (cells1 (heap_alloc_new w _)) (by unfold maxLen; omega) ha
  have hp : inCls [1] = isSpace := funext inCls_space
  rw [hp] at hr; clear hp hS1
  have HR := Lib.hid hr; clear hr
  go_enter Tryd.func26, Tryd.ntmps26
  go_wp2_with fail
  go_region_with (go_at_call 43; refine (HR.out).mono ?_; rintro e w1 ⟨rfl, k, rfl⟩)
  all_goals
    clear c1 f1 HR
    have hwr : IntKind.i64.wrap ((a : Int) + ((runText isSpace src a).length : Int)) = ((a + (runText isSpace src a).length : Nat) : Int) := by rw [IntWalk.i64_in _ (by omega)]; omega
    rw [hwr]
    clear hwr
    go_end0
    refine ⟨rfl, ?_, ownsRow_setCell_below (ownsRow_drewN (HO.out.alloc (.cells #[.int .i64 1] 3)) (1 + k)) (a := ⟨S, 1, none⟩) hSb _, ((below_drewN' (1 + k) ((Below.refl S w).alloc (by omega) (.cells #[.int .i64 1] 3))).setCell (p := ⟨S, 1, none⟩) (Nat.le_refl _) _)⟩
    have hS2 : ((w.alloc (.cells #[.int .i64 1] 3)).drewN (1 + k)).heap[S]? = some (.cells #[.string src, .int .i64 a, v] 49 (0, 0)) := (Below.heap_alloc w _ S hSl).trans HS.out
    rw [heap_setCell_same hS2]; simp
end Go.Proofs.YtabdpmcdlojliaaDoor
