/- Contracts and plain laws on the way to the statement: part 37. -/
import Derived.Test.YtggcbblikgankaaGreatDoorZ36
import Derived.OpenShut
import Derived.ShutString
set_option linter.unusedVariables false
set_option linter.unusedSimpArgs false
section
namespace Go.Proofs.YtggcbblikgankaaGreatDoor
open Go Go.ChangeShapes Go.WideShapes Go.ChangeAt Go.RowKit
theorem list2 {cs : List Value} (h : cs.length = 2) : ∃ c0 c1, cs = [c0, c1] := by
 match cs, h with
 | [c0, c1], _ => exact ⟨c0, c1, rfl⟩
theorem list3 {cs : List Value} (h : cs.length = 3) : ∃ c0 c1 c2, cs = [c0, c1, c2] := by
 match cs, h with
 | [c0, c1, c2], _ => exact ⟨c0, c1, c2, rfl⟩
theorem list4 {cs : List Value} (h : cs.length = 4) : ∃ c0 c1 c2 c3, cs = [c0, c1, c2, c3] := by
 match cs, h with
 | [c0, c1, c2, c3], _ => exact ⟨c0, c1, c2, c3, rfl⟩
theorem list11 {cs : List Value} (h : cs.length = 11) : ∃ c0 c1 c2 c3 c4 c5 c6 c7 c8 c9 c10, cs = [c0, c1, c2, c3, c4, c5, c6, c7, c8, c9, c10] := by
 match cs, h with
 | [c0, c1, c2, c3, c4, c5, c6, c7, c8, c9, c10], _ => exact ⟨c0, c1, c2, c3, c4, c5, c6, c7, c8, c9, c10, rfl⟩
theorem list14 {cs : List Value} (h : cs.length = 14) : ∃ c0 c1 c2 c3 c4 c5 c6 c7 c8 c9 c10 c11 c12 c13, cs = [c0, c1, c2, c3, c4, c5, c6, c7, c8, c9, c10, c11, c12, c13] := by
 match cs, h with
 | [c0, c1, c2, c3, c4, c5, c6, c7, c8, c9, c10, c11, c12, c13], _ => exact ⟨c0, c1, c2, c3, c4, c5, c6, c7, c8, c9, c10, c11, c12, c13, rfl⟩
theorem list17 {cs : List Value} (h : cs.length = 17) : ∃ c0 c1 c2 c3 c4 c5 c6 c7 c8 c9 c10 c11 c12 c13 c14 c15 c16, cs = [c0, c1, c2, c3, c4, c5, c6, c7, c8, c9, c10, c11, c12, c13, c14, c15, c16] := by
 match cs, h with
 | [c0, c1, c2, c3, c4, c5, c6, c7, c8, c9, c10, c11, c12, c13, c14, c15, c16], _ => exact ⟨c0, c1, c2, c3, c4, c5, c6, c7, c8, c9, c10, c11, c12, c13, c14, c15, c16, rfl⟩
section
variable {H : Type} {et : TypeId × Value → H} {W : World}
theorem cellsT3 : Tryz.prog.cellsOf 3 = 1 := by kernel_rfl
theorem cellsT9 : Tryz.prog.cellsOf 9 = 1 := by kernel_rfl
theorem cellsT23 : Tryz.prog.cellsOf 23 = 3 := by kernel_rfl
theorem cellsT24 : Tryz.prog.cellsOf 24 = 1 := by kernel_rfl
theorem cellsT25 : Tryz.prog.cellsOf 25 = 1 := by kernel_rfl
theorem cellsT26 : Tryz.prog.cellsOf 26 = 1 := by kernel_rfl
theorem cellsT27 : Tryz.prog.cellsOf 27 = 1 := by kernel_rfl
theorem cellsT29 : Tryz.prog.cellsOf 29 = 4 := by kernel_rfl
theorem cellsT30 : Tryz.prog.cellsOf 30 = 1 := by kernel_rfl
theorem cellsT32 : Tryz.prog.cellsOf 32 = 11 := by kernel_rfl
theorem cellsT34 : Tryz.prog.cellsOf 33 = 3 := by kernel_rfl
theorem cellsT36 : Tryz.prog.cellsOf 35 = 17 := by kernel_rfl
theorem cellsT39 : Tryz.prog.cellsOf 70 = 2 := by kernel_rfl
theorem cellsT41 : Tryz.prog.cellsOf 72 = 14 := by kernel_rfl
theorem cellsT109 : Tryz.prog.cellsOf 86 = 4 := by kernel_rfl
theorem cellsT140 : Tryz.prog.cellsOf 88 = 3 := by kernel_rfl
theorem cellsT182 : Tryz.prog.cellsOf 171 = 4 := by kernel_rfl
theorem cellsT184 : Tryz.prog.cellsOf 173 = 4 := by kernel_rfl
set_option maxRecDepth 100000 in
theorem open34 {n : Nat} {cs : List Value} {y : DataW H × List MemPlace} (h : DataW.trod et Tryz.prog W 0 (fun _ => true) true n 33 cs = some y) : ∃ (a0 a1 a2 : Int), cs = [.int .i64 a0, .int .i64 a1, .int .i64 a2] := by
 obtain ⟨ys, m, _, _, hl, hyl, hf⟩ := DataW.trod_array Tryz.underlying33 h
 rw [cellsT34] at hl
 obtain ⟨c0, c1, c2, rfl⟩ := list3 hl
 obtain ⟨y0, hy0⟩ : ∃ y, ys[0]? = some y := ⟨_, List.getElem?_eq_getElem (by omega)⟩
 obtain ⟨y1, hy1⟩ : ∃ y, ys[1]? = some y := ⟨_, List.getElem?_eq_getElem (by omega)⟩
 obtain ⟨y2, hy2⟩ : ∃ y, ys[2]? = some y := ⟨_, List.getElem?_eq_getElem (by omega)⟩
 have f0 : DataW.trod et Tryz.prog W 0 (fun _ => true) true m 3 [c0] = some y0 := by
  have := hf 0 (by omega)
  rw [cellsT3, hy0] at this
  exact this
 obtain ⟨a0, e0, _, _⟩ := DataW.trod_int Tryz.underlying3 f0
 cases e0
 have f1 : DataW.trod et Tryz.prog W 0 (fun _ => true) true m 3 [c1] = some y1 := by
  have := hf 1 (by omega)
  rw [cellsT3, hy1] at this
  exact this
 obtain ⟨a1, e1, _, _⟩ := DataW.trod_int Tryz.underlying3 f1
 cases e1
 have f2 : DataW.trod et Tryz.prog W 0 (fun _ => true) true m 3 [c2] = some y2 := by
  have := hf 2 (by omega)
  rw [cellsT3, hy2] at this
  exact this
 obtain ⟨a2, e2, _, _⟩ := DataW.trod_int Tryz.underlying3 f2
 cases e2
 exact ⟨a0, a1, a2, rfl⟩
set_option maxRecDepth 100000 in
theorem open39 {n : Nat} {cs : List Value} {y : DataW H × List MemPlace} (h : DataW.trod et Tryz.prog W 0 (fun _ => true) true n 70 cs = some y) : ∃ (n : Int) (d : Int), cs = [.int .i64 n, .int .i64 d] := by
 obtain ⟨ys, m, _, _, hl, hyl, hf⟩ := DataW.trod_struct Tryz.underlying70 h
 rw [cellsT39] at hl
 obtain ⟨c0, c1, rfl⟩ := list2 hl
 obtain ⟨y0, hy0⟩ : ∃ y, ys[0]? = some y := ⟨_, List.getElem?_eq_getElem (by rw [hyl]; decide)⟩
 have f0 : DataW.trod et Tryz.prog W 0 (fun _ => true) true m 3 (([c0, c1].drop 0).take (Tryz.prog.cellsOf 3)) = some y0 := (hf 0 _ rfl).trans hy0
 rw [cellsT3] at f0
 obtain ⟨y1, hy1⟩ : ∃ y, ys[1]? = some y := ⟨_, List.getElem?_eq_getElem (by rw [hyl]; decide)⟩
 have f1 : DataW.trod et Tryz.prog W 0 (fun _ => true) true m 3 (([c0, c1].drop 1).take (Tryz.prog.cellsOf 3)) = some y1 := (hf 1 _ rfl).trans hy1
 rw [cellsT3] at f1
 obtain ⟨n, e0, _, _⟩ := DataW.trod_int Tryz.underlying3 f0
 cases e0
 obtain ⟨d, e1, _, _⟩ := DataW.trod_int Tryz.underlying3 f1
 cases e1
 exact ⟨n, d, rfl⟩
set_option maxRecDepth 100000 in
theorem open23 {n : Nat} {cs : List Value} {y : DataW H × List MemPlace} (h : DataW.trod et Tryz.prog W 0 (fun _ => true) true n 23 cs = some y) : ∃ (a : Int) (b : Int) (c : Int), cs = [.int .i64 a, .int .i64 b, .int .i64 c] := by
 obtain ⟨ys, m, _, _, hl, hyl, hf⟩ := DataW.trod_struct Tryz.underlying23 h
 rw [cellsT23] at hl
 obtain ⟨c0, c1, c2, rfl⟩ := list3 hl
 obtain ⟨y0, hy0⟩ : ∃ y, ys[0]? = some y := ⟨_, List.getElem?_eq_getElem (by rw [hyl]; decide)⟩
 have f0 : DataW.trod et Tryz.prog W 0 (fun _ => true) true m 3 (([c0, c1, c2].drop 0).take (Tryz.prog.cellsOf 3)) = some y0 := (hf 0 _ rfl).trans hy0
 rw [cellsT3] at f0
 obtain ⟨y1, hy1⟩ : ∃ y, ys[1]? = some y := ⟨_, List.getElem?_eq_getElem (by rw [hyl]; decide)⟩
 have f1 : DataW.trod et Tryz.prog W 0 (fun _ => true) true m 3 (([c0, c1, c2].drop 1).take (Tryz.prog.cellsOf 3)) = some y1 := (hf 1 _ rfl).trans hy1
 rw [cellsT3] at f1
 obtain ⟨y2, hy2⟩ : ∃ y, ys[2]? = some y := ⟨_, List.getElem?_eq_getElem (by rw [hyl]; decide)⟩
 have f2 : DataW.trod et Tryz.prog W 0 (fun _ => true) true m 3 (([c0, c1, c2].drop 2).take (Tryz.prog.cellsOf 3)) = some y2 := (hf 2 _ rfl).trans hy2
 rw [cellsT3] at f2
 obtain ⟨a, e0, _, _⟩ := DataW.trod_int Tryz.underlying3 f0
 cases e0
 obtain ⟨b, e1, _, _⟩ := DataW.trod_int Tryz.underlying3 f1
 cases e1
 obtain ⟨c, e2, _, _⟩ := DataW.trod_int Tryz.underlying3 f2
 cases e2
 exact ⟨a, b, c, rfl⟩
set_option maxRecDepth 100000 in
theorem open109 {n : Nat} {cs : List Value} {y : DataW H × List MemPlace} (h : DataW.trod et Tryz.prog W 0 (fun _ => true) true n 86 cs = some y) : ∃ (name : List UInt8) (x : Int) (y : Int) (f : Int), cs = [.string ⟨name.toArray⟩, .int .i64 x, .int .i64 y, .int .i64 f] ∧ name.length ≤ maxLen := by
 obtain ⟨ys, m, _, _, hl, hyl, hf⟩ := DataW.trod_struct Tryz.underlying86 h
 rw [cellsT109] at hl
 obtain ⟨c0, c1, c2, c3, rfl⟩ := list4 hl
 obtain ⟨y0, hy0⟩ : ∃ y, ys[0]? = some y := ⟨_, List.getElem?_eq_getElem (by rw [hyl]; decide)⟩
 have f0 : DataW.trod et Tryz.prog W 0 (fun _ => true) true m 9 (([c0, c1, c2, c3].drop 0).take (Tryz.prog.cellsOf 9)) = some y0 := (hf 0 _ rfl).trans hy0
 rw [cellsT9] at f0
 obtain ⟨y1, hy1⟩ : ∃ y, ys[1]? = some y := ⟨_, List.getElem?_eq_getElem (by rw [hyl]; decide)⟩
 have f1 : DataW.trod et Tryz.prog W 0 (fun _ => true) true m 3 (([c0, c1, c2, c3].drop 1).take (Tryz.prog.cellsOf 3)) = some y1 := (hf 1 _ rfl).trans hy1
 rw [cellsT3] at f1
 obtain ⟨y2, hy2⟩ : ∃ y, ys[2]? = some y := ⟨_, List.getElem?_eq_getElem (by rw [hyl]; decide)⟩
 have f2 : DataW.trod et Tryz.prog W 0 (fun _ => true) true m 3 (([c0, c1, c2, c3].drop 2).take (Tryz.prog.cellsOf 3)) = some y2 := (hf 2 _ rfl).trans hy2
 rw [cellsT3] at f2
 obtain ⟨y3, hy3⟩ : ∃ y, ys[3]? = some y := ⟨_, List.getElem?_eq_getElem (by rw [hyl]; decide)⟩
 have f3 : DataW.trod et Tryz.prog W 0 (fun _ => true) true m 3 (([c0, c1, c2, c3].drop 3).take (Tryz.prog.cellsOf 3)) = some y3 := (hf 3 _ rfl).trans hy3
 rw [cellsT3] at f3
 obtain ⟨s0, e0, _, z0⟩ := DataW.trod_string Tryz.underlying9 f0
 cases e0
 obtain ⟨x, e1, _, _⟩ := DataW.trod_int Tryz.underlying3 f1
 cases e1
 obtain ⟨y, e2, _, _⟩ := DataW.trod_int Tryz.underlying3 f2
 cases e2
 obtain ⟨f, e3, _, _⟩ := DataW.trod_int Tryz.underlying3 f3
 cases e3
 exact ⟨s0.data.toList, x, y, f, rfl, by rw [Array.length_toList]; exact z0⟩
set_option maxRecDepth 100000 in
theorem open140 {n : Nat} {cs : List Value} {y : DataW H × List MemPlace} (h : DataW.trod et Tryz.prog W 0 (fun _ => true) true n 88 cs = some y) : ∃ (b : Int) (t : Int) (s : Int), cs = [.int .i64 b, .int .i64 t, .int .i64 s] := by
 obtain ⟨ys, m, _, _, hl, hyl, hf⟩ := DataW.trod_struct Tryz.underlying88 h
 rw [cellsT140] at hl
 obtain ⟨c0, c1, c2, rfl⟩ := list3 hl
 obtain ⟨y0, hy0⟩ : ∃ y, ys[0]? = some y := ⟨_, List.getElem?_eq_getElem (by rw [hyl]; decide)⟩
 have f0 : DataW.trod et Tryz.prog W 0 (fun _ => true) true m 3 (([c0, c1, c2].drop 0).take (Tryz.prog.cellsOf 3)) = some y0 := (hf 0 _ rfl).trans hy0
 rw [cellsT3] at f0
 obtain ⟨y1, hy1⟩ : ∃ y, ys[1]? = some y := ⟨_, List.getElem?_eq_getElem (by rw [hyl]; decide)⟩
 have f1 : DataW.trod et Tryz.prog W 0 (fun _ => true) true m 3 (([c0, c1, c2].drop 1).take (Tryz.prog.cellsOf 3)) = some y1 := (hf 1 _ rfl).trans hy1
 rw [cellsT3] at f1
 obtain ⟨y2, hy2⟩ : ∃ y, ys[2]? = some y := ⟨_, List.getElem?_eq_getElem (by rw [hyl]; decide)⟩
 have f2 : DataW.trod et Tryz.prog W 0 (fun _ => true) true m 3 (([c0, c1, c2].drop 2).take (Tryz.prog.cellsOf 3)) = some y2 := (hf 2 _ rfl).trans hy2
 rw [cellsT3] at f2
 obtain ⟨b, e0, _, _⟩ := DataW.trod_int Tryz.underlying3 f0
 cases e0
 obtain ⟨t, e1, _, _⟩ := DataW.trod_int Tryz.underlying3 f1
 cases e1
 obtain ⟨s, e2, _, _⟩ := DataW.trod_int Tryz.underlying3 f2
 cases e2
 exact ⟨b, t, s, rfl⟩
set_option maxRecDepth 100000 in
theorem open182 {n : Nat} {cs : List Value} {y : DataW H × List MemPlace} (h : DataW.trod et Tryz.prog W 0 (fun _ => true) true n 171 cs = some y) : ∃ (b : Int) (k : Int) (l : Int) (hi : Int), cs = [.int .i64 b, .int .i64 k, .int .i64 l, .int .i64 hi] := by
 obtain ⟨ys, m, _, _, hl, hyl, hf⟩ := DataW.trod_struct Tryz.underlying171 h
 rw [cellsT182] at hl
 obtain ⟨c0, c1, c2, c3, rfl⟩ := list4 hl
 obtain ⟨y0, hy0⟩ : ∃ y, ys[0]? = some y := ⟨_, List.getElem?_eq_getElem (by rw [hyl]; decide)⟩
 have f0 : DataW.trod et Tryz.prog W 0 (fun _ => true) true m 3 (([c0, c1, c2, c3].drop 0).take (Tryz.prog.cellsOf 3)) = some y0 := (hf 0 _ rfl).trans hy0
 rw [cellsT3] at f0
 obtain ⟨y1, hy1⟩ : ∃ y, ys[1]? = some y := ⟨_, List.getElem?_eq_getElem (by rw [hyl]; decide)⟩
 have f1 : DataW.trod et Tryz.prog W 0 (fun _ => true) true m 3 (([c0, c1, c2, c3].drop 1).take (Tryz.prog.cellsOf 3)) = some y1 := (hf 1 _ rfl).trans hy1
 rw [cellsT3] at f1
 obtain ⟨y2, hy2⟩ : ∃ y, ys[2]? = some y := ⟨_, List.getElem?_eq_getElem (by rw [hyl]; decide)⟩
 have f2 : DataW.trod et Tryz.prog W 0 (fun _ => true) true m 3 (([c0, c1, c2, c3].drop 2).take (Tryz.prog.cellsOf 3)) = some y2 := (hf 2 _ rfl).trans hy2
 rw [cellsT3] at f2
 obtain ⟨y3, hy3⟩ : ∃ y, ys[3]? = some y := ⟨_, List.getElem?_eq_getElem (by rw [hyl]; decide)⟩
 have f3 : DataW.trod et Tryz.prog W 0 (fun _ => true) true m 3 (([c0, c1, c2, c3].drop 3).take (Tryz.prog.cellsOf 3)) = some y3 := (hf 3 _ rfl).trans hy3
 rw [cellsT3] at f3
 obtain ⟨b, e0, _, _⟩ := DataW.trod_int Tryz.underlying3 f0
 cases e0
 obtain ⟨k, e1, _, _⟩ := DataW.trod_int Tryz.underlying3 f1
 cases e1
 obtain ⟨l, e2, _, _⟩ := DataW.trod_int Tryz.underlying3 f2
 cases e2
 obtain ⟨hi, e3, _, _⟩ := DataW.trod_int Tryz.underlying3 f3
 cases e3
 exact ⟨b, k, l, hi, rfl⟩
set_option maxRecDepth 100000 in
theorem open184 {n : Nat} {cs : List Value} {y : DataW H × List MemPlace} (h : DataW.trod et Tryz.prog W 0 (fun _ => true) true n 173 cs = some y) : ∃ (f : Int) (t : Int) (l : Int) (hi : Int), cs = [.int .i64 f, .int .i64 t, .int .i64 l, .int .i64 hi] := by
 obtain ⟨ys, m, _, _, hl, hyl, hf⟩ := DataW.trod_struct Tryz.underlying173 h
 rw [cellsT184] at hl
 obtain ⟨c0, c1, c2, c3, rfl⟩ := list4 hl
 obtain ⟨y0, hy0⟩ : ∃ y, ys[0]? = some y := ⟨_, List.getElem?_eq_getElem (by rw [hyl]; decide)⟩
 have f0 : DataW.trod et Tryz.prog W 0 (fun _ => true) true m 3 (([c0, c1, c2, c3].drop 0).take (Tryz.prog.cellsOf 3)) = some y0 := (hf 0 _ rfl).trans hy0
 rw [cellsT3] at f0
 obtain ⟨y1, hy1⟩ : ∃ y, ys[1]? = some y := ⟨_, List.getElem?_eq_getElem (by rw [hyl]; decide)⟩
 have f1 : DataW.trod et Tryz.prog W 0 (fun _ => true) true m 3 (([c0, c1, c2, c3].drop 1).take (Tryz.prog.cellsOf 3)) = some y1 := (hf 1 _ rfl).trans hy1
 rw [cellsT3] at f1
 obtain ⟨y2, hy2⟩ : ∃ y, ys[2]? = some y := ⟨_, List.getElem?_eq_getElem (by rw [hyl]; decide)⟩
 have f2 : DataW.trod et Tryz.prog W 0 (fun _ => true) true m 3 (([c0, c1, c2, c3].drop 2).take (Tryz.prog.cellsOf 3)) = some y2 := (hf 2 _ rfl).trans hy2
 rw [cellsT3] at f2
 obtain ⟨y3, hy3⟩ : ∃ y, ys[3]? = some y := ⟨_, List.getElem?_eq_getElem (by rw [hyl]; decide)⟩
 have f3 : DataW.trod et Tryz.prog W 0 (fun _ => true) true m 3 (([c0, c1, c2, c3].drop 3).take (Tryz.prog.cellsOf 3)) = some y3 := (hf 3 _ rfl).trans hy3
 rw [cellsT3] at f3
 obtain ⟨f, e0, _, _⟩ := DataW.trod_int Tryz.underlying3 f0
 cases e0
 obtain ⟨t, e1, _, _⟩ := DataW.trod_int Tryz.underlying3 f1
 cases e1
 obtain ⟨l, e2, _, _⟩ := DataW.trod_int Tryz.underlying3 f2
 cases e2
 obtain ⟨hi, e3, _, _⟩ := DataW.trod_int Tryz.underlying3 f3
 cases e3
 exact ⟨f, t, l, hi, rfl⟩
set_option maxRecDepth 100000 in
theorem open41 {n : Nat} {cs : List Value} {y : DataW H × List MemPlace} (h : DataW.trod et Tryz.prog W 0 (fun _ => true) true n 72 cs = some y) : ∃ (k0 : Int) (k1 : Int) (k2 : Int) (k3 : Int) (k4 : Int) (k5 : Int) (k6 : Int) (k7 : Int) (k8 : Int) (k9 : Int) (fromn : Int) (fromd : Int) (ton : Int) (tod : Int), cs = [.int .i64 k0, .int .i64 k1, .int .i64 k2, .int .i64 k3, .int .i64 k4, .int .i64 k5, .int .i64 k6, .int .i64 k7, .int .i64 k8, .int .i64 k9, .int .i64 fromn, .int .i64 fromd, .int .i64 ton, .int .i64 tod] := by
 obtain ⟨ys, m, _, _, hl, hyl, hf⟩ := DataW.trod_struct Tryz.underlying72 h
 rw [cellsT41] at hl
 obtain ⟨c0, c1, c2, c3, c4, c5, c6, c7, c8, c9, c10, c11, c12, c13, rfl⟩ := list14 hl
 obtain ⟨y0, hy0⟩ : ∃ y, ys[0]? = some y := ⟨_, List.getElem?_eq_getElem (by rw [hyl]; decide)⟩
 have f0 : DataW.trod et Tryz.prog W 0 (fun _ => true) true m 3 (([c0, c1, c2, c3, c4, c5, c6, c7, c8, c9, c10, c11, c12, c13].drop 0).take (Tryz.prog.cellsOf 3)) = some y0 := (hf 0 _ rfl).trans hy0
 rw [cellsT3] at f0
 obtain ⟨y1, hy1⟩ : ∃ y, ys[1]? = some y := ⟨_, List.getElem?_eq_getElem (by rw [hyl]; decide)⟩
 have f1 : DataW.trod et Tryz.prog W 0 (fun _ => true) true m 3 (([c0, c1, c2, c3, c4, c5, c6, c7, c8, c9, c10, c11, c12, c13].drop 1).take (Tryz.prog.cellsOf 3)) = some y1 := (hf 1 _ rfl).trans hy1
 rw [cellsT3] at f1
 obtain ⟨y2, hy2⟩ : ∃ y, ys[2]? = some y := ⟨_, List.getElem?_eq_getElem (by rw [hyl]; decide)⟩
 have f2 : DataW.trod et Tryz.prog W 0 (fun _ => true) true m 3 (([c0, c1, c2, c3, c4, c5, c6, c7, c8, c9, c10, c11, c12, c13].drop 2).take (Tryz.prog.cellsOf 3)) = some y2 := (hf 2 _ rfl).trans hy2
 rw [cellsT3] at f2
 obtain ⟨y3, hy3⟩ : ∃ y, ys[3]? = some y := ⟨_, List.getElem?_eq_getElem (by rw [hyl]; decide)⟩
 have f3 : DataW.trod et Tryz.prog W 0 (fun _ => true) true m 3 (([c0, c1, c2, c3, c4, c5, c6, c7, c8, c9, c10, c11, c12, c13].drop 3).take (Tryz.prog.cellsOf 3)) = some y3 := (hf 3 _ rfl).trans hy3
 rw [cellsT3] at f3
 obtain ⟨y4, hy4⟩ : ∃ y, ys[4]? = some y := ⟨_, List.getElem?_eq_getElem (by rw [hyl]; decide)⟩
 have f4 : DataW.trod et Tryz.prog W 0 (fun _ => true) true m 3 (([c0, c1, c2, c3, c4, c5, c6, c7, c8, c9, c10, c11, c12, c13].drop 4).take (Tryz.prog.cellsOf 3)) = some y4 := (hf 4 _ rfl).trans hy4
 rw [cellsT3] at f4
 obtain ⟨y5, hy5⟩ : ∃ y, ys[5]? = some y := ⟨_, List.getElem?_eq_getElem (by rw [hyl]; decide)⟩
 have f5 : DataW.trod et Tryz.prog W 0 (fun _ => true) true m 3 (([c0, c1, c2, c3, c4, c5, c6, c7, c8, c9, c10, c11, c12, c13].drop 5).take (Tryz.prog.cellsOf 3)) = some y5 := (hf 5 _ rfl).trans hy5
 rw [cellsT3] at f5
 obtain ⟨y6, hy6⟩ : ∃ y, ys[6]? = some y := ⟨_, List.getElem?_eq_getElem (by rw [hyl]; decide)⟩
 have f6 : DataW.trod et Tryz.prog W 0 (fun _ => true) true m 3 (([c0, c1, c2, c3, c4, c5, c6, c7, c8, c9, c10, c11, c12, c13].drop 6).take (Tryz.prog.cellsOf 3)) = some y6 := (hf 6 _ rfl).trans hy6
 rw [cellsT3] at f6
 obtain ⟨y7, hy7⟩ : ∃ y, ys[7]? = some y := ⟨_, List.getElem?_eq_getElem (by rw [hyl]; decide)⟩
 have f7 : DataW.trod et Tryz.prog W 0 (fun _ => true) true m 3 (([c0, c1, c2, c3, c4, c5, c6, c7, c8, c9, c10, c11, c12, c13].drop 7).take (Tryz.prog.cellsOf 3)) = some y7 := (hf 7 _ rfl).trans hy7
 rw [cellsT3] at f7
 obtain ⟨y8, hy8⟩ : ∃ y, ys[8]? = some y := ⟨_, List.getElem?_eq_getElem (by rw [hyl]; decide)⟩
 have f8 : DataW.trod et Tryz.prog W 0 (fun _ => true) true m 3 (([c0, c1, c2, c3, c4, c5, c6, c7, c8, c9, c10, c11, c12, c13].drop 8).take (Tryz.prog.cellsOf 3)) = some y8 := (hf 8 _ rfl).trans hy8
 rw [cellsT3] at f8
 obtain ⟨y9, hy9⟩ : ∃ y, ys[9]? = some y := ⟨_, List.getElem?_eq_getElem (by rw [hyl]; decide)⟩
 have f9 : DataW.trod et Tryz.prog W 0 (fun _ => true) true m 3 (([c0, c1, c2, c3, c4, c5, c6, c7, c8, c9, c10, c11, c12, c13].drop 9).take (Tryz.prog.cellsOf 3)) = some y9 := (hf 9 _ rfl).trans hy9
 rw [cellsT3] at f9
 obtain ⟨y10, hy10⟩ : ∃ y, ys[10]? = some y := ⟨_, List.getElem?_eq_getElem (by rw [hyl]; decide)⟩
 have f10 : DataW.trod et Tryz.prog W 0 (fun _ => true) true m 70 (([c0, c1, c2, c3, c4, c5, c6, c7, c8, c9, c10, c11, c12, c13].drop 10).take (Tryz.prog.cellsOf 70)) = some y10 := (hf 10 _ rfl).trans hy10
 rw [cellsT39] at f10
 obtain ⟨y11, hy11⟩ : ∃ y, ys[11]? = some y := ⟨_, List.getElem?_eq_getElem (by rw [hyl]; decide)⟩
 have f11 : DataW.trod et Tryz.prog W 0 (fun _ => true) true m 70 (([c0, c1, c2, c3, c4, c5, c6, c7, c8, c9, c10, c11, c12, c13].drop 12).take (Tryz.prog.cellsOf 70)) = some y11 := (hf 11 _ rfl).trans hy11
 rw [cellsT39] at f11
 obtain ⟨k0, e0, _, _⟩ := DataW.trod_int Tryz.underlying3 f0
 cases e0
 obtain ⟨k1, e1, _, _⟩ := DataW.trod_int Tryz.underlying3 f1
 cases e1
 obtain ⟨k2, e2, _, _⟩ := DataW.trod_int Tryz.underlying3 f2
 cases e2
 obtain ⟨k3, e3, _, _⟩ := DataW.trod_int Tryz.underlying3 f3
 cases e3
 obtain ⟨k4, e4, _, _⟩ := DataW.trod_int Tryz.underlying3 f4
 cases e4
 obtain ⟨k5, e5, _, _⟩ := DataW.trod_int Tryz.underlying3 f5
 cases e5
 obtain ⟨k6, e6, _, _⟩ := DataW.trod_int Tryz.underlying3 f6
 cases e6
 obtain ⟨k7, e7, _, _⟩ := DataW.trod_int Tryz.underlying3 f7
 cases e7
 obtain ⟨k8, e8, _, _⟩ := DataW.trod_int Tryz.underlying3 f8
 cases e8
 obtain ⟨k9, e9, _, _⟩ := DataW.trod_int Tryz.underlying3 f9
 cases e9
 obtain ⟨fromn, fromd, e10⟩ := open39 f10
 cases e10
 obtain ⟨ton, tod, e11⟩ := open39 f11
 cases e11
 exact ⟨k0, k1, k2, k3, k4, k5, k6, k7, k8, k9, fromn, fromd, ton, tod, rfl⟩
set_option maxRecDepth 100000 in
theorem open36 {n : Nat} {cs : List Value} {y : DataW H × List MemPlace} (h : DataW.trod et Tryz.prog W 0 (fun _ => true) true n 35 cs = some y) : ∃ (name : List UInt8) (k1 : Int) (k2 : Int) (k3 : Int) (k4 : Int) (k5 : Int) (reach0 : Int) (reach1 : Int) (reach2 : Int) (speed0 : Int) (speed1 : Int) (speed2 : Int) (top0 : Int) (top1 : Int) (top2 : Int) (effort : Int) (rec : Int), cs = [.string ⟨name.toArray⟩, .int .i64 k1, .int .i64 k2, .int .i64 k3, .int .i64 k4, .int .i64 k5, .int .i64 reach0, .int .i64 reach1, .int .i64 reach2, .int .i64 speed0, .int .i64 speed1, .int .i64 speed2, .int .i64 top0, .int .i64 top1, .int .i64 top2, .int .i64 effort, .int .i64 rec] ∧ name.length ≤ maxLen := by
 obtain ⟨ys, m, _, _, hl, hyl, hf⟩ := DataW.trod_struct Tryz.underlying35 h
 rw [cellsT36] at hl
 obtain ⟨c0, c1, c2, c3, c4, c5, c6, c7, c8, c9, c10, c11, c12, c13, c14, c15, c16, rfl⟩ := list17 hl
 obtain ⟨y0, hy0⟩ : ∃ y, ys[0]? = some y := ⟨_, List.getElem?_eq_getElem (by rw [hyl]; decide)⟩
 have f0 : DataW.trod et Tryz.prog W 0 (fun _ => true) true m 9 (([c0, c1, c2, c3, c4, c5, c6, c7, c8, c9, c10, c11, c12, c13, c14, c15, c16].drop 0).take (Tryz.prog.cellsOf 9)) = some y0 := (hf 0 _ rfl).trans hy0
 rw [cellsT9] at f0
 obtain ⟨y1, hy1⟩ : ∃ y, ys[1]? = some y := ⟨_, List.getElem?_eq_getElem (by rw [hyl]; decide)⟩
 have f1 : DataW.trod et Tryz.prog W 0 (fun _ => true) true m 3 (([c0, c1, c2, c3, c4, c5, c6, c7, c8, c9, c10, c11, c12, c13, c14, c15, c16].drop 1).take (Tryz.prog.cellsOf 3)) = some y1 := (hf 1 _ rfl).trans hy1
 rw [cellsT3] at f1
 obtain ⟨y2, hy2⟩ : ∃ y, ys[2]? = some y := ⟨_, List.getElem?_eq_getElem (by rw [hyl]; decide)⟩
 have f2 : DataW.trod et Tryz.prog W 0 (fun _ => true) true m 3 (([c0, c1, c2, c3, c4, c5, c6, c7, c8, c9, c10, c11, c12, c13, c14, c15, c16].drop 2).take (Tryz.prog.cellsOf 3)) = some y2 := (hf 2 _ rfl).trans hy2
 rw [cellsT3] at f2
 obtain ⟨y3, hy3⟩ : ∃ y, ys[3]? = some y := ⟨_, List.getElem?_eq_getElem (by rw [hyl]; decide)⟩
 have f3 : DataW.trod et Tryz.prog W 0 (fun _ => true) true m 3 (([c0, c1, c2, c3, c4, c5, c6, c7, c8, c9, c10, c11, c12, c13, c14, c15, c16].drop 3).take (Tryz.prog.cellsOf 3)) = some y3 := (hf 3 _ rfl).trans hy3
 rw [cellsT3] at f3
 obtain ⟨y4, hy4⟩ : ∃ y, ys[4]? = some y := ⟨_, List.getElem?_eq_getElem (by rw [hyl]; decide)⟩
 have f4 : DataW.trod et Tryz.prog W 0 (fun _ => true) true m 3 (([c0, c1, c2, c3, c4, c5, c6, c7, c8, c9, c10, c11, c12, c13, c14, c15, c16].drop 4).take (Tryz.prog.cellsOf 3)) = some y4 := (hf 4 _ rfl).trans hy4
 rw [cellsT3] at f4
 obtain ⟨y5, hy5⟩ : ∃ y, ys[5]? = some y := ⟨_, List.getElem?_eq_getElem (by rw [hyl]; decide)⟩
 have f5 : DataW.trod et Tryz.prog W 0 (fun _ => true) true m 3 (([c0, c1, c2, c3, c4, c5, c6, c7, c8, c9, c10, c11, c12, c13, c14, c15, c16].drop 5).take (Tryz.prog.cellsOf 3)) = some y5 := (hf 5 _ rfl).trans hy5
 rw [cellsT3] at f5
 obtain ⟨y6, hy6⟩ : ∃ y, ys[6]? = some y := ⟨_, List.getElem?_eq_getElem (by rw [hyl]; decide)⟩
 have f6 : DataW.trod et Tryz.prog W 0 (fun _ => true) true m 33 (([c0, c1, c2, c3, c4, c5, c6, c7, c8, c9, c10, c11, c12, c13, c14, c15, c16].drop 6).take (Tryz.prog.cellsOf 33)) = some y6 := (hf 6 _ rfl).trans hy6
 rw [cellsT34] at f6
 obtain ⟨y7, hy7⟩ : ∃ y, ys[7]? = some y := ⟨_, List.getElem?_eq_getElem (by rw [hyl]; decide)⟩
 have f7 : DataW.trod et Tryz.prog W 0 (fun _ => true) true m 33 (([c0, c1, c2, c3, c4, c5, c6, c7, c8, c9, c10, c11, c12, c13, c14, c15, c16].drop 9).take (Tryz.prog.cellsOf 33)) = some y7 := (hf 7 _ rfl).trans hy7
 rw [cellsT34] at f7
 obtain ⟨y8, hy8⟩ : ∃ y, ys[8]? = some y := ⟨_, List.getElem?_eq_getElem (by rw [hyl]; decide)⟩
 have f8 : DataW.trod et Tryz.prog W 0 (fun _ => true) true m 33 (([c0, c1, c2, c3, c4, c5, c6, c7, c8, c9, c10, c11, c12, c13, c14, c15, c16].drop 12).take (Tryz.prog.cellsOf 33)) = some y8 := (hf 8 _ rfl).trans hy8
 rw [cellsT34] at f8
 obtain ⟨y9, hy9⟩ : ∃ y, ys[9]? = some y := ⟨_, List.getElem?_eq_getElem (by rw [hyl]; decide)⟩
 have f9 : DataW.trod et Tryz.prog W 0 (fun _ => true) true m 3 (([c0, c1, c2, c3, c4, c5, c6, c7, c8, c9, c10, c11, c12, c13, c14, c15, c16].drop 15).take (Tryz.prog.cellsOf 3)) = some y9 := (hf 9 _ rfl).trans hy9
 rw [cellsT3] at f9
 obtain ⟨y10, hy10⟩ : ∃ y, ys[10]? = some y := ⟨_, List.getElem?_eq_getElem (by rw [hyl]; decide)⟩
 have f10 : DataW.trod et Tryz.prog W 0 (fun _ => true) true m 3 (([c0, c1, c2, c3, c4, c5, c6, c7, c8, c9, c10, c11, c12, c13, c14, c15, c16].drop 16).take (Tryz.prog.cellsOf 3)) = some y10 := (hf 10 _ rfl).trans hy10
 rw [cellsT3] at f10
 obtain ⟨s0, e0, _, z0⟩ := DataW.trod_string Tryz.underlying9 f0
 cases e0
 obtain ⟨k1, e1, _, _⟩ := DataW.trod_int Tryz.underlying3 f1
 cases e1
 obtain ⟨k2, e2, _, _⟩ := DataW.trod_int Tryz.underlying3 f2
 cases e2
 obtain ⟨k3, e3, _, _⟩ := DataW.trod_int Tryz.underlying3 f3
 cases e3
 obtain ⟨k4, e4, _, _⟩ := DataW.trod_int Tryz.underlying3 f4
 cases e4
 obtain ⟨k5, e5, _, _⟩ := DataW.trod_int Tryz.underlying3 f5
 cases e5
 obtain ⟨reach0, reach1, reach2, e6⟩ := open34 f6
 cases e6
 obtain ⟨speed0, speed1, speed2, e7⟩ := open34 f7
 cases e7
 obtain ⟨top0, top1, top2, e8⟩ := open34 f8
 cases e8
 obtain ⟨effort, e9, _, _⟩ := DataW.trod_int Tryz.underlying3 f9
 cases e9
 obtain ⟨rec, e10, _, _⟩ := DataW.trod_int Tryz.underlying3 f10
 cases e10
 exact ⟨s0.data.toList, k1, k2, k3, k4, k5, reach0, reach1, reach2, speed0, speed1, speed2, top0, top1, top2, effort, rec, rfl, by rw [Array.length_toList]; exact z0⟩
set_option maxRecDepth 100000 in
theorem open29 {n : Nat} {cs : List Value} {y : DataW H × List MemPlace} (h : DataW.trod et Tryz.prog W 0 (fun _ => true) true n 29 cs = some y) : ∃ (bars : Int) (t : Value) (tL : List Tmp) (p : Value) (pL : List Pau) (x : Value) (xL : List Con), cs = [.int .i64 bars, t, p, x] ∧ IsRow encT 3 W t tL ∧ IsRow encP 4 W p pL ∧ IsRow encC 4 W x xL := by
 obtain ⟨ys, m, _, _, hl, hyl, hf⟩ := DataW.trod_struct Tryz.underlying29 h
 rw [cellsT29] at hl
 obtain ⟨c0, c1, c2, c3, rfl⟩ := list4 hl
 obtain ⟨y0, hy0⟩ : ∃ y, ys[0]? = some y := ⟨_, List.getElem?_eq_getElem (by rw [hyl]; decide)⟩
 have f0 : DataW.trod et Tryz.prog W 0 (fun _ => true) true m 3 (([c0, c1, c2, c3].drop 0).take (Tryz.prog.cellsOf 3)) = some y0 := (hf 0 _ rfl).trans hy0
 rw [cellsT3] at f0
 obtain ⟨y1, hy1⟩ : ∃ y, ys[1]? = some y := ⟨_, List.getElem?_eq_getElem (by rw [hyl]; decide)⟩
 have f1 : DataW.trod et Tryz.prog W 0 (fun _ => true) true m 25 (([c0, c1, c2, c3].drop 1).take (Tryz.prog.cellsOf 25)) = some y1 := (hf 1 _ rfl).trans hy1
 rw [cellsT25] at f1
 obtain ⟨y2, hy2⟩ : ∃ y, ys[2]? = some y := ⟨_, List.getElem?_eq_getElem (by rw [hyl]; decide)⟩
 have f2 : DataW.trod et Tryz.prog W 0 (fun _ => true) true m 26 (([c0, c1, c2, c3].drop 2).take (Tryz.prog.cellsOf 26)) = some y2 := (hf 2 _ rfl).trans hy2
 rw [cellsT26] at f2
 obtain ⟨y3, hy3⟩ : ∃ y, ys[3]? = some y := ⟨_, List.getElem?_eq_getElem (by rw [hyl]; decide)⟩
 have f3 : DataW.trod et Tryz.prog W 0 (fun _ => true) true m 27 (([c0, c1, c2, c3].drop 3).take (Tryz.prog.cellsOf 27)) = some y3 := (hf 3 _ rfl).trans hy3
 rw [cellsT27] at f3
 obtain ⟨bars, e0, _, _⟩ := DataW.trod_int Tryz.underlying3 f0
 cases e0
 obtain ⟨tL, i1⟩ := row_of_trod (enc := encT) Tryz.underlying25 cellsT140 (by decide) (fun n cs y h => by obtain ⟨b, t, s, e⟩ := open140 h; exact ⟨⟨b, t, s⟩, e⟩) f1
 obtain ⟨pL, i2⟩ := row_of_trod (enc := encP) Tryz.underlying26 cellsT182 (by decide) (fun n cs y h => by obtain ⟨b, k, l, hi, e⟩ := open182 h; exact ⟨⟨b, k, l, hi⟩, e⟩) f2
 obtain ⟨xL, i3⟩ := row_of_trod (enc := encC) Tryz.underlying27 cellsT184 (by decide) (fun n cs y h => by obtain ⟨f, t, l, hi, e⟩ := open184 h; exact ⟨⟨f, t, l, hi⟩, e⟩) f3
 exact ⟨bars, _, tL, _, pL, _, xL, rfl, i1, i2, i3⟩
set_option maxRecDepth 100000 in
theorem open32 {n : Nat} {cs : List Value} {y : DataW H × List MemPlace} (h : DataW.trod et Tryz.prog W 0 (fun _ => true) true n 32 cs = some y) : ∃ (wd : Int) (dp : Int) (tola : Int) (tolb : Int) (tolc : Int) (r : Value) (rL : List Rol) (clockbars : Int) (clockt : Value) (clocktL : List Tmp) (clockp : Value) (clockpL : List Pau) (clockx : Value) (clockxL : List Con) (s : Value) (sL : List Sgn), cs = [.int .i64 wd, .int .i64 dp, .int .i64 tola, .int .i64 tolb, .int .i64 tolc, r, .int .i64 clockbars, clockt, clockp, clockx, s] ∧ IsRow encR 4 W r rL ∧ IsRow encT 3 W clockt clocktL ∧ IsRow encP 4 W clockp clockpL ∧ IsRow encC 4 W clockx clockxL ∧ IsRow encS 14 W s sL := by
 obtain ⟨ys, m, _, _, hl, hyl, hf⟩ := DataW.trod_struct Tryz.underlying32 h
 rw [cellsT32] at hl
 obtain ⟨c0, c1, c2, c3, c4, c5, c6, c7, c8, c9, c10, rfl⟩ := list11 hl
 obtain ⟨y0, hy0⟩ : ∃ y, ys[0]? = some y := ⟨_, List.getElem?_eq_getElem (by rw [hyl]; decide)⟩
 have f0 : DataW.trod et Tryz.prog W 0 (fun _ => true) true m 3 (([c0, c1, c2, c3, c4, c5, c6, c7, c8, c9, c10].drop 0).take (Tryz.prog.cellsOf 3)) = some y0 := (hf 0 _ rfl).trans hy0
 rw [cellsT3] at f0
 obtain ⟨y1, hy1⟩ : ∃ y, ys[1]? = some y := ⟨_, List.getElem?_eq_getElem (by rw [hyl]; decide)⟩
 have f1 : DataW.trod et Tryz.prog W 0 (fun _ => true) true m 3 (([c0, c1, c2, c3, c4, c5, c6, c7, c8, c9, c10].drop 1).take (Tryz.prog.cellsOf 3)) = some y1 := (hf 1 _ rfl).trans hy1
 rw [cellsT3] at f1
 obtain ⟨y2, hy2⟩ : ∃ y, ys[2]? = some y := ⟨_, List.getElem?_eq_getElem (by rw [hyl]; decide)⟩
 have f2 : DataW.trod et Tryz.prog W 0 (fun _ => true) true m 23 (([c0, c1, c2, c3, c4, c5, c6, c7, c8, c9, c10].drop 2).take (Tryz.prog.cellsOf 23)) = some y2 := (hf 2 _ rfl).trans hy2
 rw [cellsT23] at f2
 obtain ⟨y3, hy3⟩ : ∃ y, ys[3]? = some y := ⟨_, List.getElem?_eq_getElem (by rw [hyl]; decide)⟩
 have f3 : DataW.trod et Tryz.prog W 0 (fun _ => true) true m 24 (([c0, c1, c2, c3, c4, c5, c6, c7, c8, c9, c10].drop 5).take (Tryz.prog.cellsOf 24)) = some y3 := (hf 3 _ rfl).trans hy3
 rw [cellsT24] at f3
 obtain ⟨y4, hy4⟩ : ∃ y, ys[4]? = some y := ⟨_, List.getElem?_eq_getElem (by rw [hyl]; decide)⟩
 have f4 : DataW.trod et Tryz.prog W 0 (fun _ => true) true m 29 (([c0, c1, c2, c3, c4, c5, c6, c7, c8, c9, c10].drop 6).take (Tryz.prog.cellsOf 29)) = some y4 := (hf 4 _ rfl).trans hy4
 rw [cellsT29] at f4
 obtain ⟨y5, hy5⟩ : ∃ y, ys[5]? = some y := ⟨_, List.getElem?_eq_getElem (by rw [hyl]; decide)⟩
 have f5 : DataW.trod et Tryz.prog W 0 (fun _ => true) true m 30 (([c0, c1, c2, c3, c4, c5, c6, c7, c8, c9, c10].drop 10).take (Tryz.prog.cellsOf 30)) = some y5 := (hf 5 _ rfl).trans hy5
 rw [cellsT30] at f5
 obtain ⟨wd, e0, _, _⟩ := DataW.trod_int Tryz.underlying3 f0
 cases e0
 obtain ⟨dp, e1, _, _⟩ := DataW.trod_int Tryz.underlying3 f1
 cases e1
 obtain ⟨tola, tolb, tolc, e2⟩ := open23 f2
 cases e2
 obtain ⟨rL, i3⟩ := row_of_trod (enc := encR) Tryz.underlying24 cellsT109 (by decide) (fun n cs y h => by obtain ⟨name, x, y, f, e, _⟩ := open109 h; exact ⟨⟨name, x, y, f⟩, e⟩) f3
 obtain ⟨clockbars, clockt, clocktL, clockp, clockpL, clockx, clockxL, e4, i4_0, i4_1, i4_2⟩ := open29 f4
 cases e4
 obtain ⟨sL, i5⟩ := row_of_trod (enc := encS) Tryz.underlying30 cellsT41 (by decide) (fun n cs y h => by obtain ⟨k0, k1, k2, k3, k4, k5, k6, k7, k8, k9, fromn, fromd, ton, tod, e⟩ := open41 h; exact ⟨⟨k0, k1, k2, k3, k4, k5, k6, k7, k8, k9, fromn, fromd, ton, tod⟩, e⟩) f5
 exact ⟨wd, dp, tola, tolb, tolc, _, rL, clockbars, _, clocktL, _, clockpL, _, clockxL, _, sL, rfl, i3, i4_0, i4_1, i4_2, i5⟩
end
end Go.Proofs.YtggcbblikgankaaGreatDoor
end
