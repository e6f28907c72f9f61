/- Contracts and plain laws on the way to the statement: part 31. -/
import Derived.Test.YtggcbblikgankaaGreatDoorZ29
import Derived.OpenShut
import Derived.ShutString
import Derived.Test.YtggcbblikgankaaGreatDoorZ3
set_option linter.unusedVariables false
set_option linter.unusedSimpArgs false
set_option maxRecDepth 100000
set_option maxHeartbeats 16000000
namespace Go.Proofs.YtggcbblikgankaaGreatDoor
open Go.Value (int)
open Go.IntKind (i64)
section
open Go Go.ChangeShapes Go.WideShapes Go.ChangeAt Go.RowKit
theorem SP {cs : List Value} (h : cs.length = 2) : ∃ c0 c1, cs = [c0, c1] := by
 match cs, h with
 | [c0, c1], _ => exact ⟨c0, c1, rfl⟩
theorem Qr {cs : List Value} (h : cs.length = 3) : ∃ c0 c1 c2, cs = [c0, c1, c2] := by
 match cs, h with
 | [c0, c1, c2], _ => exact ⟨c0, c1, c2, rfl⟩
theorem NB {cs : List Value} (h : cs.length = 4) : ∃ c0 c1 c2 c3, cs = [c0, c1, c2, c3] := by
 match cs, h with
 | [c0, c1, c2, c3], _ => exact ⟨c0, c1, c2, c3, rfl⟩
theorem Sr {cs : List Value} (h : cs.length = 11) : ∃ c0 c1 c2 c3 c4 c5 c6 c7 c8 c9 c10, cs = [c0, c1, c2, c3, c4, c5, c6, c7, c8, c9, c10] := by
 match cs, h with
 | [c0, c1, c2, c3, c4, c5, c6, c7, c8, c9, c10], _ => exact ⟨c0, c1, c2, c3, c4, c5, c6, c7, c8, c9, c10, rfl⟩
theorem Ss {cs : List Value} (h : cs.length = 14) : ∃ c0 c1 c2 c3 c4 c5 c6 c7 c8 c9 c10 c11 c12 c13, cs = [c0, c1, c2, c3, c4, c5, c6, c7, c8, c9, c10, c11, c12, c13] := by
 match cs, h with
 | [c0, c1, c2, c3, c4, c5, c6, c7, c8, c9, c10, c11, c12, c13], _ => exact ⟨c0, c1, c2, c3, c4, c5, c6, c7, c8, c9, c10, c11, c12, c13, rfl⟩
theorem Sv {cs : List Value} (h : cs.length = 17) : ∃ c0 c1 c2 c3 c4 c5 c6 c7 c8 c9 c10 c11 c12 c13 c14 c15 c16, cs = [c0, c1, c2, c3, c4, c5, c6, c7, c8, c9, c10, c11, c12, c13, c14, c15, c16] := by
 match cs, h with
 | [c0, c1, c2, c3, c4, c5, c6, c7, c8, c9, c10, c11, c12, c13, c14, c15, c16], _ => exact ⟨c0, c1, c2, c3, c4, c5, c6, c7, c8, c9, c10, c11, c12, c13, c14, c15, c16, rfl⟩
section
variable {H : Type} {et : TypeId × Value → H} {W : World}
theorem Ad : Tryz.prog.cellsOf 3 = 1 := by kernel_rfl
theorem Nr : Tryz.prog.cellsOf 9 = 1 := by kernel_rfl
theorem KL : Tryz.prog.cellsOf 23 = 3 := by kernel_rfl
theorem PJ : Tryz.prog.cellsOf 24 = 1 := by kernel_rfl
theorem PL : Tryz.prog.cellsOf 25 = 1 := by kernel_rfl
theorem PN : Tryz.prog.cellsOf 26 = 1 := by kernel_rfl
theorem PO : Tryz.prog.cellsOf 27 = 1 := by kernel_rfl
theorem KP : Tryz.prog.cellsOf 29 = 4 := by kernel_rfl
theorem PS : Tryz.prog.cellsOf 30 = 1 := by kernel_rfl
theorem PT : Tryz.prog.cellsOf 32 = 11 := by kernel_rfl
theorem Fm : Tryz.prog.cellsOf 33 = 3 := by kernel_rfl
theorem PU : Tryz.prog.cellsOf 35 = 17 := by kernel_rfl
theorem H6 : Tryz.prog.cellsOf 70 = 2 := by kernel_rfl
theorem KQ : Tryz.prog.cellsOf 72 = 14 := by kernel_rfl
theorem IZ : Tryz.prog.cellsOf 86 = 4 := by kernel_rfl
theorem J6 : Tryz.prog.cellsOf 88 = 3 := by kernel_rfl
theorem J9 : Tryz.prog.cellsOf 171 = 4 := by kernel_rfl
theorem Ja : Tryz.prog.cellsOf 173 = 4 := by kernel_rfl
theorem MB {n : Nat} {cs : List Value} {y : DataW H × List MemPlace} (h : DataW.trod et Tryz.prog W 0 (fun _ => true) true n 33 cs = some y) : ∃ (a0 a1 a2 : Int), cs = [int i64 a0, int i64 a1, int i64 a2] := by
 obtain ⟨ys, m, _, _, hl, hyl, hf⟩ := DataW.trod_array Tryz.underlying33 h
 rw [Fm] at hl
 obtain ⟨c0, c1, c2, rfl⟩ := Qr hl
 obtain ⟨y0, hy0⟩ : ∃ y, ys[0]? = some y := ⟨_, qg (by omega)⟩
 obtain ⟨y1, hy1⟩ : ∃ y, ys[1]? = some y := ⟨_, qg (by omega)⟩
 obtain ⟨y2, hy2⟩ : ∃ y, ys[2]? = some y := ⟨_, qg (by omega)⟩
 have f0 : DataW.trod et Tryz.prog W 0 (fun _ => true) true m 3 [c0] = some y0 := by
  have := hf 0 (by omega)
  rw [Ad, hy0] at this
  exact this
 obtain ⟨a0, e0, _, _⟩ := DataW.trod_int Tryz.underlying3 f0
 cases e0
 have f1 : DataW.trod et Tryz.prog W 0 (fun _ => true) true m 3 [c1] = some y1 := by
  have := hf 1 (by omega)
  rw [Ad, hy1] at this
  exact this
 obtain ⟨a1, e1, _, _⟩ := DataW.trod_int Tryz.underlying3 f1
 cases e1
 have f2 : DataW.trod et Tryz.prog W 0 (fun _ => true) true m 3 [c2] = some y2 := by
  have := hf 2 (by omega)
  rw [Ad, hy2] at this
  exact this
 obtain ⟨a2, e2, _, _⟩ := DataW.trod_int Tryz.underlying3 f2
 cases e2
 exact ⟨a0, a1, a2, rfl⟩
theorem QB {n : Nat} {cs : List Value} {y : DataW H × List MemPlace} (h : DataW.trod et Tryz.prog W 0 (fun _ => true) true n 70 cs = some y) : ∃ (n : Int) (d : Int), cs = [int i64 n, int i64 d] := by
 obtain ⟨ys, m, _, _, hl, hyl, hf⟩ := DataW.trod_struct Tryz.underlying70 h
 rw [H6] at hl
 obtain ⟨c0, c1, rfl⟩ := SP hl
 obtain ⟨y0, hy0⟩ : ∃ y, ys[0]? = some y := ⟨_, qg (by rw [hyl]; decide)⟩
 have f0 : DataW.trod et Tryz.prog W 0 (fun _ => true) true m 3 (([c0, c1].drop 0).take (Tryz.prog.cellsOf 3)) = some y0 := (hf 0 _ rfl).trans hy0
 rw [Ad] at f0
 obtain ⟨y1, hy1⟩ : ∃ y, ys[1]? = some y := ⟨_, qg (by rw [hyl]; decide)⟩
 have f1 : DataW.trod et Tryz.prog W 0 (fun _ => true) true m 3 (([c0, c1].drop 1).take (Tryz.prog.cellsOf 3)) = some y1 := (hf 1 _ rfl).trans hy1
 rw [Ad] at f1
 obtain ⟨n, e0, _, _⟩ := DataW.trod_int Tryz.underlying3 f0
 cases e0
 obtain ⟨d, e1, _, _⟩ := DataW.trod_int Tryz.underlying3 f1
 cases e1
 exact ⟨n, d, rfl⟩
theorem Sw {n : Nat} {cs : List Value} {y : DataW H × List MemPlace} (h : DataW.trod et Tryz.prog W 0 (fun _ => true) true n 23 cs = some y) : ∃ (a : Int) (b : Int) (c : Int), cs = [int i64 a, int i64 b, int i64 c] := by
 obtain ⟨ys, m, _, _, hl, hyl, hf⟩ := DataW.trod_struct Tryz.underlying23 h
 rw [KL] at hl
 obtain ⟨c0, c1, c2, rfl⟩ := Qr hl
 obtain ⟨y0, hy0⟩ : ∃ y, ys[0]? = some y := ⟨_, qg (by rw [hyl]; decide)⟩
 have f0 : DataW.trod et Tryz.prog W 0 (fun _ => true) true m 3 (([c0, c1, c2].drop 0).take (Tryz.prog.cellsOf 3)) = some y0 := (hf 0 _ rfl).trans hy0
 rw [Ad] at f0
 obtain ⟨y1, hy1⟩ : ∃ y, ys[1]? = some y := ⟨_, qg (by rw [hyl]; decide)⟩
 have f1 : DataW.trod et Tryz.prog W 0 (fun _ => true) true m 3 (([c0, c1, c2].drop 1).take (Tryz.prog.cellsOf 3)) = some y1 := (hf 1 _ rfl).trans hy1
 rw [Ad] at f1
 obtain ⟨y2, hy2⟩ : ∃ y, ys[2]? = some y := ⟨_, qg (by rw [hyl]; decide)⟩
 have f2 : DataW.trod et Tryz.prog W 0 (fun _ => true) true m 3 (([c0, c1, c2].drop 2).take (Tryz.prog.cellsOf 3)) = some y2 := (hf 2 _ rfl).trans hy2
 rw [Ad] at f2
 obtain ⟨a, e0, _, _⟩ := DataW.trod_int Tryz.underlying3 f0
 cases e0
 obtain ⟨b, e1, _, _⟩ := DataW.trod_int Tryz.underlying3 f1
 cases e1
 obtain ⟨c, e2, _, _⟩ := DataW.trod_int Tryz.underlying3 f2
 cases e2
 exact ⟨a, b, c, rfl⟩
theorem RD {n : Nat} {cs : List Value} {y : DataW H × List MemPlace} (h : DataW.trod et Tryz.prog W 0 (fun _ => true) true n 86 cs = some y) : ∃ (name : List UInt8) (x : Int) (y : Int) (f : Int), cs = [.string ⟨name.toArray⟩, int i64 x, int i64 y, int i64 f] ∧ name.length ≤ maxLen := by
 obtain ⟨ys, m, _, _, hl, hyl, hf⟩ := DataW.trod_struct Tryz.underlying86 h
 rw [IZ] at hl
 obtain ⟨c0, c1, c2, c3, rfl⟩ := NB hl
 obtain ⟨y0, hy0⟩ : ∃ y, ys[0]? = some y := ⟨_, qg (by rw [hyl]; decide)⟩
 have f0 : DataW.trod et Tryz.prog W 0 (fun _ => true) true m 9 (([c0, c1, c2, c3].drop 0).take (Tryz.prog.cellsOf 9)) = some y0 := (hf 0 _ rfl).trans hy0
 rw [Nr] at f0
 obtain ⟨y1, hy1⟩ : ∃ y, ys[1]? = some y := ⟨_, qg (by rw [hyl]; decide)⟩
 have f1 : DataW.trod et Tryz.prog W 0 (fun _ => true) true m 3 (([c0, c1, c2, c3].drop 1).take (Tryz.prog.cellsOf 3)) = some y1 := (hf 1 _ rfl).trans hy1
 rw [Ad] at f1
 obtain ⟨y2, hy2⟩ : ∃ y, ys[2]? = some y := ⟨_, qg (by rw [hyl]; decide)⟩
 have f2 : DataW.trod et Tryz.prog W 0 (fun _ => true) true m 3 (([c0, c1, c2, c3].drop 2).take (Tryz.prog.cellsOf 3)) = some y2 := (hf 2 _ rfl).trans hy2
 rw [Ad] at f2
 obtain ⟨y3, hy3⟩ : ∃ y, ys[3]? = some y := ⟨_, qg (by rw [hyl]; decide)⟩
 have f3 : DataW.trod et Tryz.prog W 0 (fun _ => true) true m 3 (([c0, c1, c2, c3].drop 3).take (Tryz.prog.cellsOf 3)) = some y3 := (hf 3 _ rfl).trans hy3
 rw [Ad] at f3
 obtain ⟨s0, e0, _, z0⟩ := DataW.trod_string Tryz.underlying9 f0
 cases e0
 obtain ⟨x, e1, _, _⟩ := DataW.trod_int Tryz.underlying3 f1
 cases e1
 obtain ⟨y, e2, _, _⟩ := DataW.trod_int Tryz.underlying3 f2
 cases e2
 obtain ⟨f, e3, _, _⟩ := DataW.trod_int Tryz.underlying3 f3
 cases e3
 exact ⟨s0.data.toList, x, y, f, rfl, by rw [Array.length_toList]; exact z0⟩
theorem RE {n : Nat} {cs : List Value} {y : DataW H × List MemPlace} (h : DataW.trod et Tryz.prog W 0 (fun _ => true) true n 88 cs = some y) : ∃ (b : Int) (t : Int) (s : Int), cs = [int i64 b, int i64 t, int i64 s] := by
 obtain ⟨ys, m, _, _, hl, hyl, hf⟩ := DataW.trod_struct Tryz.underlying88 h
 rw [J6] at hl
 obtain ⟨c0, c1, c2, rfl⟩ := Qr hl
 obtain ⟨y0, hy0⟩ : ∃ y, ys[0]? = some y := ⟨_, qg (by rw [hyl]; decide)⟩
 have f0 : DataW.trod et Tryz.prog W 0 (fun _ => true) true m 3 (([c0, c1, c2].drop 0).take (Tryz.prog.cellsOf 3)) = some y0 := (hf 0 _ rfl).trans hy0
 rw [Ad] at f0
 obtain ⟨y1, hy1⟩ : ∃ y, ys[1]? = some y := ⟨_, qg (by rw [hyl]; decide)⟩
 have f1 : DataW.trod et Tryz.prog W 0 (fun _ => true) true m 3 (([c0, c1, c2].drop 1).take (Tryz.prog.cellsOf 3)) = some y1 := (hf 1 _ rfl).trans hy1
 rw [Ad] at f1
 obtain ⟨y2, hy2⟩ : ∃ y, ys[2]? = some y := ⟨_, qg (by rw [hyl]; decide)⟩
 have f2 : DataW.trod et Tryz.prog W 0 (fun _ => true) true m 3 (([c0, c1, c2].drop 2).take (Tryz.prog.cellsOf 3)) = some y2 := (hf 2 _ rfl).trans hy2
 rw [Ad] at f2
 obtain ⟨b, e0, _, _⟩ := DataW.trod_int Tryz.underlying3 f0
 cases e0
 obtain ⟨t, e1, _, _⟩ := DataW.trod_int Tryz.underlying3 f1
 cases e1
 obtain ⟨s, e2, _, _⟩ := DataW.trod_int Tryz.underlying3 f2
 cases e2
 exact ⟨b, t, s, rfl⟩
theorem RF {n : Nat} {cs : List Value} {y : DataW H × List MemPlace} (h : DataW.trod et Tryz.prog W 0 (fun _ => true) true n 171 cs = some y) : ∃ (b : Int) (k : Int) (l : Int) (hi : Int), cs = [int i64 b, int i64 k, int i64 l, int i64 hi] := by
 obtain ⟨ys, m, _, _, hl, hyl, hf⟩ := DataW.trod_struct Tryz.underlying171 h
 rw [J9] at hl
 obtain ⟨c0, c1, c2, c3, rfl⟩ := NB hl
 obtain ⟨y0, hy0⟩ : ∃ y, ys[0]? = some y := ⟨_, qg (by rw [hyl]; decide)⟩
 have f0 : DataW.trod et Tryz.prog W 0 (fun _ => true) true m 3 (([c0, c1, c2, c3].drop 0).take (Tryz.prog.cellsOf 3)) = some y0 := (hf 0 _ rfl).trans hy0
 rw [Ad] at f0
 obtain ⟨y1, hy1⟩ : ∃ y, ys[1]? = some y := ⟨_, qg (by rw [hyl]; decide)⟩
 have f1 : DataW.trod et Tryz.prog W 0 (fun _ => true) true m 3 (([c0, c1, c2, c3].drop 1).take (Tryz.prog.cellsOf 3)) = some y1 := (hf 1 _ rfl).trans hy1
 rw [Ad] at f1
 obtain ⟨y2, hy2⟩ : ∃ y, ys[2]? = some y := ⟨_, qg (by rw [hyl]; decide)⟩
 have f2 : DataW.trod et Tryz.prog W 0 (fun _ => true) true m 3 (([c0, c1, c2, c3].drop 2).take (Tryz.prog.cellsOf 3)) = some y2 := (hf 2 _ rfl).trans hy2
 rw [Ad] at f2
 obtain ⟨y3, hy3⟩ : ∃ y, ys[3]? = some y := ⟨_, qg (by rw [hyl]; decide)⟩
 have f3 : DataW.trod et Tryz.prog W 0 (fun _ => true) true m 3 (([c0, c1, c2, c3].drop 3).take (Tryz.prog.cellsOf 3)) = some y3 := (hf 3 _ rfl).trans hy3
 rw [Ad] at f3
 obtain ⟨b, e0, _, _⟩ := DataW.trod_int Tryz.underlying3 f0
 cases e0
 obtain ⟨k, e1, _, _⟩ := DataW.trod_int Tryz.underlying3 f1
 cases e1
 obtain ⟨l, e2, _, _⟩ := DataW.trod_int Tryz.underlying3 f2
 cases e2
 obtain ⟨hi, e3, _, _⟩ := DataW.trod_int Tryz.underlying3 f3
 cases e3
 exact ⟨b, k, l, hi, rfl⟩
theorem RJ {n : Nat} {cs : List Value} {y : DataW H × List MemPlace} (h : DataW.trod et Tryz.prog W 0 (fun _ => true) true n 173 cs = some y) : ∃ (f : Int) (t : Int) (l : Int) (hi : Int), cs = [int i64 f, int i64 t, int i64 l, int i64 hi] := by
 obtain ⟨ys, m, _, _, hl, hyl, hf⟩ := DataW.trod_struct Tryz.underlying173 h
 rw [Ja] at hl
 obtain ⟨c0, c1, c2, c3, rfl⟩ := NB hl
 obtain ⟨y0, hy0⟩ : ∃ y, ys[0]? = some y := ⟨_, qg (by rw [hyl]; decide)⟩
 have f0 : DataW.trod et Tryz.prog W 0 (fun _ => true) true m 3 (([c0, c1, c2, c3].drop 0).take (Tryz.prog.cellsOf 3)) = some y0 := (hf 0 _ rfl).trans hy0
 rw [Ad] at f0
 obtain ⟨y1, hy1⟩ : ∃ y, ys[1]? = some y := ⟨_, qg (by rw [hyl]; decide)⟩
 have f1 : DataW.trod et Tryz.prog W 0 (fun _ => true) true m 3 (([c0, c1, c2, c3].drop 1).take (Tryz.prog.cellsOf 3)) = some y1 := (hf 1 _ rfl).trans hy1
 rw [Ad] at f1
 obtain ⟨y2, hy2⟩ : ∃ y, ys[2]? = some y := ⟨_, qg (by rw [hyl]; decide)⟩
 have f2 : DataW.trod et Tryz.prog W 0 (fun _ => true) true m 3 (([c0, c1, c2, c3].drop 2).take (Tryz.prog.cellsOf 3)) = some y2 := (hf 2 _ rfl).trans hy2
 rw [Ad] at f2
 obtain ⟨y3, hy3⟩ : ∃ y, ys[3]? = some y := ⟨_, qg (by rw [hyl]; decide)⟩
 have f3 : DataW.trod et Tryz.prog W 0 (fun _ => true) true m 3 (([c0, c1, c2, c3].drop 3).take (Tryz.prog.cellsOf 3)) = some y3 := (hf 3 _ rfl).trans hy3
 rw [Ad] at f3
 obtain ⟨f, e0, _, _⟩ := DataW.trod_int Tryz.underlying3 f0
 cases e0
 obtain ⟨t, e1, _, _⟩ := DataW.trod_int Tryz.underlying3 f1
 cases e1
 obtain ⟨l, e2, _, _⟩ := DataW.trod_int Tryz.underlying3 f2
 cases e2
 obtain ⟨hi, e3, _, _⟩ := DataW.trod_int Tryz.underlying3 f3
 cases e3
 exact ⟨f, t, l, hi, rfl⟩
theorem SB {n : Nat} {cs : List Value} {y : DataW H × List MemPlace} (h : DataW.trod et Tryz.prog W 0 (fun _ => true) true n 72 cs = some y) : ∃ (k0 : Int) (k1 : Int) (k2 : Int) (k3 : Int) (k4 : Int) (k5 : Int) (k6 : Int) (k7 : Int) (k8 : Int) (k9 : Int) (fromn : Int) (fromd : Int) (ton : Int) (tod : Int), cs = [int i64 k0, int i64 k1, int i64 k2, int i64 k3, int i64 k4, int i64 k5, int i64 k6, int i64 k7, int i64 k8, int i64 k9, int i64 fromn, int i64 fromd, int i64 ton, int i64 tod] := by
 obtain ⟨ys, m, _, _, hl, hyl, hf⟩ := DataW.trod_struct Tryz.underlying72 h
 rw [KQ] at hl
 obtain ⟨c0, c1, c2, c3, c4, c5, c6, c7, c8, c9, c10, c11, c12, c13, rfl⟩ := Ss hl
 obtain ⟨y0, hy0⟩ : ∃ y, ys[0]? = some y := ⟨_, qg (by rw [hyl]; decide)⟩
 have f0 : DataW.trod et Tryz.prog W 0 (fun _ => true) true m 3 (([c0, c1, c2, c3, c4, c5, c6, c7, c8, c9, c10, c11, c12, c13].drop 0).take (Tryz.prog.cellsOf 3)) = some y0 := (hf 0 _ rfl).trans hy0
 rw [Ad] at f0
 obtain ⟨y1, hy1⟩ : ∃ y, ys[1]? = some y := ⟨_, qg (by rw [hyl]; decide)⟩
 have f1 : DataW.trod et Tryz.prog W 0 (fun _ => true) true m 3 (([c0, c1, c2, c3, c4, c5, c6, c7, c8, c9, c10, c11, c12, c13].drop 1).take (Tryz.prog.cellsOf 3)) = some y1 := (hf 1 _ rfl).trans hy1
 rw [Ad] at f1
 obtain ⟨y2, hy2⟩ : ∃ y, ys[2]? = some y := ⟨_, qg (by rw [hyl]; decide)⟩
 have f2 : DataW.trod et Tryz.prog W 0 (fun _ => true) true m 3 (([c0, c1, c2, c3, c4, c5, c6, c7, c8, c9, c10, c11, c12, c13].drop 2).take (Tryz.prog.cellsOf 3)) = some y2 := (hf 2 _ rfl).trans hy2
 rw [Ad] at f2
 obtain ⟨y3, hy3⟩ : ∃ y, ys[3]? = some y := ⟨_, qg (by rw [hyl]; decide)⟩
 have f3 : DataW.trod et Tryz.prog W 0 (fun _ => true) true m 3 (([c0, c1, c2, c3, c4, c5, c6, c7, c8, c9, c10, c11, c12, c13].drop 3).take (Tryz.prog.cellsOf 3)) = some y3 := (hf 3 _ rfl).trans hy3
 rw [Ad] at f3
 obtain ⟨y4, hy4⟩ : ∃ y, ys[4]? = some y := ⟨_, qg (by rw [hyl]; decide)⟩
 have f4 : DataW.trod et Tryz.prog W 0 (fun _ => true) true m 3 (([c0, c1, c2, c3, c4, c5, c6, c7, c8, c9, c10, c11, c12, c13].drop 4).take (Tryz.prog.cellsOf 3)) = some y4 := (hf 4 _ rfl).trans hy4
 rw [Ad] at f4
 obtain ⟨y5, hy5⟩ : ∃ y, ys[5]? = some y := ⟨_, qg (by rw [hyl]; decide)⟩
 have f5 : DataW.trod et Tryz.prog W 0 (fun _ => true) true m 3 (([c0, c1, c2, c3, c4, c5, c6, c7, c8, c9, c10, c11, c12, c13].drop 5).take (Tryz.prog.cellsOf 3)) = some y5 := (hf 5 _ rfl).trans hy5
 rw [Ad] at f5
 obtain ⟨y6, hy6⟩ : ∃ y, ys[6]? = some y := ⟨_, qg (by rw [hyl]; decide)⟩
 have f6 : DataW.trod et Tryz.prog W 0 (fun _ => true) true m 3 (([c0, c1, c2, c3, c4, c5, c6, c7, c8, c9, c10, c11, c12, c13].drop 6).take (Tryz.prog.cellsOf 3)) = some y6 := (hf 6 _ rfl).trans hy6
 rw [Ad] at f6
 obtain ⟨y7, hy7⟩ : ∃ y, ys[7]? = some y := ⟨_, qg (by rw [hyl]; decide)⟩
 have f7 : DataW.trod et Tryz.prog W 0 (fun _ => true) true m 3 (([c0, c1, c2, c3, c4, c5, c6, c7, c8, c9, c10, c11, c12, c13].drop 7).take (Tryz.prog.cellsOf 3)) = some y7 := (hf 7 _ rfl).trans hy7
 rw [Ad] at f7
 obtain ⟨y8, hy8⟩ : ∃ y, ys[8]? = some y := ⟨_, qg (by rw [hyl]; decide)⟩
 have f8 : DataW.trod et Tryz.prog W 0 (fun _ => true) true m 3 (([c0, c1, c2, c3, c4, c5, c6, c7, c8, c9, c10, c11, c12, c13].drop 8).take (Tryz.prog.cellsOf 3)) = some y8 := (hf 8 _ rfl).trans hy8
 rw [Ad] at f8
 obtain ⟨y9, hy9⟩ : ∃ y, ys[9]? = some y := ⟨_, qg (by rw [hyl]; decide)⟩
 have f9 : DataW.trod et Tryz.prog W 0 (fun _ => true) true m 3 (([c0, c1, c2, c3, c4, c5, c6, c7, c8, c9, c10, c11, c12, c13].drop 9).take (Tryz.prog.cellsOf 3)) = some y9 := (hf 9 _ rfl).trans hy9
 rw [Ad] at f9
 obtain ⟨y10, hy10⟩ : ∃ y, ys[10]? = some y := ⟨_, qg (by rw [hyl]; decide)⟩
 have f10 : DataW.trod et Tryz.prog W 0 (fun _ => true) true m 70 (([c0, c1, c2, c3, c4, c5, c6, c7, c8, c9, c10, c11, c12, c13].drop 10).take (Tryz.prog.cellsOf 70)) = some y10 := (hf 10 _ rfl).trans hy10
 rw [H6] at f10
 obtain ⟨y11, hy11⟩ : ∃ y, ys[11]? = some y := ⟨_, qg (by rw [hyl]; decide)⟩
 have f11 : DataW.trod et Tryz.prog W 0 (fun _ => true) true m 70 (([c0, c1, c2, c3, c4, c5, c6, c7, c8, c9, c10, c11, c12, c13].drop 12).take (Tryz.prog.cellsOf 70)) = some y11 := (hf 11 _ rfl).trans hy11
 rw [H6] at f11
 obtain ⟨k0, e0, _, _⟩ := DataW.trod_int Tryz.underlying3 f0
 cases e0
 obtain ⟨k1, e1, _, _⟩ := DataW.trod_int Tryz.underlying3 f1
 cases e1
 obtain ⟨k2, e2, _, _⟩ := DataW.trod_int Tryz.underlying3 f2
 cases e2
 obtain ⟨k3, e3, _, _⟩ := DataW.trod_int Tryz.underlying3 f3
 cases e3
 obtain ⟨k4, e4, _, _⟩ := DataW.trod_int Tryz.underlying3 f4
 cases e4
 obtain ⟨k5, e5, _, _⟩ := DataW.trod_int Tryz.underlying3 f5
 cases e5
 obtain ⟨k6, e6, _, _⟩ := DataW.trod_int Tryz.underlying3 f6
 cases e6
 obtain ⟨k7, e7, _, _⟩ := DataW.trod_int Tryz.underlying3 f7
 cases e7
 obtain ⟨k8, e8, _, _⟩ := DataW.trod_int Tryz.underlying3 f8
 cases e8
 obtain ⟨k9, e9, _, _⟩ := DataW.trod_int Tryz.underlying3 f9
 cases e9
 obtain ⟨fromn, fromd, e10⟩ := QB f10
 cases e10
 obtain ⟨ton, tod, e11⟩ := QB f11
 cases e11
 exact ⟨k0, k1, k2, k3, k4, k5, k6, k7, k8, k9, fromn, fromd, ton, tod, rfl⟩
theorem SA {n : Nat} {cs : List Value} {y : DataW H × List MemPlace} (h : DataW.trod et Tryz.prog W 0 (fun _ => true) true n 35 cs = some y) : ∃ (name : List UInt8) (k1 : Int) (k2 : Int) (k3 : Int) (k4 : Int) (k5 : Int) (reach0 : Int) (reach1 : Int) (reach2 : Int) (speed0 : Int) (speed1 : Int) (speed2 : Int) (top0 : Int) (top1 : Int) (top2 : Int) (effort : Int) (rec : Int), cs = [.string ⟨name.toArray⟩, int i64 k1, int i64 k2, int i64 k3, int i64 k4, int i64 k5, int i64 reach0, int i64 reach1, int i64 reach2, int i64 speed0, int i64 speed1, int i64 speed2, int i64 top0, int i64 top1, int i64 top2, int i64 effort, int i64 rec] ∧ name.length ≤ maxLen := by
 obtain ⟨ys, m, _, _, hl, hyl, hf⟩ := DataW.trod_struct Tryz.underlying35 h
 rw [PU] at hl
 obtain ⟨c0, c1, c2, c3, c4, c5, c6, c7, c8, c9, c10, c11, c12, c13, c14, c15, c16, rfl⟩ := Sv hl
 obtain ⟨y0, hy0⟩ : ∃ y, ys[0]? = some y := ⟨_, qg (by rw [hyl]; decide)⟩
 have f0 : DataW.trod et Tryz.prog W 0 (fun _ => true) true m 9 (([c0, c1, c2, c3, c4, c5, c6, c7, c8, c9, c10, c11, c12, c13, c14, c15, c16].drop 0).take (Tryz.prog.cellsOf 9)) = some y0 := (hf 0 _ rfl).trans hy0
 rw [Nr] at f0
 obtain ⟨y1, hy1⟩ : ∃ y, ys[1]? = some y := ⟨_, qg (by rw [hyl]; decide)⟩
 have f1 : DataW.trod et Tryz.prog W 0 (fun _ => true) true m 3 (([c0, c1, c2, c3, c4, c5, c6, c7, c8, c9, c10, c11, c12, c13, c14, c15, c16].drop 1).take (Tryz.prog.cellsOf 3)) = some y1 := (hf 1 _ rfl).trans hy1
 rw [Ad] at f1
 obtain ⟨y2, hy2⟩ : ∃ y, ys[2]? = some y := ⟨_, qg (by rw [hyl]; decide)⟩
 have f2 : DataW.trod et Tryz.prog W 0 (fun _ => true) true m 3 (([c0, c1, c2, c3, c4, c5, c6, c7, c8, c9, c10, c11, c12, c13, c14, c15, c16].drop 2).take (Tryz.prog.cellsOf 3)) = some y2 := (hf 2 _ rfl).trans hy2
 rw [Ad] at f2
 obtain ⟨y3, hy3⟩ : ∃ y, ys[3]? = some y := ⟨_, qg (by rw [hyl]; decide)⟩
 have f3 : DataW.trod et Tryz.prog W 0 (fun _ => true) true m 3 (([c0, c1, c2, c3, c4, c5, c6, c7, c8, c9, c10, c11, c12, c13, c14, c15, c16].drop 3).take (Tryz.prog.cellsOf 3)) = some y3 := (hf 3 _ rfl).trans hy3
 rw [Ad] at f3
 obtain ⟨y4, hy4⟩ : ∃ y, ys[4]? = some y := ⟨_, qg (by rw [hyl]; decide)⟩
 have f4 : DataW.trod et Tryz.prog W 0 (fun _ => true) true m 3 (([c0, c1, c2, c3, c4, c5, c6, c7, c8, c9, c10, c11, c12, c13, c14, c15, c16].drop 4).take (Tryz.prog.cellsOf 3)) = some y4 := (hf 4 _ rfl).trans hy4
 rw [Ad] at f4
 obtain ⟨y5, hy5⟩ : ∃ y, ys[5]? = some y := ⟨_, qg (by rw [hyl]; decide)⟩
 have f5 : DataW.trod et Tryz.prog W 0 (fun _ => true) true m 3 (([c0, c1, c2, c3, c4, c5, c6, c7, c8, c9, c10, c11, c12, c13, c14, c15, c16].drop 5).take (Tryz.prog.cellsOf 3)) = some y5 := (hf 5 _ rfl).trans hy5
 rw [Ad] at f5
 obtain ⟨y6, hy6⟩ : ∃ y, ys[6]? = some y := ⟨_, qg (by rw [hyl]; decide)⟩
 have f6 : DataW.trod et Tryz.prog W 0 (fun _ => true) true m 33 (([c0, c1, c2, c3, c4, c5, c6, c7, c8, c9, c10, c11, c12, c13, c14, c15, c16].drop 6).take (Tryz.prog.cellsOf 33)) = some y6 := (hf 6 _ rfl).trans hy6
 rw [Fm] at f6
 obtain ⟨y7, hy7⟩ : ∃ y, ys[7]? = some y := ⟨_, qg (by rw [hyl]; decide)⟩
 have f7 : DataW.trod et Tryz.prog W 0 (fun _ => true) true m 33 (([c0, c1, c2, c3, c4, c5, c6, c7, c8, c9, c10, c11, c12, c13, c14, c15, c16].drop 9).take (Tryz.prog.cellsOf 33)) = some y7 := (hf 7 _ rfl).trans hy7
 rw [Fm] at f7
 obtain ⟨y8, hy8⟩ : ∃ y, ys[8]? = some y := ⟨_, qg (by rw [hyl]; decide)⟩
 have f8 : DataW.trod et Tryz.prog W 0 (fun _ => true) true m 33 (([c0, c1, c2, c3, c4, c5, c6, c7, c8, c9, c10, c11, c12, c13, c14, c15, c16].drop 12).take (Tryz.prog.cellsOf 33)) = some y8 := (hf 8 _ rfl).trans hy8
 rw [Fm] at f8
 obtain ⟨y9, hy9⟩ : ∃ y, ys[9]? = some y := ⟨_, qg (by rw [hyl]; decide)⟩
 have f9 : DataW.trod et Tryz.prog W 0 (fun _ => true) true m 3 (([c0, c1, c2, c3, c4, c5, c6, c7, c8, c9, c10, c11, c12, c13, c14, c15, c16].drop 15).take (Tryz.prog.cellsOf 3)) = some y9 := (hf 9 _ rfl).trans hy9
 rw [Ad] at f9
 obtain ⟨y10, hy10⟩ : ∃ y, ys[10]? = some y := ⟨_, qg (by rw [hyl]; decide)⟩
 have f10 : DataW.trod et Tryz.prog W 0 (fun _ => true) true m 3 (([c0, c1, c2, c3, c4, c5, c6, c7, c8, c9, c10, c11, c12, c13, c14, c15, c16].drop 16).take (Tryz.prog.cellsOf 3)) = some y10 := (hf 10 _ rfl).trans hy10
 rw [Ad] at f10
 obtain ⟨s0, e0, _, z0⟩ := DataW.trod_string Tryz.underlying9 f0
 cases e0
 obtain ⟨k1, e1, _, _⟩ := DataW.trod_int Tryz.underlying3 f1
 cases e1
 obtain ⟨k2, e2, _, _⟩ := DataW.trod_int Tryz.underlying3 f2
 cases e2
 obtain ⟨k3, e3, _, _⟩ := DataW.trod_int Tryz.underlying3 f3
 cases e3
 obtain ⟨k4, e4, _, _⟩ := DataW.trod_int Tryz.underlying3 f4
 cases e4
 obtain ⟨k5, e5, _, _⟩ := DataW.trod_int Tryz.underlying3 f5
 cases e5
 obtain ⟨reach0, reach1, reach2, e6⟩ := MB f6
 cases e6
 obtain ⟨speed0, speed1, speed2, e7⟩ := MB f7
 cases e7
 obtain ⟨top0, top1, top2, e8⟩ := MB f8
 cases e8
 obtain ⟨effort, e9, _, _⟩ := DataW.trod_int Tryz.underlying3 f9
 cases e9
 obtain ⟨rec, e10, _, _⟩ := DataW.trod_int Tryz.underlying3 f10
 cases e10
 exact ⟨s0.data.toList, k1, k2, k3, k4, k5, reach0, reach1, reach2, speed0, speed1, speed2, top0, top1, top2, effort, rec, rfl, by rw [Array.length_toList]; exact z0⟩
theorem Sx {n : Nat} {cs : List Value} {y : DataW H × List MemPlace} (h : DataW.trod et Tryz.prog W 0 (fun _ => true) true n 29 cs = some y) : ∃ (bars : Int) (t : Value) (tL : List Tmp) (p : Value) (pL : List Pau) (x : Value) (xL : List Con), cs = [int i64 bars, t, p, x] ∧ IsRow Bq 3 W t tL ∧ IsRow Cl 4 W p pL ∧ IsRow Ck 4 W x xL := by
 obtain ⟨ys, m, _, _, hl, hyl, hf⟩ := DataW.trod_struct Tryz.underlying29 h
 rw [KP] at hl
 obtain ⟨c0, c1, c2, c3, rfl⟩ := NB hl
 obtain ⟨y0, hy0⟩ : ∃ y, ys[0]? = some y := ⟨_, qg (by rw [hyl]; decide)⟩
 have f0 : DataW.trod et Tryz.prog W 0 (fun _ => true) true m 3 (([c0, c1, c2, c3].drop 0).take (Tryz.prog.cellsOf 3)) = some y0 := (hf 0 _ rfl).trans hy0
 rw [Ad] at f0
 obtain ⟨y1, hy1⟩ : ∃ y, ys[1]? = some y := ⟨_, qg (by rw [hyl]; decide)⟩
 have f1 : DataW.trod et Tryz.prog W 0 (fun _ => true) true m 25 (([c0, c1, c2, c3].drop 1).take (Tryz.prog.cellsOf 25)) = some y1 := (hf 1 _ rfl).trans hy1
 rw [PL] at f1
 obtain ⟨y2, hy2⟩ : ∃ y, ys[2]? = some y := ⟨_, qg (by rw [hyl]; decide)⟩
 have f2 : DataW.trod et Tryz.prog W 0 (fun _ => true) true m 26 (([c0, c1, c2, c3].drop 2).take (Tryz.prog.cellsOf 26)) = some y2 := (hf 2 _ rfl).trans hy2
 rw [PN] at f2
 obtain ⟨y3, hy3⟩ : ∃ y, ys[3]? = some y := ⟨_, qg (by rw [hyl]; decide)⟩
 have f3 : DataW.trod et Tryz.prog W 0 (fun _ => true) true m 27 (([c0, c1, c2, c3].drop 3).take (Tryz.prog.cellsOf 27)) = some y3 := (hf 3 _ rfl).trans hy3
 rw [PO] at f3
 obtain ⟨bars, e0, _, _⟩ := DataW.trod_int Tryz.underlying3 f0
 cases e0
 obtain ⟨tL, i1⟩ := Cd (enc := Bq) Tryz.underlying25 J6 (by decide) (fun n cs y h => by obtain ⟨b, t, s, e⟩ := RE h; exact ⟨⟨b, t, s⟩, e⟩) f1
 obtain ⟨pL, i2⟩ := Cd (enc := Cl) Tryz.underlying26 J9 (by decide) (fun n cs y h => by obtain ⟨b, k, l, hi, e⟩ := RF h; exact ⟨⟨b, k, l, hi⟩, e⟩) f2
 obtain ⟨xL, i3⟩ := Cd (enc := Ck) Tryz.underlying27 Ja (by decide) (fun n cs y h => by obtain ⟨f, t, l, hi, e⟩ := RJ h; exact ⟨⟨f, t, l, hi⟩, e⟩) f3
 exact ⟨bars, _, tL, _, pL, _, xL, rfl, i1, i2, i3⟩
theorem Sy {n : Nat} {cs : List Value} {y : DataW H × List MemPlace} (h : DataW.trod et Tryz.prog W 0 (fun _ => true) true n 32 cs = some y) : ∃ (wd : Int) (dp : Int) (tola : Int) (tolb : Int) (tolc : Int) (r : Value) (rL : List Rol) (clockbars : Int) (clockt : Value) (clocktL : List Tmp) (clockp : Value) (clockpL : List Pau) (clockx : Value) (clockxL : List Con) (s : Value) (sL : List Sgn), cs = [int i64 wd, int i64 dp, int i64 tola, int i64 tolb, int i64 tolc, r, int i64 clockbars, clockt, clockp, clockx, s] ∧ IsRow De 4 W r rL ∧ IsRow Bq 3 W clockt clocktL ∧ IsRow Cl 4 W clockp clockpL ∧ IsRow Ck 4 W clockx clockxL ∧ IsRow CF 14 W s sL := by
 obtain ⟨ys, m, _, _, hl, hyl, hf⟩ := DataW.trod_struct Tryz.underlying32 h
 rw [PT] at hl
 obtain ⟨c0, c1, c2, c3, c4, c5, c6, c7, c8, c9, c10, rfl⟩ := Sr hl
 obtain ⟨y0, hy0⟩ : ∃ y, ys[0]? = some y := ⟨_, qg (by rw [hyl]; decide)⟩
 have f0 : DataW.trod et Tryz.prog W 0 (fun _ => true) true m 3 (([c0, c1, c2, c3, c4, c5, c6, c7, c8, c9, c10].drop 0).take (Tryz.prog.cellsOf 3)) = some y0 := (hf 0 _ rfl).trans hy0
 rw [Ad] at f0
 obtain ⟨y1, hy1⟩ : ∃ y, ys[1]? = some y := ⟨_, qg (by rw [hyl]; decide)⟩
 have f1 : DataW.trod et Tryz.prog W 0 (fun _ => true) true m 3 (([c0, c1, c2, c3, c4, c5, c6, c7, c8, c9, c10].drop 1).take (Tryz.prog.cellsOf 3)) = some y1 := (hf 1 _ rfl).trans hy1
 rw [Ad] at f1
 obtain ⟨y2, hy2⟩ : ∃ y, ys[2]? = some y := ⟨_, qg (by rw [hyl]; decide)⟩
 have f2 : DataW.trod et Tryz.prog W 0 (fun _ => true) true m 23 (([c0, c1, c2, c3, c4, c5, c6, c7, c8, c9, c10].drop 2).take (Tryz.prog.cellsOf 23)) = some y2 := (hf 2 _ rfl).trans hy2
 rw [KL] at f2
 obtain ⟨y3, hy3⟩ : ∃ y, ys[3]? = some y := ⟨_, qg (by rw [hyl]; decide)⟩
 have f3 : DataW.trod et Tryz.prog W 0 (fun _ => true) true m 24 (([c0, c1, c2, c3, c4, c5, c6, c7, c8, c9, c10].drop 5).take (Tryz.prog.cellsOf 24)) = some y3 := (hf 3 _ rfl).trans hy3
 rw [PJ] at f3
 obtain ⟨y4, hy4⟩ : ∃ y, ys[4]? = some y := ⟨_, qg (by rw [hyl]; decide)⟩
 have f4 : DataW.trod et Tryz.prog W 0 (fun _ => true) true m 29 (([c0, c1, c2, c3, c4, c5, c6, c7, c8, c9, c10].drop 6).take (Tryz.prog.cellsOf 29)) = some y4 := (hf 4 _ rfl).trans hy4
 rw [KP] at f4
 obtain ⟨y5, hy5⟩ : ∃ y, ys[5]? = some y := ⟨_, qg (by rw [hyl]; decide)⟩
 have f5 : DataW.trod et Tryz.prog W 0 (fun _ => true) true m 30 (([c0, c1, c2, c3, c4, c5, c6, c7, c8, c9, c10].drop 10).take (Tryz.prog.cellsOf 30)) = some y5 := (hf 5 _ rfl).trans hy5
 rw [PS] at f5
 obtain ⟨wd, e0, _, _⟩ := DataW.trod_int Tryz.underlying3 f0
 cases e0
 obtain ⟨dp, e1, _, _⟩ := DataW.trod_int Tryz.underlying3 f1
 cases e1
 obtain ⟨tola, tolb, tolc, e2⟩ := Sw f2
 cases e2
 obtain ⟨rL, i3⟩ := Cd (enc := De) Tryz.underlying24 IZ (by decide) (fun n cs y h => by obtain ⟨name, x, y, f, e, _⟩ := RD h; exact ⟨⟨name, x, y, f⟩, e⟩) f3
 obtain ⟨clockbars, clockt, clocktL, clockp, clockpL, clockx, clockxL, e4, i4_0, i4_1, i4_2⟩ := Sx f4
 cases e4
 obtain ⟨sL, i5⟩ := Cd (enc := CF) Tryz.underlying30 KQ (by decide) (fun n cs y h => by obtain ⟨k0, k1, k2, k3, k4, k5, k6, k7, k8, k9, fromn, fromd, ton, tod, e⟩ := SB h; exact ⟨⟨k0, k1, k2, k3, k4, k5, k6, k7, k8, k9, fromn, fromd, ton, tod⟩, e⟩) f5
 exact ⟨wd, dp, tola, tolb, tolc, _, rL, clockbars, _, clocktL, _, clockpL, _, clockxL, _, sL, rfl, i3, i4_0, i4_1, i4_2, i5⟩
end
end
end Go.Proofs.YtggcbblikgankaaGreatDoor
