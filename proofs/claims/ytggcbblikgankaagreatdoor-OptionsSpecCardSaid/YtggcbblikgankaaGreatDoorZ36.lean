/- Contracts and plain laws on the way to the statement: part 36. -/
import Derived.Test.YtggcbblikgankaaGreatDoorZ35
import Derived.Test.YtggcbblikgankaaGreatDoorZ34
set_option linter.unusedVariables false
set_option linter.unusedSimpArgs false
section
namespace Go.Proofs.YtggcbblikgankaaGreatDoor
open Go Go.RowKit
def armS : Sgn := ⟨3, 0, 0, 1, 4, 1, 1, 2, 0, 0, 0, 1, 1, 1⟩
def legS : Sgn := ⟨5, 0, 0, 3, 3, 1, 1, 3, 0, 0, 0, 1, 1, 1⟩
def smallW (ta tb tc : Int) : Wrk := ⟨20, 20, ta, tb, tc, [⟨[97], 0, 0, 0⟩], ⟨1, [⟨0, 100, 0⟩], [], []⟩, [armS, legS]⟩
def smallV (ta tb tc : Int) (R T S : Nat) : Value := .agg #[.int .i64 20, .int .i64 20, .int .i64 ta, .int .i64 tb, .int .i64 tc, .slice (some ⟨R, 0, none⟩) 1 1, .int .i64 1, .slice (some ⟨T, 0, none⟩) 1 1, .slice none 0 0, .slice none 0 0, .slice (some ⟨S, 0, none⟩) 2 2]
structure SmallAt (w' : World) (R T S : Nat) : Prop where
 r : w'.heap[R]? = some (.cells #[.string ⟨#[97]⟩, .int .i64 0, .int .i64 0, .int .i64 0] 86 (0, 0))
 t : w'.heap[T]? = some (.cells #[.int .i64 0, .int .i64 100, .int .i64 0] 88 (0, 0))
 s : w'.heap[S]? = some (.cells (sgnA armS ++ sgnA legS) 72 (0, 0))
set_option maxRecDepth 100000 in
set_option maxHeartbeats 8000000 in
theorem small_any (ta tb tc : Int) (w : World) : Calls Tryz.prog 31 #[.agg #[.int .i64 ta, .int .i64 tb, .int .i64 tc]] w fun e w' => ∃ R T S, e = .returned (smallV ta tb tc R T S) ∧ SmallAt w' R T S ∧ Below w.heap.size w w' := by
 have hc1 := fun w => whole_any ⟨3, 0, 0, 1, 4, 1, 1, 2, 0, 0, 0, 0, 0, 0⟩ w
 have hc2 := fun w => whole_any ⟨5, 0, 0, 3, 3, 1, 1, 3, 0, 0, 0, 0, 0, 0⟩ w
 unfold sgnV at hc1 hc2
 have HC1 := Lib.hid hc1; have HC2 := Lib.hid hc2
 clear hc1 hc2
 go_enter Tryz.func31, Tryz.ntmps31
 go_wp2_with fail
 obtain ⟨g0, g1, hz, hb⟩ := blocks2 w (.cells #[.int .i64 ta, .int .i64 tb, .int .i64 tc] 23) (.cells #[.int .i64 0, .int .i64 0, .int .i64 0, .int .i64 0, .int .i64 0, .slice none 0 0, .int .i64 0, .slice none 0 0, .slice none 0 0, .slice none 0 0, .slice none 0 0] 32)
 generalize (w.alloc (.cells #[.int .i64 ta, .int .i64 tb, .int .i64 tc] 23)).alloc (.cells #[.int .i64 0, .int .i64 0, .int .i64 0, .int .i64 0, .int .i64 0, .slice none 0 0, .int .i64 0, .slice none 0 0, .slice none 0 0, .slice none 0 0, .slice none 0 0] 32) = w0 at *
 refine (HC1.out _).mono ?_
 rintro e w1 ⟨rfl, b1⟩
 have hz1 := b1.size
 have h0 := (b1.block w.heap.size (by omega)).trans g0
 have h1 := (b1.block (w.heap.size + 1) (by omega)).trans g1
 have hB1 := hb.trans (b1.mono (by omega))
 have n1 := heap_alloc_new w1 (.cells #[.int .i64 3, .int .i64 0, .int .i64 0, .int .i64 1, .int .i64 4, .int .i64 1, .int .i64 1, .int .i64 2, .int .i64 0, .int .i64 0, .int .i64 0, .int .i64 1, .int .i64 1, .int .i64 1] 72)
 have a1 : Below w1.heap.size w1 (w1.alloc (.cells #[.int .i64 3, .int .i64 0, .int .i64 0, .int .i64 1, .int .i64 4, .int .i64 1, .int .i64 1, .int .i64 2, .int .i64 0, .int .i64 0, .int .i64 0, .int .i64 1, .int .i64 1, .int .i64 1] 72)) := (Below.refl _ _).alloc (Nat.le_refl _) _
 have z1 : (w1.alloc (.cells #[.int .i64 3, .int .i64 0, .int .i64 0, .int .i64 1, .int .i64 4, .int .i64 1, .int .i64 1, .int .i64 2, .int .i64 0, .int .i64 0, .int .i64 0, .int .i64 1, .int .i64 1, .int .i64 1] 72)).heap.size = w1.heap.size + 1 := by simp
 have G0 := Lib.hid ((a1.block w.heap.size (by omega)).trans h0)
 have G1 := Lib.hid ((a1.block (w.heap.size + 1) (by omega)).trans h1)
 have G2 := Lib.hid n1
 have B1 := Lib.hid (hB1.trans (a1.mono (by omega)))
 have Z1 := Lib.hid z1; have Z0 := Lib.hid hz; have Y1 := Lib.hid hz1
 clear g0 g1 hz hb b1 hz1 h0 h1 hB1 n1 a1 z1 HC1
 go_wp2_with fail
 generalize w1.alloc (.cells #[.int .i64 3, .int .i64 0, .int .i64 0, .int .i64 1, .int .i64 4, .int .i64 1, .int .i64 1, .int .i64 2, .int .i64 0, .int .i64 0, .int .i64 0, .int .i64 1, .int .i64 1, .int .i64 1] 72) = wa at *
 refine (HC2.out _).mono ?_
 rintro e w2 ⟨rfl, b2⟩
 have hz2 := b2.size
 have zz : w.heap.size + 1 < wa.heap.size ∧ w1.heap.size < wa.heap.size := by have := Z1.out; have := Z0.out; have := Y1.out; omega
 have h0 := (b2.block w.heap.size (by omega)).trans G0.out
 have h1 := (b2.block (w.heap.size + 1) (by omega)).trans G1.out
 have h2 := (b2.block w1.heap.size (by omega)).trans G2.out
 have hB2 := B1.out.trans (b2.mono (by have := B1.out.size; omega))
 have a2 : Below w2.heap.size w2 ((((w2.alloc (.cells #[.int .i64 5, .int .i64 0, .int .i64 0, .int .i64 3, .int .i64 3, .int .i64 1, .int .i64 1, .int .i64 3, .int .i64 0, .int .i64 0, .int .i64 0, .int .i64 1, .int .i64 1, .int .i64 1] 72)).alloc (.cells #[.string ⟨#[97]⟩, .int .i64 0, .int .i64 0, .int .i64 0] 86)).alloc (.cells #[.int .i64 0, .int .i64 100, .int .i64 0] 88))) := (((Below.refl _ w2).alloc (Nat.le_refl _) _).alloc (by simp) _).alloc (by simp; omega) _
 obtain ⟨k0, k1, k2, kz, _⟩ := blocks3 w2 (.cells #[.int .i64 5, .int .i64 0, .int .i64 0, .int .i64 3, .int .i64 3, .int .i64 1, .int .i64 1, .int .i64 3, .int .i64 0, .int .i64 0, .int .i64 0, .int .i64 1, .int .i64 1, .int .i64 1] 72) (.cells #[.string ⟨#[97]⟩, .int .i64 0, .int .i64 0, .int .i64 0] 86) (.cells #[.int .i64 0, .int .i64 100, .int .i64 0] 88)
 have L0 := Lib.hid ((((Below.refl w2.heap.size w2).alloc (Nat.le_refl _) (.cells #[.int .i64 5, .int .i64 0, .int .i64 0, .int .i64 3, .int .i64 3, .int .i64 1, .int .i64 1, .int .i64 3, .int .i64 0, .int .i64 0, .int .i64 0, .int .i64 1, .int .i64 1, .int .i64 1] 72)).block w.heap.size (by omega)).trans h0)
 have L1 := Lib.hid ((a2.block (w.heap.size + 1) (by omega)).trans h1)
 have L2 := Lib.hid ((a2.block w1.heap.size (by omega)).trans h2)
 have L3 := Lib.hid k0; have L4 := Lib.hid k1; have L5 := Lib.hid k2; have L6 := Lib.hid kz
 have a3 : Below (w2.heap.size + 3) (((w2.alloc (.cells #[.int .i64 5, .int .i64 0, .int .i64 0, .int .i64 3, .int .i64 3, .int .i64 1, .int .i64 1, .int .i64 3, .int .i64 0, .int .i64 0, .int .i64 0, .int .i64 1, .int .i64 1, .int .i64 1] 72)).alloc (.cells #[.string ⟨#[97]⟩, .int .i64 0, .int .i64 0, .int .i64 0] 86)).alloc (.cells #[.int .i64 0, .int .i64 100, .int .i64 0] 88)) ((((w2.alloc (.cells #[.int .i64 5, .int .i64 0, .int .i64 0, .int .i64 3, .int .i64 3, .int .i64 1, .int .i64 1, .int .i64 3, .int .i64 0, .int .i64 0, .int .i64 0, .int .i64 1, .int .i64 1, .int .i64 1] 72)).alloc (.cells #[.string ⟨#[97]⟩, .int .i64 0, .int .i64 0, .int .i64 0] 86)).alloc (.cells #[.int .i64 0, .int .i64 100, .int .i64 0] 88)).alloc (.cells #[.int .i64 3, .int .i64 0, .int .i64 0, .int .i64 1, .int .i64 4, .int .i64 1, .int .i64 1, .int .i64 2, .int .i64 0, .int .i64 0, .int .i64 0, .int .i64 1, .int .i64 1, .int .i64 1, .int .i64 5, .int .i64 0, .int .i64 0, .int .i64 3, .int .i64 3, .int .i64 1, .int .i64 1, .int .i64 3, .int .i64 0, .int .i64 0, .int .i64 0, .int .i64 1, .int .i64 1, .int .i64 1] 72)) := (Below.refl _ _).alloc (by simp) _
 have k3 := heap_alloc_new (((w2.alloc (.cells #[.int .i64 5, .int .i64 0, .int .i64 0, .int .i64 3, .int .i64 3, .int .i64 1, .int .i64 1, .int .i64 3, .int .i64 0, .int .i64 0, .int .i64 0, .int .i64 1, .int .i64 1, .int .i64 1] 72)).alloc (.cells #[.string ⟨#[97]⟩, .int .i64 0, .int .i64 0, .int .i64 0] 86)).alloc (.cells #[.int .i64 0, .int .i64 100, .int .i64 0] 88)) (.cells #[.int .i64 3, .int .i64 0, .int .i64 0, .int .i64 1, .int .i64 4, .int .i64 1, .int .i64 1, .int .i64 2, .int .i64 0, .int .i64 0, .int .i64 0, .int .i64 1, .int .i64 1, .int .i64 1, .int .i64 5, .int .i64 0, .int .i64 0, .int .i64 3, .int .i64 3, .int .i64 1, .int .i64 1, .int .i64 3, .int .i64 0, .int .i64 0, .int .i64 0, .int .i64 1, .int .i64 1, .int .i64 1] 72)
 rw [kz] at k3
 have M1 := Lib.hid ((a3.block (w.heap.size + 1) (by omega)).trans L1.out)
 have M2 := Lib.hid ((a3.block (w2.heap.size + 1) (by omega)).trans k1)
 have M3 := Lib.hid ((a3.block (w2.heap.size + 1 + 1) (by omega)).trans k2)
 have M4 := Lib.hid k3
 have M5 := Lib.hid (hB2.trans ((a2.mono hB2.size).trans (a3.mono (by have := hB2.size; omega))))
 clear a3 k3
 have B2 := Lib.hid hB2; have ZZ := Lib.hid zz; have Y2 := Lib.hid hz2
 clear h0 h1 h2 hB2 a2 k0 k1 k2 kz G0 G1 G2 B1 Z1 Z0 Y1 zz hz2 b2 HC2
 go_wp2_with (first | (refine wpList_load_row rfl 23 _ rfl w.heap.size rfl 23 _ (0, 0) _ L0.out Tryz.underlying23 rfl (by kernel_rfl) ?_; simp only [Act.put, List.setIfInBounds_toArray, List.set_cons_zero, List.set_cons_succ]) | (refine wpList_load_row rfl 72 _ rfl w1.heap.size rfl 72 _ (0, 0) _ L2.out Tryz.underlying72 rfl (by kernel_rfl) ?_; simp only [Act.put, List.setIfInBounds_toArray, List.set_cons_zero, List.set_cons_succ]) | (refine wpList_load_row rfl 72 _ rfl w2.heap.size rfl 72 _ (0, 0) _ L3.out Tryz.underlying72 rfl (by kernel_rfl) ?_; simp only [Act.put, List.setIfInBounds_toArray, List.set_cons_zero, List.set_cons_succ]) | (refine wpList_store_row rfl 32 _ _ rfl (w.heap.size + 1) _ rfl rfl 32 _ M1.out (by kernel_rfl) rfl (by simp [Value.oneCell']) ?_))
 have hq := setRow_heap _ (w.heap.size + 1) _ #[.int .i64 20, .int .i64 20, .int .i64 ta, .int .i64 tb, .int .i64 tc, .slice (some ⟨w2.heap.size + 1, 0, none⟩) 1 1, .int .i64 1, .slice (some ⟨w2.heap.size + 1 + 1, 0, none⟩) 1 1, .slice none 0 0, .slice none 0 0, .slice (some ⟨w2.heap.size + 1 + 1 + 1, 0, none⟩) 2 2] _ _ M1.out
 have hz2 := Y2.out
 have hzz := ZZ.out
 refine bodyPost_ret (results_cell_row rfl _ _ (w.heap.size + 1) 32 _ (0, 0) _ rfl hq Tryz.underlying32 rfl (by kernel_rfl)) rfl ⟨w2.heap.size + 1, w2.heap.size + 1 + 1, w2.heap.size + 1 + 1 + 1, rfl, ⟨?_, ?_, ?_⟩, below_setRow M5.out (by omega) _⟩
 ·exact (setRow_other _ _ _ _ (by omega)).trans M2.out
 ·exact (setRow_other _ _ _ _ (by omega)).trans M3.out
 ·exact (setRow_other _ _ _ _ (by omega)).trans M4.out
end Go.Proofs.YtggcbblikgankaaGreatDoor
end
section
namespace Go.Proofs.YtggcbblikgankaaGreatDoor
open Go Go.RowKit
theorem run_rea (op : BinOp) (hop : op = .neq ∨ op = .eql) (a b c : Int) (d : Bool) (a' b' c' : Int) (d' : Bool) (w : World) :
  (binOp op 37 (.agg #[.int .i64 a, .int .i64 b, .int .i64 c, .bool d]) (.agg #[.int .i64 a', .int .i64 b', .int .i64 c', .bool d'])).run Tryz.prog w = .ok (.bool (if op = .eql then (a == a' && b == b' && c == c' && d == d') else !(a == a' && b == b' && c == c' && d == d'))) w := by
 have u3 := Tryz.underlying3
 have a3 := Tryz.isAgg3
 have z3 := Tryz.sizeOf3
 have u4 := Tryz.underlying4
 have a4 := Tryz.isAgg4
 have z4 := Tryz.sizeOf4
 have hS : Tryz.prog.underlying 37 = some (.struct (Tryz.prog.fieldsOf 37)) := by kernel_rfl
 have hp : Tryz.prog.stoodInHeld 37 = false := by kernel_rfl
 rcases hop with rfl | rfl
 ·rw [run_neq_struct, show (10000 : Nat) = 9999 + 1 from rfl, run_equalIn_agg w 9999 37 _ _ hS hp]
  simp only [Program.fieldsOf, Tryz.underlying37]
  go_simp
  by_cases h1 : a = a' <;> by_cases h2 : b = b' <;> by_cases h3 : c = c' <;> by_cases h4 : d = d' <;> simp [h1, h2, h3, h4]
 ·rw [run_eql_struct, show (10000 : Nat) = 9999 + 1 from rfl, run_equalIn_agg w 9999 37 _ _ hS hp]
  simp only [Program.fieldsOf, Tryz.underlying37]
  go_simp
  by_cases h1 : a = a' <;> by_cases h2 : b = b' <;> by_cases h3 : c = c' <;> by_cases h4 : d = d' <;> simp [h1, h2, h3, h4]
theorem neq_rea (t u : Rea) (v : Bool) (h : decide (t = u) = v) (w : World) : (binOp .neq 37 (.agg #[.int .i64 t.sign, .int .i64 t.dir, .int .i64 t.level, .bool t.drop]) (.agg #[.int .i64 u.sign, .int .i64 u.dir, .int .i64 u.level, .bool u.drop])).run Tryz.prog w = .ok (.bool (!v)) w := by
 rw [run_rea .neq (Or.inl rfl)]
 rw [if_neg (by decide)]
 congr 3
 rw [← h, Bool.eq_iff_iff]
 cases t; cases u; simp [and_assoc]
theorem atRea {w : World} {b o i : Nat} {xs : List Rea} {t : Rea} (h : AtRow encRea 4 w b o xs) (ht : xs[i]? = some t) :
  w.cell? ⟨b, o + i * 4, none⟩ = some (.int .i64 t.sign) ∧ w.cell? ⟨b, o + i * 4 + 1, none⟩ = some (.int .i64 t.dir) ∧ w.cell? ⟨b, o + i * 4 + 2, none⟩ = some (.int .i64 t.level) ∧ w.cell? ⟨b, o + i * 4 + 3, none⟩ = some (.bool t.drop) :=
 ⟨h i t ht 0 _ rfl, h i t ht 1 _ rfl, h i t ht 2 _ rfl, h i t ht 3 _ rfl⟩
set_option maxRecDepth 100000 in
set_option maxHeartbeats 8000000 in
theorem same_any (ao bo : Option Addr) (c d : Nat) (xs ys : List Rea) (w : World) (hx : IsRow encRea 4 w (.slice ao xs.length c) xs) (hy : IsRow encRea 4 w (.slice bo ys.length d) ys) :
  Calls Tryz.prog 13 #[.slice ao xs.length c, .slice bo ys.length d] w fun e w' => e = .returned (.bool (decide (xs = ys))) ∧ ∃ k, w' = w.drewN k := by
 have hmx : xs.length ≤ maxLen := by obtain ⟨_, _, _, h, _⟩ := hx; exact h
 simp only [maxLen] at hmx
 have HX := Lib.hid hx; have HY := Lib.hid hy
 clear hx hy
 by_cases hl : xs.length = ys.length
 ·have hd : (∀ i : Nat, i < xs.length → xs[i]? = ys[i]?) ↔ xs = ys := by
   constructor
   ·intro h
    apply List.ext_getElem?
    intro i
    by_cases hi : i < xs.length
    ·exact h i hi
    ·rw [List.getElem?_eq_none (by omega), List.getElem?_eq_none (by omega)]
   ·rintro rfl i _; rfl
  generalize hb : decide (xs = ys) = bb
  have hyes : (∀ i : Nat, i < xs.length → xs[i]? = ys[i]?) → bb = true := fun h => by rw [← hb]; exact decide_eq_true (hd.1 h)
  have hno : ∀ (i : Nat) (t u : Rea), xs[i]? = some t → ys[i]? = some u → ¬ t = u → bb = false := fun i t u h1 h2 h3 => by
   rw [← hb]; exact decide_eq_false fun e => by rw [e, h2] at h1; exact h3 (Option.some.inj h1).symm
  have HYS := Lib.hid hyes; have HNO := Lib.hid hno
  clear hd hb hyes hno
  rw [← hl] at HY ⊢
  have HYL := Lib.hid hl.symm
  clear hl
  generalize hn : xs.length = N at *
  have HN := Lib.hid hn
  clear hn
  go_enter Tryz.func13, Tryz.ntmps13
  go_wp2_with fail
  go_loopw [5] (fun iv wr => ∃ k q : Nat, iv = .int .i64 k ∧ k ≤ N ∧ wr = w.drewN q ∧ Hid (∀ i : Nat, i < k → xs[i]? = ys[i]?)) (fun iv _ => N - (intOf iv).toNat)
  case atStart => exact ⟨0, 0, rfl, Nat.zero_le _, rfl, Lib.hid (fun i hi => by omega)⟩
  case round =>
   obtain ⟨k, q, rfl, hk, rfl, hI⟩ := hrel
   by_cases hkn : k < N
   ·obtain ⟨t, ht⟩ : ∃ t, xs[k]? = some t := ⟨_, List.getElem?_eq_getElem (by rw [HN.out]; exact hkn)⟩
    obtain ⟨u, hu⟩ : ∃ u, ys[k]? = some u := ⟨_, List.getElem?_eq_getElem (by rw [HYL.out]; exact hkn)⟩
    obtain ⟨b1, o1, hp1, hat1, _⟩ := HX.out.block ht
    obtain ⟨b2, o2, hp2, hat2, _⟩ := HY.out.block hu
    subst hp1
    subst hp2
    obtain ⟨p0, p1, p2, p3⟩ := atRea hat1 ht
    obtain ⟨q0, q1, q2, q3⟩ := atRea hat2 hu
    have hkn' : (k : Int) < (N : Int) := by omega
    have HT := Lib.hid ht; have HU := Lib.hid hu
    clear hat1 hat2 ht hu
    by_cases htu : t = u
    ·have hq := fun w => neq_rea t u true (decide_eq_true htu) w
     have HTU := Lib.hid htu; clear htu
     go_wp2_with fail
     go_quiet (fail)
     go_wp2_with fail
     go_roundw
     case rel => exact ⟨k + 1, q + nq, by go_num, by omega, by simp [World.drewN], Lib.hid (fun i hi => by
      by_cases h : i = k
      ·subst h; rw [HT.out, HU.out, HTU.out]
      ·exact hI.out i (by omega))⟩
     case measure => simp [intOf]; omega
    ·have hq := fun w => neq_rea t u false (decide_eq_false htu) w
     obtain rfl := HNO.out k t u HT.out HU.out htu
     clear htu
     go_wp2_with fail
     go_quiet (fail)
     go_wp2_with fail
     go_ret
     exact ⟨rfl, q + nq, by simp [World.drewN, Nat.add_assoc]⟩
   ·obtain rfl : k = N := by omega
    have hkn' : ¬ (k : Int) < (k : Int) := by omega
    obtain rfl := HYS.out (by exact hI.out)
    go_wp2_with fail
    go_ret
    exact ⟨rfl, q, rfl⟩
 ·have hne : decide (xs = ys) = false := decide_eq_false fun e => hl (by rw [e])
  rw [hne]
  have f1 : ((xs.length : Int) != (ys.length : Int)) = true := by simp; omega
  clear hne
  go_enter Tryz.func13, Tryz.ntmps13
  go_wp2_with fail
  go_ret
  exact ⟨rfl, 0, rfl⟩
end Go.Proofs.YtggcbblikgankaaGreatDoor
end
section
namespace Go.Proofs.YtggcbblikgankaaGreatDoor
open Go Go.RowKit
def fewB (k : Wrk) : Bool :=
 !(decide (100 < k.roles.length) || decide (64 < k.clock.tempos.length) || decide (64 < k.clock.pauses.length) || decide (64 < k.clock.spans.length)) &&
 (decide (k.signs.length ≤ 80) && decide (k.clock.bars ≤ 4096) || decide (4096 < k.signs.length) && decide (k.signs.length ≤ 5000) || decide (4096 < k.clock.bars) && decide (k.signs.length ≤ 80))
set_option maxRecDepth 100000 in
set_option maxHeartbeats 8000000 in
theorem few_any (wd dp ta tb tc bars : Int) (aR aT aP aX aS : Option Addr) (cR cT cP cX cS : Nat) (rs : List Rol) (ts : List Tmp) (ps : List Pau) (xs : List Con) (ss : List Sgn) (w : World) :
  Calls Tryz.prog 8 #[.agg #[.int .i64 wd, .int .i64 dp, .int .i64 ta, .int .i64 tb, .int .i64 tc, .slice aR rs.length cR, .int .i64 bars, .slice aT ts.length cT, .slice aP ps.length cP, .slice aX xs.length cX, .slice aS ss.length cS]] w fun e w' => e = .returned (.bool (fewB ⟨wd, dp, ta, tb, tc, rs, ⟨bars, ts, ps, xs⟩, ss⟩)) ∧ Below w.heap.size w w' := by
 have hf : fewB ⟨wd, dp, ta, tb, tc, rs, ⟨bars, ts, ps, xs⟩, ss⟩ = (!(decide (100 < rs.length) || decide (64 < ts.length) || decide (64 < ps.length) || decide (64 < xs.length)) &&
  (decide (ss.length ≤ 80) && decide (bars ≤ 4096) || decide (4096 < ss.length) && decide (ss.length ≤ 5000) || decide (4096 < bars) && decide (ss.length ≤ 80))) := rfl
 generalize fewB ⟨wd, dp, ta, tb, tc, rs, ⟨bars, ts, ps, xs⟩, ss⟩ = ans at *
 generalize rs.length = nR at *
 generalize ts.length = nT at *
 generalize ps.length = nP at *
 generalize xs.length = nX at *
 generalize ss.length = nS at *
 have hb : Below w.heap.size w (w.alloc (.cells #[.int .i64 wd, .int .i64 dp, .int .i64 ta, .int .i64 tb, .int .i64 tc, .slice aR nR cR, .int .i64 bars, .slice aT nT cT, .slice aP nP cP, .slice aX nX cX, .slice aS nS cS] 32)) := (Below.refl _ _).alloc (Nat.le_refl _) _
 have HB := Lib.hid hb
 have HF := Lib.hid hf
 clear hb hf
 by_cases h1 : 100 < nR
 ·have f1 : (100 : Int) < (nR : Int) := by omega
  obtain rfl : ans = false := by rw [HF.out, decide_eq_true h1]; simp
  clear h1
  go_enter Tryz.func8, Tryz.ntmps8
  go_wp2_with fail
  go_ret
  exact ⟨rfl, HB.out⟩
 have f1 : ¬ (100 : Int) < (nR : Int) := by omega
 by_cases h2 : 64 < nT
 ·have f2 : (64 : Int) < (nT : Int) := by omega
  obtain rfl : ans = false := by rw [HF.out, decide_eq_true h2]; simp
  clear h1 h2
  go_enter Tryz.func8, Tryz.ntmps8
  go_wp2_with fail
  go_ret
  exact ⟨rfl, HB.out⟩
 have f2 : ¬ (64 : Int) < (nT : Int) := by omega
 by_cases h3 : 64 < nP
 ·have f3 : (64 : Int) < (nP : Int) := by omega
  obtain rfl : ans = false := by rw [HF.out, decide_eq_true h3]; simp
  clear h1 h2 h3
  go_enter Tryz.func8, Tryz.ntmps8
  go_wp2_with fail
  go_ret
  exact ⟨rfl, HB.out⟩
 have f3 : ¬ (64 : Int) < (nP : Int) := by omega
 by_cases h4 : 64 < nX
 ·have f4 : (64 : Int) < (nX : Int) := by omega
  obtain rfl : ans = false := by rw [HF.out, decide_eq_true h4]; simp
  clear h1 h2 h3 h4
  go_enter Tryz.func8, Tryz.ntmps8
  go_wp2_with fail
  go_ret
  exact ⟨rfl, HB.out⟩
 have f4 : ¬ (64 : Int) < (nX : Int) := by omega
 replace HF := Lib.hid (HF.out.trans (by rw [decide_eq_false h1, decide_eq_false h2, decide_eq_false h3, decide_eq_false h4]; rfl) : ans = (decide (nS ≤ 80) && decide (bars ≤ 4096) || decide (4096 < nS) && decide (nS ≤ 5000) || decide (4096 < bars) && decide (nS ≤ 80)))
 clear h1 h2 h3 h4
 by_cases h5 : nS ≤ 80
 ·have f5 : (nS : Int) ≤ 80 := by omega
  have f6 : ¬ (4096 : Int) < (nS : Int) := by omega
  obtain rfl : ans = true := by
   rw [HF.out, decide_eq_true h5]
   by_cases hb : bars ≤ 4096
   ·rw [decide_eq_true hb]; rfl
   ·rw [decide_eq_true (show 4096 < bars by omega)]; simp
  clear h5
  by_cases hb : bars ≤ 4096
  ·go_enter Tryz.func8, Tryz.ntmps8
   go_wp2_with fail
   go_ret
   exact ⟨rfl, HB.out⟩
  ·have hb2 : 4096 < bars := by omega
   go_enter Tryz.func8, Tryz.ntmps8
   go_wp2_with fail
   go_ret
   exact ⟨rfl, HB.out⟩
 ·have f5 : ¬ (nS : Int) ≤ 80 := by omega
  have f7 : decide ((nS : Int) ≤ 80) = false := decide_eq_false f5
  replace HF := Lib.hid (HF.out.trans (by rw [decide_eq_false h5]; simp) : ans = (decide (4096 < nS) && decide (nS ≤ 5000)))
  by_cases h6 : 4096 < nS
  ·have f6 : (4096 : Int) < (nS : Int) := by omega
   by_cases h7 : nS ≤ 5000
   ·have f8 : (nS : Int) ≤ 5000 := by omega
    obtain rfl : ans = true := by rw [HF.out, decide_eq_true h6, decide_eq_true h7]; rfl
    clear h5 h6 h7
    go_enter Tryz.func8, Tryz.ntmps8
    go_wp2_with fail
    go_ret
    exact ⟨rfl, HB.out⟩
   ·have f8 : ¬ (nS : Int) ≤ 5000 := by omega
    obtain rfl : ans = false := by rw [HF.out, decide_eq_false h7]; simp
    clear h5 h6 h7
    by_cases hb : 4096 < bars
    ·go_enter Tryz.func8, Tryz.ntmps8
     go_wp2_with fail
     go_ret
     exact ⟨rfl, HB.out⟩
    ·go_enter Tryz.func8, Tryz.ntmps8
     go_wp2_with fail
     go_ret
     exact ⟨rfl, HB.out⟩
  ·have f6 : ¬ (4096 : Int) < (nS : Int) := by omega
   obtain rfl : ans = false := by rw [HF.out, decide_eq_false h6]; rfl
   clear h5 h6
   by_cases hb : 4096 < bars
   ·go_enter Tryz.func8, Tryz.ntmps8
    go_wp2_with fail
    go_ret
    exact ⟨rfl, HB.out⟩
   ·go_enter Tryz.func8, Tryz.ntmps8
    go_wp2_with fail
    go_ret
    exact ⟨rfl, HB.out⟩
end Go.Proofs.YtggcbblikgankaaGreatDoor
end
section
namespace Go.Proofs.YtggcbblikgankaaGreatDoor
open Go Go.RowKit
end Go.Proofs.YtggcbblikgankaaGreatDoor
end
section
namespace Go.Proofs.YtggcbblikgankaaGreatDoor
open Go Go.RowKit
def WkAt (k : Wrk) (ws : Array Value) (w : World) : Prop :=
 ∃ (aR aT aP aX aS : Option Addr) (cR cT cP cX cS : Nat),
  ws = #[.int .i64 k.width, .int .i64 k.depth, .int .i64 k.ta, .int .i64 k.tb, .int .i64 k.tc, .slice aR k.roles.length cR, .int .i64 k.clock.bars, .slice aT k.clock.tempos.length cT, .slice aP k.clock.pauses.length cP, .slice aX k.clock.spans.length cX, .slice aS k.signs.length cS] ∧
  IsRow encR 4 w (.slice aR k.roles.length cR) k.roles ∧ IsRow encT 3 w (.slice aT k.clock.tempos.length cT) k.clock.tempos ∧ IsRow encP 4 w (.slice aP k.clock.pauses.length cP) k.clock.pauses ∧ IsRow encC 4 w (.slice aX k.clock.spans.length cX) k.clock.spans ∧ IsRow encS 14 w (.slice aS k.signs.length cS) k.signs
section
variable {k : Wrk} {ws : Array Value} {w : World}
theorem WkAt.below {w' : World} {B : Nat} (h : WkAt k ws w) (hb : Below B w w') (hB : w.heap.size ≤ B) : WkAt k ws w' := by
 obtain ⟨aR, aT, aP, aX, aS, cR, cT, cP, cX, cS, e, hR, hT, hP, hX, hS⟩ := h
 exact ⟨aR, aT, aP, aX, aS, cR, cT, cP, cX, cS, e, hR.below hb hB, hT.below hb hB, hP.below hb hB, hX.below hb hB, hS.below hb hB⟩
theorem WkAt.size (h : WkAt k ws w) : (Tryz.prog.info? 32).map (·.size) = some ws.size := by
 obtain ⟨aR, aT, aP, aX, aS, cR, cT, cP, cX, cS, rfl, _⟩ := h
 kernel_rfl
theorem WkAt.few (h : WkAt k ws w) (W : World) : Calls Tryz.prog 8 #[.agg ws] W fun e w' => e = .returned (.bool (fewB k)) ∧ Below W.heap.size W w' := by
 obtain ⟨aR, aT, aP, aX, aS, cR, cT, cP, cX, cS, rfl, _⟩ := h
 exact few_any _ _ _ _ _ _ _ _ _ _ _ _ _ _ _ _ _ _ _ _ _ W
theorem WkAt.options (h : WkAt k ws w) (hE : Env w) (hz : 2 ≤ w.heap.size) (n : Int) (b : Bod) (hbn : b.name.length ≤ maxLen) :
  Calls Tryz.prog 9 #[.agg ws, .int .i64 n, bodV b] w fun e w' => ∃ v, e = .returned (.tuple #[v, .int .i64 (optE k n b)]) ∧ w'.ownsRow w.heap.size 37 4 v (optR k n b).length ((optR k n b).flatMap encRea) ∧ Below w.heap.size w w' := by
 obtain ⟨aR, aT, aP, aX, aS, cR, cT, cP, cX, cS, rfl, hR, hT, hP, hX, hS⟩ := h
 exact options_any n b hbn _ _ _ _ _ _ _ _ _ _ _ _ _ _ _ _ _ _ _ _ _ w hE hz hR hT hP hX hS
theorem WkAt.cost (h : WkAt k ws w) (hE : Env w) (n : Int) (r : Rea) : Calls Tryz.prog 11 #[.agg ws, .int .i64 n, reaV r] w (costR (costI k n r) (costE k n r) w) := by
 obtain ⟨aR, aT, aP, aX, aS, cR, cT, cP, cX, cS, rfl, hR, hT, hP, hX, hS⟩ := h
 exact cost_any n r _ _ _ _ _ _ _ _ _ _ _ _ _ _ _ _ _ _ _ _ _ w hE hR hT hP hX hS
end
theorem idP_own {ss : List Sgn} (hs : SortedT (idT ss)) {i : Nat} {s : Sgn} (h : ss[i]? = some s) : idP ss s.id = i := by
 have hi := upTo_iff (bar := s.id - 1) hs (idT_at h)
 have h1 : ¬ i < idP ss s.id := fun hlt => by
  have := hi.2 hlt
  simp at this
  omega
 rcases Nat.lt_or_ge (idP ss s.id) i with hlt | hge
 ·have hil : i < ss.length := (List.getElem?_eq_some_iff.1 h).1
  have hp : ss[idP ss s.id]? = some (ss[idP ss s.id]'(by omega)) := List.getElem?_eq_getElem _
  have hq := upTo_iff (bar := s.id - 1) hs (idT_at hp)
  have hlt2 : (ss[idP ss s.id]'(by omega)).id < s.id := by
   have e1 := idT_at hp
   have e2 := idT_at h
   obtain ⟨g1, f1⟩ := List.getElem?_eq_some_iff.1 e1
   obtain ⟨g2, f2⟩ := List.getElem?_eq_some_iff.1 e2
   have := List.pairwise_iff_getElem.1 hs (idP ss s.id) i g1 g2 hlt
   rw [f1, f2] at this
   exact this
  have : idP ss s.id < upTo (idT ss) (s.id - 1) := hq.1 (by show (ss[idP ss s.id]'(by omega)).id ≤ s.id - 1; omega)
  exact absurd this (Nat.lt_irrefl _)
 ·omega
theorem idF_own {ss : List Sgn} (hs : SortedT (idT ss)) {s : Sgn} (h : s ∈ ss) : idF ss s.id = true ∧ ss[idP ss s.id]! = s := by
 obtain ⟨i, hi⟩ := List.getElem?_of_mem h
 have := idP_own hs hi
 unfold idF
 rw [this, hi, List.getElem!_eq_getElem?_getD, hi]
 simp
end Go.Proofs.YtggcbblikgankaaGreatDoor
end
