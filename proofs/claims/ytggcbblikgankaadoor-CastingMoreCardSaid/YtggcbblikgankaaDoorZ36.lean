/- Contracts and plain laws on the way to the statement: part 36. -/
import Derived.Test.YtggcbblikgankaaDoorZ35
import Derived.Test.YtggcbblikgankaaDoorZ34
import Derived.Test.YtggcbblikgankaaDoorZ7
set_option linter.unusedVariables false
set_option linter.unusedSimpArgs false
section
namespace Go.Proofs.YtggcbblikgankaaDoor
open Go Go.RowKit

def armS : Sgn := ⟨3, 0, 0, 1, 4, 1, 1, 2, 0, 0, 0, 1, 1, 1⟩
def legS : Sgn := ⟨5, 0, 0, 3, 3, 1, 1, 3, 0, 0, 0, 1, 1, 1⟩
def smallW (ta tb tc : Int) : Wrk := ⟨20, 20, ta, tb, tc, [⟨[97], 0, 0, 0⟩], ⟨1, [⟨0, 100, 0⟩], [], []⟩, [armS, legS]⟩
def smallV (ta tb tc : Int) (R T S : Nat) : Value := .agg #[.int .i64 20, .int .i64 20, .int .i64 ta, .int .i64 tb, .int .i64 tc, .slice (some ⟨R, 0, none⟩) 1 1, .int .i64 1, .slice (some ⟨T, 0, none⟩) 1 1, .slice none 0 0, .slice none 0 0, .slice (some ⟨S, 0, none⟩) 2 2]
structure SmallAt (w' : World) (R T S : Nat) : Prop where
  r : w'.heap[R]? = some (.cells #[.string ⟨#[97]⟩, .int .i64 0, .int .i64 0, .int .i64 0] 109 (0, 0))
  t : w'.heap[T]? = some (.cells #[.int .i64 0, .int .i64 100, .int .i64 0] 140 (0, 0))
  s : w'.heap[S]? = some (.cells (sgnA armS ++ sgnA legS) 41 (0, 0))
set_option maxRecDepth 100000 in
set_option maxHeartbeats 8000000 in
theorem small_any (ta tb tc : Int) (w : World) : Calls Tryd.prog 43 #[.agg #[.int .i64 ta, .int .i64 tb, .int .i64 tc]] w fun e w' => ∃ R T S, e = .returned (smallV ta tb tc R T S) ∧ SmallAt w' R T S ∧ Below w.heap.size w w' := by
  have hc1 := fun w => whole_any ⟨3, 0, 0, 1, 4, 1, 1, 2, 0, 0, 0, 0, 0, 0⟩ w
  have hc2 := fun w => whole_any ⟨5, 0, 0, 3, 3, 1, 1, 3, 0, 0, 0, 0, 0, 0⟩ w
  unfold sgnV at hc1 hc2
  have HC1 := Lib.hid hc1; have HC2 := Lib.hid hc2
  clear hc1 hc2
  go_enter Tryd.func43, Tryd.ntmps43
  go_wp2_with fail
  obtain ⟨g0, g1, hz, hb⟩ := blocks2 w (.cells #[.int .i64 ta, .int .i64 tb, .int .i64 tc] 23) (.cells #[.int .i64 0, .int .i64 0, .int .i64 0, .int .i64 0, .int .i64 0, .slice none 0 0, .int .i64 0, .slice none 0 0, .slice none 0 0, .slice none 0 0, .slice none 0 0] 32)
  generalize (w.alloc (.cells #[.int .i64 ta, .int .i64 tb, .int .i64 tc] 23)).alloc (.cells #[.int .i64 0, .int .i64 0, .int .i64 0, .int .i64 0, .int .i64 0, .slice none 0 0, .int .i64 0, .slice none 0 0, .slice none 0 0, .slice none 0 0, .slice none 0 0] 32) = w0 at *
  refine (HC1.out _).mono ?_
  rintro e w1 ⟨rfl, b1⟩
  have hz1 := b1.size
  have h0 := (b1.block w.heap.size (by omega)).trans g0
  have h1 := (b1.block (w.heap.size + 1) (by omega)).trans g1
  have hB1 := hb.trans (b1.mono (by omega))
  have n1 := heap_alloc_new w1 (.cells #[.int .i64 3, .int .i64 0, .int .i64 0, .int .i64 1, .int .i64 4, .int .i64 1, .int .i64 1, .int .i64 2, .int .i64 0, .int .i64 0, .int .i64 0, .int .i64 1, .int .i64 1, .int .i64 1] 41)
  have a1 : Below w1.heap.size w1 (w1.alloc (.cells #[.int .i64 3, .int .i64 0, .int .i64 0, .int .i64 1, .int .i64 4, .int .i64 1, .int .i64 1, .int .i64 2, .int .i64 0, .int .i64 0, .int .i64 0, .int .i64 1, .int .i64 1, .int .i64 1] 41)) := (Below.refl _ _).alloc (Nat.le_refl _) _
  have z1 : (w1.alloc (.cells #[.int .i64 3, .int .i64 0, .int .i64 0, .int .i64 1, .int .i64 4, .int .i64 1, .int .i64 1, .int .i64 2, .int .i64 0, .int .i64 0, .int .i64 0, .int .i64 1, .int .i64 1, .int .i64 1] 41)).heap.size = w1.heap.size + 1 := by simp
  have G0 := Lib.hid ((a1.block w.heap.size (by omega)).trans h0)
  have G1 := Lib.hid ((a1.block (w.heap.size + 1) (by omega)).trans h1)
  have G2 := Lib.hid n1
  have B1 := Lib.hid (hB1.trans (a1.mono (by omega)))
  have Z1 := Lib.hid z1; have Z0 := Lib.hid hz; have Y1 := Lib.hid hz1
  clear g0 g1 hz hb b1 hz1 h0 h1 hB1 n1 a1 z1 HC1
  go_wp2_with fail
  generalize w1.alloc (.cells #[.int .i64 3, .int .i64 0, .int .i64 0, .int .i64 1, .int .i64 4, .int .i64 1, .int .i64 1, .int .i64 2, .int .i64 0, .int .i64 0, .int .i64 0, .int .i64 1, .int .i64 1, .int .i64 1] 41) = wa at *
  refine (HC2.out _).mono ?_
  rintro e w2 ⟨rfl, b2⟩
  have hz2 := b2.size
  have zz : w.heap.size + 1 < wa.heap.size ∧ w1.heap.size < wa.heap.size := by have := Z1.out; have := Z0.out; have := Y1.out; omega
  have h0 := (b2.block w.heap.size (by omega)).trans G0.out
  have h1 := (b2.block (w.heap.size + 1) (by omega)).trans G1.out
  have h2 := (b2.block w1.heap.size (by omega)).trans G2.out
  have hB2 := B1.out.trans (b2.mono (by have := B1.out.size; omega))
  have a2 : Below w2.heap.size w2 ((((w2.alloc (.cells #[.int .i64 5, .int .i64 0, .int .i64 0, .int .i64 3, .int .i64 3, .int .i64 1, .int .i64 1, .int .i64 3, .int .i64 0, .int .i64 0, .int .i64 0, .int .i64 1, .int .i64 1, .int .i64 1] 41)).alloc (.cells #[.string ⟨#[97]⟩, .int .i64 0, .int .i64 0, .int .i64 0] 109)).alloc (.cells #[.int .i64 0, .int .i64 100, .int .i64 0] 140))) := (((Below.refl _ w2).alloc (Nat.le_refl _) _).alloc (by simp) _).alloc (by simp; omega) _
  obtain ⟨k0, k1, k2, kz, _⟩ := blocks3 w2 (.cells #[.int .i64 5, .int .i64 0, .int .i64 0, .int .i64 3, .int .i64 3, .int .i64 1, .int .i64 1, .int .i64 3, .int .i64 0, .int .i64 0, .int .i64 0, .int .i64 1, .int .i64 1, .int .i64 1] 41) (.cells #[.string ⟨#[97]⟩, .int .i64 0, .int .i64 0, .int .i64 0] 109) (.cells #[.int .i64 0, .int .i64 100, .int .i64 0] 140)
  have L0 := Lib.hid ((((Below.refl w2.heap.size w2).alloc (Nat.le_refl _) (.cells #[.int .i64 5, .int .i64 0, .int .i64 0, .int .i64 3, .int .i64 3, .int .i64 1, .int .i64 1, .int .i64 3, .int .i64 0, .int .i64 0, .int .i64 0, .int .i64 1, .int .i64 1, .int .i64 1] 41)).block w.heap.size (by omega)).trans h0)
  have L1 := Lib.hid ((a2.block (w.heap.size + 1) (by omega)).trans h1)
  have L2 := Lib.hid ((a2.block w1.heap.size (by omega)).trans h2)
  have L3 := Lib.hid k0; have L4 := Lib.hid k1; have L5 := Lib.hid k2; have L6 := Lib.hid kz
  have a3 : Below (w2.heap.size + 3) (((w2.alloc (.cells #[.int .i64 5, .int .i64 0, .int .i64 0, .int .i64 3, .int .i64 3, .int .i64 1, .int .i64 1, .int .i64 3, .int .i64 0, .int .i64 0, .int .i64 0, .int .i64 1, .int .i64 1, .int .i64 1] 41)).alloc (.cells #[.string ⟨#[97]⟩, .int .i64 0, .int .i64 0, .int .i64 0] 109)).alloc (.cells #[.int .i64 0, .int .i64 100, .int .i64 0] 140)) ((((w2.alloc (.cells #[.int .i64 5, .int .i64 0, .int .i64 0, .int .i64 3, .int .i64 3, .int .i64 1, .int .i64 1, .int .i64 3, .int .i64 0, .int .i64 0, .int .i64 0, .int .i64 1, .int .i64 1, .int .i64 1] 41)).alloc (.cells #[.string ⟨#[97]⟩, .int .i64 0, .int .i64 0, .int .i64 0] 109)).alloc (.cells #[.int .i64 0, .int .i64 100, .int .i64 0] 140)).alloc (.cells #[.int .i64 3, .int .i64 0, .int .i64 0, .int .i64 1, .int .i64 4, .int .i64 1, .int .i64 1, .int .i64 2, .int .i64 0, .int .i64 0, .int .i64 0, .int .i64 1, .int .i64 1, .int .i64 1, .int .i64 5, .int .i64 0, .int .i64 0, .int .i64 3, .int .i64 3, .int .i64 1, .int .i64 1, .int .i64 3, .int .i64 0, .int .i64 0, .int .i64 0, .int .i64 1, .int .i64 1, .int .i64 1] 41)) := (Below.refl _ _).alloc (by simp) _
  have k3 := heap_alloc_new (((w2.alloc (.cells #[.int .i64 5, .int .i64 0, .int .i64 0, .int .i64 3, .int .i64 3, .int .i64 1, .int .i64 1, .int .i64 3, .int .i64 0, .int .i64 0, .int .i64 0, .int .i64 1, .int .i64 1, .int .i64 1] 41)).alloc (.cells #[.string ⟨#[97]⟩, .int .i64 0, .int .i64 0, .int .i64 0] 109)).alloc (.cells #[.int .i64 0, .int .i64 100, .int .i64 0] 140)) (.cells #[.int .i64 3, .int .i64 0, .int .i64 0, .int .i64 1, .int .i64 4, .int .i64 1, .int .i64 1, .int .i64 2, .int .i64 0, .int .i64 0, .int .i64 0, .int .i64 1, .int .i64 1, .int .i64 1, .int .i64 5, .int .i64 0, .int .i64 0, .int .i64 3, .int .i64 3, .int .i64 1, .int .i64 1, .int .i64 3, .int .i64 0, .int .i64 0, .int .i64 0, .int .i64 1, .int .i64 1, .int .i64 1] 41)
  rw [kz] at k3
  have M1 := Lib.hid ((a3.block (w.heap.size + 1) (by omega)).trans L1.out)
  have M2 := Lib.hid ((a3.block (w2.heap.size + 1) (by omega)).trans k1)
  have M3 := Lib.hid ((a3.block (w2.heap.size + 1 + 1) (by omega)).trans k2)
  have M4 := Lib.hid k3
  have M5 := Lib.hid (hB2.trans ((a2.mono hB2.size).trans (a3.mono (by have := hB2.size; omega))))
  clear a3 k3
  have B2 := Lib.hid hB2; have ZZ := Lib.hid zz; have Y2 := Lib.hid hz2
  clear h0 h1 h2 hB2 a2 k0 k1 k2 kz G0 G1 G2 B1 Z1 Z0 Y1 zz hz2 b2 HC2
  go_wp2_with (first | (refine wpList_load_row rfl 23 _ rfl w.heap.size rfl 23 _ (0, 0) _ L0.out Tryd.underlying23 rfl (by kernel_rfl) ?_; simp only [Act.put, List.setIfInBounds_toArray, List.set_cons_zero, List.set_cons_succ]) | (refine wpList_load_row rfl 41 _ rfl w1.heap.size rfl 41 _ (0, 0) _ L2.out Tryd.underlying41 rfl (by kernel_rfl) ?_; simp only [Act.put, List.setIfInBounds_toArray, List.set_cons_zero, List.set_cons_succ]) | (refine wpList_load_row rfl 41 _ rfl w2.heap.size rfl 41 _ (0, 0) _ L3.out Tryd.underlying41 rfl (by kernel_rfl) ?_; simp only [Act.put, List.setIfInBounds_toArray, List.set_cons_zero, List.set_cons_succ]) | (refine wpList_store_row rfl 32 _ _ rfl (w.heap.size + 1) _ rfl rfl 32 _ M1.out (by kernel_rfl) rfl (by simp [Value.oneCell']) ?_))
  have hq := setRow_heap _ (w.heap.size + 1) _ #[.int .i64 20, .int .i64 20, .int .i64 ta, .int .i64 tb, .int .i64 tc, .slice (some ⟨w2.heap.size + 1, 0, none⟩) 1 1, .int .i64 1, .slice (some ⟨w2.heap.size + 1 + 1, 0, none⟩) 1 1, .slice none 0 0, .slice none 0 0, .slice (some ⟨w2.heap.size + 1 + 1 + 1, 0, none⟩) 2 2] _ _ M1.out
  have hz2 := Y2.out
  have hzz := ZZ.out
  refine bodyPost_ret (results_cell_row rfl _ _ (w.heap.size + 1) 32 _ (0, 0) _ rfl hq Tryd.underlying32 rfl (by kernel_rfl)) rfl ⟨w2.heap.size + 1, w2.heap.size + 1 + 1, w2.heap.size + 1 + 1 + 1, rfl, ⟨?_, ?_, ?_⟩, below_setRow M5.out (by omega) _⟩
  · exact (setRow_other _ _ _ _ (by omega)).trans M2.out
  · exact (setRow_other _ _ _ _ (by omega)).trans M3.out
  · exact (setRow_other _ _ _ _ (by omega)).trans M4.out
end Go.Proofs.YtggcbblikgankaaDoor
end
section
namespace Go.Proofs.YtggcbblikgankaaDoor
open Go Go.RowKit

def dancerB : Bod := ⟨[100], 60, 40, 1, 3, 2, 4, 3, 2, 100, 100, 100, 2, 3, 3, 500, 100⟩
def insF (lt : Par → Par → Bool) (a b : Nat) : Nat → Nat → Array Par → Array Par
  | 0, _, d => d
  | f + 1, i, d => if i < b then insF lt a b f (i + 1) (Sort.insInner lt a i d) else d
theorem insF_eq (lt : Par → Par → Bool) (a b : Nat) : ∀ (f i : Nat) (d : Array Par), b ≤ i + f → Sort.insOuter lt a b i d = insF lt a b f i d
  | 0, i, d, h => by
    unfold insF Sort.insOuter; rw [if_neg (by omega)]
  | f + 1, i, d, h => by
    unfold insF Sort.insOuter
    split
    · exact insF_eq lt a b f (i + 1) _ (by omega)
    · rfl
theorem sortA_fuel (l : List Par) : sortA l = (insF (ltOf cfP) 0 l.length l.length 1 l.toArray).toList := by
  unfold sortA Sort.insertionSort
  rw [insF_eq _ _ _ l.length _ _ (by omega)]
theorem exact_ok : wrkE (smallW 1 0 1) = 0 := by kernel_rfl
theorem wide_ok : wrkE (smallW 3 4 5) = 0 := by kernel_rfl
theorem dancer_ok : bodB dancerB = true := by kernel_rfl
theorem opt1 : optE (smallW 1 0 1) 3 dancerB = 0 := by kernel_rfl
theorem opt2 : optE (smallW 3 4 5) 3 dancerB = 0 := by kernel_rfl
theorem opt3 : optE (smallW 1 0 1) 5 dancerB = 0 := by kernel_rfl
theorem opt4 : optE (smallW 1 0 1) 4 dancerB = 300 := by kernel_rfl
theorem find3 (ta tb tc : Int) : (smallW ta tb tc).signs[idP (smallW ta tb tc).signs 3]! = armS := by kernel_rfl
theorem find5 (ta tb tc : Int) : (smallW ta tb tc).signs[idP (smallW ta tb tc).signs 5]! = legS := by kernel_rfl
def optF (ta tc : Int) (s : Sgn) (top : Nat) : List Rea := ((insF (ltOf cfP) 0 (allL ta tc s top 9).length (allL ta tc s top 9).length 1 (allL ta tc s top 9).toArray).toList).map (·.r)
theorem optS_fuel (ta tc : Int) (s : Sgn) (top : Nat) : optS ta tc s top = optF ta tc s top := by unfold optS optF; rw [sortA_fuel]
theorem res1 : optR (smallW 1 0 1) 3 dancerB = [⟨3, 1, 2, false⟩] := by
  unfold optR; rw [if_pos opt1, find3]
  rw [show optL (smallW 1 0 1) armS dancerB = optS 1 1 armS 3 ++ [] from rfl, optS_fuel]
  kernel_rfl
theorem res2 : optR (smallW 3 4 5) 3 dancerB = [⟨3, 1, 2, false⟩, ⟨3, 2, 2, false⟩, ⟨3, 8, 2, false⟩, ⟨3, 1, 1, false⟩, ⟨3, 1, 3, false⟩] := by
  unfold optR; rw [if_pos opt2, find3, show optL (smallW 3 4 5) armS dancerB = optS 3 5 armS 3 ++ [] from rfl, optS_fuel]
  kernel_rfl
theorem res3 : optR (smallW 1 0 1) 5 dancerB = [⟨5, 0, 0, true⟩] := by
  unfold optR; rw [if_pos opt3, find5, show optL (smallW 1 0 1) legS dancerB = optS 1 1 legS 2 ++ [⟨5, 0, 0, true⟩] from rfl, optS_fuel]
  kernel_rfl
theorem res4 : optR (smallW 1 0 1) 4 dancerB = [] := by unfold optR; rw [if_neg (by rw [opt4]; decide)]
theorem cost1 : costE (smallW 1 0 1) 3 ⟨3, 0, 0, true⟩ = 0 ∧ costI (smallW 1 0 1) 3 ⟨3, 0, 0, true⟩ = 64 := ⟨by kernel_rfl, by kernel_rfl⟩
theorem cost2 : costE (smallW 1 0 1) 5 ⟨5, 0, 0, true⟩ = 0 ∧ costI (smallW 1 0 1) 5 ⟨5, 0, 0, true⟩ = 4 := ⟨by kernel_rfl, by kernel_rfl⟩
theorem cost3 : costE (smallW 3 4 5) 3 ⟨3, 2, 2, false⟩ = 0 ∧ costI (smallW 3 4 5) 3 ⟨3, 2, 2, false⟩ = 1 := ⟨by kernel_rfl, by kernel_rfl⟩
end Go.Proofs.YtggcbblikgankaaDoor
end
section
namespace Go.Proofs.YtggcbblikgankaaDoor
open Go Go.RowKit

theorem run_rea (op : BinOp) (hop : op = .neq ∨ op = .eql) (a b c : Int) (d : Bool) (a' b' c' : Int) (d' : Bool) (w : World) :
    (binOp op 60 (.agg #[.int .i64 a, .int .i64 b, .int .i64 c, .bool d]) (.agg #[.int .i64 a', .int .i64 b', .int .i64 c', .bool d'])).run Tryd.prog w = .ok (.bool (if op = .eql then (a == a' && b == b' && c == c' && d == d') else !(a == a' && b == b' && c == c' && d == d'))) w := by
  have u3 := Tryd.underlying3
  have a3 := Tryd.isAgg3
  have z3 := Tryd.sizeOf3
  have u4 := Tryd.underlying4
  have a4 := Tryd.isAgg4
  have z4 := Tryd.sizeOf4
  have hS : Tryd.prog.underlying 60 = some (.struct (Tryd.prog.fieldsOf 60)) := by kernel_rfl
  have hp : Tryd.prog.stoodInHeld 60 = false := by kernel_rfl
  rcases hop with rfl | rfl
  · rw [run_neq_struct, show (10000 : Nat) = 9999 + 1 from rfl, run_equalIn_agg w 9999 60 _ _ hS hp]
    simp only [Program.fieldsOf, Tryd.underlying60]
    go_simp
    by_cases h1 : a = a' <;> by_cases h2 : b = b' <;> by_cases h3 : c = c' <;> by_cases h4 : d = d' <;> simp [h1, h2, h3, h4]
  · rw [run_eql_struct, show (10000 : Nat) = 9999 + 1 from rfl, run_equalIn_agg w 9999 60 _ _ hS hp]
    simp only [Program.fieldsOf, Tryd.underlying60]
    go_simp
    by_cases h1 : a = a' <;> by_cases h2 : b = b' <;> by_cases h3 : c = c' <;> by_cases h4 : d = d' <;> simp [h1, h2, h3, h4]

theorem neq_rea (t u : Rea) (v : Bool) (h : decide (t = u) = v) (w : World) : (binOp .neq 60 (.agg #[.int .i64 t.sign, .int .i64 t.dir, .int .i64 t.level, .bool t.drop]) (.agg #[.int .i64 u.sign, .int .i64 u.dir, .int .i64 u.level, .bool u.drop])).run Tryd.prog w = .ok (.bool (!v)) w := by
  rw [run_rea .neq (Or.inl rfl)]
  rw [if_neg (by decide)]
  congr 3
  rw [← h, Bool.eq_iff_iff]
  cases t; cases u; simp [and_assoc]
theorem eql_rea (t u : Rea) (v : Bool) (h : decide (t = u) = v) (w : World) : (binOp .eql 60 (.agg #[.int .i64 t.sign, .int .i64 t.dir, .int .i64 t.level, .bool t.drop]) (.agg #[.int .i64 u.sign, .int .i64 u.dir, .int .i64 u.level, .bool u.drop])).run Tryd.prog w = .ok (.bool v) w := by
  rw [run_rea .eql (Or.inr rfl)]
  rw [if_pos rfl]
  congr 2
  rw [← h, Bool.eq_iff_iff]
  cases t; cases u; simp [and_assoc]
theorem atRea {w : World} {b o i : Nat} {xs : List Rea} {t : Rea} (h : AtRow encRea 4 w b o xs) (ht : xs[i]? = some t) :
    w.cell? ⟨b, o + i * 4, none⟩ = some (.int .i64 t.sign) ∧ w.cell? ⟨b, o + i * 4 + 1, none⟩ = some (.int .i64 t.dir) ∧ w.cell? ⟨b, o + i * 4 + 2, none⟩ = some (.int .i64 t.level) ∧ w.cell? ⟨b, o + i * 4 + 3, none⟩ = some (.bool t.drop) :=
  ⟨h i t ht 0 _ rfl, h i t ht 1 _ rfl, h i t ht 2 _ rfl, h i t ht 3 _ rfl⟩

set_option maxRecDepth 100000 in
set_option maxHeartbeats 8000000 in
theorem same_any (ao bo : Option Addr) (c d : Nat) (xs ys : List Rea) (w : World) (hx : IsRow encRea 4 w (.slice ao xs.length c) xs) (hy : IsRow encRea 4 w (.slice bo ys.length d) ys) :
    Calls Tryd.prog 25 #[.slice ao xs.length c, .slice bo ys.length d] w fun e w' => e = .returned (.bool (decide (xs = ys))) ∧ ∃ k, w' = w.drewN k := by
  have hmx : xs.length ≤ maxLen := by obtain ⟨_, _, _, h, _⟩ := hx; exact h
  simp only [maxLen] at hmx
  have HX := Lib.hid hx; have HY := Lib.hid hy
  clear hx hy
  by_cases hl : xs.length = ys.length
  · have hd : (∀ i : Nat, i < xs.length → xs[i]? = ys[i]?) ↔ xs = ys := by
      constructor
      · intro h
        apply List.ext_getElem?
        intro i
        by_cases hi : i < xs.length
        · exact h i hi
        · rw [List.getElem?_eq_none (by omega), List.getElem?_eq_none (by omega)]
      · rintro rfl i _; rfl
    generalize hb : decide (xs = ys) = bb
    have hyes : (∀ i : Nat, i < xs.length → xs[i]? = ys[i]?) → bb = true := fun h => by rw [← hb]; exact decide_eq_true (hd.1 h)
    have hno : ∀ (i : Nat) (t u : Rea), xs[i]? = some t → ys[i]? = some u → ¬ t = u → bb = false := fun i t u h1 h2 h3 => by
      rw [← hb]; exact decide_eq_false fun e => by rw [e, h2] at h1; exact h3 (Option.some.inj h1).symm
    have HYS := Lib.hid hyes; have HNO := Lib.hid hno
    clear hd hb hyes hno
    rw [← hl] at HY ⊢
    have HYL := Lib.hid hl.symm
    clear hl
    generalize hn : xs.length = N at *
    have HN := Lib.hid hn
    clear hn
    go_enter Tryd.func25, Tryd.ntmps25
    go_wp2_with fail
    go_loopw [5] (fun iv wr => ∃ k q : Nat, iv = .int .i64 k ∧ k ≤ N ∧ wr = w.drewN q ∧ Hid (∀ i : Nat, i < k → xs[i]? = ys[i]?)) (fun iv _ => N - (intOf iv).toNat)
    case atStart => exact ⟨0, 0, rfl, Nat.zero_le _, rfl, Lib.hid (fun i hi => by omega)⟩
    case round =>
      obtain ⟨k, q, rfl, hk, rfl, hI⟩ := hrel
      by_cases hkn : k < N
      · obtain ⟨t, ht⟩ : ∃ t, xs[k]? = some t := ⟨_, List.getElem?_eq_getElem (by rw [HN.out]; exact hkn)⟩
        obtain ⟨u, hu⟩ : ∃ u, ys[k]? = some u := ⟨_, List.getElem?_eq_getElem (by rw [HYL.out]; exact hkn)⟩
        obtain ⟨b1, o1, hp1, hat1, _⟩ := HX.out.block ht
        obtain ⟨b2, o2, hp2, hat2, _⟩ := HY.out.block hu
        subst hp1
        subst hp2
        obtain ⟨p0, p1, p2, p3⟩ := atRea hat1 ht
        obtain ⟨q0, q1, q2, q3⟩ := atRea hat2 hu
        have hkn' : (k : Int) < (N : Int) := by omega
        have HT := Lib.hid ht; have HU := Lib.hid hu
        clear hat1 hat2 ht hu
        by_cases htu : t = u
        · have hq := fun w => neq_rea t u true (decide_eq_true htu) w
          have HTU := Lib.hid htu; clear htu
          go_wp2_with fail
          go_quiet (fail)
          go_wp2_with fail
          go_roundw
          case rel => exact ⟨k + 1, q + nq, by go_num, by omega, by simp [World.drewN], Lib.hid (fun i hi => by
            by_cases h : i = k
            · subst h; rw [HT.out, HU.out, HTU.out]
            · exact hI.out i (by omega))⟩
          case measure => simp [intOf]; omega
        · have hq := fun w => neq_rea t u false (decide_eq_false htu) w
          obtain rfl := HNO.out k t u HT.out HU.out htu
          clear htu
          go_wp2_with fail
          go_quiet (fail)
          go_wp2_with fail
          go_ret
          exact ⟨rfl, q + nq, by simp [World.drewN, Nat.add_assoc]⟩
      · obtain rfl : k = N := by omega
        have hkn' : ¬ (k : Int) < (k : Int) := by omega
        obtain rfl := HYS.out (by exact hI.out)
        go_wp2_with fail
        go_ret
        exact ⟨rfl, q, rfl⟩
  · have hne : decide (xs = ys) = false := decide_eq_false fun e => hl (by rw [e])
    rw [hne]
    have f1 : ((xs.length : Int) != (ys.length : Int)) = true := by simp; omega
    clear hne
    go_enter Tryd.func25, Tryd.ntmps25
    go_wp2_with fail
    go_ret
    exact ⟨rfl, 0, rfl⟩

def hasN (l : List Rea) (r : Rea) : Nat := l.countP fun x => decide (x = r)
set_option maxRecDepth 100000 in
set_option maxHeartbeats 8000000 in
theorem has_any (ao : Option Addr) (c : Nat) (xs : List Rea) (r : Rea) (w : World) (hx : IsRow encRea 4 w (.slice ao xs.length c) xs) :
    Calls Tryd.prog 21 #[.slice ao xs.length c, reaV r] w fun e w' => e = .returned (.int .i64 (hasN xs r)) ∧ Below w.heap.size w w' := by
  have hmx : xs.length ≤ maxLen := by obtain ⟨_, _, _, h, _⟩ := hx; exact h
  simp only [maxLen] at hmx
  have hs : ∀ (k : Nat) (t : Rea), xs[k]? = some t → hasN (xs.take (k + 1)) r = hasN (xs.take k) r + if decide (t = r) then 1 else 0 := by
    intro k t ht
    unfold hasN
    rw [List.take_add_one, ht, List.countP_append]
    simp [List.countP_cons]
  have hle : ∀ k : Nat, hasN (xs.take k) r ≤ k := fun k => by
    unfold hasN; exact Nat.le_trans (List.countP_le_length) (by simp; omega)
  have hall : hasN (xs.take xs.length) r = hasN xs r := by rw [List.take_length]
  have hb0 : Below w.heap.size w (w.alloc (.cells #[.int .i64 r.sign, .int .i64 r.dir, .int .i64 r.level, .bool r.drop] 60)) := (Below.refl _ _).alloc (Nat.le_refl _) _
  have hg0 := heap_alloc_new w (.cells #[.int .i64 r.sign, .int .i64 r.dir, .int .i64 r.level, .bool r.drop] 60)
  have hz0 : (w.alloc (.cells #[.int .i64 r.sign, .int .i64 r.dir, .int .i64 r.level, .bool r.drop] 60)).heap.size = w.heap.size + 1 := by simp
  rw [← hall]
  have HX := Lib.hid hx; have HS := Lib.hid hs; have HL := Lib.hid hle; have HB := Lib.hid hb0; have HG := Lib.hid hg0; have HZ := Lib.hid hz0
  clear hx hs hle hall hb0 hg0 hz0
  generalize hn : xs.length = N at *
  have HN := Lib.hid hn
  clear hn
  unfold reaV
  go_enter Tryd.func21, Tryd.ntmps21
  go_wp2_with fail
  generalize (w.alloc (.cells #[.int .i64 r.sign, .int .i64 r.dir, .int .i64 r.level, .bool r.drop] 60)) = w0 at *
  go_loopw [4, 9] (fun nv iv wr => ∃ k : Nat, iv = .int .i64 k ∧ nv = .int .i64 (hasN (xs.take k) r : Nat) ∧ k ≤ N ∧ Hid (Below w0.heap.size w0 wr)) (fun _ iv _ => N - (intOf iv).toNat)
  case atStart => exact ⟨0, rfl, rfl, Nat.zero_le _, Lib.hid (Below.refl _ _)⟩
  case round =>
    obtain ⟨k, rfl, rfl, hk, hbw⟩ := hrel
    by_cases hkn : k < N
    · obtain ⟨t, ht⟩ : ∃ t, xs[k]? = some t := ⟨_, List.getElem?_eq_getElem (by rw [HN.out]; exact hkn)⟩
      obtain ⟨b1, o1, hp1, hat1, hlt1⟩ := HX.out.block ht
      subst hp1
      obtain ⟨p0, p1, p2, p3⟩ := atRea ((hat1.below HB.out hlt1).below hbw.out (by have := HZ.out; omega)) ht
      have g := (hbw.out.block w.heap.size (by have := HZ.out; omega)).trans HG.out
      have q0 : wr.cell? ⟨w.heap.size, 0, none⟩ = some (.int .i64 r.sign) := cell_at g 0 rfl
      have q1 : wr.cell? ⟨w.heap.size, 1, none⟩ = some (.int .i64 r.dir) := cell_at g 1 rfl
      have q2 : wr.cell? ⟨w.heap.size, 2, none⟩ = some (.int .i64 r.level) := cell_at g 2 rfl
      have q3 : wr.cell? ⟨w.heap.size, 3, none⟩ = some (.bool r.drop) := cell_at g 3 rfl
      have hkn' : (k : Int) < (N : Int) := by omega
      have hst := HS.out k t ht
      have hlk := HL.out k
      have hsz := hbw.out.size
      have HB2 := Lib.hid (hbw.out.alloc hsz (.cells #[.int .i64 t.sign, .int .i64 t.dir, .int .i64 t.level, .bool t.drop] 60))
      clear hat1 ht g
      generalize hasN (xs.take k) r = cnt at *
      generalize hc2 : hasN (xs.take (k + 1)) r = cnt2 at *
      have HC2 := Lib.hid hc2
      clear hc2
      have l0 : (wr.alloc (.cells #[.int .i64 t.sign, .int .i64 t.dir, .int .i64 t.level, .bool t.drop] 60)).cell? ⟨w.heap.size, 0, none⟩ = some (.int .i64 r.sign) := ((Below.refl wr.heap.size wr).alloc (Nat.le_refl _) _).cell (p := ⟨w.heap.size, 0, none⟩) (by show w.heap.size < wr.heap.size; have := HZ.out; omega) |>.trans q0
      have l1 : (wr.alloc (.cells #[.int .i64 t.sign, .int .i64 t.dir, .int .i64 t.level, .bool t.drop] 60)).cell? ⟨w.heap.size, 1, none⟩ = some (.int .i64 r.dir) := ((Below.refl wr.heap.size wr).alloc (Nat.le_refl _) _).cell (p := ⟨w.heap.size, 1, none⟩) (by show w.heap.size < wr.heap.size; have := HZ.out; omega) |>.trans q1
      have l2 : (wr.alloc (.cells #[.int .i64 t.sign, .int .i64 t.dir, .int .i64 t.level, .bool t.drop] 60)).cell? ⟨w.heap.size, 2, none⟩ = some (.int .i64 r.level) := ((Below.refl wr.heap.size wr).alloc (Nat.le_refl _) _).cell (p := ⟨w.heap.size, 2, none⟩) (by show w.heap.size < wr.heap.size; have := HZ.out; omega) |>.trans q2
      have l3 : (wr.alloc (.cells #[.int .i64 t.sign, .int .i64 t.dir, .int .i64 t.level, .bool t.drop] 60)).cell? ⟨w.heap.size, 3, none⟩ = some (.bool r.drop) := ((Below.refl wr.heap.size wr).alloc (Nat.le_refl _) _).cell (p := ⟨w.heap.size, 3, none⟩) (by show w.heap.size < wr.heap.size; have := HZ.out; omega) |>.trans q3
      by_cases htu : t = r
      · have hq := fun w => eql_rea t r true (decide_eq_true htu) w
        rw [decide_eq_true htu, if_pos rfl] at hst
        clear htu
        go_wp2_with fail
        go_roundw
        case rel => exact ⟨k + 1, by go_num, by rw [HC2.out]; congr 1; omega, by omega, HB2⟩
        case measure => simp [intOf]; omega
      · have hq := fun w => eql_rea t r false (decide_eq_false htu) w
        rw [decide_eq_false htu, if_neg (by decide)] at hst
        clear htu
        go_wp2_with fail
        go_roundw
        case rel => exact ⟨k + 1, by go_num, by rw [HC2.out]; congr 1; omega, by omega, HB2⟩
        case measure => simp [intOf]; omega
    · obtain rfl : k = N := by omega
      have hkn' : ¬ (k : Int) < (k : Int) := by omega
      have HB2 := Lib.hid (HB.out.trans (hbw.out.mono (by have := HZ.out; omega)))
      go_wp2_with fail
      go_ret
      exact ⟨rfl, HB2.out⟩
end Go.Proofs.YtggcbblikgankaaDoor
end
section
namespace Go.Proofs.YtggcbblikgankaaDoor
open Go Go.RowKit

def fewB (k : Wrk) : Bool :=
  !(decide (100 < k.roles.length) || decide (64 < k.clock.tempos.length) || decide (64 < k.clock.pauses.length) || decide (64 < k.clock.spans.length)) &&
  (decide (k.signs.length ≤ 80) && decide (k.clock.bars ≤ 4096) || decide (4096 < k.signs.length) && decide (k.signs.length ≤ 5000) || decide (4096 < k.clock.bars) && decide (k.signs.length ≤ 80))
set_option maxRecDepth 100000 in
set_option maxHeartbeats 8000000 in
theorem few_any (wd dp ta tb tc bars : Int) (aR aT aP aX aS : Option Addr) (cR cT cP cX cS : Nat) (rs : List Rol) (ts : List Tmp) (ps : List Pau) (xs : List Con) (ss : List Sgn) (w : World) :
    Calls Tryd.prog 15 #[.agg #[.int .i64 wd, .int .i64 dp, .int .i64 ta, .int .i64 tb, .int .i64 tc, .slice aR rs.length cR, .int .i64 bars, .slice aT ts.length cT, .slice aP ps.length cP, .slice aX xs.length cX, .slice aS ss.length cS]] w fun e w' => e = .returned (.bool (fewB ⟨wd, dp, ta, tb, tc, rs, ⟨bars, ts, ps, xs⟩, ss⟩)) ∧ Below w.heap.size w w' := by
  have hf : fewB ⟨wd, dp, ta, tb, tc, rs, ⟨bars, ts, ps, xs⟩, ss⟩ = (!(decide (100 < rs.length) || decide (64 < ts.length) || decide (64 < ps.length) || decide (64 < xs.length)) &&
    (decide (ss.length ≤ 80) && decide (bars ≤ 4096) || decide (4096 < ss.length) && decide (ss.length ≤ 5000) || decide (4096 < bars) && decide (ss.length ≤ 80))) := rfl
  generalize fewB ⟨wd, dp, ta, tb, tc, rs, ⟨bars, ts, ps, xs⟩, ss⟩ = ans at *
  generalize rs.length = nR at *
  generalize ts.length = nT at *
  generalize ps.length = nP at *
  generalize xs.length = nX at *
  generalize ss.length = nS at *
  have hb : Below w.heap.size w (w.alloc (.cells #[.int .i64 wd, .int .i64 dp, .int .i64 ta, .int .i64 tb, .int .i64 tc, .slice aR nR cR, .int .i64 bars, .slice aT nT cT, .slice aP nP cP, .slice aX nX cX, .slice aS nS cS] 32)) := (Below.refl _ _).alloc (Nat.le_refl _) _
  have HB := Lib.hid hb
  have HF := Lib.hid hf
  clear hb hf
  by_cases h1 : 100 < nR
  · have f1 : (100 : Int) < (nR : Int) := by omega
    obtain rfl : ans = false := by rw [HF.out, decide_eq_true h1]; simp
    clear h1
    go_enter Tryd.func15, Tryd.ntmps15
    go_wp2_with fail
    go_ret
    exact ⟨rfl, HB.out⟩
  have f1 : ¬ (100 : Int) < (nR : Int) := by omega
  by_cases h2 : 64 < nT
  · have f2 : (64 : Int) < (nT : Int) := by omega
    obtain rfl : ans = false := by rw [HF.out, decide_eq_true h2]; simp
    clear h1 h2
    go_enter Tryd.func15, Tryd.ntmps15
    go_wp2_with fail
    go_ret
    exact ⟨rfl, HB.out⟩
  have f2 : ¬ (64 : Int) < (nT : Int) := by omega
  by_cases h3 : 64 < nP
  · have f3 : (64 : Int) < (nP : Int) := by omega
    obtain rfl : ans = false := by rw [HF.out, decide_eq_true h3]; simp
    clear h1 h2 h3
    go_enter Tryd.func15, Tryd.ntmps15
    go_wp2_with fail
    go_ret
    exact ⟨rfl, HB.out⟩
  have f3 : ¬ (64 : Int) < (nP : Int) := by omega
  by_cases h4 : 64 < nX
  · have f4 : (64 : Int) < (nX : Int) := by omega
    obtain rfl : ans = false := by rw [HF.out, decide_eq_true h4]; simp
    clear h1 h2 h3 h4
    go_enter Tryd.func15, Tryd.ntmps15
    go_wp2_with fail
    go_ret
    exact ⟨rfl, HB.out⟩
  have f4 : ¬ (64 : Int) < (nX : Int) := by omega
  replace HF := Lib.hid (HF.out.trans (by rw [decide_eq_false h1, decide_eq_false h2, decide_eq_false h3, decide_eq_false h4]; rfl) : ans = (decide (nS ≤ 80) && decide (bars ≤ 4096) || decide (4096 < nS) && decide (nS ≤ 5000) || decide (4096 < bars) && decide (nS ≤ 80)))
  clear h1 h2 h3 h4
  by_cases h5 : nS ≤ 80
  · have f5 : (nS : Int) ≤ 80 := by omega
    have f6 : ¬ (4096 : Int) < (nS : Int) := by omega
    obtain rfl : ans = true := by
      rw [HF.out, decide_eq_true h5]
      by_cases hb : bars ≤ 4096
      · rw [decide_eq_true hb]; rfl
      · rw [decide_eq_true (show 4096 < bars by omega)]; simp
    clear h5
    by_cases hb : bars ≤ 4096
    · go_enter Tryd.func15, Tryd.ntmps15
      go_wp2_with fail
      go_ret
      exact ⟨rfl, HB.out⟩
    · have hb2 : 4096 < bars := by omega
      go_enter Tryd.func15, Tryd.ntmps15
      go_wp2_with fail
      go_ret
      exact ⟨rfl, HB.out⟩
  · have f5 : ¬ (nS : Int) ≤ 80 := by omega
    have f7 : decide ((nS : Int) ≤ 80) = false := decide_eq_false f5
    replace HF := Lib.hid (HF.out.trans (by rw [decide_eq_false h5]; simp) : ans = (decide (4096 < nS) && decide (nS ≤ 5000)))
    by_cases h6 : 4096 < nS
    · have f6 : (4096 : Int) < (nS : Int) := by omega
      by_cases h7 : nS ≤ 5000
      · have f8 : (nS : Int) ≤ 5000 := by omega
        obtain rfl : ans = true := by rw [HF.out, decide_eq_true h6, decide_eq_true h7]; rfl
        clear h5 h6 h7
        go_enter Tryd.func15, Tryd.ntmps15
        go_wp2_with fail
        go_ret
        exact ⟨rfl, HB.out⟩
      · have f8 : ¬ (nS : Int) ≤ 5000 := by omega
        obtain rfl : ans = false := by rw [HF.out, decide_eq_false h7]; simp
        clear h5 h6 h7
        by_cases hb : 4096 < bars
        · go_enter Tryd.func15, Tryd.ntmps15
          go_wp2_with fail
          go_ret
          exact ⟨rfl, HB.out⟩
        · go_enter Tryd.func15, Tryd.ntmps15
          go_wp2_with fail
          go_ret
          exact ⟨rfl, HB.out⟩
    · have f6 : ¬ (4096 : Int) < (nS : Int) := by omega
      obtain rfl : ans = false := by rw [HF.out, decide_eq_false h6]; rfl
      clear h5 h6
      by_cases hb : 4096 < bars
      · go_enter Tryd.func15, Tryd.ntmps15
        go_wp2_with fail
        go_ret
        exact ⟨rfl, HB.out⟩
      · go_enter Tryd.func15, Tryd.ntmps15
        go_wp2_with fail
        go_ret
        exact ⟨rfl, HB.out⟩
end Go.Proofs.YtggcbblikgankaaDoor
end
section
namespace Go.Proofs.YtggcbblikgankaaDoor
open Go Go.RowKit

def pickS (ss : List Sgn) (n : Nat) : Sgn := ss[n % ss.length]!
theorem results14 (tmps : Array Value) (w : World) (g : Nat) (cs : Array Value) (n : Value) (hz : cs.size = 14) (h4 : tmps.getD 4 undef = .pointer (some ⟨g, 0, none⟩)) (hg : w.heap[g]? = some (.cells cs 41 (0, 0))) (h5 : tmps.getD 5 undef = n) :
    (results Tryd.f14 tmps).run Tryd.prog w = .ok (.tuple #[.agg cs, n]) w := by
  rw [results_cell_tmp rfl, h4, h5]
  have hi : (Tryd.prog.info? 41).map (·.size) = some 14 := by kernel_rfl
  simp [asAddr, run_loadVar_row w g 41 41 cs (0, 0) _ hg Tryd.underlying41 rfl (by rw [hz]; exact hi), Result.andThen]
set_option maxRecDepth 100000 in
set_option maxHeartbeats 8000000 in
theorem pick_none (wd dp ta tb tc bars : Int) (aR aT aP aX aS : Option Addr) (nR nT nP nX cR cT cP cX cS : Nat) (n : Nat) (w : World) :
    Calls Tryd.prog 14 #[.agg #[.int .i64 wd, .int .i64 dp, .int .i64 ta, .int .i64 tb, .int .i64 tc, .slice aR nR cR, .int .i64 bars, .slice aT nT cT, .slice aP nP cP, .slice aX nX cX, .slice aS 0 cS], .int .u16 n] w fun e w' => e = .returned (.tuple #[.agg zeroA, .bool false]) ∧ Below w.heap.size w w' := by
  obtain ⟨g0, g1, hz, hb⟩ := blocks2 w (.cells #[.int .i64 wd, .int .i64 dp, .int .i64 ta, .int .i64 tb, .int .i64 tc, .slice aR nR cR, .int .i64 bars, .slice aT nT cT, .slice aP nP cP, .slice aX nX cX, .slice aS 0 cS] 32) (.cells zeroA 41)
  unfold zeroA at *
  have G1 := Lib.hid g1; have HB := Lib.hid hb
  clear g0 g1 hz hb
  go_enter Tryd.func14, Tryd.ntmps14
  go_wp2_with fail
  refine bodyPost_ret (results14 _ _ (w.heap.size + 1) _ _ rfl rfl G1.out rfl) rfl ⟨rfl, HB.out⟩
set_option maxRecDepth 100000 in
set_option maxHeartbeats 8000000 in
theorem pick_some (wd dp ta tb tc bars : Int) (aR aT aP aX : Option Addr) (nR nT nP nX cR cT cP cX cS b o : Nat) (n : Nat) (hn : n < 65536) (nS : Nat) (hS : 0 < nS) (s : Sgn) (w : World) (hb : b < w.heap.size)
    (hc : ∀ (j : Nat) (v : Value), (encS s)[j]? = some v → w.cell? ⟨b, o + n % nS * 14 + j, none⟩ = some v) :
    Calls Tryd.prog 14 #[.agg #[.int .i64 wd, .int .i64 dp, .int .i64 ta, .int .i64 tb, .int .i64 tc, .slice aR nR cR, .int .i64 bars, .slice aT nT cT, .slice aP nP cP, .slice aX nX cX, .slice (some ⟨b, o, none⟩) nS cS], .int .u16 n] w fun e w' => e = .returned (.tuple #[.agg (sgnA s), .bool true]) ∧ Below w.heap.size w w' := by
  obtain ⟨g0, g1, hz, hbl⟩ := blocks2 w (.cells #[.int .i64 wd, .int .i64 dp, .int .i64 ta, .int .i64 tb, .int .i64 tc, .slice aR nR cR, .int .i64 bars, .slice aT nT cT, .slice aP nP cP, .slice aX nX cX, .slice (some ⟨b, o, none⟩) nS cS] 32) (.cells zeroA 41)
  have hcc : ∀ (j : Nat) (v : Value), (encS s)[j]? = some v → ((w.alloc (.cells #[.int .i64 wd, .int .i64 dp, .int .i64 ta, .int .i64 tb, .int .i64 tc, .slice aR nR cR, .int .i64 bars, .slice aT nT cT, .slice aP nP cP, .slice aX nX cX, .slice (some ⟨b, o, none⟩) nS cS] 32)).alloc (.cells zeroA 41)).cell? ⟨b, o + n % nS * 14 + j, none⟩ = some v := fun j v h => (hbl.cell (p := ⟨b, o + n % nS * 14 + j, none⟩) hb).trans (hc j v h)
  unfold zeroA at *
  go_enter Tryd.func14, Tryd.ntmps14
  have f0 : ((nS : Int) == 0) = false := by simp; omega
  go_wp2_with fail
  generalize (w.alloc (.cells #[.int .i64 wd, .int .i64 dp, .int .i64 ta, .int .i64 tb, .int .i64 tc, .slice aR nR cR, .int .i64 bars, .slice aT nT cT, .slice aP nP cP, .slice aX nX cX, .slice (some ⟨b, o, none⟩) nS cS] 32)).alloc (.cells #[.int .i64 0, .int .i64 0, .int .i64 0, .int .i64 0, .int .i64 0, .int .i64 0, .int .i64 0, .int .i64 0, .int .i64 0, .int .i64 0, .int .i64 0, .int .i64 0, .int .i64 0, .int .i64 0] 41) = w0 at *
  have c10 : w0.cell? ⟨w.heap.size, 10, none⟩ = some (.slice (some ⟨b, o, none⟩) nS cS) := cell_at g0 10 rfl
  have hmod : ((n : Int)).tmod (nS : Int) = ((n % nS : Nat) : Int) := rfl
  have hmod2 : ((n : Int)) % (nS : Int) = ((n % nS : Nat) : Int) := rfl
  clear hmod2
  have hne0 : ¬ nS = 0 := by omega
  have hml : n % nS < nS := Nat.mod_lt _ hS
  have hml2 : ((n % nS : Nat) : Int) < (nS : Int) := by omega
  have hne : ¬ (nS : Int) = 0 := by omega
  have hcv : IntKind.i64.wrap (n : Int) = (n : Int) := IntWalk.i64_in _ (by omega)
  generalize n % nS = m at *
  have p0 : w0.cell? ⟨b, o + m * 14, none⟩ = some (.int .i64 s.id) := hcc 0 _ rfl
  have p1 : w0.cell? ⟨b, o + m * 14 + 1, none⟩ = some (.int .i64 s.role) := hcc 1 _ rfl
  have p2 : w0.cell? ⟨b, o + m * 14 + 2, none⟩ = some (.int .i64 s.bar) := hcc 2 _ rfl
  have p3 : w0.cell? ⟨b, o + m * 14 + 3, none⟩ = some (.int .i64 s.mark) := hcc 3 _ rfl
  have p4 : w0.cell? ⟨b, o + m * 14 + 4, none⟩ = some (.int .i64 s.kind) := hcc 4 _ rfl
  have p5 : w0.cell? ⟨b, o + m * 14 + 5, none⟩ = some (.int .i64 s.side) := hcc 5 _ rfl
  have p6 : w0.cell? ⟨b, o + m * 14 + 6, none⟩ = some (.int .i64 s.dir) := hcc 6 _ rfl
  have p7 : w0.cell? ⟨b, o + m * 14 + 7, none⟩ = some (.int .i64 s.level) := hcc 7 _ rfl
  have p8 : w0.cell? ⟨b, o + m * 14 + 8, none⟩ = some (.int .i64 s.size) := hcc 8 _ rfl
  have p9 : w0.cell? ⟨b, o + m * 14 + 9, none⟩ = some (.int .i64 s.wth) := hcc 9 _ rfl
  have p10 : w0.cell? ⟨b, o + m * 14 + 10, none⟩ = some (.int .i64 s.fn) := hcc 10 _ rfl
  have p11 : w0.cell? ⟨b, o + m * 14 + 11, none⟩ = some (.int .i64 s.fd) := hcc 11 _ rfl
  have p12 : w0.cell? ⟨b, o + m * 14 + 12, none⟩ = some (.int .i64 s.tn) := hcc 12 _ rfl
  have p13 : w0.cell? ⟨b, o + m * 14 + 13, none⟩ = some (.int .i64 s.td) := hcc 13 _ rfl
  have G1 := Lib.hid g1; have HB := Lib.hid hbl; have HZ := Lib.hid hz
  clear hcc hc g0 g1 hbl hz
  refine region_tail (fun w2 => w2 = w0.drew) 10 (by kernel_rfl) (by kernel_rfl) rfl ?_
  intro w2 hS2
  subst hS2
  simp only [List.take_succ_cons, List.take_zero, List.drop_succ_cons, List.drop_zero]
  repeat still_step
  refine wpStill_nil ?_
  have g1 : w0.drew.heap[w.heap.size + 1]? = some (.cells #[.int .i64 0, .int .i64 0, .int .i64 0, .int .i64 0, .int .i64 0, .int .i64 0, .int .i64 0, .int .i64 0, .int .i64 0, .int .i64 0, .int .i64 0, .int .i64 0, .int .i64 0, .int .i64 0] 41 (0, 0)) := G1.out
  have G1 := Lib.hid g1
  clear g1 p0 p1 p2 p3 p4 p5 p6 p7 p8 p9 p10 p11 p12 p13 c10
  go_wp2_with (refine wpList_store_row rfl 41 _ _ rfl (w.heap.size + 1) (sgnA s) rfl rfl 41 _ G1.out (by kernel_rfl) rfl (by simp [sgnA, Value.oneCell']) ?_)
  refine bodyPost_ret (results14 _ _ (w.heap.size + 1) (sgnA s) _ rfl rfl (setRow_heap _ _ _ _ _ _ G1.out) rfl) rfl ⟨rfl, below_setRow HB.out.drew (by omega) _⟩
end Go.Proofs.YtggcbblikgankaaDoor
end
section
namespace Go.Proofs.YtggcbblikgankaaDoor
open Go Go.RowKit

def WkAt (k : Wrk) (ws : Array Value) (w : World) : Prop :=
  ∃ (aR aT aP aX aS : Option Addr) (cR cT cP cX cS : Nat),
    ws = #[.int .i64 k.width, .int .i64 k.depth, .int .i64 k.ta, .int .i64 k.tb, .int .i64 k.tc, .slice aR k.roles.length cR, .int .i64 k.clock.bars, .slice aT k.clock.tempos.length cT, .slice aP k.clock.pauses.length cP, .slice aX k.clock.spans.length cX, .slice aS k.signs.length cS] ∧
    IsRow encR 4 w (.slice aR k.roles.length cR) k.roles ∧ IsRow encT 3 w (.slice aT k.clock.tempos.length cT) k.clock.tempos ∧ IsRow encP 4 w (.slice aP k.clock.pauses.length cP) k.clock.pauses ∧ IsRow encC 4 w (.slice aX k.clock.spans.length cX) k.clock.spans ∧ IsRow encS 14 w (.slice aS k.signs.length cS) k.signs
section
variable {k : Wrk} {ws : Array Value} {w : World}
theorem WkAt.below {w' : World} {B : Nat} (h : WkAt k ws w) (hb : Below B w w') (hB : w.heap.size ≤ B) : WkAt k ws w' := by
  obtain ⟨aR, aT, aP, aX, aS, cR, cT, cP, cX, cS, e, hR, hT, hP, hX, hS⟩ := h
  exact ⟨aR, aT, aP, aX, aS, cR, cT, cP, cX, cS, e, hR.below hb hB, hT.below hb hB, hP.below hb hB, hX.below hb hB, hS.below hb hB⟩
theorem WkAt.size (h : WkAt k ws w) : (Tryd.prog.info? 32).map (·.size) = some ws.size := by
  obtain ⟨aR, aT, aP, aX, aS, cR, cT, cP, cX, cS, rfl, _⟩ := h
  kernel_rfl
theorem WkAt.few (h : WkAt k ws w) (W : World) : Calls Tryd.prog 15 #[.agg ws] W fun e w' => e = .returned (.bool (fewB k)) ∧ Below W.heap.size W w' := by
  obtain ⟨aR, aT, aP, aX, aS, cR, cT, cP, cX, cS, rfl, _⟩ := h
  exact few_any _ _ _ _ _ _ _ _ _ _ _ _ _ _ _ _ _ _ _ _ _ W
theorem WkAt.check (h : WkAt k ws w) (hE : Env w) : Calls Tryd.prog 16 #[.agg ws] w fun e w' => e = .returned (.int .i64 (wrkE k)) ∧ Below w.heap.size w w' := by
  obtain ⟨aR, aT, aP, aX, aS, cR, cT, cP, cX, cS, rfl, hR, hT, hP, hX, hS⟩ := h
  exact echeck_any _ _ _ _ _ _ _ _ _ _ _ _ _ _ _ _ _ _ _ _ _ w hE hR hT hP hX hS
theorem WkAt.options (h : WkAt k ws w) (hE : Env w) (hz : 2 ≤ w.heap.size) (n : Int) (b : Bod) (hbn : b.name.length ≤ maxLen) :
    Calls Tryd.prog 18 #[.agg ws, .int .i64 n, bodV b] w fun e w' => ∃ v, e = .returned (.tuple #[v, .int .i64 (optE k n b)]) ∧ w'.ownsRow w.heap.size 60 4 v (optR k n b).length ((optR k n b).flatMap encRea) ∧ Below w.heap.size w w' := by
  obtain ⟨aR, aT, aP, aX, aS, cR, cT, cP, cX, cS, rfl, hR, hT, hP, hX, hS⟩ := h
  exact options_any n b hbn _ _ _ _ _ _ _ _ _ _ _ _ _ _ _ _ _ _ _ _ _ w hE hz hR hT hP hX hS
theorem WkAt.cost (h : WkAt k ws w) (hE : Env w) (n : Int) (r : Rea) : Calls Tryd.prog 22 #[.agg ws, .int .i64 n, reaV r] w (costR (costI k n r) (costE k n r) w) := by
  obtain ⟨aR, aT, aP, aX, aS, cR, cT, cP, cX, cS, rfl, hR, hT, hP, hX, hS⟩ := h
  exact cost_any n r _ _ _ _ _ _ _ _ _ _ _ _ _ _ _ _ _ _ _ _ _ w hE hR hT hP hX hS

def pickA (ss : List Sgn) (n : Nat) : Array Value := if ss = [] then zeroA else sgnA (pickS ss n)
theorem pickA_size (ss : List Sgn) (n : Nat) : (pickA ss n).size = 14 := by unfold pickA; split <;> rfl
theorem pickA_one (ss : List Sgn) (n : Nat) : (pickA ss n).all (·.oneCell') = true := by unfold pickA; split <;> simp [zeroA, sgnA, Value.oneCell']
theorem WkAt.pick (h : WkAt k ws w) (n : Nat) (hn : n < 65536) : Calls Tryd.prog 14 #[.agg ws, .int .u16 n] w fun e w' => e = .returned (.tuple #[.agg (pickA k.signs n), .bool (decide (k.signs ≠ []))]) ∧ Below w.heap.size w w' := by
  obtain ⟨aR, aT, aP, aX, aS, cR, cT, cP, cX, cS, rfl, hR, hT, hP, hX, hS⟩ := h
  unfold pickA
  by_cases h0 : k.signs = []
  · rw [if_pos h0, decide_eq_false (by simpa using h0), h0]
    exact pick_none _ _ _ _ _ _ _ _ _ _ _ _ _ _ _ _ _ _ _ _ n w
  · have hlen : 0 < k.signs.length := List.length_pos_iff.2 h0
    have hml : n % k.signs.length < k.signs.length := Nat.mod_lt _ hlen
    have hx : k.signs[n % k.signs.length]? = some (pickS k.signs n) := by
      unfold pickS; rw [List.getElem!_eq_getElem?_getD, List.getElem?_eq_getElem hml]; rfl
    obtain ⟨b, o, rfl, hat, hb⟩ := hS.block hx
    rw [if_neg h0, decide_eq_true h0]
    exact pick_some _ _ _ _ _ _ _ _ _ _ _ _ _ _ _ _ _ _ _ b o n hn _ hlen (pickS k.signs n) w hb fun j v hj => hat _ _ hx j v hj
end

theorem pick_mem {ss : List Sgn} (h : ss ≠ []) (n : Nat) : pickS ss n ∈ ss := by
  have hlen : 0 < ss.length := List.length_pos_iff.2 h
  have hml : n % ss.length < ss.length := Nat.mod_lt _ hlen
  unfold pickS
  rw [List.getElem!_eq_getElem?_getD, List.getElem?_eq_getElem hml]
  exact List.getElem_mem hml
theorem idP_own {ss : List Sgn} (hs : SortedT (idT ss)) {i : Nat} {s : Sgn} (h : ss[i]? = some s) : idP ss s.id = i := by
  have hi := upTo_iff (bar := s.id - 1) hs (idT_at h)
  have h1 : ¬ i < idP ss s.id := fun hlt => by
    have := hi.2 hlt
    simp at this
    omega
  rcases Nat.lt_or_ge (idP ss s.id) i with hlt | hge
  · have hil : i < ss.length := (List.getElem?_eq_some_iff.1 h).1
    have hp : ss[idP ss s.id]? = some (ss[idP ss s.id]'(by omega)) := List.getElem?_eq_getElem _
    have hq := upTo_iff (bar := s.id - 1) hs (idT_at hp)
    have hlt2 : (ss[idP ss s.id]'(by omega)).id < s.id := by
      have e1 := idT_at hp
      have e2 := idT_at h
      obtain ⟨g1, f1⟩ := List.getElem?_eq_some_iff.1 e1
      obtain ⟨g2, f2⟩ := List.getElem?_eq_some_iff.1 e2
      have := List.pairwise_iff_getElem.1 hs (idP ss s.id) i g1 g2 hlt
      rw [f1, f2] at this
      exact this
    have : idP ss s.id < upTo (idT ss) (s.id - 1) := hq.1 (by show (ss[idP ss s.id]'(by omega)).id ≤ s.id - 1; omega)
    exact absurd this (Nat.lt_irrefl _)
  · omega
theorem idF_own {ss : List Sgn} (hs : SortedT (idT ss)) {s : Sgn} (h : s ∈ ss) : idF ss s.id = true ∧ ss[idP ss s.id]! = s := by
  obtain ⟨i, hi⟩ := List.getElem?_of_mem h
  have := idP_own hs hi
  unfold idF
  rw [this, hi, List.getElem!_eq_getElem?_getD, hi]
  simp
theorem opt_own {k : Wrk} {s : Sgn} {b : Bod} (hk : wrkE k = 0) (hs : s ∈ k.signs) (hb : bodB b = true) : optE k s.id b = 0 ∧ optR k s.id b = optL k s b := by
  obtain ⟨h1, h2⟩ := idF_own (wrk_sorted hk) hs
  have he : optE k s.id b = 0 := by unfold optE; rw [if_neg (by simpa using hk), if_pos hb, if_pos h1]
  refine ⟨he, ?_⟩
  unfold optR
  rw [if_pos he, h2]
theorem cost_own {k : Wrk} {s : Sgn} {r : Rea} (hk : wrkE k = 0) (hs : s ∈ k.signs) (hf : formB s r = true) (hr : r.sign = s.id) : costE k s.id r = 0 ∧ costI k s.id r = priceI s r := by
  obtain ⟨h1, h2⟩ := idF_own (wrk_sorted hk) hs
  have he : costE k s.id r = 0 := by unfold costE; rw [if_neg (by simpa using hk), if_pos h1, h2, if_pos (by simp [hf, hr])]
  refine ⟨he, ?_⟩
  unfold costI
  rw [if_pos he, h2]
end Go.Proofs.YtggcbblikgankaaDoor
end
section
namespace Go.Proofs.YtggcbblikgankaaDoor
open Go Go.RowKit Go.Deep

def priceM (k : Wrk) (b : Bod) (role : Int) : List Sgn → Int → Int
  | [], s => s
  | x :: r, s => if x.role = role then (match optR k x.id b with | [] => -1 | o :: _ => priceM k b role r (s + costI k x.id o)) else priceM k b role r s
theorem priceM_cons (k : Wrk) (b : Bod) (role : Int) (x : Sgn) (r : List Sgn) (s : Int) : priceM k b role (x :: r) s = if x.role = role then (match optR k x.id b with | [] => -1 | o :: _ => priceM k b role r (s + costI k x.id o)) else priceM k b role r s := rfl
theorem priceI_bd (s : Sgn) (r : Rea) : 0 ≤ priceI s r ∧ priceI s r ≤ 64 := by
  unfold priceI
  repeat' split
  all_goals omega
theorem costI_bd (k : Wrk) (n : Int) (r : Rea) : 0 ≤ costI k n r ∧ costI k n r ≤ 64 := by
  unfold costI
  split
  · exact priceI_bd _ _
  · omega
theorem yieldsIf_rowH {P : Program} {ops : Array Oper} {S : World → Prop} {op : Oper} {a : Act} (hw : Region.wanted op (yielded ops a.tmps) = true) (ty : TypeId) (x : Operand) (ho : op.op = .load ty x)
    (g : Nat) (hx : a.eval x = .pointer (some ⟨g, 0, none⟩)) (t : TypeId) (cs : Array Value) (fr : Nat × Nat) (d : TypeDesc) (hS : ∀ w, S w → w.heap[g]? = some (.cells cs t fr))
    (hu : P.underlying ty = some d) (hd : (match d with | .struct _ | .array _ _ => true | _ => false) = true) (hi : (P.info? ty).map (·.size) = some cs.size) : YieldsIf P ops S op (.agg cs) a :=
  .inl ⟨hw, fun w hw' => by
    unfold execOp
    simp only [ho, hx, Instr.loadAt, Instr.sureAddr, Sem.run_bind, Sem.run_pure, Result.andThen_ok, run_loadVar_row w g t ty cs fr d (hS w hw') hu hd hi]⟩
set_option maxRecDepth 100000 in
set_option maxHeartbeats 8000000 in
theorem price_any (k : Wrk) (b : Bod) (role : Int) (hbn : b.name.length ≤ maxLen) (hsg : k.signs.length ≤ 1048576) (ws : Array Value) (A Bb : Nat) (w : World) (hE : Env w) (hz : 2 ≤ w.heap.size) (hWk : WkAt k ws w) (hA : w.heap[A]? = some (.cells ws 32 (0, 0))) (hB : w.heap[Bb]? = some (.cells (bodCells b) 36 (0, 0))) :
    Calls Tryd.prog 72 #[.int .i64 role, .pointer (some ⟨A, 0, none⟩), .pointer (some ⟨Bb, 0, none⟩)] w fun e w' => e = .returned (.int .i64 (priceM k b role k.signs 0)) ∧ Below w.heap.size w w' := by
  have hOPT := fun (n : Int) (W : World) (hb : Below w.heap.size w W) => (hWk.below hb (Nat.le_refl _)).options (Env.two hE hz hb) (Nat.le_trans hz hb.size) n b hbn
  have hCOST := fun (n : Int) (r : Rea) (W : World) (hb : Below w.heap.size w W) => (hWk.below hb (Nat.le_refl _)).cost (Env.two hE hz hb) n r
  have hsz := hWk.size
  have hAl := (Array.getElem?_eq_some_iff.1 hA).1
  have hBl := (Array.getElem?_eq_some_iff.1 hB).1
  obtain ⟨cS, n, aS, hcS, hrow, hn⟩ : ∃ (cS n : Nat) (aS : Option Addr), w.cell? ⟨A, 10, none⟩ = some (.slice aS n cS) ∧ IsRow encS 14 w (.slice aS n cS) k.signs ∧ k.signs.length = n := by
    obtain ⟨aR, aT, aP, aX, aS, cR, cT, cP, cX, cS, rfl, _, _, _, _, hS⟩ := hWk
    exact ⟨cS, k.signs.length, aS, cell_at hA 10 rfl, hS, rfl⟩
  have HOPT := Lib.hid hOPT; have HCOST := Lib.hid hCOST; have HSZ := Lib.hid hsz; have HA := Lib.hid hA; have HB := Lib.hid hB; have HROW := Lib.hid hrow; have HN := Lib.hid hn
  have hnm : n ≤ 1048576 := by have := HN.out; omega
  clear hOPT hCOST hsz hA hB hrow hn hWk hE
  go_enter Tryd.func72, Tryd.ntmps72
  go_wp2_with fail
  go_loopw [4, 14] (fun sv iv wr => ∃ (i : Nat) (s : Int), i ≤ n ∧ iv = .int .i64 i ∧ sv = .int .i64 s ∧ 0 ≤ s ∧ s ≤ 64 * i ∧ Hid (priceM k b role (k.signs.drop i) s = priceM k b role k.signs 0) ∧ Hid (Below w.heap.size w wr)) (fun _ iv _ => n - (intOf iv).toNat)
  case atStart => exact ⟨0, 0, Nat.zero_le _, rfl, rfl, Int.le_refl _, by omega, Lib.hid rfl, Lib.hid (Below.refl _ _)⟩
  case round =>
    obtain ⟨i, s, hin, rfl, rfl, hs0, hs1, hP, hW⟩ := hrel
    by_cases hi : i < n
    · obtain ⟨x, hx⟩ : ∃ x, k.signs[i]? = some x := ⟨_, List.getElem?_eq_getElem (by rw [HN.out]; exact hi)⟩
      have hd : k.signs.drop i = x :: k.signs.drop (i + 1) := by
        obtain ⟨h1, h2⟩ := List.getElem?_eq_some_iff.1 hx
        rw [List.drop_eq_getElem_cons h1, h2]
      have hp2 := hP.out
      rw [hd, priceM_cons] at hp2
      obtain ⟨b1, o1, hp1, hat, hb1⟩ := (HROW.out.below hW.out (Nat.le_refl _)).block hx
      subst hp1
      have p0 : wr.cell? ⟨b1, o1 + i * 14, none⟩ = some (.int .i64 x.id) := hat i x hx 0 _ rfl
      have p1 : wr.cell? ⟨b1, o1 + i * 14 + 1, none⟩ = some (.int .i64 x.role) := hat i x hx 1 _ rfl
      have p2 : wr.cell? ⟨b1, o1 + i * 14 + 2, none⟩ = some (.int .i64 x.bar) := hat i x hx 2 _ rfl
      have p3 : wr.cell? ⟨b1, o1 + i * 14 + 3, none⟩ = some (.int .i64 x.mark) := hat i x hx 3 _ rfl
      have p4 : wr.cell? ⟨b1, o1 + i * 14 + 4, none⟩ = some (.int .i64 x.kind) := hat i x hx 4 _ rfl
      have p5 : wr.cell? ⟨b1, o1 + i * 14 + 5, none⟩ = some (.int .i64 x.side) := hat i x hx 5 _ rfl
      have p6 : wr.cell? ⟨b1, o1 + i * 14 + 6, none⟩ = some (.int .i64 x.dir) := hat i x hx 6 _ rfl
      have p7 : wr.cell? ⟨b1, o1 + i * 14 + 7, none⟩ = some (.int .i64 x.level) := hat i x hx 7 _ rfl
      have p8 : wr.cell? ⟨b1, o1 + i * 14 + 8, none⟩ = some (.int .i64 x.size) := hat i x hx 8 _ rfl
      have p9 : wr.cell? ⟨b1, o1 + i * 14 + 9, none⟩ = some (.int .i64 x.wth) := hat i x hx 9 _ rfl
      have p10 : wr.cell? ⟨b1, o1 + i * 14 + 10, none⟩ = some (.int .i64 x.fn) := hat i x hx 10 _ rfl
      have p11 : wr.cell? ⟨b1, o1 + i * 14 + 11, none⟩ = some (.int .i64 x.fd) := hat i x hx 11 _ rfl
      have p12 : wr.cell? ⟨b1, o1 + i * 14 + 12, none⟩ = some (.int .i64 x.tn) := hat i x hx 12 _ rfl
      have p13 : wr.cell? ⟨b1, o1 + i * 14 + 13, none⟩ = some (.int .i64 x.td) := hat i x hx 13 _ rfl
      have hi' : (i : Int) < (n : Int) := by omega
      have hW1 : Below w.heap.size w (wr.alloc (.cells (sgnA x) 41)) := hW.out.alloc hW.out.size _
      have x0 : (wr.alloc (.cells (sgnA x) 41)).cell? ⟨wr.heap.size, 0, none⟩ = some (.int .i64 x.id) := cell_at (heap_alloc_new wr _) 0 rfl
      have x1 : (wr.alloc (.cells (sgnA x) 41)).cell? ⟨wr.heap.size, 1, none⟩ = some (.int .i64 x.role) := cell_at (heap_alloc_new wr _) 1 rfl
      have HSA : Hid ((sgnA x).all (·.oneCell') = true) := Lib.hid (by simp [sgnA, Value.oneCell'])
      have HX := Lib.hid hx; have HP2 := Lib.hid hp2; have HW1 := Lib.hid hW1
      have X0 := Lib.hid (heap_alloc_new wr (.cells (sgnA x) 41))
      clear hx hp2 hW1 hat hb1 hd hP
      have hA1 := (Below.heap_alloc wr (.cells (sgnA x) 41) A (Nat.lt_of_lt_of_le hAl hW.out.size)).trans ((hW.out.block A hAl).trans HA.out)
      have hB1 := (Below.heap_alloc wr (.cells (sgnA x) 41) Bb (Nat.lt_of_lt_of_le hBl hW.out.size)).trans ((hW.out.block Bb hBl).trans HB.out)
      have GA := Lib.hid hA1; have GB := Lib.hid hB1
      clear hA1 hB1
      by_cases hr : x.role = role
      · have hne : (x.role != role) = false := by simp [hr]
        have HR := Lib.hid hr
        have hP3 := HP2.out
        rw [if_pos hr] at hP3
        have HP3 := Lib.hid hP3
        clear hr hP3 HP2
        go_wp2_with (first | (refine wpList_store_row rfl 41 _ _ rfl wr.heap.size (sgnA x) rfl rfl 41 _ (heap_alloc_new wr _) (by kernel_rfl) rfl HSA.out ?_; rw [World.setRow_alloc_new]) | (refine wpList_load_row rfl 32 _ rfl A rfl 32 _ (0, 0) _ GA.out Tryd.underlying32 rfl HSZ.out ?_; simp only [Act.put, List.setIfInBounds_toArray, List.set_cons_zero, List.set_cons_succ]) | (refine wpList_load_row rfl 36 _ rfl Bb rfl 36 (bodCells b) (0, 0) _ GB.out Tryd.underlying36 rfl (by kernel_rfl) ?_; simp only [Act.put, List.setIfInBounds_toArray, List.set_cons_zero, List.set_cons_succ]))
        refine (HOPT.out x.id _ HW1.out).mono ?_
        rintro e w2 ⟨v, rfl, ho, hb2⟩
        obtain ⟨ao, c, rfl, hlm, _⟩ := owns_isRow encRea_len ho rfl
        have hW2 := HW1.out.trans (hb2.mono HW1.out.size)
        have hs2 : (wr.alloc (.cells (sgnA x) 41)).heap.size = wr.heap.size + 1 := by simp
        have y0 : w2.cell? ⟨wr.heap.size, 0, none⟩ = some (.int .i64 x.id) := (hb2.cell (p := ⟨wr.heap.size, 0, none⟩) (by rw [hs2]; exact Nat.lt_succ_self _)).trans x0
        have hwl : wr.heap.size < w2.heap.size := by have := hb2.size; omega
        have yA := (hb2.block A (by rw [hs2]; have := hW.out.size; omega)).trans GA.out
        have HO := Lib.hid ho; have HW2 := Lib.hid hW2; have YA := Lib.hid yA
        clear ho hb2 hW2 GA GB x0 x1 X0 HW1 HSA p0 p1 p2 p3 p4 p5 p6 p7 p8 p9 p10 p11 p12 p13 hs2 yA
        by_cases he : optE k x.id b = 0
        · have hee : (optE k x.id b != 0) = false := by simp [he]
          rcases hl : optR k x.id b with _ | ⟨o, l⟩
          · have HP4 := HP3.out
            rw [hl] at HP4 HO
            have HP5 := Lib.hid HP4
            clear HP4 hl he
            go_wp2_with fail
            go_ret
            exact ⟨by rw [← HP5.out]; rfl, HW2.out⟩
          · have HP4 := HP3.out
            have hrow := owns_isRow encRea_len HO.out rfl
            rw [hl] at HP4 hrow
            have HP5 : Hid (priceM k b role (k.signs.drop (i + 1)) (s + costI k x.id o) = priceM k b role k.signs 0) := Lib.hid HP4
            have hll : (o :: l).length = l.length + 1 := rfl
            rw [hll] at hrow
            have hr0 : (o :: l)[0]? = some o := rfl
            obtain ⟨g, og, eg, hat, hgl⟩ := hrow.block hr0
            subst eg
            obtain ⟨q0, q1, q2, q3⟩ := atRea hat hr0
            rw [hll]
            have hln : ((l.length + 1 : Nat) : Int) ≠ 0 := by omega
            have hln2 : (((l.length : Int) + 1) == 0) = false := by simp; omega
            clear HP4 hl he hrow hr0 hat hll HO
            generalize l.length = ll at *
            go_wp2_with fail
            have hcost := HCOST.out x.id o
            have hcb := costI_bd k x.id o
            have HCC := Lib.hid hcost
            clear hcost
            generalize costI k x.id o = ci at *
            generalize costE k x.id o = ce at *
            refine wp_region_noPanic ?_
            refine wp_region_held (S := fun w3 => w3.heap[A]? = some (.cells ws 32 (0, 0)) ∧ w3.cell? ⟨wr.heap.size, 0, none⟩ = some (.int .i64 x.id) ∧ w3.cell? ⟨g, og, none⟩ = some (.int .i64 o.sign) ∧ w3.cell? ⟨g, og + 1, none⟩ = some (.int .i64 o.dir) ∧ w3.cell? ⟨g, og + 2, none⟩ = some (.int .i64 o.level) ∧ w3.cell? ⟨g, og + 3, none⟩ = some (.bool o.drop)) (by kernel_rfl) ?_
            change wpAnyH _ _ _ _ _ _ _ _ w2.drew
            have hS0 : w2.drew.heap[A]? = some (.cells ws 32 (0, 0)) ∧ w2.drew.cell? ⟨wr.heap.size, 0, none⟩ = some (.int .i64 x.id) ∧ w2.drew.cell? ⟨g, og, none⟩ = some (.int .i64 o.sign) ∧ w2.drew.cell? ⟨g, og + 1, none⟩ = some (.int .i64 o.dir) ∧ w2.drew.cell? ⟨g, og + 2, none⟩ = some (.int .i64 o.level) ∧ w2.drew.cell? ⟨g, og + 3, none⟩ = some (.bool o.drop) := ⟨YA.out, y0, q0, q1, q2, q3⟩
            refine wpAnyH_take (i := 0) (oi := _) (v := .agg ws) rfl (by kernel_rfl) (by kernel_rfl) (by kernel_rfl) (fun _ _ _ h => h) (yieldsIf_rowH rfl 32 _ rfl A rfl 32 ws (0, 0) _ (fun _ h => h.1) Tryd.underlying32 rfl HSZ.out) hS0 ?_
            simp only [Act.put, List.setIfInBounds_toArray, List.set_cons_zero, List.set_cons_succ]
            refine wpAnyH_take (i := 1) (oi := _) (v := .pointer (some ⟨wr.heap.size, 0, none⟩)) rfl (by kernel_rfl) (by kernel_rfl) (by kernel_rfl) (fun _ _ _ h => h) (Or.inl ⟨by rfl, fun w hw => by obtain ⟨h1, h2, h3, h4, h5, h6⟩ := hw; go_simp⟩) hS0 ?_
            simp only [Act.put, List.setIfInBounds_toArray, List.set_cons_zero, List.set_cons_succ]
            refine wpAnyH_take (i := 2) (oi := _) (v := .int .i64 x.id) rfl (by kernel_rfl) (by kernel_rfl) (by kernel_rfl) (fun _ _ _ h => h) (Or.inl ⟨by rfl, fun w hw => by obtain ⟨h1, h2, h3, h4, h5, h6⟩ := hw; go_simp⟩) hS0 ?_
            simp only [Act.put, List.setIfInBounds_toArray, List.set_cons_zero, List.set_cons_succ]
            refine wpAnyH_take (i := 3) (oi := _) (v := .slice (some ⟨g, og, none⟩) (ll + 1) c) rfl (by kernel_rfl) (by kernel_rfl) (by kernel_rfl) (fun _ _ _ h => h) (Or.inl ⟨by rfl, fun w hw => by obtain ⟨h1, h2, h3, h4, h5, h6⟩ := hw; go_simp⟩) hS0 ?_
            simp only [Act.put, List.setIfInBounds_toArray, List.set_cons_zero, List.set_cons_succ]
            refine wpAnyH_take (i := 4) (oi := _) (v := .pointer (some ⟨g, og, none⟩)) rfl (by kernel_rfl) (by kernel_rfl) (by kernel_rfl) (fun _ _ _ h => h) (Or.inl ⟨by rfl, fun w hw => by obtain ⟨h1, h2, h3, h4, h5, h6⟩ := hw; go_simp⟩) hS0 ?_
            simp only [Act.put, List.setIfInBounds_toArray, List.set_cons_zero, List.set_cons_succ]
            refine wpAnyH_take (i := 5) (oi := _) (v := .agg #[.int .i64 o.sign, .int .i64 o.dir, .int .i64 o.level, .bool o.drop]) rfl (by kernel_rfl) (by kernel_rfl) (by kernel_rfl) (fun _ _ _ h => h) (Or.inl ⟨by rfl, fun w hw => by obtain ⟨h1, h2, h3, h4, h5, h6⟩ := hw; go_simp⟩) hS0 ?_
            simp only [Act.put, List.setIfInBounds_toArray, List.set_cons_zero, List.set_cons_succ]
            refine wpAnyH_ready (rs := [6]) (by kernel_rfl) (by simp) ?_
            refine AllReadyH.cons (o := _) rfl (fun K1 hK => ?_) AllReadyH.nil
            go_simp
            refine (HCC.out w2.drew HW2.out.drew).mono ?_
            rintro e w7 ⟨rfl, hb7⟩
            have hS1 : w7.heap[A]? = some (.cells ws 32 (0, 0)) ∧ w7.cell? ⟨wr.heap.size, 0, none⟩ = some (.int .i64 x.id) ∧ w7.cell? ⟨g, og, none⟩ = some (.int .i64 o.sign) ∧ w7.cell? ⟨g, og + 1, none⟩ = some (.int .i64 o.dir) ∧ w7.cell? ⟨g, og + 2, none⟩ = some (.int .i64 o.level) ∧ w7.cell? ⟨g, og + 3, none⟩ = some (.bool o.drop) :=
              ⟨(hb7.block A (Array.getElem?_eq_some_iff.1 YA.out).1).trans YA.out, (hb7.cell (p := ⟨wr.heap.size, 0, none⟩) hwl).trans y0, (hb7.cell (p := ⟨g, og, none⟩) hgl).trans q0, (hb7.cell (p := ⟨g, og + 1, none⟩) hgl).trans q1, (hb7.cell (p := ⟨g, og + 2, none⟩) hgl).trans q2, (hb7.cell (p := ⟨g, og + 3, none⟩) hgl).trans q3⟩
            have HW7 := Lib.hid (HW2.out.drew.trans (hb7.mono HW2.out.drew.size))
            refine hK.out _ _ hS1 (fun _ => ?_)
            clear hK K1 hS0 hb7
            refine wpAnyH_take (i := 7) (oi := _) (v := .tuple #[.int .i64 ci, .int .i64 ce]) rfl (by kernel_rfl) (by kernel_rfl) (by kernel_rfl) (fun _ _ _ h => h) (Or.inl ⟨by rfl, fun w hw => by go_simp⟩) hS1 ?_
            simp only [Act.put, List.setIfInBounds_toArray, List.set_cons_zero, List.set_cons_succ]
            refine wpAnyH_take (i := 8) (oi := _) (v := .int .i64 ci) rfl (by kernel_rfl) (by kernel_rfl) (by kernel_rfl) (fun _ _ _ h => h) (Or.inl ⟨by rfl, fun w hw => by go_simp⟩) hS1 ?_
            simp only [Act.put, List.setIfInBounds_toArray, List.set_cons_zero, List.set_cons_succ]
            refine wpAnyH_take (i := 9) (oi := _) (v := .int .i64 ce) rfl (by kernel_rfl) (by kernel_rfl) (by kernel_rfl) (fun _ _ _ h => h) (Or.inl ⟨by rfl, fun w hw => by go_simp⟩) hS1 ?_
            simp only [Act.put, List.setIfInBounds_toArray, List.set_cons_zero, List.set_cons_succ]
            refine wpAnyH_take (i := 10) (oi := _) (v := .int .i64 ci) rfl (by kernel_rfl) (by kernel_rfl) (by kernel_rfl) (fun _ _ _ h => h) (Or.inl ⟨by rfl, fun w hw => by go_simp⟩) hS1 ?_
            simp only [Act.put, List.setIfInBounds_toArray, List.set_cons_zero, List.set_cons_succ]
            refine wpAnyH_take (i := 11) (oi := _) (v := .int .i64 ce) rfl (by kernel_rfl) (by kernel_rfl) (by kernel_rfl) (fun _ _ _ h => h) (Or.inl ⟨by rfl, fun w hw => by go_simp⟩) hS1 ?_
            simp only [Act.put, List.setIfInBounds_toArray, List.set_cons_zero, List.set_cons_succ]
            refine wpAnyH_done (by kernel_rfl) ?_ _
            refine NoPanic.normal ?_
            clear hS1 q0 q1 q2 q3 y0 YA
            go_wp2_with fail
            go_roundw
            case rel => exact ⟨i + 1, s + ci, by omega, by go_num, rfl, by omega, by omega, HP5, HW7⟩
            case measure => simp [intOf]; omega
        · have hee : (optE k x.id b != 0) = true := by simpa using he
          have hl : optR k x.id b = [] := by unfold optR; rw [if_neg he]
          have HP4 := HP3.out
          rw [hl] at HP4 HO
          have HP5 := Lib.hid HP4
          clear HP4 hl he
          go_wp2_with fail
          go_ret
          exact ⟨by rw [← HP5.out]; rfl, HW2.out⟩
      · have hne : (x.role != role) = true := by simpa using hr
        have hP3 := HP2.out
        rw [if_neg hr] at hP3
        have HP3 := Lib.hid hP3
        clear hr hP3 HP2 GA GB
        go_wp2_with (refine wpList_store_row rfl 41 _ _ rfl wr.heap.size (sgnA x) rfl rfl 41 _ (heap_alloc_new wr _) (by kernel_rfl) rfl HSA.out ?_; rw [World.setRow_alloc_new])
        go_roundw
        case rel => exact ⟨i + 1, s, by omega, by go_num, rfl, hs0, by omega, HP3, HW1⟩
        case measure => simp [intOf]; omega
    · obtain rfl : i = n := by omega
      have hi' : ¬ (i : Int) < (i : Int) := by omega
      have hp := hP.out
      rw [List.drop_eq_nil_of_le (by rw [HN.out]; exact Nat.le_refl _)] at hp
      have HP := Lib.hid (show s = priceM k b role k.signs 0 from hp)
      clear hp hP
      go_wp2_with fail
      go_ret
      exact ⟨by rw [← HP.out]; rfl, hW.out⟩
end Go.Proofs.YtggcbblikgankaaDoor
end
section
namespace Go.Proofs.YtggcbblikgankaaDoor
open Go Go.RowKit

theorem isRow_block {α : Type} {enc : α → List Value} {k : Nat} (hk : ∀ x, (enc x).length = k) {w : World} {g n : Nat} {cs : Array Value} {t : TypeId} {xs : List α} (hg : w.heap[g]? = some (.cells cs t (0, 0))) (hn : xs.length = n) (hm : n ≤ maxLen) (hc : cs.toList = xs.flatMap enc) : IsRow enc k w (.slice (some ⟨g, 0, none⟩) n n) xs := by
  subst hn
  have : w.ownsRow 0 t k (.slice (some ⟨g, 0, none⟩) xs.length xs.length) xs.length (xs.flatMap enc) :=
    ⟨flat_len hk xs, Or.inr ⟨g, xs.length, cs, rfl, Nat.zero_le _, hg, Nat.le_refl _, hm, by rw [← Array.length_toList, hc, flat_len hk], by rw [hc, ← flat_len hk xs, List.take_length]⟩⟩
  exact owns_isRow hk this rfl
theorem encR_len (r : Rol) : (encR r).length = 4 := rfl
theorem encT_len (r : Tmp) : (encT r).length = 3 := rfl
theorem encS_len (r : Sgn) : (encS r).length = 14 := rfl
theorem SmallAt.roles {w : World} {R T S : Nat} (h : SmallAt w R T S) : IsRow encR 4 w (.slice (some ⟨R, 0, none⟩) 1 1) [⟨[97], 0, 0, 0⟩] := isRow_block encR_len h.r rfl (by decide) rfl
theorem SmallAt.tempos {w : World} {R T S : Nat} (h : SmallAt w R T S) : IsRow encT 3 w (.slice (some ⟨T, 0, none⟩) 1 1) [⟨0, 100, 0⟩] := isRow_block encT_len h.t rfl (by decide) rfl
theorem SmallAt.signs {w : World} {R T S : Nat} (h : SmallAt w R T S) : IsRow encS 14 w (.slice (some ⟨S, 0, none⟩) 2 2) [armS, legS] := isRow_block encS_len h.s rfl (by decide) (by simp [sgnA, encS])
theorem SmallAt.below {w w' : World} {R T S : Nat} (h : SmallAt w R T S) (hb : Below w.heap.size w w') : SmallAt w' R T S :=
  ⟨(hb.block _ (Array.getElem?_eq_some_iff.1 h.r).1).trans h.r, (hb.block _ (Array.getElem?_eq_some_iff.1 h.t).1).trans h.t, (hb.block _ (Array.getElem?_eq_some_iff.1 h.s).1).trans h.s⟩
def smallA (ta tb tc : Int) (R T S : Nat) : Array Value := #[.int .i64 20, .int .i64 20, .int .i64 ta, .int .i64 tb, .int .i64 tc, .slice (some ⟨R, 0, none⟩) 1 1, .int .i64 1, .slice (some ⟨T, 0, none⟩) 1 1, .slice none 0 0, .slice none 0 0, .slice (some ⟨S, 0, none⟩) 2 2]
theorem small_options (ta tb tc n : Int) (R T S : Nat) (w : World) (hE : Env w) (hz : 2 ≤ w.heap.size) (h : SmallAt w R T S) :
    Calls Tryd.prog 18 #[smallV ta tb tc R T S, .int .i64 n, bodV dancerB] w fun e w' => ∃ v, e = .returned (.tuple #[v, .int .i64 (optE (smallW ta tb tc) n dancerB)]) ∧ w'.ownsRow w.heap.size 60 4 v (optR (smallW ta tb tc) n dancerB).length ((optR (smallW ta tb tc) n dancerB).flatMap encRea) ∧ Below w.heap.size w w' :=
  options_any n dancerB (by decide) 20 20 ta tb tc 1 (some ⟨R, 0, none⟩) (some ⟨T, 0, none⟩) none none (some ⟨S, 0, none⟩) 1 1 0 0 2 [⟨[97], 0, 0, 0⟩] [⟨0, 100, 0⟩] [] [] [armS, legS] w hE hz h.roles h.tempos IsRow.nil IsRow.nil h.signs
theorem small_options_x (ta tb tc n er : Int) (l : List Rea) (R T S : Nat) (w : World) (hE : Env w) (hz : 2 ≤ w.heap.size) (h : SmallAt w R T S) (he : optE (smallW ta tb tc) n dancerB = er) (hl : optR (smallW ta tb tc) n dancerB = l) :
    Calls Tryd.prog 18 #[.agg #[.int .i64 20, .int .i64 20, .int .i64 ta, .int .i64 tb, .int .i64 tc, .slice (some ⟨R, 0, none⟩) 1 1, .int .i64 1, .slice (some ⟨T, 0, none⟩) 1 1, .slice none 0 0, .slice none 0 0, .slice (some ⟨S, 0, none⟩) 2 2], .int .i64 n, bodV dancerB] w fun e w' => ∃ v, e = .returned (.tuple #[v, .int .i64 er]) ∧ w'.ownsRow w.heap.size 60 4 v l.length (l.flatMap encRea) ∧ Below w.heap.size w w' := by
  subst he; subst hl
  exact small_options ta tb tc n R T S w hE hz h
theorem small_cost_x (ta tb tc n c : Int) (r : Rea) (R T S : Nat) (w : World) (hE : Env w) (h : SmallAt w R T S) (hc : costE (smallW ta tb tc) n r = 0 ∧ costI (smallW ta tb tc) n r = c) :
    Calls Tryd.prog 22 #[.agg (smallA ta tb tc R T S), .int .i64 n, .agg #[.int .i64 r.sign, .int .i64 r.dir, .int .i64 r.level, .bool r.drop]] w fun e w' => e = .returned (.tuple #[.int .i64 c, .int .i64 0]) ∧ Below w.heap.size w w' := by
  obtain ⟨h1, h2⟩ := hc
  have := cost_any n r 20 20 ta tb tc 1 (some ⟨R, 0, none⟩) (some ⟨T, 0, none⟩) none none (some ⟨S, 0, none⟩) 1 1 0 0 2 [⟨[97], 0, 0, 0⟩] [⟨0, 100, 0⟩] [] [] [armS, legS] w hE h.roles h.tempos IsRow.nil IsRow.nil h.signs
  rw [show (⟨20, 20, ta, tb, tc, [⟨[97], 0, 0, 0⟩], ⟨1, [⟨0, 100, 0⟩], [], []⟩, [armS, legS]⟩ : Wrk) = smallW ta tb tc from rfl, h1, h2] at this
  exact this
structure SaneAt (w W : World) (K1 K2 R1 T1 S1 R2 T2 S2 : Nat) : Prop where
  k1 : W.heap[K1]? = some (.cells (smallA 1 0 1 R1 T1 S1) 32 (0, 0))
  k2 : W.heap[K2]? = some (.cells (smallA 3 4 5 R2 T2 S2) 32 (0, 0))
  s1 : SmallAt W R1 T1 S1
  s2 : SmallAt W R2 T2 S2
  below0 : Below w.heap.size w W
theorem SaneAt.below {w W W' : World} {K1 K2 R1 T1 S1 R2 T2 S2 : Nat} (h : SaneAt w W K1 K2 R1 T1 S1 R2 T2 S2) (hb : Below W.heap.size W W') : SaneAt w W' K1 K2 R1 T1 S1 R2 T2 S2 :=
  ⟨(hb.block _ (Array.getElem?_eq_some_iff.1 h.k1).1).trans h.k1, (hb.block _ (Array.getElem?_eq_some_iff.1 h.k2).1).trans h.k2, h.s1.below hb, h.s2.below hb, h.below0.trans (hb.mono h.below0.size)⟩
theorem SaneAt.drew {w W : World} {K1 K2 R1 T1 S1 R2 T2 S2 : Nat} (h : SaneAt w W K1 K2 R1 T1 S1 R2 T2 S2) : SaneAt w W.drew K1 K2 R1 T1 S1 R2 T2 S2 := h.below (Below.refl _ _).drew
end Go.Proofs.YtggcbblikgankaaDoor
end
