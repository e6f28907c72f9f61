/- Contracts and plain laws on the way to the statement: part 31. -/
import Derived.Test.YtggcbblikgankaaGreatDoorZ30
import Derived.Test.YtggcbblikgankaaGreatDoorZ8
set_option linter.unusedVariables false
set_option linter.unusedSimpArgs false
section
namespace Go.Proofs.YtggcbblikgankaaGreatDoor
open Go.RowKit
set_option maxRecDepth 100000 in
set_option maxHeartbeats 8000000 in
theorem free_any (ta tb tc : Int) (s : Sgn) (b : Bod) (w : World) :
  Calls Tryz.prog 71 #[.agg #[.int .i64 ta, .int .i64 tb, .int .i64 tc], sgnV s, bodV b] w fun e w' => ∃ v, e = .returned v ∧ w'.ownsRow w.heap.size 37 4 v 1 ([⟨s.id, 0, min s.level b.t1, false⟩].flatMap encRea) ∧ Below w.heap.size w w' := by
 obtain ⟨g0, g1, g2, hz, hb⟩ := blocks3 w (.cells #[.int .i64 ta, .int .i64 tb, .int .i64 tc] 23) (.cells (sgnA s) 72) (.cells (bodCells b) 35)
 have ho := owns_new (((w.alloc (.cells #[.int .i64 ta, .int .i64 tb, .int .i64 tc] 23)).alloc (.cells (sgnA s) 72)).alloc (.cells (bodCells b) 35)) ⟨s.id, 0, min s.level b.t1, false⟩
 have hb2 := hb.alloc (by omega) (.cells #[.int .i64 s.id, .int .i64 0, .int .i64 (min s.level b.t1), .bool false] 37)
 rw [hz] at ho
 have ho := owns_base ho (show w.heap.size ≤ w.heap.size + 3 by omega)
 unfold sgnA bodCells at ho hb2
 have HO := Lib.hid ho; have HB2 := Lib.hid hb2
 clear ho hb2
 have HG1 := Lib.hid g1; have HG2 := Lib.hid g2; have HB := Lib.hid hb; have HZ := Lib.hid hz
 clear g0 g1 g2 hz hb
 unfold sgnA bodCells at HB HG1 HG2 HZ
 unfold sgnV bodV
 go_enter Tryz.func71, Tryz.ntmps71
 go_wp2_with fail
 go_ret
 exact ⟨_, rfl, HO.out, HB2.out⟩
def topOf (b : Bod) : Nat → Int
 | 0 => b.t0
 | 1 => b.t1
 | _ => b.t2
set_option maxRecDepth 100000 in
set_option maxHeartbeats 8000000 in
theorem limb1_any (ta tb tc : Int) (hta : 0 ≤ ta ∧ ta ≤ 32768) (htc : 1 ≤ tc ∧ tc ≤ 32768) (s : Sgn) (hd0 : 0 ≤ s.dir ∧ s.dir ≤ 8) (hl0 : 1 ≤ s.level ∧ s.level ≤ 3) (b : Bod) (i top : Nat) (hi : i < 3) (ht : topOf b i = (top : Int)) (htop : top ≤ 3) (Bi : Nat) (w : World) (hE : Env w) (hz : 2 ≤ w.heap.size) (hm : w.cell? ⟨Bi, 0, none⟩ = some (.int .i64 i)) :
  Calls Tryz.prog 97 #[.agg #[.int .i64 ta, .int .i64 tb, .int .i64 tc], sgnV s, bodV b, .pointer (some ⟨Bi, 0, none⟩)] w fun e w' => ∃ v, e = .returned v ∧ w'.ownsRow w.heap.size 37 4 v (optS ta tc s top).length ((optS ta tc s top).flatMap encRea) ∧ Below w.heap.size w w' := by
 have hBi := cell_block_lt hm
 obtain ⟨g0, g1, g2, hz3, hb⟩ := blocks3 w (.cells #[.int .i64 ta, .int .i64 tb, .int .i64 tc] 23) (.cells (sgnA s) 72) (.cells (bodCells b) 35)
 have hm0 := (hb.cell (p := ⟨Bi, 0, none⟩) hBi).trans hm
 have hf := fun Bt Bk Br w hE hz h1 h2 h3 h4 h5 h6 => falling_any Bt Bk Br ta tb tc hta htc s hd0 hl0 top htop w hE hz h1 h2 h3 h4 h5 h6
 have hbi : (bodCells b)[12 + i]? = some (.int .i64 top) := by
  rw [← ht]
  rcases i with _ | _ | _ | i
  ·rfl
  ·rfl
  ·rfl
  ·omega
 have ct := cell_at g2 (12 + i) hbi
 have HG0 := Lib.hid g0; have HG1 := Lib.hid g1; have HG2 := Lib.hid g2; have HB := Lib.hid hb; have HZ := Lib.hid hz3; have HE := Lib.hid hE; have HF := Lib.hid hf
 clear g0 g1 g2 hz3 hb hm hE hf hbi
 unfold sgnA bodCells at HB HG0 HG1 HG2 HZ hm0 ct
 unfold sgnV bodV
 go_enter Tryz.func97, Tryz.ntmps97
 go_wp2_with fail
 generalize (((w.alloc (.cells #[.int .i64 ta, .int .i64 tb, .int .i64 tc] 23)).alloc (.cells #[.int .i64 s.id, .int .i64 s.role, .int .i64 s.bar, .int .i64 s.mark, .int .i64 s.kind, .int .i64 s.side, .int .i64 s.dir, .int .i64 s.level, .int .i64 s.size, .int .i64 s.wth, .int .i64 s.fn, .int .i64 s.fd, .int .i64 s.tn, .int .i64 s.td] 72)).alloc (.cells #[.string ⟨b.name.toArray⟩, .int .i64 b.weight, .int .i64 b.lift, .int .i64 b.girth, .int .i64 b.step, .int .i64 b.jump, .int .i64 b.r0, .int .i64 b.r1, .int .i64 b.r2, .int .i64 b.s0, .int .i64 b.s1, .int .i64 b.s2, .int .i64 b.t0, .int .i64 b.t1, .int .i64 b.t2, .int .i64 b.effort, .int .i64 b.recover] 35)) = W0 at *
 have q0 : W0.cell? ⟨w.heap.size, 0, none⟩ = some (.int .i64 ta) := cell_at HG0.out 0 rfl
 have q1 : W0.cell? ⟨w.heap.size, 1, none⟩ = some (.int .i64 tb) := cell_at HG0.out 1 rfl
 have q2 : W0.cell? ⟨w.heap.size, 2, none⟩ = some (.int .i64 tc) := cell_at HG0.out 2 rfl
 have p0 : W0.cell? ⟨w.heap.size + 1, 0, none⟩ = some (.int .i64 s.id) := cell_at HG1.out 0 rfl
 have p1 : W0.cell? ⟨w.heap.size + 1, 1, none⟩ = some (.int .i64 s.role) := cell_at HG1.out 1 rfl
 have p2 : W0.cell? ⟨w.heap.size + 1, 2, none⟩ = some (.int .i64 s.bar) := cell_at HG1.out 2 rfl
 have p3 : W0.cell? ⟨w.heap.size + 1, 3, none⟩ = some (.int .i64 s.mark) := cell_at HG1.out 3 rfl
 have p4 : W0.cell? ⟨w.heap.size + 1, 4, none⟩ = some (.int .i64 s.kind) := cell_at HG1.out 4 rfl
 have p5 : W0.cell? ⟨w.heap.size + 1, 5, none⟩ = some (.int .i64 s.side) := cell_at HG1.out 5 rfl
 have p6 : W0.cell? ⟨w.heap.size + 1, 6, none⟩ = some (.int .i64 s.dir) := cell_at HG1.out 6 rfl
 have p7 : W0.cell? ⟨w.heap.size + 1, 7, none⟩ = some (.int .i64 s.level) := cell_at HG1.out 7 rfl
 have p8 : W0.cell? ⟨w.heap.size + 1, 8, none⟩ = some (.int .i64 s.size) := cell_at HG1.out 8 rfl
 have p9 : W0.cell? ⟨w.heap.size + 1, 9, none⟩ = some (.int .i64 s.wth) := cell_at HG1.out 9 rfl
 have p10 : W0.cell? ⟨w.heap.size + 1, 10, none⟩ = some (.int .i64 s.fn) := cell_at HG1.out 10 rfl
 have p11 : W0.cell? ⟨w.heap.size + 1, 11, none⟩ = some (.int .i64 s.fd) := cell_at HG1.out 11 rfl
 have p12 : W0.cell? ⟨w.heap.size + 1, 12, none⟩ = some (.int .i64 s.tn) := cell_at HG1.out 12 rfl
 have p13 : W0.cell? ⟨w.heap.size + 1, 13, none⟩ = some (.int .i64 s.td) := cell_at HG1.out 13 rfl
 have hi0 : (0 : Int) ≤ (i : Int) := by omega
 have hi3 : (i : Int) < 3 := by omega
 refine region_tail (fun w2 => w2 = W0.drew) 6 (by kernel_rfl) (by kernel_rfl) rfl ?_
 intro w2 hS
 subst hS
 simp only [List.take_succ_cons, List.take_zero, List.drop_succ_cons, List.drop_zero]
 repeat still_step
 refine wpStill_nil ?_
 clear p0 p1 p2 p3 p4 p5 p6 p7 p8 p9 p10 p11 p12 p13 q0 q1 q2
 go_wp2_with fail
 have hwm := within_make ta tb tc s top W0.drew
 unfold sgnV at hwm
 refine hwm.mono ?_
 rintro e w1 ⟨rfl, rfl⟩
 clear hwm
 obtain ⟨k0, k1, k2, kz, kb⟩ := blocks3 W0.drew (.cells #[.int .i64 ta, .int .i64 tb, .int .i64 tc] 23) (.cells (sgnA s) 72) (.cells #[.int .i64 top] 3)
 have hd : W0.drew.heap.size = W0.heap.size := rfl
 rw [hd] at k0 k1 k2 kz kb ⊢
 have hz0 := HZ.out
 have kb2 : Below w.heap.size w (((W0.drew.alloc (.cells #[.int .i64 ta, .int .i64 tb, .int .i64 tc] 23)).alloc (.cells (sgnA s) 72)).alloc (.cells #[.int .i64 top] 3)) := HB.out.drew.trans (kb.mono (by omega))
 generalize (((W0.drew.alloc (.cells #[.int .i64 ta, .int .i64 tb, .int .i64 tc] 23)).alloc (.cells (sgnA s) 72)).alloc (.cells #[.int .i64 top] 3)) = W1 at *
 have hff := HF.out (W0.heap.size + 1 + 1) (W0.heap.size + 1) W0.heap.size W1 (HE.out.two hz kb2) (by omega) (by omega) (by omega) (by omega) k2 k1 k0
 have HFF := Lib.hid hff; have KB2 := Lib.hid kb2
 clear hff kb2 k0 k1 k2 kb hm0 ct hz0
 go_wp2_with fail
 refine HFF.out.mono ?_
 rintro e w2 ⟨v, rfl, ho, hb⟩
 have HO := Lib.hid (owns_base ho KB2.out.size); have HB3 := Lib.hid (KB2.out.trans (hb.mono KB2.out.size))
 clear ho hb
 go_wp2_with fail
 go_ret
 exact ⟨_, rfl, HO.out, HB3.out⟩
end Go.Proofs.YtggcbblikgankaaGreatDoor
end
section
namespace Go.Proofs.YtggcbblikgankaaGreatDoor
open Go Go.RowKit
def KS (w W : World) (kvs : List (Int × Value)) (bs : List Value) : Prop :=
 MapAt W w.heap.size kvs ∧ KeysApart kvs ∧ W.heap.size = w.heap.size + 1 + bs.length ∧ (∀ i v, bs[i]? = some v → W.cell? ⟨w.heap.size + 1 + i, 0, none⟩ = some v) ∧ Below w.heap.size w W
theorem KS.new (w : World) : KS w (w.alloc (.map #[] 0)) [] [] :=
 ⟨MapAt.new w, List.nodup_nil, by simp, by simp, (Below.refl _ w).alloc (Nat.le_refl _) _⟩
theorem KS.box {w W : World} {kvs : List (Int × Value)} {bs : List Value} (h : KS w W kvs bs) (v : Value) (t : TypeId) : KS w (W.alloc (.cells #[v] t)) kvs (bs ++ [v]) := by
 obtain ⟨h1, h2, h3, h4, h5⟩ := h
 have hb : Below W.heap.size W (W.alloc (.cells #[v] t)) := (Below.refl _ W).alloc (Nat.le_refl _) _
 refine ⟨h1.below hb h1.lt, h2, by simp [h3]; omega, ?_, h5.trans (hb.mono h5.size)⟩
 intro i u hi
 by_cases hl : i < bs.length
 ·rw [List.getElem?_append_left hl] at hi
  exact (hb.cell (p := ⟨w.heap.size + 1 + i, 0, none⟩) (by show w.heap.size + 1 + i < W.heap.size; omega)).trans (h4 i u hi)
 ·have hi' : i = bs.length := by
   have := (List.getElem?_eq_some_iff.1 hi).1; simp at this; omega
  subst hi'
  rw [List.getElem?_append_right (Nat.le_refl _)] at hi
  simp at hi; subst hi
  rw [← h3]
  exact cell_at (heap_alloc_new W (.cells #[v] t)) 0 rfl
theorem KS.put {w W : World} {kvs kvs' : List (Int × Value)} {bs : List Value} (h : KS w W kvs bs) {ob : Obj} (hm : MapAt { W with heap := W.heap.setIfInBounds w.heap.size ob } w.heap.size kvs') (hk : KeysApart kvs') : KS w { W with heap := W.heap.setIfInBounds w.heap.size ob } kvs' bs := by
 obtain ⟨h1, h2, h3, h4, h5⟩ := h
 have hg := setBlock_grown W w.heap.size ob
 refine ⟨hm, hk, by simp [h3], ?_, h5.trans (setBlock_below W _ ob (Nat.le_refl _))⟩
 intro i u hi
 have hl : i < bs.length := (List.getElem?_eq_some_iff.1 hi).1
 have hc := h4 i u hi
 have hbk := hg.block (w.heap.size + 1 + i) (by show _ < W.heap.size; omega) (by simp; omega)
 unfold World.cell? at hc ⊢
 rw [hbk]; exact hc
theorem kvPut_new {kvs : List (Int × Value)} {k : Int} {v : Value} (h : kvGet kvs k = none) : kvPut kvs k v = kvs ++ [(k, v)] := by unfold kvPut; rw [h]; rfl
def kindsKV (n : Nat) : List (Int × Value) := [(1, .func (.func 96) #[] #[.pointer (some ⟨n + 1, 0, none⟩)]), (2, .func (.func 96) #[] #[.pointer (some ⟨n + 2, 0, none⟩)]), (3, .func (.func 97) #[] #[.pointer (some ⟨n + 3, 0, none⟩)]), (4, .func (.func 97) #[] #[.pointer (some ⟨n + 4, 0, none⟩)]), (5, .func (.func 97) #[] #[.pointer (some ⟨n + 5, 0, none⟩)]), (9, .func (.func 71) #[] #[])]
def kindsB : List Value := [.func (.func 68) #[] #[], .func (.func 69) #[] #[], .int .i64 0, .int .i64 1, .int .i64 2]
set_option maxRecDepth 100000 in
set_option maxHeartbeats 4000000 in
theorem kinds_any (w : World) : Calls Tryz.prog 35 #[] w fun e w' => e = .returned (.map (some w.heap.size)) ∧ KS w w' (kindsKV w.heap.size) kindsB := by
 have hmm := @run_makeMap Tryz.prog
 have hk0 := Lib.hid (KS.new w)
 go_enter Tryz.func35, Tryz.ntmps35
 go_wp2_with fail
 generalize w.alloc (.map #[] 0) = W0 at *
 clear hmm
 have hz := hk0.out.2.2.1
 simp only [List.length_nil, List.length_cons, List.nil_append, List.cons_append, Nat.add_zero, Nat.zero_add, Nat.reduceAdd] at hz
 have t1 := travel_any 68 W0
 rw [hz] at t1
 have T1 := Lib.hid t1; clear t1
 refine T1.out.mono ?_
 rintro e w1 ⟨rfl, rfl⟩
 have hv := hk0.out.box (.func (.func 68) #[] #[]) 126
 clear hk0 T1
 generalize W0.alloc (.cells #[(.func (.func 68) #[] #[])] 126) = V0 at *
 obtain ⟨ob, hru, hm⟩ := run_update_kv (P := Tryz.prog) (T := 78) Tryz.underlying78 Tryz.underlying3 hv.1 hv.2.1 1 (.func (.func 96) #[] #[.pointer (some ⟨w.heap.size + 1, 0, none⟩)])
 rw [kvPut_new rfl] at hm
 have hk1 := Lib.hid (hv.put hm (by unfold KeysApart; simp))
 clear hm hv hz
 generalize hW : ({ V0 with heap := V0.heap.setIfInBounds w.heap.size ob } : World) = W1 at *
 clear hW
 go_wp2_with fail
 clear hru
 have hz := hk1.out.2.2.1
 simp only [List.length_nil, List.length_cons, List.nil_append, List.cons_append, Nat.add_zero, Nat.zero_add, Nat.reduceAdd] at hz
 have t1 := travel_any 69 W1
 rw [hz] at t1
 have T1 := Lib.hid t1; clear t1
 refine T1.out.mono ?_
 rintro e w1 ⟨rfl, rfl⟩
 have hv := hk1.out.box (.func (.func 69) #[] #[]) 126
 clear hk1 T1
 generalize W1.alloc (.cells #[(.func (.func 69) #[] #[])] 126) = V1 at *
 obtain ⟨ob, hru, hm⟩ := run_update_kv (P := Tryz.prog) (T := 78) Tryz.underlying78 Tryz.underlying3 hv.1 hv.2.1 2 (.func (.func 96) #[] #[.pointer (some ⟨w.heap.size + 2, 0, none⟩)])
 rw [kvPut_new rfl] at hm
 have hk2 := Lib.hid (hv.put hm (by unfold KeysApart; simp))
 clear hm hv hz
 generalize hW : ({ V1 with heap := V1.heap.setIfInBounds w.heap.size ob } : World) = W2 at *
 clear hW
 go_wp2_with fail
 clear hru
 have hz := hk2.out.2.2.1
 simp only [List.length_nil, List.length_cons, List.nil_append, List.cons_append, Nat.add_zero, Nat.zero_add, Nat.reduceAdd] at hz
 have t1 := limb_any 0 W2
 rw [hz] at t1
 have T1 := Lib.hid t1; clear t1
 refine T1.out.mono ?_
 rintro e w1 ⟨rfl, rfl⟩
 have hv := hk2.out.box (.int .i64 0) 3
 clear hk2 T1
 generalize W2.alloc (.cells #[(.int .i64 0)] 3) = V2 at *
 obtain ⟨ob, hru, hm⟩ := run_update_kv (P := Tryz.prog) (T := 78) Tryz.underlying78 Tryz.underlying3 hv.1 hv.2.1 3 (.func (.func 97) #[] #[.pointer (some ⟨w.heap.size + 3, 0, none⟩)])
 rw [kvPut_new rfl] at hm
 have hk3 := Lib.hid (hv.put hm (by unfold KeysApart; simp))
 clear hm hv hz
 generalize hW : ({ V2 with heap := V2.heap.setIfInBounds w.heap.size ob } : World) = W3 at *
 clear hW
 go_wp2_with fail
 clear hru
 have hz := hk3.out.2.2.1
 simp only [List.length_nil, List.length_cons, List.nil_append, List.cons_append, Nat.add_zero, Nat.zero_add, Nat.reduceAdd] at hz
 have t1 := limb_any 1 W3
 rw [hz] at t1
 have T1 := Lib.hid t1; clear t1
 refine T1.out.mono ?_
 rintro e w1 ⟨rfl, rfl⟩
 have hv := hk3.out.box (.int .i64 1) 3
 clear hk3 T1
 generalize W3.alloc (.cells #[(.int .i64 1)] 3) = V3 at *
 obtain ⟨ob, hru, hm⟩ := run_update_kv (P := Tryz.prog) (T := 78) Tryz.underlying78 Tryz.underlying3 hv.1 hv.2.1 4 (.func (.func 97) #[] #[.pointer (some ⟨w.heap.size + 4, 0, none⟩)])
 rw [kvPut_new rfl] at hm
 have hk4 := Lib.hid (hv.put hm (by unfold KeysApart; simp))
 clear hm hv hz
 generalize hW : ({ V3 with heap := V3.heap.setIfInBounds w.heap.size ob } : World) = W4 at *
 clear hW
 go_wp2_with fail
 clear hru
 have hz := hk4.out.2.2.1
 simp only [List.length_nil, List.length_cons, List.nil_append, List.cons_append, Nat.add_zero, Nat.zero_add, Nat.reduceAdd] at hz
 have t1 := limb_any 2 W4
 rw [hz] at t1
 have T1 := Lib.hid t1; clear t1
 refine T1.out.mono ?_
 rintro e w1 ⟨rfl, rfl⟩
 have hv := hk4.out.box (.int .i64 2) 3
 clear hk4 T1
 generalize W4.alloc (.cells #[(.int .i64 2)] 3) = V4 at *
 obtain ⟨ob, hru, hm⟩ := run_update_kv (P := Tryz.prog) (T := 78) Tryz.underlying78 Tryz.underlying3 hv.1 hv.2.1 5 (.func (.func 97) #[] #[.pointer (some ⟨w.heap.size + 5, 0, none⟩)])
 rw [kvPut_new rfl] at hm
 have hk5 := Lib.hid (hv.put hm (by unfold KeysApart; simp))
 clear hm hv hz
 generalize hW : ({ V4 with heap := V4.heap.setIfInBounds w.heap.size ob } : World) = W5 at *
 clear hW
 obtain ⟨ob9, hru9, hm⟩ := run_update_kv (P := Tryz.prog) (T := 78) Tryz.underlying78 Tryz.underlying3 hk5.out.1 hk5.out.2.1 9 (.func (.func 71) #[] #[])
 rw [kvPut_new rfl] at hm
 have hk6 := Lib.hid (hk5.out.put hm (by unfold KeysApart; simp))
 clear hm
 go_wp2_with fail
 go_ret
 exact ⟨rfl, hk6.out⟩
end Go.Proofs.YtggcbblikgankaaGreatDoor
end
