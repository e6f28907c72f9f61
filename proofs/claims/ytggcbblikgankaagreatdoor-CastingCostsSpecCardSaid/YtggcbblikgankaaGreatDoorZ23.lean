/- Contracts and plain laws on the way to the statement: part 23. -/
import Derived.Test.YtggcbblikgankaaGreatDoorZ22
import Derived.Test.YtggcbblikgankaaGreatDoorZ3
set_option linter.unusedVariables false
set_option linter.unusedSimpArgs false
set_option maxRecDepth 100000
set_option maxHeartbeats 16000000
namespace Go.Proofs.YtggcbblikgankaaGreatDoor
open Go.Value (int)
open Go.IntKind (i64)
section
open Go.RowKit
def A1 (b : Bod) : Array Value := #[.string ⟨b.name.toArray⟩, int i64 b.weight, int i64 b.lift, int i64 b.girth, int i64 b.step, int i64 b.jump, int i64 b.r0, int i64 b.r1, int i64 b.r2, int i64 b.s0, int i64 b.s1, int i64 b.s2, int i64 b.t0, int i64 b.t1, int i64 b.t2, int i64 b.effort, int i64 b.recover]
def AN (b : Bod) : Nat → List Int
 | 0 => [b.t0, b.t1, b.t2]
 | 1 => [b.s0, b.s1, b.s2]
 | 2 => [b.step]
 | 3 => [b.jump]
 | 4 => [b.lift]
 | 5 => [b.effort]
 | _ => []
def IP : Nat → Int
 | 0 => 1
 | 1 => 1
 | 2 => 1
 | 3 => 0
 | 4 => 0
 | 5 => 0
 | _ => 0
def IR : Nat → Int
 | 0 => 3
 | 1 => 1048576
 | 2 => 16
 | 3 => 16
 | 4 => 500
 | 5 => 1048576
 | _ => 0
def Bf (b : Bod) (k : Nat) : Bool := (AN b k).all fun x => inB x (IP k) (IR k)
def Ev (b : Bod) : Bool := BW b.name && inB b.weight 1 500 && inB b.girth 1 4 && [b.r0, b.r1, b.r2].all (fun x => inB x 1 8) && inB b.recover 0 1048576
def AG (b : Bod) : Bool := Ev b && (List.range 6).all (Bf b)
theorem EA {b : Bod} (h : Ev b = false) : 250 = AP (AG b) 250 := by unfold AG; rw [h]; rfl
theorem DF {b : Bod} {k : Nat} (hk : k < 6) (h : Bf b k = false) : 250 = AP (AG b) 250 := by
 have : (List.range 6).all (Bf b) = false := by rw [List.all_eq_false]; exact ⟨k, List.mem_range.2 hk, by simp [h]⟩
 unfold AG; rw [this]; simp [AP]
theorem SD {b : Bod} (h : Ev b = true) (h2 : ∀ k, k < 6 → Bf b k = true) : 0 = AP (AG b) 250 := by
 have : (List.range 6).all (Bf b) = true := by rw [List.all_eq_true]; intro k hk; exact h2 k (List.mem_range.1 hk)
 unfold AG; rw [this, h]; rfl
theorem Bp (lo hi x : Int) (g c : Nat) (w : World) (h : w.cell? ⟨g, 0, none⟩ = some (int i64 x)) :
  Calls Tryz.prog 65 #[int i64 lo, int i64 hi, .slice (some ⟨g, 0, none⟩) 1 c] w fun e w' => e = .returned (.bool (inB x lo hi)) ∧ w = w' :=
 (I7 lo hi (some ⟨g, 0, none⟩) c [x] w (by simp) (Or.inr ⟨g, 0, rfl, fun i y hy => by
  rcases i with _ | i
  ·simp at hy; subst hy; exact h
  ·simp at hy⟩)).mono fun _ _ ⟨h1, h2⟩ => ⟨by rw [h1]; simp, h2⟩
theorem H8 {W w : World} {n : Nat} {A B : Obj} (v : Value) (hz : W.heap.size = w.heap.size + n) (hn : 2 ≤ n) (h0 : W.heap[w.heap.size]? = some A) (h1 : W.heap[w.heap.size + 1]? = some B) (hb : Below w.heap.size w W) :
  (W.alloc (.cells #[v] 3)).cell? ⟨w.heap.size + n, 0, none⟩ = some v ∧ (W.alloc (.cells #[v] 3)).heap[w.heap.size]? = some A ∧ (W.alloc (.cells #[v] 3)).heap[w.heap.size + 1]? = some B ∧ Below w.heap.size w (W.alloc (.cells #[v] 3)) ∧ (W.alloc (.cells #[v] 3)).heap.size = w.heap.size + (n + 1) :=
 ⟨by rw [← hz]; exact A0 (heap_alloc_new W _) 0 rfl, (Below.heap_alloc W _ _ (by omega)).trans h0, (Below.heap_alloc W _ _ (by omega)).trans h1, hb.alloc (by omega) _, by simp; omega⟩
theorem Km (lo hi x y z : Int) (g o c : Nat) (w : World) (h0 : w.cell? ⟨g, o, none⟩ = some (int i64 x)) (h1 : w.cell? ⟨g, o + 1, none⟩ = some (int i64 y)) (h2 : w.cell? ⟨g, o + 2, none⟩ = some (int i64 z)) :
  Calls Tryz.prog 65 #[int i64 lo, int i64 hi, .slice (some ⟨g, o, none⟩) 3 c] w fun e w' => e = .returned (.bool ([x, y, z].all fun x => inB x lo hi)) ∧ w = w' :=
 I7 lo hi (some ⟨g, o, none⟩) c [x, y, z] w (by simp) (Or.inr ⟨g, o, rfl, fun i v hv => by
  rcases i with _ | _ | _ | i
  ·simp at hv; subst hv; exact h0
  ·simp at hv; subst hv; exact h1
  ·simp at hv; subst hv; exact h2
  ·simp at hv⟩)
theorem PA (h j : Nat) (hj : j < 3) (w : World) : Calls Tryz.prog 90 #[.pointer (some ⟨h, 0, none⟩), int i64 (j : Int)] w fun e w' => e = .returned (.pointer (some ⟨h, 12 + j, none⟩)) ∧ w = w' := by
 have := QO h j (by omega) (by omega) w
 rwa [Int.toNat_natCast] at this
theorem MQ (h j : Nat) (hj : j < 3) (w : World) : Calls Tryz.prog 91 #[.pointer (some ⟨h, 0, none⟩), int i64 (j : Int)] w fun e w' => e = .returned (.pointer (some ⟨h, 9 + j, none⟩)) ∧ w = w' := by
 have := M8 h j (by omega) (by omega) w
 rwa [Int.toNat_natCast] at this
def BR (b : Bod) (w : World) (gR gw : Nat) (o : Obj) (w2 : World) : Prop :=
 w2.heap[w.heap.size + 1]? = some (.cells (A1 b) 114 (0, 0)) ∧ w2.heap[gR]? = some (.cells AJ 120 (0, 0)) ∧ w2.heap[gw]? = some o ∧ Below w.heap.size w w2 ∧ gw < w2.heap.size ∧ gR < w2.heap.size ∧ w.heap.size + 1 < w2.heap.size
theorem BR.alloc {b : Bod} {w w2 : World} {gR gw : Nat} {o : Obj} (h : BR b w gR gw o w2) (o' : Obj) : BR b w gR gw o (w2.alloc o') := by
 obtain ⟨h1, h2, h3, h4, h5, h6, h7⟩ := h
 refine ⟨(Below.heap_alloc w2 o' _ h7).trans h1, (Below.heap_alloc w2 o' _ h6).trans h2, (Below.heap_alloc w2 o' _ h5).trans h3, h4.alloc (by omega) o', ?_, ?_, ?_⟩ <;> simp <;> omega
theorem keepS {b : Bod} {w w2 : World} {gR gw OFF : Nat} {o : Obj} {F L H X : Value} (h : w2.cell? ⟨gw, 0, none⟩ = some F ∧ w2.cell? ⟨gw, 1, none⟩ = some L ∧ w2.cell? ⟨gw, 2, none⟩ = some H ∧ w2.cell? ⟨w.heap.size + 1, OFF, none⟩ = some X ∧ BR b w gR gw o w2) (o' : Obj) :
  (w2.alloc o').cell? ⟨gw, 0, none⟩ = some F ∧ (w2.alloc o').cell? ⟨gw, 1, none⟩ = some L ∧ (w2.alloc o').cell? ⟨gw, 2, none⟩ = some H ∧ (w2.alloc o').cell? ⟨w.heap.size + 1, OFF, none⟩ = some X ∧ BR b w gR gw o (w2.alloc o') := by
 have hb : Below w2.heap.size w2 (w2.alloc o') := (Below.refl _ _).alloc (qn _) _
 obtain ⟨h1, h2, h3, h4, h5⟩ := h
 exact ⟨(hb.cell (p := ⟨gw, 0, none⟩) h5.2.2.2.2.1).trans h1, (hb.cell (p := ⟨gw, 1, none⟩) h5.2.2.2.2.1).trans h2, (hb.cell (p := ⟨gw, 2, none⟩) h5.2.2.2.2.1).trans h3, (hb.cell (p := ⟨w.heap.size + 1, OFF, none⟩) h5.2.2.2.2.2.2).trans h4, h5.alloc o'⟩
theorem DN (b : Bod) (hn : b.name.length ≤ maxLen) (w : World) :
  Calls Tryz.prog 34 #[.agg #[.string ⟨b.name.toArray⟩, int i64 b.weight, int i64 b.lift, int i64 b.girth, int i64 b.step, int i64 b.jump, int i64 b.r0, int i64 b.r1, int i64 b.r2, int i64 b.s0, int i64 b.s1, int i64 b.s2, int i64 b.t0, int i64 b.t1, int i64 b.t2, int i64 b.effort, int i64 b.recover]] w fun e w' => e = .returned (int i64 (AP (AG b) 250)) ∧ Below w.heap.size w w' := by
 have hnm := fun w => O4 ⟨b.name.toArray⟩ w (by show b.name.toArray.size ≤ _; simpa using hn)
 simp only [List.toList_toArray] at hnm
 have HNM := qh hnm; clear hnm hn
 have z0 : ((w.alloc (.cells (A1 b) 35)).alloc (.cells (A1 b) 114)).heap.size = w.heap.size + 2 := by simp
 obtain ⟨G0, G1, _, B0⟩ := Bn w (.cells (A1 b) 35) (.cells (A1 b) 114)
 have HG0 := qh G0; have HG1 := qh G1; have HB0 := qh B0; have HZ0 := qh z0
 clear G0 G1 B0 z0
 have HL0 := qh (heap_alloc_new w (.cells (A1 b) 35))
 have HL1 := qh (Bn w (.cells (A1 b) 35) (.cells #[.string ⟨#[]⟩, int i64 0, int i64 0, int i64 0, int i64 0, int i64 0, int i64 0, int i64 0, int i64 0, int i64 0, int i64 0, int i64 0, int i64 0, int i64 0, int i64 0, int i64 0, int i64 0] 114)).2.1
 have hs1 : ((w.alloc (.cells #[.string ⟨b.name.toArray⟩, int i64 b.weight, int i64 b.lift, int i64 b.girth, int i64 b.step, int i64 b.jump, int i64 b.r0, int i64 b.r1, int i64 b.r2, int i64 b.s0, int i64 b.s1, int i64 b.s2, int i64 b.t0, int i64 b.t1, int i64 b.t2, int i64 b.effort, int i64 b.recover] 35)).alloc (.cells #[.string ⟨#[]⟩, int i64 0, int i64 0, int i64 0, int i64 0, int i64 0, int i64 0, int i64 0, int i64 0, int i64 0, int i64 0, int i64 0, int i64 0, int i64 0, int i64 0, int i64 0, int i64 0] 114)).setRow (w.heap.size + 1) #[.string ⟨b.name.toArray⟩, int i64 b.weight, int i64 b.lift, int i64 b.girth, int i64 b.step, int i64 b.jump, int i64 b.r0, int i64 b.r1, int i64 b.r2, int i64 b.s0, int i64 b.s1, int i64 b.s2, int i64 b.t0, int i64 b.t1, int i64 b.t2, int i64 b.effort, int i64 b.recover] = (w.alloc (.cells #[.string ⟨b.name.toArray⟩, int i64 b.weight, int i64 b.lift, int i64 b.girth, int i64 b.step, int i64 b.jump, int i64 b.r0, int i64 b.r1, int i64 b.r2, int i64 b.s0, int i64 b.s1, int i64 b.s2, int i64 b.t0, int i64 b.t1, int i64 b.t2, int i64 b.effort, int i64 b.recover] 35)).alloc (.cells #[.string ⟨b.name.toArray⟩, int i64 b.weight, int i64 b.lift, int i64 b.girth, int i64 b.step, int i64 b.jump, int i64 b.r0, int i64 b.r1, int i64 b.r2, int i64 b.s0, int i64 b.s1, int i64 b.s2, int i64 b.t0, int i64 b.t1, int i64 b.t2, int i64 b.effort, int i64 b.recover] 114) := by
  have := World.setRow_alloc_new (w.alloc (.cells #[.string ⟨b.name.toArray⟩, int i64 b.weight, int i64 b.lift, int i64 b.girth, int i64 b.step, int i64 b.jump, int i64 b.r0, int i64 b.r1, int i64 b.r2, int i64 b.s0, int i64 b.s1, int i64 b.s2, int i64 b.t0, int i64 b.t1, int i64 b.t2, int i64 b.effort, int i64 b.recover] 35)) #[.string ⟨#[]⟩, int i64 0, int i64 0, int i64 0, int i64 0, int i64 0, int i64 0, int i64 0, int i64 0, int i64 0, int i64 0, int i64 0, int i64 0, int i64 0, int i64 0, int i64 0, int i64 0] #[.string ⟨b.name.toArray⟩, int i64 b.weight, int i64 b.lift, int i64 b.girth, int i64 b.step, int i64 b.jump, int i64 b.r0, int i64 b.r1, int i64 b.r2, int i64 b.s0, int i64 b.s1, int i64 b.s2, int i64 b.t0, int i64 b.t1, int i64 b.t2, int i64 b.effort, int i64 b.recover] 114
  simpa using this
 have HS1 := qh hs1; clear hs1
 go_enter Tryz.func34, Tryz.ntmps34
 iterate 14 go_step
 refine wpList_load_row rfl 35 _ rfl w.heap.size rfl 35 #[.string ⟨b.name.toArray⟩, int i64 b.weight, int i64 b.lift, int i64 b.girth, int i64 b.step, int i64 b.jump, int i64 b.r0, int i64 b.r1, int i64 b.r2, int i64 b.s0, int i64 b.s1, int i64 b.s2, int i64 b.t0, int i64 b.t1, int i64 b.t2, int i64 b.effort, int i64 b.recover] (0, 0) _ HL0.out Tryz.underlying35 rfl (by kernel_rfl) ?_
 simp only [Act.put, qD, qE, qF]
 iterate 6 go_step
 trace "BUILT"
 refine wpList_store_row rfl 114 _ _ rfl (w.heap.size + 1) #[.string ⟨b.name.toArray⟩, int i64 b.weight, int i64 b.lift, int i64 b.girth, int i64 b.step, int i64 b.jump, int i64 b.r0, int i64 b.r1, int i64 b.r2, int i64 b.s0, int i64 b.s1, int i64 b.s2, int i64 b.t0, int i64 b.t1, int i64 b.t2, int i64 b.effort, int i64 b.recover] rfl rfl 114 #[.string ⟨#[]⟩, int i64 0, int i64 0, int i64 0, int i64 0, int i64 0, int i64 0, int i64 0, int i64 0, int i64 0, int i64 0, int i64 0, int i64 0, int i64 0, int i64 0, int i64 0, int i64 0] HL1.out (by kernel_rfl) rfl (by simp [Value.oneCell']) ?_
 rw [HS1.out]
 go_wp2_with fail
 generalize hw0 : (w.alloc (.cells #[.string ⟨b.name.toArray⟩, int i64 b.weight, int i64 b.lift, int i64 b.girth, int i64 b.step, int i64 b.jump, int i64 b.r0, int i64 b.r1, int i64 b.r2, int i64 b.s0, int i64 b.s1, int i64 b.s2, int i64 b.t0, int i64 b.t1, int i64 b.t2, int i64 b.effort, int i64 b.recover] 35)).alloc (.cells #[.string ⟨b.name.toArray⟩, int i64 b.weight, int i64 b.lift, int i64 b.girth, int i64 b.step, int i64 b.jump, int i64 b.r0, int i64 b.r1, int i64 b.r2, int i64 b.s0, int i64 b.s1, int i64 b.s2, int i64 b.t0, int i64 b.t1, int i64 b.t2, int i64 b.effort, int i64 b.recover] 114) = w0
 have hw0' : (w.alloc (.cells (A1 b) 35)).alloc (.cells (A1 b) 114) = w0 := hw0
 rw [hw0'] at HG0 HG1 HB0 HZ0
 clear hw0 hw0' HL0 HL1 HS1
 generalize (Value.agg #[.string ⟨b.name.toArray⟩, int i64 b.weight, int i64 b.lift, int i64 b.girth, int i64 b.step, int i64 b.jump, int i64 b.r0, int i64 b.r1, int i64 b.r2, int i64 b.s0, int i64 b.s1, int i64 b.s2, int i64 b.t0, int i64 b.t1, int i64 b.t2, int i64 b.effort, int i64 b.recover]) = vb
 refine (HNM.out w0).mono ?_
 rintro e w' ⟨rfl, rfl⟩
 have hz0 : w0.heap.size = w.heap.size + 2 := HZ0.out
 cases h1 : BW b.name with
 | false =>
  go_wp2_with fail
  go_ret
  exact ⟨Af (EA (by unfold Ev; rw [h1]; rfl)), HB0.out⟩
 | true =>
 have H1 := qh h1; clear h1
 have c1 : w0.cell? ⟨w.heap.size, 1, none⟩ = some (int i64 b.weight) := A0 HG0.out 1 rfl
 go_wp2_with fail
 clear c1
 obtain ⟨n0, n1, n2, n3, n4⟩ := H8 (int i64 b.weight) hz0 (by omega) HG0.out HG1.out HB0.out
 generalize w0.alloc (.cells #[int i64 b.weight] 3) = w1 at *
 clear hz0 HG0 HG1 HB0
 have HG0 := qh n1; have HG1 := qh n2; have HB0 := qh n3; have hz1 := n4
 clear n1 n2 n3 n4
 refine (Bp 1 500 b.weight _ _ w1 n0).mono ?_
 rintro e w' ⟨rfl, rfl⟩
 clear n0
 cases q0 : inB b.weight 1 500 with
 | false =>
  go_wp2_with fail
  go_ret
  exact ⟨Af (EA (by unfold Ev; simp [q0])), HB0.out⟩
 | true =>
 have Q0 := qh q0; clear q0
 have c1 : w1.cell? ⟨w.heap.size, 3, none⟩ = some (int i64 b.girth) := A0 HG0.out 3 rfl
 go_wp2_with fail
 clear c1
 obtain ⟨n0, n1, n2, n3, n4⟩ := H8 (int i64 b.girth) hz1 (by omega) HG0.out HG1.out HB0.out
 generalize w1.alloc (.cells #[int i64 b.girth] 3) = w2 at *
 clear hz1 HG0 HG1 HB0
 have HG0 := qh n1; have HG1 := qh n2; have HB0 := qh n3; have hz2 := n4
 clear n1 n2 n3 n4
 refine (Bp 1 4 b.girth _ _ w2 n0).mono ?_
 rintro e w' ⟨rfl, rfl⟩
 clear n0
 cases q1 : inB b.girth 1 4 with
 | false =>
  go_wp2_with fail
  go_ret
  exact ⟨Af (EA (by unfold Ev; simp [q1])), HB0.out⟩
 | true =>
 have Q1 := qh q1; clear q1
 go_wp2_with fail
 refine (Km 1 8 b.r0 b.r1 b.r2 _ 6 _ w2 (A0 HG0.out 6 rfl) (A0 HG0.out 7 rfl) (A0 HG0.out 8 rfl)).mono ?_
 rintro e w' ⟨rfl, rfl⟩
 cases q5 : [b.r0, b.r1, b.r2].all (fun x => inB x 1 8) with
 | false =>
  go_wp2_with fail
  go_ret
  exact ⟨Af (EA (by unfold Ev; rw [q5]; simp)), HB0.out⟩
 | true =>
 have Q5 := qh q5; clear q5
 have c1 : w2.cell? ⟨w.heap.size, 16, none⟩ = some (int i64 b.recover) := A0 HG0.out 16 rfl
 go_wp2_with fail
 clear c1
 obtain ⟨n0, n1, n2, n3, n4⟩ := H8 (int i64 b.recover) hz2 (by omega) HG0.out HG1.out HB0.out
 generalize w2.alloc (.cells #[int i64 b.recover] 3) = w3 at *
 clear hz2 HG0 HG1 HB0
 have HG0 := qh n1; have HG1 := qh n2; have HB0 := qh n3; have hz3 := n4
 clear n1 n2 n3 n4
 refine (Bp 0 1048576 b.recover _ _ w3 n0).mono ?_
 rintro e w' ⟨rfl, rfl⟩
 clear n0
 cases q2 : inB b.recover 0 1048576 with
 | false =>
  go_wp2_with fail
  go_ret
  exact ⟨Af (EA (by unfold Ev; simp [q2])), HB0.out⟩
 | true =>
 have Q2 := qh q2; clear q2
 have HEAD : Hid (Ev b = true) := qh (by unfold Ev; rw [H1.out, Q0.out, Q1.out, Q2.out, Q5.out]; rfl)
 clear H1 Q0 Q1 Q2 Q5 HG0
 go_wp2_with fail
 refine (Pc w3).mono ?_
 rintro e w4 ⟨rfl, hb4⟩
 have HB4 := qh (HB0.out.trans (hb4.mono (by omega)))
 have HG4 := qh ((hb4.block _ (by omega)).trans HG1.out)
 have hz4 : w.heap.size + 5 ≤ w4.heap.size := by have := hb4.size; omega
 clear HB0 HG1 hz3 hb4
 have hset : (w4.alloc (.cells Ex 120)).setRow w4.heap.size AJ = w4.alloc (.cells AJ 120) := World.setRow_alloc_new _ _ _ _
 unfold Ex at hset
 have HSET := qh hset; clear hset
 dsimp only
 iterate 4 go_step
 refine wpList_store_row rfl 120 _ _ rfl w4.heap.size AJ rfl rfl 120 Ex (heap_alloc_new w4 (.cells Ex 120)) (by kernel_rfl) rfl (by simp [AJ, Value.oneCell']) ?_
 rw [HSET.out]
 clear HSET
 have m1 := qh ((Below.heap_alloc w4 (.cells AJ 120) (w.heap.size + 1) (by omega)).trans HG4.out)
 have m2 := qh (heap_alloc_new w4 (.cells AJ 120))
 have m3 := qh (HB4.out.alloc (show w.heap.size ≤ w4.heap.size by omega) (.cells AJ 120))
 have m4 : w4.heap.size < (w4.alloc (.cells AJ 120)).heap.size := by simp
 generalize w4.alloc (.cells AJ 120) = w5 at *
 generalize hgR : w4.heap.size = gR at *
 clear HB4 HG4 hgR
 generalize (Value.agg AJ) = vr
 go_wp2_with fail
 go_loopw [44] (fun iv wr => ∃ k : Nat, k ≤ 6 ∧ iv = int i64 k ∧ Hid (∀ i, i < k → Bf b i = true) ∧ gR < wr.heap.size ∧ Hid (wr.heap[w.heap.size + 1]? = some (.cells (A1 b) 114 (0, 0))) ∧ Hid (wr.heap[gR]? = some (.cells AJ 120 (0, 0))) ∧ Hid (Below w.heap.size w wr)) (fun iv _ => 6 - (intOf iv).toNat)
 case atStart => exact ⟨0, Nat.zero_le _, rfl, qh (fun i h => absurd h (by omega)), m4, m1, m2, m3⟩
 case round =>
  clear m1 m2 m3 m4
  obtain ⟨k, hk, rfl, hall, hsz, hbc, hbr, hbw⟩ := hrel
  have hkk : k = 0 ∨ k = 1 ∨ k = 2 ∨ k = 3 ∨ k = 4 ∨ k = 5 ∨ k = 6 := by omega
  rcases hkk with rfl | rfl | rfl | rfl | rfl | rfl | rfl
  ·rw [show ((0 : Nat) : Int) = 0 from rfl]
   have p0 : wr.cell? ⟨gR, 4, none⟩ = some (.func (.func 90) #[] #[]) := A0 hbr.out 4 rfl
   have p1 : wr.cell? ⟨gR, 5, none⟩ = some (int i64 1) := A0 hbr.out 5 rfl
   have p2 : wr.cell? ⟨gR, 6, none⟩ = some (int i64 3) := A0 hbr.out 6 rfl
   have p3 : wr.cell? ⟨gR, 7, none⟩ = some (int i64 2) := A0 hbr.out 7 rfl
   have hsf : ∀ (a : Addr) (W : World), (store a (.func (.func 90) #[] #[])).run Tryz.prog W = _ := fun a W => run_store Tryz.prog W a (.func (.func 90) #[] #[]) .plain rfl
   have r1 := qh ((Below.heap_alloc wr (.cells #[.func (.func 90) #[] #[], int i64 1, int i64 3, int i64 2] 119) (w.heap.size + 1) (by omega)).trans hbc.out)
   have r2 := qh ((Below.heap_alloc wr (.cells #[.func (.func 90) #[] #[], int i64 1, int i64 3, int i64 2] 119) gR (by omega)).trans hbr.out)
   have r3 := qh (heap_alloc_new wr (.cells #[.func (.func 90) #[] #[], int i64 1, int i64 3, int i64 2] 119))
   have r4 := qh (hbw.out.alloc (show w.heap.size ≤ wr.heap.size by omega) (.cells #[.func (.func 90) #[] #[], int i64 1, int i64 3, int i64 2] 119))
   have r5 : wr.heap.size < (wr.alloc (.cells #[.func (.func 90) #[] #[], int i64 1, int i64 3, int i64 2] 119)).heap.size := by simp
   have l3 : (wr.alloc (.cells #[.func (.func 90) #[] #[], int i64 1, int i64 3, int i64 2] 119)).cell? ⟨wr.heap.size, 3, none⟩ = some (int i64 2) := A0 r3.out 3 rfl
   go_wp2_with fail
   clear hsf p0 p1 p2 p3 l3
   generalize wr.alloc (.cells #[.func (.func 90) #[] #[], int i64 1, int i64 3, int i64 2] 119) = wa at *
   generalize hgw : wr.heap.size = gw at *
   clear hbc hbr hbw hgw
   go_loopw [51] (fun iv wr => ∃ j : Nat, j ≤ 3 ∧ iv = int i64 j ∧ Hid (∀ i, i < j → ∀ x, (AN b 0)[i]? = some x → inB x 1 3 = true) ∧ gw < wr.heap.size ∧ Hid (wr.heap[w.heap.size + 1]? = some (.cells (A1 b) 114 (0, 0))) ∧ Hid (wr.heap[gR]? = some (.cells AJ 120 (0, 0))) ∧ Hid (wr.heap[gw]? = some (.cells #[.func (.func 90) #[] #[], int i64 1, int i64 3, int i64 2] 119 (0, 0))) ∧ Hid (Below w.heap.size w wr)) (fun iv _ => 3 - (intOf iv).toNat)
   case atStart => exact ⟨0, Nat.zero_le _, rfl, qh (fun i h => absurd h (by omega)), r5, r1, r2, r3, r4⟩
   case round =>
    clear r1 r2 r3 r4 r5
    obtain ⟨j, hj, rfl, hpre, hs2, hc2, hr2, hw2, hb2⟩ := hrel
    by_cases hjn : j < 3
    ·have hjn' : (j : Int) < 3 := by omega
     obtain ⟨x, hx, cx⟩ : ∃ x, (AN b 0)[j]? = some x ∧ (A1 b)[12 + j]? = some (int i64 x) := by
      have : j = 0 ∨ j = 1 ∨ j = 2 := by omega
      rcases this with rfl | rfl | rfl
      ·exact ⟨_, rfl, rfl⟩
      ·exact ⟨_, rfl, rfl⟩
      ·exact ⟨_, rfl, rfl⟩
     have HX := qh hx; have CX := qh cx; clear hx cx
     go_wp2_with fail
     have c0 : wr.cell? ⟨gw, 0, none⟩ = some (.func (.func 90) #[] #[]) := A0 hw2.out 0 rfl
     have c1 : wr.cell? ⟨gw, 1, none⟩ = some (int i64 1) := A0 hw2.out 1 rfl
     have c2 : wr.cell? ⟨gw, 2, none⟩ = some (int i64 3) := A0 hw2.out 2 rfl
     have cv : wr.cell? ⟨w.heap.size + 1, 12 + j, none⟩ = some (int i64 x) := A0 hc2.out _ CX.out
     have hbr : BR b w gR gw (.cells #[.func (.func 90) #[] #[], int i64 1, int i64 3, int i64 2] 119 (0, 0)) wr.drew := ⟨hc2.out, hr2.out, hw2.out, hb2.out.drew, hs2, Nat.lt_trans (by omega) hs2, by show _ < wr.heap.size; omega⟩
     have hal : ∀ k o, (wr.drewN k).alloc o = (wr.alloc o).drewN k := fun _ _ => rfl
     clear hc2 hr2 hw2 hb2 hs2
     go_region_held3 (fun w2 => w2.cell? ⟨gw, 0, none⟩ = some (.func (.func 90) #[] #[]) ∧ w2.cell? ⟨gw, 1, none⟩ = some (int i64 1) ∧ w2.cell? ⟨gw, 2, none⟩ = some (int i64 3) ∧ w2.cell? ⟨w.heap.size + 1, 12 + j, none⟩ = some (int i64 x) ∧ BR b w gR gw (.cells #[.func (.func 90) #[] #[], int i64 1, int i64 3, int i64 2] 119 (0, 0)) w2)
      (first | assumption | exact ⟨c0, c1, c2, cv, hbr⟩ | exact keepS (by assumption) _ | exact keepS (w2 := wr.drew) ⟨c0, c1, c2, cv, hbr⟩ _)
      (first | (go_at_call 90; refine (PA (w.heap.size + 1) j (by omega) _).mono ?_; rintro e w' ⟨rfl, rfl⟩) | (go_at_call 65; refine (Bp 1 3 x _ _ _ ?_).mono ?_; (first | exact A0 (heap_alloc_new _ _) 0 rfl | go_simp); rintro e w' ⟨rfl, rfl⟩))
     rename_i hHeld
     obtain ⟨s1, s2, s3, s4, s5, s6, s7⟩ := hHeld.2.2.2.2
     have S1 := qh s1; have S2 := qh s2; have S3 := qh s3; have S4 := qh s4
     clear hHeld hbr c0 c1 c2 cv hal s1 s2 s3 s4 s6 s7
     cases q : inB x 1 3 with
     | false =>
      have Q := qh q; clear q
      go_wp2_with fail
      go_ret
      exact ⟨Af (DF (k := 0) (by omega) (by unfold Bf; rw [List.all_eq_false]; exact ⟨x, List.mem_of_getElem? HX.out, by simp [IP, IR, Q.out]⟩)), S4.out⟩
     | true =>
      have Q := qh q; clear q
      go_wp2_with fail
      go_roundw
      case rel => exact ⟨j + 1, by omega, by go_num, qh (by
       intro i hi y hy
       rcases Nat.lt_or_ge i j with h | h
       ·exact hpre.out i h y hy
       ·have : i = j := by omega
        subst this
        rw [HX.out] at hy
        injection hy with hy; rw [← hy]; exact Q.out), s5, S1, S2, S3, S4⟩
      case measure => simp [intOf] <;> omega
    ·obtain rfl : j = 3 := by omega
     have HR : Hid (∀ i, i < 0 + 1 → Bf b i = true) := qh (by
      intro i hi
      rcases Nat.lt_or_ge i 0 with h | h
      ·exact hall.out i h
      ·have : i = 0 := by omega
       subst this
       unfold Bf
       rw [List.all_eq_true]
       intro y hy
       obtain ⟨i, hi⟩ := List.mem_iff_getElem?.1 hy
       have hlt : i < 3 := by have := (ql.1 hi).1; simpa [AN] using this
       exact hpre.out i hlt y hi)
     have hsR : gR < wr.heap.size := by omega
     clear hpre hall
     go_wp2_with fail
     go_roundw
     case rel => exact ⟨0 + 1, by omega, by go_num, HR, hsR, hc2, hr2, hb2⟩
     case measure => simp [intOf]
  ·rw [show ((1 : Nat) : Int) = 1 from rfl]
   have p0 : wr.cell? ⟨gR, 8, none⟩ = some (.func (.func 91) #[] #[]) := A0 hbr.out 8 rfl
   have p1 : wr.cell? ⟨gR, 9, none⟩ = some (int i64 1) := A0 hbr.out 9 rfl
   have p2 : wr.cell? ⟨gR, 10, none⟩ = some (int i64 1048576) := A0 hbr.out 10 rfl
   have p3 : wr.cell? ⟨gR, 11, none⟩ = some (int i64 2) := A0 hbr.out 11 rfl
   have hsf : ∀ (a : Addr) (W : World), (store a (.func (.func 91) #[] #[])).run Tryz.prog W = _ := fun a W => run_store Tryz.prog W a (.func (.func 91) #[] #[]) .plain rfl
   have r1 := qh ((Below.heap_alloc wr (.cells #[.func (.func 91) #[] #[], int i64 1, int i64 1048576, int i64 2] 119) (w.heap.size + 1) (by omega)).trans hbc.out)
   have r2 := qh ((Below.heap_alloc wr (.cells #[.func (.func 91) #[] #[], int i64 1, int i64 1048576, int i64 2] 119) gR (by omega)).trans hbr.out)
   have r3 := qh (heap_alloc_new wr (.cells #[.func (.func 91) #[] #[], int i64 1, int i64 1048576, int i64 2] 119))
   have r4 := qh (hbw.out.alloc (show w.heap.size ≤ wr.heap.size by omega) (.cells #[.func (.func 91) #[] #[], int i64 1, int i64 1048576, int i64 2] 119))
   have r5 : wr.heap.size < (wr.alloc (.cells #[.func (.func 91) #[] #[], int i64 1, int i64 1048576, int i64 2] 119)).heap.size := by simp
   have l3 : (wr.alloc (.cells #[.func (.func 91) #[] #[], int i64 1, int i64 1048576, int i64 2] 119)).cell? ⟨wr.heap.size, 3, none⟩ = some (int i64 2) := A0 r3.out 3 rfl
   go_wp2_with fail
   clear hsf p0 p1 p2 p3 l3
   generalize wr.alloc (.cells #[.func (.func 91) #[] #[], int i64 1, int i64 1048576, int i64 2] 119) = wa at *
   generalize hgw : wr.heap.size = gw at *
   clear hbc hbr hbw hgw
   go_loopw [51] (fun iv wr => ∃ j : Nat, j ≤ 3 ∧ iv = int i64 j ∧ Hid (∀ i, i < j → ∀ x, (AN b 1)[i]? = some x → inB x 1 1048576 = true) ∧ gw < wr.heap.size ∧ Hid (wr.heap[w.heap.size + 1]? = some (.cells (A1 b) 114 (0, 0))) ∧ Hid (wr.heap[gR]? = some (.cells AJ 120 (0, 0))) ∧ Hid (wr.heap[gw]? = some (.cells #[.func (.func 91) #[] #[], int i64 1, int i64 1048576, int i64 2] 119 (0, 0))) ∧ Hid (Below w.heap.size w wr)) (fun iv _ => 3 - (intOf iv).toNat)
   case atStart => exact ⟨0, Nat.zero_le _, rfl, qh (fun i h => absurd h (by omega)), r5, r1, r2, r3, r4⟩
   case round =>
    clear r1 r2 r3 r4 r5
    obtain ⟨j, hj, rfl, hpre, hs2, hc2, hr2, hw2, hb2⟩ := hrel
    by_cases hjn : j < 3
    ·have hjn' : (j : Int) < 3 := by omega
     obtain ⟨x, hx, cx⟩ : ∃ x, (AN b 1)[j]? = some x ∧ (A1 b)[9 + j]? = some (int i64 x) := by
      have : j = 0 ∨ j = 1 ∨ j = 2 := by omega
      rcases this with rfl | rfl | rfl
      ·exact ⟨_, rfl, rfl⟩
      ·exact ⟨_, rfl, rfl⟩
      ·exact ⟨_, rfl, rfl⟩
     have HX := qh hx; have CX := qh cx; clear hx cx
     go_wp2_with fail
     have c0 : wr.cell? ⟨gw, 0, none⟩ = some (.func (.func 91) #[] #[]) := A0 hw2.out 0 rfl
     have c1 : wr.cell? ⟨gw, 1, none⟩ = some (int i64 1) := A0 hw2.out 1 rfl
     have c2 : wr.cell? ⟨gw, 2, none⟩ = some (int i64 1048576) := A0 hw2.out 2 rfl
     have cv : wr.cell? ⟨w.heap.size + 1, 9 + j, none⟩ = some (int i64 x) := A0 hc2.out _ CX.out
     have hbr : BR b w gR gw (.cells #[.func (.func 91) #[] #[], int i64 1, int i64 1048576, int i64 2] 119 (0, 0)) wr.drew := ⟨hc2.out, hr2.out, hw2.out, hb2.out.drew, hs2, Nat.lt_trans (by omega) hs2, by show _ < wr.heap.size; omega⟩
     have hal : ∀ k o, (wr.drewN k).alloc o = (wr.alloc o).drewN k := fun _ _ => rfl
     clear hc2 hr2 hw2 hb2 hs2
     go_region_held3 (fun w2 => w2.cell? ⟨gw, 0, none⟩ = some (.func (.func 91) #[] #[]) ∧ w2.cell? ⟨gw, 1, none⟩ = some (int i64 1) ∧ w2.cell? ⟨gw, 2, none⟩ = some (int i64 1048576) ∧ w2.cell? ⟨w.heap.size + 1, 9 + j, none⟩ = some (int i64 x) ∧ BR b w gR gw (.cells #[.func (.func 91) #[] #[], int i64 1, int i64 1048576, int i64 2] 119 (0, 0)) w2)
      (first | assumption | exact ⟨c0, c1, c2, cv, hbr⟩ | exact keepS (by assumption) _ | exact keepS (w2 := wr.drew) ⟨c0, c1, c2, cv, hbr⟩ _)
      (first | (go_at_call 91; refine (MQ (w.heap.size + 1) j (by omega) _).mono ?_; rintro e w' ⟨rfl, rfl⟩) | (go_at_call 65; refine (Bp 1 1048576 x _ _ _ ?_).mono ?_; (first | exact A0 (heap_alloc_new _ _) 0 rfl | go_simp); rintro e w' ⟨rfl, rfl⟩))
     rename_i hHeld
     obtain ⟨s1, s2, s3, s4, s5, s6, s7⟩ := hHeld.2.2.2.2
     have S1 := qh s1; have S2 := qh s2; have S3 := qh s3; have S4 := qh s4
     clear hHeld hbr c0 c1 c2 cv hal s1 s2 s3 s4 s6 s7
     cases q : inB x 1 1048576 with
     | false =>
      have Q := qh q; clear q
      go_wp2_with fail
      go_ret
      exact ⟨Af (DF (k := 1) (by omega) (by unfold Bf; rw [List.all_eq_false]; exact ⟨x, List.mem_of_getElem? HX.out, by simp [IP, IR, Q.out]⟩)), S4.out⟩
     | true =>
      have Q := qh q; clear q
      go_wp2_with fail
      go_roundw
      case rel => exact ⟨j + 1, by omega, by go_num, qh (by
       intro i hi y hy
       rcases Nat.lt_or_ge i j with h | h
       ·exact hpre.out i h y hy
       ·have : i = j := by omega
        subst this
        rw [HX.out] at hy
        injection hy with hy; rw [← hy]; exact Q.out), s5, S1, S2, S3, S4⟩
      case measure => simp [intOf] <;> omega
    ·obtain rfl : j = 3 := by omega
     have HR : Hid (∀ i, i < 1 + 1 → Bf b i = true) := qh (by
      intro i hi
      rcases Nat.lt_or_ge i 1 with h | h
      ·exact hall.out i h
      ·have : i = 1 := by omega
       subst this
       unfold Bf
       rw [List.all_eq_true]
       intro y hy
       obtain ⟨i, hi⟩ := List.mem_iff_getElem?.1 hy
       have hlt : i < 3 := by have := (ql.1 hi).1; simpa [AN] using this
       exact hpre.out i hlt y hi)
     have hsR : gR < wr.heap.size := by omega
     clear hpre hall
     go_wp2_with fail
     go_roundw
     case rel => exact ⟨1 + 1, by omega, by go_num, HR, hsR, hc2, hr2, hb2⟩
     case measure => simp [intOf]
  ·rw [show ((2 : Nat) : Int) = 2 from rfl]
   have p0 : wr.cell? ⟨gR, 12, none⟩ = some (.func (.func 92) #[] #[]) := A0 hbr.out 12 rfl
   have p1 : wr.cell? ⟨gR, 13, none⟩ = some (int i64 1) := A0 hbr.out 13 rfl
   have p2 : wr.cell? ⟨gR, 14, none⟩ = some (int i64 16) := A0 hbr.out 14 rfl
   have p3 : wr.cell? ⟨gR, 15, none⟩ = some (int i64 0) := A0 hbr.out 15 rfl
   have hsf : ∀ (a : Addr) (W : World), (store a (.func (.func 92) #[] #[])).run Tryz.prog W = _ := fun a W => run_store Tryz.prog W a (.func (.func 92) #[] #[]) .plain rfl
   have r1 := qh ((Below.heap_alloc wr (.cells #[.func (.func 92) #[] #[], int i64 1, int i64 16, int i64 0] 119) (w.heap.size + 1) (by omega)).trans hbc.out)
   have r2 := qh ((Below.heap_alloc wr (.cells #[.func (.func 92) #[] #[], int i64 1, int i64 16, int i64 0] 119) gR (by omega)).trans hbr.out)
   have r3 := qh (heap_alloc_new wr (.cells #[.func (.func 92) #[] #[], int i64 1, int i64 16, int i64 0] 119))
   have r4 := qh (hbw.out.alloc (show w.heap.size ≤ wr.heap.size by omega) (.cells #[.func (.func 92) #[] #[], int i64 1, int i64 16, int i64 0] 119))
   have r5 : wr.heap.size < (wr.alloc (.cells #[.func (.func 92) #[] #[], int i64 1, int i64 16, int i64 0] 119)).heap.size := by simp
   have l3 : (wr.alloc (.cells #[.func (.func 92) #[] #[], int i64 1, int i64 16, int i64 0] 119)).cell? ⟨wr.heap.size, 3, none⟩ = some (int i64 0) := A0 r3.out 3 rfl
   go_wp2_with fail
   clear hsf p0 p1 p2 p3 l3
   generalize wr.alloc (.cells #[.func (.func 92) #[] #[], int i64 1, int i64 16, int i64 0] 119) = wa at *
   generalize hgw : wr.heap.size = gw at *
   clear hbc hbr hbw hgw
   go_loopw [51] (fun iv wr => ∃ j : Nat, j ≤ 1 ∧ iv = int i64 j ∧ Hid (∀ i, i < j → ∀ x, (AN b 2)[i]? = some x → inB x 1 16 = true) ∧ gw < wr.heap.size ∧ Hid (wr.heap[w.heap.size + 1]? = some (.cells (A1 b) 114 (0, 0))) ∧ Hid (wr.heap[gR]? = some (.cells AJ 120 (0, 0))) ∧ Hid (wr.heap[gw]? = some (.cells #[.func (.func 92) #[] #[], int i64 1, int i64 16, int i64 0] 119 (0, 0))) ∧ Hid (Below w.heap.size w wr)) (fun iv _ => 1 - (intOf iv).toNat)
   case atStart => exact ⟨0, Nat.zero_le _, rfl, qh (fun i h => absurd h (by omega)), r5, r1, r2, r3, r4⟩
   case round =>
    clear r1 r2 r3 r4 r5
    obtain ⟨j, hj, rfl, hpre, hs2, hc2, hr2, hw2, hb2⟩ := hrel
    by_cases hjn : j < 1
    ·have hjn' : (j : Int) < 1 := by omega
     obtain rfl : j = 0 := by omega
     obtain ⟨x, hx, cx⟩ : ∃ x, (AN b 2)[0]? = some x ∧ (A1 b)[4]? = some (int i64 x) := ⟨_, rfl, rfl⟩
     have HX := qh hx; have CX := qh cx; clear hx cx
     go_wp2_with fail
     have c0 : wr.cell? ⟨gw, 0, none⟩ = some (.func (.func 92) #[] #[]) := A0 hw2.out 0 rfl
     have c1 : wr.cell? ⟨gw, 1, none⟩ = some (int i64 1) := A0 hw2.out 1 rfl
     have c2 : wr.cell? ⟨gw, 2, none⟩ = some (int i64 16) := A0 hw2.out 2 rfl
     have cv : wr.cell? ⟨w.heap.size + 1, 4, none⟩ = some (int i64 x) := A0 hc2.out _ CX.out
     have hbr : BR b w gR gw (.cells #[.func (.func 92) #[] #[], int i64 1, int i64 16, int i64 0] 119 (0, 0)) wr.drew := ⟨hc2.out, hr2.out, hw2.out, hb2.out.drew, hs2, Nat.lt_trans (by omega) hs2, by show _ < wr.heap.size; omega⟩
     have hal : ∀ k o, (wr.drewN k).alloc o = (wr.alloc o).drewN k := fun _ _ => rfl
     clear hc2 hr2 hw2 hb2 hs2
     go_region_held3 (fun w2 => w2.cell? ⟨gw, 0, none⟩ = some (.func (.func 92) #[] #[]) ∧ w2.cell? ⟨gw, 1, none⟩ = some (int i64 1) ∧ w2.cell? ⟨gw, 2, none⟩ = some (int i64 16) ∧ w2.cell? ⟨w.heap.size + 1, 4, none⟩ = some (int i64 x) ∧ BR b w gR gw (.cells #[.func (.func 92) #[] #[], int i64 1, int i64 16, int i64 0] 119 (0, 0)) w2)
      (first | assumption | exact ⟨c0, c1, c2, cv, hbr⟩ | exact keepS (by assumption) _ | exact keepS (w2 := wr.drew) ⟨c0, c1, c2, cv, hbr⟩ _)
      (first | (go_at_call 92; refine (Pu (w.heap.size + 1) _ _).mono ?_; rintro e w' ⟨rfl, rfl⟩) | (go_at_call 65; refine (Bp 1 16 x _ _ _ ?_).mono ?_; (first | exact A0 (heap_alloc_new _ _) 0 rfl | go_simp); rintro e w' ⟨rfl, rfl⟩))
     rename_i hHeld
     obtain ⟨s1, s2, s3, s4, s5, s6, s7⟩ := hHeld.2.2.2.2
     have S1 := qh s1; have S2 := qh s2; have S3 := qh s3; have S4 := qh s4
     clear hHeld hbr c0 c1 c2 cv hal s1 s2 s3 s4 s6 s7
     cases q : inB x 1 16 with
     | false =>
      have Q := qh q; clear q
      go_wp2_with fail
      go_ret
      exact ⟨Af (DF (k := 2) (by omega) (by unfold Bf; rw [List.all_eq_false]; exact ⟨x, List.mem_of_getElem? HX.out, by simp [IP, IR, Q.out]⟩)), S4.out⟩
     | true =>
      have Q := qh q; clear q
      go_wp2_with fail
      go_roundw
      case rel => exact ⟨0 + 1, by omega, by go_num, qh (by
       intro i hi y hy
       rcases Nat.lt_or_ge i 0 with h | h
       ·exact hpre.out i h y hy
       ·have : i = 0 := by omega
        subst this
        rw [HX.out] at hy
        injection hy with hy; rw [← hy]; exact Q.out), s5, S1, S2, S3, S4⟩
      case measure => simp [intOf] <;> omega
    ·obtain rfl : j = 1 := by omega
     have HR : Hid (∀ i, i < 2 + 1 → Bf b i = true) := qh (by
      intro i hi
      rcases Nat.lt_or_ge i 2 with h | h
      ·exact hall.out i h
      ·have : i = 2 := by omega
       subst this
       unfold Bf
       rw [List.all_eq_true]
       intro y hy
       obtain ⟨i, hi⟩ := List.mem_iff_getElem?.1 hy
       have hlt : i < 1 := by have := (ql.1 hi).1; simpa [AN] using this
       exact hpre.out i hlt y hi)
     have hsR : gR < wr.heap.size := by omega
     clear hpre hall
     go_wp2_with fail
     go_roundw
     case rel => exact ⟨2 + 1, by omega, by go_num, HR, hsR, hc2, hr2, hb2⟩
     case measure => simp [intOf]
  ·rw [show ((3 : Nat) : Int) = 3 from rfl]
   have p0 : wr.cell? ⟨gR, 16, none⟩ = some (.func (.func 93) #[] #[]) := A0 hbr.out 16 rfl
   have p1 : wr.cell? ⟨gR, 17, none⟩ = some (int i64 0) := A0 hbr.out 17 rfl
   have p2 : wr.cell? ⟨gR, 18, none⟩ = some (int i64 16) := A0 hbr.out 18 rfl
   have p3 : wr.cell? ⟨gR, 19, none⟩ = some (int i64 0) := A0 hbr.out 19 rfl
   have hsf : ∀ (a : Addr) (W : World), (store a (.func (.func 93) #[] #[])).run Tryz.prog W = _ := fun a W => run_store Tryz.prog W a (.func (.func 93) #[] #[]) .plain rfl
   have r1 := qh ((Below.heap_alloc wr (.cells #[.func (.func 93) #[] #[], int i64 0, int i64 16, int i64 0] 119) (w.heap.size + 1) (by omega)).trans hbc.out)
   have r2 := qh ((Below.heap_alloc wr (.cells #[.func (.func 93) #[] #[], int i64 0, int i64 16, int i64 0] 119) gR (by omega)).trans hbr.out)
   have r3 := qh (heap_alloc_new wr (.cells #[.func (.func 93) #[] #[], int i64 0, int i64 16, int i64 0] 119))
   have r4 := qh (hbw.out.alloc (show w.heap.size ≤ wr.heap.size by omega) (.cells #[.func (.func 93) #[] #[], int i64 0, int i64 16, int i64 0] 119))
   have r5 : wr.heap.size < (wr.alloc (.cells #[.func (.func 93) #[] #[], int i64 0, int i64 16, int i64 0] 119)).heap.size := by simp
   have l3 : (wr.alloc (.cells #[.func (.func 93) #[] #[], int i64 0, int i64 16, int i64 0] 119)).cell? ⟨wr.heap.size, 3, none⟩ = some (int i64 0) := A0 r3.out 3 rfl
   go_wp2_with fail
   clear hsf p0 p1 p2 p3 l3
   generalize wr.alloc (.cells #[.func (.func 93) #[] #[], int i64 0, int i64 16, int i64 0] 119) = wa at *
   generalize hgw : wr.heap.size = gw at *
   clear hbc hbr hbw hgw
   go_loopw [51] (fun iv wr => ∃ j : Nat, j ≤ 1 ∧ iv = int i64 j ∧ Hid (∀ i, i < j → ∀ x, (AN b 3)[i]? = some x → inB x 0 16 = true) ∧ gw < wr.heap.size ∧ Hid (wr.heap[w.heap.size + 1]? = some (.cells (A1 b) 114 (0, 0))) ∧ Hid (wr.heap[gR]? = some (.cells AJ 120 (0, 0))) ∧ Hid (wr.heap[gw]? = some (.cells #[.func (.func 93) #[] #[], int i64 0, int i64 16, int i64 0] 119 (0, 0))) ∧ Hid (Below w.heap.size w wr)) (fun iv _ => 1 - (intOf iv).toNat)
   case atStart => exact ⟨0, Nat.zero_le _, rfl, qh (fun i h => absurd h (by omega)), r5, r1, r2, r3, r4⟩
   case round =>
    clear r1 r2 r3 r4 r5
    obtain ⟨j, hj, rfl, hpre, hs2, hc2, hr2, hw2, hb2⟩ := hrel
    by_cases hjn : j < 1
    ·have hjn' : (j : Int) < 1 := by omega
     obtain rfl : j = 0 := by omega
     obtain ⟨x, hx, cx⟩ : ∃ x, (AN b 3)[0]? = some x ∧ (A1 b)[5]? = some (int i64 x) := ⟨_, rfl, rfl⟩
     have HX := qh hx; have CX := qh cx; clear hx cx
     go_wp2_with fail
     have c0 : wr.cell? ⟨gw, 0, none⟩ = some (.func (.func 93) #[] #[]) := A0 hw2.out 0 rfl
     have c1 : wr.cell? ⟨gw, 1, none⟩ = some (int i64 0) := A0 hw2.out 1 rfl
     have c2 : wr.cell? ⟨gw, 2, none⟩ = some (int i64 16) := A0 hw2.out 2 rfl
     have cv : wr.cell? ⟨w.heap.size + 1, 5, none⟩ = some (int i64 x) := A0 hc2.out _ CX.out
     have hbr : BR b w gR gw (.cells #[.func (.func 93) #[] #[], int i64 0, int i64 16, int i64 0] 119 (0, 0)) wr.drew := ⟨hc2.out, hr2.out, hw2.out, hb2.out.drew, hs2, Nat.lt_trans (by omega) hs2, by show _ < wr.heap.size; omega⟩
     have hal : ∀ k o, (wr.drewN k).alloc o = (wr.alloc o).drewN k := fun _ _ => rfl
     clear hc2 hr2 hw2 hb2 hs2
     go_region_held3 (fun w2 => w2.cell? ⟨gw, 0, none⟩ = some (.func (.func 93) #[] #[]) ∧ w2.cell? ⟨gw, 1, none⟩ = some (int i64 0) ∧ w2.cell? ⟨gw, 2, none⟩ = some (int i64 16) ∧ w2.cell? ⟨w.heap.size + 1, 5, none⟩ = some (int i64 x) ∧ BR b w gR gw (.cells #[.func (.func 93) #[] #[], int i64 0, int i64 16, int i64 0] 119 (0, 0)) w2)
      (first | assumption | exact ⟨c0, c1, c2, cv, hbr⟩ | exact keepS (by assumption) _ | exact keepS (w2 := wr.drew) ⟨c0, c1, c2, cv, hbr⟩ _)
      (first | (go_at_call 93; refine (OC (w.heap.size + 1) _ _).mono ?_; rintro e w' ⟨rfl, rfl⟩) | (go_at_call 65; refine (Bp 0 16 x _ _ _ ?_).mono ?_; (first | exact A0 (heap_alloc_new _ _) 0 rfl | go_simp); rintro e w' ⟨rfl, rfl⟩))
     rename_i hHeld
     obtain ⟨s1, s2, s3, s4, s5, s6, s7⟩ := hHeld.2.2.2.2
     have S1 := qh s1; have S2 := qh s2; have S3 := qh s3; have S4 := qh s4
     clear hHeld hbr c0 c1 c2 cv hal s1 s2 s3 s4 s6 s7
     cases q : inB x 0 16 with
     | false =>
      have Q := qh q; clear q
      go_wp2_with fail
      go_ret
      exact ⟨Af (DF (k := 3) (by omega) (by unfold Bf; rw [List.all_eq_false]; exact ⟨x, List.mem_of_getElem? HX.out, by simp [IP, IR, Q.out]⟩)), S4.out⟩
     | true =>
      have Q := qh q; clear q
      go_wp2_with fail
      go_roundw
      case rel => exact ⟨0 + 1, by omega, by go_num, qh (by
       intro i hi y hy
       rcases Nat.lt_or_ge i 0 with h | h
       ·exact hpre.out i h y hy
       ·have : i = 0 := by omega
        subst this
        rw [HX.out] at hy
        injection hy with hy; rw [← hy]; exact Q.out), s5, S1, S2, S3, S4⟩
      case measure => simp [intOf] <;> omega
    ·obtain rfl : j = 1 := by omega
     have HR : Hid (∀ i, i < 3 + 1 → Bf b i = true) := qh (by
      intro i hi
      rcases Nat.lt_or_ge i 3 with h | h
      ·exact hall.out i h
      ·have : i = 3 := by omega
       subst this
       unfold Bf
       rw [List.all_eq_true]
       intro y hy
       obtain ⟨i, hi⟩ := List.mem_iff_getElem?.1 hy
       have hlt : i < 1 := by have := (ql.1 hi).1; simpa [AN] using this
       exact hpre.out i hlt y hi)
     have hsR : gR < wr.heap.size := by omega
     clear hpre hall
     go_wp2_with fail
     go_roundw
     case rel => exact ⟨3 + 1, by omega, by go_num, HR, hsR, hc2, hr2, hb2⟩
     case measure => simp [intOf]
  ·rw [show ((4 : Nat) : Int) = 4 from rfl]
   have p0 : wr.cell? ⟨gR, 20, none⟩ = some (.func (.func 94) #[] #[]) := A0 hbr.out 20 rfl
   have p1 : wr.cell? ⟨gR, 21, none⟩ = some (int i64 0) := A0 hbr.out 21 rfl
   have p2 : wr.cell? ⟨gR, 22, none⟩ = some (int i64 500) := A0 hbr.out 22 rfl
   have p3 : wr.cell? ⟨gR, 23, none⟩ = some (int i64 0) := A0 hbr.out 23 rfl
   have hsf : ∀ (a : Addr) (W : World), (store a (.func (.func 94) #[] #[])).run Tryz.prog W = _ := fun a W => run_store Tryz.prog W a (.func (.func 94) #[] #[]) .plain rfl
   have r1 := qh ((Below.heap_alloc wr (.cells #[.func (.func 94) #[] #[], int i64 0, int i64 500, int i64 0] 119) (w.heap.size + 1) (by omega)).trans hbc.out)
   have r2 := qh ((Below.heap_alloc wr (.cells #[.func (.func 94) #[] #[], int i64 0, int i64 500, int i64 0] 119) gR (by omega)).trans hbr.out)
   have r3 := qh (heap_alloc_new wr (.cells #[.func (.func 94) #[] #[], int i64 0, int i64 500, int i64 0] 119))
   have r4 := qh (hbw.out.alloc (show w.heap.size ≤ wr.heap.size by omega) (.cells #[.func (.func 94) #[] #[], int i64 0, int i64 500, int i64 0] 119))
   have r5 : wr.heap.size < (wr.alloc (.cells #[.func (.func 94) #[] #[], int i64 0, int i64 500, int i64 0] 119)).heap.size := by simp
   have l3 : (wr.alloc (.cells #[.func (.func 94) #[] #[], int i64 0, int i64 500, int i64 0] 119)).cell? ⟨wr.heap.size, 3, none⟩ = some (int i64 0) := A0 r3.out 3 rfl
   go_wp2_with fail
   clear hsf p0 p1 p2 p3 l3
   generalize wr.alloc (.cells #[.func (.func 94) #[] #[], int i64 0, int i64 500, int i64 0] 119) = wa at *
   generalize hgw : wr.heap.size = gw at *
   clear hbc hbr hbw hgw
   go_loopw [51] (fun iv wr => ∃ j : Nat, j ≤ 1 ∧ iv = int i64 j ∧ Hid (∀ i, i < j → ∀ x, (AN b 4)[i]? = some x → inB x 0 500 = true) ∧ gw < wr.heap.size ∧ Hid (wr.heap[w.heap.size + 1]? = some (.cells (A1 b) 114 (0, 0))) ∧ Hid (wr.heap[gR]? = some (.cells AJ 120 (0, 0))) ∧ Hid (wr.heap[gw]? = some (.cells #[.func (.func 94) #[] #[], int i64 0, int i64 500, int i64 0] 119 (0, 0))) ∧ Hid (Below w.heap.size w wr)) (fun iv _ => 1 - (intOf iv).toNat)
   case atStart => exact ⟨0, Nat.zero_le _, rfl, qh (fun i h => absurd h (by omega)), r5, r1, r2, r3, r4⟩
   case round =>
    clear r1 r2 r3 r4 r5
    obtain ⟨j, hj, rfl, hpre, hs2, hc2, hr2, hw2, hb2⟩ := hrel
    by_cases hjn : j < 1
    ·have hjn' : (j : Int) < 1 := by omega
     obtain rfl : j = 0 := by omega
     obtain ⟨x, hx, cx⟩ : ∃ x, (AN b 4)[0]? = some x ∧ (A1 b)[2]? = some (int i64 x) := ⟨_, rfl, rfl⟩
     have HX := qh hx; have CX := qh cx; clear hx cx
     go_wp2_with fail
     have c0 : wr.cell? ⟨gw, 0, none⟩ = some (.func (.func 94) #[] #[]) := A0 hw2.out 0 rfl
     have c1 : wr.cell? ⟨gw, 1, none⟩ = some (int i64 0) := A0 hw2.out 1 rfl
     have c2 : wr.cell? ⟨gw, 2, none⟩ = some (int i64 500) := A0 hw2.out 2 rfl
     have cv : wr.cell? ⟨w.heap.size + 1, 2, none⟩ = some (int i64 x) := A0 hc2.out _ CX.out
     have hbr : BR b w gR gw (.cells #[.func (.func 94) #[] #[], int i64 0, int i64 500, int i64 0] 119 (0, 0)) wr.drew := ⟨hc2.out, hr2.out, hw2.out, hb2.out.drew, hs2, Nat.lt_trans (by omega) hs2, by show _ < wr.heap.size; omega⟩
     have hal : ∀ k o, (wr.drewN k).alloc o = (wr.alloc o).drewN k := fun _ _ => rfl
     clear hc2 hr2 hw2 hb2 hs2
     go_region_held3 (fun w2 => w2.cell? ⟨gw, 0, none⟩ = some (.func (.func 94) #[] #[]) ∧ w2.cell? ⟨gw, 1, none⟩ = some (int i64 0) ∧ w2.cell? ⟨gw, 2, none⟩ = some (int i64 500) ∧ w2.cell? ⟨w.heap.size + 1, 2, none⟩ = some (int i64 x) ∧ BR b w gR gw (.cells #[.func (.func 94) #[] #[], int i64 0, int i64 500, int i64 0] 119 (0, 0)) w2)
      (first | assumption | exact ⟨c0, c1, c2, cv, hbr⟩ | exact keepS (by assumption) _ | exact keepS (w2 := wr.drew) ⟨c0, c1, c2, cv, hbr⟩ _)
      (first | (go_at_call 94; refine (Oq (w.heap.size + 1) _ _).mono ?_; rintro e w' ⟨rfl, rfl⟩) | (go_at_call 65; refine (Bp 0 500 x _ _ _ ?_).mono ?_; (first | exact A0 (heap_alloc_new _ _) 0 rfl | go_simp); rintro e w' ⟨rfl, rfl⟩))
     rename_i hHeld
     obtain ⟨s1, s2, s3, s4, s5, s6, s7⟩ := hHeld.2.2.2.2
     have S1 := qh s1; have S2 := qh s2; have S3 := qh s3; have S4 := qh s4
     clear hHeld hbr c0 c1 c2 cv hal s1 s2 s3 s4 s6 s7
     cases q : inB x 0 500 with
     | false =>
      have Q := qh q; clear q
      go_wp2_with fail
      go_ret
      exact ⟨Af (DF (k := 4) (by omega) (by unfold Bf; rw [List.all_eq_false]; exact ⟨x, List.mem_of_getElem? HX.out, by simp [IP, IR, Q.out]⟩)), S4.out⟩
     | true =>
      have Q := qh q; clear q
      go_wp2_with fail
      go_roundw
      case rel => exact ⟨0 + 1, by omega, by go_num, qh (by
       intro i hi y hy
       rcases Nat.lt_or_ge i 0 with h | h
       ·exact hpre.out i h y hy
       ·have : i = 0 := by omega
        subst this
        rw [HX.out] at hy
        injection hy with hy; rw [← hy]; exact Q.out), s5, S1, S2, S3, S4⟩
      case measure => simp [intOf] <;> omega
    ·obtain rfl : j = 1 := by omega
     have HR : Hid (∀ i, i < 4 + 1 → Bf b i = true) := qh (by
      intro i hi
      rcases Nat.lt_or_ge i 4 with h | h
      ·exact hall.out i h
      ·have : i = 4 := by omega
       subst this
       unfold Bf
       rw [List.all_eq_true]
       intro y hy
       obtain ⟨i, hi⟩ := List.mem_iff_getElem?.1 hy
       have hlt : i < 1 := by have := (ql.1 hi).1; simpa [AN] using this
       exact hpre.out i hlt y hi)
     have hsR : gR < wr.heap.size := by omega
     clear hpre hall
     go_wp2_with fail
     go_roundw
     case rel => exact ⟨4 + 1, by omega, by go_num, HR, hsR, hc2, hr2, hb2⟩
     case measure => simp [intOf]
  ·rw [show ((5 : Nat) : Int) = 5 from rfl]
   have p0 : wr.cell? ⟨gR, 24, none⟩ = some (.func (.func 95) #[] #[]) := A0 hbr.out 24 rfl
   have p1 : wr.cell? ⟨gR, 25, none⟩ = some (int i64 0) := A0 hbr.out 25 rfl
   have p2 : wr.cell? ⟨gR, 26, none⟩ = some (int i64 1048576) := A0 hbr.out 26 rfl
   have p3 : wr.cell? ⟨gR, 27, none⟩ = some (int i64 0) := A0 hbr.out 27 rfl
   have hsf : ∀ (a : Addr) (W : World), (store a (.func (.func 95) #[] #[])).run Tryz.prog W = _ := fun a W => run_store Tryz.prog W a (.func (.func 95) #[] #[]) .plain rfl
   have r1 := qh ((Below.heap_alloc wr (.cells #[.func (.func 95) #[] #[], int i64 0, int i64 1048576, int i64 0] 119) (w.heap.size + 1) (by omega)).trans hbc.out)
   have r2 := qh ((Below.heap_alloc wr (.cells #[.func (.func 95) #[] #[], int i64 0, int i64 1048576, int i64 0] 119) gR (by omega)).trans hbr.out)
   have r3 := qh (heap_alloc_new wr (.cells #[.func (.func 95) #[] #[], int i64 0, int i64 1048576, int i64 0] 119))
   have r4 := qh (hbw.out.alloc (show w.heap.size ≤ wr.heap.size by omega) (.cells #[.func (.func 95) #[] #[], int i64 0, int i64 1048576, int i64 0] 119))
   have r5 : wr.heap.size < (wr.alloc (.cells #[.func (.func 95) #[] #[], int i64 0, int i64 1048576, int i64 0] 119)).heap.size := by simp
   have l3 : (wr.alloc (.cells #[.func (.func 95) #[] #[], int i64 0, int i64 1048576, int i64 0] 119)).cell? ⟨wr.heap.size, 3, none⟩ = some (int i64 0) := A0 r3.out 3 rfl
   go_wp2_with fail
   clear hsf p0 p1 p2 p3 l3
   generalize wr.alloc (.cells #[.func (.func 95) #[] #[], int i64 0, int i64 1048576, int i64 0] 119) = wa at *
   generalize hgw : wr.heap.size = gw at *
   clear hbc hbr hbw hgw
   go_loopw [51] (fun iv wr => ∃ j : Nat, j ≤ 1 ∧ iv = int i64 j ∧ Hid (∀ i, i < j → ∀ x, (AN b 5)[i]? = some x → inB x 0 1048576 = true) ∧ gw < wr.heap.size ∧ Hid (wr.heap[w.heap.size + 1]? = some (.cells (A1 b) 114 (0, 0))) ∧ Hid (wr.heap[gR]? = some (.cells AJ 120 (0, 0))) ∧ Hid (wr.heap[gw]? = some (.cells #[.func (.func 95) #[] #[], int i64 0, int i64 1048576, int i64 0] 119 (0, 0))) ∧ Hid (Below w.heap.size w wr)) (fun iv _ => 1 - (intOf iv).toNat)
   case atStart => exact ⟨0, Nat.zero_le _, rfl, qh (fun i h => absurd h (by omega)), r5, r1, r2, r3, r4⟩
   case round =>
    clear r1 r2 r3 r4 r5
    obtain ⟨j, hj, rfl, hpre, hs2, hc2, hr2, hw2, hb2⟩ := hrel
    by_cases hjn : j < 1
    ·have hjn' : (j : Int) < 1 := by omega
     obtain rfl : j = 0 := by omega
     obtain ⟨x, hx, cx⟩ : ∃ x, (AN b 5)[0]? = some x ∧ (A1 b)[15]? = some (int i64 x) := ⟨_, rfl, rfl⟩
     have HX := qh hx; have CX := qh cx; clear hx cx
     go_wp2_with fail
     have c0 : wr.cell? ⟨gw, 0, none⟩ = some (.func (.func 95) #[] #[]) := A0 hw2.out 0 rfl
     have c1 : wr.cell? ⟨gw, 1, none⟩ = some (int i64 0) := A0 hw2.out 1 rfl
     have c2 : wr.cell? ⟨gw, 2, none⟩ = some (int i64 1048576) := A0 hw2.out 2 rfl
     have cv : wr.cell? ⟨w.heap.size + 1, 15, none⟩ = some (int i64 x) := A0 hc2.out _ CX.out
     have hbr : BR b w gR gw (.cells #[.func (.func 95) #[] #[], int i64 0, int i64 1048576, int i64 0] 119 (0, 0)) wr.drew := ⟨hc2.out, hr2.out, hw2.out, hb2.out.drew, hs2, Nat.lt_trans (by omega) hs2, by show _ < wr.heap.size; omega⟩
     have hal : ∀ k o, (wr.drewN k).alloc o = (wr.alloc o).drewN k := fun _ _ => rfl
     clear hc2 hr2 hw2 hb2 hs2
     go_region_held3 (fun w2 => w2.cell? ⟨gw, 0, none⟩ = some (.func (.func 95) #[] #[]) ∧ w2.cell? ⟨gw, 1, none⟩ = some (int i64 0) ∧ w2.cell? ⟨gw, 2, none⟩ = some (int i64 1048576) ∧ w2.cell? ⟨w.heap.size + 1, 15, none⟩ = some (int i64 x) ∧ BR b w gR gw (.cells #[.func (.func 95) #[] #[], int i64 0, int i64 1048576, int i64 0] 119 (0, 0)) w2)
      (first | assumption | exact ⟨c0, c1, c2, cv, hbr⟩ | exact keepS (by assumption) _ | exact keepS (w2 := wr.drew) ⟨c0, c1, c2, cv, hbr⟩ _)
      (first | (go_at_call 95; refine (Lj (w.heap.size + 1) _ _).mono ?_; rintro e w' ⟨rfl, rfl⟩) | (go_at_call 65; refine (Bp 0 1048576 x _ _ _ ?_).mono ?_; (first | exact A0 (heap_alloc_new _ _) 0 rfl | go_simp); rintro e w' ⟨rfl, rfl⟩))
     rename_i hHeld
     obtain ⟨s1, s2, s3, s4, s5, s6, s7⟩ := hHeld.2.2.2.2
     have S1 := qh s1; have S2 := qh s2; have S3 := qh s3; have S4 := qh s4
     clear hHeld hbr c0 c1 c2 cv hal s1 s2 s3 s4 s6 s7
     cases q : inB x 0 1048576 with
     | false =>
      have Q := qh q; clear q
      go_wp2_with fail
      go_ret
      exact ⟨Af (DF (k := 5) (by omega) (by unfold Bf; rw [List.all_eq_false]; exact ⟨x, List.mem_of_getElem? HX.out, by simp [IP, IR, Q.out]⟩)), S4.out⟩
     | true =>
      have Q := qh q; clear q
      go_wp2_with fail
      go_roundw
      case rel => exact ⟨0 + 1, by omega, by go_num, qh (by
       intro i hi y hy
       rcases Nat.lt_or_ge i 0 with h | h
       ·exact hpre.out i h y hy
       ·have : i = 0 := by omega
        subst this
        rw [HX.out] at hy
        injection hy with hy; rw [← hy]; exact Q.out), s5, S1, S2, S3, S4⟩
      case measure => simp [intOf] <;> omega
    ·obtain rfl : j = 1 := by omega
     have HR : Hid (∀ i, i < 5 + 1 → Bf b i = true) := qh (by
      intro i hi
      rcases Nat.lt_or_ge i 5 with h | h
      ·exact hall.out i h
      ·have : i = 5 := by omega
       subst this
       unfold Bf
       rw [List.all_eq_true]
       intro y hy
       obtain ⟨i, hi⟩ := List.mem_iff_getElem?.1 hy
       have hlt : i < 1 := by have := (ql.1 hi).1; simpa [AN] using this
       exact hpre.out i hlt y hi)
     have hsR : gR < wr.heap.size := by omega
     clear hpre hall
     go_wp2_with fail
     go_roundw
     case rel => exact ⟨5 + 1, by omega, by go_num, HR, hsR, hc2, hr2, hb2⟩
     case measure => simp [intOf]
  ·have HALL := qh hall.out
   go_wp2_with fail
   go_ret
   exact ⟨Af (SD HEAD.out HALL.out), hbw.out⟩
end
end Go.Proofs.YtggcbblikgankaaGreatDoor
