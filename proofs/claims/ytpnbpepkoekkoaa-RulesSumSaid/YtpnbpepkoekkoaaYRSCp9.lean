/- The walk of the statement: part 9. -/
import Derived.Test.YtpnbpepkoekkoaaYRSCp8
import Derived.Test.YtpnbpepkoekkoaaZ5
import Derived.Test.YtpnbpepkoekkoaaZ1
import Derived.Test.YtpnbpepkoekkoaaYRSCp4
import Derived.Test.YtpnbpepkoekkoaaZ35
import Derived.Test.YtpnbpepkoekkoaaZ26
set_option linter.unusedVariables false
set_option linter.unusedSimpArgs false
section
namespace Go.Proofs.Ytpnbpepkoekkoaa
open Go Go.RowKit
def movOk (m : Mov) : Bool := movB m.mark m.kind m.side m.dir m.level m.size m.fa m.fb m.ta m.tb
def numB (k n : Int) : Bool := if k = 2 then inB n 1 64 else decide (n = 0)
def Its.exB : Its → Bool
 | .nil => true
 | .cons k n _ its ms r => numB k n && ((decide (its.len = 0) || (decide (k = 2) || decide (k = 3))) && ((decide (ms.length = 0) || decide (k = 1)) && ((ms.all movOk && its.exB) && r.exB)))
noncomputable def code66 : Code := (Try.f66.body).getD .skip
noncomputable def inner66 : Code := match code66 with
 | .seq _ (.block _ (.loop (.seq _ (.seq _ (.seq (.block _ c) _))))) => c
 | c => c
noncomputable def elem66n4 : Code := match lastPart 4 inner66 with
 | .seq a _ => a
 | c => c
noncomputable def elem66n1 : Code := match lastPart 1 inner66 with
 | .seq a _ => a
 | c => c
noncomputable def elem66n2 : Code := match lastPart 2 inner66 with
 | .seq a _ => a
 | c => c
noncomputable def elem66n3 : Code := match lastPart 3 inner66 with
 | .seq a _ => a
 | c => c
def wrongC : List PanicEntry := [{ v := .iface 113 (.agg #[]), recovered := false }]
theorem demand_f {b : Bool} (h : b = false) (w : World) : Calls Try.prog 63 #[.bool b] w fun e w' => e = wrongPanic ∧ w = w' := by subst h; exact demand_bad w
theorem ex_ret {b : Bool} {w w' : World} {e : Ending} (h : ExP b w e w') : (b = true ∧ e = .returned (.tuple #[]) ∧ Below w.heap.size w w') ∨ (b = false ∧ e = .panicked wrongC ∧ Below w.heap.size w w') := by
 rcases h with ⟨⟨h1, h2⟩ | ⟨h1, h2⟩, h3⟩
 ·exact Or.inl ⟨h1, h2, h3⟩
 ·exact Or.inr ⟨h1, h2, h3⟩
set_option maxRecDepth 100000 in
set_option maxHeartbeats 16000000 in
theorem ex_p5 (k n u : Int) (un : Nm) (ia : Option Addr) (ic l : Nat) (ma : Option Addr) (mc m : Nat) (X : Nat) (Q : Exit → Act → World → Prop) (W : World) (hX : W.heap[X]? = some (.cells #[.int .i64 k, .int .i64 n, sv un, .int .i64 u, .slice ia l ic, .slice ma m mc] 78 (0, 0))) (b : Bool) (C : ∀ V, Below W.heap.size W V → Calls Try.prog 66 #[.slice ia l ic] V (ExP b V)) (e0 e1 e2 e4 e5 e6 e7 e8 e9 e10 e11 e12 e13 e14 e15 e16 e17 e18 e19 e20 e21 e22 e23 e24 e25 e26 e27 e28 e29 e30 e31 e32 e33 e34 e35 e36 e37 e38 e39 e40 e41 e42 e43 e44 e45 e46 e47 e48 e49 e50 e51 e52 e53 e54 e55 e56 e57 e58 e59 e60 e61 : Value)
  (hN : b = true → ∀ (x5 x9 x10 x11 x12 x13 x14 x15 x16 x17 x18 x19 x20 x21 x22 x23 x24 x25 x26 x27 x28 x29 x30 x31 x32 x33 x34 x35 x36 x37 x38 x39 x40 x41 x42 x43 x44 x45 x46 x47 x48 x49 x50 x51 x52 x53 x54 x55 x56 x57 x58 x59 x60 x61 : Value) (V : World), Below W.heap.size W V → Q .normal { tmps := #[e0, e1, e2, .pointer (some ⟨X, 0, none⟩), e4, x5, e6, e7, e8, x9, x10, x11, x12, x13, x14, x15, x16, x17, x18, x19, x20, x21, x22, x23, x24, x25, x26, x27, x28, x29, x30, x31, x32, x33, x34, x35, x36, x37, x38, x39, x40, x41, x42, x43, x44, x45, x46, x47, x48, x49, x50, x51, x52, x53, x54, x55, x56, x57, x58, x59, x60, x61], defers := [] } V)
  (hP : b = false → ∀ (a : Act) (V : World), a.defers = [] → Below W.heap.size W V → Q (.panic wrongC) a V) :
  (lastPart 5 inner66).wp Try.prog Q { tmps := #[e0, e1, e2, .pointer (some ⟨X, 0, none⟩), e4, e5, e6, e7, e8, e9, e10, e11, e12, e13, e14, e15, e16, e17, e18, e19, e20, e21, e22, e23, e24, e25, e26, e27, e28, e29, e30, e31, e32, e33, e34, e35, e36, e37, e38, e39, e40, e41, e42, e43, e44, e45, e46, e47, e48, e49, e50, e51, e52, e53, e54, e55, e56, e57, e58, e59, e60, e61], defers := [] } W := by
 have y4 := cell_at hX 4 rfl
 have C := C W (Below.refl _ _)
 have HC := Lib.hid C; have HN := Lib.hid hN; have HP := Lib.hid hP
 clear C hX hN hP
 conv => arg 2; whnf
 go_wp2_with (go_at_call 66; refine HC.out.mono ?_; intro e V he; rcases ex_ret he with ⟨h1, rfl, hb⟩ | ⟨h1, rfl, hb⟩ <;> clear he)
 ·exact HN.out h1 _ _ _ _ _ _ _ _ _ _ _ _ _ _ _ _ _ _ _ _ _ _ _ _ _ _ _ _ _ _ _ _ _ _ _ _ _ _ _ _ _ _ _ _ _ _ _ _ _ _ _ _ _ _ _ hb
 ·exact HP.out h1 _ _ rfl hb
set_option maxRecDepth 100000 in
set_option maxHeartbeats 16000000 in
theorem ex_p4 (k n u : Int) (un : Nm) (ia : Option Addr) (ic l : Nat) (ma : Option Addr) (mc m : Nat) (X : Nat) (Q : Exit → Act → World → Prop) (W : World) (hX : W.heap[X]? = some (.cells #[.int .i64 k, .int .i64 n, sv un, .int .i64 u, .slice ia l ic, .slice ma m mc] 78 (0, 0))) (b : Bool) (C : ∀ V, Below W.heap.size W V → Calls Try.prog 66 #[.slice ia l ic] V (ExP b V)) (ms : List Mov) (ks : List Int) (hml : ms.length = m) (hm1 : ms = [] ∨ ma = some ⟨blk ma, off ma, none⟩) (hm2 : m ≤ maxLen) (hm3 : movAt W (blk ma) (off ma) ms) (hm4 : NsAt W (movRefs (blk ma) (off ma) ms) ks) (e0 e1 e2 e4 e5 e6 e7 e8 e9 e10 e11 e12 e13 e14 e15 e16 e17 e18 e19 e20 e21 e22 e23 e24 e25 e26 e27 e28 e29 e30 e31 e32 e33 e34 e35 e36 e37 e38 e39 e40 e41 e42 e43 e44 e45 e46 e47 e48 e49 e50 e51 e52 e53 e54 e55 e56 e57 e58 e59 e60 e61 : Value)
  (hN : (ms.all movOk && b) = true → ∀ (x5 x9 x10 x11 x12 x13 x14 x15 x16 x17 x18 x19 x20 x21 x22 x23 x24 x25 x26 x27 x28 x29 x30 x31 x32 x33 x34 x35 x36 x37 x38 x39 x40 x41 x42 x43 x44 x45 x46 x47 x48 x49 x50 x51 x52 x53 x54 x55 x56 x57 x58 x59 x60 x61 : Value) (V : World), Below W.heap.size W V → Q .normal { tmps := #[e0, e1, e2, .pointer (some ⟨X, 0, none⟩), e4, x5, e6, e7, e8, x9, x10, x11, x12, x13, x14, x15, x16, x17, x18, x19, x20, x21, x22, x23, x24, x25, x26, x27, x28, x29, x30, x31, x32, x33, x34, x35, x36, x37, x38, x39, x40, x41, x42, x43, x44, x45, x46, x47, x48, x49, x50, x51, x52, x53, x54, x55, x56, x57, x58, x59, x60, x61], defers := [] } V)
  (hP : (ms.all movOk && b) = false → ∀ (a : Act) (V : World), a.defers = [] → Below W.heap.size W V → Q (.panic wrongC) a V) :
  (lastPart 4 inner66).wp Try.prog Q { tmps := #[e0, e1, e2, .pointer (some ⟨X, 0, none⟩), e4, e5, e6, e7, e8, e9, e10, e11, e12, e13, e14, e15, e16, e17, e18, e19, e20, e21, e22, e23, e24, e25, e26, e27, e28, e29, e30, e31, e32, e33, e34, e35, e36, e37, e38, e39, e40, e41, e42, e43, e44, e45, e46, e47, e48, e49, e50, e51, e52, e53, e54, e55, e56, e57, e58, e59, e60, e61], defers := [] } W := by
 have y5 := cell_at hX 5 rfl
 have HC := Lib.hid C; have HN := Lib.hid hN; have HP := Lib.hid hP; have HM1 := Lib.hid hm1; have HM3 := Lib.hid hm3; have HM4 := Lib.hid hm4; have HX := Lib.hid hX
 have HML := Lib.hid hml
 clear C hX hN hP hm1 hm3 hm4 hml
 unfold maxLen at hm2
 change Code.wp Try.prog (.seq (elem66n4) (lastPart 5 inner66)) _ _ _
 refine wp_seq_thenQ (fun K hK => ?_)
 have HK := Lib.hid hK
 clear hK
 conv => arg 2; whnf
 go_wp2_with fail
 go_loopw [51] (fun jv wr => ∃ (j : Nat) (s : List Mov) (ls : List Int), jv = .int .i64 j ∧ j + s.length = m ∧ Hid (ms.all movOk = s.all movOk) ∧ Hid (movAt wr (blk ma) (off ma + j * 12) s) ∧ Hid (NsAt wr (movRefs (blk ma) (off ma + j * 12) s) ls) ∧ Hid (Below W.heap.size W wr)) (fun jv _ => m + 1 - (intOf jv).toNat)
 case atStart => exact ⟨0, ms, ks, rfl, by rw [HML.out]; omega, Lib.hid rfl, by simpa [Hid] using HM3.out, by simpa [Hid] using HM4.out, Lib.hid (Below.refl _ _)⟩
 case round =>
  obtain ⟨j, s, ls, rfl, hjn, hall, hM, hL, hB⟩ := hrel
  cases s with
  | nil =>
   simp only [List.length_nil, Nat.add_zero] at hjn
   subst hjn
   go_wp2_with fail
   refine HK.out _ _ ?_
   have ha := hall.out
   have e : (ms.all movOk && b) = b := by rw [ha]; rfl
   refine ex_p5 k n u un ia ic l ma mc j X Q wr (keepO hB.out HX.out) b (fun V hv => HC.out V (thenB hB.out hv)) _ _ _ _ _ _ _ _ _ _ _ _ _ _ _ _ _ _ _ _ _ _ _ _ _ _ _ _ _ _ _ _ _ _ _ _ _ _ _ _ _ _ _ _ _ _ _ _ _ _ _ _ _ _ _ _ _ _ _ _ _ (fun h x5 x9 x10 x11 x12 x13 x14 x15 x16 x17 x18 x19 x20 x21 x22 x23 x24 x25 x26 x27 x28 x29 x30 x31 x32 x33 x34 x35 x36 x37 x38 x39 x40 x41 x42 x43 x44 x45 x46 x47 x48 x49 x50 x51 x52 x53 x54 x55 x56 x57 x58 x59 x60 x61 V hv => HN.out (e.trans h) x5 x9 x10 x11 x12 x13 x14 x15 x16 x17 x18 x19 x20 x21 x22 x23 x24 x25 x26 x27 x28 x29 x30 x31 x32 x33 x34 x35 x36 x37 x38 x39 x40 x41 x42 x43 x44 x45 x46 x47 x48 x49 x50 x51 x52 x53 x54 x55 x56 x57 x58 x59 x60 x61 V (thenB hB.out hv)) (fun h a V hd hv => HP.out (e.trans h) a V hd (thenB hB.out hv))
  | cons x s =>
   simp only [List.length_cons] at hjn
   have hj : (j : Int) < (m : Int) := by omega
   have ema := HM1.out.resolve_left (fun e => by rw [e] at HML; have := HML.out; simp at this; omega)
   cases ls with
   | nil => exact absurd hL.out (by simp [movRefs, NsAt])
   | cons n1 ls =>
   obtain ⟨⟨f0, f1, f2, f3, f4, f5, f6, f8, f9, f10, f11⟩, hMr⟩ := hM.out
   obtain ⟨f7, hLr⟩ := hL.out
   have HNY : Hid (movAt wr (blk ma) (off ma + (j + 1) * 12) s ∧ NsAt wr (movRefs (blk ma) (off ma + (j + 1) * 12) s) ls) := Lib.hid (by
    rw [show off ma + (j + 1) * 12 = off ma + j * 12 + 12 by omega]
    exact ⟨hMr, hLr⟩)
   obtain ⟨W2, hW2, gW2, bW2, sW2⟩ := mk_cells wr #[.int .i64 x.mark, .int .i64 x.kind, .int .i64 x.side, .int .i64 x.dir, .int .i64 x.level, .int .i64 x.size, sv x.wn, .int .i64 n1, .int .i64 x.fa, .int .i64 x.fb, .int .i64 x.ta, .int .i64 x.tb] 85
   have CX := exMove_any x.mark x.kind x.side x.dir x.level x.size n1 x.fa x.fb x.ta x.tb x.wn W2
   obtain ⟨bx, hbx⟩ : ∃ bx, movB x.mark x.kind x.side x.dir x.level x.size x.fa x.fb x.ta x.tb = bx := ⟨_, rfl⟩
   rw [hbx] at CX
   have hx2 : movOk x = bx := hbx
   have ha := hall.out
   rw [List.all_cons, hx2] at ha
   have HA := Lib.hid ha; have HCX := Lib.hid CX; have HB2 := Lib.hid bW2; have HG2 := Lib.hid gW2
   clear hM hL hMr hLr CX hbx hx2 ha hall bW2 sW2
   have hone : (#[.int .i64 x.mark, .int .i64 x.kind, .int .i64 x.side, .int .i64 x.dir, .int .i64 x.level, .int .i64 x.size, sv x.wn, .int .i64 n1, .int .i64 x.fa, .int .i64 x.fb, .int .i64 x.ta, .int .i64 x.tb] : Array Value).all (·.oneCell') = true := by simp [Value.oneCell']
   generalize x.mark = x0 at *
   generalize x.kind = x1 at *
   generalize x.side = x2 at *
   generalize x.dir = x3 at *
   generalize x.level = x4 at *
   generalize x.size = x5 at *
   generalize x.wn = x6 at *
   generalize x.fa = x8 at *
   generalize x.fb = x9 at *
   generalize x.ta = x10 at *
   generalize x.tb = x11 at *
   have HONE := Lib.hid hone
   clear hone gW2
   generalize hb3 : blk ma = b3 at *
   generalize ho3 : off ma = o3 at *
   subst ema
   clear hb3 ho3
   have st0 : True := trivial
   go_wp2_with (first
    | (have q := st0; clear q st0; refine wpList_load_row rfl 85 _ rfl wr.heap.size rfl 85 #[.int .i64 x0, .int .i64 x1, .int .i64 x2, .int .i64 x3, .int .i64 x4, .int .i64 x5, sv x6, .int .i64 n1, .int .i64 x8, .int .i64 x9, .int .i64 x10, .int .i64 x11] (0, 0) _ HG2.out Try.underlying85 rfl (by kernel_rfl) ?_; simp only [Act.put, List.setIfInBounds_toArray, List.set_cons_zero, List.set_cons_succ])
    | (go_at_call 88; refine HCX.out.mono ?_; intro e V he; rcases ex_ret he with ⟨h1, rfl, hb⟩ | ⟨h1, rfl, hb⟩ <;> clear he))
   ·go_roundw
    case rel => exact ⟨j + 1, s, ls, by go_num, by omega, Lib.hid (by rw [HA.out, h1]; rfl), Lib.hid (movAt_below HNY.out.1 (thenB HB2.out hb)), Lib.hid (HNY.out.2.below (thenB HB2.out hb)), Lib.hid (thenB hB.out (thenB HB2.out hb))⟩
    case measure => simp [intOf]; omega
   ·exact HP.out (by rw [HA.out, h1]; rfl) _ _ rfl (thenB hB.out (thenB HB2.out hb))
set_option maxRecDepth 100000 in
set_option maxHeartbeats 16000000 in
theorem ex_p3 (k n u : Int) (un : Nm) (ia : Option Addr) (ic l : Nat) (ma : Option Addr) (mc m : Nat) (X : Nat) (Q : Exit → Act → World → Prop) (W : World) (hX : W.heap[X]? = some (.cells #[.int .i64 k, .int .i64 n, sv un, .int .i64 u, .slice ia l ic, .slice ma m mc] 78 (0, 0))) (b : Bool) (C : ∀ V, Below W.heap.size W V → Calls Try.prog 66 #[.slice ia l ic] V (ExP b V)) (ms : List Mov) (ks : List Int) (hml : ms.length = m) (hm1 : ms = [] ∨ ma = some ⟨blk ma, off ma, none⟩) (hm2 : m ≤ maxLen) (hm3 : movAt W (blk ma) (off ma) ms) (hm4 : NsAt W (movRefs (blk ma) (off ma) ms) ks) (e0 e1 e2 e4 e5 e6 e7 e8 e9 e10 e11 e12 e13 e14 e15 e16 e17 e18 e19 e20 e21 e22 e23 e24 e25 e26 e27 e28 e29 e30 e31 e32 e33 e34 e35 e36 e37 e38 e39 e40 e41 e42 e43 e44 e45 e46 e47 e48 e49 e50 e51 e52 e53 e54 e55 e56 e57 e58 e59 e60 e61 : Value)
  (hN : ((decide (m = 0) || decide (k = 1)) && (ms.all movOk && b)) = true → ∀ (x5 x9 x10 x11 x12 x13 x14 x15 x16 x17 x18 x19 x20 x21 x22 x23 x24 x25 x26 x27 x28 x29 x30 x31 x32 x33 x34 x35 x36 x37 x38 x39 x40 x41 x42 x43 x44 x45 x46 x47 x48 x49 x50 x51 x52 x53 x54 x55 x56 x57 x58 x59 x60 x61 : Value) (V : World), Below W.heap.size W V → Q .normal { tmps := #[e0, e1, e2, .pointer (some ⟨X, 0, none⟩), e4, x5, e6, e7, e8, x9, x10, x11, x12, x13, x14, x15, x16, x17, x18, x19, x20, x21, x22, x23, x24, x25, x26, x27, x28, x29, x30, x31, x32, x33, x34, x35, x36, x37, x38, x39, x40, x41, x42, x43, x44, x45, x46, x47, x48, x49, x50, x51, x52, x53, x54, x55, x56, x57, x58, x59, x60, x61], defers := [] } V)
  (hP : ((decide (m = 0) || decide (k = 1)) && (ms.all movOk && b)) = false → ∀ (a : Act) (V : World), a.defers = [] → Below W.heap.size W V → Q (.panic wrongC) a V) :
  (lastPart 3 inner66).wp Try.prog Q { tmps := #[e0, e1, e2, .pointer (some ⟨X, 0, none⟩), e4, e5, e6, e7, e8, e9, e10, e11, e12, e13, e14, e15, e16, e17, e18, e19, e20, e21, e22, e23, e24, e25, e26, e27, e28, e29, e30, e31, e32, e33, e34, e35, e36, e37, e38, e39, e40, e41, e42, e43, e44, e45, e46, e47, e48, e49, e50, e51, e52, e53, e54, e55, e56, e57, e58, e59, e60, e61], defers := [] } W := by
 have y0 := cell_at hX 0 rfl; have y5 := cell_at hX 5 rfl
 have HE : Hid ((decide (m = 0) || decide (k = 1)) = true → ∀ (y5 y9 y10 y11 y12 y13 y14 y15 y16 y17 y18 y19 y20 y21 y22 y23 y24 y25 y26 y27 y28 y29 y30 y31 y32 y33 y34 y35 y36 y37 y38 y39 y40 y41 y42 y43 y44 y45 y46 y47 y48 y49 y50 y51 y52 y53 y54 y55 y56 y57 y58 y59 y60 y61 : Value), (lastPart 4 inner66).wp Try.prog Q { tmps := #[e0, e1, e2, .pointer (some ⟨X, 0, none⟩), e4, y5, e6, e7, e8, y9, y10, y11, y12, y13, y14, y15, y16, y17, y18, y19, y20, y21, y22, y23, y24, y25, y26, y27, y28, y29, y30, y31, y32, y33, y34, y35, y36, y37, y38, y39, y40, y41, y42, y43, y44, y45, y46, y47, y48, y49, y50, y51, y52, y53, y54, y55, y56, y57, y58, y59, y60, y61], defers := [] } W) := Lib.hid fun h y5 y9 y10 y11 y12 y13 y14 y15 y16 y17 y18 y19 y20 y21 y22 y23 y24 y25 y26 y27 y28 y29 y30 y31 y32 y33 y34 y35 y36 y37 y38 y39 y40 y41 y42 y43 y44 y45 y46 y47 y48 y49 y50 y51 y52 y53 y54 y55 y56 y57 y58 y59 y60 y61 => ex_p4 k n u un ia ic l ma mc m X Q W hX b C ms ks hml hm1 hm2 hm3 hm4 e0 e1 e2 e4 y5 e6 e7 e8 y9 y10 y11 y12 y13 y14 y15 y16 y17 y18 y19 y20 y21 y22 y23 y24 y25 y26 y27 y28 y29 y30 y31 y32 y33 y34 y35 y36 y37 y38 y39 y40 y41 y42 y43 y44 y45 y46 y47 y48 y49 y50 y51 y52 y53 y54 y55 y56 y57 y58 y59 y60 y61 (fun h2 => hN (by rw [h, h2]; rfl)) (fun h2 => hP (by rw [h, h2]; rfl))
 have HP : Hid ((decide (m = 0) || decide (k = 1)) = false → ∀ (a : Act), a.defers = [] → Q (.panic wrongC) a W) := Lib.hid fun h a hd => hP (by rw [h]; rfl) a W hd (Below.refl _ _)
 clear hX hN hP C hml hm1 hm2 hm3 hm4
 change Code.wp Try.prog (.seq elem66n3 (lastPart 4 inner66)) _ _ _
 refine wp_seq_thenQ (fun K hK => ?_)
 have HK := Lib.hid hK
 clear hK
 conv => arg 2; whnf
 by_cases hm0 : (m : Int) = 0
 ·have hg : (decide (m = 0) || decide (k = 1)) = true := by rw [decide_eq_true (by omega : m = 0)]; rfl
  have HG := Lib.hid hg
  clear hg
  go_wp2_with (go_at_call 63; first | (refine (demand_ok _).mono ?_; rintro e w2 ⟨rfl, rfl⟩) | (refine (demand_bad _).mono ?_; unfold wrongPanic; rintro e w2 ⟨rfl, rfl⟩) | (refine (demand_f (by simp only [Bool.or_eq_false_iff, beq_eq_false_iff_ne, ne_eq]; omega) _).mono ?_; unfold wrongPanic; rintro e w2 ⟨rfl, rfl⟩))
  refine HK.out _ _ ?_
  exact HE.out HG.out _ _ _ _ _ _ _ _ _ _ _ _ _ _ _ _ _ _ _ _ _ _ _ _ _ _ _ _ _ _ _ _ _ _ _ _ _ _ _ _ _ _ _ _ _ _ _ _ _ _ _ _ _ _
 ·by_cases hk1 : k = 1
  ·have hg : (decide (m = 0) || decide (k = 1)) = true := by rw [decide_eq_true hk1, Bool.or_true]
   have HG := Lib.hid hg
   clear hg
   go_wp2_with (go_at_call 63; first | (refine (demand_ok _).mono ?_; rintro e w2 ⟨rfl, rfl⟩) | (refine (demand_bad _).mono ?_; unfold wrongPanic; rintro e w2 ⟨rfl, rfl⟩) | (refine (demand_f (by simp only [Bool.or_eq_false_iff, beq_eq_false_iff_ne, ne_eq]; omega) _).mono ?_; unfold wrongPanic; rintro e w2 ⟨rfl, rfl⟩))
   refine HK.out _ _ ?_
   exact HE.out HG.out _ _ _ _ _ _ _ _ _ _ _ _ _ _ _ _ _ _ _ _ _ _ _ _ _ _ _ _ _ _ _ _ _ _ _ _ _ _ _ _ _ _ _ _ _ _ _ _ _ _ _ _ _ _
  ·have hg : (decide (m = 0) || decide (k = 1)) = false := by rw [decide_eq_false (by omega : ¬ m = 0), decide_eq_false hk1]; rfl
   have HG := Lib.hid hg
   clear hg
   go_wp2_with (go_at_call 63; first | (refine (demand_ok _).mono ?_; rintro e w2 ⟨rfl, rfl⟩) | (refine (demand_bad _).mono ?_; unfold wrongPanic; rintro e w2 ⟨rfl, rfl⟩) | (refine (demand_f (by simp only [Bool.or_eq_false_iff, beq_eq_false_iff_ne, ne_eq]; omega) _).mono ?_; unfold wrongPanic; rintro e w2 ⟨rfl, rfl⟩))
   refine HP.out HG.out _ ?_
   rfl
set_option maxRecDepth 100000 in
set_option maxHeartbeats 16000000 in
theorem ex_p2 (k n u : Int) (un : Nm) (ia : Option Addr) (ic l : Nat) (ma : Option Addr) (mc m : Nat) (X : Nat) (Q : Exit → Act → World → Prop) (W : World) (hX : W.heap[X]? = some (.cells #[.int .i64 k, .int .i64 n, sv un, .int .i64 u, .slice ia l ic, .slice ma m mc] 78 (0, 0))) (b : Bool) (C : ∀ V, Below W.heap.size W V → Calls Try.prog 66 #[.slice ia l ic] V (ExP b V)) (ms : List Mov) (ks : List Int) (hml : ms.length = m) (hm1 : ms = [] ∨ ma = some ⟨blk ma, off ma, none⟩) (hm2 : m ≤ maxLen) (hm3 : movAt W (blk ma) (off ma) ms) (hm4 : NsAt W (movRefs (blk ma) (off ma) ms) ks) (e0 e1 e2 e4 e5 e6 e7 e8 e9 e10 e11 e12 e13 e14 e15 e16 e17 e18 e19 e20 e21 e22 e23 e24 e25 e26 e27 e28 e29 e30 e31 e32 e33 e34 e35 e36 e37 e38 e39 e40 e41 e42 e43 e44 e45 e46 e47 e48 e49 e50 e51 e52 e53 e54 e55 e56 e57 e58 e59 e60 e61 : Value)
  (hN : ((decide (l = 0) || (decide (k = 2) || decide (k = 3))) && ((decide (m = 0) || decide (k = 1)) && (ms.all movOk && b))) = true → ∀ (x5 x9 x10 x11 x12 x13 x14 x15 x16 x17 x18 x19 x20 x21 x22 x23 x24 x25 x26 x27 x28 x29 x30 x31 x32 x33 x34 x35 x36 x37 x38 x39 x40 x41 x42 x43 x44 x45 x46 x47 x48 x49 x50 x51 x52 x53 x54 x55 x56 x57 x58 x59 x60 x61 : Value) (V : World), Below W.heap.size W V → Q .normal { tmps := #[e0, e1, e2, .pointer (some ⟨X, 0, none⟩), e4, x5, e6, e7, e8, x9, x10, x11, x12, x13, x14, x15, x16, x17, x18, x19, x20, x21, x22, x23, x24, x25, x26, x27, x28, x29, x30, x31, x32, x33, x34, x35, x36, x37, x38, x39, x40, x41, x42, x43, x44, x45, x46, x47, x48, x49, x50, x51, x52, x53, x54, x55, x56, x57, x58, x59, x60, x61], defers := [] } V)
  (hP : ((decide (l = 0) || (decide (k = 2) || decide (k = 3))) && ((decide (m = 0) || decide (k = 1)) && (ms.all movOk && b))) = false → ∀ (a : Act) (V : World), a.defers = [] → Below W.heap.size W V → Q (.panic wrongC) a V) :
  (lastPart 2 inner66).wp Try.prog Q { tmps := #[e0, e1, e2, .pointer (some ⟨X, 0, none⟩), e4, e5, e6, e7, e8, e9, e10, e11, e12, e13, e14, e15, e16, e17, e18, e19, e20, e21, e22, e23, e24, e25, e26, e27, e28, e29, e30, e31, e32, e33, e34, e35, e36, e37, e38, e39, e40, e41, e42, e43, e44, e45, e46, e47, e48, e49, e50, e51, e52, e53, e54, e55, e56, e57, e58, e59, e60, e61], defers := [] } W := by
 have y0 := cell_at hX 0 rfl; have y4 := cell_at hX 4 rfl
 have HE : Hid ((decide (l = 0) || (decide (k = 2) || decide (k = 3))) = true → ∀ (y5 y9 y10 y11 y12 y13 y14 y15 y16 y17 y18 y19 y20 y21 y22 y23 y24 y25 y26 y27 y28 y29 y30 y31 y32 y33 y34 y35 y36 y37 y38 y39 y40 y41 y42 y43 y44 y45 y46 y47 y48 y49 y50 y51 y52 y53 y54 y55 y56 y57 y58 y59 y60 y61 : Value), (lastPart 3 inner66).wp Try.prog Q { tmps := #[e0, e1, e2, .pointer (some ⟨X, 0, none⟩), e4, y5, e6, e7, e8, y9, y10, y11, y12, y13, y14, y15, y16, y17, y18, y19, y20, y21, y22, y23, y24, y25, y26, y27, y28, y29, y30, y31, y32, y33, y34, y35, y36, y37, y38, y39, y40, y41, y42, y43, y44, y45, y46, y47, y48, y49, y50, y51, y52, y53, y54, y55, y56, y57, y58, y59, y60, y61], defers := [] } W) := Lib.hid fun h y5 y9 y10 y11 y12 y13 y14 y15 y16 y17 y18 y19 y20 y21 y22 y23 y24 y25 y26 y27 y28 y29 y30 y31 y32 y33 y34 y35 y36 y37 y38 y39 y40 y41 y42 y43 y44 y45 y46 y47 y48 y49 y50 y51 y52 y53 y54 y55 y56 y57 y58 y59 y60 y61 => ex_p3 k n u un ia ic l ma mc m X Q W hX b C ms ks hml hm1 hm2 hm3 hm4 e0 e1 e2 e4 y5 e6 e7 e8 y9 y10 y11 y12 y13 y14 y15 y16 y17 y18 y19 y20 y21 y22 y23 y24 y25 y26 y27 y28 y29 y30 y31 y32 y33 y34 y35 y36 y37 y38 y39 y40 y41 y42 y43 y44 y45 y46 y47 y48 y49 y50 y51 y52 y53 y54 y55 y56 y57 y58 y59 y60 y61 (fun h2 => hN (by rw [h, h2]; rfl)) (fun h2 => hP (by rw [h, h2]; rfl))
 have HP : Hid ((decide (l = 0) || (decide (k = 2) || decide (k = 3))) = false → ∀ (a : Act), a.defers = [] → Q (.panic wrongC) a W) := Lib.hid fun h a hd => hP (by rw [h]; rfl) a W hd (Below.refl _ _)
 clear hX hN hP C hml hm1 hm2 hm3 hm4
 change Code.wp Try.prog (.seq elem66n2 (lastPart 3 inner66)) _ _ _
 refine wp_seq_thenQ (fun K hK => ?_)
 have HK := Lib.hid hK
 clear hK
 conv => arg 2; whnf
 by_cases hm0 : (l : Int) = 0
 ·have hg : (decide (l = 0) || (decide (k = 2) || decide (k = 3))) = true := by rw [decide_eq_true (by omega : l = 0)]; rfl
  have HG := Lib.hid hg
  clear hg
  go_wp2_with (go_at_call 63; first | (refine (demand_ok _).mono ?_; rintro e w2 ⟨rfl, rfl⟩) | (refine (demand_bad _).mono ?_; unfold wrongPanic; rintro e w2 ⟨rfl, rfl⟩) | (refine (demand_f (by simp only [Bool.or_eq_false_iff, beq_eq_false_iff_ne, ne_eq]; omega) _).mono ?_; unfold wrongPanic; rintro e w2 ⟨rfl, rfl⟩))
  refine HK.out _ _ ?_
  exact HE.out HG.out _ _ _ _ _ _ _ _ _ _ _ _ _ _ _ _ _ _ _ _ _ _ _ _ _ _ _ _ _ _ _ _ _ _ _ _ _ _ _ _ _ _ _ _ _ _ _ _ _ _ _ _ _ _
 ·by_cases hk2 : k = 2
  ·have hg : (decide (l = 0) || (decide (k = 2) || decide (k = 3))) = true := by rw [decide_eq_true hk2, Bool.true_or, Bool.or_true]
   have HG := Lib.hid hg
   clear hg
   go_wp2_with (go_at_call 63; first | (refine (demand_ok _).mono ?_; rintro e w2 ⟨rfl, rfl⟩) | (refine (demand_bad _).mono ?_; unfold wrongPanic; rintro e w2 ⟨rfl, rfl⟩) | (refine (demand_f (by simp only [Bool.or_eq_false_iff, beq_eq_false_iff_ne, ne_eq]; omega) _).mono ?_; unfold wrongPanic; rintro e w2 ⟨rfl, rfl⟩))
   refine HK.out _ _ ?_
   exact HE.out HG.out _ _ _ _ _ _ _ _ _ _ _ _ _ _ _ _ _ _ _ _ _ _ _ _ _ _ _ _ _ _ _ _ _ _ _ _ _ _ _ _ _ _ _ _ _ _ _ _ _ _ _ _ _ _
  ·by_cases hk3 : k = 3
   ·have hg : (decide (l = 0) || (decide (k = 2) || decide (k = 3))) = true := by rw [decide_eq_true hk3, Bool.or_true, Bool.or_true]
    have HG := Lib.hid hg
    clear hg
    go_wp2_with (go_at_call 63; first | (refine (demand_ok _).mono ?_; rintro e w2 ⟨rfl, rfl⟩) | (refine (demand_bad _).mono ?_; unfold wrongPanic; rintro e w2 ⟨rfl, rfl⟩) | (refine (demand_f (by simp only [Bool.or_eq_false_iff, beq_eq_false_iff_ne, ne_eq]; omega) _).mono ?_; unfold wrongPanic; rintro e w2 ⟨rfl, rfl⟩))
    refine HK.out _ _ ?_
    exact HE.out HG.out _ _ _ _ _ _ _ _ _ _ _ _ _ _ _ _ _ _ _ _ _ _ _ _ _ _ _ _ _ _ _ _ _ _ _ _ _ _ _ _ _ _ _ _ _ _ _ _ _ _ _ _ _ _
   ·have hg : (decide (l = 0) || (decide (k = 2) || decide (k = 3))) = false := by rw [decide_eq_false (by omega : ¬ l = 0), decide_eq_false hk2, decide_eq_false hk3]; rfl
    have HG := Lib.hid hg
    clear hg
    go_wp2_with (go_at_call 63; first | (refine (demand_ok _).mono ?_; rintro e w2 ⟨rfl, rfl⟩) | (refine (demand_bad _).mono ?_; unfold wrongPanic; rintro e w2 ⟨rfl, rfl⟩) | (refine (demand_f (by simp only [Bool.or_eq_false_iff, beq_eq_false_iff_ne, ne_eq]; omega) _).mono ?_; unfold wrongPanic; rintro e w2 ⟨rfl, rfl⟩))
    refine HP.out HG.out _ ?_
    rfl
set_option maxRecDepth 100000 in
set_option maxHeartbeats 16000000 in
theorem ex_p1 (k n u : Int) (un : Nm) (ia : Option Addr) (ic l : Nat) (ma : Option Addr) (mc m : Nat) (X : Nat) (Q : Exit → Act → World → Prop) (W : World) (hX : W.heap[X]? = some (.cells #[.int .i64 k, .int .i64 n, sv un, .int .i64 u, .slice ia l ic, .slice ma m mc] 78 (0, 0))) (b : Bool) (C : ∀ V, Below W.heap.size W V → Calls Try.prog 66 #[.slice ia l ic] V (ExP b V)) (ms : List Mov) (ks : List Int) (hml : ms.length = m) (hm1 : ms = [] ∨ ma = some ⟨blk ma, off ma, none⟩) (hm2 : m ≤ maxLen) (hm3 : movAt W (blk ma) (off ma) ms) (hm4 : NsAt W (movRefs (blk ma) (off ma) ms) ks) (e0 e1 e2 e4 e5 e6 e7 e8 e9 e10 e11 e12 e13 e14 e15 e16 e17 e18 e19 e20 e21 e22 e23 e24 e25 e26 e27 e28 e29 e30 e31 e32 e33 e34 e35 e36 e37 e38 e39 e40 e41 e42 e43 e44 e45 e46 e47 e48 e49 e50 e51 e52 e53 e54 e55 e56 e57 e58 e59 e60 e61 : Value)
  (hN : (numB k n && ((decide (l = 0) || (decide (k = 2) || decide (k = 3))) && ((decide (m = 0) || decide (k = 1)) && (ms.all movOk && b)))) = true → ∀ (x5 x9 x10 x11 x12 x13 x14 x15 x16 x17 x18 x19 x20 x21 x22 x23 x24 x25 x26 x27 x28 x29 x30 x31 x32 x33 x34 x35 x36 x37 x38 x39 x40 x41 x42 x43 x44 x45 x46 x47 x48 x49 x50 x51 x52 x53 x54 x55 x56 x57 x58 x59 x60 x61 : Value) (V : World), Below W.heap.size W V → Q .normal { tmps := #[e0, e1, e2, .pointer (some ⟨X, 0, none⟩), e4, x5, e6, e7, e8, x9, x10, x11, x12, x13, x14, x15, x16, x17, x18, x19, x20, x21, x22, x23, x24, x25, x26, x27, x28, x29, x30, x31, x32, x33, x34, x35, x36, x37, x38, x39, x40, x41, x42, x43, x44, x45, x46, x47, x48, x49, x50, x51, x52, x53, x54, x55, x56, x57, x58, x59, x60, x61], defers := [] } V)
  (hP : (numB k n && ((decide (l = 0) || (decide (k = 2) || decide (k = 3))) && ((decide (m = 0) || decide (k = 1)) && (ms.all movOk && b)))) = false → ∀ (a : Act) (V : World), a.defers = [] → Below W.heap.size W V → Q (.panic wrongC) a V) :
  (lastPart 1 inner66).wp Try.prog Q { tmps := #[e0, e1, e2, .pointer (some ⟨X, 0, none⟩), e4, e5, e6, e7, e8, e9, e10, e11, e12, e13, e14, e15, e16, e17, e18, e19, e20, e21, e22, e23, e24, e25, e26, e27, e28, e29, e30, e31, e32, e33, e34, e35, e36, e37, e38, e39, e40, e41, e42, e43, e44, e45, e46, e47, e48, e49, e50, e51, e52, e53, e54, e55, e56, e57, e58, e59, e60, e61], defers := [] } W := by
 have y0 := cell_at hX 0 rfl; have y1 := cell_at hX 1 rfl
 have HE : Hid (numB k n = true → ∀ (y5 y9 y10 y11 y12 y13 y14 y15 y16 y17 y18 y19 y20 y21 y22 y23 y24 y25 y26 y27 y28 y29 y30 y31 y32 y33 y34 y35 y36 y37 y38 y39 y40 y41 y42 y43 y44 y45 y46 y47 y48 y49 y50 y51 y52 y53 y54 y55 y56 y57 y58 y59 y60 y61 : Value), (lastPart 2 inner66).wp Try.prog Q { tmps := #[e0, e1, e2, .pointer (some ⟨X, 0, none⟩), e4, y5, e6, e7, e8, y9, y10, y11, y12, y13, y14, y15, y16, y17, y18, y19, y20, y21, y22, y23, y24, y25, y26, y27, y28, y29, y30, y31, y32, y33, y34, y35, y36, y37, y38, y39, y40, y41, y42, y43, y44, y45, y46, y47, y48, y49, y50, y51, y52, y53, y54, y55, y56, y57, y58, y59, y60, y61], defers := [] } W) := Lib.hid fun h y5 y9 y10 y11 y12 y13 y14 y15 y16 y17 y18 y19 y20 y21 y22 y23 y24 y25 y26 y27 y28 y29 y30 y31 y32 y33 y34 y35 y36 y37 y38 y39 y40 y41 y42 y43 y44 y45 y46 y47 y48 y49 y50 y51 y52 y53 y54 y55 y56 y57 y58 y59 y60 y61 => ex_p2 k n u un ia ic l ma mc m X Q W hX b C ms ks hml hm1 hm2 hm3 hm4 e0 e1 e2 e4 y5 e6 e7 e8 y9 y10 y11 y12 y13 y14 y15 y16 y17 y18 y19 y20 y21 y22 y23 y24 y25 y26 y27 y28 y29 y30 y31 y32 y33 y34 y35 y36 y37 y38 y39 y40 y41 y42 y43 y44 y45 y46 y47 y48 y49 y50 y51 y52 y53 y54 y55 y56 y57 y58 y59 y60 y61 (fun h2 => hN (by rw [h, h2]; rfl)) (fun h2 => hP (by rw [h, h2]; rfl))
 have HP : Hid (numB k n = false → ∀ (a : Act), a.defers = [] → Q (.panic wrongC) a W) := Lib.hid fun h a hd => hP (by rw [h]; rfl) a W hd (Below.refl _ _)
 clear hX hN hP C hml hm1 hm2 hm3 hm4
 change Code.wp Try.prog (.seq elem66n1 (lastPart 2 inner66)) _ _ _
 refine wp_seq_thenQ (fun K hK => ?_)
 have HK := Lib.hid hK
 clear hK
 conv => arg 2; whnf
 by_cases hk2 : k = 2
 ·have hg : numB k n = inB n 1 64 := by unfold numB; rw [if_pos hk2]
  obtain ⟨c, hc⟩ : ∃ c, inB n 1 64 = c := ⟨_, rfl⟩
  rw [hc] at hg
  have HG := Lib.hid hg; have HBB := Lib.hid hc
  clear hg hc
  cases c with
  | true =>
   go_wp2_with (first | (go_at_call 64; refine (rwithin_any _ _ _ _).mono ?_; rw [HBB.out]; rintro e w2 ⟨rfl, rfl⟩) | (go_at_call 63; first | (refine (demand_ok _).mono ?_; rintro e w2 ⟨rfl, rfl⟩) | (refine (demand_bad _).mono ?_; unfold wrongPanic; rintro e w2 ⟨rfl, rfl⟩) | (refine (demand_f (by simp only [Bool.or_eq_false_iff, beq_eq_false_iff_ne, ne_eq]; omega) _).mono ?_; unfold wrongPanic; rintro e w2 ⟨rfl, rfl⟩)))
   refine HK.out _ _ ?_
   exact HE.out HG.out _ _ _ _ _ _ _ _ _ _ _ _ _ _ _ _ _ _ _ _ _ _ _ _ _ _ _ _ _ _ _ _ _ _ _ _ _ _ _ _ _ _ _ _ _ _ _ _ _ _ _ _ _ _
  | false =>
   go_wp2_with (first | (go_at_call 64; refine (rwithin_any _ _ _ _).mono ?_; rw [HBB.out]; rintro e w2 ⟨rfl, rfl⟩) | (go_at_call 63; first | (refine (demand_ok _).mono ?_; rintro e w2 ⟨rfl, rfl⟩) | (refine (demand_bad _).mono ?_; unfold wrongPanic; rintro e w2 ⟨rfl, rfl⟩) | (refine (demand_f (by simp only [Bool.or_eq_false_iff, beq_eq_false_iff_ne, ne_eq]; omega) _).mono ?_; unfold wrongPanic; rintro e w2 ⟨rfl, rfl⟩)))
   refine HP.out HG.out _ ?_
   rfl
 ·by_cases hn0 : n = 0
  ·have hg : numB k n = true := by unfold numB; rw [if_neg hk2, decide_eq_true hn0]
   have HG := Lib.hid hg
   clear hg
   go_wp2_with (go_at_call 63; first | (refine (demand_ok _).mono ?_; rintro e w2 ⟨rfl, rfl⟩) | (refine (demand_bad _).mono ?_; unfold wrongPanic; rintro e w2 ⟨rfl, rfl⟩) | (refine (demand_f (by simp only [beq_eq_false_iff_ne, ne_eq]; omega) _).mono ?_; unfold wrongPanic; rintro e w2 ⟨rfl, rfl⟩))
   refine HK.out _ _ ?_
   exact HE.out HG.out _ _ _ _ _ _ _ _ _ _ _ _ _ _ _ _ _ _ _ _ _ _ _ _ _ _ _ _ _ _ _ _ _ _ _ _ _ _ _ _ _ _ _ _ _ _ _ _ _ _ _ _ _ _
  ·have hg : numB k n = false := by unfold numB; rw [if_neg hk2, decide_eq_false hn0]
   have HG := Lib.hid hg
   clear hg
   go_wp2_with (go_at_call 63; first | (refine (demand_ok _).mono ?_; rintro e w2 ⟨rfl, rfl⟩) | (refine (demand_bad _).mono ?_; unfold wrongPanic; rintro e w2 ⟨rfl, rfl⟩) | (refine (demand_f (by simp only [beq_eq_false_iff_ne, ne_eq]; omega) _).mono ?_; unfold wrongPanic; rintro e w2 ⟨rfl, rfl⟩))
   refine HP.out HG.out _ ?_
   rfl
set_option maxRecDepth 100000 in
set_option maxHeartbeats 16000000 in
theorem exIt_step (T : Lt) (hI : ∀ T' : Lt, T'.size < T.size → ∀ (ia : Option Addr) (ic : Nat) (ns : List Int) (W : World), (T'.len = 0 ∨ ia = some ⟨blk ia, off ia, none⟩) → T'.len ≤ maxLen → T'.At W (blk ia) (off ia) → NsAt W (T'.refsL (blk ia) (off ia)) ns → Calls Try.prog 66 #[.slice ia T'.len ic] W (ExP T'.strip.exB W))
  (ia : Option Addr) (ic : Nat) (ns : List Int) (W : World) (hf : T.len = 0 ∨ ia = some ⟨blk ia, off ia, none⟩) (hl : T.len ≤ maxLen) (hT : T.At W (blk ia) (off ia)) (hN : NsAt W (T.refsL (blk ia) (off ia)) ns) : Calls Try.prog 66 #[.slice ia T.len ic] W (ExP T.strip.exB W) := by
 have HI := Lib.hid hI; have HT := Lib.hid hT; have HF := Lib.hid hf; have HNS := Lib.hid hN
 clear hI hT hf hN
 generalize hn : T.len = m at *
 have HN := Lib.hid hn
 clear hn
 unfold maxLen at hl
 go_enter Try.func66, Try.ntmps66
 go_wp2_with fail
 go_loopw [8] (fun iv wr => ∃ (i : Nat) (R : Lt) (ks : List Int), iv = .int .i64 i ∧ i + R.len = m ∧ Hid (R.size ≤ T.size) ∧ Hid (T.strip.exB = R.strip.exB) ∧ Hid (R.At wr (blk ia) (off ia + i * 6)) ∧ Hid (NsAt wr (R.refsL (blk ia) (off ia + i * 6)) ks) ∧ Hid (Below W.heap.size W wr)) (fun iv _ => m + 1 - (intOf iv).toNat)
 case atStart => exact ⟨0, T, ns, rfl, by rw [HN.out]; omega, Lib.hid (Nat.le_refl _), Lib.hid rfl, by simpa [Hid] using HT.out, by simpa [Hid] using HNS.out, Lib.hid (Below.refl _ _)⟩
 case round =>
  obtain ⟨i, R, ks, rfl, hin, hsz, hex, hR, hK, hB⟩ := hrel
  cases R with
  | nil =>
   simp only [Lt.len, Nat.add_zero] at hin
   subst hin
   go_wp2_with fail
   go_end0
   exact ⟨Or.inl ⟨hex.out, rfl⟩, hB.out⟩
  | cons k n un ja jc its ma mc ms r =>
   simp only [Lt.len] at hin
   have hi : (i : Int) < (m : Int) := by omega
   have e := HF.out.resolve_left (by omega)
   obtain ⟨u, g0, g1, g2, g3, g4, g5, m1, m2, m3, hns2, k1, k2, k3⟩ := Lt.At.cells hR.out hK.out
   obtain ⟨_, ⟨f1, f2, f3⟩, ⟨i1, i2, i3⟩, hr⟩ := hR.out
   have hlt : its.size < T.size := by have := hsz.out; simp only [Lt.size] at this; omega
   have hszr : r.size ≤ T.size := by have := hsz.out; simp only [Lt.size] at this; omega
   obtain ⟨W2, hW2, gW2, bW2, sW2⟩ := mk_cells wr #[.int .i64 k, .int .i64 n, sv un, .int .i64 u, .slice ja its.len jc, .slice ma ms.length mc] 78
   have C := fun (V : World) (hv : Below W2.heap.size W2 V) => HI.out its hlt ja jc m2 V i1 i2 (i3.below (thenB bW2 hv)) (k2.below (thenB bW2 hv))
   have hx : T.strip.exB = (numB k n && ((decide (its.len = 0) || (decide (k = 2) || decide (k = 3))) && ((decide (ms.length = 0) || decide (k = 1)) && ((ms.all movOk && its.strip.exB) && r.strip.exB)))) := by
    rw [hex.out]
    simp only [Lt.strip, Its.exB, Lt.strip_len]
   have HC := Lib.hid C; have HX := Lib.hid hx; have HG2 := Lib.hid gW2; have HB2 := Lib.hid bW2; have HW2 := Lib.hid hW2
   have HMV := Lib.hid (And.intro f1 (And.intro f2 (And.intro (movAt_below f3 bW2) (k1.below bW2))))
   have HR : Hid (r.At wr (blk ia) (off ia + (i + 1) * 6) ∧ NsAt wr (r.refsL (blk ia) (off ia + (i + 1) * 6)) m3) := Lib.hid (by
    rw [show off ia + (i + 1) * 6 = off ia + i * 6 + 6 by omega]
    exact ⟨hr, k3⟩)
   have hone : (#[.int .i64 k, .int .i64 n, sv un, .int .i64 u, .slice ja its.len jc, .slice ma ms.length mc] : Array Value).all (·.oneCell') = true := by simp [Value.oneCell']
   have HONE := Lib.hid hone; have HSZ := Lib.hid hszr
   clear C hx gW2 bW2 sW2 hW2 f1 f2 f3 i1 i2 i3 hr hlt k1 k2 k3 hns2 hR hK hex hsz hone hszr
   generalize hbb : blk ia = bb at *
   generalize hoo : off ia = oo at *
   subst e
   clear hbb hoo HF
   refine wp_seq_thenQ (fun K1 hK => ?_)
   have HK1 := Lib.hid hK
   clear hK
   go_wp2_with fail
   refine HK1.out _ _ ?_
   clear HK1 K1
   refine wp_seq_thenQ (fun K2 hK => ?_)
   have HK2 := Lib.hid hK
   clear hK
   go_wp2_with fail
   refine HK2.out _ _ ?_
   clear HK2 K2
   refine wp_seq_thenQ (fun K3 hK => ?_)
   have HK3 := Lib.hid hK
   clear hK
   refine wp_block ?_
   refine wp_seq_thenQ (fun K4 hK => ?_)
   have HK4 := Lib.hid hK
   clear hK
   go_wp2_with fail
   refine HK4.out _ _ ?_
   clear HK4 K4
   rw [HW2.out]
   change Code.wp Try.prog (lastPart 1 inner66) _ _ _
   refine ex_p1 k n u un ja jc its.len ma mc ms.length wr.heap.size _ W2 HG2.out its.strip.exB HC.out ms m1 rfl HMV.out.1 HMV.out.2.1 HMV.out.2.2.1 HMV.out.2.2.2 _ _ _ _ _ _ _ _ _ _ _ _ _ _ _ _ _ _ _ _ _ _ _ _ _ _ _ _ _ _ _ _ _ _ _ _ _ _ _ _ _ _ _ _ _ _ _ _ _ _ _ _ _ _ _ _ _ _ _ _ _ (fun hc => ?_) (fun hc => ?_)
   ·intros
    rename_i V hv
    refine HK3.out _ _ ?_
    have hx2 : T.strip.exB = r.strip.exB := by
     rw [HX.out]
     simp only [Bool.and_eq_true] at hc
     obtain ⟨h1, h2, h3, h4⟩ := hc
     rw [h1, h2, h3, h4.1, h4.2]
     rfl
    have HX2 := Lib.hid hx2
    have HV := Lib.hid (thenB HB2.out hv)
    clear hx2 hv hc HX
    go_wp2_with fail
    go_roundw
    case rel => exact ⟨i + 1, r, m3, by go_num, by omega, HSZ, HX2, Lib.hid (HR.out.1.below HV.out), Lib.hid (HR.out.2.below HV.out), Lib.hid (thenB hB.out HV.out)⟩
    case measure => simp [intOf]; omega
   ·intro a V hd hv
    have hx2 : T.strip.exB = false := by
     rw [HX.out]
     generalize its.strip.exB = q1 at hc
     generalize r.strip.exB = q2
     generalize numB k n = q3 at hc
     generalize (decide (its.len = 0) || (decide (k = 2) || decide (k = 3))) = q4 at hc
     generalize (decide (ms.length = 0) || decide (k = 1)) = q5 at hc
     generalize ms.all movOk = q6 at hc
     revert hc
     cases q1 <;> cases q2 <;> cases q3 <;> cases q4 <;> cases q5 <;> cases q6 <;> decide
    exact ⟨hd, Or.inr ⟨hx2, rfl⟩, thenB hB.out (thenB HB2.out hv)⟩
theorem exIt_any : ∀ (s : Nat) (T : Lt), T.size ≤ s → ∀ (ia : Option Addr) (ic : Nat) (ns : List Int) (W : World), (T.len = 0 ∨ ia = some ⟨blk ia, off ia, none⟩) → T.len ≤ maxLen → T.At W (blk ia) (off ia) → NsAt W (T.refsL (blk ia) (off ia)) ns → Calls Try.prog 66 #[.slice ia T.len ic] W (ExP T.strip.exB W) := by
 intro s
 induction s with
 | zero => intro T hs; exact exIt_step T (fun T' hlt => absurd hlt (by omega))
 | succ s ih => intro T hs; exact exIt_step T (fun T' hlt => ih T' (by omega))
end Go.Proofs.Ytpnbpepkoekkoaa
end
section
namespace Go.Proofs.Ytpnbpepkoekkoaa
open Go Go.RowKit
set_option maxRecDepth 100000 in
set_option maxHeartbeats 1000000 in
theorem put_any (k : Int) (N I G i n c m : Nat) (ks : List Int) (W : World) (hin : i < n) (_hn : n ≤ maxLen) (hN : W.heap[N]? = some (.cells #[.slice (some ⟨G, 0, none⟩) n c] 136 (0, 0))) (hI : W.heap[I]? = some (.cells #[.int .i64 i] 3 (0, 0))) (hG : W.cell? ⟨G, i, none⟩ = some (.map (some m))) (hS : SetB W m ks) :
  Calls Try.prog 85 #[.int .i64 k, .pointer (some ⟨N, 0, none⟩), .pointer (some ⟨I, 0, none⟩)] W fun e W' => e = .returned (.tuple #[]) ∧ SetB W' m (setPut ks k) ∧ W.grownBy W' (some m) ∧ W'.heap.size = W.heap.size := by
 obtain ⟨W', hrun, h1, h2, h3, h4⟩ := hS.put (P := Try.prog) (T := 137) Try.underlying137 Try.underlying3 k
 have y0 := cell_at hN 0 rfl; have y1 := cell_at hI 0 rfl
 unfold maxLen at _hn
 have HS : Hid (SetB W' m (setPut ks k)) := Lib.hid h1
 have HG : Hid (W.grownBy W' (some m)) := Lib.hid ⟨(h4 0 (Nat.zero_le _)).os, (h4 0 (Nat.zero_le _)).tape, (h4 0 (Nat.zero_le _)).output, Nat.le_of_eq h3.symm, fun c _ hc => h2 c (fun e => hc (by rw [e]))⟩
 have HZ := Lib.hid h3
 clear h1 h2 h3 h4 hN hI hS
 have hi : (i : Int) < (n : Int) := by omega
 go_enter Try.func85, Try.ntmps85
 go_wp2_with fail
 go_end0
 exact ⟨rfl, HS.out, HG.out, HZ.out⟩
def Its.uses (f : Nm → Int) : Its → List Int
 | .nil => []
 | .cons k _ un its _ r => (if k = 4 then [f un] else []) ++ (its.uses f ++ r.uses f)
def NumAt (f : Nm → Int) (w : World) (xs : List RefL) : Prop := ∀ x ∈ xs, ∃ n, w.cell? ⟨x.b, x.o + 1, none⟩ = some (.int .i64 n) ∧ (x.to = 2 → n = f x.nm)
theorem NumAt.ns {f : Nm → Int} {w : World} : ∀ {xs : List RefL}, NumAt f w xs → ∃ ns, NsAt w xs ns
 | [], _ => ⟨[], trivial⟩
 | x :: xs, h => by
  obtain ⟨n, h1, _⟩ := h x (by simp)
  obtain ⟨ns, h2⟩ := NumAt.ns (xs := xs) (fun y hy => h y (by simp [hy]))
  exact ⟨n :: ns, h1, h2⟩
def IsMap (w : World) (m : Nat) : Prop := ∃ es c, w.heap[m]? = some (.map es c)
theorem SetB.isMap {w : World} {m : Nat} {ks : List Int} (h : SetB w m ks) : IsMap w m := by
 obtain ⟨es, c, h1, _⟩ := h.stamp; exact ⟨es, c, h1⟩
theorem cell_no_map {w : World} {a : Addr} {v : Value} {m : Nat} (h : w.cell? a = some v) (hm : IsMap w m) : a.block ≠ m := by
 rintro rfl
 obtain ⟨es, c, h1⟩ := hm
 unfold World.cell? at h
 rw [h1] at h
 cases h
theorem grown_cell {w w' : World} {a : Addr} {v : Value} {m : Nat} (h : w.cell? a = some v) (hm : IsMap w m) (hg : w.grownBy w' (some m)) : w'.cell? a = some v := by
 have := hg.block a.block (cell_lt h) (fun e => cell_no_map h hm (by cases e; rfl))
 rw [← h]
 unfold World.cell?
 rw [this]
theorem grown_obj {w w' : World} {b m : Nat} {cs : Array Value} {t : TypeId} (h : w.heap[b]? = some (.cells cs t (0, 0))) (hm : IsMap w m) (hg : w.grownBy w' (some m)) : w'.heap[b]? = some (.cells cs t (0, 0)) :=
 (hg.block b (Array.getElem?_eq_some_iff.1 h).1 (fun e => by cases e; obtain ⟨es, c, h1⟩ := hm; rw [h1] at h; cases h)).trans h
theorem NumAt.grown {f : Nm → Int} {w w' : World} {xs : List RefL} {m : Nat} (h : NumAt f w xs) (hm : IsMap w m) (hg : w.grownBy w' (some m)) : NumAt f w' xs := fun x hx => by
 obtain ⟨n, h1, h2⟩ := h x hx; exact ⟨n, grown_cell h1 hm hg, h2⟩
theorem NumAt.below {f : Nm → Int} {w w' : World} {xs : List RefL} (h : NumAt f w xs) (hb : Below w.heap.size w w') : NumAt f w' xs := fun x hx => by
 obtain ⟨n, h1, h2⟩ := h x hx; exact ⟨n, keep_cell hb h1, h2⟩
theorem Lt.At.grown {w w' : World} {T : Lt} {b o m : Nat} (h : T.At w b o) (hm : IsMap w m) (hg : w.grownBy w' (some m)) : T.At w' b o :=
 h.kept (fun _ _ _ h => grown_cell h hm hg) (fun _ _ _ _ h => grown_cell h hm hg)
structure RingC (W : World) (N I G i n c m : Nat) (ks : List Int) : Prop where
 box : W.heap[N]? = some (.cells #[.slice (some ⟨G, 0, none⟩) n c] 136 (0, 0))
 idx : W.heap[I]? = some (.cells #[.int .i64 i] 3 (0, 0))
 at_ : W.cell? ⟨G, i, none⟩ = some (.map (some m))
 set_ : SetB W m ks
theorem RingC.kept {W W' : World} {N I G i n c m : Nat} {ks ks' : List Int} (h : RingC W N I G i n c m ks) (hg : W.grownBy W' (some m)) (hs : SetB W' m ks') : RingC W' N I G i n c m ks' :=
 ⟨grown_obj h.box h.set_.isMap hg, grown_obj h.idx h.set_.isMap hg, grown_cell h.at_ h.set_.isMap hg, hs⟩
theorem RingC.below {W W' : World} {N I G i n c m : Nat} {ks : List Int} (h : RingC W N I G i n c m ks) (hb : Below W.heap.size W W') : RingC W' N I G i n c m ks :=
 ⟨keepO hb h.box, keepO hb h.idx, keep_cell hb h.at_, h.set_.below hb h.set_.lt⟩
theorem put_ring (k : Int) {N I G i n c m : Nat} {ks : List Int} {W : World} (hin : i < n) (hn : n ≤ maxLen) (h : RingC W N I G i n c m ks) :
  Calls Try.prog 85 #[.int .i64 k, .pointer (some ⟨N, 0, none⟩), .pointer (some ⟨I, 0, none⟩)] W fun e W' => e = .returned (.tuple #[]) ∧ RingC W' N I G i n c m (setPut ks k) ∧ W.grownBy W' (some m) ∧ W'.heap.size = W.heap.size :=
 (put_any k N I G i n c m ks W hin hn h.box h.idx h.at_ h.set_).mono fun _ _ ⟨h1, h2, h3, h4⟩ => ⟨h1, h.kept h3 h2, h3, h4⟩
abbrev lit85 (N I : Nat) : Value := .func (.func 85) #[] #[.pointer (some ⟨N, 0, none⟩), .pointer (some ⟨I, 0, none⟩)]
def UseP (f : Nm → Int) (T : Lt) (N I G i n c m : Nat) (ks : List Int) (W : World) (e : Ending) (W' : World) : Prop := e = .returned (.tuple #[]) ∧ RingC W' N I G i n c m ((T.strip.uses f).foldl setPut ks) ∧ W.grownBy W' (some m)
theorem NumAt.mov {f : Nm → Int} {w : World} {k n : Int} {un : Nm} {ia : Option Addr} {ic : Nat} {its : Lt} {ma : Option Addr} {mc : Nat} {ms : List Mov} {r : Lt} {b o : Nat} (h : NumAt f w ((Lt.cons k n un ia ic its ma mc ms r).refsL b o)) :
  (∃ u, w.cell? ⟨b, o + 3, none⟩ = some (.int .i64 u) ∧ (k = 4 → u = f un)) ∧ NumAt f w (movRefs (blk ma) (off ma) ms) ∧ NumAt f w (its.refsL (blk ia) (off ia)) ∧ NumAt f w (r.refsL b (o + 6)) := by
 refine ⟨?_, fun x hx => h x (by simp [Lt.refsL, hx]), fun x hx => h x (by simp [Lt.refsL, hx]), fun x hx => h x (by simp [Lt.refsL, hx])⟩
 obtain ⟨u, h1, h2⟩ := h ⟨b, o + 2, itemTo k, un⟩ (by simp [Lt.refsL])
 exact ⟨u, h1, fun hk => h2 (by simp [itemTo, hk])⟩
theorem grown_alloc {w w2 w' : World} {m : Nat} (hb : Below w.heap.size w w2) (hg : w2.grownBy w' (some m)) : w.grownBy w' (some m) :=
 ⟨hg.os.trans hb.os, hg.tape.trans hb.tape, hg.output.trans hb.output, Nat.le_trans hb.size hg.size, fun k hk hn => (hg.block k (Nat.lt_of_lt_of_le hk hb.size) hn).trans (hb.block k hk)⟩
theorem grown_two {w w2 w' : World} {m : Nat} (hb : w.grownBy w2 (some m)) (hg : w2.grownBy w' (some m)) : w.grownBy w' (some m) :=
 ⟨hg.os.trans hb.os, hg.tape.trans hb.tape, hg.output.trans hb.output, Nat.le_trans hb.size hg.size, fun k hk hn => (hg.block k (Nat.lt_of_lt_of_le hk hb.size) hn).trans (hb.block k hk hn)⟩
set_option maxRecDepth 100000 in
set_option maxHeartbeats 8000000 in
theorem uses_step (f : Nm → Int) (N I G i n c m : Nat) (hin : i < n) (hn : n ≤ maxLen) (T : Lt)
  (hI : ∀ T' : Lt, T'.size < T.size → ∀ (ia : Option Addr) (ic : Nat) (ks : List Int) (W : World), (T'.len = 0 ∨ ia = some ⟨blk ia, off ia, none⟩) → T'.len ≤ maxLen → T'.At W (blk ia) (off ia) → NumAt f W (T'.refsL (blk ia) (off ia)) → RingC W N I G i n c m ks → Calls Try.prog 84 #[.slice ia T'.len ic, lit85 N I] W (UseP f T' N I G i n c m ks W))
  (ia : Option Addr) (ic : Nat) (ks : List Int) (W : World) (hf : T.len = 0 ∨ ia = some ⟨blk ia, off ia, none⟩) (hl : T.len ≤ maxLen) (hT : T.At W (blk ia) (off ia)) (hU : NumAt f W (T.refsL (blk ia) (off ia))) (hC : RingC W N I G i n c m ks) : Calls Try.prog 84 #[.slice ia T.len ic, lit85 N I] W (UseP f T N I G i n c m ks W) := by
 have HI := Lib.hid hI; have HT := Lib.hid hT; have HF := Lib.hid hf; have HU := Lib.hid hU; have HC := Lib.hid hC
 have CP := fun (k : Int) (ks : List Int) (V : World) (h : RingC V N I G i n c m ks) => put_ring k hin hn h
 have HCP := Lib.hid CP
 clear hI hT hf hU hC CP
 generalize hm : T.len = q at *
 have HM := Lib.hid hm
 clear hm
 unfold maxLen at hl
 go_enter Try.func84, Try.ntmps84
 go_wp2_with fail
 go_loopw [8] (fun iv wr => ∃ (j : Nat) (R : Lt) (us : List Int), iv = .int .i64 j ∧ j + R.len = q ∧ Hid (R.size ≤ T.size) ∧ Hid ((T.strip.uses f).foldl setPut ks = (R.strip.uses f).foldl setPut us) ∧ Hid (R.At wr (blk ia) (off ia + j * 6)) ∧ Hid (NumAt f wr (R.refsL (blk ia) (off ia + j * 6))) ∧ Hid (RingC wr N I G i n c m us) ∧ Hid (W.grownBy wr (some m))) (fun iv _ => q + 1 - (intOf iv).toNat)
 case atStart => exact ⟨0, T, ks, rfl, by rw [HM.out]; omega, Lib.hid (Nat.le_refl _), Lib.hid rfl, by simpa [Hid] using HT.out, by simpa [Hid] using HU.out, HC, Lib.hid (World.grownBy.refl _ _)⟩
 case round =>
  obtain ⟨j, R, us, rfl, hin, hsz, hus, hR, hK, hC, hB⟩ := hrel
  cases R with
  | nil =>
   simp only [Lt.len, Nat.add_zero] at hin
   subst hin
   go_wp2_with fail
   go_end0
   refine ⟨rfl, ?_, hB.out⟩
   rw [hus.out]
   exact hC.out
  | cons kk nn un ja jc its ma mc ms r =>
   simp only [Lt.len] at hin
   have hi : (j : Int) < (q : Int) := by omega
   have e := HF.out.resolve_left (by omega)
   obtain ⟨⟨u, g3, hu⟩, _, k2, k3⟩ := hK.out.mov
   obtain ⟨⟨g0, g1, g2, g4, g5⟩, _, ⟨i1, i2, i3⟩, hr⟩ := hR.out
   have hlt : its.size < T.size := by have := hsz.out; simp only [Lt.size] at this; omega
   have hszr : r.size ≤ T.size := by have := hsz.out; simp only [Lt.size] at this; omega
   obtain ⟨W2, hW2, gW2, bW2, sW2⟩ := mk_cells wr #[.int .i64 kk, .int .i64 nn, sv un, .int .i64 u, .slice ja its.len jc, .slice ma ms.length mc] 78
   have hC2 := hC.out.below bW2
   have hg0 := hB.out
   have hM2 := hC2.set_.isMap
   have hMr := hC.out.set_.isMap
   -- the call of itself, from whatever world behind the box
   have C := fun (V : World) (us : List Int) (hv : W2.grownBy V (some m)) (hc : RingC V N I G i n c m us) => HI.out its hlt ja jc us V i1 i2 ((i3.below bW2).grown hM2 hv) ((k2.below bW2).grown hM2 hv) hc
   have HC' := Lib.hid C
   have hx : (T.strip.uses f).foldl setPut ks = (r.strip.uses f).foldl setPut ((its.strip.uses f).foldl setPut ((if kk = 4 then [f un] else []).foldl setPut us)) := by
    rw [hus.out]; simp only [Lt.strip, Its.uses, List.foldl_append]
   have HX := Lib.hid hx
   have HR : Hid (r.At wr (blk ia) (off ia + (j + 1) * 6) ∧ NumAt f wr (r.refsL (blk ia) (off ia + (j + 1) * 6))) := Lib.hid (by
    rw [show off ia + (j + 1) * 6 = off ia + j * 6 + 6 by omega]
    exact ⟨hr, k3⟩)
   have y0 := cell_at gW2 0 rfl; have y3 := cell_at gW2 3 rfl; have y4 := cell_at gW2 4 rfl
   have HG2 := Lib.hid gW2; have HB2 := Lib.hid bW2; have HC2 := Lib.hid hC2; have HM2 := Lib.hid hM2; have HSZ := Lib.hid hszr; have HMr := Lib.hid hMr
   clear C hx gW2 bW2 sW2 i1 i2 i3 hr hlt k2 k3 hR hK hus hsz hszr hC2 hM2 hMr hg0 hC
   generalize hbb : blk ia = bb at *
   generalize hoo : off ia = oo at *
   subst e
   clear hbb hoo HF
   by_cases h4 : kk = 4
   ·subst h4
    have hu' := hu rfl
    have HU' := Lib.hid hu'
    have HX2 : Hid ((T.strip.uses f).foldl setPut ks = (r.strip.uses f).foldl setPut ((its.strip.uses f).foldl setPut (setPut us u))) := Lib.hid (by rw [HX.out, if_pos rfl, ← hu']; rfl)
    clear hu' hu
    go_wp2_with (first
     | (go_at_call 85; refine (HCP.out _ _ _ HC2.out).mono ?_; rintro e V ⟨rfl, hv1, hv2, hv3⟩; have HV1 := Lib.hid hv1; have HV2 := Lib.hid hv2; have z4 := grown_cell y4 HM2.out hv2; clear hv1 hv2 hv3)
     | (go_at_call 84; refine (HC'.out _ _ HV2.out HV1.out).mono ?_; rintro e V2 ⟨rfl, hv4, hv5⟩; have HV4 := Lib.hid hv4; have HV5 := Lib.hid hv5; clear hv4 hv5))
    have hgr := grown_alloc HB2.out (grown_two HV2.out HV5.out)
    go_roundw
    case rel => exact ⟨j + 1, r, _, by go_num, by omega, HSZ, HX2, Lib.hid (HR.out.1.grown HMr.out hgr), Lib.hid (HR.out.2.grown HMr.out hgr), HV4, Lib.hid (grown_two hB.out hgr)⟩
    case measure => simp [intOf]; omega
   ·have HX2 : Hid ((T.strip.uses f).foldl setPut ks = (r.strip.uses f).foldl setPut ((its.strip.uses f).foldl setPut us)) := Lib.hid (by rw [HX.out, if_neg h4]; rfl)
    clear hu
    go_wp2_with (first
     | (go_at_call 84; refine (HC'.out _ _ (World.grownBy.refl _ _) HC2.out).mono ?_; rintro e V2 ⟨rfl, hv4, hv5⟩; have HV4 := Lib.hid hv4; have HV5 := Lib.hid hv5; clear hv4 hv5))
    have hgr := grown_alloc HB2.out HV5.out
    go_roundw
    case rel => exact ⟨j + 1, r, _, by go_num, by omega, HSZ, HX2, Lib.hid (HR.out.1.grown HMr.out hgr), Lib.hid (HR.out.2.grown HMr.out hgr), HV4, Lib.hid (grown_two hB.out hgr)⟩
    case measure => simp [intOf]; omega
theorem uses_any (f : Nm → Int) (N I G i n c m : Nat) (hin : i < n) (hn : n ≤ maxLen) : ∀ (s : Nat) (T : Lt), T.size ≤ s → ∀ (ia : Option Addr) (ic : Nat) (ks : List Int) (W : World), (T.len = 0 ∨ ia = some ⟨blk ia, off ia, none⟩) → T.len ≤ maxLen → T.At W (blk ia) (off ia) → NumAt f W (T.refsL (blk ia) (off ia)) → RingC W N I G i n c m ks → Calls Try.prog 84 #[.slice ia T.len ic, lit85 N I] W (UseP f T N I G i n c m ks W) := by
 intro s
 induction s with
 | zero => intro T hs; exact uses_step f N I G i n c m hin hn T (fun T' hlt => absurd hlt (by omega))
 | succ s ih => intro T hs; exact uses_step f N I G i n c m hin hn T (fun T' hlt => ih T' (by omega))
end Go.Proofs.Ytpnbpepkoekkoaa
end
section
namespace Go.Proofs.Ytpnbpepkoekkoaa
open Go Go.RowKit
theorem info137 : (Try.prog.info? 137).map (fun i => (i.zero, i.size, i.bytes)) = some (some (.map none), 1, 8) := by kernel_rfl
theorem made_1 (v : Value) (n : Nat) : madeCells #[v] n = (List.replicate n v).toArray := by
 unfold madeCells
 apply Array.ext
 ·simp
 ·intro j h1 h2
  simp [Nat.mod_one]
theorem make_maps (m : Nat) (hm : m ≤ 1000) (w : World) : (Instr.makeSlice 136 (.int .i64 m) (.int .i64 m)).run Try.prog w = .ok (.slice (some ⟨w.heap.size, 0, none⟩) m m) (w.alloc (.cells (Array.replicate m (.map none)) 137)) := by
 obtain ⟨i, h1, h2, h3, h4⟩ := info_parts info137
 have h := run_make (P := Try.prog) w 136 137 i (.map none) Try.underlying136 h1 h2 .i64 .i64 m m (by omega) (Int.le_refl _) (by rw [h4]; omega) (by omega)
 rw [h, h3]
 simp [Value.cells, made_1]
def rowM (n : Nat) (ms : List Nat) : Array Value := ((List.range n).map fun j => Value.map ms[j]?).toArray
theorem rowM_zero (n : Nat) : Array.replicate n (Value.map none) = rowM n [] := by
 unfold rowM
 apply Array.ext
 ·simp
 ·intro j h1 h2
  simp
theorem rowM_get {n : Nat} (ms : List Nat) {j : Nat} (h : j < n) : (rowM n ms)[j]? = some (.map ms[j]?) := by
 unfold rowM
 simp [h]
theorem rowM_size (n : Nat) (ms : List Nat) : (rowM n ms).size = n := by simp [rowM]
theorem rowM_push (n : Nat) (ms : List Nat) (m : Nat) (h : ms.length < n) : (rowM n ms).setIfInBounds ms.length (.map (some m)) = rowM n (ms ++ [m]) := by
 apply Array.ext
 ·simp [rowM_size]
 ·intro j h1 h2
  have hj : j < n := by simpa [rowM_size] using h2
  have e2 : (rowM n (ms ++ [m]))[j]? = some (.map (ms ++ [m])[j]?) := rowM_get _ hj
  have e1 : ((rowM n ms).setIfInBounds ms.length (.map (some m)))[j]? = some (.map (ms ++ [m])[j]?) := by
   rw [Array.getElem?_setIfInBounds]
   by_cases he : ms.length = j
   ·rw [if_pos he, if_pos (by rw [rowM_size]; omega)]
    subst he
    simp
   ·rw [if_neg he, rowM_get ms hj]
    rcases Nat.lt_or_ge j ms.length with h3 | h3
    ·rw [List.getElem?_append_left h3]
    ·rw [List.getElem?_append_right h3, List.getElem?_eq_none h3, List.getElem?_eq_none (by simp; omega)]
  rw [Array.getElem?_eq_getElem h1] at e1
  rw [Array.getElem?_eq_getElem h2] at e2
  exact Option.some.inj (e1.trans e2.symm)
structure RgS (s : Ls) (f : Nm → Int) (B : Nat) (W : World) : Prop where
 at_ : s.At W
 box : W.heap[B]? = some (.cells s.cells 30 (0, 0))
 nums : NumAt f W (phRefs s.phrases)
theorem RgS.below {s : Ls} {f : Nm → Int} {B : Nat} {W W' : World} (h : RgS s f B W) (hb : Below W.heap.size W W') : RgS s f B W' := ⟨h.at_.below hb, keepO hb h.box, h.nums.below hb⟩
def Ls.nexts (s : Ls) (f : Nm → Int) : List (List Int) := s.phrases.map fun p => (p.its.strip.uses f).foldl setPut []
structure NextW (w W : World) (N G n : Nat) (kss : List (List Int)) (ms : List Nat) : Prop where
 below : Below w.heap.size w W
 lowN : w.heap.size ≤ N
 lowG : w.heap.size ≤ G
 box : W.heap[N]? = some (.cells #[.slice (some ⟨G, 0, none⟩) n n] 136 (0, 0))
 row : W.heap[G]? = some (.cells (rowM n ms) 137 (0, 0))
 len : ms.length ≤ n
 low : ∀ m ∈ ms, w.heap.size ≤ m
 sets : ∀ (j m : Nat) (ks : List Int), ms[j]? = some m → kss[j]? = some ks → SetB W m ks
 apart : ms.Nodup
theorem NextW.keep {w W W' : World} {N G n : Nat} {kss : List (List Int)} {ms : List Nat} (h : NextW w W N G n kss ms) (hb : Below W.heap.size W W') : NextW w W' N G n kss ms :=
 ⟨thenB h.below hb, h.lowN, h.lowG, keepO hb h.box, keepO hb h.row, h.len, h.low, fun j m ks h1 h2 => (h.sets j m ks h1 h2).below hb (h.sets j m ks h1 h2).lt, h.apart⟩
theorem setCell_obj {W : World} {G i : Nat} {cs : Array Value} {t : TypeId} (v : Value) (h : W.heap[G]? = some (.cells cs t (0, 0))) : (W.setCell ⟨G, i, none⟩ v).heap[G]? = some (.cells (cs.setIfInBounds i v) t (0, 0)) := by
 simp only [World.setCell, Array.getElem?_modify, h, if_true, Option.map_some]
 rfl
theorem setCell_far {W : World} {G i c : Nat} (v : Value) (h : c ≠ G) : (W.setCell ⟨G, i, none⟩ v).heap[c]? = W.heap[c]? := by
 simp only [World.setCell, Array.getElem?_modify]
 rw [if_neg (fun e => h e.symm)]
theorem setCell_size {W : World} (a : Addr) (v : Value) : (W.setCell a v).heap.size = W.heap.size := by simp [World.setCell]
theorem no_cells {W : World} {G : Nat} {cs : Array Value} {t : TypeId} (h : W.heap[G]? = some (.cells cs t (0, 0))) {m : Nat} (hm : IsMap W m) : m ≠ G := by
 rintro rfl
 obtain ⟨es, c, h1⟩ := hm
 rw [h] at h1; cases h1
theorem NextW.lay {w wr W2 W3 W4 : World} {N G n : Nat} {kss : List (List Int)} {ms : List Nat} (h : NextW w wr N G n kss ms) (hb : Below wr.heap.size wr W2) (h3 : W2.alloc (.map #[] 0) = W3) (h4 : W3.setCell ⟨G, ms.length, none⟩ (.map (some W2.heap.size)) = W4) (hlt : ms.length < n) :
  Below w.heap.size w W4 ∧ W4.heap[G]? = some (.cells (rowM n (ms ++ [W2.heap.size])) 137 (0, 0)) ∧ W4.heap[N]? = some (.cells #[.slice (some ⟨G, 0, none⟩) n n] 136 (0, 0)) ∧ SetB W4 W2.heap.size [] ∧ (∀ c, c < W2.heap.size → c ≠ G → W4.heap[c]? = W2.heap[c]?) ∧ W4.heap.size = W2.heap.size + 1 := by
 have b3 : Below W2.heap.size W2 W3 := by rw [← h3]; exact (Below.refl _ _).alloc (Nat.le_refl _) _
 have hG2 := keepO hb h.row
 have hN2 := keepO hb h.box
 have hGN : N ≠ G := by
  rintro e
  rw [e] at hN2
  rw [hG2] at hN2
  injection hN2 with e1
  injection e1 with e1 e2
  cases e2
 have hG3 := keepO b3 hG2
 have hGl : G < W2.heap.size := (Array.getElem?_eq_some_iff.1 hG2).1
 have hb2 := thenB h.below hb
 have hs3 : SetB W3 W2.heap.size [] := by rw [← h3]; exact SetB.new W2
 refine ⟨?_, ?_, ?_, ?_, fun c h1 h2 => ?_, ?_⟩
 ·rw [← h4]
  exact (thenB hb2 b3).setCell (p := ⟨G, ms.length, none⟩) h.lowG _
 ·rw [← h4, setCell_obj _ hG3, rowM_push n ms _ hlt]
 ·rw [← h4, setCell_far _ hGN]; exact keepO b3 hN2
 ·refine hs3.of_block ?_
  rw [← h4, setCell_far _ (by omega)]
 ·rw [← h4, setCell_far _ h2]; exact b3.block c h1
 ·rw [← h4, setCell_size, ← h3]; simp
theorem NextW.step {w wr W2 W4 V : World} {N G n : Nat} {kss : List (List Int)} {ms : List Nat} {ks : List Int} (h : NextW w wr N G n kss ms) (hb : Below wr.heap.size wr W2) (hlt : ms.length < n)
  (h4 : Below w.heap.size w W4 ∧ W4.heap[G]? = some (.cells (rowM n (ms ++ [W2.heap.size])) 137 (0, 0)) ∧ W4.heap[N]? = some (.cells #[.slice (some ⟨G, 0, none⟩) n n] 136 (0, 0)) ∧ SetB W4 W2.heap.size [] ∧ (∀ c, c < W2.heap.size → c ≠ G → W4.heap[c]? = W2.heap[c]?) ∧ W4.heap.size = W2.heap.size + 1)
  (hg : W4.grownBy V (some W2.heap.size)) (hs : SetB V W2.heap.size ks) (hk : kss[ms.length]? = some ks) : NextW w V N G n kss (ms ++ [W2.heap.size]) := by
 obtain ⟨q1, q2, q3, q4, q5, q6⟩ := h4
 have hm := q4.isMap
 have hlow : w.heap.size ≤ W2.heap.size := Nat.le_trans h.below.size hb.size
 refine ⟨q1.grown hg (by omega) (fun k hk => by cases hk; exact hlow), h.lowN, h.lowG, grown_obj q3 hm hg, grown_obj q2 hm hg, by simp; omega, fun m hmm => ?_, fun j m ks' h1 h2 => ?_, ?_⟩
 ·rcases List.mem_append.1 hmm with hmm | hmm
  ·exact h.low m hmm
  ·simp at hmm; omega
 ·rcases Nat.lt_or_ge j ms.length with hj | hj
  ·rw [List.getElem?_append_left hj] at h1
   have hsj := h.sets j m ks' h1 h2
   have hmG : m ≠ G := no_cells h.row hsj.isMap
   have hml := hsj.lt
   have hb2 := hb.block m hml
   refine (hsj.of_block hb2).of_block ?_
   have hml2 : m < W2.heap.size := Nat.lt_of_lt_of_le hml hb.size
   rw [hg.block m (by omega) (fun e => by cases e; omega), q5 m hml2 hmG]
  ·have : j = ms.length := by
    have := (List.getElem?_eq_some_iff.1 h1).1
    simp at this; omega
   subst this
   rw [List.getElem?_append_right (Nat.le_refl _)] at h1
   simp at h1
   subst h1
   rw [hk] at h2; cases h2
   exact hs
 ·rw [List.nodup_append]
  refine ⟨h.apart, by simp, fun a ha b hb' => ?_⟩
  simp at hb'
  subst hb'
  rintro rfl
  obtain ⟨j, hj⟩ := List.getElem?_of_mem ha
  obtain ⟨ks', hks⟩ : ∃ ks', kss[j]? = some ks' := ⟨_, List.getElem?_eq_getElem (by
   have := (List.getElem?_eq_some_iff.1 hj).1
   have := (List.getElem?_eq_some_iff.1 hk).1
   omega)⟩
  have := (h.sets j _ ks' hj hks).lt
  have := hb.size
  omega
noncomputable def code61 : Code := (Try.f61.body).getD .skip
noncomputable def elem61n0 : Code := match lastPart 0 code61 with
 | .seq a _ => a
 | c => c
noncomputable def elem61n1 : Code := match lastPart 1 code61 with
 | .seq a _ => a
 | c => c
noncomputable def elem61n2 : Code := match lastPart 2 code61 with
 | .seq a _ => a
 | c => c
noncomputable def elem61n3 : Code := match lastPart 3 code61 with
 | .seq a _ => a
 | c => c
theorem rgstep1 : lastPart 1 code61 = .seq elem61n1 (lastPart 2 code61) := rfl
theorem rgstep2 : lastPart 2 code61 = .seq elem61n2 (lastPart 3 code61) := rfl
theorem rgstep3 : lastPart 3 code61 = .seq elem61n3 (lastPart 4 code61) := rfl
theorem phRefs_in : ∀ {ps : List Ph} {i : Nat} {p : Ph} {x : RefL}, ps[i]? = some p → x ∈ p.its.refsL (blk p.ia) (off p.ia) → x ∈ phRefs ps
 | [], _, _, _, h, _ => by cases h
 | q :: r, 0, p, x, h, hx => by cases h; exact List.mem_append.2 (Or.inl hx)
 | q :: r, i + 1, p, x, h, hx => List.mem_append.2 (Or.inr (phRefs_in (ps := r) (i := i) (by simpa using h) hx))
set_option maxRecDepth 100000 in
set_option maxHeartbeats 16000000 in
theorem rg_e2 (s : Ls) (f : Nm → Int) (B N G : Nat) (w W : World) (hs : RgS s f B w) (hn : s.phrases.length ≤ 1000) (hW : NextW w W N G s.phrases.length (s.nexts f) []) (Q : Exit → Act → World → Prop) (e0 e2 e4 e5 e6 e7 e8 e9 e10 e11 e12 e13 e14 e15 e16 e17 e18 e19 e20 e21 e22 e23 e24 e25 e26 e27 e28 e29 e30 e31 e32 e33 e34 e35 e36 e37 e38 e39 e40 e41 e42 e43 e44 e45 e46 e47 e48 e49 e50 e51 e52 e53 e54 e55 e56 e57 e58 e59 e60 e61 e62 e63 e64 e65 e66 e67 e68 e69 e70 e71 e72 e73 e74 e75 e76 e77 e78 e79 e80 e81 e82 e83 e84 e85 e86 e87 e88 e89 e90 e91 e92 e93 e94 e95 e96 e97 e98 e99 e100 e101 e102 e103 e104 e105 e106 e107 e108 e109 e110 e111 e112 e113 e114 e115 e116 e117 e118 e119 e120 e121 e122 e123 e124 e125 e126 e127 e128 e129 e130 e131 e132 e133 e134 e135 e136 e137 e138 e139 e140 e141 e142 e143 e144 e145 e146 e147 e148 e149 e150 : Value)
  (hK : ∀ (ms : List Nat) (x4 x5 x6 x7 x8 x9 x10 x11 x12 x13 x14 x15 x16 x17 x18 x19 x20 x21 x22 x23 x24 x25 x26 x27 x28 x29 x30 x31 x32 x33 x34 x35 x36 x37 x38 x39 x40 x41 x42 x43 x44 x45 x46 x47 x48 x49 x50 x51 x52 x53 x54 x55 x56 x57 x58 x59 x60 x61 x62 x63 x64 x65 x66 x67 x68 x69 x70 x71 x72 x73 x74 x75 x76 x77 x78 x79 x80 x81 x82 x83 x84 x85 x86 x87 x88 x89 x90 x91 x92 x93 x94 x95 x96 x97 x98 x99 x100 x101 x102 x103 x104 x105 x106 x107 x108 x109 x110 x111 x112 x113 x114 x115 x116 x117 x118 x119 x120 x121 x122 x123 x124 x125 x126 x127 x128 x129 x130 x131 x132 x133 x134 x135 x136 x137 x138 x139 x140 x141 x142 x143 x144 x145 x146 x147 x148 x149 x150 : Value) (V : World), NextW w V N G s.phrases.length (s.nexts f) ms → ms.length = s.phrases.length → Q .normal { tmps := #[e0, .pointer (some ⟨B, 0, none⟩), e2, .pointer (some ⟨N, 0, none⟩), x4, x5, x6, x7, x8, x9, x10, x11, x12, x13, x14, x15, x16, x17, x18, x19, x20, x21, x22, x23, x24, x25, x26, x27, x28, x29, x30, x31, x32, x33, x34, x35, x36, x37, x38, x39, x40, x41, x42, x43, x44, x45, x46, x47, x48, x49, x50, x51, x52, x53, x54, x55, x56, x57, x58, x59, x60, x61, x62, x63, x64, x65, x66, x67, x68, x69, x70, x71, x72, x73, x74, x75, x76, x77, x78, x79, x80, x81, x82, x83, x84, x85, x86, x87, x88, x89, x90, x91, x92, x93, x94, x95, x96, x97, x98, x99, x100, x101, x102, x103, x104, x105, x106, x107, x108, x109, x110, x111, x112, x113, x114, x115, x116, x117, x118, x119, x120, x121, x122, x123, x124, x125, x126, x127, x128, x129, x130, x131, x132, x133, x134, x135, x136, x137, x138, x139, x140, x141, x142, x143, x144, x145, x146, x147, x148, x149, x150], defers := [] } V) :
  elem61n2.wp Try.prog Q { tmps := #[e0, .pointer (some ⟨B, 0, none⟩), e2, .pointer (some ⟨N, 0, none⟩), e4, e5, e6, e7, e8, e9, e10, e11, e12, e13, e14, e15, e16, e17, e18, e19, e20, e21, e22, e23, e24, e25, e26, e27, e28, e29, e30, e31, e32, e33, e34, e35, e36, e37, e38, e39, e40, e41, e42, e43, e44, e45, e46, e47, e48, e49, e50, e51, e52, e53, e54, e55, e56, e57, e58, e59, e60, e61, e62, e63, e64, e65, e66, e67, e68, e69, e70, e71, e72, e73, e74, e75, e76, e77, e78, e79, e80, e81, e82, e83, e84, e85, e86, e87, e88, e89, e90, e91, e92, e93, e94, e95, e96, e97, e98, e99, e100, e101, e102, e103, e104, e105, e106, e107, e108, e109, e110, e111, e112, e113, e114, e115, e116, e117, e118, e119, e120, e121, e122, e123, e124, e125, e126, e127, e128, e129, e130, e131, e132, e133, e134, e135, e136, e137, e138, e139, e140, e141, e142, e143, e144, e145, e146, e147, e148, e149, e150], defers := [] } W := by
 generalize hm : s.phrases.length = n at *
 have y9 : W.cell? ⟨B, 10, none⟩ = some (.slice s.fa s.phrases.length s.fc) := cell_at (keepO hW.below hs.box) 10 rfl
 rw [hm] at y9
 have HS := Lib.hid hs; have HW := Lib.hid hW; have HK := Lib.hid hK; have HM := Lib.hid hm
 clear hs hW hK hm
 conv => arg 2; whnf
 go_wp2_with fail
 go_loopw [27] (fun iv wr => ∃ (i : Nat) (ms : List Nat), iv = .int .i64 i ∧ i ≤ n ∧ Hid (ms.length = i) ∧ Hid (NextW w wr N G n (s.nexts f) ms)) (fun iv _ => n + 1 - (intOf iv).toNat)
 case atStart => exact ⟨0, [], rfl, Nat.zero_le _, Lib.hid rfl, HW⟩
 case round =>
  obtain ⟨i, ms, rfl, hin, hL, hWr⟩ := hrel
  by_cases hlt : i < n
  ·have hi : (i : Int) < (n : Int) := by omega
   obtain ⟨p, hp⟩ : ∃ p, s.phrases[i]? = some p := ⟨_, List.getElem?_eq_getElem (by rw [HM.out]; exact hlt)⟩
   have hS := HS.out.below hWr.out.below
   obtain ⟨c0, c1⟩ := phAt_get hS.at_.phrases hp
   have hfa := hS.at_.pform.resolve_left (fun e => by rw [e] at hp; cases hp)
   obtain ⟨hp1, hp2, hp3⟩ := phAt_its hS.at_.phrases hp
   have hpn : NumAt f wr (p.its.refsL (blk p.ia) (off p.ia)) := fun x hx => hS.nums x (phRefs_in hp hx)
   unfold Ph.val at c1
   -- the worlds up to the call
   obtain ⟨W1, hW1, gW1, bW1, sW1⟩ := mk_cells wr #[.int .i64 i] 3
   obtain ⟨W2, hW2, gW2, bW2, sW2⟩ := mk_cells W1 #[sv p.name, .slice p.ia p.its.len p.ic] 57
   obtain ⟨W3, hW3⟩ : ∃ W3, W2.alloc (.map #[] 0) = W3 := ⟨_, rfl⟩
   have hb2 := thenB bW1 bW2
   obtain ⟨W4, hW4⟩ : ∃ W4, W3.setCell ⟨G, i, none⟩ (.map (some W2.heap.size)) = W4 := ⟨_, rfl⟩
   have hl := hL.out
   have hlay := hWr.out.lay (W4 := W4) hb2 hW3 (by rw [hl]; exact hW4) (by omega)
   have hstep := fun V ks => hWr.out.step (V := V) (ks := ks) hb2 (by omega) hlay
   obtain ⟨q1, q2, q3, q4, q5, q6⟩ := id hlay
   have hkss : (s.nexts f)[ms.length]? = some ((p.its.strip.uses f).foldl setPut []) := by unfold Ls.nexts; rw [hl, List.getElem?_map, hp]; rfl
   -- facts of the worlds
   have z2N : W2.cell? ⟨N, 0, none⟩ = some (.slice (some ⟨G, 0, none⟩) n n) := cell_at (keepO hb2 hWr.out.box) 0 rfl
   have z2I : W2.cell? ⟨wr.heap.size, 0, none⟩ = some (.int .i64 i) := cell_at (keepO bW2 gW1) 0 rfl
   have b3 : Below W2.heap.size W2 W3 := by rw [← hW3]; exact (Below.refl _ _).alloc (Nat.le_refl _) _
   have z3G : W3.frozen? ⟨G, i, none⟩ = false := (show FreeB W3 G from ⟨_, _, keepO b3 (keepO hb2 hWr.out.row)⟩).free i
   have z3c : W3.cell? ⟨G, i, none⟩ = some (.map none) := by
    have := cell_at (keepO b3 (keepO hb2 hWr.out.row)) i (rowM_get ms hlt)
    rwa [List.getElem?_eq_none (by rw [hl]; exact Nat.le_refl _)] at this
   have hIG : wr.heap.size ≠ G := by have := (Array.getElem?_eq_some_iff.1 hWr.out.row).1; omega
   have hAG : W1.heap.size ≠ G := by have := (Array.getElem?_eq_some_iff.1 hWr.out.row).1; omega
   have gI4 : W4.heap[wr.heap.size]? = some (.cells #[.int .i64 i] 3 (0, 0)) := (q5 _ (by omega) hIG).trans (keepO bW2 gW1)
   have gA4 := (q5 _ (by omega) hAG).trans gW2
   have z4A : W4.cell? ⟨W1.heap.size, 1, none⟩ = some (.slice p.ia p.its.len p.ic) := cell_at gA4 1 rfl
   have hRC : RingC W4 N wr.heap.size G i n n W2.heap.size [] := ⟨q3, gI4, by rw [cell_at q2 i (rowM_get _ hlt)]; rw [← hl]; simp, q4⟩
   have hkeep : ∀ a v, wr.cell? a = some v → a.block < w.heap.size → W4.cell? a = some v := fun a v h1 h2 => by
    have e1 : W4.heap[a.block]? = wr.heap[a.block]? := (q1.block _ h2).trans (hWr.out.below.block _ h2).symm
    rw [← h1]; unfold World.cell?; rw [e1]
   have hits : p.its.At W4 (blk p.ia) (off p.ia) := (phAt_its (HS.out.below q1).at_.phrases hp).2.2
   have hnum : NumAt f W4 (p.its.refsL (blk p.ia) (off p.ia)) := fun x hx => (HS.out.below q1).nums x (phRefs_in hp hx)
   have C := uses_any f N wr.heap.size G i n n W2.heap.size hlt (by unfold maxLen; omega) _ p.its (Nat.le_refl _) p.ia p.ic [] W4 hp1 hp2 hits hnum hRC
   have HC := Lib.hid C; have HST := Lib.hid hstep; have HKS := Lib.hid hkss
   have hmm := @run_makeMap Try.prog
   clear C hstep hkss hits hnum hkeep hRC gI4 gA4 hIG hAG q1 q2 q3 q4 q5 q6 hlay hb2 bW1 bW2 gW1 gW2 b3 hpn hp1 hp2 hp3 hS
   generalize hga : s.fa = fa at *
   have HGA := Lib.hid hga
   clear hga
   generalize hbb : blk fa = fb at *
   generalize hoo : off fa = fo at *
   subst hfa
   clear hbb hoo
   have sW2' : W2.heap.size = wr.heap.size + 2 := by omega
   have HW1 := Lib.hid hW1; have HW2 := Lib.hid hW2; have HW3 := Lib.hid hW3; have HW4 := Lib.hid hW4; have HSW := Lib.hid sW1
   have HZ := Lib.hid (And.intro z2N (And.intro z2I (And.intro z3G (And.intro z3c z4A))))
   clear sW1 sW2 hl hW1 hW2 hW3 hW4 z2N z2I z3G z3c z4A sW2'
   refine wp_seq_thenQ (fun K1 hK => ?_)
   have HK1 := Lib.hid hK
   clear hK
   go_wp2_with fail
   refine HK1.out _ _ ?_
   clear HK1 K1
   refine wp_seq_thenQ (fun K2 hK => ?_)
   have HK2 := Lib.hid hK
   clear hK
   go_wp2_with fail
   refine HK2.out _ _ ?_
   clear HK2 K2
   refine wp_seq_thenQ (fun K3 hK => ?_)
   have HK3 := Lib.hid hK
   clear hK
   refine wp_block ?_
   refine wp_seq_thenQ (fun K4 hK => ?_)
   have HK4 := Lib.hid hK
   clear hK
   go_wp2_with fail
   refine HK4.out _ _ ?_
   clear HK4 K4
   rw [HW1.out, HW2.out, ← HSW.out]
   have hW3 := HW3.out; have hW4 := HW4.out
   obtain ⟨z2N, z2I, z3G, z3c, z4A⟩ := HZ.out
   clear HW1 HW2 HZ HW3 HW4
   go_wp2_with (first
    | (go_at_call 84; refine HC.out.mono ?_; rintro e V ⟨rfl, hv1, hv2⟩; have HV := Lib.hid (HST.out V _ hv2 hv1.set_ HKS.out); clear hv1 hv2))
   refine HK3.out _ _ ?_
   clear HK3 K3 hW3 hW4 z2N z2I z3G z3c z4A
   go_wp2_with fail
   go_roundw
   case rel => exact ⟨i + 1, _, by go_num, by omega, Lib.hid (by have := hL.out; simp; omega), HV⟩
   case measure => simp [intOf]; omega
  ·have : i = n := by omega
   subst this
   have hz : ¬ (i : Int) < (i : Int) := by omega
   go_wp2_with fail
   exact HK.out ms _ _ _ _ _ _ _ _ _ _ _ _ _ _ _ _ _ _ _ _ _ _ _ _ _ _ _ _ _ _ _ _ _ _ _ _ _ _ _ _ _ _ _ _ _ _ _ _ _ _ _ _ _ _ _ _ _ _ _ _ _ _ _ _ _ _ _ _ _ _ _ _ _ _ _ _ _ _ _ _ _ _ _ _ _ _ _ _ _ _ _ _ _ _ _ _ _ _ _ _ _ _ _ _ _ _ _ _ _ _ _ _ _ _ _ _ _ _ _ _ _ _ _ _ _ _ _ _ _ _ _ _ _ _ _ _ _ _ _ _ _ _ _ _ _ _ _ wr hWr.out hL.out
end Go.Proofs.Ytpnbpepkoekkoaa
end
section
namespace Go.Proofs.Ytpnbpepkoekkoaa
open Go Go.RowKit
noncomputable def bodyB : Code := match elem61n3 with
  | .seq _ (.block _ (.loop (.seq _ (.seq _ (.seq (.block _ c) _))))) => c
  | c => c
noncomputable def body7 : Code := match lastPart 2 bodyB with
  | .seq (.seq _ (.block _ (.loop (.seq _ (.seq (.block _ (.seq _ (.block _ (.loop (.seq _ (.seq _ (.seq (.block _ c) _))))))) _))))) _ => c
  | c => c
noncomputable def b7n0 : Code := match body7 with
  | .seq a _ => a
  | c => c
noncomputable def b7n1 : Code := match lastPart 1 body7 with
  | .seq a _ => a
  | c => c
def FarM (W : World) (F : Nat) (g : Int → Option Int) : Prop := ∃ kvs : List (Int × Value), MapAt kI W F kvs ∧ KeysApart kvs ∧ ∀ x, kvGet kvs x = (g x).map (Value.int .i64)
theorem FarM.of_block {W W' : World} {F : Nat} {g : Int → Option Int} (h : FarM W F g) (hb : W'.heap[F]? = W.heap[F]?) : FarM W' F g := by
  obtain ⟨kvs, h1, h2⟩ := h; exact ⟨kvs, h1.of_block hb, h2⟩
theorem FarM.lt {W : World} {F : Nat} {g : Int → Option Int} (h : FarM W F g) : F < W.heap.size := by
  obtain ⟨kvs, h1, h2⟩ := h; exact h1.lt
theorem FarM.new (W : World) : FarM (W.alloc (.map #[] 0)) W.heap.size (fun _ => none) := ⟨[], MapAt.new W, List.nodup_nil, fun _ => rfl⟩
theorem FarM.grown {W W' : World} {F x : Nat} {g : Int → Option Int} (h : FarM W F g) (hg : W.grownBy W' (some x)) (hx : x ≠ F) : FarM W' F g := h.of_block (hg.block F h.lt (fun e => by cases e; exact hx rfl))
theorem FarM.lookup {W : World} {F : Nat} {g : Int → Option Int} (h : FarM W F g) (x : Int) : (Instr.lookup 140 (.map (some F)) (.int .i64 x) true).run Try.prog W = .ok (.tuple #[.int .i64 ((g x).getD 0), .bool (g x).isSome]) W := by
  obtain ⟨kvs, h1, _, h3⟩ := h
  have := run_lookup_kv (P := Try.prog) kI_key Try.underlying140 Try.underlying3 h1 x (z := .int .i64 0) (by kernel_rfl) true
  rw [h3 x] at this
  refine this.trans ?_
  cases g x <;> rfl
theorem FarM.lookup1 {W : World} {F : Nat} {g : Int → Option Int} (h : FarM W F g) (x : Int) : (Instr.lookup 140 (.map (some F)) (.int .i64 x) false).run Try.prog W = .ok (.int .i64 ((g x).getD 0)) W := by
  obtain ⟨kvs, h1, _, h3⟩ := h
  have := run_lookup_kv (P := Try.prog) kI_key Try.underlying140 Try.underlying3 h1 x (z := .int .i64 0) (by kernel_rfl) false
  rw [h3 x] at this
  refine this.trans ?_
  cases g x <;> rfl
def putF (g : Int → Option Int) (k v : Int) : Int → Option Int := fun x => if x = k then some v else g x
theorem FarM.put {W : World} {F : Nat} {g : Int → Option Int} (h : FarM W F g) (k v : Int) (hk : g k = none) :
    ∃ W', (Instr.mapUpdate 140 (.map (some F)) (.int .i64 k) (.int .i64 v)).run Try.prog W = .ok () W' ∧ FarM W' F (putF g k v) ∧ W.grownBy W' (some F) ∧ W'.heap.size = W.heap.size := by
  obtain ⟨kvs, h1, h2, h3⟩ := h
  obtain ⟨o, hrun, hM⟩ := run_update_kv (P := Try.prog) kI_key Try.underlying140 Try.underlying3 h1 h2 k (.int .i64 v)
  have hn : kvGet kvs k = none := by rw [h3, hk]; rfl
  refine ⟨_, hrun, ⟨_, hM, keysApart_put h2 k _, fun x => ?_⟩, setBlock_grown W F o, by simp⟩
  unfold putF
  by_cases hx : x = k
  · subst hx
    rw [if_pos rfl, kv_new hn]; rfl
  · rw [if_neg hx, ← h3 x]
    cases hg : kvGet kvs x with
    | none => exact kv_none hg (fun e => hx e.symm) _
    | some y => exact kv_old hg (fun e => hx e.symm) _
def hit1 (i n : Int) (g : Int → Option Int) (to : Int) : Bool := (decide (n = 1) && decide (to = i)) || (decide (1 < n) && decide (g to = some (n - 1)))
def hitS (ks : List Int) (i n : Int) (g : Int → Option Int) : Bool := ks.any (hit1 i n g)
theorem NextW.grown {w W W' : World} {N G n x : Nat} {kss : List (List Int)} {ms : List Nat} (h : NextW w W N G n kss ms) (hg : W.grownBy W' (some x)) (hN : x ≠ N) (hG : x ≠ G) (hm : x ∉ ms) (hx : w.heap.size ≤ x) : NextW w W' N G n kss ms :=
  ⟨h.below.grown hg h.below.size (fun k hk => by cases hk; exact hx), h.lowN, h.lowG, (hg.block N (Array.getElem?_eq_some_iff.1 h.box).1 (fun e => by cases e; exact hN rfl)).trans h.box,
   (hg.block G (Array.getElem?_eq_some_iff.1 h.row).1 (fun e => by cases e; exact hG rfl)).trans h.row, h.len, h.low,
   fun j m ks h1 h2 => (h.sets j m ks h1 h2).of_block (hg.block m (h.sets j m ks h1 h2).lt (fun e => by cases e; exact hm (List.mem_of_getElem? h1))), h.apart⟩
theorem NextW.lts {w W : World} {N G n : Nat} {kss : List (List Int)} {ms : List Nat} (h : NextW w W N G n kss ms) (hk : kss.length = n) {m : Nat} (hm : m ∈ ms) : m < W.heap.size := by
  obtain ⟨j, hj⟩ := List.getElem?_of_mem hm
  have hjl := (List.getElem?_eq_some_iff.1 hj).1
  obtain ⟨ks, hks⟩ : ∃ ks, kss[j]? = some ks := ⟨_, List.getElem?_eq_getElem (by have := h.len; omega)⟩
  exact (h.sets j m ks hj hks).lt
structure FarW (w W : World) (N G n F : Nat) (kss : List (List Int)) (ms : List Nat) (g : Int → Option Int) : Prop where
  next : NextW w W N G n kss ms
  whole : ms.length = n
  klen : kss.length = n
  far : FarM W F g
  lowF : w.heap.size ≤ F
  offF : F ∉ ms
  neN : F ≠ N
  neG : F ≠ G
theorem FarW.grown {w W W' : World} {N G n F x : Nat} {kss : List (List Int)} {ms : List Nat} {g : Int → Option Int} (h : FarW w W N G n F kss ms g) (hg : W.grownBy W' (some x)) (hx : W.heap.size ≤ x ∨ (w.heap.size ≤ x ∧ x ≠ N ∧ x ≠ G ∧ x ∉ ms ∧ x ≠ F)) : FarW w W' N G n F kss ms g := by
  have hl := h.next.below.size
  have hN := (Array.getElem?_eq_some_iff.1 h.next.box).1
  have hG := (Array.getElem?_eq_some_iff.1 h.next.row).1
  have hF := h.far.lt
  have hx' : w.heap.size ≤ x ∧ x ≠ N ∧ x ≠ G ∧ x ∉ ms ∧ x ≠ F := by
    rcases hx with hx | hx
    · exact ⟨by omega, by omega, by omega, fun hm => by have := h.next.lts h.klen hm; omega, by omega⟩
    · exact hx
  obtain ⟨a1, a2, a3, a4, a5⟩ := hx'
  exact ⟨h.next.grown hg a2 a3 a4 a1, h.whole, h.klen, h.far.grown hg a5, h.lowF, h.offF, h.neN, h.neG⟩
theorem FarW.below {w W W' : World} {N G n F : Nat} {kss : List (List Int)} {ms : List Nat} {g : Int → Option Int} (h : FarW w W N G n F kss ms g) (hb : Below W.heap.size W W') : FarW w W' N G n F kss ms g :=
  ⟨h.next.keep hb, h.whole, h.klen, h.far.of_block (hb.block F h.far.lt), h.lowF, h.offF, h.neN, h.neG⟩
theorem FarW.put {w W W' : World} {N G n F : Nat} {kss : List (List Int)} {ms : List Nat} {g g' : Int → Option Int} (h : FarW w W N G n F kss ms g) (hg : W.grownBy W' (some F)) (hf : FarM W' F g') : FarW w W' N G n F kss ms g' :=
  ⟨h.next.grown hg h.neN h.neG h.offF h.lowF, h.whole, h.klen, hf, h.lowF, h.offF, h.neN, h.neG⟩
set_option maxRecDepth 100000 in
set_option maxHeartbeats 16000000 in
theorem rg_e20 (i nn : Int) (k N G n F : Nat) (kss : List (List Int)) (ms : List Nat) (ks : List Int) (g : Int → Option Int) (w W : World) (hW : FarW w W N G n F kss ms g) (hk : k < n) (hks : kss[k]? = some ks) (hgk : g k = none) (hnn : 1 ≤ nn ∧ nn ≤ 1000) (Q : Exit → Act → World → Prop) (e0 e1 e2 e4 e5 e10 e11 e12 e13 e14 e15 e16 e17 e18 e19 e20 e21 e22 e23 e24 e25 e26 e27 e28 e29 e30 e31 e32 e33 e34 e35 e36 e37 e38 e39 e40 e41 e42 e43 e44 e45 e46 e47 e48 e49 e50 e51 e52 e53 e54 e55 e56 e57 e58 e59 e60 e61 e62 e63 e64 e65 e66 e67 e68 e69 e70 e71 e72 e73 e74 e75 e76 e77 e78 e79 e80 e81 e82 e83 e84 e85 e86 e87 e88 e89 e90 e91 e92 e93 e94 e95 e96 e97 e98 e99 e100 e101 e102 e103 e104 e105 e106 e107 e108 e109 e110 e111 e112 e113 e114 e115 e116 e117 e118 e119 e120 e121 e122 e123 e124 e125 e126 e127 e128 e129 e130 e131 e132 e133 e134 e135 e136 e137 e138 e139 e140 e141 e142 e143 e144 e145 e146 e147 e148 e149 e150 : Value)
    (hQ : ∀ (x12 x13 x14 x65 x66 x67 x68 x69 x70 x71 x72 x73 x74 x75 x76 x77 x78 x79 x80 x81 x82 x83 x84 x85 x86 x87 x88 x89 x90 x91 x92 x93 x94 x95 x96 x97 x98 x99 x100 x101 x102 : Value) (V : World), FarW w V N G n F kss ms (if hitS ks i nn g = true then putF g k nn else g) → Q .normal { tmps := #[e0, e1, e2, .pointer (some ⟨N, 0, none⟩), e4, e5, .int .i64 i, .map (some F), .int .i64 nn, .int .i64 k, e10, e11, x12, x13, x14, e15, e16, e17, e18, e19, e20, e21, e22, e23, e24, e25, e26, e27, e28, e29, e30, e31, e32, e33, e34, e35, e36, e37, e38, e39, e40, e41, e42, e43, e44, e45, e46, e47, e48, e49, e50, e51, e52, e53, e54, e55, e56, e57, e58, e59, e60, e61, e62, e63, e64, x65, x66, x67, x68, x69, x70, x71, x72, x73, x74, x75, x76, x77, x78, x79, x80, x81, x82, x83, x84, x85, x86, x87, x88, x89, x90, x91, x92, x93, x94, x95, x96, x97, x98, x99, x100, x101, x102, e103, e104, e105, e106, e107, e108, e109, e110, e111, e112, e113, e114, e115, e116, e117, e118, e119, e120, e121, e122, e123, e124, e125, e126, e127, e128, e129, e130, e131, e132, e133, e134, e135, e136, e137, e138, e139, e140, e141, e142, e143, e144, e145, e146, e147, e148, e149, e150], defers := [] } V) :
    (lastPart 2 body7).wp Try.prog Q { tmps := #[e0, e1, e2, .pointer (some ⟨N, 0, none⟩), e4, e5, .int .i64 i, .map (some F), .int .i64 nn, .int .i64 k, e10, e11, e12, e13, e14, e15, e16, e17, e18, e19, e20, e21, e22, e23, e24, e25, e26, e27, e28, e29, e30, e31, e32, e33, e34, e35, e36, e37, e38, e39, e40, e41, e42, e43, e44, e45, e46, e47, e48, e49, e50, e51, e52, e53, e54, e55, e56, e57, e58, e59, e60, e61, e62, e63, e64, e65, e66, e67, e68, e69, e70, e71, e72, e73, e74, e75, e76, e77, e78, e79, e80, e81, e82, e83, e84, e85, e86, e87, e88, e89, e90, e91, e92, e93, e94, e95, e96, e97, e98, e99, e100, e101, e102, e103, e104, e105, e106, e107, e108, e109, e110, e111, e112, e113, e114, e115, e116, e117, e118, e119, e120, e121, e122, e123, e124, e125, e126, e127, e128, e129, e130, e131, e132, e133, e134, e135, e136, e137, e138, e139, e140, e141, e142, e143, e144, e145, e146, e147, e148, e149, e150], defers := [] } W := by
  obtain ⟨m, hm⟩ : ∃ m, ms[k]? = some m := ⟨_, List.getElem?_eq_getElem (by have := hW.whole; omega)⟩
  have hS := hW.next.sets k m ks hm hks
  have y3 := cell_at hW.next.box 0 rfl
  have yG := cell_at hW.next.row k (rowM_get ms hk)
  rw [hm] at yG
  obtain ⟨V0, hr0, hI0, hb0, hs0⟩ := hS.range (P := Try.prog) (T := 137) Try.underlying137
  have hml := hS.lt
  have hW0 := hW.below hb0
  obtain ⟨R, hR⟩ : ∃ R, W.heap.size = R := ⟨_, rfl⟩
  have hRo : w.heap.size ≤ R ∧ R ≠ N ∧ R ≠ G ∧ R ∉ ms ∧ R ≠ F := by
    have hl := hW.next.below.size
    have hN := (Array.getElem?_eq_some_iff.1 hW.next.box).1
    have hG := (Array.getElem?_eq_some_iff.1 hW.next.row).1
    have hF := hW.far.lt
    exact ⟨by omega, by omega, by omega, fun hm => by have := hW.next.lts hW.klen hm; omega, by omega⟩
  rw [hR] at hr0 hI0
  have HQ := Lib.hid hQ; have HW0 := Lib.hid hW0; have HI0 := Lib.hid hI0; have HRO := Lib.hid hRo; have HGK := Lib.hid hgk
  have hmR : m ≠ R := by omega
  have HMR := Lib.hid hmR
  clear hQ hW hW0 hI0 hRo hS hm hks hml hs0 hb0 hgk hR hmR
  have hki : (k : Int) < (n : Int) := by omega
  conv => arg 2; whnf
  go_wp2_with fail
  go_loopw [12, 13, 14] (fun _ _ _ wr => ∃ left, Hid (ItB wr R m ks left) ∧ Hid (∀ x ∈ ks, x ∈ left ∨ hit1 i nn g x = false) ∧ Hid (FarW w wr N G n F kss ms g)) (fun _ _ _ wr => wr.rangeLeft m R)
  case atStart => exact ⟨ks, HI0, Lib.hid (fun x hx => Or.inl hx), HW0⟩
  case round =>
    obtain ⟨left, hI, hD, hW⟩ := hrel
    rcases hI.out.next (P := Try.prog) with ⟨hl, hnx⟩ | ⟨to, V, left', hto, ⟨_, hnx⟩, hen, hI', hl1, hl2, hoth, hsz, hbel⟩
    · have hno : hitS ks i nn g = false := by
        unfold hitS
        rw [← Bool.not_eq_true, List.any_eq_true]
        rintro ⟨x, hx, hx2⟩
        rcases hD.out x hx with h | h
        · rw [hl] at h; cases h
        · rw [h] at hx2; cases hx2
      have HNO := Lib.hid hno
      clear hno hl
      go_wp2_with fail
      refine HQ.out _ _ _ _ _ _ _ _ _ _ _ _ _ _ _ _ _ _ _ _ _ _ _ _ _ _ _ _ _ _ _ _ _ _ _ _ _ _ _ _ _ _ ?_
      rw [HNO.out]
      exact hW.out
    · have hg1 : wr.grownBy V (some R) := ⟨(hbel 0 (Nat.zero_le _)).os, (hbel 0 (Nat.zero_le _)).tape, (hbel 0 (Nat.zero_le _)).output, Nat.le_of_eq hsz.symm, fun c _ hc => hoth c (fun e => hc (by rw [e]))⟩
      have hW1 := hW.out.grown hg1 (Or.inr HRO.out)
      have hlk := hW1.far.lookup to
      obtain ⟨V2, hup, hf2, hg2, hs2⟩ := hW1.far.put k nn HGK.out
      have HW1 := Lib.hid hW1; have HI1 := Lib.hid hI'; have HL1 := Lib.hid hl1
      have HCN : Hid (V.rangeLeft m R < wr.rangeLeft m R) := Lib.hid (by rw [hI'.cnt, hI.out.cnt]; exact hl2)
      have HTO : Hid (to ∈ ks) := Lib.hid (hI.out.sub to hto)
      obtain ⟨hn1, hn2⟩ := hnn
      have HF2 := Lib.hid hf2; have HG2 := Lib.hid hg2
      clear hW1 hI' hl1 hl2 hoth hsz hbel hg1 hf2 hg2 hs2 hto hI
      by_cases h1 : nn = 1
      · subst h1
        by_cases hti : to = i
        · subst hti
          have hye : hit1 to 1 g to = true := by unfold hit1; simp
          have hyes : hitS ks to 1 g = true := List.any_eq_true.2 ⟨to, HTO.out, hye⟩
          have HY := Lib.hid hyes
          clear hyes hye
          go_wp2_with fail
          refine HQ.out _ _ _ _ _ _ _ _ _ _ _ _ _ _ _ _ _ _ _ _ _ _ _ _ _ _ _ _ _ _ _ _ _ _ _ _ _ _ _ _ _ _ ?_
          rw [if_pos HY.out]
          exact HW1.out.put HG2.out HF2.out
        · have hno : hit1 i 1 g to = false := by unfold hit1; rw [decide_eq_false hti]; simp
          have HNO := Lib.hid hno
          clear hno hup
          go_wp2_with fail
          go_roundw
          case rel =>
            refine ⟨left', HI1, Lib.hid (fun x hx => ?_), HW1⟩
            rcases hD.out x hx with h | h
            · rcases HL1.out x h with rfl | h
              · exact Or.inr HNO.out
              · exact Or.inl h
            · exact Or.inr h
          case measure => exact HCN.out
      · have h2 : 1 < nn := by omega
        have hw : IntKind.i64.wrap (nn - 1) = nn - 1 := IntWalk.i64_in _ (by omega)
        cases hgt : g to with
        | none =>
          rw [hgt] at hlk
          have HGT := Lib.hid hgt
          clear hgt
          have hno : hit1 i nn g to = false := by unfold hit1; rw [HGT.out, decide_eq_false h1]; simp
          have HNO := Lib.hid hno
          clear hno hup
          go_wp2_with fail
          go_roundw
          case rel =>
            refine ⟨left', HI1, Lib.hid (fun x hx => ?_), HW1⟩
            rcases hD.out x hx with h | h
            · rcases HL1.out x h with rfl | h
              · exact Or.inr HNO.out
              · exact Or.inl h
            · exact Or.inr h
          case measure => exact HCN.out
        | some v =>
          rw [hgt] at hlk
          have HGT := Lib.hid hgt
          clear hgt
          by_cases hv : v = nn - 1
          · subst hv
            have hye : hit1 i nn g to = true := by unfold hit1; rw [HGT.out, decide_eq_false h1, decide_eq_true h2]; simp
            have hyes : hitS ks i nn g = true := List.any_eq_true.2 ⟨to, HTO.out, hye⟩
            have HY := Lib.hid hyes
            clear hyes hye
            go_wp2_with fail
            refine HQ.out _ _ _ _ _ _ _ _ _ _ _ _ _ _ _ _ _ _ _ _ _ _ _ _ _ _ _ _ _ _ _ _ _ _ _ _ _ _ _ _ _ _ ?_
            rw [if_pos HY.out]
            exact HW1.out.put HG2.out HF2.out
          · have hno : hit1 i nn g to = false := by unfold hit1; rw [HGT.out, decide_eq_false h1, decide_eq_true h2]; simp only [Option.some.injEq, Bool.false_and, Bool.true_and, Bool.false_or]; exact decide_eq_false hv
            have HNO := Lib.hid hno
            clear hno hup
            go_wp2_with fail
            go_roundw
            case rel =>
              refine ⟨left', HI1, Lib.hid (fun x hx => ?_), HW1⟩
              rcases hD.out x hx with h | h
              · rcases HL1.out x h with rfl | h
                · exact Or.inr HNO.out
                · exact Or.inl h
              · exact Or.inr h
            case measure => exact HCN.out
end Go.Proofs.Ytpnbpepkoekkoaa
end
