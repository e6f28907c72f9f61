/- The walk of the statement: part 8. -/
import Derived.Test.YtpnbpepkoekkoaaYYR15p7
import Derived.OrdersHeld
import Derived.Deep.RegionHeld3
set_option linter.unusedVariables false
set_option linter.unusedSimpArgs false
section
namespace Go.Proofs.Ytpnbpepkoekkoaa
open Go Go.RowKit Go.Deep
set_option maxRecDepth 100000 in
set_option maxHeartbeats 16000000 in
theorem ren_e8 (A B lo1 hi1 lo2 hi2 gN nN cN j : Nat) (phrase : Bool) (old new : Nm) (x y : Ls) (kx ky : List Int) (w W : World) (hBx : CopyB w A lo1 hi1 x) (hBy : CopyB w B lo2 hi2 y) (hd : hi1 ≤ lo2) (hA2 : A < lo2 ∨ hi2 ≤ A) (hB1 : B < lo1 ∨ hi1 ≤ B) (hx : CopyW A x kx W) (hy : CopyW B y ky W) (hb : Below w.heap.size w W) (hh1 : hi1 ≤ W.heap.size) (hh2 : hi2 ≤ W.heap.size) (hlx : (ptrs x.refs).length ≤ 1000000) (hly : (ptrs y.refs).length ≤ 1000000) (hnm : w.cell? ⟨gN, j, none⟩ = some (sv old)) (hj : j < nN) (hjx : j < x.many phrase) (hjy : j < y.many phrase) (e0 e2 e4 e5 e6 e7 e8 e11 e12 e15 e16 e17 e18 e19 e20 e21 e22 e23 e24 e25 e26 e27 e28 e29 e30 e31 e32 e33 e34 e35 e36 e37 e38 e39 e40 e41 e42 e43 e44 e45 e46 e47 e48 e49 e50 e51 e52 e53 e54 e55 e56 e57 e58 e59 e60 e61 e62 e63 e64 e65 e66 e67 e68 e69 e70 e71 e72 e73 e74 e75 e76 e77 e78 e79 e80 e81 e82 e83 e84 e85 e86 e87 e88 e89 e90 e91 e92 e93 e94 e95 e96 e97 e98 e99 e100 e101 e102 e103 e104 e105 e106 e107 e108 e109 e110 e111 e112 e113 e114 e115 e116 e117 e118 e119 e120 e121 e122 e123 e124 e125 e126 e127 e128 e129 e130 : Value) (K : Act → World → Prop)
  (hK : ∀ W', CopyW A (x.renamed phrase j old new) kx W' → CopyW B (y.renamed phrase j old new) ky W' → Below w.heap.size w W' → ∀ (f16 f18 f66 f67 f68 f69 f70 f71 f72 f73 f74 f75 f76 f77 f78 f79 f80 f81 f82 f83 f84 f85 f86 f87 f88 f89 f90 f91 f92 f93 f94 f95 f96 f97 f98 f99 f100 f101 f102 f103 f104 f105 f106 f107 f108 f109 f110 f111 f112 f113 f114 f115 f116 f117 f118 : Value), K { tmps := #[e0, .bool phrase, e2, sv new, e4, e5, e6, e7, e8, .slice (some ⟨gN, 0, none⟩) nN cN, .int .i64 (j : Nat), e11, e12, .pointer (some ⟨A, 0, none⟩), .pointer (some ⟨B, 0, none⟩), e15, f16, e17, f18, e19, e20, e21, e22, e23, e24, e25, e26, e27, e28, e29, e30, e31, e32, e33, e34, e35, e36, e37, e38, e39, e40, e41, e42, e43, e44, e45, e46, e47, e48, e49, e50, e51, e52, e53, e54, e55, e56, e57, e58, e59, e60, e61, e62, e63, e64, e65, f66, f67, f68, f69, f70, f71, f72, f73, f74, f75, f76, f77, f78, f79, f80, f81, f82, f83, f84, f85, f86, f87, f88, f89, f90, f91, f92, f93, f94, f95, f96, f97, f98, f99, f100, f101, f102, f103, f104, f105, f106, f107, f108, f109, f110, f111, f112, f113, f114, f115, f116, f117, f118, e119, e120, e121, e122, e123, e124, e125, e126, e127, e128, e129, e130], defers := [] } W') :
  elem4n8.wp Try.prog (Exit.then K (fun _ _ _ => False)) { tmps := #[e0, .bool phrase, e2, sv new, e4, e5, e6, e7, e8, .slice (some ⟨gN, 0, none⟩) nN cN, .int .i64 (j : Nat), e11, e12, .pointer (some ⟨A, 0, none⟩), .pointer (some ⟨B, 0, none⟩), e15, e16, e17, e18, e19, e20, e21, e22, e23, e24, e25, e26, e27, e28, e29, e30, e31, e32, e33, e34, e35, e36, e37, e38, e39, e40, e41, e42, e43, e44, e45, e46, e47, e48, e49, e50, e51, e52, e53, e54, e55, e56, e57, e58, e59, e60, e61, e62, e63, e64, e65, e66, e67, e68, e69, e70, e71, e72, e73, e74, e75, e76, e77, e78, e79, e80, e81, e82, e83, e84, e85, e86, e87, e88, e89, e90, e91, e92, e93, e94, e95, e96, e97, e98, e99, e100, e101, e102, e103, e104, e105, e106, e107, e108, e109, e110, e111, e112, e113, e114, e115, e116, e117, e118, e119, e120, e121, e122, e123, e124, e125, e126, e127, e128, e129, e130], defers := [] } W := by
 obtain ⟨W1, hW1, gW1, bW1, sW1⟩ := mk_cells W #[.pointer (some ⟨A, 0, none⟩), .pointer (some ⟨B, 0, none⟩)] 43
 have hx1 := hx.below bW1
 have hy1 := hy.below bW1
 have hb1 : Below w.heap.size w W1 := thenB hb bW1
 have HBx := Lib.hid hBx; have HBy := Lib.hid hBy; have HX1 := Lib.hid hx1; have HY1 := Lib.hid hy1; have HB1 := Lib.hid hb1; have HW1 := Lib.hid hW1; have HK0 := Lib.hid hK; have HL1 := Lib.hid gW1; have HNM := Lib.hid hnm
 obtain ⟨L, hLe⟩ : ∃ L, W.heap.size = L := ⟨_, rfl⟩
 have hhL1 : hi1 ≤ L := by omega
 have hhL2 : hi2 ≤ L := by omega
 have HH := Lib.hid (And.intro hA2 hB1)
 rw [hLe] at HL1
 have HLE := Lib.hid hLe
 clear hBx hBy hx hy hb hh1 hh2 hK hx1 hy1 hb1 hW1 gW1 bW1 sW1 hLe hnm hA2 hB1
 unfold elem4n8 code4
 conv => arg 2; whnf
 refine wp_seq_thenQ (fun K0 hK => ?_)
 have HKa := Lib.hid hK
 clear hK
 go_wp2_with fail
 refine HKa.out _ _ ?_
 rw [HW1.out, HLE.out]
 clear HKa K0 HW1
 go_wp2_with fail
 go_loopw [68] (fun iv wr => ∃ (i : Nat) (a b : Ls), iv = .int .i64 i ∧ Hid ((i = 0 ∧ a = x ∧ b = y) ∨ (i = 1 ∧ a = x.renamed phrase j old new ∧ b = y) ∨ (i = 2 ∧ a = x.renamed phrase j old new ∧ b = y.renamed phrase j old new)) ∧ Hid (CopyW A a kx wr) ∧ Hid (CopyW B b ky wr) ∧ Hid (Below w.heap.size w wr) ∧ Hid (wr.heap[L]? = some (.cells #[.pointer (some ⟨A, 0, none⟩), .pointer (some ⟨B, 0, none⟩)] 43 (0, 0)))) (fun iv _ => 3 - (intOf iv).toNat)
 case atStart => exact ⟨0, x, y, rfl, Lib.hid (Or.inl ⟨rfl, rfl, rfl⟩), HX1, HY1, HB1, HL1⟩
 case round =>
  obtain ⟨i, a, b, rfl, hi, Hx, Hy, hBw, hLb⟩ := hrel
  have hLl : L < wr.heap.size := (Array.getElem?_eq_some_iff.1 hLb.out).1
  have cL0 := cell_at hLb.out 0 rfl
  have cL1 := cell_at hLb.out 1 rfl
  rcases hi.out with ⟨rfl, rfl, rfl⟩ | ⟨rfl, rfl, rfl⟩ | ⟨rfl, rfl, rfl⟩
  ·refine wp_seq_thenQ (fun K1 hK => ?_)
   have HK1 := Lib.hid hK
   clear hK
   go_wp2_with fail
   refine HK1.out _ _ ?_
   clear HK1 K1
   refine wp_seq_thenQ (fun K2 hK => ?_)
   have HK2 := Lib.hid hK
   clear hK
   go_wp2_with fail
   refine HK2.out _ _ ?_
   clear HK2 K2
   refine wp_seq_thenQ (fun K3 hK => ?_)
   have HK3 := Lib.hid hK
   clear hK
   refine wp_block ?_
   refine wp_seq_thenQ (fun K4 hK => ?_)
   have HK4 := Lib.hid hK
   clear hK
   go_wp2_with fail
   refine HK4.out _ _ ?_
   clear HK4 K4
   change Code.wp Try.prog (snd2 body4) _ _ _
   refine wp_mono (ren_copy A gN nN cN j _ _ phrase old new _ _ w wr HBx.out Hx.out hBw.out hlx HNM.out hj hjx _ _ _ _ _ _ _ _ _ _ _ _ _ _ _ _ _ _ _ _ _ _ _ _ _ _ _ _ _ _ _ _ _ _ _ _ _ _ _ _ _ _ _ _ _ _ _ _ _ _ _ _ _ _ _ _ _ _ _ _ _ _ _ _ _ _ _ _ _ _ _ _ _ _ _ _ _ _ _ _ _ _ _ _ _ _ _ _ _ _ _ _ _ _ _ _ _ _ _ _ _ _ _ _ _ _ _ _ _ _ _ _ _ _ _ _ _ _ _ _ _ _ _ _ _ _ K3 (fun W' q1 q2 q3 => ?_)) (fun e a w h => by cases e <;> first | exact h | exact False.elim h)
   intros
   refine HK3.out _ _ ?_
   clear HK3 K3
   have hL2 := (q3.2 L hLl fun hbk => by have := HBx.out.blk_ L hbk; omega).trans hLb.out
   have hY2 := Hy.out.stay (Or.inl rfl) HBy.out HBx.out (Or.inr hd) HH.out.2 (by omega) q2 q3
   have HX2 := Lib.hid q1; have HY2 := Lib.hid hY2; have HL2 := Lib.hid hL2; have HB2 := Lib.hid q2
   clear hY2 hL2 q1 q2 q3 cL0 cL1 Hx Hy hBw hLb hi
   go_wp2_with fail
   go_roundw
   case rel => exact ⟨1, _, _, by go_num, Lib.hid (Or.inr (Or.inl ⟨rfl, rfl, rfl⟩)), HX2, HY2, HB2, HL2⟩
   case measure => simp [intOf]
  ·refine wp_seq_thenQ (fun K1 hK => ?_)
   have HK1 := Lib.hid hK
   clear hK
   go_wp2_with fail
   refine HK1.out _ _ ?_
   clear HK1 K1
   refine wp_seq_thenQ (fun K2 hK => ?_)
   have HK2 := Lib.hid hK
   clear hK
   go_wp2_with fail
   refine HK2.out _ _ ?_
   clear HK2 K2
   refine wp_seq_thenQ (fun K3 hK => ?_)
   have HK3 := Lib.hid hK
   clear hK
   refine wp_block ?_
   refine wp_seq_thenQ (fun K4 hK => ?_)
   have HK4 := Lib.hid hK
   clear hK
   go_wp2_with fail
   refine HK4.out _ _ ?_
   clear HK4 K4
   change Code.wp Try.prog (snd2 body4) _ _ _
   refine wp_mono (ren_copy B gN nN cN j _ _ phrase old new _ _ w wr HBy.out Hy.out hBw.out hly HNM.out hj hjy _ _ _ _ _ _ _ _ _ _ _ _ _ _ _ _ _ _ _ _ _ _ _ _ _ _ _ _ _ _ _ _ _ _ _ _ _ _ _ _ _ _ _ _ _ _ _ _ _ _ _ _ _ _ _ _ _ _ _ _ _ _ _ _ _ _ _ _ _ _ _ _ _ _ _ _ _ _ _ _ _ _ _ _ _ _ _ _ _ _ _ _ _ _ _ _ _ _ _ _ _ _ _ _ _ _ _ _ _ _ _ _ _ _ _ _ _ _ _ _ _ _ _ _ _ _ K3 (fun W' q1 q2 q3 => ?_)) (fun e a w h => by cases e <;> first | exact h | exact False.elim h)
   intros
   refine HK3.out _ _ ?_
   clear HK3 K3
   have hL2 := (q3.2 L hLl fun hbk => by have := HBy.out.blk_ L hbk; omega).trans hLb.out
   have hX2 := Hx.out.stay (Or.inr ⟨_, _, _, _, rfl⟩) HBx.out HBy.out (Or.inl hd) HH.out.1 (by omega) q2 q3
   have HX2 := Lib.hid hX2; have HY2 := Lib.hid q1; have HL2 := Lib.hid hL2; have HB2 := Lib.hid q2
   clear hX2 hL2 q1 q2 q3 cL0 cL1 Hx Hy hBw hLb hi
   go_wp2_with fail
   go_roundw
   case rel => exact ⟨2, _, _, by go_num, Lib.hid (Or.inr (Or.inr ⟨rfl, rfl, rfl⟩)), HX2, HY2, HB2, HL2⟩
   case measure => simp [intOf]
  ·go_wp2_with fail
   exact HK0.out _ Hx.out Hy.out hBw.out _ _ _ _ _ _ _ _ _ _ _ _ _ _ _ _ _ _ _ _ _ _ _ _ _ _ _ _ _ _ _ _ _ _ _ _ _ _ _ _ _ _ _ _ _ _ _ _ _ _ _ _ _ _ _
end Go.Proofs.Ytpnbpepkoekkoaa
end
section
namespace Go.Proofs.Ytpnbpepkoekkoaa
open Go Go.RowKit Go.Deep
structure CopyC (w : World) (s : Ls) (ns : List Int) (lo hi : Nat) (y : Ls) (W : World) : Prop where
 base : ∀ Z, w.heap.size ≤ Z → (Z < lo ∨ hi ≤ Z) → CopyB w Z lo hi y
 strip : y.strip = s.strip
 at_ : y.At W
 ns : NsAt W y.refs ns
 free : ∀ r ∈ y.refs, FreeB W r.b
 fra : FreeB W (blk y.ra)
 ffa : FreeB W (blk y.fa)
 low : w.heap.size ≤ lo
 le : lo ≤ hi
 hi : hi ≤ W.heap.size
theorem CopyC.of {w V V1 : World} {s y : Ls} {ns : List Int} (hs : s.At w) (hb : Below w.heap.size w V) (h : CpW s ns V y V1) : CopyC w s ns V.heap.size V1.heap.size y V1 := by
 obtain ⟨⟨a1, a2⟩, ⟨a3, a4⟩⟩ := h.own.lt
 obtain ⟨_, _, ⟨c1, e1, _⟩, _⟩ := shape_of_own h.own.roles (g := blk y.ra) (by rw [h.own.raf]; rfl)
 obtain ⟨_, _, ⟨c2, e2, _⟩, _⟩ := shape_of_own h.own.phrases (g := blk y.fa) (by rw [h.own.faf]; rfl)
 exact ⟨fun Z h1 h2 => ⟨tup_rows h.tup hs, h.sep, h.own.raf, h.own.faf, h.refs_ra, (fun r hr e => by
  rcases List.mem_append.1 hr with h1 | h1
  ·exact h.sep.fa (by rw [← e]; exact phRefs_own h1)
  ·exact h.own.fd (by rw [← (danRefs_mem h1).1]; exact e.symm)), h.own.ra, h.own.rf, h.own.rd, h.own.fd, h.blk_in, hb.size, h1, h2⟩, h.strip, h.at_, h.ns, fun r hr => (h.refs r hr).2, ⟨_, _, e1⟩, ⟨_, _, e2⟩, hb.size, h.below.size, Nat.le_refl _⟩
theorem CopyC.stay {w W W' : World} {s y : Ls} {ns : List Int} {lo hi : Nat} (h : CopyC w s ns lo hi y W) (hb : Below w.heap.size w W') (hl : W.heap.size ≤ W'.heap.size) (hk : ∀ b, lo ≤ b → b < hi → W'.heap[b]? = W.heap[b]?) : CopyC w s ns lo hi y W' := by
 have hB := h.base hi (Nat.le_trans h.low h.le) (Or.inr (Nat.le_refl _))
 have hhi := h.hi
 have hra := hB.blk_ (blk y.ra) (Or.inl rfl)
 have hfa := hB.blk_ (blk y.fa) (Or.inr (Or.inl rfl))
 obtain ⟨h1, h2, h3⟩ := Ls.stay h.at_ h.ns hB.raf (by omega) h.free hB.rows hb hl (fun b hb _ => hk b (hB.blk_ b hb).1 (hB.blk_ b hb).2)
 exact ⟨h.base, h.strip, h1, h2, h3, h.fra.same (hk _ hra.1 hra.2), h.ffa.same (hk _ hfa.1 hfa.2), h.low, h.le, Nat.le_trans h.hi hl⟩
theorem CopyC.below {w W W' : World} {s y : Ls} {ns : List Int} {lo hi : Nat} (h : CopyC w s ns lo hi y W) (hb0 : Below w.heap.size w W) (hb : Below W.heap.size W W') : CopyC w s ns lo hi y W' :=
 h.stay (thenB hb0 hb) hb.size fun b _ h2 => hb.block b (Nat.lt_of_lt_of_le h2 h.hi)
theorem CopyC.toW {w W : World} {s y : Ls} {ns : List Int} {lo hi Z : Nat} (h : CopyC w s ns lo hi y W) (hZ : W.heap[Z]? = some (.cells y.cells 30 (0, 0))) : CopyW Z y ns W := ⟨h.at_, h.ns, h.free, h.fra, h.ffa, hZ⟩
structure TwoR (s x : Ls) (ns ks : List Int) (w : World) (y z : Ls) (A B : Nat) (W : World) : Prop where
 rng : ∃ lo1 hi1 lo2 hi2, CopyC w s ns lo1 hi1 y W ∧ CopyC w x ks lo2 hi2 z W ∧ hi1 ≤ lo2 ∧ (A < lo1 ∨ hi1 ≤ A) ∧ (A < lo2 ∨ hi2 ≤ A) ∧ (B < lo1 ∨ hi1 ≤ B) ∧ (B < lo2 ∨ hi2 ≤ B)
 a0 : w.heap.size ≤ A
 b0 : w.heap.size ≤ B
 ya : W.heap[A]? = some (.cells y.cells 30 (0, 0))
 zb : W.heap[B]? = some (.cells z.cells 30 (0, 0))
 below : Below w.heap.size w W
def opsOf : Code → Array Oper | .region _ o _ => o | .seq (.region _ o _) _ => o | _ => #[]
noncomputable def ops4n10 : Array Oper := opsOf elem4n7
structure RG (s x : Ls) (ns ks : List Int) (A0 X : Nat) (w : World) : Prop where
 hA : w.heap[A0]? = some (.cells s.cells 30 (0, 0))
 hX : w.heap[X]? = some (.cells x.cells 30 (0, 0))
 hs : s.At w
 hx : x.At w
 hsn : NsAt w s.refs ns
 hxn : NsAt w x.refs ks
 hcs : s.cpOk
 hcx : x.cpOk
def RS (s x : Ls) (A0 X : Nat) (V : World) : Prop := V.heap[A0]? = some (.cells s.cells 30 (0, 0)) ∧ V.heap[X]? = some (.cells x.cells 30 (0, 0))
theorem RG.s {s x : Ls} {ns ks : List Int} {A0 X : Nat} {w V : World} (h : RG s x ns ks A0 X w) (hb : Below w.heap.size w V) : RS s x A0 X V := ⟨keepO hb h.hA, keepO hb h.hX⟩
set_option maxRecDepth 100000 in
set_option maxHeartbeats 16000000 in
theorem r4_211 (s x : Ls) (ns ks : List Int) (A0 X : Nat) (w : World) (Q : Exit → Act → World → Prop) (hG : RG s x ns ks A0 X w) (e0 e1 e2 e3 e5 e6 e7 e8 e9 e10 e12 e15 e16 e17 e18 e19 e20 e21 e22 e23 e24 e25 e26 e27 e28 e29 e30 e31 e32 e33 e34 e35 e36 e37 e38 e39 e40 e41 e42 e43 e44 e45 e46 e47 e48 e49 e50 e51 e52 e53 e54 e55 e56 e57 e58 e59 e60 e61 e66 e67 e68 e69 e70 e71 e72 e73 e74 e75 e76 e77 e78 e79 e80 e81 e82 e83 e84 e85 e86 e87 e88 e89 e90 e91 e92 e93 e94 e95 e96 e97 e98 e99 e100 e101 e102 e103 e104 e105 e106 e107 e108 e109 e110 e111 e112 e113 e114 e115 e116 e117 e118 e119 e120 e121 e122 e123 e124 e125 e126 e127 e128 e129 e130 : Value) (HQ : ∀ (y z : Ls) (A B : Nat) (W : World), TwoR s x ns ks w y z A B W → ∀ (f62 f63 f64 f65 : Value), Q .normal { tmps := #[e0, e1, e2, e3, .pointer (some ⟨A0, 0, none⟩), e5, e6, e7, e8, e9, e10, .pointer (some ⟨X, 0, none⟩), e12, .pointer (some ⟨A, 0, none⟩), .pointer (some ⟨B, 0, none⟩), e15, e16, e17, e18, e19, e20, e21, e22, e23, e24, e25, e26, e27, e28, e29, e30, e31, e32, e33, e34, e35, e36, e37, e38, e39, e40, e41, e42, e43, e44, e45, e46, e47, e48, e49, e50, e51, e52, e53, e54, e55, e56, e57, e58, e59, e60, e61, f62, f63, f64, f65, e66, e67, e68, e69, e70, e71, e72, e73, e74, e75, e76, e77, e78, e79, e80, e81, e82, e83, e84, e85, e86, e87, e88, e89, e90, e91, e92, e93, e94, e95, e96, e97, e98, e99, e100, e101, e102, e103, e104, e105, e106, e107, e108, e109, e110, e111, e112, e113, e114, e115, e116, e117, e118, e119, e120, e121, e122, e123, e124, e125, e126, e127, e128, e129, e130], defers := [] } W) (W : World) (hb : Below w.heap.size w W) (y : Ls) (lo1 hi1 : Nat) (hy : CopyC w s ns lo1 hi1 y W) (z : Ls) (lo2 hi2 : Nat) (hz : CopyC w x ks lo2 hi2 z W) (hd : hi1 ≤ lo2) (A : Nat) (gA : w.heap.size ≤ A) (oA : W.heap[A]? = some (.cells zeroSc 30 (0, 0))) (a1 : A < lo1 ∨ hi1 ≤ A) (a2 : A < lo2 ∨ hi2 ≤ A) (B : Nat) (gB : w.heap.size ≤ B) (oB : W.heap[B]? = some (.cells zeroSc 30 (0, 0))) (b1 : B < lo1 ∨ hi1 ≤ B) (b2 : B < lo2 ∨ hi2 ≤ B) (hAB : A ≠ B) :
  wpAnyH Try.prog .any ops4n10 Q (RS s x A0 X) 2 #[true, true, true, true, true, true, false, false] { tmps := #[e0, e1, e2, e3, .pointer (some ⟨A0, 0, none⟩), e5, e6, e7, e8, e9, e10, .pointer (some ⟨X, 0, none⟩), e12, .pointer (some ⟨A, 0, none⟩), .pointer (some ⟨B, 0, none⟩), e15, e16, e17, e18, e19, e20, e21, e22, e23, e24, e25, e26, e27, e28, e29, e30, e31, e32, e33, e34, e35, e36, e37, e38, e39, e40, e41, e42, e43, e44, e45, e46, e47, e48, e49, e50, e51, e52, e53, e54, e55, e56, e57, e58, e59, e60, e61, .agg #[sv s.name, .int .i64 s.wd, .int .i64 s.dp, .int .i64 s.bars, .int .i64 s.t0, .int .i64 s.t1, .slice s.ra s.roles.length s.rc, .slice s.ta s.tempos.length s.tc, .slice s.ua s.pauses.length s.uc, .slice s.sa s.spans.length s.sc, .slice s.fa s.phrases.length s.fc, .slice s.da s.dances.length s.dc], .agg #[sv y.name, .int .i64 y.wd, .int .i64 y.dp, .int .i64 y.bars, .int .i64 y.t0, .int .i64 y.t1, .slice y.ra y.roles.length y.rc, .slice y.ta y.tempos.length y.tc, .slice y.ua y.pauses.length y.uc, .slice y.sa y.spans.length y.sc, .slice y.fa y.phrases.length y.fc, .slice y.da y.dances.length y.dc], .agg #[sv x.name, .int .i64 x.wd, .int .i64 x.dp, .int .i64 x.bars, .int .i64 x.t0, .int .i64 x.t1, .slice x.ra x.roles.length x.rc, .slice x.ta x.tempos.length x.tc, .slice x.ua x.pauses.length x.uc, .slice x.sa x.spans.length x.sc, .slice x.fa x.phrases.length x.fc, .slice x.da x.dances.length x.dc], .agg #[sv z.name, .int .i64 z.wd, .int .i64 z.dp, .int .i64 z.bars, .int .i64 z.t0, .int .i64 z.t1, .slice z.ra z.roles.length z.rc, .slice z.ta z.tempos.length z.tc, .slice z.ua z.pauses.length z.uc, .slice z.sa z.spans.length z.sc, .slice z.fa z.phrases.length z.fc, .slice z.da z.dances.length z.dc], e66, e67, e68, e69, e70, e71, e72, e73, e74, e75, e76, e77, e78, e79, e80, e81, e82, e83, e84, e85, e86, e87, e88, e89, e90, e91, e92, e93, e94, e95, e96, e97, e98, e99, e100, e101, e102, e103, e104, e105, e106, e107, e108, e109, e110, e111, e112, e113, e114, e115, e116, e117, e118, e119, e120, e121, e122, e123, e124, e125, e126, e127, e128, e129, e130], defers := [] } W := by
 dsimp only
 unfold ops4n10 elem4n7 code4
 conv => arg 3; whnf
 have hS : RS s x A0 X W := hG.s hb
 have lA : A < W.heap.size := (Array.getElem?_eq_some_iff.1 oA).1
 have lB : B < W.heap.size := (Array.getElem?_eq_some_iff.1 oB).1
 have y0 := cell_at oA 0 rfl; have y1 := cell_at oA 1 rfl; have y2 := cell_at oA 2 rfl; have y3 := cell_at oA 3 rfl; have y4 := cell_at oA 4 rfl; have y5 := cell_at oA 5 rfl; have y6 := cell_at oA 6 rfl; have y7 := cell_at oA 7 rfl; have y8 := cell_at oA 8 rfl; have y9 := cell_at oA 9 rfl; have y10 := cell_at oA 10 rfl; have y11 := cell_at oA 11 rfl
 have f0 : ∀ q, W.frozen? ⟨A, q, none⟩ = false := fun q => by simp [World.frozen?, oA]
 obtain ⟨W4, hW4, g4, k4, p4, s4⟩ := set_score oA rfl (sv y.name) (.int .i64 y.wd) (.int .i64 y.dp) (.int .i64 y.bars) (.int .i64 y.t0) (.int .i64 y.t1) (.slice y.ra y.roles.length y.rc) (.slice y.ta y.tempos.length y.tc) (.slice y.ua y.pauses.length y.uc) (.slice y.sa y.spans.length y.sc) (.slice y.fa y.phrases.length y.fc) (.slice y.da y.dances.length y.dc)
 have oB2 : W4.heap[B]? = some (.cells zeroSc 30 (0, 0)) := (k4 B (fun e => hAB e.symm)).trans oB
 obtain ⟨W5, hW5, g5, k5, p5, s5⟩ := set_score oB2 rfl (sv z.name) (.int .i64 z.wd) (.int .i64 z.dp) (.int .i64 z.bars) (.int .i64 z.t0) (.int .i64 z.t1) (.slice z.ra z.roles.length z.rc) (.slice z.ta z.tempos.length z.tc) (.slice z.ua z.pauses.length z.uc) (.slice z.sa z.spans.length z.sc) (.slice z.fa z.phrases.length z.fc) (.slice z.da z.dances.length z.dc)
 have hb4 := p4 _ _ hb gA
 have hb5 := p5 _ _ hb4 gB
 have hk5 : ∀ b, b ≠ A → b ≠ B → W5.heap[b]? = W.heap[b]? := fun b h1 h2 => (k5 b h2).trans (k4 b h1)
 have hlo1 := hy.low; have hle1 := hy.le; have hlo2 := hz.low; have hle2 := hz.le
 have hfin : TwoR s x ns ks w y z A B W5 := ⟨⟨lo1, hi1, lo2, hi2, hy.stay hb5 (by omega) (fun b h1 h2 => hk5 b (by omega) (by omega)), hz.stay hb5 (by omega) (fun b h1 h2 => hk5 b (by omega) (by omega)), hd, a1, a2, b1, b2⟩, gA, gB, (k5 A hAB).trans g4, g5, hb5⟩
 have HF := Lib.hid (HQ y z A B W5 hfin)
 have HW4 := Lib.hid hW4; have HW5 := Lib.hid hW5; have HS4 := Lib.hid (hG.s hb4); have HS5 := Lib.hid (hG.s hb5)
 have HO2 := Lib.hid oB2
 clear HQ hG hb hy hz hd gA oA a1 a2 gB oB b1 b2 hAB hS lA lB g4 k4 p4 s4 g5 k5 p5 s5 hb4 hb5 hk5 hlo1 hle1 hlo2 hle2 hfin hW4 hW5 oB2
 refine wpAnyH_ready (rs := [6]) (by kernel_rfl) (by simp) ?_
 refine AllReadyH.cons (o := _) rfl (fun K1 hK => ?_) AllReadyH.nil
 go_simp
 rw [HW4.out]
 refine hK.out _ _ HS4.out (fun _ => ?_)
 clear hK K1 HW4 HS4 f0 y0 y1 y2 y3 y4 y5 y6 y7 y8 y9 y10 y11
 try (simp only [Act.put, List.getElem_toArray, List.getElem_cons_zero, List.getElem_cons_succ, List.setIfInBounds_toArray, List.set_cons_zero, List.set_cons_succ])
 have oB2 := HO2.out
 have y0 := cell_at oB2 0 rfl; have y1 := cell_at oB2 1 rfl; have y2 := cell_at oB2 2 rfl; have y3 := cell_at oB2 3 rfl; have y4 := cell_at oB2 4 rfl; have y5 := cell_at oB2 5 rfl; have y6 := cell_at oB2 6 rfl; have y7 := cell_at oB2 7 rfl; have y8 := cell_at oB2 8 rfl; have y9 := cell_at oB2 9 rfl; have y10 := cell_at oB2 10 rfl; have y11 := cell_at oB2 11 rfl
 have f0 : ∀ q, W4.frozen? ⟨B, q, none⟩ = false := fun q => by simp [World.frozen?, oB2]
 clear oB2
 refine wpAnyH_ready (rs := [7]) (by kernel_rfl) (by simp) ?_
 refine AllReadyH.cons (o := _) rfl (fun K1 hK => ?_) AllReadyH.nil
 go_simp
 rw [HW5.out]
 refine hK.out _ _ HS5.out (fun _ => ?_)
 clear hK K1 HW5 HS5 f0 y0 y1 y2 y3 y4 y5 y6 y7 y8 y9 y10 y11
 try (simp only [Act.put, List.getElem_toArray, List.getElem_cons_zero, List.getElem_cons_succ, List.setIfInBounds_toArray, List.set_cons_zero, List.set_cons_succ])
 refine wpAnyH_done (by kernel_rfl) ?_ _
 exact HF.out _ _ _ _
set_option maxRecDepth 100000 in
set_option maxHeartbeats 16000000 in
theorem r4_210 (s x : Ls) (ns ks : List Int) (A0 X : Nat) (w : World) (Q : Exit → Act → World → Prop) (hG : RG s x ns ks A0 X w) (e0 e1 e2 e3 e5 e6 e7 e8 e9 e10 e12 e15 e16 e17 e18 e19 e20 e21 e22 e23 e24 e25 e26 e27 e28 e29 e30 e31 e32 e33 e34 e35 e36 e37 e38 e39 e40 e41 e42 e43 e44 e45 e46 e47 e48 e49 e50 e51 e52 e53 e54 e55 e56 e57 e58 e59 e60 e61 e66 e67 e68 e69 e70 e71 e72 e73 e74 e75 e76 e77 e78 e79 e80 e81 e82 e83 e84 e85 e86 e87 e88 e89 e90 e91 e92 e93 e94 e95 e96 e97 e98 e99 e100 e101 e102 e103 e104 e105 e106 e107 e108 e109 e110 e111 e112 e113 e114 e115 e116 e117 e118 e119 e120 e121 e122 e123 e124 e125 e126 e127 e128 e129 e130 : Value) (HQ : ∀ (y z : Ls) (A B : Nat) (W : World), TwoR s x ns ks w y z A B W → ∀ (f62 f63 f64 f65 : Value), Q .normal { tmps := #[e0, e1, e2, e3, .pointer (some ⟨A0, 0, none⟩), e5, e6, e7, e8, e9, e10, .pointer (some ⟨X, 0, none⟩), e12, .pointer (some ⟨A, 0, none⟩), .pointer (some ⟨B, 0, none⟩), e15, e16, e17, e18, e19, e20, e21, e22, e23, e24, e25, e26, e27, e28, e29, e30, e31, e32, e33, e34, e35, e36, e37, e38, e39, e40, e41, e42, e43, e44, e45, e46, e47, e48, e49, e50, e51, e52, e53, e54, e55, e56, e57, e58, e59, e60, e61, f62, f63, f64, f65, e66, e67, e68, e69, e70, e71, e72, e73, e74, e75, e76, e77, e78, e79, e80, e81, e82, e83, e84, e85, e86, e87, e88, e89, e90, e91, e92, e93, e94, e95, e96, e97, e98, e99, e100, e101, e102, e103, e104, e105, e106, e107, e108, e109, e110, e111, e112, e113, e114, e115, e116, e117, e118, e119, e120, e121, e122, e123, e124, e125, e126, e127, e128, e129, e130], defers := [] } W) (W : World) (hb : Below w.heap.size w W) (y : Ls) (lo1 hi1 : Nat) (hy : CopyC w s ns lo1 hi1 y W) (z : Ls) (lo2 hi2 : Nat) (hz : CopyC w x ks lo2 hi2 z W) (hd : hi1 ≤ lo2) (A : Nat) (gA : w.heap.size ≤ A) (oA : W.heap[A]? = some (.cells zeroSc 30 (0, 0))) (a1 : A < lo1 ∨ hi1 ≤ A) (a2 : A < lo2 ∨ hi2 ≤ A) (e14 : Value) :
  wpAnyH Try.prog .any ops4n10 Q (RS s x A0 X) 3 #[true, true, true, true, true, false, false, false] { tmps := #[e0, e1, e2, e3, .pointer (some ⟨A0, 0, none⟩), e5, e6, e7, e8, e9, e10, .pointer (some ⟨X, 0, none⟩), e12, .pointer (some ⟨A, 0, none⟩), e14, e15, e16, e17, e18, e19, e20, e21, e22, e23, e24, e25, e26, e27, e28, e29, e30, e31, e32, e33, e34, e35, e36, e37, e38, e39, e40, e41, e42, e43, e44, e45, e46, e47, e48, e49, e50, e51, e52, e53, e54, e55, e56, e57, e58, e59, e60, e61, .agg #[sv s.name, .int .i64 s.wd, .int .i64 s.dp, .int .i64 s.bars, .int .i64 s.t0, .int .i64 s.t1, .slice s.ra s.roles.length s.rc, .slice s.ta s.tempos.length s.tc, .slice s.ua s.pauses.length s.uc, .slice s.sa s.spans.length s.sc, .slice s.fa s.phrases.length s.fc, .slice s.da s.dances.length s.dc], .agg #[sv y.name, .int .i64 y.wd, .int .i64 y.dp, .int .i64 y.bars, .int .i64 y.t0, .int .i64 y.t1, .slice y.ra y.roles.length y.rc, .slice y.ta y.tempos.length y.tc, .slice y.ua y.pauses.length y.uc, .slice y.sa y.spans.length y.sc, .slice y.fa y.phrases.length y.fc, .slice y.da y.dances.length y.dc], .agg #[sv x.name, .int .i64 x.wd, .int .i64 x.dp, .int .i64 x.bars, .int .i64 x.t0, .int .i64 x.t1, .slice x.ra x.roles.length x.rc, .slice x.ta x.tempos.length x.tc, .slice x.ua x.pauses.length x.uc, .slice x.sa x.spans.length x.sc, .slice x.fa x.phrases.length x.fc, .slice x.da x.dances.length x.dc], .agg #[sv z.name, .int .i64 z.wd, .int .i64 z.dp, .int .i64 z.bars, .int .i64 z.t0, .int .i64 z.t1, .slice z.ra z.roles.length z.rc, .slice z.ta z.tempos.length z.tc, .slice z.ua z.pauses.length z.uc, .slice z.sa z.spans.length z.sc, .slice z.fa z.phrases.length z.fc, .slice z.da z.dances.length z.dc], e66, e67, e68, e69, e70, e71, e72, e73, e74, e75, e76, e77, e78, e79, e80, e81, e82, e83, e84, e85, e86, e87, e88, e89, e90, e91, e92, e93, e94, e95, e96, e97, e98, e99, e100, e101, e102, e103, e104, e105, e106, e107, e108, e109, e110, e111, e112, e113, e114, e115, e116, e117, e118, e119, e120, e121, e122, e123, e124, e125, e126, e127, e128, e129, e130], defers := [] } W := by
 dsimp only
 unfold ops4n10 elem4n7 code4
 conv => arg 3; whnf
 have hS : RS s x A0 X W := hG.s hb
 refine wpAnyH_ready (rs := [5]) (by kernel_rfl) (by simp) ?_
 refine AllReadyH.cons (o := _) rfl (fun K1 hK => ?_) AllReadyH.nil
 ·obtain ⟨V, hV, oV, bV, sV⟩ := mk_cells W zeroSc 30
  have hbV := thenB hb bV
  have hSV := hG.s hbV
  unfold zeroSc at hV
  clear hS
  go_simp
  have hle1 := hy.hi
  have hle2 := hz.hi
  have lA : A < W.heap.size := (Array.getElem?_eq_some_iff.1 oA).1
  simp only [sv] at hV
  try rw [hV]
  refine hK.out _ _ hSV (fun _ => ?_)
  try (simp only [Act.put, List.getElem_toArray, List.getElem_cons_zero, List.getElem_cons_succ, List.setIfInBounds_toArray, List.set_cons_zero, List.set_cons_succ])
  exact r4_211 s x ns ks A0 X w Q hG _ _ _ _ _ _ _ _ _ _ _ _ _ _ _ _ _ _ _ _ _ _ _ _ _ _ _ _ _ _ _ _ _ _ _ _ _ _ _ _ _ _ _ _ _ _ _ _ _ _ _ _ _ _ _ _ _ _ _ _ _ _ _ _ _ _ _ _ _ _ _ _ _ _ _ _ _ _ _ _ _ _ _ _ _ _ _ _ _ _ _ _ _ _ _ _ _ _ _ _ _ _ _ _ _ _ _ _ _ _ _ _ _ _ _ _ _ _ _ _ _ _ _ HQ V hbV y lo1 hi1 (hy.below hb bV) z lo2 hi2 (hz.below hb bV) hd A gA (keepO bV oA) a1 a2 W.heap.size hb.size oV (Or.inr hle1) (Or.inr hle2) (by omega) 
set_option maxRecDepth 100000 in
set_option maxHeartbeats 16000000 in
theorem r4_201 (s x : Ls) (ns ks : List Int) (A0 X : Nat) (w : World) (Q : Exit → Act → World → Prop) (hG : RG s x ns ks A0 X w) (e0 e1 e2 e3 e5 e6 e7 e8 e9 e10 e12 e15 e16 e17 e18 e19 e20 e21 e22 e23 e24 e25 e26 e27 e28 e29 e30 e31 e32 e33 e34 e35 e36 e37 e38 e39 e40 e41 e42 e43 e44 e45 e46 e47 e48 e49 e50 e51 e52 e53 e54 e55 e56 e57 e58 e59 e60 e61 e66 e67 e68 e69 e70 e71 e72 e73 e74 e75 e76 e77 e78 e79 e80 e81 e82 e83 e84 e85 e86 e87 e88 e89 e90 e91 e92 e93 e94 e95 e96 e97 e98 e99 e100 e101 e102 e103 e104 e105 e106 e107 e108 e109 e110 e111 e112 e113 e114 e115 e116 e117 e118 e119 e120 e121 e122 e123 e124 e125 e126 e127 e128 e129 e130 : Value) (HQ : ∀ (y z : Ls) (A B : Nat) (W : World), TwoR s x ns ks w y z A B W → ∀ (f62 f63 f64 f65 : Value), Q .normal { tmps := #[e0, e1, e2, e3, .pointer (some ⟨A0, 0, none⟩), e5, e6, e7, e8, e9, e10, .pointer (some ⟨X, 0, none⟩), e12, .pointer (some ⟨A, 0, none⟩), .pointer (some ⟨B, 0, none⟩), e15, e16, e17, e18, e19, e20, e21, e22, e23, e24, e25, e26, e27, e28, e29, e30, e31, e32, e33, e34, e35, e36, e37, e38, e39, e40, e41, e42, e43, e44, e45, e46, e47, e48, e49, e50, e51, e52, e53, e54, e55, e56, e57, e58, e59, e60, e61, f62, f63, f64, f65, e66, e67, e68, e69, e70, e71, e72, e73, e74, e75, e76, e77, e78, e79, e80, e81, e82, e83, e84, e85, e86, e87, e88, e89, e90, e91, e92, e93, e94, e95, e96, e97, e98, e99, e100, e101, e102, e103, e104, e105, e106, e107, e108, e109, e110, e111, e112, e113, e114, e115, e116, e117, e118, e119, e120, e121, e122, e123, e124, e125, e126, e127, e128, e129, e130], defers := [] } W) (W : World) (hb : Below w.heap.size w W) (y : Ls) (lo1 hi1 : Nat) (hy : CopyC w s ns lo1 hi1 y W) (z : Ls) (lo2 hi2 : Nat) (hz : CopyC w x ks lo2 hi2 z W) (hd : hi1 ≤ lo2) (B : Nat) (gB : w.heap.size ≤ B) (oB : W.heap[B]? = some (.cells zeroSc 30 (0, 0))) (b1 : B < lo1 ∨ hi1 ≤ B) (b2 : B < lo2 ∨ hi2 ≤ B) (e13 : Value) :
  wpAnyH Try.prog .any ops4n10 Q (RS s x A0 X) 3 #[true, true, true, true, false, true, false, false] { tmps := #[e0, e1, e2, e3, .pointer (some ⟨A0, 0, none⟩), e5, e6, e7, e8, e9, e10, .pointer (some ⟨X, 0, none⟩), e12, e13, .pointer (some ⟨B, 0, none⟩), e15, e16, e17, e18, e19, e20, e21, e22, e23, e24, e25, e26, e27, e28, e29, e30, e31, e32, e33, e34, e35, e36, e37, e38, e39, e40, e41, e42, e43, e44, e45, e46, e47, e48, e49, e50, e51, e52, e53, e54, e55, e56, e57, e58, e59, e60, e61, .agg #[sv s.name, .int .i64 s.wd, .int .i64 s.dp, .int .i64 s.bars, .int .i64 s.t0, .int .i64 s.t1, .slice s.ra s.roles.length s.rc, .slice s.ta s.tempos.length s.tc, .slice s.ua s.pauses.length s.uc, .slice s.sa s.spans.length s.sc, .slice s.fa s.phrases.length s.fc, .slice s.da s.dances.length s.dc], .agg #[sv y.name, .int .i64 y.wd, .int .i64 y.dp, .int .i64 y.bars, .int .i64 y.t0, .int .i64 y.t1, .slice y.ra y.roles.length y.rc, .slice y.ta y.tempos.length y.tc, .slice y.ua y.pauses.length y.uc, .slice y.sa y.spans.length y.sc, .slice y.fa y.phrases.length y.fc, .slice y.da y.dances.length y.dc], .agg #[sv x.name, .int .i64 x.wd, .int .i64 x.dp, .int .i64 x.bars, .int .i64 x.t0, .int .i64 x.t1, .slice x.ra x.roles.length x.rc, .slice x.ta x.tempos.length x.tc, .slice x.ua x.pauses.length x.uc, .slice x.sa x.spans.length x.sc, .slice x.fa x.phrases.length x.fc, .slice x.da x.dances.length x.dc], .agg #[sv z.name, .int .i64 z.wd, .int .i64 z.dp, .int .i64 z.bars, .int .i64 z.t0, .int .i64 z.t1, .slice z.ra z.roles.length z.rc, .slice z.ta z.tempos.length z.tc, .slice z.ua z.pauses.length z.uc, .slice z.sa z.spans.length z.sc, .slice z.fa z.phrases.length z.fc, .slice z.da z.dances.length z.dc], e66, e67, e68, e69, e70, e71, e72, e73, e74, e75, e76, e77, e78, e79, e80, e81, e82, e83, e84, e85, e86, e87, e88, e89, e90, e91, e92, e93, e94, e95, e96, e97, e98, e99, e100, e101, e102, e103, e104, e105, e106, e107, e108, e109, e110, e111, e112, e113, e114, e115, e116, e117, e118, e119, e120, e121, e122, e123, e124, e125, e126, e127, e128, e129, e130], defers := [] } W := by
 dsimp only
 unfold ops4n10 elem4n7 code4
 conv => arg 3; whnf
 have hS : RS s x A0 X W := hG.s hb
 refine wpAnyH_ready (rs := [4]) (by kernel_rfl) (by simp) ?_
 refine AllReadyH.cons (o := _) rfl (fun K1 hK => ?_) AllReadyH.nil
 ·obtain ⟨V, hV, oV, bV, sV⟩ := mk_cells W zeroSc 30
  have hbV := thenB hb bV
  have hSV := hG.s hbV
  unfold zeroSc at hV
  clear hS
  go_simp
  have hle1 := hy.hi
  have hle2 := hz.hi
  have lB : B < W.heap.size := (Array.getElem?_eq_some_iff.1 oB).1
  simp only [sv] at hV
  try rw [hV]
  refine hK.out _ _ hSV (fun _ => ?_)
  try (simp only [Act.put, List.getElem_toArray, List.getElem_cons_zero, List.getElem_cons_succ, List.setIfInBounds_toArray, List.set_cons_zero, List.set_cons_succ])
  exact r4_211 s x ns ks A0 X w Q hG _ _ _ _ _ _ _ _ _ _ _ _ _ _ _ _ _ _ _ _ _ _ _ _ _ _ _ _ _ _ _ _ _ _ _ _ _ _ _ _ _ _ _ _ _ _ _ _ _ _ _ _ _ _ _ _ _ _ _ _ _ _ _ _ _ _ _ _ _ _ _ _ _ _ _ _ _ _ _ _ _ _ _ _ _ _ _ _ _ _ _ _ _ _ _ _ _ _ _ _ _ _ _ _ _ _ _ _ _ _ _ _ _ _ _ _ _ _ _ _ _ _ _ HQ V hbV y lo1 hi1 (hy.below hb bV) z lo2 hi2 (hz.below hb bV) hd W.heap.size hb.size oV (Or.inr hle1) (Or.inr hle2) B gB (keepO bV oB) b1 b2 (by omega) 
set_option maxRecDepth 100000 in
set_option maxHeartbeats 16000000 in
theorem r4_200 (s x : Ls) (ns ks : List Int) (A0 X : Nat) (w : World) (Q : Exit → Act → World → Prop) (hG : RG s x ns ks A0 X w) (e0 e1 e2 e3 e5 e6 e7 e8 e9 e10 e12 e15 e16 e17 e18 e19 e20 e21 e22 e23 e24 e25 e26 e27 e28 e29 e30 e31 e32 e33 e34 e35 e36 e37 e38 e39 e40 e41 e42 e43 e44 e45 e46 e47 e48 e49 e50 e51 e52 e53 e54 e55 e56 e57 e58 e59 e60 e61 e66 e67 e68 e69 e70 e71 e72 e73 e74 e75 e76 e77 e78 e79 e80 e81 e82 e83 e84 e85 e86 e87 e88 e89 e90 e91 e92 e93 e94 e95 e96 e97 e98 e99 e100 e101 e102 e103 e104 e105 e106 e107 e108 e109 e110 e111 e112 e113 e114 e115 e116 e117 e118 e119 e120 e121 e122 e123 e124 e125 e126 e127 e128 e129 e130 : Value) (HQ : ∀ (y z : Ls) (A B : Nat) (W : World), TwoR s x ns ks w y z A B W → ∀ (f62 f63 f64 f65 : Value), Q .normal { tmps := #[e0, e1, e2, e3, .pointer (some ⟨A0, 0, none⟩), e5, e6, e7, e8, e9, e10, .pointer (some ⟨X, 0, none⟩), e12, .pointer (some ⟨A, 0, none⟩), .pointer (some ⟨B, 0, none⟩), e15, e16, e17, e18, e19, e20, e21, e22, e23, e24, e25, e26, e27, e28, e29, e30, e31, e32, e33, e34, e35, e36, e37, e38, e39, e40, e41, e42, e43, e44, e45, e46, e47, e48, e49, e50, e51, e52, e53, e54, e55, e56, e57, e58, e59, e60, e61, f62, f63, f64, f65, e66, e67, e68, e69, e70, e71, e72, e73, e74, e75, e76, e77, e78, e79, e80, e81, e82, e83, e84, e85, e86, e87, e88, e89, e90, e91, e92, e93, e94, e95, e96, e97, e98, e99, e100, e101, e102, e103, e104, e105, e106, e107, e108, e109, e110, e111, e112, e113, e114, e115, e116, e117, e118, e119, e120, e121, e122, e123, e124, e125, e126, e127, e128, e129, e130], defers := [] } W) (W : World) (hb : Below w.heap.size w W) (y : Ls) (lo1 hi1 : Nat) (hy : CopyC w s ns lo1 hi1 y W) (z : Ls) (lo2 hi2 : Nat) (hz : CopyC w x ks lo2 hi2 z W) (hd : hi1 ≤ lo2) (e13 e14 : Value) :
  wpAnyH Try.prog .any ops4n10 Q (RS s x A0 X) 4 #[true, true, true, true, false, false, false, false] { tmps := #[e0, e1, e2, e3, .pointer (some ⟨A0, 0, none⟩), e5, e6, e7, e8, e9, e10, .pointer (some ⟨X, 0, none⟩), e12, e13, e14, e15, e16, e17, e18, e19, e20, e21, e22, e23, e24, e25, e26, e27, e28, e29, e30, e31, e32, e33, e34, e35, e36, e37, e38, e39, e40, e41, e42, e43, e44, e45, e46, e47, e48, e49, e50, e51, e52, e53, e54, e55, e56, e57, e58, e59, e60, e61, .agg #[sv s.name, .int .i64 s.wd, .int .i64 s.dp, .int .i64 s.bars, .int .i64 s.t0, .int .i64 s.t1, .slice s.ra s.roles.length s.rc, .slice s.ta s.tempos.length s.tc, .slice s.ua s.pauses.length s.uc, .slice s.sa s.spans.length s.sc, .slice s.fa s.phrases.length s.fc, .slice s.da s.dances.length s.dc], .agg #[sv y.name, .int .i64 y.wd, .int .i64 y.dp, .int .i64 y.bars, .int .i64 y.t0, .int .i64 y.t1, .slice y.ra y.roles.length y.rc, .slice y.ta y.tempos.length y.tc, .slice y.ua y.pauses.length y.uc, .slice y.sa y.spans.length y.sc, .slice y.fa y.phrases.length y.fc, .slice y.da y.dances.length y.dc], .agg #[sv x.name, .int .i64 x.wd, .int .i64 x.dp, .int .i64 x.bars, .int .i64 x.t0, .int .i64 x.t1, .slice x.ra x.roles.length x.rc, .slice x.ta x.tempos.length x.tc, .slice x.ua x.pauses.length x.uc, .slice x.sa x.spans.length x.sc, .slice x.fa x.phrases.length x.fc, .slice x.da x.dances.length x.dc], .agg #[sv z.name, .int .i64 z.wd, .int .i64 z.dp, .int .i64 z.bars, .int .i64 z.t0, .int .i64 z.t1, .slice z.ra z.roles.length z.rc, .slice z.ta z.tempos.length z.tc, .slice z.ua z.pauses.length z.uc, .slice z.sa z.spans.length z.sc, .slice z.fa z.phrases.length z.fc, .slice z.da z.dances.length z.dc], e66, e67, e68, e69, e70, e71, e72, e73, e74, e75, e76, e77, e78, e79, e80, e81, e82, e83, e84, e85, e86, e87, e88, e89, e90, e91, e92, e93, e94, e95, e96, e97, e98, e99, e100, e101, e102, e103, e104, e105, e106, e107, e108, e109, e110, e111, e112, e113, e114, e115, e116, e117, e118, e119, e120, e121, e122, e123, e124, e125, e126, e127, e128, e129, e130], defers := [] } W := by
 dsimp only
 unfold ops4n10 elem4n7 code4
 conv => arg 3; whnf
 have hS : RS s x A0 X W := hG.s hb
 refine wpAnyH_ready (rs := [4, 5]) (by kernel_rfl) (by simp) ?_
 refine AllReadyH.cons (o := _) rfl (fun K1 hK => ?_) (AllReadyH.cons (o := _) rfl (fun K1 hK => ?_) AllReadyH.nil)
 ·obtain ⟨V, hV, oV, bV, sV⟩ := mk_cells W zeroSc 30
  have hbV := thenB hb bV
  have hSV := hG.s hbV
  unfold zeroSc at hV
  clear hS
  go_simp
  have hle1 := hy.hi
  have hle2 := hz.hi
  simp only [sv] at hV
  try rw [hV]
  refine hK.out _ _ hSV (fun _ => ?_)
  try (simp only [Act.put, List.getElem_toArray, List.getElem_cons_zero, List.getElem_cons_succ, List.setIfInBounds_toArray, List.set_cons_zero, List.set_cons_succ])
  exact r4_210 s x ns ks A0 X w Q hG _ _ _ _ _ _ _ _ _ _ _ _ _ _ _ _ _ _ _ _ _ _ _ _ _ _ _ _ _ _ _ _ _ _ _ _ _ _ _ _ _ _ _ _ _ _ _ _ _ _ _ _ _ _ _ _ _ _ _ _ _ _ _ _ _ _ _ _ _ _ _ _ _ _ _ _ _ _ _ _ _ _ _ _ _ _ _ _ _ _ _ _ _ _ _ _ _ _ _ _ _ _ _ _ _ _ _ _ _ _ _ _ _ _ _ _ _ _ _ _ _ _ _ HQ V hbV y lo1 hi1 (hy.below hb bV) z lo2 hi2 (hz.below hb bV) hd W.heap.size hb.size oV (Or.inr hle1) (Or.inr hle2) _
 ·obtain ⟨V, hV, oV, bV, sV⟩ := mk_cells W zeroSc 30
  have hbV := thenB hb bV
  have hSV := hG.s hbV
  unfold zeroSc at hV
  clear hS
  go_simp
  have hle1 := hy.hi
  have hle2 := hz.hi
  simp only [sv] at hV
  try rw [hV]
  refine hK.out _ _ hSV (fun _ => ?_)
  try (simp only [Act.put, List.getElem_toArray, List.getElem_cons_zero, List.getElem_cons_succ, List.setIfInBounds_toArray, List.set_cons_zero, List.set_cons_succ])
  exact r4_201 s x ns ks A0 X w Q hG _ _ _ _ _ _ _ _ _ _ _ _ _ _ _ _ _ _ _ _ _ _ _ _ _ _ _ _ _ _ _ _ _ _ _ _ _ _ _ _ _ _ _ _ _ _ _ _ _ _ _ _ _ _ _ _ _ _ _ _ _ _ _ _ _ _ _ _ _ _ _ _ _ _ _ _ _ _ _ _ _ _ _ _ _ _ _ _ _ _ _ _ _ _ _ _ _ _ _ _ _ _ _ _ _ _ _ _ _ _ _ _ _ _ _ _ _ _ _ _ _ _ _ HQ V hbV y lo1 hi1 (hy.below hb bV) z lo2 hi2 (hz.below hb bV) hd W.heap.size hb.size oV (Or.inr hle1) (Or.inr hle2) _
set_option maxRecDepth 100000 in
set_option maxHeartbeats 16000000 in
theorem r4_111 (s x : Ls) (ns ks : List Int) (A0 X : Nat) (w : World) (Q : Exit → Act → World → Prop) (hG : RG s x ns ks A0 X w) (e0 e1 e2 e3 e5 e6 e7 e8 e9 e10 e12 e15 e16 e17 e18 e19 e20 e21 e22 e23 e24 e25 e26 e27 e28 e29 e30 e31 e32 e33 e34 e35 e36 e37 e38 e39 e40 e41 e42 e43 e44 e45 e46 e47 e48 e49 e50 e51 e52 e53 e54 e55 e56 e57 e58 e59 e60 e61 e66 e67 e68 e69 e70 e71 e72 e73 e74 e75 e76 e77 e78 e79 e80 e81 e82 e83 e84 e85 e86 e87 e88 e89 e90 e91 e92 e93 e94 e95 e96 e97 e98 e99 e100 e101 e102 e103 e104 e105 e106 e107 e108 e109 e110 e111 e112 e113 e114 e115 e116 e117 e118 e119 e120 e121 e122 e123 e124 e125 e126 e127 e128 e129 e130 : Value) (HQ : ∀ (y z : Ls) (A B : Nat) (W : World), TwoR s x ns ks w y z A B W → ∀ (f62 f63 f64 f65 : Value), Q .normal { tmps := #[e0, e1, e2, e3, .pointer (some ⟨A0, 0, none⟩), e5, e6, e7, e8, e9, e10, .pointer (some ⟨X, 0, none⟩), e12, .pointer (some ⟨A, 0, none⟩), .pointer (some ⟨B, 0, none⟩), e15, e16, e17, e18, e19, e20, e21, e22, e23, e24, e25, e26, e27, e28, e29, e30, e31, e32, e33, e34, e35, e36, e37, e38, e39, e40, e41, e42, e43, e44, e45, e46, e47, e48, e49, e50, e51, e52, e53, e54, e55, e56, e57, e58, e59, e60, e61, f62, f63, f64, f65, e66, e67, e68, e69, e70, e71, e72, e73, e74, e75, e76, e77, e78, e79, e80, e81, e82, e83, e84, e85, e86, e87, e88, e89, e90, e91, e92, e93, e94, e95, e96, e97, e98, e99, e100, e101, e102, e103, e104, e105, e106, e107, e108, e109, e110, e111, e112, e113, e114, e115, e116, e117, e118, e119, e120, e121, e122, e123, e124, e125, e126, e127, e128, e129, e130], defers := [] } W) (W : World) (hb : Below w.heap.size w W) (y : Ls) (lo1 hi1 : Nat) (hy : CopyC w s ns lo1 hi1 y W) (A : Nat) (gA : w.heap.size ≤ A) (oA : W.heap[A]? = some (.cells zeroSc 30 (0, 0))) (a1 : A < lo1 ∨ hi1 ≤ A) (B : Nat) (gB : w.heap.size ≤ B) (oB : W.heap[B]? = some (.cells zeroSc 30 (0, 0))) (b1 : B < lo1 ∨ hi1 ≤ B) (hAB : A ≠ B) (e65 : Value) :
  wpAnyH Try.prog .any ops4n10 Q (RS s x A0 X) 3 #[true, true, true, false, true, true, false, false] { tmps := #[e0, e1, e2, e3, .pointer (some ⟨A0, 0, none⟩), e5, e6, e7, e8, e9, e10, .pointer (some ⟨X, 0, none⟩), e12, .pointer (some ⟨A, 0, none⟩), .pointer (some ⟨B, 0, none⟩), e15, e16, e17, e18, e19, e20, e21, e22, e23, e24, e25, e26, e27, e28, e29, e30, e31, e32, e33, e34, e35, e36, e37, e38, e39, e40, e41, e42, e43, e44, e45, e46, e47, e48, e49, e50, e51, e52, e53, e54, e55, e56, e57, e58, e59, e60, e61, .agg #[sv s.name, .int .i64 s.wd, .int .i64 s.dp, .int .i64 s.bars, .int .i64 s.t0, .int .i64 s.t1, .slice s.ra s.roles.length s.rc, .slice s.ta s.tempos.length s.tc, .slice s.ua s.pauses.length s.uc, .slice s.sa s.spans.length s.sc, .slice s.fa s.phrases.length s.fc, .slice s.da s.dances.length s.dc], .agg #[sv y.name, .int .i64 y.wd, .int .i64 y.dp, .int .i64 y.bars, .int .i64 y.t0, .int .i64 y.t1, .slice y.ra y.roles.length y.rc, .slice y.ta y.tempos.length y.tc, .slice y.ua y.pauses.length y.uc, .slice y.sa y.spans.length y.sc, .slice y.fa y.phrases.length y.fc, .slice y.da y.dances.length y.dc], .agg #[sv x.name, .int .i64 x.wd, .int .i64 x.dp, .int .i64 x.bars, .int .i64 x.t0, .int .i64 x.t1, .slice x.ra x.roles.length x.rc, .slice x.ta x.tempos.length x.tc, .slice x.ua x.pauses.length x.uc, .slice x.sa x.spans.length x.sc, .slice x.fa x.phrases.length x.fc, .slice x.da x.dances.length x.dc], e65, e66, e67, e68, e69, e70, e71, e72, e73, e74, e75, e76, e77, e78, e79, e80, e81, e82, e83, e84, e85, e86, e87, e88, e89, e90, e91, e92, e93, e94, e95, e96, e97, e98, e99, e100, e101, e102, e103, e104, e105, e106, e107, e108, e109, e110, e111, e112, e113, e114, e115, e116, e117, e118, e119, e120, e121, e122, e123, e124, e125, e126, e127, e128, e129, e130], defers := [] } W := by
 dsimp only
 unfold ops4n10 elem4n7 code4
 conv => arg 3; whnf
 have hS : RS s x A0 X W := hG.s hb
 refine wpAnyH_ready (rs := [3]) (by kernel_rfl) (by simp) ?_
 refine AllReadyH.cons (o := _) rfl (fun K1 hK => ?_) AllReadyH.nil
 ·have C := copied_any x ks W (hG.hx.below hb) (hG.hxn.below hb) hG.hcx
  unfold Ls.val Ls.cells at C
  have HC := Lib.hid C
  clear C hS
  go_simp
  go_at_call 20
  refine HC.out.mono ?_
  intro e V hv
  obtain ⟨z, rfl, hc⟩ := CpW.of hv
  have hbV := thenB hb hc.below
  have hn := CopyC.of hG.hx hb hc
  have hsz := hc.below.size
  have hle := hy.hi
  have lA : A < W.heap.size := (Array.getElem?_eq_some_iff.1 oA).1
  have lB : B < W.heap.size := (Array.getElem?_eq_some_iff.1 oB).1
  have hSV := hG.s hbV
  refine hK.out _ _ hSV (fun _ => ?_)
  unfold Ls.val Ls.cells
  try (simp only [Act.put, List.getElem_toArray, List.getElem_cons_zero, List.getElem_cons_succ, List.setIfInBounds_toArray, List.set_cons_zero, List.set_cons_succ])
  exact r4_211 s x ns ks A0 X w Q hG _ _ _ _ _ _ _ _ _ _ _ _ _ _ _ _ _ _ _ _ _ _ _ _ _ _ _ _ _ _ _ _ _ _ _ _ _ _ _ _ _ _ _ _ _ _ _ _ _ _ _ _ _ _ _ _ _ _ _ _ _ _ _ _ _ _ _ _ _ _ _ _ _ _ _ _ _ _ _ _ _ _ _ _ _ _ _ _ _ _ _ _ _ _ _ _ _ _ _ _ _ _ _ _ _ _ _ _ _ _ _ _ _ _ _ _ _ _ _ _ _ _ _ HQ V hbV y lo1 hi1 (hy.below hb hc.below) z W.heap.size V.heap.size hn hle A gA (keepO hc.below oA) a1 (Or.inl lA) B gB (keepO hc.below oB) b1 (Or.inl lB) hAB 
set_option maxRecDepth 100000 in
set_option maxHeartbeats 16000000 in
theorem r4_110 (s x : Ls) (ns ks : List Int) (A0 X : Nat) (w : World) (Q : Exit → Act → World → Prop) (hG : RG s x ns ks A0 X w) (e0 e1 e2 e3 e5 e6 e7 e8 e9 e10 e12 e15 e16 e17 e18 e19 e20 e21 e22 e23 e24 e25 e26 e27 e28 e29 e30 e31 e32 e33 e34 e35 e36 e37 e38 e39 e40 e41 e42 e43 e44 e45 e46 e47 e48 e49 e50 e51 e52 e53 e54 e55 e56 e57 e58 e59 e60 e61 e66 e67 e68 e69 e70 e71 e72 e73 e74 e75 e76 e77 e78 e79 e80 e81 e82 e83 e84 e85 e86 e87 e88 e89 e90 e91 e92 e93 e94 e95 e96 e97 e98 e99 e100 e101 e102 e103 e104 e105 e106 e107 e108 e109 e110 e111 e112 e113 e114 e115 e116 e117 e118 e119 e120 e121 e122 e123 e124 e125 e126 e127 e128 e129 e130 : Value) (HQ : ∀ (y z : Ls) (A B : Nat) (W : World), TwoR s x ns ks w y z A B W → ∀ (f62 f63 f64 f65 : Value), Q .normal { tmps := #[e0, e1, e2, e3, .pointer (some ⟨A0, 0, none⟩), e5, e6, e7, e8, e9, e10, .pointer (some ⟨X, 0, none⟩), e12, .pointer (some ⟨A, 0, none⟩), .pointer (some ⟨B, 0, none⟩), e15, e16, e17, e18, e19, e20, e21, e22, e23, e24, e25, e26, e27, e28, e29, e30, e31, e32, e33, e34, e35, e36, e37, e38, e39, e40, e41, e42, e43, e44, e45, e46, e47, e48, e49, e50, e51, e52, e53, e54, e55, e56, e57, e58, e59, e60, e61, f62, f63, f64, f65, e66, e67, e68, e69, e70, e71, e72, e73, e74, e75, e76, e77, e78, e79, e80, e81, e82, e83, e84, e85, e86, e87, e88, e89, e90, e91, e92, e93, e94, e95, e96, e97, e98, e99, e100, e101, e102, e103, e104, e105, e106, e107, e108, e109, e110, e111, e112, e113, e114, e115, e116, e117, e118, e119, e120, e121, e122, e123, e124, e125, e126, e127, e128, e129, e130], defers := [] } W) (W : World) (hb : Below w.heap.size w W) (y : Ls) (lo1 hi1 : Nat) (hy : CopyC w s ns lo1 hi1 y W) (A : Nat) (gA : w.heap.size ≤ A) (oA : W.heap[A]? = some (.cells zeroSc 30 (0, 0))) (a1 : A < lo1 ∨ hi1 ≤ A) (e14 e65 : Value) :
  wpAnyH Try.prog .any ops4n10 Q (RS s x A0 X) 4 #[true, true, true, false, true, false, false, false] { tmps := #[e0, e1, e2, e3, .pointer (some ⟨A0, 0, none⟩), e5, e6, e7, e8, e9, e10, .pointer (some ⟨X, 0, none⟩), e12, .pointer (some ⟨A, 0, none⟩), e14, e15, e16, e17, e18, e19, e20, e21, e22, e23, e24, e25, e26, e27, e28, e29, e30, e31, e32, e33, e34, e35, e36, e37, e38, e39, e40, e41, e42, e43, e44, e45, e46, e47, e48, e49, e50, e51, e52, e53, e54, e55, e56, e57, e58, e59, e60, e61, .agg #[sv s.name, .int .i64 s.wd, .int .i64 s.dp, .int .i64 s.bars, .int .i64 s.t0, .int .i64 s.t1, .slice s.ra s.roles.length s.rc, .slice s.ta s.tempos.length s.tc, .slice s.ua s.pauses.length s.uc, .slice s.sa s.spans.length s.sc, .slice s.fa s.phrases.length s.fc, .slice s.da s.dances.length s.dc], .agg #[sv y.name, .int .i64 y.wd, .int .i64 y.dp, .int .i64 y.bars, .int .i64 y.t0, .int .i64 y.t1, .slice y.ra y.roles.length y.rc, .slice y.ta y.tempos.length y.tc, .slice y.ua y.pauses.length y.uc, .slice y.sa y.spans.length y.sc, .slice y.fa y.phrases.length y.fc, .slice y.da y.dances.length y.dc], .agg #[sv x.name, .int .i64 x.wd, .int .i64 x.dp, .int .i64 x.bars, .int .i64 x.t0, .int .i64 x.t1, .slice x.ra x.roles.length x.rc, .slice x.ta x.tempos.length x.tc, .slice x.ua x.pauses.length x.uc, .slice x.sa x.spans.length x.sc, .slice x.fa x.phrases.length x.fc, .slice x.da x.dances.length x.dc], e65, e66, e67, e68, e69, e70, e71, e72, e73, e74, e75, e76, e77, e78, e79, e80, e81, e82, e83, e84, e85, e86, e87, e88, e89, e90, e91, e92, e93, e94, e95, e96, e97, e98, e99, e100, e101, e102, e103, e104, e105, e106, e107, e108, e109, e110, e111, e112, e113, e114, e115, e116, e117, e118, e119, e120, e121, e122, e123, e124, e125, e126, e127, e128, e129, e130], defers := [] } W := by
 dsimp only
 unfold ops4n10 elem4n7 code4
 conv => arg 3; whnf
 have hS : RS s x A0 X W := hG.s hb
 refine wpAnyH_ready (rs := [3, 5]) (by kernel_rfl) (by simp) ?_
 refine AllReadyH.cons (o := _) rfl (fun K1 hK => ?_) (AllReadyH.cons (o := _) rfl (fun K1 hK => ?_) AllReadyH.nil)
 ·have C := copied_any x ks W (hG.hx.below hb) (hG.hxn.below hb) hG.hcx
  unfold Ls.val Ls.cells at C
  have HC := Lib.hid C
  clear C hS
  go_simp
  go_at_call 20
  refine HC.out.mono ?_
  intro e V hv
  obtain ⟨z, rfl, hc⟩ := CpW.of hv
  have hbV := thenB hb hc.below
  have hn := CopyC.of hG.hx hb hc
  have hsz := hc.below.size
  have hle := hy.hi
  have lA : A < W.heap.size := (Array.getElem?_eq_some_iff.1 oA).1
  have hSV := hG.s hbV
  refine hK.out _ _ hSV (fun _ => ?_)
  unfold Ls.val Ls.cells
  try (simp only [Act.put, List.getElem_toArray, List.getElem_cons_zero, List.getElem_cons_succ, List.setIfInBounds_toArray, List.set_cons_zero, List.set_cons_succ])
  exact r4_210 s x ns ks A0 X w Q hG _ _ _ _ _ _ _ _ _ _ _ _ _ _ _ _ _ _ _ _ _ _ _ _ _ _ _ _ _ _ _ _ _ _ _ _ _ _ _ _ _ _ _ _ _ _ _ _ _ _ _ _ _ _ _ _ _ _ _ _ _ _ _ _ _ _ _ _ _ _ _ _ _ _ _ _ _ _ _ _ _ _ _ _ _ _ _ _ _ _ _ _ _ _ _ _ _ _ _ _ _ _ _ _ _ _ _ _ _ _ _ _ _ _ _ _ _ _ _ _ _ _ _ HQ V hbV y lo1 hi1 (hy.below hb hc.below) z W.heap.size V.heap.size hn hle A gA (keepO hc.below oA) a1 (Or.inl lA) _
 ·obtain ⟨V, hV, oV, bV, sV⟩ := mk_cells W zeroSc 30
  have hbV := thenB hb bV
  have hSV := hG.s hbV
  unfold zeroSc at hV
  clear hS
  go_simp
  have hle1 := hy.hi
  have lA : A < W.heap.size := (Array.getElem?_eq_some_iff.1 oA).1
  simp only [sv] at hV
  try rw [hV]
  refine hK.out _ _ hSV (fun _ => ?_)
  try (simp only [Act.put, List.getElem_toArray, List.getElem_cons_zero, List.getElem_cons_succ, List.setIfInBounds_toArray, List.set_cons_zero, List.set_cons_succ])
  exact r4_111 s x ns ks A0 X w Q hG _ _ _ _ _ _ _ _ _ _ _ _ _ _ _ _ _ _ _ _ _ _ _ _ _ _ _ _ _ _ _ _ _ _ _ _ _ _ _ _ _ _ _ _ _ _ _ _ _ _ _ _ _ _ _ _ _ _ _ _ _ _ _ _ _ _ _ _ _ _ _ _ _ _ _ _ _ _ _ _ _ _ _ _ _ _ _ _ _ _ _ _ _ _ _ _ _ _ _ _ _ _ _ _ _ _ _ _ _ _ _ _ _ _ _ _ _ _ _ _ _ _ _ HQ V hbV y lo1 hi1 (hy.below hb bV) A gA (keepO bV oA) a1 W.heap.size hb.size oV (Or.inr hle1) (by omega) _
set_option maxRecDepth 100000 in
set_option maxHeartbeats 16000000 in
theorem r4_101 (s x : Ls) (ns ks : List Int) (A0 X : Nat) (w : World) (Q : Exit → Act → World → Prop) (hG : RG s x ns ks A0 X w) (e0 e1 e2 e3 e5 e6 e7 e8 e9 e10 e12 e15 e16 e17 e18 e19 e20 e21 e22 e23 e24 e25 e26 e27 e28 e29 e30 e31 e32 e33 e34 e35 e36 e37 e38 e39 e40 e41 e42 e43 e44 e45 e46 e47 e48 e49 e50 e51 e52 e53 e54 e55 e56 e57 e58 e59 e60 e61 e66 e67 e68 e69 e70 e71 e72 e73 e74 e75 e76 e77 e78 e79 e80 e81 e82 e83 e84 e85 e86 e87 e88 e89 e90 e91 e92 e93 e94 e95 e96 e97 e98 e99 e100 e101 e102 e103 e104 e105 e106 e107 e108 e109 e110 e111 e112 e113 e114 e115 e116 e117 e118 e119 e120 e121 e122 e123 e124 e125 e126 e127 e128 e129 e130 : Value) (HQ : ∀ (y z : Ls) (A B : Nat) (W : World), TwoR s x ns ks w y z A B W → ∀ (f62 f63 f64 f65 : Value), Q .normal { tmps := #[e0, e1, e2, e3, .pointer (some ⟨A0, 0, none⟩), e5, e6, e7, e8, e9, e10, .pointer (some ⟨X, 0, none⟩), e12, .pointer (some ⟨A, 0, none⟩), .pointer (some ⟨B, 0, none⟩), e15, e16, e17, e18, e19, e20, e21, e22, e23, e24, e25, e26, e27, e28, e29, e30, e31, e32, e33, e34, e35, e36, e37, e38, e39, e40, e41, e42, e43, e44, e45, e46, e47, e48, e49, e50, e51, e52, e53, e54, e55, e56, e57, e58, e59, e60, e61, f62, f63, f64, f65, e66, e67, e68, e69, e70, e71, e72, e73, e74, e75, e76, e77, e78, e79, e80, e81, e82, e83, e84, e85, e86, e87, e88, e89, e90, e91, e92, e93, e94, e95, e96, e97, e98, e99, e100, e101, e102, e103, e104, e105, e106, e107, e108, e109, e110, e111, e112, e113, e114, e115, e116, e117, e118, e119, e120, e121, e122, e123, e124, e125, e126, e127, e128, e129, e130], defers := [] } W) (W : World) (hb : Below w.heap.size w W) (y : Ls) (lo1 hi1 : Nat) (hy : CopyC w s ns lo1 hi1 y W) (B : Nat) (gB : w.heap.size ≤ B) (oB : W.heap[B]? = some (.cells zeroSc 30 (0, 0))) (b1 : B < lo1 ∨ hi1 ≤ B) (e13 e65 : Value) :
  wpAnyH Try.prog .any ops4n10 Q (RS s x A0 X) 4 #[true, true, true, false, false, true, false, false] { tmps := #[e0, e1, e2, e3, .pointer (some ⟨A0, 0, none⟩), e5, e6, e7, e8, e9, e10, .pointer (some ⟨X, 0, none⟩), e12, e13, .pointer (some ⟨B, 0, none⟩), e15, e16, e17, e18, e19, e20, e21, e22, e23, e24, e25, e26, e27, e28, e29, e30, e31, e32, e33, e34, e35, e36, e37, e38, e39, e40, e41, e42, e43, e44, e45, e46, e47, e48, e49, e50, e51, e52, e53, e54, e55, e56, e57, e58, e59, e60, e61, .agg #[sv s.name, .int .i64 s.wd, .int .i64 s.dp, .int .i64 s.bars, .int .i64 s.t0, .int .i64 s.t1, .slice s.ra s.roles.length s.rc, .slice s.ta s.tempos.length s.tc, .slice s.ua s.pauses.length s.uc, .slice s.sa s.spans.length s.sc, .slice s.fa s.phrases.length s.fc, .slice s.da s.dances.length s.dc], .agg #[sv y.name, .int .i64 y.wd, .int .i64 y.dp, .int .i64 y.bars, .int .i64 y.t0, .int .i64 y.t1, .slice y.ra y.roles.length y.rc, .slice y.ta y.tempos.length y.tc, .slice y.ua y.pauses.length y.uc, .slice y.sa y.spans.length y.sc, .slice y.fa y.phrases.length y.fc, .slice y.da y.dances.length y.dc], .agg #[sv x.name, .int .i64 x.wd, .int .i64 x.dp, .int .i64 x.bars, .int .i64 x.t0, .int .i64 x.t1, .slice x.ra x.roles.length x.rc, .slice x.ta x.tempos.length x.tc, .slice x.ua x.pauses.length x.uc, .slice x.sa x.spans.length x.sc, .slice x.fa x.phrases.length x.fc, .slice x.da x.dances.length x.dc], e65, e66, e67, e68, e69, e70, e71, e72, e73, e74, e75, e76, e77, e78, e79, e80, e81, e82, e83, e84, e85, e86, e87, e88, e89, e90, e91, e92, e93, e94, e95, e96, e97, e98, e99, e100, e101, e102, e103, e104, e105, e106, e107, e108, e109, e110, e111, e112, e113, e114, e115, e116, e117, e118, e119, e120, e121, e122, e123, e124, e125, e126, e127, e128, e129, e130], defers := [] } W := by
 dsimp only
 unfold ops4n10 elem4n7 code4
 conv => arg 3; whnf
 have hS : RS s x A0 X W := hG.s hb
 refine wpAnyH_ready (rs := [3, 4]) (by kernel_rfl) (by simp) ?_
 refine AllReadyH.cons (o := _) rfl (fun K1 hK => ?_) (AllReadyH.cons (o := _) rfl (fun K1 hK => ?_) AllReadyH.nil)
 ·have C := copied_any x ks W (hG.hx.below hb) (hG.hxn.below hb) hG.hcx
  unfold Ls.val Ls.cells at C
  have HC := Lib.hid C
  clear C hS
  go_simp
  go_at_call 20
  refine HC.out.mono ?_
  intro e V hv
  obtain ⟨z, rfl, hc⟩ := CpW.of hv
  have hbV := thenB hb hc.below
  have hn := CopyC.of hG.hx hb hc
  have hsz := hc.below.size
  have hle := hy.hi
  have lB : B < W.heap.size := (Array.getElem?_eq_some_iff.1 oB).1
  have hSV := hG.s hbV
  refine hK.out _ _ hSV (fun _ => ?_)
  unfold Ls.val Ls.cells
  try (simp only [Act.put, List.getElem_toArray, List.getElem_cons_zero, List.getElem_cons_succ, List.setIfInBounds_toArray, List.set_cons_zero, List.set_cons_succ])
  exact r4_201 s x ns ks A0 X w Q hG _ _ _ _ _ _ _ _ _ _ _ _ _ _ _ _ _ _ _ _ _ _ _ _ _ _ _ _ _ _ _ _ _ _ _ _ _ _ _ _ _ _ _ _ _ _ _ _ _ _ _ _ _ _ _ _ _ _ _ _ _ _ _ _ _ _ _ _ _ _ _ _ _ _ _ _ _ _ _ _ _ _ _ _ _ _ _ _ _ _ _ _ _ _ _ _ _ _ _ _ _ _ _ _ _ _ _ _ _ _ _ _ _ _ _ _ _ _ _ _ _ _ _ HQ V hbV y lo1 hi1 (hy.below hb hc.below) z W.heap.size V.heap.size hn hle B gB (keepO hc.below oB) b1 (Or.inl lB) _
 ·obtain ⟨V, hV, oV, bV, sV⟩ := mk_cells W zeroSc 30
  have hbV := thenB hb bV
  have hSV := hG.s hbV
  unfold zeroSc at hV
  clear hS
  go_simp
  have hle1 := hy.hi
  have lB : B < W.heap.size := (Array.getElem?_eq_some_iff.1 oB).1
  simp only [sv] at hV
  try rw [hV]
  refine hK.out _ _ hSV (fun _ => ?_)
  try (simp only [Act.put, List.getElem_toArray, List.getElem_cons_zero, List.getElem_cons_succ, List.setIfInBounds_toArray, List.set_cons_zero, List.set_cons_succ])
  exact r4_111 s x ns ks A0 X w Q hG _ _ _ _ _ _ _ _ _ _ _ _ _ _ _ _ _ _ _ _ _ _ _ _ _ _ _ _ _ _ _ _ _ _ _ _ _ _ _ _ _ _ _ _ _ _ _ _ _ _ _ _ _ _ _ _ _ _ _ _ _ _ _ _ _ _ _ _ _ _ _ _ _ _ _ _ _ _ _ _ _ _ _ _ _ _ _ _ _ _ _ _ _ _ _ _ _ _ _ _ _ _ _ _ _ _ _ _ _ _ _ _ _ _ _ _ _ _ _ _ _ _ _ HQ V hbV y lo1 hi1 (hy.below hb bV) W.heap.size hb.size oV (Or.inr hle1) B gB (keepO bV oB) b1 (by omega) _
set_option maxRecDepth 100000 in
set_option maxHeartbeats 16000000 in
theorem r4_100 (s x : Ls) (ns ks : List Int) (A0 X : Nat) (w : World) (Q : Exit → Act → World → Prop) (hG : RG s x ns ks A0 X w) (e0 e1 e2 e3 e5 e6 e7 e8 e9 e10 e12 e15 e16 e17 e18 e19 e20 e21 e22 e23 e24 e25 e26 e27 e28 e29 e30 e31 e32 e33 e34 e35 e36 e37 e38 e39 e40 e41 e42 e43 e44 e45 e46 e47 e48 e49 e50 e51 e52 e53 e54 e55 e56 e57 e58 e59 e60 e61 e66 e67 e68 e69 e70 e71 e72 e73 e74 e75 e76 e77 e78 e79 e80 e81 e82 e83 e84 e85 e86 e87 e88 e89 e90 e91 e92 e93 e94 e95 e96 e97 e98 e99 e100 e101 e102 e103 e104 e105 e106 e107 e108 e109 e110 e111 e112 e113 e114 e115 e116 e117 e118 e119 e120 e121 e122 e123 e124 e125 e126 e127 e128 e129 e130 : Value) (HQ : ∀ (y z : Ls) (A B : Nat) (W : World), TwoR s x ns ks w y z A B W → ∀ (f62 f63 f64 f65 : Value), Q .normal { tmps := #[e0, e1, e2, e3, .pointer (some ⟨A0, 0, none⟩), e5, e6, e7, e8, e9, e10, .pointer (some ⟨X, 0, none⟩), e12, .pointer (some ⟨A, 0, none⟩), .pointer (some ⟨B, 0, none⟩), e15, e16, e17, e18, e19, e20, e21, e22, e23, e24, e25, e26, e27, e28, e29, e30, e31, e32, e33, e34, e35, e36, e37, e38, e39, e40, e41, e42, e43, e44, e45, e46, e47, e48, e49, e50, e51, e52, e53, e54, e55, e56, e57, e58, e59, e60, e61, f62, f63, f64, f65, e66, e67, e68, e69, e70, e71, e72, e73, e74, e75, e76, e77, e78, e79, e80, e81, e82, e83, e84, e85, e86, e87, e88, e89, e90, e91, e92, e93, e94, e95, e96, e97, e98, e99, e100, e101, e102, e103, e104, e105, e106, e107, e108, e109, e110, e111, e112, e113, e114, e115, e116, e117, e118, e119, e120, e121, e122, e123, e124, e125, e126, e127, e128, e129, e130], defers := [] } W) (W : World) (hb : Below w.heap.size w W) (y : Ls) (lo1 hi1 : Nat) (hy : CopyC w s ns lo1 hi1 y W) (e13 e14 e65 : Value) :
  wpAnyH Try.prog .any ops4n10 Q (RS s x A0 X) 5 #[true, true, true, false, false, false, false, false] { tmps := #[e0, e1, e2, e3, .pointer (some ⟨A0, 0, none⟩), e5, e6, e7, e8, e9, e10, .pointer (some ⟨X, 0, none⟩), e12, e13, e14, e15, e16, e17, e18, e19, e20, e21, e22, e23, e24, e25, e26, e27, e28, e29, e30, e31, e32, e33, e34, e35, e36, e37, e38, e39, e40, e41, e42, e43, e44, e45, e46, e47, e48, e49, e50, e51, e52, e53, e54, e55, e56, e57, e58, e59, e60, e61, .agg #[sv s.name, .int .i64 s.wd, .int .i64 s.dp, .int .i64 s.bars, .int .i64 s.t0, .int .i64 s.t1, .slice s.ra s.roles.length s.rc, .slice s.ta s.tempos.length s.tc, .slice s.ua s.pauses.length s.uc, .slice s.sa s.spans.length s.sc, .slice s.fa s.phrases.length s.fc, .slice s.da s.dances.length s.dc], .agg #[sv y.name, .int .i64 y.wd, .int .i64 y.dp, .int .i64 y.bars, .int .i64 y.t0, .int .i64 y.t1, .slice y.ra y.roles.length y.rc, .slice y.ta y.tempos.length y.tc, .slice y.ua y.pauses.length y.uc, .slice y.sa y.spans.length y.sc, .slice y.fa y.phrases.length y.fc, .slice y.da y.dances.length y.dc], .agg #[sv x.name, .int .i64 x.wd, .int .i64 x.dp, .int .i64 x.bars, .int .i64 x.t0, .int .i64 x.t1, .slice x.ra x.roles.length x.rc, .slice x.ta x.tempos.length x.tc, .slice x.ua x.pauses.length x.uc, .slice x.sa x.spans.length x.sc, .slice x.fa x.phrases.length x.fc, .slice x.da x.dances.length x.dc], e65, e66, e67, e68, e69, e70, e71, e72, e73, e74, e75, e76, e77, e78, e79, e80, e81, e82, e83, e84, e85, e86, e87, e88, e89, e90, e91, e92, e93, e94, e95, e96, e97, e98, e99, e100, e101, e102, e103, e104, e105, e106, e107, e108, e109, e110, e111, e112, e113, e114, e115, e116, e117, e118, e119, e120, e121, e122, e123, e124, e125, e126, e127, e128, e129, e130], defers := [] } W := by
 dsimp only
 unfold ops4n10 elem4n7 code4
 conv => arg 3; whnf
 have hS : RS s x A0 X W := hG.s hb
 refine wpAnyH_ready (rs := [3, 4, 5]) (by kernel_rfl) (by simp) ?_
 refine AllReadyH.cons (o := _) rfl (fun K1 hK => ?_) (AllReadyH.cons (o := _) rfl (fun K1 hK => ?_) (AllReadyH.cons (o := _) rfl (fun K1 hK => ?_) AllReadyH.nil))
 ·have C := copied_any x ks W (hG.hx.below hb) (hG.hxn.below hb) hG.hcx
  unfold Ls.val Ls.cells at C
  have HC := Lib.hid C
  clear C hS
  go_simp
  go_at_call 20
  refine HC.out.mono ?_
  intro e V hv
  obtain ⟨z, rfl, hc⟩ := CpW.of hv
  have hbV := thenB hb hc.below
  have hn := CopyC.of hG.hx hb hc
  have hsz := hc.below.size
  have hle := hy.hi
  have hSV := hG.s hbV
  refine hK.out _ _ hSV (fun _ => ?_)
  unfold Ls.val Ls.cells
  try (simp only [Act.put, List.getElem_toArray, List.getElem_cons_zero, List.getElem_cons_succ, List.setIfInBounds_toArray, List.set_cons_zero, List.set_cons_succ])
  exact r4_200 s x ns ks A0 X w Q hG _ _ _ _ _ _ _ _ _ _ _ _ _ _ _ _ _ _ _ _ _ _ _ _ _ _ _ _ _ _ _ _ _ _ _ _ _ _ _ _ _ _ _ _ _ _ _ _ _ _ _ _ _ _ _ _ _ _ _ _ _ _ _ _ _ _ _ _ _ _ _ _ _ _ _ _ _ _ _ _ _ _ _ _ _ _ _ _ _ _ _ _ _ _ _ _ _ _ _ _ _ _ _ _ _ _ _ _ _ _ _ _ _ _ _ _ _ _ _ _ _ _ _ HQ V hbV y lo1 hi1 (hy.below hb hc.below) z W.heap.size V.heap.size hn hle _ _
 ·obtain ⟨V, hV, oV, bV, sV⟩ := mk_cells W zeroSc 30
  have hbV := thenB hb bV
  have hSV := hG.s hbV
  unfold zeroSc at hV
  clear hS
  go_simp
  have hle1 := hy.hi
  simp only [sv] at hV
  try rw [hV]
  refine hK.out _ _ hSV (fun _ => ?_)
  try (simp only [Act.put, List.getElem_toArray, List.getElem_cons_zero, List.getElem_cons_succ, List.setIfInBounds_toArray, List.set_cons_zero, List.set_cons_succ])
  exact r4_110 s x ns ks A0 X w Q hG _ _ _ _ _ _ _ _ _ _ _ _ _ _ _ _ _ _ _ _ _ _ _ _ _ _ _ _ _ _ _ _ _ _ _ _ _ _ _ _ _ _ _ _ _ _ _ _ _ _ _ _ _ _ _ _ _ _ _ _ _ _ _ _ _ _ _ _ _ _ _ _ _ _ _ _ _ _ _ _ _ _ _ _ _ _ _ _ _ _ _ _ _ _ _ _ _ _ _ _ _ _ _ _ _ _ _ _ _ _ _ _ _ _ _ _ _ _ _ _ _ _ _ HQ V hbV y lo1 hi1 (hy.below hb bV) W.heap.size hb.size oV (Or.inr hle1) _ _
 ·obtain ⟨V, hV, oV, bV, sV⟩ := mk_cells W zeroSc 30
  have hbV := thenB hb bV
  have hSV := hG.s hbV
  unfold zeroSc at hV
  clear hS
  go_simp
  have hle1 := hy.hi
  simp only [sv] at hV
  try rw [hV]
  refine hK.out _ _ hSV (fun _ => ?_)
  try (simp only [Act.put, List.getElem_toArray, List.getElem_cons_zero, List.getElem_cons_succ, List.setIfInBounds_toArray, List.set_cons_zero, List.set_cons_succ])
  exact r4_101 s x ns ks A0 X w Q hG _ _ _ _ _ _ _ _ _ _ _ _ _ _ _ _ _ _ _ _ _ _ _ _ _ _ _ _ _ _ _ _ _ _ _ _ _ _ _ _ _ _ _ _ _ _ _ _ _ _ _ _ _ _ _ _ _ _ _ _ _ _ _ _ _ _ _ _ _ _ _ _ _ _ _ _ _ _ _ _ _ _ _ _ _ _ _ _ _ _ _ _ _ _ _ _ _ _ _ _ _ _ _ _ _ _ _ _ _ _ _ _ _ _ _ _ _ _ _ _ _ _ _ HQ V hbV y lo1 hi1 (hy.below hb bV) W.heap.size hb.size oV (Or.inr hle1) _ _
set_option maxRecDepth 100000 in
set_option maxHeartbeats 16000000 in
theorem r4_011 (s x : Ls) (ns ks : List Int) (A0 X : Nat) (w : World) (Q : Exit → Act → World → Prop) (hG : RG s x ns ks A0 X w) (e0 e1 e2 e3 e5 e6 e7 e8 e9 e10 e12 e15 e16 e17 e18 e19 e20 e21 e22 e23 e24 e25 e26 e27 e28 e29 e30 e31 e32 e33 e34 e35 e36 e37 e38 e39 e40 e41 e42 e43 e44 e45 e46 e47 e48 e49 e50 e51 e52 e53 e54 e55 e56 e57 e58 e59 e60 e61 e66 e67 e68 e69 e70 e71 e72 e73 e74 e75 e76 e77 e78 e79 e80 e81 e82 e83 e84 e85 e86 e87 e88 e89 e90 e91 e92 e93 e94 e95 e96 e97 e98 e99 e100 e101 e102 e103 e104 e105 e106 e107 e108 e109 e110 e111 e112 e113 e114 e115 e116 e117 e118 e119 e120 e121 e122 e123 e124 e125 e126 e127 e128 e129 e130 : Value) (HQ : ∀ (y z : Ls) (A B : Nat) (W : World), TwoR s x ns ks w y z A B W → ∀ (f62 f63 f64 f65 : Value), Q .normal { tmps := #[e0, e1, e2, e3, .pointer (some ⟨A0, 0, none⟩), e5, e6, e7, e8, e9, e10, .pointer (some ⟨X, 0, none⟩), e12, .pointer (some ⟨A, 0, none⟩), .pointer (some ⟨B, 0, none⟩), e15, e16, e17, e18, e19, e20, e21, e22, e23, e24, e25, e26, e27, e28, e29, e30, e31, e32, e33, e34, e35, e36, e37, e38, e39, e40, e41, e42, e43, e44, e45, e46, e47, e48, e49, e50, e51, e52, e53, e54, e55, e56, e57, e58, e59, e60, e61, f62, f63, f64, f65, e66, e67, e68, e69, e70, e71, e72, e73, e74, e75, e76, e77, e78, e79, e80, e81, e82, e83, e84, e85, e86, e87, e88, e89, e90, e91, e92, e93, e94, e95, e96, e97, e98, e99, e100, e101, e102, e103, e104, e105, e106, e107, e108, e109, e110, e111, e112, e113, e114, e115, e116, e117, e118, e119, e120, e121, e122, e123, e124, e125, e126, e127, e128, e129, e130], defers := [] } W) (W : World) (hb : Below w.heap.size w W) (A : Nat) (gA : w.heap.size ≤ A) (oA : W.heap[A]? = some (.cells zeroSc 30 (0, 0))) (B : Nat) (gB : w.heap.size ≤ B) (oB : W.heap[B]? = some (.cells zeroSc 30 (0, 0))) (hAB : A ≠ B) (e63 e65 : Value) :
  wpAnyH Try.prog .any ops4n10 Q (RS s x A0 X) 4 #[true, false, true, false, true, true, false, false] { tmps := #[e0, e1, e2, e3, .pointer (some ⟨A0, 0, none⟩), e5, e6, e7, e8, e9, e10, .pointer (some ⟨X, 0, none⟩), e12, .pointer (some ⟨A, 0, none⟩), .pointer (some ⟨B, 0, none⟩), e15, e16, e17, e18, e19, e20, e21, e22, e23, e24, e25, e26, e27, e28, e29, e30, e31, e32, e33, e34, e35, e36, e37, e38, e39, e40, e41, e42, e43, e44, e45, e46, e47, e48, e49, e50, e51, e52, e53, e54, e55, e56, e57, e58, e59, e60, e61, .agg #[sv s.name, .int .i64 s.wd, .int .i64 s.dp, .int .i64 s.bars, .int .i64 s.t0, .int .i64 s.t1, .slice s.ra s.roles.length s.rc, .slice s.ta s.tempos.length s.tc, .slice s.ua s.pauses.length s.uc, .slice s.sa s.spans.length s.sc, .slice s.fa s.phrases.length s.fc, .slice s.da s.dances.length s.dc], e63, .agg #[sv x.name, .int .i64 x.wd, .int .i64 x.dp, .int .i64 x.bars, .int .i64 x.t0, .int .i64 x.t1, .slice x.ra x.roles.length x.rc, .slice x.ta x.tempos.length x.tc, .slice x.ua x.pauses.length x.uc, .slice x.sa x.spans.length x.sc, .slice x.fa x.phrases.length x.fc, .slice x.da x.dances.length x.dc], e65, e66, e67, e68, e69, e70, e71, e72, e73, e74, e75, e76, e77, e78, e79, e80, e81, e82, e83, e84, e85, e86, e87, e88, e89, e90, e91, e92, e93, e94, e95, e96, e97, e98, e99, e100, e101, e102, e103, e104, e105, e106, e107, e108, e109, e110, e111, e112, e113, e114, e115, e116, e117, e118, e119, e120, e121, e122, e123, e124, e125, e126, e127, e128, e129, e130], defers := [] } W := by
 dsimp only
 unfold ops4n10 elem4n7 code4
 conv => arg 3; whnf
 have hS : RS s x A0 X W := hG.s hb
 refine wpAnyH_ready (rs := [1]) (by kernel_rfl) (by simp) ?_
 refine AllReadyH.cons (o := _) rfl (fun K1 hK => ?_) AllReadyH.nil
 ·have C := copied_any s ns W (hG.hs.below hb) (hG.hsn.below hb) hG.hcs
  unfold Ls.val Ls.cells at C
  have HC := Lib.hid C
  clear C hS
  go_simp
  go_at_call 20
  refine HC.out.mono ?_
  intro e V hv
  obtain ⟨y, rfl, hc⟩ := CpW.of hv
  have hbV := thenB hb hc.below
  have hn := CopyC.of hG.hs hb hc
  have hsz := hc.below.size
  have lA : A < W.heap.size := (Array.getElem?_eq_some_iff.1 oA).1
  have lB : B < W.heap.size := (Array.getElem?_eq_some_iff.1 oB).1
  have hSV := hG.s hbV
  refine hK.out _ _ hSV (fun _ => ?_)
  unfold Ls.val Ls.cells
  try (simp only [Act.put, List.getElem_toArray, List.getElem_cons_zero, List.getElem_cons_succ, List.setIfInBounds_toArray, List.set_cons_zero, List.set_cons_succ])
  exact r4_111 s x ns ks A0 X w Q hG _ _ _ _ _ _ _ _ _ _ _ _ _ _ _ _ _ _ _ _ _ _ _ _ _ _ _ _ _ _ _ _ _ _ _ _ _ _ _ _ _ _ _ _ _ _ _ _ _ _ _ _ _ _ _ _ _ _ _ _ _ _ _ _ _ _ _ _ _ _ _ _ _ _ _ _ _ _ _ _ _ _ _ _ _ _ _ _ _ _ _ _ _ _ _ _ _ _ _ _ _ _ _ _ _ _ _ _ _ _ _ _ _ _ _ _ _ _ _ _ _ _ _ HQ V hbV y W.heap.size V.heap.size hn A gA (keepO hc.below oA) (Or.inl lA) B gB (keepO hc.below oB) (Or.inl lB) hAB _
set_option maxRecDepth 100000 in
set_option maxHeartbeats 16000000 in
theorem r4_010 (s x : Ls) (ns ks : List Int) (A0 X : Nat) (w : World) (Q : Exit → Act → World → Prop) (hG : RG s x ns ks A0 X w) (e0 e1 e2 e3 e5 e6 e7 e8 e9 e10 e12 e15 e16 e17 e18 e19 e20 e21 e22 e23 e24 e25 e26 e27 e28 e29 e30 e31 e32 e33 e34 e35 e36 e37 e38 e39 e40 e41 e42 e43 e44 e45 e46 e47 e48 e49 e50 e51 e52 e53 e54 e55 e56 e57 e58 e59 e60 e61 e66 e67 e68 e69 e70 e71 e72 e73 e74 e75 e76 e77 e78 e79 e80 e81 e82 e83 e84 e85 e86 e87 e88 e89 e90 e91 e92 e93 e94 e95 e96 e97 e98 e99 e100 e101 e102 e103 e104 e105 e106 e107 e108 e109 e110 e111 e112 e113 e114 e115 e116 e117 e118 e119 e120 e121 e122 e123 e124 e125 e126 e127 e128 e129 e130 : Value) (HQ : ∀ (y z : Ls) (A B : Nat) (W : World), TwoR s x ns ks w y z A B W → ∀ (f62 f63 f64 f65 : Value), Q .normal { tmps := #[e0, e1, e2, e3, .pointer (some ⟨A0, 0, none⟩), e5, e6, e7, e8, e9, e10, .pointer (some ⟨X, 0, none⟩), e12, .pointer (some ⟨A, 0, none⟩), .pointer (some ⟨B, 0, none⟩), e15, e16, e17, e18, e19, e20, e21, e22, e23, e24, e25, e26, e27, e28, e29, e30, e31, e32, e33, e34, e35, e36, e37, e38, e39, e40, e41, e42, e43, e44, e45, e46, e47, e48, e49, e50, e51, e52, e53, e54, e55, e56, e57, e58, e59, e60, e61, f62, f63, f64, f65, e66, e67, e68, e69, e70, e71, e72, e73, e74, e75, e76, e77, e78, e79, e80, e81, e82, e83, e84, e85, e86, e87, e88, e89, e90, e91, e92, e93, e94, e95, e96, e97, e98, e99, e100, e101, e102, e103, e104, e105, e106, e107, e108, e109, e110, e111, e112, e113, e114, e115, e116, e117, e118, e119, e120, e121, e122, e123, e124, e125, e126, e127, e128, e129, e130], defers := [] } W) (W : World) (hb : Below w.heap.size w W) (A : Nat) (gA : w.heap.size ≤ A) (oA : W.heap[A]? = some (.cells zeroSc 30 (0, 0))) (e14 e63 e65 : Value) :
  wpAnyH Try.prog .any ops4n10 Q (RS s x A0 X) 5 #[true, false, true, false, true, false, false, false] { tmps := #[e0, e1, e2, e3, .pointer (some ⟨A0, 0, none⟩), e5, e6, e7, e8, e9, e10, .pointer (some ⟨X, 0, none⟩), e12, .pointer (some ⟨A, 0, none⟩), e14, e15, e16, e17, e18, e19, e20, e21, e22, e23, e24, e25, e26, e27, e28, e29, e30, e31, e32, e33, e34, e35, e36, e37, e38, e39, e40, e41, e42, e43, e44, e45, e46, e47, e48, e49, e50, e51, e52, e53, e54, e55, e56, e57, e58, e59, e60, e61, .agg #[sv s.name, .int .i64 s.wd, .int .i64 s.dp, .int .i64 s.bars, .int .i64 s.t0, .int .i64 s.t1, .slice s.ra s.roles.length s.rc, .slice s.ta s.tempos.length s.tc, .slice s.ua s.pauses.length s.uc, .slice s.sa s.spans.length s.sc, .slice s.fa s.phrases.length s.fc, .slice s.da s.dances.length s.dc], e63, .agg #[sv x.name, .int .i64 x.wd, .int .i64 x.dp, .int .i64 x.bars, .int .i64 x.t0, .int .i64 x.t1, .slice x.ra x.roles.length x.rc, .slice x.ta x.tempos.length x.tc, .slice x.ua x.pauses.length x.uc, .slice x.sa x.spans.length x.sc, .slice x.fa x.phrases.length x.fc, .slice x.da x.dances.length x.dc], e65, e66, e67, e68, e69, e70, e71, e72, e73, e74, e75, e76, e77, e78, e79, e80, e81, e82, e83, e84, e85, e86, e87, e88, e89, e90, e91, e92, e93, e94, e95, e96, e97, e98, e99, e100, e101, e102, e103, e104, e105, e106, e107, e108, e109, e110, e111, e112, e113, e114, e115, e116, e117, e118, e119, e120, e121, e122, e123, e124, e125, e126, e127, e128, e129, e130], defers := [] } W := by
 dsimp only
 unfold ops4n10 elem4n7 code4
 conv => arg 3; whnf
 have hS : RS s x A0 X W := hG.s hb
 refine wpAnyH_ready (rs := [1, 5]) (by kernel_rfl) (by simp) ?_
 refine AllReadyH.cons (o := _) rfl (fun K1 hK => ?_) (AllReadyH.cons (o := _) rfl (fun K1 hK => ?_) AllReadyH.nil)
 ·have C := copied_any s ns W (hG.hs.below hb) (hG.hsn.below hb) hG.hcs
  unfold Ls.val Ls.cells at C
  have HC := Lib.hid C
  clear C hS
  go_simp
  go_at_call 20
  refine HC.out.mono ?_
  intro e V hv
  obtain ⟨y, rfl, hc⟩ := CpW.of hv
  have hbV := thenB hb hc.below
  have hn := CopyC.of hG.hs hb hc
  have hsz := hc.below.size
  have lA : A < W.heap.size := (Array.getElem?_eq_some_iff.1 oA).1
  have hSV := hG.s hbV
  refine hK.out _ _ hSV (fun _ => ?_)
  unfold Ls.val Ls.cells
  try (simp only [Act.put, List.getElem_toArray, List.getElem_cons_zero, List.getElem_cons_succ, List.setIfInBounds_toArray, List.set_cons_zero, List.set_cons_succ])
  exact r4_110 s x ns ks A0 X w Q hG _ _ _ _ _ _ _ _ _ _ _ _ _ _ _ _ _ _ _ _ _ _ _ _ _ _ _ _ _ _ _ _ _ _ _ _ _ _ _ _ _ _ _ _ _ _ _ _ _ _ _ _ _ _ _ _ _ _ _ _ _ _ _ _ _ _ _ _ _ _ _ _ _ _ _ _ _ _ _ _ _ _ _ _ _ _ _ _ _ _ _ _ _ _ _ _ _ _ _ _ _ _ _ _ _ _ _ _ _ _ _ _ _ _ _ _ _ _ _ _ _ _ _ HQ V hbV y W.heap.size V.heap.size hn A gA (keepO hc.below oA) (Or.inl lA) _ _
 ·obtain ⟨V, hV, oV, bV, sV⟩ := mk_cells W zeroSc 30
  have hbV := thenB hb bV
  have hSV := hG.s hbV
  unfold zeroSc at hV
  clear hS
  go_simp
  have lA : A < W.heap.size := (Array.getElem?_eq_some_iff.1 oA).1
  simp only [sv] at hV
  try rw [hV]
  refine hK.out _ _ hSV (fun _ => ?_)
  try (simp only [Act.put, List.getElem_toArray, List.getElem_cons_zero, List.getElem_cons_succ, List.setIfInBounds_toArray, List.set_cons_zero, List.set_cons_succ])
  exact r4_011 s x ns ks A0 X w Q hG _ _ _ _ _ _ _ _ _ _ _ _ _ _ _ _ _ _ _ _ _ _ _ _ _ _ _ _ _ _ _ _ _ _ _ _ _ _ _ _ _ _ _ _ _ _ _ _ _ _ _ _ _ _ _ _ _ _ _ _ _ _ _ _ _ _ _ _ _ _ _ _ _ _ _ _ _ _ _ _ _ _ _ _ _ _ _ _ _ _ _ _ _ _ _ _ _ _ _ _ _ _ _ _ _ _ _ _ _ _ _ _ _ _ _ _ _ _ _ _ _ _ _ HQ V hbV A gA (keepO bV oA) W.heap.size hb.size oV (by omega) _ _
set_option maxRecDepth 100000 in
set_option maxHeartbeats 16000000 in
theorem r4_001 (s x : Ls) (ns ks : List Int) (A0 X : Nat) (w : World) (Q : Exit → Act → World → Prop) (hG : RG s x ns ks A0 X w) (e0 e1 e2 e3 e5 e6 e7 e8 e9 e10 e12 e15 e16 e17 e18 e19 e20 e21 e22 e23 e24 e25 e26 e27 e28 e29 e30 e31 e32 e33 e34 e35 e36 e37 e38 e39 e40 e41 e42 e43 e44 e45 e46 e47 e48 e49 e50 e51 e52 e53 e54 e55 e56 e57 e58 e59 e60 e61 e66 e67 e68 e69 e70 e71 e72 e73 e74 e75 e76 e77 e78 e79 e80 e81 e82 e83 e84 e85 e86 e87 e88 e89 e90 e91 e92 e93 e94 e95 e96 e97 e98 e99 e100 e101 e102 e103 e104 e105 e106 e107 e108 e109 e110 e111 e112 e113 e114 e115 e116 e117 e118 e119 e120 e121 e122 e123 e124 e125 e126 e127 e128 e129 e130 : Value) (HQ : ∀ (y z : Ls) (A B : Nat) (W : World), TwoR s x ns ks w y z A B W → ∀ (f62 f63 f64 f65 : Value), Q .normal { tmps := #[e0, e1, e2, e3, .pointer (some ⟨A0, 0, none⟩), e5, e6, e7, e8, e9, e10, .pointer (some ⟨X, 0, none⟩), e12, .pointer (some ⟨A, 0, none⟩), .pointer (some ⟨B, 0, none⟩), e15, e16, e17, e18, e19, e20, e21, e22, e23, e24, e25, e26, e27, e28, e29, e30, e31, e32, e33, e34, e35, e36, e37, e38, e39, e40, e41, e42, e43, e44, e45, e46, e47, e48, e49, e50, e51, e52, e53, e54, e55, e56, e57, e58, e59, e60, e61, f62, f63, f64, f65, e66, e67, e68, e69, e70, e71, e72, e73, e74, e75, e76, e77, e78, e79, e80, e81, e82, e83, e84, e85, e86, e87, e88, e89, e90, e91, e92, e93, e94, e95, e96, e97, e98, e99, e100, e101, e102, e103, e104, e105, e106, e107, e108, e109, e110, e111, e112, e113, e114, e115, e116, e117, e118, e119, e120, e121, e122, e123, e124, e125, e126, e127, e128, e129, e130], defers := [] } W) (W : World) (hb : Below w.heap.size w W) (B : Nat) (gB : w.heap.size ≤ B) (oB : W.heap[B]? = some (.cells zeroSc 30 (0, 0))) (e13 e63 e65 : Value) :
  wpAnyH Try.prog .any ops4n10 Q (RS s x A0 X) 5 #[true, false, true, false, false, true, false, false] { tmps := #[e0, e1, e2, e3, .pointer (some ⟨A0, 0, none⟩), e5, e6, e7, e8, e9, e10, .pointer (some ⟨X, 0, none⟩), e12, e13, .pointer (some ⟨B, 0, none⟩), e15, e16, e17, e18, e19, e20, e21, e22, e23, e24, e25, e26, e27, e28, e29, e30, e31, e32, e33, e34, e35, e36, e37, e38, e39, e40, e41, e42, e43, e44, e45, e46, e47, e48, e49, e50, e51, e52, e53, e54, e55, e56, e57, e58, e59, e60, e61, .agg #[sv s.name, .int .i64 s.wd, .int .i64 s.dp, .int .i64 s.bars, .int .i64 s.t0, .int .i64 s.t1, .slice s.ra s.roles.length s.rc, .slice s.ta s.tempos.length s.tc, .slice s.ua s.pauses.length s.uc, .slice s.sa s.spans.length s.sc, .slice s.fa s.phrases.length s.fc, .slice s.da s.dances.length s.dc], e63, .agg #[sv x.name, .int .i64 x.wd, .int .i64 x.dp, .int .i64 x.bars, .int .i64 x.t0, .int .i64 x.t1, .slice x.ra x.roles.length x.rc, .slice x.ta x.tempos.length x.tc, .slice x.ua x.pauses.length x.uc, .slice x.sa x.spans.length x.sc, .slice x.fa x.phrases.length x.fc, .slice x.da x.dances.length x.dc], e65, e66, e67, e68, e69, e70, e71, e72, e73, e74, e75, e76, e77, e78, e79, e80, e81, e82, e83, e84, e85, e86, e87, e88, e89, e90, e91, e92, e93, e94, e95, e96, e97, e98, e99, e100, e101, e102, e103, e104, e105, e106, e107, e108, e109, e110, e111, e112, e113, e114, e115, e116, e117, e118, e119, e120, e121, e122, e123, e124, e125, e126, e127, e128, e129, e130], defers := [] } W := by
 dsimp only
 unfold ops4n10 elem4n7 code4
 conv => arg 3; whnf
 have hS : RS s x A0 X W := hG.s hb
 refine wpAnyH_ready (rs := [1, 4]) (by kernel_rfl) (by simp) ?_
 refine AllReadyH.cons (o := _) rfl (fun K1 hK => ?_) (AllReadyH.cons (o := _) rfl (fun K1 hK => ?_) AllReadyH.nil)
 ·have C := copied_any s ns W (hG.hs.below hb) (hG.hsn.below hb) hG.hcs
  unfold Ls.val Ls.cells at C
  have HC := Lib.hid C
  clear C hS
  go_simp
  go_at_call 20
  refine HC.out.mono ?_
  intro e V hv
  obtain ⟨y, rfl, hc⟩ := CpW.of hv
  have hbV := thenB hb hc.below
  have hn := CopyC.of hG.hs hb hc
  have hsz := hc.below.size
  have lB : B < W.heap.size := (Array.getElem?_eq_some_iff.1 oB).1
  have hSV := hG.s hbV
  refine hK.out _ _ hSV (fun _ => ?_)
  unfold Ls.val Ls.cells
  try (simp only [Act.put, List.getElem_toArray, List.getElem_cons_zero, List.getElem_cons_succ, List.setIfInBounds_toArray, List.set_cons_zero, List.set_cons_succ])
  exact r4_101 s x ns ks A0 X w Q hG _ _ _ _ _ _ _ _ _ _ _ _ _ _ _ _ _ _ _ _ _ _ _ _ _ _ _ _ _ _ _ _ _ _ _ _ _ _ _ _ _ _ _ _ _ _ _ _ _ _ _ _ _ _ _ _ _ _ _ _ _ _ _ _ _ _ _ _ _ _ _ _ _ _ _ _ _ _ _ _ _ _ _ _ _ _ _ _ _ _ _ _ _ _ _ _ _ _ _ _ _ _ _ _ _ _ _ _ _ _ _ _ _ _ _ _ _ _ _ _ _ _ _ HQ V hbV y W.heap.size V.heap.size hn B gB (keepO hc.below oB) (Or.inl lB) _ _
 ·obtain ⟨V, hV, oV, bV, sV⟩ := mk_cells W zeroSc 30
  have hbV := thenB hb bV
  have hSV := hG.s hbV
  unfold zeroSc at hV
  clear hS
  go_simp
  have lB : B < W.heap.size := (Array.getElem?_eq_some_iff.1 oB).1
  simp only [sv] at hV
  try rw [hV]
  refine hK.out _ _ hSV (fun _ => ?_)
  try (simp only [Act.put, List.getElem_toArray, List.getElem_cons_zero, List.getElem_cons_succ, List.setIfInBounds_toArray, List.set_cons_zero, List.set_cons_succ])
  exact r4_011 s x ns ks A0 X w Q hG _ _ _ _ _ _ _ _ _ _ _ _ _ _ _ _ _ _ _ _ _ _ _ _ _ _ _ _ _ _ _ _ _ _ _ _ _ _ _ _ _ _ _ _ _ _ _ _ _ _ _ _ _ _ _ _ _ _ _ _ _ _ _ _ _ _ _ _ _ _ _ _ _ _ _ _ _ _ _ _ _ _ _ _ _ _ _ _ _ _ _ _ _ _ _ _ _ _ _ _ _ _ _ _ _ _ _ _ _ _ _ _ _ _ _ _ _ _ _ _ _ _ _ HQ V hbV W.heap.size hb.size oV B gB (keepO bV oB) (by omega) _ _
set_option maxRecDepth 100000 in
set_option maxHeartbeats 16000000 in
theorem r4_000 (s x : Ls) (ns ks : List Int) (A0 X : Nat) (w : World) (Q : Exit → Act → World → Prop) (hG : RG s x ns ks A0 X w) (e0 e1 e2 e3 e5 e6 e7 e8 e9 e10 e12 e15 e16 e17 e18 e19 e20 e21 e22 e23 e24 e25 e26 e27 e28 e29 e30 e31 e32 e33 e34 e35 e36 e37 e38 e39 e40 e41 e42 e43 e44 e45 e46 e47 e48 e49 e50 e51 e52 e53 e54 e55 e56 e57 e58 e59 e60 e61 e66 e67 e68 e69 e70 e71 e72 e73 e74 e75 e76 e77 e78 e79 e80 e81 e82 e83 e84 e85 e86 e87 e88 e89 e90 e91 e92 e93 e94 e95 e96 e97 e98 e99 e100 e101 e102 e103 e104 e105 e106 e107 e108 e109 e110 e111 e112 e113 e114 e115 e116 e117 e118 e119 e120 e121 e122 e123 e124 e125 e126 e127 e128 e129 e130 : Value) (HQ : ∀ (y z : Ls) (A B : Nat) (W : World), TwoR s x ns ks w y z A B W → ∀ (f62 f63 f64 f65 : Value), Q .normal { tmps := #[e0, e1, e2, e3, .pointer (some ⟨A0, 0, none⟩), e5, e6, e7, e8, e9, e10, .pointer (some ⟨X, 0, none⟩), e12, .pointer (some ⟨A, 0, none⟩), .pointer (some ⟨B, 0, none⟩), e15, e16, e17, e18, e19, e20, e21, e22, e23, e24, e25, e26, e27, e28, e29, e30, e31, e32, e33, e34, e35, e36, e37, e38, e39, e40, e41, e42, e43, e44, e45, e46, e47, e48, e49, e50, e51, e52, e53, e54, e55, e56, e57, e58, e59, e60, e61, f62, f63, f64, f65, e66, e67, e68, e69, e70, e71, e72, e73, e74, e75, e76, e77, e78, e79, e80, e81, e82, e83, e84, e85, e86, e87, e88, e89, e90, e91, e92, e93, e94, e95, e96, e97, e98, e99, e100, e101, e102, e103, e104, e105, e106, e107, e108, e109, e110, e111, e112, e113, e114, e115, e116, e117, e118, e119, e120, e121, e122, e123, e124, e125, e126, e127, e128, e129, e130], defers := [] } W) (W : World) (hb : Below w.heap.size w W) (e13 e14 e63 e65 : Value) :
  wpAnyH Try.prog .any ops4n10 Q (RS s x A0 X) 6 #[true, false, true, false, false, false, false, false] { tmps := #[e0, e1, e2, e3, .pointer (some ⟨A0, 0, none⟩), e5, e6, e7, e8, e9, e10, .pointer (some ⟨X, 0, none⟩), e12, e13, e14, e15, e16, e17, e18, e19, e20, e21, e22, e23, e24, e25, e26, e27, e28, e29, e30, e31, e32, e33, e34, e35, e36, e37, e38, e39, e40, e41, e42, e43, e44, e45, e46, e47, e48, e49, e50, e51, e52, e53, e54, e55, e56, e57, e58, e59, e60, e61, .agg #[sv s.name, .int .i64 s.wd, .int .i64 s.dp, .int .i64 s.bars, .int .i64 s.t0, .int .i64 s.t1, .slice s.ra s.roles.length s.rc, .slice s.ta s.tempos.length s.tc, .slice s.ua s.pauses.length s.uc, .slice s.sa s.spans.length s.sc, .slice s.fa s.phrases.length s.fc, .slice s.da s.dances.length s.dc], e63, .agg #[sv x.name, .int .i64 x.wd, .int .i64 x.dp, .int .i64 x.bars, .int .i64 x.t0, .int .i64 x.t1, .slice x.ra x.roles.length x.rc, .slice x.ta x.tempos.length x.tc, .slice x.ua x.pauses.length x.uc, .slice x.sa x.spans.length x.sc, .slice x.fa x.phrases.length x.fc, .slice x.da x.dances.length x.dc], e65, e66, e67, e68, e69, e70, e71, e72, e73, e74, e75, e76, e77, e78, e79, e80, e81, e82, e83, e84, e85, e86, e87, e88, e89, e90, e91, e92, e93, e94, e95, e96, e97, e98, e99, e100, e101, e102, e103, e104, e105, e106, e107, e108, e109, e110, e111, e112, e113, e114, e115, e116, e117, e118, e119, e120, e121, e122, e123, e124, e125, e126, e127, e128, e129, e130], defers := [] } W := by
 dsimp only
 unfold ops4n10 elem4n7 code4
 conv => arg 3; whnf
 have hS : RS s x A0 X W := hG.s hb
 refine wpAnyH_ready (rs := [1, 4, 5]) (by kernel_rfl) (by simp) ?_
 refine AllReadyH.cons (o := _) rfl (fun K1 hK => ?_) (AllReadyH.cons (o := _) rfl (fun K1 hK => ?_) (AllReadyH.cons (o := _) rfl (fun K1 hK => ?_) AllReadyH.nil))
 ·have C := copied_any s ns W (hG.hs.below hb) (hG.hsn.below hb) hG.hcs
  unfold Ls.val Ls.cells at C
  have HC := Lib.hid C
  clear C hS
  go_simp
  go_at_call 20
  refine HC.out.mono ?_
  intro e V hv
  obtain ⟨y, rfl, hc⟩ := CpW.of hv
  have hbV := thenB hb hc.below
  have hn := CopyC.of hG.hs hb hc
  have hsz := hc.below.size
  have hSV := hG.s hbV
  refine hK.out _ _ hSV (fun _ => ?_)
  unfold Ls.val Ls.cells
  try (simp only [Act.put, List.getElem_toArray, List.getElem_cons_zero, List.getElem_cons_succ, List.setIfInBounds_toArray, List.set_cons_zero, List.set_cons_succ])
  exact r4_100 s x ns ks A0 X w Q hG _ _ _ _ _ _ _ _ _ _ _ _ _ _ _ _ _ _ _ _ _ _ _ _ _ _ _ _ _ _ _ _ _ _ _ _ _ _ _ _ _ _ _ _ _ _ _ _ _ _ _ _ _ _ _ _ _ _ _ _ _ _ _ _ _ _ _ _ _ _ _ _ _ _ _ _ _ _ _ _ _ _ _ _ _ _ _ _ _ _ _ _ _ _ _ _ _ _ _ _ _ _ _ _ _ _ _ _ _ _ _ _ _ _ _ _ _ _ _ _ _ _ _ HQ V hbV y W.heap.size V.heap.size hn _ _ _
 ·obtain ⟨V, hV, oV, bV, sV⟩ := mk_cells W zeroSc 30
  have hbV := thenB hb bV
  have hSV := hG.s hbV
  unfold zeroSc at hV
  clear hS
  go_simp
  simp only [sv] at hV
  try rw [hV]
  refine hK.out _ _ hSV (fun _ => ?_)
  try (simp only [Act.put, List.getElem_toArray, List.getElem_cons_zero, List.getElem_cons_succ, List.setIfInBounds_toArray, List.set_cons_zero, List.set_cons_succ])
  exact r4_010 s x ns ks A0 X w Q hG _ _ _ _ _ _ _ _ _ _ _ _ _ _ _ _ _ _ _ _ _ _ _ _ _ _ _ _ _ _ _ _ _ _ _ _ _ _ _ _ _ _ _ _ _ _ _ _ _ _ _ _ _ _ _ _ _ _ _ _ _ _ _ _ _ _ _ _ _ _ _ _ _ _ _ _ _ _ _ _ _ _ _ _ _ _ _ _ _ _ _ _ _ _ _ _ _ _ _ _ _ _ _ _ _ _ _ _ _ _ _ _ _ _ _ _ _ _ _ _ _ _ _ HQ V hbV W.heap.size hb.size oV _ _ _
 ·obtain ⟨V, hV, oV, bV, sV⟩ := mk_cells W zeroSc 30
  have hbV := thenB hb bV
  have hSV := hG.s hbV
  unfold zeroSc at hV
  clear hS
  go_simp
  simp only [sv] at hV
  try rw [hV]
  refine hK.out _ _ hSV (fun _ => ?_)
  try (simp only [Act.put, List.getElem_toArray, List.getElem_cons_zero, List.getElem_cons_succ, List.setIfInBounds_toArray, List.set_cons_zero, List.set_cons_succ])
  exact r4_001 s x ns ks A0 X w Q hG _ _ _ _ _ _ _ _ _ _ _ _ _ _ _ _ _ _ _ _ _ _ _ _ _ _ _ _ _ _ _ _ _ _ _ _ _ _ _ _ _ _ _ _ _ _ _ _ _ _ _ _ _ _ _ _ _ _ _ _ _ _ _ _ _ _ _ _ _ _ _ _ _ _ _ _ _ _ _ _ _ _ _ _ _ _ _ _ _ _ _ _ _ _ _ _ _ _ _ _ _ _ _ _ _ _ _ _ _ _ _ _ _ _ _ _ _ _ _ _ _ _ _ HQ V hbV W.heap.size hb.size oV _ _ _
set_option maxRecDepth 100000 in
set_option maxHeartbeats 16000000 in
theorem ren_e7 (s x : Ls) (ns ks : List Int) (A0 X : Nat) (w : World) (hG : RG s x ns ks A0 X w) (e0 e1 e2 e3 e5 e6 e7 e8 e9 e10 e12 e13 e14 e15 e16 e17 e18 e19 e20 e21 e22 e23 e24 e25 e26 e27 e28 e29 e30 e31 e32 e33 e34 e35 e36 e37 e38 e39 e40 e41 e42 e43 e44 e45 e46 e47 e48 e49 e50 e51 e52 e53 e54 e55 e56 e57 e58 e59 e60 e61 e62 e63 e64 e65 e66 e67 e68 e69 e70 e71 e72 e73 e74 e75 e76 e77 e78 e79 e80 e81 e82 e83 e84 e85 e86 e87 e88 e89 e90 e91 e92 e93 e94 e95 e96 e97 e98 e99 e100 e101 e102 e103 e104 e105 e106 e107 e108 e109 e110 e111 e112 e113 e114 e115 e116 e117 e118 e119 e120 e121 e122 e123 e124 e125 e126 e127 e128 e129 e130 : Value) (K : Act → World → Prop)
  (hK : ∀ (y z : Ls) (A B : Nat) (W : World), TwoR s x ns ks w y z A B W → ∀ (f62 f63 f64 f65 : Value), K { tmps := #[e0, e1, e2, e3, .pointer (some ⟨A0, 0, none⟩), e5, e6, e7, e8, e9, e10, .pointer (some ⟨X, 0, none⟩), e12, .pointer (some ⟨A, 0, none⟩), .pointer (some ⟨B, 0, none⟩), e15, e16, e17, e18, e19, e20, e21, e22, e23, e24, e25, e26, e27, e28, e29, e30, e31, e32, e33, e34, e35, e36, e37, e38, e39, e40, e41, e42, e43, e44, e45, e46, e47, e48, e49, e50, e51, e52, e53, e54, e55, e56, e57, e58, e59, e60, e61, f62, f63, f64, f65, e66, e67, e68, e69, e70, e71, e72, e73, e74, e75, e76, e77, e78, e79, e80, e81, e82, e83, e84, e85, e86, e87, e88, e89, e90, e91, e92, e93, e94, e95, e96, e97, e98, e99, e100, e101, e102, e103, e104, e105, e106, e107, e108, e109, e110, e111, e112, e113, e114, e115, e116, e117, e118, e119, e120, e121, e122, e123, e124, e125, e126, e127, e128, e129, e130], defers := [] } W) :
  elem4n7.wp Try.prog (Exit.then K (fun _ _ _ => False)) { tmps := #[e0, e1, e2, e3, .pointer (some ⟨A0, 0, none⟩), e5, e6, e7, e8, e9, e10, .pointer (some ⟨X, 0, none⟩), e12, e13, e14, e15, e16, e17, e18, e19, e20, e21, e22, e23, e24, e25, e26, e27, e28, e29, e30, e31, e32, e33, e34, e35, e36, e37, e38, e39, e40, e41, e42, e43, e44, e45, e46, e47, e48, e49, e50, e51, e52, e53, e54, e55, e56, e57, e58, e59, e60, e61, e62, e63, e64, e65, e66, e67, e68, e69, e70, e71, e72, e73, e74, e75, e76, e77, e78, e79, e80, e81, e82, e83, e84, e85, e86, e87, e88, e89, e90, e91, e92, e93, e94, e95, e96, e97, e98, e99, e100, e101, e102, e103, e104, e105, e106, e107, e108, e109, e110, e111, e112, e113, e114, e115, e116, e117, e118, e119, e120, e121, e122, e123, e124, e125, e126, e127, e128, e129, e130], defers := [] } w := by
 obtain ⟨wd, hwd⟩ : ∃ wd : World, { w with drawn := w.drawn + 1 } = wd := ⟨_, rfl⟩
 have hbd : Below w.heap.size w wd := by rw [← hwd]; exact (Below.refl _ _).drew
 have hS : RS s x A0 X wd := hG.s hbd
 have HS := Lib.hid hS; have HG := Lib.hid hG; have HK := Lib.hid hK; have HB := Lib.hid hbd; have HWD := Lib.hid hwd
 clear hS hG hK hbd hwd
 unfold elem4n7 code4
 conv => arg 2; whnf
 refine wp_region_held (S := RS s x A0 X) (by kernel_rfl) ?_
 rw [HWD.out]
 refine wpAnyH_take (i := 0) (oi := _) (v := .agg #[sv s.name, .int .i64 s.wd, .int .i64 s.dp, .int .i64 s.bars, .int .i64 s.t0, .int .i64 s.t1, .slice s.ra s.roles.length s.rc, .slice s.ta s.tempos.length s.tc, .slice s.ua s.pauses.length s.uc, .slice s.sa s.spans.length s.sc, .slice s.fa s.phrases.length s.fc, .slice s.da s.dances.length s.dc]) rfl (by kernel_rfl) (by kernel_rfl) (by kernel_rfl) (fun _ _ _ h => h) (Or.inl ⟨by kernel_rfl, fun V hb => by obtain ⟨y0, y1, y2, y3, y4, y5, y6, y7, y8, y9, y10, y11⟩ := all_cells hb.1; go_simp⟩) HS.out ?_
 try (simp only [Act.put, List.getElem_toArray, List.getElem_cons_zero, List.getElem_cons_succ, List.setIfInBounds_toArray, List.set_cons_zero, List.set_cons_succ])
 refine wpAnyH_take (i := 2) (oi := _) (v := .agg #[sv x.name, .int .i64 x.wd, .int .i64 x.dp, .int .i64 x.bars, .int .i64 x.t0, .int .i64 x.t1, .slice x.ra x.roles.length x.rc, .slice x.ta x.tempos.length x.tc, .slice x.ua x.pauses.length x.uc, .slice x.sa x.spans.length x.sc, .slice x.fa x.phrases.length x.fc, .slice x.da x.dances.length x.dc]) rfl (by kernel_rfl) (by kernel_rfl) (by kernel_rfl) (fun _ _ _ h => h) (Or.inl ⟨by kernel_rfl, fun V hb => by obtain ⟨y0, y1, y2, y3, y4, y5, y6, y7, y8, y9, y10, y11⟩ := all_cells hb.2; go_simp⟩) HS.out ?_
 try (simp only [Act.put, List.getElem_toArray, List.getElem_cons_zero, List.getElem_cons_succ, List.setIfInBounds_toArray, List.set_cons_zero, List.set_cons_succ])
 exact r4_000 s x ns ks A0 X w _ HG.out _ _ _ _ _ _ _ _ _ _ _ _ _ _ _ _ _ _ _ _ _ _ _ _ _ _ _ _ _ _ _ _ _ _ _ _ _ _ _ _ _ _ _ _ _ _ _ _ _ _ _ _ _ _ _ _ _ _ _ _ _ _ _ _ _ _ _ _ _ _ _ _ _ _ _ _ _ _ _ _ _ _ _ _ _ _ _ _ _ _ _ _ _ _ _ _ _ _ _ _ _ _ _ _ _ _ _ _ _ _ _ _ _ _ _ _ _ _ _ _ _ _ _ (fun y z A B W h f62 f63 f64 f65 => HK.out y z A B W h f62 f63 f64 f65) wd HB.out _ _ _ _
end Go.Proofs.Ytpnbpepkoekkoaa
end
