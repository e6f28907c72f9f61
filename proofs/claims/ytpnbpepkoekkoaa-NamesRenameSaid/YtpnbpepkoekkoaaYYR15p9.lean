/- The walk of the statement: part 9. -/
import Derived.Test.YtpnbpepkoekkoaaYYR15p8
import Derived.Test.YtpnbpepkoekkoaaYYR15p5
set_option linter.unusedVariables false
set_option linter.unusedSimpArgs false
section
namespace Go.Proofs.Ytpnbpepkoekkoaa
open Go Go.RowKit Go.Deep
set_option maxRecDepth 100000 in
set_option maxHeartbeats 16000000 in
theorem rnm_e9 (y z : Ls) (ns ks : List Int) (w W : World) (A B : Nat) (he : ∀ V, Below w.heap.size w V → Env V) (hb : Below w.heap.size w W) (hy : Bx y ns A W) (hz : Bx z ks B W) (h0 : resE y.strip ns = 0) (hi : y.strip.idx ns = some ks) (hst : y.strip = z.strip) (e0 e1 e2 e3 e4 e5 e6 e7 e8 e9 e10 e11 e12 e15 e16 e17 e18 e19 e20 e21 e22 e23 e24 e25 e26 e27 e28 e29 e30 e31 e32 e33 e34 e35 e36 e37 e38 e39 e40 e41 e42 e43 e44 e45 e46 e47 e48 e49 e50 e51 e52 e53 e54 e55 e56 e57 e58 e59 e60 e61 e62 e63 e64 e65 e66 e67 e68 e69 e70 e71 e72 e73 e74 e75 e76 e77 e78 e79 e80 e81 e82 e83 e84 e85 e86 e87 e88 e89 e90 e91 e92 e93 e94 e95 e96 e97 e98 e99 e100 e101 e102 e103 e104 e105 e106 e107 e108 e109 e110 e111 e112 e113 e114 e115 e116 e117 e118 e119 e120 e121 e122 e123 e124 e125 e126 e127 e128 e129 e130 : Value) :
  (lastPart 9 code4).wp Try.prog (bodyPost Try.prog Try.f4 (fun e w' => e = .returned (.bool true) ∧ Below w.heap.size w w')) { tmps := #[e0, e1, e2, e3, e4, e5, e6, e7, e8, e9, e10, e11, e12, .pointer (some ⟨A, 0, none⟩), .pointer (some ⟨B, 0, none⟩), e15, e16, e17, e18, e19, e20, e21, e22, e23, e24, e25, e26, e27, e28, e29, e30, e31, e32, e33, e34, e35, e36, e37, e38, e39, e40, e41, e42, e43, e44, e45, e46, e47, e48, e49, e50, e51, e52, e53, e54, e55, e56, e57, e58, e59, e60, e61, e62, e63, e64, e65, e66, e67, e68, e69, e70, e71, e72, e73, e74, e75, e76, e77, e78, e79, e80, e81, e82, e83, e84, e85, e86, e87, e88, e89, e90, e91, e92, e93, e94, e95, e96, e97, e98, e99, e100, e101, e102, e103, e104, e105, e106, e107, e108, e109, e110, e111, e112, e113, e114, e115, e116, e117, e118, e119, e120, e121, e122, e123, e124, e125, e126, e127, e128, e129, e130], defers := [] } W := by
 have C := res_ok y ns W hy.at_ hy.ns (he _ hb) h0
 unfold Ls.val at C
 have HC := Lib.hid C; have HL := Lib.hid hy.box
 have HS := Lib.hid (And.intro he (And.intro hb (And.intro hy (And.intro hz (And.intro h0 (And.intro hi hst))))))
 clear C he hb hy hz h0 hi hst
 rw [rnstep9]
 refine wp_seq_thenQ (fun K hK => ?_)
 have HK := Lib.hid hK
 clear hK
 conv => arg 2; whnf
 go_wp2_with (refine wpList_load_row rfl 30 _ rfl A rfl 30 y.cells (0, 0) _ HL.out Try.underlying30 rfl (by kernel_rfl) ?_; simp only [Act.put, List.setIfInBounds_toArray, List.set_cons_zero, List.set_cons_succ])
 refine HC.out.mono ?_
 rintro e V ⟨yy, kb, rfl, q1, q2, q3, q4, q5⟩
 unfold Ls.val
 obtain ⟨W6, hW6, hX6, hb6⟩ : ∃ W6, V.alloc (.cells yy.cells 30) = W6 ∧ W6.heap[V.heap.size]? = some (.cells yy.cells 30 (0, 0)) ∧ Below V.heap.size V W6 := ⟨_, rfl, heap_alloc_new V _, (Below.refl _ _).alloc (Nat.le_refl _) _⟩
 have HQ := Lib.hid (And.intro q1 (And.intro q2 (And.intro q3 (And.intro q4 (And.intro q5 (And.intro hX6 hb6))))))
 unfold Ls.cells at hW6 ⊢
 have HW6 := Lib.hid hW6
 clear HC q1 q2 q3 q4 q5 hX6 hb6 hW6 HL
 dsimp only
 go_wp2_with fail
 have e5 := HW6.out
 simp only [sv] at e5 ⊢
 refine HK.out _ _ ?_
 rw [e5]
 clear HK K e5 HW6
 obtain ⟨he, hb, hy, hz, h0, hi, hst⟩ := HS.out
 obtain ⟨q1, q2, q3, q4, q5, hX6, hb6⟩ := HQ.out
 have b6 : Below W.heap.size W W6 := thenB q5 hb6
 obtain rfl : kb = ks := by rw [hi] at q4; injection q4 with q4; exact q4.symm
 have hy6 : Bx yy kb V.heap.size W6 := ⟨hX6, q2.below hb6, q3.below hb6⟩
 have hz6 := hz.next b6
 have C3 := same_any yy z kb W6 hy6.at_ hz6.at_ (q1.trans hst) hy6.ns hz6.ns
 unfold Ls.val at C3
 have HC3 := Lib.hid C3; have HY := Lib.hid hy6.box; have HZ := Lib.hid hz6.box; have HB := Lib.hid (thenB hb b6)
 clear C3 hz6 hy6 b6 he hb hy hz h0 hi hst q1 q2 q3 q4 q5 hX6 hb6 HS HQ
 generalize V.heap.size = Y at *
 conv => arg 2; whnf
 go_wp2_with (first | (refine wpList_load_row_at (by kernel_rfl) 30 _ rfl Y rfl 30 yy.cells (0, 0) _ HY.out Try.underlying30 rfl (by kernel_rfl) ?_; simp only [Act.put, List.setIfInBounds_toArray, List.set_cons_zero, List.set_cons_succ]) | (refine wpList_load_row_at (by kernel_rfl) 30 _ rfl B rfl 30 z.cells (0, 0) _ HZ.out Try.underlying30 rfl (by kernel_rfl) ?_; simp only [Act.put, List.setIfInBounds_toArray, List.set_cons_zero, List.set_cons_succ]))
 refine HC3.out.mono ?_
 rintro e V3 ⟨rfl, hv3⟩
 have HV3 := Lib.hid hv3
 clear HC3 HY HZ hv3
 go_wp2_with fail
 try simp only [Exit.then]
 go_ret
 exact ⟨rfl, thenB HB.out HV3.out⟩
theorem names_strip (s : Ls) (phrase : Bool) : (if phrase then s.strip.pnames else s.strip.rnames) = s.namesOf phrase := by
 cases phrase with
 | true => simp [Sc.pnames, Ls.strip, Ph.strip, Ls.namesOf]
 | false => rfl
theorem many_len (x s : Ls) (phrase : Bool) (h : x.strip = s.strip) : x.many phrase = (s.namesOf phrase).length := by
 cases phrase with
 | true =>
  have : x.strip.phrases.length = s.strip.phrases.length := by rw [h]
  simpa [Ls.strip, Ls.many, Ls.namesOf] using this
 | false =>
  have : x.strip.roles.length = s.strip.roles.length := by rw [h]
  simpa [Ls.strip, Ls.many, Ls.namesOf] using this
set_option maxRecDepth 100000 in
set_option maxHeartbeats 16000000 in
theorem rnm_e7 (s x : Ls) (ns ks : List Int) (w W : World) (gN nN cN j X : Nat) (phrase : Bool) (old new : Nm) (he : ∀ V, Below w.heap.size w V → Env V) (hW : LawW s w W) (hs : s.At w) (hsn : NsAt w s.refs ns) (hsm : s.small) (hx : Bx x ks X W) (hst : x.strip = s.strip) (hnm : W.cell? ⟨gN, j, none⟩ = some (sv old)) (hn : (s.namesOf phrase).length = nN) (hj : j < nN) (h0 : resE s.strip ns = 0) (hi : s.strip.idx ns = some ks) (ho : (s.namesOf phrase)[j]? = some old) (hnew : new ∉ s.namesOf phrase) (hnb : nameB new = true) (e0 e2 e5 e6 e7 e8 e12 e13 e14 e15 e16 e17 e18 e19 e20 e21 e22 e23 e24 e25 e26 e27 e28 e29 e30 e31 e32 e33 e34 e35 e36 e37 e38 e39 e40 e41 e42 e43 e44 e45 e46 e47 e48 e49 e50 e51 e52 e53 e54 e55 e56 e57 e58 e59 e60 e61 e62 e63 e64 e65 e66 e67 e68 e69 e70 e71 e72 e73 e74 e75 e76 e77 e78 e79 e80 e81 e82 e83 e84 e85 e86 e87 e88 e89 e90 e91 e92 e93 e94 e95 e96 e97 e98 e99 e100 e101 e102 e103 e104 e105 e106 e107 e108 e109 e110 e111 e112 e113 e114 e115 e116 e117 e118 e119 e120 e121 e122 e123 e124 e125 e126 e127 e128 e129 e130 : Value) :
  (lastPart 7 code4).wp Try.prog (bodyPost Try.prog Try.f4 (fun e w' => e = .returned (.bool true) ∧ Below w.heap.size w w')) { tmps := #[e0, .bool phrase, e2, sv new, .pointer (some ⟨w.heap.size, 0, none⟩), e5, e6, e7, e8, .slice (some ⟨gN, 0, none⟩) nN cN, .int .i64 (j : Nat), .pointer (some ⟨X, 0, none⟩), e12, e13, e14, e15, e16, e17, e18, e19, e20, e21, e22, e23, e24, e25, e26, e27, e28, e29, e30, e31, e32, e33, e34, e35, e36, e37, e38, e39, e40, e41, e42, e43, e44, e45, e46, e47, e48, e49, e50, e51, e52, e53, e54, e55, e56, e57, e58, e59, e60, e61, e62, e63, e64, e65, e66, e67, e68, e69, e70, e71, e72, e73, e74, e75, e76, e77, e78, e79, e80, e81, e82, e83, e84, e85, e86, e87, e88, e89, e90, e91, e92, e93, e94, e95, e96, e97, e98, e99, e100, e101, e102, e103, e104, e105, e106, e107, e108, e109, e110, e111, e112, e113, e114, e115, e116, e117, e118, e119, e120, e121, e122, e123, e124, e125, e126, e127, e128, e129, e130], defers := [] } W := by
 have hb := hW.below
 have hrz := res_zero h0
 have hG : RG s x ns ks w.heap.size X W := ⟨hW.box, hx.box, hs.below hb, hx.at_, hsn.below hb, hx.ns, hsm.cp, Ls.lims_cp (by rw [hst]; exact hrz.1)⟩
 rw [rnstep7]
 refine wp_seq_then (fun K hK => ren_e7 s x ns ks w.heap.size X W hG _ _ _ _ _ _ _ _ _ _ _ _ _ _ _ _ _ _ _ _ _ _ _ _ _ _ _ _ _ _ _ _ _ _ _ _ _ _ _ _ _ _ _ _ _ _ _ _ _ _ _ _ _ _ _ _ _ _ _ _ _ _ _ _ _ _ _ _ _ _ _ _ _ _ _ _ _ _ _ _ _ _ _ _ _ _ _ _ _ _ _ _ _ _ _ _ _ _ _ _ _ _ _ _ _ _ _ _ _ _ _ _ _ _ _ _ _ _ _ _ _ _ _ _ _ _ _ _ _ K ?_)
 intro y z A B W1 hT
 intros
 refine hK _ _ ?_
 clear hK K
 obtain ⟨lo1, hi1, lo2, hi2, hy, hz, hd, a1, a2, b1, b2⟩ := hT.rng
 have hb1 := hT.below
 have hlen : ∀ v : Ls, v.strip = s.strip → (ptrs v.refs).length ≤ 1000000 := fun v hv => by
  have h1 := ptrs_le v.refs
  have h2 := Ls.refs_same (x := v) (y := s) (by rw [hv])
  have h3 := hsm.refs
  omega
 have hzs : z.strip = s.strip := hz.strip.trans hst
 rw [rnstep8]
 refine wp_seq_then (fun K hK => ren_e8 A B lo1 hi1 lo2 hi2 gN nN cN j phrase old new y z ns ks W W1 (hy.base A hT.a0 a1) (hz.base B hT.b0 b2) hd a2 b1 (hy.toW hT.ya) (hz.toW hT.zb) hb1 hy.hi hz.hi (hlen y hy.strip) (hlen z hzs) hnm hj (by rw [many_len y s phrase hy.strip, hn]; exact hj) (by rw [many_len z s phrase hzs, hn]; exact hj) _ _ _ _ _ _ _ _ _ _ _ _ _ _ _ _ _ _ _ _ _ _ _ _ _ _ _ _ _ _ _ _ _ _ _ _ _ _ _ _ _ _ _ _ _ _ _ _ _ _ _ _ _ _ _ _ _ _ _ _ _ _ _ _ _ _ _ _ _ _ _ _ _ _ _ _ _ _ _ _ _ _ _ _ _ _ _ _ _ _ _ _ _ _ _ _ _ _ _ _ _ _ _ _ _ _ _ _ _ _ _ _ _ _ _ _ _ _ _ _ _ _ _ _ _ K ?_)
 intro W2 hy2 hz2 hb2
 intros
 refine hK _ _ ?_
 clear hK K
 obtain ⟨r1, r2⟩ := res_renamed (i := j) (old := old) (new := new) (phrase := phrase) h0 hi (by rw [names_strip]; exact ho) (by rw [names_strip]; exact hnew) hnb
 refine rnm_e9 (y.renamed phrase j old new) (z.renamed phrase j old new) ns ks w W2 A B he (thenB hb hb2) ⟨hy2.box, hy2.at_, hy2.ns⟩ ⟨hz2.box, hz2.at_, hz2.ns⟩ ?_ ?_ ?_ _ _ _ _ _ _ _ _ _ _ _ _ _ _ _ _ _ _ _ _ _ _ _ _ _ _ _ _ _ _ _ _ _ _ _ _ _ _ _ _ _ _ _ _ _ _ _ _ _ _ _ _ _ _ _ _ _ _ _ _ _ _ _ _ _ _ _ _ _ _ _ _ _ _ _ _ _ _ _ _ _ _ _ _ _ _ _ _ _ _ _ _ _ _ _ _ _ _ _ _ _ _ _ _ _ _ _ _ _ _ _ _ _ _ _ _ _ _ _ _ _ _ _ _ _ _ _ _ _
 ·rw [Ls.renamed_strip, hy.strip]; exact r1
 ·rw [Ls.renamed_strip, hy.strip]; exact r2
 ·rw [Ls.renamed_strip, Ls.renamed_strip, hy.strip, hzs]
set_option maxRecDepth 100000 in
set_option maxHeartbeats 16000000 in
theorem rnm_e4 (s : Ls) (ns : List Int) (w W : World) (gN nN cN at_ : Nat) (phrase : Bool) (new : Nm) (he : ∀ V, Below w.heap.size w V → Env V) (hW : LawW s w W) (hs : s.At w) (hsn : NsAt w s.refs ns) (hsm : s.small) (hnm : ∀ j nm, (s.namesOf phrase)[j]? = some nm → W.cell? ⟨gN, j, none⟩ = some (sv nm)) (hn : (s.namesOf phrase).length = nN) (hn0 : 0 < nN) (ha : at_ < 256) (hnew : new ∉ s.namesOf phrase) (hnb : nameB new = true) (e0 e5 e6 e7 e8 e10 e11 e12 e13 e14 e15 e16 e17 e18 e19 e20 e21 e22 e23 e24 e25 e26 e27 e28 e29 e30 e31 e32 e33 e34 e35 e36 e37 e38 e39 e40 e41 e42 e43 e44 e45 e46 e47 e48 e49 e50 e51 e52 e53 e54 e55 e56 e57 e58 e59 e60 e61 e62 e63 e64 e65 e66 e67 e68 e69 e70 e71 e72 e73 e74 e75 e76 e77 e78 e79 e80 e81 e82 e83 e84 e85 e86 e87 e88 e89 e90 e91 e92 e93 e94 e95 e96 e97 e98 e99 e100 e101 e102 e103 e104 e105 e106 e107 e108 e109 e110 e111 e112 e113 e114 e115 e116 e117 e118 e119 e120 e121 e122 e123 e124 e125 e126 e127 e128 e129 e130 : Value) :
  (lastPart 4 code4).wp Try.prog (bodyPost Try.prog Try.f4 (fun e w' => e = .returned (.bool true) ∧ Below w.heap.size w w')) { tmps := #[e0, .bool phrase, .int .u8 (at_ : Nat), sv new, .pointer (some ⟨w.heap.size, 0, none⟩), e5, e6, e7, e8, .slice (some ⟨gN, 0, none⟩) nN cN, e10, e11, e12, e13, e14, e15, e16, e17, e18, e19, e20, e21, e22, e23, e24, e25, e26, e27, e28, e29, e30, e31, e32, e33, e34, e35, e36, e37, e38, e39, e40, e41, e42, e43, e44, e45, e46, e47, e48, e49, e50, e51, e52, e53, e54, e55, e56, e57, e58, e59, e60, e61, e62, e63, e64, e65, e66, e67, e68, e69, e70, e71, e72, e73, e74, e75, e76, e77, e78, e79, e80, e81, e82, e83, e84, e85, e86, e87, e88, e89, e90, e91, e92, e93, e94, e95, e96, e97, e98, e99, e100, e101, e102, e103, e104, e105, e106, e107, e108, e109, e110, e111, e112, e113, e114, e115, e116, e117, e118, e119, e120, e121, e122, e123, e124, e125, e126, e127, e128, e129, e130], defers := [] } W := by
 obtain ⟨j, hj⟩ : ∃ j, at_ % nN = j := ⟨_, rfl⟩
 have hmod : (at_ : Int).tmod (nN : Int) = (j : Int) := by
  rw [← hj]; exact Int.ofNat_tmod at_ nN
 have hjl : j < nN := by rw [← hj]; exact Nat.mod_lt _ hn0
 have hmz : ¬ (nN : Int) = 0 := by omega
 have hmz2 : ¬ nN = 0 := by omega
 have hwa : IntKind.i64.wrap (at_ : Int) = (at_ : Int) := IntWalk.i64_in _ (by omega)
 have hb := hW.below
 have C := res_any s ns W (hs.below hb) (hsn.below hb) (he _ hb)
 unfold Ls.val at C
 have HC := Lib.hid C; have HL := Lib.hid hW.box
 have HS := Lib.hid (And.intro he (And.intro hW (And.intro hs (And.intro hsn (And.intro hsm (And.intro hnm (And.intro hn (And.intro hn0 (And.intro hnew (And.intro hnb (And.intro hj hjl)))))))))))
 clear C hb he hW hs hsn hsm hnm hn hn0 ha hnew hnb hj hjl
 rw [rnstep4]
 refine wp_seq_thenQ (fun K hK => ?_)
 have HK := Lib.hid hK
 clear hK
 conv => arg 2; whnf
 go_wp2_with fail
 refine HK.out _ _ ?_
 clear HK K hmod hmz hmz2 hwa
 rw [rnstep5]
 refine wp_seq_thenQ (fun K hK => ?_)
 have HK := Lib.hid hK
 clear hK
 conv => arg 2; whnf
 go_wp2_with (refine wpList_load_row rfl 30 _ rfl w.heap.size rfl 30 s.cells (0, 0) _ HL.out Try.underlying30 rfl (by kernel_rfl) ?_; simp only [Act.put, List.setIfInBounds_toArray, List.set_cons_zero, List.set_cons_succ])
 refine HC.out.mono ?_
 rintro e V ⟨(⟨h0, x, ks, rfl, q1, q2, q3, q4, _, _⟩ | ⟨h0, rfl⟩), q5⟩
 ·unfold Ls.val
  obtain ⟨W6, hW6, hX6, hb6⟩ : ∃ W6, V.alloc (.cells x.cells 30) = W6 ∧ W6.heap[V.heap.size]? = some (.cells x.cells 30 (0, 0)) ∧ Below V.heap.size V W6 := ⟨_, rfl, heap_alloc_new V _, (Below.refl _ _).alloc (Nat.le_refl _) _⟩
  have HQ := Lib.hid (And.intro h0 (And.intro q1 (And.intro q2 (And.intro q3 (And.intro q4 (And.intro q5 (And.intro hX6 hb6)))))))
  unfold Ls.cells at hW6 ⊢
  have HW6 := Lib.hid hW6
  clear HC h0 q1 q2 q3 q4 q5 hX6 hb6 hW6 HL
  dsimp only
  go_wp2_with fail
  have e5 := HW6.out
  simp only [sv] at e5 ⊢
  refine HK.out _ _ ?_
  rw [e5]
  clear HK K e5 HW6
  rw [rnstep6]
  refine wp_seq_thenQ (fun K hK => ?_)
  have HK := Lib.hid hK
  clear hK
  conv => arg 2; whnf
  go_wp2_with fail
  refine HK.out _ _ ?_
  clear HK K
  obtain ⟨he, hW, hs, hsn, hsm, hnm, hn, hn0, hnew, hnb, hj, hjl⟩ := HS.out
  obtain ⟨h0, q1, q2, q3, q4, q5, hX6, hb6⟩ := HQ.out
  have b6 : Below W.heap.size W W6 := thenB q5 hb6
  obtain ⟨old, ho⟩ : ∃ nm, (s.namesOf phrase)[j]? = some nm := ⟨_, List.getElem?_eq_getElem (by rw [hn]; exact hjl)⟩
  exact rnm_e7 s x ns ks w W6 gN nN cN j V.heap.size phrase old new he (hW.next b6) hs hsn hsm ⟨hX6, q2.below hb6, q3.below hb6⟩ q1 (keep_cell b6 (hnm j old ho)) hn hjl h0 q4 ho hnew hnb _ _ _ _ _ _ _ _ _ _ _ _ _ _ _ _ _ _ _ _ _ _ _ _ _ _ _ _ _ _ _ _ _ _ _ _ _ _ _ _ _ _ _ _ _ _ _ _ _ _ _ _ _ _ _ _ _ _ _ _ _ _ _ _ _ _ _ _ _ _ _ _ _ _ _ _ _ _ _ _ _ _ _ _ _ _ _ _ _ _ _ _ _ _ _ _ _ _ _ _ _ _ _ _ _ _ _ _ _ _ _ _ _ _ _ _ _ _ _ _ _ _ _ _ _
 ·obtain ⟨W6, hW6, hX6, hb6⟩ : ∃ W6, V.alloc (.cells zeroSc 30) = W6 ∧ W6.heap[V.heap.size]? = some (.cells zeroSc 30 (0, 0)) ∧ Below V.heap.size V W6 := ⟨_, rfl, heap_alloc_new V _, (Below.refl _ _).alloc (Nat.le_refl _) _⟩
  obtain ⟨c, hc⟩ : ∃ c, resE s.strip ns = c := ⟨_, rfl⟩
  rw [hc] at h0 ⊢
  have hne : (c != 0) = true := by simpa using h0
  have HB := Lib.hid (thenB HS.out.2.1.below (thenB q5 hb6))
  unfold zeroSc at hW6 ⊢
  have HW6 := Lib.hid hW6
  clear HC h0 hc q5 hX6 hb6 hW6 HL HS
  dsimp only
  go_wp2_with fail
  have e5 := HW6.out
  simp only [sv] at e5 ⊢
  refine HK.out _ _ ?_
  first | rw [e5] | erw [e5]
  clear HK K e5 HW6
  rw [rnstep6]
  refine wp_seq_thenQ (fun K hK => ?_)
  clear hK
  conv => arg 2; whnf
  go_wp2_with fail
  try simp only [Exit.then]
  go_ret
  exact ⟨rfl, HB.out⟩
set_option maxRecDepth 100000 in
set_option maxHeartbeats 16000000 in
theorem rnm_e3 (s : Ls) (ns : List Int) (w W : World) (ao : Option Addr) (nN cN at_ : Nat) (phrase : Bool) (new : Nm) (he : ∀ V, Below w.heap.size w V → Env V) (hW : LawW s w W) (hs : s.At w) (hsn : NsAt w s.refs ns) (hm : s.mfit) (hform : nN = 0 ∨ ∃ gN, ao = some ⟨gN, 0, none⟩ ∧ ∀ j nm, (s.namesOf phrase)[j]? = some nm → W.cell? ⟨gN, j, none⟩ = some (sv nm)) (hn : (s.namesOf phrase).length = nN) (hnl : nN ≤ 4000000000000) (ha : at_ < 256) (e0 e5 e6 e7 e8 e10 e11 e12 e13 e14 e15 e16 e17 e18 e19 e20 e21 e22 e23 e24 e25 e26 e27 e28 e29 e30 e31 e32 e33 e34 e35 e36 e37 e38 e39 e40 e41 e42 e43 e44 e45 e46 e47 e48 e49 e50 e51 e52 e53 e54 e55 e56 e57 e58 e59 e60 e61 e62 e63 e64 e65 e66 e67 e68 e69 e70 e71 e72 e73 e74 e75 e76 e77 e78 e79 e80 e81 e82 e83 e84 e85 e86 e87 e88 e89 e90 e91 e92 e93 e94 e95 e96 e97 e98 e99 e100 e101 e102 e103 e104 e105 e106 e107 e108 e109 e110 e111 e112 e113 e114 e115 e116 e117 e118 e119 e120 e121 e122 e123 e124 e125 e126 e127 e128 e129 e130 : Value) :
  (lastPart 3 code4).wp Try.prog (bodyPost Try.prog Try.f4 (fun e w' => e = .returned (.bool true) ∧ Below w.heap.size w w')) { tmps := #[e0, .bool phrase, .int .u8 (at_ : Nat), sv new, .pointer (some ⟨w.heap.size, 0, none⟩), e5, e6, e7, e8, .slice ao nN cN, e10, e11, e12, e13, e14, e15, e16, e17, e18, e19, e20, e21, e22, e23, e24, e25, e26, e27, e28, e29, e30, e31, e32, e33, e34, e35, e36, e37, e38, e39, e40, e41, e42, e43, e44, e45, e46, e47, e48, e49, e50, e51, e52, e53, e54, e55, e56, e57, e58, e59, e60, e61, e62, e63, e64, e65, e66, e67, e68, e69, e70, e71, e72, e73, e74, e75, e76, e77, e78, e79, e80, e81, e82, e83, e84, e85, e86, e87, e88, e89, e90, e91, e92, e93, e94, e95, e96, e97, e98, e99, e100, e101, e102, e103, e104, e105, e106, e107, e108, e109, e110, e111, e112, e113, e114, e115, e116, e117, e118, e119, e120, e121, e122, e123, e124, e125, e126, e127, e128, e129, e130], defers := [] } W := by
 have C := few_any s W (hs.below hW.below) hm
 have C2 : new.length ≤ 100 → ∀ V, Calls Try.prog 23 #[sv new] V fun e w' => e = .returned (.bool (nameOk new && !decide (new ∈ refWords))) ∧ Below V.heap.size V w' := fun h V => name23 new V (by unfold maxLen; omega)
 have C3 : ∀ gN, (∀ j nm, (s.namesOf phrase)[j]? = some nm → W.cell? ⟨gN, j, none⟩ = some (sv nm)) → ∀ V, Below W.heap.size W V → Calls Try.prog 24 #[.slice (some ⟨gN, 0, none⟩) nN cN, sv new] V (FindP (s.namesOf phrase) new V) := fun gN hr V hv => find24 (s.namesOf phrase) gN nN cN new V (fun j nm h => keep_cell hv (hr j nm h)) hn (by unfold maxLen; omega)
 have HE : ∀ gN V, ao = some ⟨gN, 0, none⟩ → (∀ j nm, (s.namesOf phrase)[j]? = some nm → W.cell? ⟨gN, j, none⟩ = some (sv nm)) → Below W.heap.size W V → s.small → 0 < nN → new ∉ s.namesOf phrase → nameB new = true → ∀ (e0 e5 e6 e7 e8 e10 e11 e12 e13 e14 e15 e16 e17 e18 e19 e20 e21 e22 e23 e24 e25 e26 e27 e28 e29 e30 e31 e32 e33 e34 e35 e36 e37 e38 e39 e40 e41 e42 e43 e44 e45 e46 e47 e48 e49 e50 e51 e52 e53 e54 e55 e56 e57 e58 e59 e60 e61 e62 e63 e64 e65 e66 e67 e68 e69 e70 e71 e72 e73 e74 e75 e76 e77 e78 e79 e80 e81 e82 e83 e84 e85 e86 e87 e88 e89 e90 e91 e92 e93 e94 e95 e96 e97 e98 e99 e100 e101 e102 e103 e104 e105 e106 e107 e108 e109 e110 e111 e112 e113 e114 e115 e116 e117 e118 e119 e120 e121 e122 e123 e124 e125 e126 e127 e128 e129 e130 : Value), (lastPart 4 code4).wp Try.prog (bodyPost Try.prog Try.f4 (fun e w' => e = .returned (.bool true) ∧ Below w.heap.size w w')) { tmps := #[e0, .bool phrase, .int .u8 (at_ : Nat), sv new, .pointer (some ⟨w.heap.size, 0, none⟩), e5, e6, e7, e8, .slice (some ⟨gN, 0, none⟩) nN cN, e10, e11, e12, e13, e14, e15, e16, e17, e18, e19, e20, e21, e22, e23, e24, e25, e26, e27, e28, e29, e30, e31, e32, e33, e34, e35, e36, e37, e38, e39, e40, e41, e42, e43, e44, e45, e46, e47, e48, e49, e50, e51, e52, e53, e54, e55, e56, e57, e58, e59, e60, e61, e62, e63, e64, e65, e66, e67, e68, e69, e70, e71, e72, e73, e74, e75, e76, e77, e78, e79, e80, e81, e82, e83, e84, e85, e86, e87, e88, e89, e90, e91, e92, e93, e94, e95, e96, e97, e98, e99, e100, e101, e102, e103, e104, e105, e106, e107, e108, e109, e110, e111, e112, e113, e114, e115, e116, e117, e118, e119, e120, e121, e122, e123, e124, e125, e126, e127, e128, e129, e130], defers := [] } V := fun gN V _ hr hv hsm h0 h1 h2 => rnm_e4 s ns w V gN nN cN at_ phrase new he (hW.next hv) hs hsn hsm (fun j nm h => keep_cell hv (hr j nm h)) hn h0 ha h1 h2
 unfold Ls.val at C
 have HC := Lib.hid C; have HC2 := Lib.hid C2; have HC3 := Lib.hid C3; have HL := Lib.hid hW.box; have HF := Lib.hid hform; have HE := Lib.hid HE; have HB := Lib.hid hW.below
 clear C C2 C3 he hW hs hsn hm hform hn hnl ha
 have hlen : (⟨new.toArray⟩ : ByteArray).size = new.length := by simp [ByteArray.size]
 have HLN := Lib.hid hlen
 clear hlen
 rw [rnstep3]
 refine wp_seq_thenQ (fun K hK => ?_)
 have HK := Lib.hid hK
 clear hK
 conv => arg 2; whnf
 go_wp2_with (refine wpList_load_row rfl 30 _ rfl w.heap.size rfl 30 s.cells (0, 0) _ HL.out Try.underlying30 rfl (by kernel_rfl) ?_; simp only [Act.put, List.setIfInBounds_toArray, List.set_cons_zero, List.set_cons_succ])
 refine HC.out.mono ?_
 rintro e V ⟨b, rfl, hsm, hv⟩
 have HSM := Lib.hid hsm
 have HV := Lib.hid hv
 clear HC HL hv hsm
 unfold sv at HC2 HC3 HE ⊢
 generalize (⟨new.toArray⟩ : ByteArray) = t at *
 cases b with
 | false =>
  go_wp2_with fail
  try simp only [Exit.then]
  go_ret
  exact ⟨rfl, thenB HB.out HV.out⟩
 | true =>
 by_cases h0 : nN = 0
 ·subst h0
  go_wp2_with fail
  try simp only [Exit.then]
  go_ret
  exact ⟨rfl, thenB HB.out HV.out⟩
 have hmz : ((nN : Int) == 0) = false := by rw [beq_eq_false_iff_ne]; omega
 by_cases h1 : 100 < new.length
 ·have hl1 : decide ((100 : Int) < (t.size : Int)) = true := by have := HLN.out; rw [decide_eq_true_eq]; omega
  go_wp2_with fail
  try simp only [Exit.then]
  go_ret
  exact ⟨rfl, thenB HB.out HV.out⟩
 have hl1 : decide ((100 : Int) < (t.size : Int)) = false := by have := HLN.out; rw [decide_eq_false_iff_not]; omega
 have C := HC2.out (by omega) V
 obtain ⟨nb, hnb⟩ : ∃ nb, (nameOk new && !decide (new ∈ refWords)) = nb := ⟨_, rfl⟩
 rw [hnb] at C
 have HC := Lib.hid C; have HNB := Lib.hid hnb
 clear C hnb
 go_wp2_with fail
 refine HC.out.mono ?_
 rintro e V2 ⟨rfl, hv2⟩
 have HV2 := Lib.hid (thenB HV.out hv2)
 clear hv2 HC
 cases nb with
 | false =>
  go_wp2_with fail
  try simp only [Exit.then]
  go_ret
  exact ⟨rfl, thenB HB.out HV2.out⟩
 | true =>
 obtain ⟨gN, ea, hrow⟩ := HF.out.resolve_left h0
 have HC := Lib.hid (HC3.out gN hrow V2 HV2.out)
 have HR := Lib.hid (And.intro ea hrow)
 rw [ea]
 clear ea hrow
 unfold FindP at HC
 go_wp2_with fail
 refine HC.out.mono ?_
 rintro e V3 ⟨⟨k, rfl, hk⟩, rfl⟩
 have HK2 := Lib.hid hk
 clear hk
 by_cases hk0 : 0 ≤ k
 ·have hk1 : decide (0 ≤ k) = true := decide_eq_true hk0
  clear hk0
  go_wp2_with fail
  try simp only [Exit.then]
  go_ret
  exact ⟨rfl, thenB HB.out HV2.out⟩
 ·have hk1 : decide (0 ≤ k) = false := decide_eq_false hk0
  have HK0 := Lib.hid hk0
  clear hk0
  go_wp2_with fail
  refine HK.out _ _ ?_
  have hnb := HNB.out
  rw [Bool.and_eq_true, Bool.not_eq_true', decide_eq_false_iff_not] at hnb
  exact HE.out gN _ HR.out.1 HR.out.2 HV2.out (HSM.out (by trivial)) (by omega) (fun hm => absurd (HK2.out.2 hm) (by have := HK0.out; omega)) (nameB_of hnb.1 hnb.2) _ _ _ _ _ _ _ _ _ _ _ _ _ _ _ _ _ _ _ _ _ _ _ _ _ _ _ _ _ _ _ _ _ _ _ _ _ _ _ _ _ _ _ _ _ _ _ _ _ _ _ _ _ _ _ _ _ _ _ _ _ _ _ _ _ _ _ _ _ _ _ _ _ _ _ _ _ _ _ _ _ _ _ _ _ _ _ _ _ _ _ _ _ _ _ _ _ _ _ _ _ _ _ _ _ _ _ _ _ _ _ _ _ _ _ _ _ _ _ _ _ _ _ _ _ _
set_option maxRecDepth 100000 in
set_option maxHeartbeats 16000000 in
theorem rnm_e2 (s : Ls) (ns : List Int) (w W : World) (at_ : Nat) (phrase : Bool) (new : Nm) (he : ∀ V, Below w.heap.size w V → Env V) (hW : LawW s w W) (hs : s.At w) (hsn : NsAt w s.refs ns) (hm : s.mfit) (hl1 : s.roles.length ≤ 4000000000000) (hl2 : s.phrases.length ≤ 4000000000000) (ha : at_ < 256) (e0 e5 e6 e7 e8 e9 e10 e11 e12 e13 e14 e15 e16 e17 e18 e19 e20 e21 e22 e23 e24 e25 e26 e27 e28 e29 e30 e31 e32 e33 e34 e35 e36 e37 e38 e39 e40 e41 e42 e43 e44 e45 e46 e47 e48 e49 e50 e51 e52 e53 e54 e55 e56 e57 e58 e59 e60 e61 e62 e63 e64 e65 e66 e67 e68 e69 e70 e71 e72 e73 e74 e75 e76 e77 e78 e79 e80 e81 e82 e83 e84 e85 e86 e87 e88 e89 e90 e91 e92 e93 e94 e95 e96 e97 e98 e99 e100 e101 e102 e103 e104 e105 e106 e107 e108 e109 e110 e111 e112 e113 e114 e115 e116 e117 e118 e119 e120 e121 e122 e123 e124 e125 e126 e127 e128 e129 e130 : Value) :
  (lastPart 2 code4).wp Try.prog (bodyPost Try.prog Try.f4 (fun e w' => e = .returned (.bool true) ∧ Below w.heap.size w w')) { tmps := #[e0, .bool phrase, .int .u8 (at_ : Nat), sv new, .pointer (some ⟨w.heap.size, 0, none⟩), e5, e6, e7, e8, e9, e10, e11, e12, e13, e14, e15, e16, e17, e18, e19, e20, e21, e22, e23, e24, e25, e26, e27, e28, e29, e30, e31, e32, e33, e34, e35, e36, e37, e38, e39, e40, e41, e42, e43, e44, e45, e46, e47, e48, e49, e50, e51, e52, e53, e54, e55, e56, e57, e58, e59, e60, e61, e62, e63, e64, e65, e66, e67, e68, e69, e70, e71, e72, e73, e74, e75, e76, e77, e78, e79, e80, e81, e82, e83, e84, e85, e86, e87, e88, e89, e90, e91, e92, e93, e94, e95, e96, e97, e98, e99, e100, e101, e102, e103, e104, e105, e106, e107, e108, e109, e110, e111, e112, e113, e114, e115, e116, e117, e118, e119, e120, e121, e122, e123, e124, e125, e126, e127, e128, e129, e130], defers := [] } W := by
 have C := list_any s phrase W (hs.below hW.below) hl1 hl2
 have hnl : (if phrase then s.phrases.map (fun p => p.name) else s.roles.map fun p => p.name) = s.namesOf phrase := rfl
 rw [hnl] at C
 have hle : (s.namesOf phrase).length ≤ 4000000000000 := by unfold Ls.namesOf; split <;> simpa
 unfold Ls.val at C
 have HC := Lib.hid C; have HL := Lib.hid hW.box
 have HS := Lib.hid (And.intro he (And.intro hW (And.intro hs (And.intro hsn (And.intro hm (And.intro hl1 (And.intro hl2 (And.intro ha hle))))))))
 clear C he hW hs hsn hm hl1 hl2 hnl ha hle
 unfold NamesP at HC
 obtain ⟨nN, hn⟩ : ∃ nN, (s.namesOf phrase).length = nN := ⟨_, rfl⟩
 have HN := Lib.hid hn
 rw [hn] at HC
 clear hn
 rw [rnstep2]
 refine wp_seq_thenQ (fun K hK => ?_)
 have HK := Lib.hid hK
 clear hK
 conv => arg 2; whnf
 go_wp2_with (refine wpList_load_row rfl 30 _ rfl w.heap.size rfl 30 s.cells (0, 0) _ HL.out Try.underlying30 rfl (by kernel_rfl) ?_; simp only [Act.put, List.setIfInBounds_toArray, List.set_cons_zero, List.set_cons_succ])
 refine HC.out.mono ?_
 rintro e V ⟨v, rfl, ho, hv⟩
 obtain ⟨ao, cN, rfl, hform, _, _, _, hcl⟩ := own_new (by omega) ho
 have HV := Lib.hid hv
 have HF := Lib.hid (And.intro hform hcl)
 clear HC HL hv ho hform hcl
 go_wp2_with fail
 refine HK.out _ _ ?_
 clear HK K
 obtain ⟨he, hW, hs, hsn, hm, hl1, hl2, ha, hle⟩ := HS.out
 obtain ⟨hform, hcl⟩ := HF.out
 refine rnm_e3 s ns w V ao nN cN at_ phrase new he (hW.next HV.out) hs hsn hm ?_ HN.out (by rw [← HN.out]; exact hle) ha _ _ _ _ _ _ _ _ _ _ _ _ _ _ _ _ _ _ _ _ _ _ _ _ _ _ _ _ _ _ _ _ _ _ _ _ _ _ _ _ _ _ _ _ _ _ _ _ _ _ _ _ _ _ _ _ _ _ _ _ _ _ _ _ _ _ _ _ _ _ _ _ _ _ _ _ _ _ _ _ _ _ _ _ _ _ _ _ _ _ _ _ _ _ _ _ _ _ _ _ _ _ _ _ _ _ _ _ _ _ _ _ _ _ _ _ _ _ _ _ _ _ _ _ _ _
 rcases hform with h | ⟨h, _, _⟩
 ·exact Or.inl h
 ·exact Or.inr ⟨blk ao, h, fun j nm hq => by
   have := hcl j (sv nm) (by rw [List.getElem?_map, hq]; rfl)
   rw [Nat.zero_add] at this
   exact this⟩
set_option maxRecDepth 100000 in
set_option maxHeartbeats 16000000 in
theorem rename_any (s : Ls) (ns : List Int) (w : World) (phrase : Bool) (at_ : Nat) (new : Nm) (h : LawIn s ns w) (hl : s.roles.length ≤ 4000000000000 ∧ s.phrases.length ≤ 4000000000000) (ha : at_ < 256) : Calls Try.prog 4 #[s.val, .bool phrase, .int .u8 (at_ : Nat), sv new] w (fun e w' => e = .returned (.bool true) ∧ Below w.heap.size w w') := by
 obtain ⟨hA, hN, he, hm⟩ := h
 obtain ⟨W1, hW1, h1⟩ : ∃ W1, w.alloc (.cells s.cells 30) = W1 ∧ LawW s w W1 := ⟨_, rfl, (Below.refl _ w).alloc (Nat.le_refl _) _, heap_alloc_new w _⟩
 obtain ⟨cs, hcs⟩ : ∃ cs, s.cells = cs := ⟨_, rfl⟩
 have hsv : s.val = .agg cs := by rw [← hcs]; rfl
 have hW1' : w.alloc (.cells cs 30) = W1 := by rw [← hcs]; exact hW1
 rw [hsv]
 have HW1 := Lib.hid hW1'; have HCS := Lib.hid hcs; have HA := Lib.hid hA; have HN := Lib.hid hN; have HE := Lib.hid he; have HM := Lib.hid hm
 have H1 := Lib.hid h1
 have HAB := Lib.hid (And.intro ha hl)
 clear hA hN he hm hcs hW1 hW1' hsv h1 ha hl
 go_enter Try.func4, Try.ntmps4
 change Code.wp Try.prog (.seq elem4n0 (lastPart 1 code4)) _ _ _
 refine wp_seq_thenQ (fun K hK => ?_)
 have HK := Lib.hid hK
 clear hK
 conv => arg 2; whnf
 go_wp2_with fail
 refine HK.out _ _ ?_
 clear HK K
 rw [HW1.out]
 rw [rnstep1]
 refine wp_seq_thenQ (fun K hK => ?_)
 have HK := Lib.hid hK
 clear hK
 conv => arg 2; whnf
 have C := sane_any W1 (HE.out _ H1.out.below)
 have HC := Lib.hid C
 clear C
 go_wp2_with (go_at_call 13; refine HC.out.mono ?_; rintro e V ⟨rfl, hv⟩)
 refine HK.out _ _ ?_
 have H2 := Lib.hid (H1.out.next hv)
 clear HK K HC H1 HW1 hv
 exact rnm_e2 s ns w V at_ phrase new HE.out H2.out HA.out HN.out HM.out HAB.out.2.1 HAB.out.2.2 HAB.out.1 _ _ _ _ _ _ _ _ _ _ _ _ _ _ _ _ _ _ _ _ _ _ _ _ _ _ _ _ _ _ _ _ _ _ _ _ _ _ _ _ _ _ _ _ _ _ _ _ _ _ _ _ _ _ _ _ _ _ _ _ _ _ _ _ _ _ _ _ _ _ _ _ _ _ _ _ _ _ _ _ _ _ _ _ _ _ _ _ _ _ _ _ _ _ _ _ _ _ _ _ _ _ _ _ _ _ _ _ _ _ _ _ _ _ _ _ _ _ _ _ _ _ _ _ _ _ _
end Go.Proofs.Ytpnbpepkoekkoaa
end
