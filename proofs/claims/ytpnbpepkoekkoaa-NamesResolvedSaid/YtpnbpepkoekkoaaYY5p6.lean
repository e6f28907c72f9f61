/- The walk of the statement: part 6. -/
import Derived.Test.YtpnbpepkoekkoaaYY5p5
set_option linter.unusedVariables false
set_option linter.unusedSimpArgs false
section
namespace Go.Proofs.Ytpnbpepkoekkoaa
open Go Go.RowKit Go.Deep
set_option maxRecDepth 100000 in
set_option maxHeartbeats 16000000 in
theorem rsv_e7 (x yy : Ls) (ks : List Int) (w W : World) (X Y at_ : Nat) (by_ : Int) (he : ∀ V, Below w.heap.size w V → Env V) (hb : Below w.heap.size w W) (hx : Bx x ks X W) (hc : x.cpOk) (hml : x.refs.length ≤ 200000) (h0 : resE x.strip ks = 0) (hi : x.strip.idx ks = some ks) (hl1 : x.roles.length ≤ 300) (hl2 : x.phrases.length ≤ 300) (ha : at_ < 65536) (hby : -128 ≤ by_ ∧ by_ < 128) (hy : Bx yy ks Y W) (hst : yy.strip = x.strip) (e0 e3 e4 e5 e6 e8 e11 e12 e13 e14 e15 e16 e17 e18 e19 e20 e21 e22 e23 e24 e25 e26 e27 e28 e29 e30 e31 e32 e33 e34 e35 e36 e37 e38 e39 e40 e41 e42 e43 e44 e45 e46 e47 e48 e49 e50 e51 e52 e53 e54 e55 e56 e57 e58 e59 e60 e61 e62 e63 e64 e65 e66 e67 e68 e69 e70 e71 e72 e73 e74 e75 e76 e77 e78 e79 e80 e81 e82 e83 e84 e85 e86 e87 e88 e89 e90 e91 e92 e93 e94 e95 e96 e97 e98 e99 e100 e101 e102 e103 e104 e105 e106 : Value) :
  (lastPart 7 code3).wp Try.prog (bodyPost Try.prog Try.f3 (fun e w' => e = .returned (.bool true) ∧ Below w.heap.size w w')) { tmps := #[e0, .int .u16 (at_ : Nat), .int .i8 by_, e3, e4, e5, e6, .pointer (some ⟨X, 0, none⟩), e8, .pointer (some ⟨Y, 0, none⟩), .int .i64 0, e11, e12, e13, e14, e15, e16, e17, e18, e19, e20, e21, e22, e23, e24, e25, e26, e27, e28, e29, e30, e31, e32, e33, e34, e35, e36, e37, e38, e39, e40, e41, e42, e43, e44, e45, e46, e47, e48, e49, e50, e51, e52, e53, e54, e55, e56, e57, e58, e59, e60, e61, e62, e63, e64, e65, e66, e67, e68, e69, e70, e71, e72, e73, e74, e75, e76, e77, e78, e79, e80, e81, e82, e83, e84, e85, e86, e87, e88, e89, e90, e91, e92, e93, e94, e95, e96, e97, e98, e99, e100, e101, e102, e103, e104, e105, e106], defers := [] } W := by
 have C := same_any yy x ks W hy.at_ hx.at_ hst hy.ns hx.ns
 unfold Ls.val at C
 have HC := Lib.hid C; have HX := Lib.hid hx.box; have HY := Lib.hid hy.box
 have HS := Lib.hid (And.intro he (And.intro hb (And.intro hx (And.intro hc (And.intro hml (And.intro h0 (And.intro hi (And.intro hl1 (And.intro hl2 (And.intro ha hby))))))))))
 clear C he hb hx hc hml h0 hi hl1 hl2 ha hby hy hst
 rw [rsstep7]
 refine wp_seq_thenQ (fun K hK => ?_)
 have HK := Lib.hid hK
 clear hK
 conv => arg 2; whnf
 go_wp2_with (first | (refine wpList_load_row_at (by kernel_rfl) 30 _ rfl Y rfl 30 yy.cells (0, 0) _ HY.out Try.underlying30 rfl (by kernel_rfl) ?_; simp only [Act.put, List.setIfInBounds_toArray, List.set_cons_zero, List.set_cons_succ]) | (refine wpList_load_row_at (by kernel_rfl) 30 _ rfl X rfl 30 x.cells (0, 0) _ HX.out Try.underlying30 rfl (by kernel_rfl) ?_; simp only [Act.put, List.setIfInBounds_toArray, List.set_cons_zero, List.set_cons_succ]))
 refine HC.out.mono ?_
 rintro e V ⟨rfl, hv⟩
 have HV := Lib.hid hv
 clear HC HX HY hv
 go_wp2_with fail
 refine HK.out _ _ ?_
 obtain ⟨he, hb, hx, hc, hml, h0, hi, hl1, hl2, ha, hby⟩ := HS.out
 exact rsv_e8 x ks w V X at_ by_ he (thenB hb HV.out) (hx.next HV.out) hc hml h0 hi hl1 hl2 ha hby _ _ _ _ _ _ _ _ _ _ _ _ _ _ _ _ _ _ _ _ _ _ _ _ _ _ _ _ _ _ _ _ _ _ _ _ _ _ _ _ _ _ _ _ _ _ _ _ _ _ _ _ _ _ _ _ _ _ _ _ _ _ _ _ _ _ _ _ _ _ _ _ _ _ _ _ _ _ _ _ _ _ _ _ _ _ _ _ _ _ _ _ _ _ _ _ _ _ _ _ _ _ _ _
set_option maxRecDepth 100000 in
set_option maxHeartbeats 16000000 in
theorem rsv_e6 (x : Ls) (ks : List Int) (w W : World) (X at_ : Nat) (by_ : Int) (he : ∀ V, Below w.heap.size w V → Env V) (hb : Below w.heap.size w W) (hx : Bx x ks X W) (hc : x.cpOk) (hml : x.refs.length ≤ 200000) (h0 : resE x.strip ks = 0) (hi : x.strip.idx ks = some ks) (hl1 : x.roles.length ≤ 300) (hl2 : x.phrases.length ≤ 300) (ha : at_ < 65536) (hby : -128 ≤ by_ ∧ by_ < 128) (e0 e3 e4 e5 e6 e8 e9 e10 e11 e12 e13 e14 e15 e16 e17 e18 e19 e20 e21 e22 e23 e24 e25 e26 e27 e28 e29 e30 e31 e32 e33 e34 e35 e36 e37 e38 e39 e40 e41 e42 e43 e44 e45 e46 e47 e48 e49 e50 e51 e52 e53 e54 e55 e56 e57 e58 e59 e60 e61 e62 e63 e64 e65 e66 e67 e68 e69 e70 e71 e72 e73 e74 e75 e76 e77 e78 e79 e80 e81 e82 e83 e84 e85 e86 e87 e88 e89 e90 e91 e92 e93 e94 e95 e96 e97 e98 e99 e100 e101 e102 e103 e104 e105 e106 : Value) :
  (lastPart 6 code3).wp Try.prog (bodyPost Try.prog Try.f3 (fun e w' => e = .returned (.bool true) ∧ Below w.heap.size w w')) { tmps := #[e0, .int .u16 (at_ : Nat), .int .i8 by_, e3, e4, e5, e6, .pointer (some ⟨X, 0, none⟩), e8, e9, e10, e11, e12, e13, e14, e15, e16, e17, e18, e19, e20, e21, e22, e23, e24, e25, e26, e27, e28, e29, e30, e31, e32, e33, e34, e35, e36, e37, e38, e39, e40, e41, e42, e43, e44, e45, e46, e47, e48, e49, e50, e51, e52, e53, e54, e55, e56, e57, e58, e59, e60, e61, e62, e63, e64, e65, e66, e67, e68, e69, e70, e71, e72, e73, e74, e75, e76, e77, e78, e79, e80, e81, e82, e83, e84, e85, e86, e87, e88, e89, e90, e91, e92, e93, e94, e95, e96, e97, e98, e99, e100, e101, e102, e103, e104, e105, e106], defers := [] } W := by
 have C := res_ok x ks W hx.at_ hx.ns (he _ hb) h0
 unfold Ls.val at C
 have HC := Lib.hid C; have HL := Lib.hid hx.box
 have HS := Lib.hid (And.intro he (And.intro hb (And.intro hx (And.intro hc (And.intro hml (And.intro h0 (And.intro hi (And.intro hl1 (And.intro hl2 (And.intro ha hby))))))))))
 clear C he hb hx hc hml h0 hi hl1 hl2 ha hby
 rw [rsstep6]
 refine wp_seq_thenQ (fun K hK => ?_)
 have HK := Lib.hid hK
 clear hK
 conv => arg 2; whnf
 go_wp2_with (refine wpList_load_row rfl 30 _ rfl X rfl 30 x.cells (0, 0) _ HL.out Try.underlying30 rfl (by kernel_rfl) ?_; simp only [Act.put, List.setIfInBounds_toArray, List.set_cons_zero, List.set_cons_succ])
 refine HC.out.mono ?_
 rintro e V ⟨yy, kb, rfl, q1, q2, q3, q4, q5⟩
 unfold Ls.val
 obtain ⟨W6, hW6, hX6, hb6⟩ : ∃ W6, V.alloc (.cells yy.cells 30) = W6 ∧ W6.heap[V.heap.size]? = some (.cells yy.cells 30 (0, 0)) ∧ Below V.heap.size V W6 := ⟨_, rfl, heap_alloc_new V _, (Below.refl _ _).alloc (Nat.le_refl _) _⟩
 have HQ := Lib.hid (And.intro q1 (And.intro q2 (And.intro q3 (And.intro q4 (And.intro q5 (And.intro hX6 hb6))))))
 unfold Ls.cells at hW6 ⊢
 have HW6 := Lib.hid hW6
 clear HC q1 q2 q3 q4 q5 hX6 hb6 hW6 HL
 dsimp only
 go_wp2_with fail
 have e5 := HW6.out
 simp only [sv] at e5 ⊢
 refine HK.out _ _ ?_
 rw [e5]
 clear HK K e5 HW6
 obtain ⟨he, hb, hx, hc, hml, h0, hi, hl1, hl2, ha, hby⟩ := HS.out
 obtain ⟨q1, q2, q3, q4, q5, hX6, hb6⟩ := HQ.out
 have b6 : Below W.heap.size W W6 := thenB q5 hb6
 obtain rfl : kb = ks := by rw [hi] at q4; injection q4 with q4; exact q4.symm
 exact rsv_e7 x yy kb w W6 X V.heap.size at_ by_ he (thenB hb b6) (hx.next b6) hc hml h0 hi hl1 hl2 ha hby ⟨hX6, q2.below hb6, q3.below hb6⟩ q1 _ _ _ _ _ _ _ _ _ _ _ _ _ _ _ _ _ _ _ _ _ _ _ _ _ _ _ _ _ _ _ _ _ _ _ _ _ _ _ _ _ _ _ _ _ _ _ _ _ _ _ _ _ _ _ _ _ _ _ _ _ _ _ _ _ _ _ _ _ _ _ _ _ _ _ _ _ _ _ _ _ _ _ _ _ _ _ _ _ _ _ _ _ _ _ _ _ _ _ _ _ _
set_option maxRecDepth 100000 in
set_option maxHeartbeats 16000000 in
theorem rsv_e5 (s x : Ls) (ns ks : List Int) (w W : World) (X at_ : Nat) (by_ : Int) (he : ∀ V, Below w.heap.size w V → Env V) (hb : Below w.heap.size w W) (hx : Bx x ks X W) (hc : x.cpOk) (hml : x.refs.length ≤ 200000) (h0 : resE x.strip ks = 0) (hi : x.strip.idx ks = some ks) (hl1 : x.roles.length ≤ 300) (hl2 : x.phrases.length ≤ 300) (ha : at_ < 65536) (hby : -128 ≤ by_ ∧ by_ < 128) (hW : LawW s w W) (hs : s.At w) (hsn : NsAt w s.refs ns) (hsm : s.small) (hst : x.strip = s.strip) (hz : s.strip.idx ns = some ks) (e0 e4 e5 e6 e8 e9 e10 e11 e12 e13 e14 e15 e16 e17 e18 e19 e20 e21 e22 e23 e24 e25 e26 e27 e28 e29 e30 e31 e32 e33 e34 e35 e36 e37 e38 e39 e40 e41 e42 e43 e44 e45 e46 e47 e48 e49 e50 e51 e52 e53 e54 e55 e56 e57 e58 e59 e60 e61 e62 e63 e64 e65 e66 e67 e68 e69 e70 e71 e72 e73 e74 e75 e76 e77 e78 e79 e80 e81 e82 e83 e84 e85 e86 e87 e88 e89 e90 e91 e92 e93 e94 e95 e96 e97 e98 e99 e100 e101 e102 e103 e104 e105 e106 : Value) :
  (lastPart 5 code3).wp Try.prog (bodyPost Try.prog Try.f3 (fun e w' => e = .returned (.bool true) ∧ Below w.heap.size w w')) { tmps := #[e0, .int .u16 (at_ : Nat), .int .i8 by_, .pointer (some ⟨w.heap.size, 0, none⟩), e4, e5, e6, .pointer (some ⟨X, 0, none⟩), e8, e9, e10, e11, e12, e13, e14, e15, e16, e17, e18, e19, e20, e21, e22, e23, e24, e25, e26, e27, e28, e29, e30, e31, e32, e33, e34, e35, e36, e37, e38, e39, e40, e41, e42, e43, e44, e45, e46, e47, e48, e49, e50, e51, e52, e53, e54, e55, e56, e57, e58, e59, e60, e61, e62, e63, e64, e65, e66, e67, e68, e69, e70, e71, e72, e73, e74, e75, e76, e77, e78, e79, e80, e81, e82, e83, e84, e85, e86, e87, e88, e89, e90, e91, e92, e93, e94, e95, e96, e97, e98, e99, e100, e101, e102, e103, e104, e105, e106], defers := [] } W := by
 have C := alike_any s x ns ks W (hs.below hb) hx.at_ (hsn.below hb) hx.ns hsm.cp hc hst.symm (by rw [hst]; exact (idx_zero hz).symm) hsm.refs hml
 have C2 : ∀ V, Below W.heap.size W V → Calls Try.prog 16 #[x.val] V fun e w' => e = .returned (.int .i64 0) ∧ Below V.heap.size V w' := fun V hv => by
  have := chk_any x ks V (hx.next hv).at_ (hx.next hv).ns (he _ (thenB hb hv))
  unfold ChkP at this
  rw [chk_ok h0 hi] at this
  exact this
 have C3 : ∀ V, Below W.heap.size W V → Calls Try.prog 19 #[x.val] V fun e w' => e = .returned (.bool true) ∧ Below V.heap.size V w' := fun V hv =>
  right_any x ks V (hx.next hv).at_ (hx.next hv).ns (by have := ptrs_le x.refs; omega) (by omega) (by omega) fun pre r rest kp k kr h1 h2 h3 h4 => idx_right hi pre r rest kp k kr h1 h2 h3 h4
 unfold Ls.val at C C2 C3
 have HC := Lib.hid C; have HC2 := Lib.hid C2; have HC3 := Lib.hid C3; have HX := Lib.hid hx.box; have HL := Lib.hid hW.box
 have HS := Lib.hid (And.intro he (And.intro hb (And.intro hx (And.intro hc (And.intro hml (And.intro h0 (And.intro hi (And.intro hl1 (And.intro hl2 (And.intro ha hby))))))))))
 clear C C2 C3 he hb hx hc hml h0 hi hl1 hl2 ha hby hW hs hsn hsm hst hz
 rw [rsstep5]
 refine wp_seq_thenQ (fun K hK => ?_)
 have HK := Lib.hid hK
 clear hK
 conv => arg 2; whnf
 go_wp2_with (first | (refine wpList_load_row rfl 30 _ rfl w.heap.size rfl 30 s.cells (0, 0) _ HL.out Try.underlying30 rfl (by kernel_rfl) ?_; simp only [Act.put, List.setIfInBounds_toArray, List.set_cons_zero, List.set_cons_succ]) | (refine wpList_load_row rfl 30 _ rfl X rfl 30 x.cells (0, 0) _ HX.out Try.underlying30 rfl (by kernel_rfl) ?_; simp only [Act.put, List.setIfInBounds_toArray, List.set_cons_zero, List.set_cons_succ]))
 refine HC.out.mono ?_
 rintro e V ⟨rfl, hv⟩
 have HV := Lib.hid hv
 have HX2 := Lib.hid (HS.out.2.2.1.next hv).box
 have HD2 := Lib.hid (HC2.out _ hv)
 clear HC HX HL hv
 go_wp2_with (refine wpList_load_row_at (by kernel_rfl) 30 _ rfl X rfl 30 x.cells (0, 0) _ HX2.out Try.underlying30 rfl (by kernel_rfl) ?_; simp only [Act.put, List.setIfInBounds_toArray, List.set_cons_zero, List.set_cons_succ])
 refine HD2.out.mono ?_
 rintro e V2 ⟨rfl, hv2⟩
 have hv0 := thenB HV.out hv2
 have HV2 := Lib.hid hv0
 have HX3 := Lib.hid (HS.out.2.2.1.next hv0).box
 have HD3 := Lib.hid (HC3.out _ hv0)
 clear HD2 HX2 hv2 hv0 HV HC2
 go_wp2_with (refine wpList_load_row_at (by kernel_rfl) 30 _ rfl X rfl 30 x.cells (0, 0) _ HX3.out Try.underlying30 rfl (by kernel_rfl) ?_; simp only [Act.put, List.setIfInBounds_toArray, List.set_cons_zero, List.set_cons_succ])
 refine HD3.out.mono ?_
 rintro e V3 ⟨rfl, hv3⟩
 have HV3 := Lib.hid (thenB HV2.out hv3)
 clear HD3 HX3 HC3 hv3 HV2
 go_wp2_with fail
 refine HK.out _ _ ?_
 obtain ⟨he, hb, hx, hc, hml, h0, hi, hl1, hl2, ha, hby⟩ := HS.out
 exact rsv_e6 x ks w V3 X at_ by_ he (thenB hb HV3.out) (hx.next HV3.out) hc hml h0 hi hl1 hl2 ha hby _ _ _ _ _ _ _ _ _ _ _ _ _ _ _ _ _ _ _ _ _ _ _ _ _ _ _ _ _ _ _ _ _ _ _ _ _ _ _ _ _ _ _ _ _ _ _ _ _ _ _ _ _ _ _ _ _ _ _ _ _ _ _ _ _ _ _ _ _ _ _ _ _ _ _ _ _ _ _ _ _ _ _ _ _ _ _ _ _ _ _ _ _ _ _ _ _ _ _ _ _ _ _ _
set_option maxRecDepth 100000 in
set_option maxHeartbeats 16000000 in
theorem rsv_e4 (s x : Ls) (ns ks : List Int) (w W : World) (X at_ : Nat) (by_ : Int) (he : ∀ V, Below w.heap.size w V → Env V) (hb : Below w.heap.size w W) (hx : Bx x ks X W) (hc : x.cpOk) (hml : x.refs.length ≤ 200000) (h0 : resE x.strip ks = 0) (hi : x.strip.idx ks = some ks) (hl1 : x.roles.length ≤ 300) (hl2 : x.phrases.length ≤ 300) (ha : at_ < 65536) (hby : -128 ≤ by_ ∧ by_ < 128) (hW : LawW s w W) (hs : s.At w) (hsn : NsAt w s.refs ns) (hsm : s.small) (hst : x.strip = s.strip) (hz : s.strip.idx ns = some ks) (e0 e4 e5 e6 e9 e10 e11 e12 e13 e14 e15 e16 e17 e18 e19 e20 e21 e22 e23 e24 e25 e26 e27 e28 e29 e30 e31 e32 e33 e34 e35 e36 e37 e38 e39 e40 e41 e42 e43 e44 e45 e46 e47 e48 e49 e50 e51 e52 e53 e54 e55 e56 e57 e58 e59 e60 e61 e62 e63 e64 e65 e66 e67 e68 e69 e70 e71 e72 e73 e74 e75 e76 e77 e78 e79 e80 e81 e82 e83 e84 e85 e86 e87 e88 e89 e90 e91 e92 e93 e94 e95 e96 e97 e98 e99 e100 e101 e102 e103 e104 e105 e106 : Value) :
  (lastPart 4 code3).wp Try.prog (bodyPost Try.prog Try.f3 (fun e w' => e = .returned (.bool true) ∧ Below w.heap.size w w')) { tmps := #[e0, .int .u16 (at_ : Nat), .int .i8 by_, .pointer (some ⟨w.heap.size, 0, none⟩), e4, e5, e6, .pointer (some ⟨X, 0, none⟩), .int .i64 0, e9, e10, e11, e12, e13, e14, e15, e16, e17, e18, e19, e20, e21, e22, e23, e24, e25, e26, e27, e28, e29, e30, e31, e32, e33, e34, e35, e36, e37, e38, e39, e40, e41, e42, e43, e44, e45, e46, e47, e48, e49, e50, e51, e52, e53, e54, e55, e56, e57, e58, e59, e60, e61, e62, e63, e64, e65, e66, e67, e68, e69, e70, e71, e72, e73, e74, e75, e76, e77, e78, e79, e80, e81, e82, e83, e84, e85, e86, e87, e88, e89, e90, e91, e92, e93, e94, e95, e96, e97, e98, e99, e100, e101, e102, e103, e104, e105, e106], defers := [] } W := by
 have H := Lib.hid (rsv_e5 s x ns ks w W X at_ by_ he hb hx hc hml h0 hi hl1 hl2 ha hby hW hs hsn hsm hst hz)
 clear he hb hx hc hml h0 hi hl1 hl2 ha hby hW hs hsn hsm hst hz
 rw [rsstep4]
 refine wp_seq_thenQ (fun K hK => ?_)
 have HK := Lib.hid hK
 clear hK
 conv => arg 2; whnf
 go_wp2_with fail
 refine HK.out _ _ ?_
 exact H.out _ _ _ _ _ _ _ _ _ _ _ _ _ _ _ _ _ _ _ _ _ _ _ _ _ _ _ _ _ _ _ _ _ _ _ _ _ _ _ _ _ _ _ _ _ _ _ _ _ _ _ _ _ _ _ _ _ _ _ _ _ _ _ _ _ _ _ _ _ _ _ _ _ _ _ _ _ _ _ _ _ _ _ _ _ _ _ _ _ _ _ _ _ _ _ _ _ _ _ _ _ _ _
def zLs : Ls := ⟨[], 0, 0, 0, 0, 0, none, 0, [], none, 0, [], none, 0, [], none, 0, [], none, 0, [], none, 0, []⟩
theorem zLs_at (w : World) : zLs.At w := ⟨IsRow.nil, IsRow.nil, IsRow.nil, IsRow.nil, Or.inl rfl, Nat.zero_le _, trivial, Or.inl rfl, Nat.zero_le _, trivial⟩
theorem same_zero (w : World) : Calls Try.prog 17 #[.agg zeroSc, .agg #[.string ⟨#[]⟩, .int .i64 0, .int .i64 0, .int .i64 0, .int .i64 0, .int .i64 0, .slice none 0 0, .slice none 0 0, .slice none 0 0, .slice none 0 0, .slice none 0 0, .slice none 0 0]] w fun e w' => e = .returned (.bool true) ∧ Below w.heap.size w w' :=
 same_any zLs zLs [] w (zLs_at w) (zLs_at w) rfl trivial trivial
set_option maxRecDepth 100000 in
set_option maxHeartbeats 16000000 in
theorem rsv_e4bad (s : Ls) (ns : List Int) (w W : World) (X : Nat) (c : Int) (he : ∀ V, Below w.heap.size w V → Env V) (hW : LawW s w W) (hs : s.At w) (hsn : NsAt w s.refs ns) (hX : W.heap[X]? = some (.cells zeroSc 30 (0, 0))) (h0 : resE s.strip ns = c) (hc : c ≠ 0) (e0 e1 e2 e4 e5 e6 e9 e10 e11 e12 e13 e14 e15 e16 e17 e18 e19 e20 e21 e22 e23 e24 e25 e26 e27 e28 e29 e30 e31 e32 e33 e34 e35 e36 e37 e38 e39 e40 e41 e42 e43 e44 e45 e46 e47 e48 e49 e50 e51 e52 e53 e54 e55 e56 e57 e58 e59 e60 e61 e62 e63 e64 e65 e66 e67 e68 e69 e70 e71 e72 e73 e74 e75 e76 e77 e78 e79 e80 e81 e82 e83 e84 e85 e86 e87 e88 e89 e90 e91 e92 e93 e94 e95 e96 e97 e98 e99 e100 e101 e102 e103 e104 e105 e106 : Value) :
  (lastPart 4 code3).wp Try.prog (bodyPost Try.prog Try.f3 (fun e w' => e = .returned (.bool true) ∧ Below w.heap.size w w')) { tmps := #[e0, e1, e2, .pointer (some ⟨w.heap.size, 0, none⟩), e4, e5, e6, .pointer (some ⟨X, 0, none⟩), .int .i64 c, e9, e10, e11, e12, e13, e14, e15, e16, e17, e18, e19, e20, e21, e22, e23, e24, e25, e26, e27, e28, e29, e30, e31, e32, e33, e34, e35, e36, e37, e38, e39, e40, e41, e42, e43, e44, e45, e46, e47, e48, e49, e50, e51, e52, e53, e54, e55, e56, e57, e58, e59, e60, e61, e62, e63, e64, e65, e66, e67, e68, e69, e70, e71, e72, e73, e74, e75, e76, e77, e78, e79, e80, e81, e82, e83, e84, e85, e86, e87, e88, e89, e90, e91, e92, e93, e94, e95, e96, e97, e98, e99, e100, e101, e102, e103, e104, e105, e106], defers := [] } W := by
 have hb := hW.below
 have C := chk_any s ns W (hs.below hb) (hsn.below hb) (he _ hb)
 unfold ChkP at C
 rw [chk_err (by rw [h0]; exact hc), h0] at C
 unfold Ls.val at C
 have HC := Lib.hid C; have HL := Lib.hid hW.box; have HX := Lib.hid hX; have HB := Lib.hid hb
 have hne : (c != 0) = true := by simpa using hc
 clear C hb hW hs hsn hX h0 he
 rw [rsstep4]
 refine wp_seq_thenQ (fun K hK => ?_)
 have HK := Lib.hid hK
 clear hK
 conv => arg 2; whnf
 go_wp2_with (refine wpList_load_row rfl 30 _ rfl w.heap.size rfl 30 s.cells (0, 0) _ HL.out Try.underlying30 rfl (by kernel_rfl) ?_; simp only [Act.put, List.setIfInBounds_toArray, List.set_cons_zero, List.set_cons_succ])
 refine HC.out.mono ?_
 rintro e V ⟨rfl, hv⟩
 have HV := Lib.hid hv
 have HX2 := Lib.hid (keepO hv HX.out)
 have HC2 := Lib.hid (same_zero V)
 clear HC HL HX hv
 go_wp2_with (refine wpList_load_row_at (by kernel_rfl) 30 _ rfl X rfl 30 zeroSc (0, 0) _ HX2.out Try.underlying30 rfl (by kernel_rfl) ?_; simp only [Act.put, List.setIfInBounds_toArray, List.set_cons_zero, List.set_cons_succ])
 refine HC2.out.mono ?_
 rintro e V2 ⟨rfl, hv2⟩
 have HV2 := Lib.hid hv2
 clear HC2 HX2 hv2
 go_wp2_with fail
 try simp only [Exit.then]
 go_ret
 exact ⟨rfl, thenB HB.out (thenB HV.out HV2.out)⟩
end Go.Proofs.Ytpnbpepkoekkoaa
end
section
namespace Go.Proofs.Ytpnbpepkoekkoaa
open Go Go.RowKit Go.Deep
set_option maxRecDepth 100000 in
set_option maxHeartbeats 16000000 in
theorem rsv_e3 (s : Ls) (ns : List Int) (w W : World) (at_ : Nat) (by_ : Int) (he : ∀ V, Below w.heap.size w V → Env V) (hW : LawW s w W) (hs : s.At w) (hsn : NsAt w s.refs ns) (hsm : s.small) (ha : at_ < 65536) (hby : -128 ≤ by_ ∧ by_ < 128) (e0 e4 e5 e6 e7 e8 e9 e10 e11 e12 e13 e14 e15 e16 e17 e18 e19 e20 e21 e22 e23 e24 e25 e26 e27 e28 e29 e30 e31 e32 e33 e34 e35 e36 e37 e38 e39 e40 e41 e42 e43 e44 e45 e46 e47 e48 e49 e50 e51 e52 e53 e54 e55 e56 e57 e58 e59 e60 e61 e62 e63 e64 e65 e66 e67 e68 e69 e70 e71 e72 e73 e74 e75 e76 e77 e78 e79 e80 e81 e82 e83 e84 e85 e86 e87 e88 e89 e90 e91 e92 e93 e94 e95 e96 e97 e98 e99 e100 e101 e102 e103 e104 e105 e106 : Value) :
  (lastPart 3 code3).wp Try.prog (bodyPost Try.prog Try.f3 (fun e w' => e = .returned (.bool true) ∧ Below w.heap.size w w')) { tmps := #[e0, .int .u16 (at_ : Nat), .int .i8 by_, .pointer (some ⟨w.heap.size, 0, none⟩), e4, e5, e6, e7, e8, e9, e10, e11, e12, e13, e14, e15, e16, e17, e18, e19, e20, e21, e22, e23, e24, e25, e26, e27, e28, e29, e30, e31, e32, e33, e34, e35, e36, e37, e38, e39, e40, e41, e42, e43, e44, e45, e46, e47, e48, e49, e50, e51, e52, e53, e54, e55, e56, e57, e58, e59, e60, e61, e62, e63, e64, e65, e66, e67, e68, e69, e70, e71, e72, e73, e74, e75, e76, e77, e78, e79, e80, e81, e82, e83, e84, e85, e86, e87, e88, e89, e90, e91, e92, e93, e94, e95, e96, e97, e98, e99, e100, e101, e102, e103, e104, e105, e106], defers := [] } W := by
 have hb := hW.below
 have C := res_any s ns W (hs.below hb) (hsn.below hb) (he _ hb)
 unfold Ls.val at C
 have HC := Lib.hid C; have HL := Lib.hid hW.box
 have HS := Lib.hid (And.intro he (And.intro hW (And.intro hs (And.intro hsn (And.intro hsm (And.intro ha hby))))))
 clear C hb he hW hs hsn hsm ha hby
 rw [rsstep3]
 refine wp_seq_thenQ (fun K hK => ?_)
 have HK := Lib.hid hK
 clear hK
 conv => arg 2; whnf
 go_wp2_with (refine wpList_load_row rfl 30 _ rfl w.heap.size rfl 30 s.cells (0, 0) _ HL.out Try.underlying30 rfl (by kernel_rfl) ?_; simp only [Act.put, List.setIfInBounds_toArray, List.set_cons_zero, List.set_cons_succ])
 refine HC.out.mono ?_
 rintro e V ⟨(⟨h0, x, ks, rfl, q1, q2, q3, q4, _, _⟩ | ⟨h0, rfl⟩), q5⟩
 ·unfold Ls.val
  obtain ⟨W6, hW6, hX6, hb6⟩ : ∃ W6, V.alloc (.cells x.cells 30) = W6 ∧ W6.heap[V.heap.size]? = some (.cells x.cells 30 (0, 0)) ∧ Below V.heap.size V W6 := ⟨_, rfl, heap_alloc_new V _, (Below.refl _ _).alloc (Nat.le_refl _) _⟩
  have HQ := Lib.hid (And.intro h0 (And.intro q1 (And.intro q2 (And.intro q3 (And.intro q4 (And.intro q5 (And.intro hX6 hb6)))))))
  unfold Ls.cells at hW6 ⊢
  have HW6 := Lib.hid hW6
  clear HC h0 q1 q2 q3 q4 q5 hX6 hb6 hW6 HL
  dsimp only
  go_wp2_with fail
  have e5 := HW6.out
  simp only [sv] at e5 ⊢
  refine HK.out _ _ ?_
  rw [e5]
  clear HK K e5 HW6
  obtain ⟨he, hW, hs, hsn, hsm, ha, hby⟩ := HS.out
  obtain ⟨h0, q1, q2, q3, q4, q5, hX6, hb6⟩ := HQ.out
  have b6 : Below W.heap.size W W6 := thenB q5 hb6
  have hk : x.strip.idx ks = some ks := by rw [q1]; exact idx_again q4
  have hrz := res_zero h0
  have hk0 : resE x.strip ks = 0 := res_again (ns := ns) (by rw [q1]; exact h0) (by rw [hk]; rfl)
  have er : x.roles = s.roles := by
   have : x.strip.roles = s.strip.roles := by rw [q1]
   exact this
  have ep : x.phrases.length = s.phrases.length := by
   have : x.strip.phrases.length = s.strip.phrases.length := by rw [q1]
   simpa [Ls.strip] using this
  exact rsv_e4 s x ns ks w W6 V.heap.size at_ by_ he (thenB hW.below b6) ⟨hX6, q2.below hb6, q3.below hb6⟩ (Ls.lims_cp (by rw [q1]; exact hrz.1)) (by rw [Ls.refs_same (x := x) (y := s) (by rw [q1])]; exact hsm.refs) hk0 hk (by rw [er]; exact hsm.roles) (by rw [ep]; exact hsm.phrases) ha hby (hW.next b6) hs hsn hsm q1 q4 _ _ _ _ _ _ _ _ _ _ _ _ _ _ _ _ _ _ _ _ _ _ _ _ _ _ _ _ _ _ _ _ _ _ _ _ _ _ _ _ _ _ _ _ _ _ _ _ _ _ _ _ _ _ _ _ _ _ _ _ _ _ _ _ _ _ _ _ _ _ _ _ _ _ _ _ _ _ _ _ _ _ _ _ _ _ _ _ _ _ _ _ _ _ _ _ _ _ _ _ _ _
 ·obtain ⟨W6, hW6, hX6, hb6⟩ : ∃ W6, V.alloc (.cells zeroSc 30) = W6 ∧ W6.heap[V.heap.size]? = some (.cells zeroSc 30 (0, 0)) ∧ Below V.heap.size V W6 := ⟨_, rfl, heap_alloc_new V _, (Below.refl _ _).alloc (Nat.le_refl _) _⟩
  obtain ⟨c, hc⟩ : ∃ c, resE s.strip ns = c := ⟨_, rfl⟩
  rw [hc] at h0 ⊢
  have HQ := Lib.hid (And.intro h0 (And.intro hc (And.intro q5 (And.intro hX6 hb6))))
  unfold zeroSc at hW6 ⊢
  have HW6 := Lib.hid hW6
  clear HC h0 hc q5 hX6 hb6 hW6 HL
  dsimp only
  go_wp2_with fail
  have e5 := HW6.out
  simp only [sv] at e5 ⊢
  refine HK.out _ _ ?_
  first | rw [e5] | erw [e5]
  clear HK K e5 HW6
  obtain ⟨he, hW, hs, hsn, hsm, ha, hby⟩ := HS.out
  obtain ⟨h0, hc, q5, hX6, hb6⟩ := HQ.out
  have b6 : Below W.heap.size W W6 := thenB q5 hb6
  exact rsv_e4bad s ns w W6 V.heap.size c he (hW.next b6) hs hsn hX6 hc h0 _ _ _ _ _ _ _ _ _ _ _ _ _ _ _ _ _ _ _ _ _ _ _ _ _ _ _ _ _ _ _ _ _ _ _ _ _ _ _ _ _ _ _ _ _ _ _ _ _ _ _ _ _ _ _ _ _ _ _ _ _ _ _ _ _ _ _ _ _ _ _ _ _ _ _ _ _ _ _ _ _ _ _ _ _ _ _ _ _ _ _ _ _ _ _ _ _ _ _ _ _ _ _ _
set_option maxRecDepth 100000 in
set_option maxHeartbeats 16000000 in
theorem resolved_any (s : Ls) (ns : List Int) (w : World) (at_ : Nat) (by_ : Int) (h : LawIn s ns w) (ha : at_ < 65536) (hby : -128 ≤ by_ ∧ by_ < 128) : Calls Try.prog 3 #[s.val, .int .u16 (at_ : Nat), .int .i8 by_] w (fun e w' => e = .returned (.bool true) ∧ Below w.heap.size w w') := by
 obtain ⟨hA, hN, he, hm⟩ := h
 obtain ⟨W1, hW1, h1⟩ : ∃ W1, w.alloc (.cells s.cells 30) = W1 ∧ LawW s w W1 := ⟨_, rfl, (Below.refl _ w).alloc (Nat.le_refl _) _, heap_alloc_new w _⟩
 obtain ⟨cs, hcs⟩ : ∃ cs, s.cells = cs := ⟨_, rfl⟩
 have hsv : s.val = .agg cs := by rw [← hcs]; rfl
 have hW1' : w.alloc (.cells cs 30) = W1 := by rw [← hcs]; exact hW1
 rw [hsv]
 have HW1 := Lib.hid hW1'; have HCS := Lib.hid hcs; have HA := Lib.hid hA; have HN := Lib.hid hN; have HE := Lib.hid he; have HM := Lib.hid hm
 have H1 := Lib.hid h1
 have HAB := Lib.hid (And.intro ha hby)
 clear hA hN he hm hcs hW1 hW1' hsv h1 ha hby
 go_enter Try.func3, Try.ntmps3
 change Code.wp Try.prog (.seq elem3n0 (lastPart 1 code3)) _ _ _
 refine wp_seq_thenQ (fun K hK => ?_)
 have HK := Lib.hid hK
 clear hK
 conv => arg 2; whnf
 go_wp2_with fail
 refine HK.out _ _ ?_
 clear HK K
 rw [HW1.out]
 rw [rsstep1]
 refine wp_seq_thenQ (fun K hK => ?_)
 have HK := Lib.hid hK
 clear hK
 conv => arg 2; whnf
 have C := sane_any W1 (HE.out _ H1.out.below)
 have HC := Lib.hid C
 clear C
 go_wp2_with (go_at_call 13; refine HC.out.mono ?_; rintro e V ⟨rfl, hv⟩)
 refine HK.out _ _ ?_
 have H2 := Lib.hid (H1.out.next hv)
 clear HK K HC H1 HW1 hv
 generalize V = W2 at *
 rw [rsstep2]
 refine wp_seq_thenQ (fun K hK => ?_)
 have HK := Lib.hid hK
 clear hK
 conv => arg 2; whnf
 have C := few_any s W2 (HA.out.below H2.out.below) HM.out
 have HC := Lib.hid C
 have HL := Lib.hid H2.out.box
 clear C
 go_wp2_with (refine wpList_load_row rfl 30 _ rfl w.heap.size rfl 30 s.cells (0, 0) _ HL.out Try.underlying30 rfl (by kernel_rfl) ?_; simp only [Act.put, List.setIfInBounds_toArray, List.set_cons_zero, List.set_cons_succ])
 unfold Ls.val at HC
 refine HC.out.mono ?_
 rintro e V ⟨b, rfl, hsm, hv⟩
 have H3 := Lib.hid (H2.out.next hv)
 have HSM := Lib.hid hsm
 clear HC HL H2 hv hsm W1 W2
 cases b with
 | false =>
  go_wp2_with fail
  try simp only [Exit.then]
  go_ret
  exact ⟨rfl, H3.out.below⟩
 | true =>
 go_wp2_with fail
 refine HK.out _ _ ?_
 clear HK K
 exact rsv_e3 s ns w V at_ by_ HE.out H3.out HA.out HN.out (HSM.out (by trivial)) HAB.out.1 HAB.out.2 _ _ _ _ _ _ _ _ _ _ _ _ _ _ _ _ _ _ _ _ _ _ _ _ _ _ _ _ _ _ _ _ _ _ _ _ _ _ _ _ _ _ _ _ _ _ _ _ _ _ _ _ _ _ _ _ _ _ _ _ _ _ _ _ _ _ _ _ _ _ _ _ _ _ _ _ _ _ _ _ _ _ _ _ _ _ _ _ _ _ _ _ _ _ _ _ _ _ _ _ _ _ _ _
end Go.Proofs.Ytpnbpepkoekkoaa
end
