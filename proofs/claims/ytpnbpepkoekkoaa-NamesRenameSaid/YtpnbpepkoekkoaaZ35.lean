/- Contracts and plain laws on the way to the statement: part 35. -/
import Derived.Test.YtpnbpepkoekkoaaZ34
set_option linter.unusedVariables false
set_option linter.unusedSimpArgs false
section
namespace Go.Proofs.Ytpnbpepkoekkoaa
open Go Go.RowKit Go.Shelf Go.Deep
theorem chk_code (s : Ls) (ns : List Int) (w : World) (hA : s.At w) (hN : NsAt w s.refs ns) (he : Env w) (c : Int) (hc : chkE s.strip ns = c) : Calls Try.prog 16 #[s.val] w fun e w' => e = .returned (.int .i64 c) ∧ Below w.heap.size w w' := by
 subst hc; exact chk_any s ns w hA hN he
set_option maxRecDepth 100000 in
set_option maxHeartbeats 16000000 in
theorem sane_e17 (X : Nat) (x : Ls) (w W : World) (hb : Below w.heap.size w W) (hx : SX X x W) (he : Env W) (e0 e2 e3 e4 e5 e6 e7 e8 e9 e10 e11 e12 e13 e14 e15 e16 e17 e18 e19 e20 e21 e22 e23 e24 e25 e26 e27 e28 e29 e30 e31 e32 e33 e34 e35 e36 e37 e38 e39 e40 e41 e42 e43 e44 e45 e46 e47 e48 e49 e50 e51 e52 e53 e54 e55 e56 e57 e58 e59 e60 e61 e62 e63 e64 e65 e66 e67 e68 e69 e70 e71 e72 e73 e74 e75 e76 e77 e78 e79 e80 e81 e82 e83 e84 e85 e86 e87 e88 e89 e90 e91 e92 e93 e94 e95 e96 e97 e98 e99 e100 e101 e102 e103 e104 e105 e106 e107 e108 e109 e110 e111 e112 e113 e114 e115 e116 e117 e118 e119 e120 e121 e122 e123 e124 e125 e126 e127 e128 e129 e130 e131 e132 e133 e134 e135 e136 e137 e138 e139 e140 e141 e142 e143 e144 e145 e146 e147 e148 e149 e150 e151 e152 e153 e154 e155 e156 e157 e158 e159 e160 e161 e162 e163 e164 e165 e166 e167 e168 e169 e170 e171 e172 e173 e174 e175 e176 e177 e178 e179 e180 e181 e182 e183 e184 e185 e186 e187 e188 e189 e190 e191 e192 e193 e194 e195 e196 e197 e198 e199 e200 e201 e202 e203 e204 e205 e206 e207 e208 e209 e210 e211 e212 e213 e214 e215 e216 e217 e218 e219 e220 e221 e222 e223 e224 e225 e226 e227 e228 e229 e230 e231 e232 e233 e234 e235 e236 e237 e238 e239 e240 e241 e242 e243 e244 e245 e246 e247 e248 e249 e250 e251 e252 e253 e254 e255 e256 e257 e258 e259 e260 e261 e262 e263 e264 e265 e266 e267 e268 e269 e270 e271 e272 e273 e274 e275 e276 e277 e278 e279 : Value) :
  (lastPart 17 code13).wp Try.prog (bodyPost Try.prog Try.f13 (fun e w' => e = .returned (.bool true) ∧ Below w.heap.size w w')) { tmps := #[e0, .pointer (some ⟨X, 0, none⟩), e2, e3, e4, e5, e6, e7, e8, e9, e10, e11, e12, e13, e14, e15, e16, e17, e18, e19, e20, e21, e22, e23, e24, e25, e26, e27, e28, e29, e30, e31, e32, e33, e34, e35, e36, e37, e38, e39, e40, e41, e42, e43, e44, e45, e46, e47, e48, e49, e50, e51, e52, e53, e54, e55, e56, e57, e58, e59, e60, e61, e62, e63, e64, e65, e66, e67, e68, e69, e70, e71, e72, e73, e74, e75, e76, e77, e78, e79, e80, e81, e82, e83, e84, e85, e86, e87, e88, e89, e90, e91, e92, e93, e94, e95, e96, e97, e98, e99, e100, e101, e102, e103, e104, e105, e106, e107, e108, e109, e110, e111, e112, e113, e114, e115, e116, e117, e118, e119, e120, e121, e122, e123, e124, e125, e126, e127, e128, e129, e130, e131, e132, e133, e134, e135, e136, e137, e138, e139, e140, e141, e142, e143, e144, e145, e146, e147, e148, e149, e150, e151, e152, e153, e154, e155, e156, e157, e158, e159, e160, e161, e162, e163, e164, e165, e166, e167, e168, e169, e170, e171, e172, e173, e174, e175, e176, e177, e178, e179, e180, e181, e182, e183, e184, e185, e186, e187, e188, e189, e190, e191, e192, e193, e194, e195, e196, e197, e198, e199, e200, e201, e202, e203, e204, e205, e206, e207, e208, e209, e210, e211, e212, e213, e214, e215, e216, e217, e218, e219, e220, e221, e222, e223, e224, e225, e226, e227, e228, e229, e230, e231, e232, e233, e234, e235, e236, e237, e238, e239, e240, e241, e242, e243, e244, e245, e246, e247, e248, e249, e250, e251, e252, e253, e254, e255, e256, e257, e258, e259, e260, e261, e262, e263, e264, e265, e266, e267, e268, e269, e270, e271, e272, e273, e274, e275, e276, e277, e278, e279], defers := [] } W := by
 obtain ⟨F, f, I0, i0, I1, i1, M0, m0, I2, i2, M1, m1, D, d, n1, n2, n3, n4, c0, c1, c2, cm0, cm1, k1, k2, k3, k4, ra, ta, ua, sa, rc, tc, uc, sc, fc, dc, hX, _⟩ := hx.back
 have hxc : x.cells = #[sv [119], .int .i64 0, .int .i64 0, .int .i64 0, .int .i64 0, .int .i64 0, .slice ra 2 rc, .slice ta 0 tc, .slice ua 0 uc, .slice sa 0 sc, .slice (some ⟨F, f, none⟩) 2 fc, .slice (some ⟨D, d, none⟩) 2 dc] := by
  have h := hx.heap
  rw [hX] at h
  injection h with h; injection h with h
  exact h.symm
 have C1 : ∀ V, Below W.heap.size W V → Calls Try.prog 16 #[.agg #[sv [], .int .i64 0, .int .i64 0, .int .i64 0, .int .i64 0, .int .i64 0, .slice none 0 0, .slice none 0 0, .slice none 0 0, .slice none 0 0, .slice none 0 0, .slice none 0 0]] V fun e V' => e = .returned (.int .i64 170) ∧ Below W.heap.size W V' := fun V hv => by
  have hA := bareL_at (nm := []) (ra := none) (rc := 0) (n := 0) (W := V) IsRow.nil
  exact (chk_code _ [] V hA.1 hA.2 (he.below hv) 170 bare_none).mono fun e V' ⟨h1, h2⟩ => ⟨h1, hv.trans (h2.mono hv.size)⟩
 have C2 : ∀ V, Below W.heap.size W V → Calls Try.prog 16 #[.agg #[sv [119], .int .i64 0, .int .i64 0, .int .i64 0, .int .i64 0, .int .i64 0, .slice none 0 0, .slice none 0 0, .slice none 0 0, .slice none 0 0, .slice none 0 0, .slice none 0 0]] V fun e V' => e = .returned (.int .i64 0) ∧ Below W.heap.size W V' := fun V hv => by
  have hA := bareL_at (nm := [119]) (ra := none) (rc := 0) (n := 0) (W := V) IsRow.nil
  exact (chk_code _ [] V hA.1 hA.2 (he.below hv) 0 bare_ok).mono fun e V' ⟨h1, h2⟩ => ⟨h1, hv.trans (h2.mono hv.size)⟩
 have C33 : ∀ V, Below W.heap.size W V → Calls Try.prog 33 #[] V fun e V' => ∃ R M0 I1 I0 M1 I2 F Dn : Nat, e = .returned (.agg #[sv [119], .int .i64 0, .int .i64 0, .int .i64 0, .int .i64 0, .int .i64 0, .slice (some ⟨R, 0, none⟩) 2 2, .slice none 0 0, .slice none 0 0, .slice none 0 0, .slice (some ⟨F, 0, none⟩) 2 2, .slice (some ⟨Dn, 0, none⟩) 2 2]) ∧ Hid (SmallW [97] [99] [97] 0 R M0 I1 I0 M1 I2 F Dn V') ∧ Below W.heap.size W V' := fun V hv => by
  refine (small_any V).mono ?_
  rintro e V' ⟨R, M0, I1, I0, M1, I2, F, Dn, rfl, h1, _, _, h2⟩
  exact ⟨R, M0, I1, I0, M1, I2, F, Dn, rfl, Lib.hid h1, hv.trans (h2.mono hv.size)⟩
 have C3 : ∀ (V : World) (R M0 I1 I0 M1 I2 F Dn : Nat), Hid (SmallW [97] [99] [97] 0 R M0 I1 I0 M1 I2 F Dn V) → Below W.heap.size W V → Calls Try.prog 16 #[.agg #[sv [119], .int .i64 0, .int .i64 0, .int .i64 0, .int .i64 0, .int .i64 0, .slice (some ⟨R, 0, none⟩) 2 2, .slice none 0 0, .slice none 0 0, .slice none 0 0, .slice (some ⟨F, 0, none⟩) 2 2, .slice (some ⟨Dn, 0, none⟩) 2 2]] V fun e V' => e = .returned (.int .i64 170) ∧ Below W.heap.size W V' := fun V R M0 I1 I0 M1 I2 F Dn hS hv =>
  (chk_code (smallL [97] [99] [97] R M0 I1 I0 M1 I2 F Dn) (smallN 0) V (small_at hS.out).1 (small_at hS.out).2 (he.below hv) 170 small_chk).mono fun e V' ⟨h1, h2⟩ => ⟨h1, hv.trans (h2.mono hv.size)⟩
 have C4 : ∀ V, Below W.heap.size W V → Calls Try.prog 16 #[.agg #[sv [119], .int .i64 0, .int .i64 0, .int .i64 0, .int .i64 0, .int .i64 0, .slice ra 2 rc, .slice ta 0 tc, .slice ua 0 uc, .slice sa 0 sc, .slice (some ⟨F, f, none⟩) 2 fc, .slice (some ⟨D, d, none⟩) 2 dc]] V fun e V' => e = .returned (.int .i64 0) ∧ Below W.heap.size W V' := fun V hv => by
  have h := chk_code x [0, 1, 0, 1, 0, 0, 0, 0, 1, 0, 0, 1] V (hx.at_.below hv) (hx.ns.below hv) (he.below hv) 0 (by rw [hx.strip]; exact small_chk2)
  unfold Ls.val at h
  rw [hxc] at h
  exact h.mono fun e V' ⟨h1, h2⟩ => ⟨h1, hv.trans (h2.mono hv.size)⟩
 have hKP : ∀ V, Below W.heap.size W V → V.heap[X]? = some (.cells #[sv [119], .int .i64 0, .int .i64 0, .int .i64 0, .int .i64 0, .int .i64 0, .slice ra 2 rc, .slice ta 0 tc, .slice ua 0 uc, .slice sa 0 sc, .slice (some ⟨F, f, none⟩) 2 fc, .slice (some ⟨D, d, none⟩) 2 dc] 30 (0, 0)) := fun V hv => keepO hv hX
 have H1 := Lib.hid C1; have H2 := Lib.hid C2; have H3 := Lib.hid C3; have H33 := Lib.hid C33; have H4 := Lib.hid C4; have HP := Lib.hid hKP; have HB := Lib.hid hb
 have hB0 : Below W.heap.size W W := Below.refl _ _
 clear C1 C2 C3 C33 C4 hKP hb hx he hX hxc
 dsimp only
 unfold code13
 conv => arg 2; whnf
 have st0 : True := trivial
 go_wp2_with (first
  | (have q := st0; go_at_call 16; refine (H1.out _ hB0).mono ?_; rintro e V1 ⟨rfl, hv1⟩; clear q st0; have st1 : True := trivial)
  | (have q := st1; go_at_call 16; refine (H2.out _ hv1).mono ?_; rintro e V2 ⟨rfl, hv2⟩; clear q st1; have st2 : True := trivial)
  | (have q := st2; go_at_call 33; refine (H33.out _ hv2).mono ?_; rintro e V3 ⟨R, M0, I1, I0, M1, I2, F, Dn, rfl, hS, hv3⟩; clear q st2; have st3 : True := trivial)
  | (have q := st3; go_at_call 16; refine (H3.out _ _ _ _ _ _ _ _ _ hS hv3).mono ?_; rintro e V4 ⟨rfl, hv4⟩; clear q st3; have hX := HP.out _ hv4; have y0 := cell_at hX 0 rfl; have y1 := cell_at hX 1 rfl; have y2 := cell_at hX 2 rfl; have y3 := cell_at hX 3 rfl; have y4 := cell_at hX 4 rfl; have y5 := cell_at hX 5 rfl; have y6 := cell_at hX 6 rfl; have y7 := cell_at hX 7 rfl; have y8 := cell_at hX 8 rfl; have y9 := cell_at hX 9 rfl; have y10 := cell_at hX 10 rfl; have y11 := cell_at hX 11 rfl; clear hX; have st4 : True := trivial)
  | (have q := st4; go_at_call 16; refine (H4.out _ hv4).mono ?_; rintro e V5 ⟨rfl, hv5⟩; clear q st4))
 go_ret
 exact ⟨rfl, thenB HB.out hv5⟩
end Go.Proofs.Ytpnbpepkoekkoaa
end
section
namespace Go.Proofs.Ytpnbpepkoekkoaa
open Go Go.RowKit Go.Shelf Go.Deep
theorem sstep1 : lastPart 1 code13 = .seq elem13n1 (lastPart 2 code13) := rfl
theorem sstep2 : lastPart 2 code13 = .seq elem13n2 (lastPart 3 code13) := rfl
theorem sstep3 : lastPart 3 code13 = .seq elem13n3 (lastPart 4 code13) := rfl
theorem sstep4 : lastPart 4 code13 = .seq elem13n4 (lastPart 5 code13) := rfl
theorem sstep5 : lastPart 5 code13 = .seq elem13n5 (lastPart 6 code13) := rfl
theorem sstep6 : lastPart 6 code13 = .seq elem13n6 (lastPart 7 code13) := rfl
theorem sstep7 : lastPart 7 code13 = .seq elem13n7 (lastPart 8 code13) := rfl
theorem sstep8 : lastPart 8 code13 = .seq elem13n8 (lastPart 9 code13) := rfl
theorem sstep9 : lastPart 9 code13 = .seq elem13n9 (lastPart 10 code13) := rfl
theorem sstep10 : lastPart 10 code13 = .seq elem13n10 (lastPart 11 code13) := rfl
theorem sstep11 : lastPart 11 code13 = .seq elem13n11 (lastPart 12 code13) := rfl
theorem sstep12 : lastPart 12 code13 = .seq elem13n12 (lastPart 13 code13) := rfl
theorem sstep13 : lastPart 13 code13 = .seq elem13n13 (lastPart 14 code13) := rfl
theorem sstep14 : lastPart 14 code13 = .seq elem13n14 (lastPart 15 code13) := rfl
theorem sstep15 : lastPart 15 code13 = .seq elem13n15 (lastPart 16 code13) := rfl
theorem sstep16 : lastPart 16 code13 = .seq elem13n16 (lastPart 17 code13) := rfl
theorem wp_seq_then {P : Program} {x y : Code} {Q : Exit → Act → World → Prop} {a : Act} {w : World} (h : ∀ K : Act → World → Prop, (∀ a w, y.wp P Q a w → K a w) → x.wp P (Exit.then K (fun _ _ _ => False)) a w) : (Code.seq x y).wp P Q a w := by
 refine wp_seq ?_
 exact wp_mono (h _ fun _ _ h => h) then_mono
set_option maxRecDepth 100000 in
set_option maxHeartbeats 16000000 in
theorem sane_any (w : World) (he : Env w) : Calls Try.prog 13 #[] w fun e w' => e = .returned (.bool true) ∧ Below w.heap.size w w' := by
 have HE := Lib.hid he
 go_enter Try.func13, Try.ntmps13
 change Code.wp Try.prog (.seq elem13n0 (lastPart 1 code13)) _ _ _
 refine wp_seq_then (fun K hK => ?_)
 have HK := Lib.hid hK
 clear hK
 unfold elem13n0
 conv => arg 2; whnf
 go_wp2_with fail
 refine HK.out _ _ ?_
 clear HK K
 rw [sstep1]
 refine wp_seq_then (fun K hK => sane_e1 w he K ?_ _ _ _ _ _ _ _ _ _ _ _ _ _ _ _ _ _ _ _ _ _ _ _ _ _ _ _ _ _ _ _ _ _ _ _ _ _ _ _ _ _ _ _ _ _ _ _ _ _ _ _ _ _ _ _ _ _ _ _ _ _ _ _ _ _ _ _ _ _ _ _ _ _ _ _ _ _ _ _ _ _ _ _ _ _ _ _ _ _ _ _ _ _ _ _ _ _ _ _ _ _ _ _ _ _ _ _ _ _ _ _ _ _ _ _ _ _ _ _ _ _ _ _ _ _ _ _ _ _ _ _ _ _ _ _ _ _ _ _ _ _ _ _ _ _ _ _ _ _ _ _ _ _ _ _ _ _ _ _ _ _ _ _ _ _ _ _ _ _ _ _ _ _ _ _ _ _ _ _ _ _ _ _ _ _ _ _ _ _ _ _ _ _ _ _ _ _ _ _ _ _ _ _ _ _ _ _ _ _ _ _ _ _ _ _ _ _ _ _ _ _ _ _ _ _ _ _ _ _ _ _ _ _ _ _ _ _ _ _ _ _ _ _ _ _ _ _ _ _ _ _ _ _ _ _ _ _ _ _ _ _ _ _ _ _ _ _ _ _ _ _ _ _ _ _ _ _ _ _ _)
 intro W1 X x b1 gX hX; intros
 refine hK _ _ ?_
 clear hK K
 rw [sstep2]
 refine wp_seq_then (fun K hK => sane_e2 X x W1 hX K ?_ _ _ _ _ _ _ _ _ _ _ _ _ _ _ _ _ _ _ _ _ _ _ _ _ _ _ _ _ _ _ _ _ _ _ _ _ _ _ _ _ _ _ _ _ _ _ _ _ _ _ _ _ _ _ _ _ _ _ _ _ _ _ _ _ _ _ _ _ _ _ _ _ _ _ _ _ _ _ _ _ _ _ _ _ _ _ _ _ _ _ _ _ _ _ _ _ _ _ _ _ _ _ _ _ _ _ _ _ _ _ _ _ _ _ _ _ _ _ _ _ _ _ _ _ _ _ _ _ _ _ _ _ _ _ _ _ _ _ _ _ _ _ _ _ _ _ _ _ _ _ _ _ _ _ _ _ _ _ _ _ _ _ _ _ _ _ _ _ _ _ _ _ _ _ _ _ _ _ _ _ _ _ _ _ _ _ _ _ _ _ _ _ _ _ _ _ _ _ _ _ _ _ _ _ _ _ _ _ _ _ _ _ _ _ _ _ _ _ _ _ _ _ _ _ _ _ _ _ _ _ _ _ _ _ _ _ _ _ _ _ _ _ _ _ _ _ _ _ _ _ _ _ _ _ _ _ _ _ _ _ _ _ _ _ _ _ _ _ _ _ _ _ _ _ _ _ _ _)
 intros
 refine hK _ _ ?_
 clear hK K
 rw [sstep3]
 refine wp_seq_then (fun K hK => sane_e3 X x W1 hX K ?_ _ _ _ _ _ _ _ _ _ _ _ _ _ _ _ _ _ _ _ _ _ _ _ _ _ _ _ _ _ _ _ _ _ _ _ _ _ _ _ _ _ _ _ _ _ _ _ _ _ _ _ _ _ _ _ _ _ _ _ _ _ _ _ _ _ _ _ _ _ _ _ _ _ _ _ _ _ _ _ _ _ _ _ _ _ _ _ _ _ _ _ _ _ _ _ _ _ _ _ _ _ _ _ _ _ _ _ _ _ _ _ _ _ _ _ _ _ _ _ _ _ _ _ _ _ _ _ _ _ _ _ _ _ _ _ _ _ _ _ _ _ _ _ _ _ _ _ _ _ _ _ _ _ _ _ _ _ _ _ _ _ _ _ _ _ _ _ _ _ _ _ _ _ _ _ _ _ _ _ _ _ _ _ _ _ _ _ _ _ _ _ _ _ _ _ _ _ _ _ _ _ _ _ _ _ _ _ _ _ _ _ _ _ _ _ _ _ _ _ _ _ _ _ _ _ _ _ _ _ _ _ _ _ _ _ _ _ _ _ _ _ _ _ _ _ _ _ _ _ _ _ _ _ _ _ _ _ _ _ _ _ _ _ _ _ _ _ _ _ _ _ _ _ _ _ _ _ _)
 intro W2 J3 J4 J5 F f I0 i0 I1 i1 M0 m0 I2 i2 M1 m1 D d n1 n2 n3 n4 c0 c1 c2 cm0 cm1 k1 k2 k3 k4 b2 hX2 hD hJ; intros
 refine hK _ _ ?_
 clear hK K
 rw [sstep4]
 refine wp_seq_then (fun K hK => sane_e4 X J3 J4 J5 x W2 hX2 F f I0 i0 I1 i1 M0 m0 I2 i2 M1 m1 D d n1 n2 n3 n4 c0 c1 c2 cm0 cm1 k1 k2 k3 k4 hJ hD K ?_ _ _ _ _ _ _ _ _ _ _ _ _ _ _ _ _ _ _ _ _ _ _ _ _ _ _ _ _ _ _ _ _ _ _ _ _ _ _ _ _ _ _ _ _ _ _ _ _ _ _ _ _ _ _ _ _ _ _ _ _ _ _ _ _ _ _ _ _ _ _ _ _ _ _ _ _ _ _ _ _ _ _ _ _ _ _ _ _ _ _ _ _ _ _ _ _ _ _ _ _ _ _ _ _ _ _ _ _ _ _ _ _ _ _ _ _ _ _ _ _ _ _ _ _ _ _ _ _ _ _ _ _ _ _ _ _ _ _ _ _ _ _ _ _ _ _ _ _ _ _ _ _ _ _ _ _ _ _ _ _ _ _ _ _ _ _ _ _ _ _ _ _ _ _ _ _ _ _ _ _ _ _ _ _ _ _ _ _ _ _ _ _ _ _ _ _ _ _ _ _ _ _ _ _ _ _ _ _ _ _ _ _ _ _ _ _ _ _ _ _ _ _ _ _ _ _ _ _ _ _ _ _ _ _ _ _ _ _ _ _ _ _ _ _ _ _ _ _ _ _ _ _ _ _ _ _ _ _ _ _ _ _ _ _ _ _ _ _ _ _ _ _ _ _ _)
 intros
 refine hK _ _ ?_
 clear hK K
 rw [sstep5]
 refine wp_seq_then (fun K hK => sane_e5 X W2 K ?_ _ _ _ _ _ _ _ _ _ _ _ _ _ _ _ _ _ _ _ _ _ _ _ _ _ _ _ _ _ _ _ _ _ _ _ _ _ _ _ _ _ _ _ _ _ _ _ _ _ _ _ _ _ _ _ _ _ _ _ _ _ _ _ _ _ _ _ _ _ _ _ _ _ _ _ _ _ _ _ _ _ _ _ _ _ _ _ _ _ _ _ _ _ _ _ _ _ _ _ _ _ _ _ _ _ _ _ _ _ _ _ _ _ _ _ _ _ _ _ _ _ _ _ _ _ _ _ _ _ _ _ _ _ _ _ _ _ _ _ _ _ _ _ _ _ _ _ _ _ _ _ _ _ _ _ _ _ _ _ _ _ _ _ _ _ _ _ _ _ _ _ _ _ _ _ _ _ _ _ _ _ _ _ _ _ _ _ _ _ _ _ _ _ _ _ _ _ _ _ _ _ _ _ _ _ _ _ _ _ _ _ _ _ _ _ _ _ _ _ _ _ _ _ _ _ _ _ _ _ _ _ _ _ _ _ _ _ _ _ _ _ _ _ _ _ _ _ _ _ _ _ _ _ _ _ _ _ _ _ _ _ _ _ _ _ _ _ _ _ _ _ _ _ _ _ _ _ _ _)
 intro W3 qa qb qc qd V6 V7 V8 V9 b3 hQ; intros
 refine hK _ _ ?_
 clear hK K
 rw [sstep6]
 refine wp_seq_then (fun K hK => sane_e6 X qa qb qc qd V6 V7 V8 V9 [99] [97] 0 [97] W2 W3 b3 hQ K ?_ _ _ _ _ _ _ _ _ _ _ _ _ _ _ _ _ _ _ _ _ _ _ _ _ _ _ _ _ _ _ _ _ _ _ _ _ _ _ _ _ _ _ _ _ _ _ _ _ _ _ _ _ _ _ _ _ _ _ _ _ _ _ _ _ _ _ _ _ _ _ _ _ _ _ _ _ _ _ _ _ _ _ _ _ _ _ _ _ _ _ _ _ _ _ _ _ _ _ _ _ _ _ _ _ _ _ _ _ _ _ _ _ _ _ _ _ _ _ _ _ _ _ _ _ _ _ _ _ _ _ _ _ _ _ _ _ _ _ _ _ _ _ _ _ _ _ _ _ _ _ _ _ _ _ _ _ _ _ _ _ _ _ _ _ _ _ _ _ _ _ _ _ _ _ _ _ _ _ _ _ _ _ _ _ _ _ _ _ _ _ _ _ _ _ _ _ _ _ _ _ _ _ _ _ _ _ _ _ _ _ _ _ _ _ _ _ _ _ _ _ _ _ _ _ _ _ _ _ _ _ _ _ _ _ _ _ _ _ _ _ _ _ _ _ _ _ _ _ _ _ _ _ _ _ _ _ _ _ _ _ _ _ _ _ _ _ _ _ _ _ _ _ _ _ _)
 intro W4 b4 hQ4; intros
 refine hK _ _ ?_
 clear hK K
 rw [sstep7]
 refine wp_seq_then (fun K hK => sane_e7 X qa qb qc qd V6 V7 V8 V9 [98] [97] 0 [97] W2 W4 b4 hQ4 K ?_ _ _ _ _ _ _ _ _ _ _ _ _ _ _ _ _ _ _ _ _ _ _ _ _ _ _ _ _ _ _ _ _ _ _ _ _ _ _ _ _ _ _ _ _ _ _ _ _ _ _ _ _ _ _ _ _ _ _ _ _ _ _ _ _ _ _ _ _ _ _ _ _ _ _ _ _ _ _ _ _ _ _ _ _ _ _ _ _ _ _ _ _ _ _ _ _ _ _ _ _ _ _ _ _ _ _ _ _ _ _ _ _ _ _ _ _ _ _ _ _ _ _ _ _ _ _ _ _ _ _ _ _ _ _ _ _ _ _ _ _ _ _ _ _ _ _ _ _ _ _ _ _ _ _ _ _ _ _ _ _ _ _ _ _ _ _ _ _ _ _ _ _ _ _ _ _ _ _ _ _ _ _ _ _ _ _ _ _ _ _ _ _ _ _ _ _ _ _ _ _ _ _ _ _ _ _ _ _ _ _ _ _ _ _ _ _ _ _ _ _ _ _ _ _ _ _ _ _ _ _ _ _ _ _ _ _ _ _ _ _ _ _ _ _ _ _ _ _ _ _ _ _ _ _ _ _ _ _ _ _ _ _ _ _ _ _ _ _ _ _ _ _ _ _ _)
 intro W5 b5 hQ5; intros
 refine hK _ _ ?_
 clear hK K
 rw [sstep8]
 refine wp_seq_then (fun K hK => sane_e8 X qa qb qc qd V6 V7 V8 V9 [98] [122] 0 [97] W2 W5 b5 hQ5 K ?_ _ _ _ _ _ _ _ _ _ _ _ _ _ _ _ _ _ _ _ _ _ _ _ _ _ _ _ _ _ _ _ _ _ _ _ _ _ _ _ _ _ _ _ _ _ _ _ _ _ _ _ _ _ _ _ _ _ _ _ _ _ _ _ _ _ _ _ _ _ _ _ _ _ _ _ _ _ _ _ _ _ _ _ _ _ _ _ _ _ _ _ _ _ _ _ _ _ _ _ _ _ _ _ _ _ _ _ _ _ _ _ _ _ _ _ _ _ _ _ _ _ _ _ _ _ _ _ _ _ _ _ _ _ _ _ _ _ _ _ _ _ _ _ _ _ _ _ _ _ _ _ _ _ _ _ _ _ _ _ _ _ _ _ _ _ _ _ _ _ _ _ _ _ _ _ _ _ _ _ _ _ _ _ _ _ _ _ _ _ _ _ _ _ _ _ _ _ _ _ _ _ _ _ _ _ _ _ _ _ _ _ _ _ _ _ _ _ _ _ _ _ _ _ _ _ _ _ _ _ _ _ _ _ _ _ _ _ _ _ _ _ _ _ _ _ _ _ _ _ _ _ _ _ _ _ _ _ _ _ _ _ _ _ _ _ _ _ _ _ _ _ _ _ _ _)
 intro W6 b6 hQ6; intros
 refine hK _ _ ?_
 clear hK K
 rw [sstep9]
 refine wp_seq_then (fun K hK => sane_e9 X qa qb qc qd V6 V7 V8 V9 [98] [122] 1 [97] W2 W6 b6 hQ6 K ?_ _ _ _ _ _ _ _ _ _ _ _ _ _ _ _ _ _ _ _ _ _ _ _ _ _ _ _ _ _ _ _ _ _ _ _ _ _ _ _ _ _ _ _ _ _ _ _ _ _ _ _ _ _ _ _ _ _ _ _ _ _ _ _ _ _ _ _ _ _ _ _ _ _ _ _ _ _ _ _ _ _ _ _ _ _ _ _ _ _ _ _ _ _ _ _ _ _ _ _ _ _ _ _ _ _ _ _ _ _ _ _ _ _ _ _ _ _ _ _ _ _ _ _ _ _ _ _ _ _ _ _ _ _ _ _ _ _ _ _ _ _ _ _ _ _ _ _ _ _ _ _ _ _ _ _ _ _ _ _ _ _ _ _ _ _ _ _ _ _ _ _ _ _ _ _ _ _ _ _ _ _ _ _ _ _ _ _ _ _ _ _ _ _ _ _ _ _ _ _ _ _ _ _ _ _ _ _ _ _ _ _ _ _ _ _ _ _ _ _ _ _ _ _ _ _ _ _ _ _ _ _ _ _ _ _ _ _ _ _ _ _ _ _ _ _ _ _ _ _ _ _ _ _ _ _ _ _ _ _ _ _ _ _ _ _ _ _ _ _ _ _ _ _ _ _)
 intro W7 b7 hQ7; intros
 refine hK _ _ ?_
 clear hK K
 have hx7 := hX2.below b7
 have b07 : Below w.heap.size w W7 := thenB b1 (thenB b2 b7)
 have he7 : Env W7 := HE.out.below b07
 obtain ⟨s6, s7, s8, s9, o1, o2, o3, o4, o5, o6, o7, o8, o9⟩ := hQ7
 rw [sstep10]
 refine wp_seq_then (fun K hK => sane_e10 X V6 V7 V8 V9 W2.heap.size qa [97] [98] [97] 0 0 small_use W7 he7 s6 K ?_ _ _ _ _ _ _ _ _ _ _ _ _ _ _ _ _ _ _ _ _ _ _ _ _ _ _ _ _ _ _ _ _ _ _ _ _ _ _ _ _ _ _ _ _ _ _ _ _ _ _ _ _ _ _ _ _ _ _ _ _ _ _ _ _ _ _ _ _ _ _ _ _ _ _ _ _ _ _ _ _ _ _ _ _ _ _ _ _ _ _ _ _ _ _ _ _ _ _ _ _ _ _ _ _ _ _ _ _ _ _ _ _ _ _ _ _ _ _ _ _ _ _ _ _ _ _ _ _ _ _ _ _ _ _ _ _ _ _ _ _ _ _ _ _ _ _ _ _ _ _ _ _ _ _ _ _ _ _ _ _ _ _ _ _ _ _ _ _ _ _ _ _ _ _ _ _ _ _ _ _ _ _ _ _ _ _ _ _ _ _ _ _ _ _ _ _ _ _ _ _ _ _ _ _ _ _ _ _ _ _ _ _ _ _ _ _ _ _ _ _ _ _ _ _ _ _ _ _ _ _ _ _ _ _ _ _ _ _ _ _ _ _ _ _ _ _ _ _ _ _ _ _ _ _ _ _ _ _ _ _ _ _ _ _ _ _ _ _ _ _ _ _ _ _ _)
 intro W8 b8; intros
 refine hK _ _ ?_
 clear hK K
 have he8 : Env W8 := he7.below b8
 have s7' := s7.below b8 (by omega)
 rw [sstep11]
 refine wp_seq_then (fun K hK => sane_e11 X V6 V7 V8 V9 qa qb [97] [99] [122] 0 0 170 small_role W8 he8 s7' K ?_ _ _ _ _ _ _ _ _ _ _ _ _ _ _ _ _ _ _ _ _ _ _ _ _ _ _ _ _ _ _ _ _ _ _ _ _ _ _ _ _ _ _ _ _ _ _ _ _ _ _ _ _ _ _ _ _ _ _ _ _ _ _ _ _ _ _ _ _ _ _ _ _ _ _ _ _ _ _ _ _ _ _ _ _ _ _ _ _ _ _ _ _ _ _ _ _ _ _ _ _ _ _ _ _ _ _ _ _ _ _ _ _ _ _ _ _ _ _ _ _ _ _ _ _ _ _ _ _ _ _ _ _ _ _ _ _ _ _ _ _ _ _ _ _ _ _ _ _ _ _ _ _ _ _ _ _ _ _ _ _ _ _ _ _ _ _ _ _ _ _ _ _ _ _ _ _ _ _ _ _ _ _ _ _ _ _ _ _ _ _ _ _ _ _ _ _ _ _ _ _ _ _ _ _ _ _ _ _ _ _ _ _ _ _ _ _ _ _ _ _ _ _ _ _ _ _ _ _ _ _ _ _ _ _ _ _ _ _ _ _ _ _ _ _ _ _ _ _ _ _ _ _ _ _ _ _ _ _ _ _ _ _ _ _ _ _ _ _ _ _ _ _ _ _)
 intro W9 b9; intros
 refine hK _ _ ?_
 clear hK K
 have b79 := thenB b8 b9
 have he9 : Env W9 := he7.below b79
 have s8' := s8.below b79 (by omega)
 rw [sstep12]
 refine wp_seq_then (fun K hK => sane_e12 X V6 V7 V8 V9 qb qc [97] [99] [97] 1 0 170 170 small_rest W9 he9 s8' K ?_ _ _ _ _ _ _ _ _ _ _ _ _ _ _ _ _ _ _ _ _ _ _ _ _ _ _ _ _ _ _ _ _ _ _ _ _ _ _ _ _ _ _ _ _ _ _ _ _ _ _ _ _ _ _ _ _ _ _ _ _ _ _ _ _ _ _ _ _ _ _ _ _ _ _ _ _ _ _ _ _ _ _ _ _ _ _ _ _ _ _ _ _ _ _ _ _ _ _ _ _ _ _ _ _ _ _ _ _ _ _ _ _ _ _ _ _ _ _ _ _ _ _ _ _ _ _ _ _ _ _ _ _ _ _ _ _ _ _ _ _ _ _ _ _ _ _ _ _ _ _ _ _ _ _ _ _ _ _ _ _ _ _ _ _ _ _ _ _ _ _ _ _ _ _ _ _ _ _ _ _ _ _ _ _ _ _ _ _ _ _ _ _ _ _ _ _ _ _ _ _ _ _ _ _ _ _ _ _ _ _ _ _ _ _ _ _ _ _ _ _ _ _ _ _ _ _ _ _ _ _ _ _ _ _ _ _ _ _ _ _ _ _ _ _ _ _ _ _ _ _ _ _ _ _ _ _ _ _ _ _ _ _ _ _ _ _ _ _ _ _ _ _ _)
 intro W10 b10; intros
 refine hK _ _ ?_
 clear hK K
 have b710 := thenB b79 b10
 have he10 : Env W10 := he7.below b710
 have s9' := s9.below b710 (by omega)
 rw [sstep13]
 refine wp_seq_then (fun K hK => sane_e13 X V6 V7 V8 V9 qc qd [98] [99] [97] 0 0 170 170 171 small_twice W10 he10 s9' K ?_ _ _ _ _ _ _ _ _ _ _ _ _ _ _ _ _ _ _ _ _ _ _ _ _ _ _ _ _ _ _ _ _ _ _ _ _ _ _ _ _ _ _ _ _ _ _ _ _ _ _ _ _ _ _ _ _ _ _ _ _ _ _ _ _ _ _ _ _ _ _ _ _ _ _ _ _ _ _ _ _ _ _ _ _ _ _ _ _ _ _ _ _ _ _ _ _ _ _ _ _ _ _ _ _ _ _ _ _ _ _ _ _ _ _ _ _ _ _ _ _ _ _ _ _ _ _ _ _ _ _ _ _ _ _ _ _ _ _ _ _ _ _ _ _ _ _ _ _ _ _ _ _ _ _ _ _ _ _ _ _ _ _ _ _ _ _ _ _ _ _ _ _ _ _ _ _ _ _ _ _ _ _ _ _ _ _ _ _ _ _ _ _ _ _ _ _ _ _ _ _ _ _ _ _ _ _ _ _ _ _ _ _ _ _ _ _ _ _ _ _ _ _ _ _ _ _ _ _ _ _ _ _ _ _ _ _ _ _ _ _ _ _ _ _ _ _ _ _ _ _ _ _ _ _ _ _ _ _ _ _ _ _ _ _ _ _ _ _ _ _ _ _)
 intro W11 b11; intros
 refine hK _ _ ?_
 clear hK K
 have b711 := thenB b710 b11
 have he11 : Env W11 := he7.below b711
 rw [sstep14]
 refine wp_seq_then (fun K hK => sane_e14 X V6 V7 V8 V9 0 170 170 171 W11 he11 K ?_ _ _ _ _ _ _ _ _ _ _ _ _ _ _ _ _ _ _ _ _ _ _ _ _ _ _ _ _ _ _ _ _ _ _ _ _ _ _ _ _ _ _ _ _ _ _ _ _ _ _ _ _ _ _ _ _ _ _ _ _ _ _ _ _ _ _ _ _ _ _ _ _ _ _ _ _ _ _ _ _ _ _ _ _ _ _ _ _ _ _ _ _ _ _ _ _ _ _ _ _ _ _ _ _ _ _ _ _ _ _ _ _ _ _ _ _ _ _ _ _ _ _ _ _ _ _ _ _ _ _ _ _ _ _ _ _ _ _ _ _ _ _ _ _ _ _ _ _ _ _ _ _ _ _ _ _ _ _ _ _ _ _ _ _ _ _ _ _ _ _ _ _ _ _ _ _ _ _ _ _ _ _ _ _ _ _ _ _ _ _ _ _ _ _ _ _ _ _ _ _ _ _ _ _ _ _ _ _ _ _ _ _ _ _ _ _ _ _ _ _ _ _ _ _ _ _ _ _ _ _ _ _ _ _ _ _ _ _ _ _ _ _ _ _ _ _ _ _ _ _ _ _ _ _ _ _ _ _ _ _ _ _ _ _ _ _ _ _ _ _ _)
 intro W12 b12; intros
 refine hK _ _ ?_
 clear hK K
 have b712 := thenB b711 b12
 have he12 : Env W12 := he7.below b712
 rw [sstep15]
 refine wp_seq_then (fun K hK => sane_e15 X V6 V7 V8 V9 0 170 170 171 W12 he12 K ?_ _ _ _ _ _ _ _ _ _ _ _ _ _ _ _ _ _ _ _ _ _ _ _ _ _ _ _ _ _ _ _ _ _ _ _ _ _ _ _ _ _ _ _ _ _ _ _ _ _ _ _ _ _ _ _ _ _ _ _ _ _ _ _ _ _ _ _ _ _ _ _ _ _ _ _ _ _ _ _ _ _ _ _ _ _ _ _ _ _ _ _ _ _ _ _ _ _ _ _ _ _ _ _ _ _ _ _ _ _ _ _ _ _ _ _ _ _ _ _ _ _ _ _ _ _ _ _ _ _ _ _ _ _ _ _ _ _ _ _ _ _ _ _ _ _ _ _ _ _ _ _ _ _ _ _ _ _ _ _ _ _ _ _ _ _ _ _ _ _ _ _ _ _ _ _ _ _ _ _ _ _ _ _ _ _ _ _ _ _ _ _ _ _ _ _ _ _ _ _ _ _ _ _ _ _ _ _ _ _ _ _ _ _ _ _ _ _ _ _ _ _ _ _ _ _ _ _ _ _ _ _ _ _ _ _ _ _ _ _ _ _ _ _ _ _ _ _ _ _ _ _ _ _ _ _ _ _ _ _ _ _ _ _ _ _ _ _ _ _ _)
 intro W13 b13; intros
 refine hK _ _ ?_
 clear hK K
 have b713 := thenB b712 b13
 have he13 : Env W13 := he7.below b713
 rw [sstep16]
 refine wp_seq_then (fun K hK => sane_e16 X V6 V7 V8 V9 W13 K ?_ _ _ _ _ _ _ _ _ _ _ _ _ _ _ _ _ _ _ _ _ _ _ _ _ _ _ _ _ _ _ _ _ _ _ _ _ _ _ _ _ _ _ _ _ _ _ _ _ _ _ _ _ _ _ _ _ _ _ _ _ _ _ _ _ _ _ _ _ _ _ _ _ _ _ _ _ _ _ _ _ _ _ _ _ _ _ _ _ _ _ _ _ _ _ _ _ _ _ _ _ _ _ _ _ _ _ _ _ _ _ _ _ _ _ _ _ _ _ _ _ _ _ _ _ _ _ _ _ _ _ _ _ _ _ _ _ _ _ _ _ _ _ _ _ _ _ _ _ _ _ _ _ _ _ _ _ _ _ _ _ _ _ _ _ _ _ _ _ _ _ _ _ _ _ _ _ _ _ _ _ _ _ _ _ _ _ _ _ _ _ _ _ _ _ _ _ _ _ _ _ _ _ _ _ _ _ _ _ _ _ _ _ _ _ _ _ _ _ _ _ _ _ _ _ _ _ _ _ _ _ _ _ _ _ _ _ _ _ _ _ _ _ _ _ _ _ _ _ _ _ _ _ _ _ _ _ _ _ _ _ _ _ _ _ _ _ _ _ _)
 intros
 refine hK _ _ ?_
 clear hK K
 exact sane_e17 X x w W13 (thenB b07 b713) (hx7.below b713) he13 _ _ _ _ _ _ _ _ _ _ _ _ _ _ _ _ _ _ _ _ _ _ _ _ _ _ _ _ _ _ _ _ _ _ _ _ _ _ _ _ _ _ _ _ _ _ _ _ _ _ _ _ _ _ _ _ _ _ _ _ _ _ _ _ _ _ _ _ _ _ _ _ _ _ _ _ _ _ _ _ _ _ _ _ _ _ _ _ _ _ _ _ _ _ _ _ _ _ _ _ _ _ _ _ _ _ _ _ _ _ _ _ _ _ _ _ _ _ _ _ _ _ _ _ _ _ _ _ _ _ _ _ _ _ _ _ _ _ _ _ _ _ _ _ _ _ _ _ _ _ _ _ _ _ _ _ _ _ _ _ _ _ _ _ _ _ _ _ _ _ _ _ _ _ _ _ _ _ _ _ _ _ _ _ _ _ _ _ _ _ _ _ _ _ _ _ _ _ _ _ _ _ _ _ _ _ _ _ _ _ _ _ _ _ _ _ _ _ _ _ _ _ _ _ _ _ _ _ _ _ _ _ _ _ _ _ _ _ _ _ _ _ _ _ _ _ _ _ _ _ _ _ _ _ _ _ _ _ _ _ _ _ _ _ _ _ _ _ _ _ _ _ _ _ _ _ _ _ _
end Go.Proofs.Ytpnbpepkoekkoaa
end
