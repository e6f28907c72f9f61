/- Contracts and plain laws on the way to the statement: part 30. -/
import Derived.Test.YtpnbpepkoekkoaaZ29
set_option linter.unusedVariables false
set_option linter.unusedSimpArgs false
section
namespace Go.Proofs.Ytpnbpepkoekkoaa
open Go Go.RowKit Go.Shelf
noncomputable def code13 : Code := (Try.f13.body).getD .skip
noncomputable def elem13n0 : Code := match lastPart 0 code13 with
 | .seq a _ => a
 | c => c
noncomputable def elem13n1 : Code := match lastPart 1 code13 with
 | .seq a _ => a
 | c => c
noncomputable def elem13n2 : Code := match lastPart 2 code13 with
 | .seq a _ => a
 | c => c
structure SX (X : Nat) (x : Ls) (W : World) : Prop where
 strip : x.strip = smallSc [97] [99] [97]
 at_ : x.At W
 ns : NsAt W x.refs [0, 1, 0, 1, 0, 0, 0, 0, 1, 0, 0, 1]
 heap : W.heap[X]? = some (.cells x.cells 30 (0, 0))
theorem SX.below {X : Nat} {x : Ls} {W W' : World} (h : SX X x W) (hb : Below W.heap.size W W') : SX X x W' := ⟨h.strip, h.at_.below hb, h.ns.below hb, keepO hb h.heap⟩
theorem SX.back {X : Nat} {x : Ls} {W : World} (h : SX X x W) : ∃ (F f I0 i0 I1 i1 M0 m0 I2 i2 M1 m1 D d : Nat) (n1 n2 n3 n4 : Option Addr) (c0 c1 c2 cm0 cm1 k1 k2 k3 k4 : Nat) (ra ta ua sa : Option Addr) (rc tc uc sc fc dc : Nat),
  W.heap[X]? = some (.cells #[sv [119], .int .i64 0, .int .i64 0, .int .i64 0, .int .i64 0, .int .i64 0, .slice ra 2 rc, .slice ta 0 tc, .slice ua 0 uc, .slice sa 0 sc, .slice (some ⟨F, f, none⟩) 2 fc, .slice (some ⟨D, d, none⟩) 2 dc] 30 (0, 0)) ∧ SaneW F f I0 i0 I1 i1 M0 m0 I2 i2 M1 m1 D d n1 n2 n3 n4 c0 c1 c2 cm0 cm1 k1 k2 k3 k4 W := by
 obtain ⟨F, f, I0, i0, I1, i1, M0, m0, I2, i2, M1, m1, D, d, n1, n2, n3, n4, c0, c1, c2, cm0, cm1, k1, k2, k3, k4, ra, ta, ua, sa, rc, tc, uc, sc, fc, dc, hv, hS⟩ := small_back x W h.strip h.at_ h.ns
 refine ⟨F, f, I0, i0, I1, i1, M0, m0, I2, i2, M1, m1, D, d, n1, n2, n3, n4, c0, c1, c2, cm0, cm1, k1, k2, k3, k4, ra, ta, ua, sa, rc, tc, uc, sc, fc, dc, ?_, hS⟩
 rw [h.heap]
 unfold Ls.val at hv
 injection hv with hv
 rw [hv]
set_option maxRecDepth 100000 in
set_option maxHeartbeats 16000000 in
theorem sane_e1 (w : World) (he : Env w) (K : Act → World → Prop)
  (hK : ∀ (W : World) (X : Nat) (x : Ls), Below w.heap.size w W → w.heap.size ≤ X → SX X x W → ∀ (e0 e3 e4 e5 e6 e7 e8 e9 e10 e11 e12 e13 e14 e15 e16 e17 e18 e19 e20 e21 e22 e23 e24 e25 e26 e27 e28 e29 e30 e31 e32 e33 e34 e35 e36 e37 e38 e39 e40 e41 e42 e43 e44 e45 e46 e47 e48 e49 e50 e51 e52 e53 e54 e55 e56 e57 e58 e59 e60 e61 e62 e63 e64 e65 e66 e67 e68 e69 e70 e71 e72 e73 e74 e75 e76 e77 e78 e79 e80 e81 e82 e83 e84 e85 e86 e87 e88 e89 e90 e91 e92 e93 e94 e95 e96 e97 e98 e99 e100 e101 e102 e103 e104 e105 e106 e107 e108 e109 e110 e111 e112 e113 e114 e115 e116 e117 e118 e119 e120 e121 e122 e123 e124 e125 e126 e127 e128 e129 e130 e131 e132 e133 e134 e135 e136 e137 e138 e139 e140 e141 e142 e143 e144 e145 e146 e147 e148 e149 e150 e151 e152 e153 e154 e155 e156 e157 e158 e159 e160 e161 e162 e163 e164 e165 e166 e167 e168 e169 e170 e171 e172 e173 e174 e175 e176 e177 e178 e179 e180 e181 e182 e183 e184 e185 e186 e187 e188 e189 e190 e191 e192 e193 e194 e195 e196 e197 e198 e199 e200 e201 e202 e203 e204 e205 e206 e207 e208 e209 e210 e211 e212 e213 e214 e215 e216 e217 e218 e219 e220 e221 e222 e223 e224 e225 e226 e227 e228 e229 e230 e231 e232 e233 e234 e235 e236 e237 e238 e239 e240 e241 e242 e243 e244 e245 e246 e247 e248 e249 e250 e251 e252 e253 e254 e255 e256 e257 e258 e259 e260 e261 e262 e263 e264 e265 e266 e267 e268 e269 e270 e271 e272 e273 e274 e275 e276 e277 e278 e279 : Value), K { tmps := #[e0, .pointer (some ⟨X, 0, none⟩), .int .i64 0, e3, e4, e5, e6, e7, e8, e9, e10, e11, e12, e13, e14, e15, e16, e17, e18, e19, e20, e21, e22, e23, e24, e25, e26, e27, e28, e29, e30, e31, e32, e33, e34, e35, e36, e37, e38, e39, e40, e41, e42, e43, e44, e45, e46, e47, e48, e49, e50, e51, e52, e53, e54, e55, e56, e57, e58, e59, e60, e61, e62, e63, e64, e65, e66, e67, e68, e69, e70, e71, e72, e73, e74, e75, e76, e77, e78, e79, e80, e81, e82, e83, e84, e85, e86, e87, e88, e89, e90, e91, e92, e93, e94, e95, e96, e97, e98, e99, e100, e101, e102, e103, e104, e105, e106, e107, e108, e109, e110, e111, e112, e113, e114, e115, e116, e117, e118, e119, e120, e121, e122, e123, e124, e125, e126, e127, e128, e129, e130, e131, e132, e133, e134, e135, e136, e137, e138, e139, e140, e141, e142, e143, e144, e145, e146, e147, e148, e149, e150, e151, e152, e153, e154, e155, e156, e157, e158, e159, e160, e161, e162, e163, e164, e165, e166, e167, e168, e169, e170, e171, e172, e173, e174, e175, e176, e177, e178, e179, e180, e181, e182, e183, e184, e185, e186, e187, e188, e189, e190, e191, e192, e193, e194, e195, e196, e197, e198, e199, e200, e201, e202, e203, e204, e205, e206, e207, e208, e209, e210, e211, e212, e213, e214, e215, e216, e217, e218, e219, e220, e221, e222, e223, e224, e225, e226, e227, e228, e229, e230, e231, e232, e233, e234, e235, e236, e237, e238, e239, e240, e241, e242, e243, e244, e245, e246, e247, e248, e249, e250, e251, e252, e253, e254, e255, e256, e257, e258, e259, e260, e261, e262, e263, e264, e265, e266, e267, e268, e269, e270, e271, e272, e273, e274, e275, e276, e277, e278, e279], defers := [] } W)
  (e0 e1 e2 e3 e4 e5 e6 e7 e8 e9 e10 e11 e12 e13 e14 e15 e16 e17 e18 e19 e20 e21 e22 e23 e24 e25 e26 e27 e28 e29 e30 e31 e32 e33 e34 e35 e36 e37 e38 e39 e40 e41 e42 e43 e44 e45 e46 e47 e48 e49 e50 e51 e52 e53 e54 e55 e56 e57 e58 e59 e60 e61 e62 e63 e64 e65 e66 e67 e68 e69 e70 e71 e72 e73 e74 e75 e76 e77 e78 e79 e80 e81 e82 e83 e84 e85 e86 e87 e88 e89 e90 e91 e92 e93 e94 e95 e96 e97 e98 e99 e100 e101 e102 e103 e104 e105 e106 e107 e108 e109 e110 e111 e112 e113 e114 e115 e116 e117 e118 e119 e120 e121 e122 e123 e124 e125 e126 e127 e128 e129 e130 e131 e132 e133 e134 e135 e136 e137 e138 e139 e140 e141 e142 e143 e144 e145 e146 e147 e148 e149 e150 e151 e152 e153 e154 e155 e156 e157 e158 e159 e160 e161 e162 e163 e164 e165 e166 e167 e168 e169 e170 e171 e172 e173 e174 e175 e176 e177 e178 e179 e180 e181 e182 e183 e184 e185 e186 e187 e188 e189 e190 e191 e192 e193 e194 e195 e196 e197 e198 e199 e200 e201 e202 e203 e204 e205 e206 e207 e208 e209 e210 e211 e212 e213 e214 e215 e216 e217 e218 e219 e220 e221 e222 e223 e224 e225 e226 e227 e228 e229 e230 e231 e232 e233 e234 e235 e236 e237 e238 e239 e240 e241 e242 e243 e244 e245 e246 e247 e248 e249 e250 e251 e252 e253 e254 e255 e256 e257 e258 e259 e260 e261 e262 e263 e264 e265 e266 e267 e268 e269 e270 e271 e272 e273 e274 e275 e276 e277 e278 e279 : Value) :
  elem13n1.wp Try.prog (Exit.then K (fun _ _ _ => False)) { tmps := #[e0, e1, e2, e3, e4, e5, e6, e7, e8, e9, e10, e11, e12, e13, e14, e15, e16, e17, e18, e19, e20, e21, e22, e23, e24, e25, e26, e27, e28, e29, e30, e31, e32, e33, e34, e35, e36, e37, e38, e39, e40, e41, e42, e43, e44, e45, e46, e47, e48, e49, e50, e51, e52, e53, e54, e55, e56, e57, e58, e59, e60, e61, e62, e63, e64, e65, e66, e67, e68, e69, e70, e71, e72, e73, e74, e75, e76, e77, e78, e79, e80, e81, e82, e83, e84, e85, e86, e87, e88, e89, e90, e91, e92, e93, e94, e95, e96, e97, e98, e99, e100, e101, e102, e103, e104, e105, e106, e107, e108, e109, e110, e111, e112, e113, e114, e115, e116, e117, e118, e119, e120, e121, e122, e123, e124, e125, e126, e127, e128, e129, e130, e131, e132, e133, e134, e135, e136, e137, e138, e139, e140, e141, e142, e143, e144, e145, e146, e147, e148, e149, e150, e151, e152, e153, e154, e155, e156, e157, e158, e159, e160, e161, e162, e163, e164, e165, e166, e167, e168, e169, e170, e171, e172, e173, e174, e175, e176, e177, e178, e179, e180, e181, e182, e183, e184, e185, e186, e187, e188, e189, e190, e191, e192, e193, e194, e195, e196, e197, e198, e199, e200, e201, e202, e203, e204, e205, e206, e207, e208, e209, e210, e211, e212, e213, e214, e215, e216, e217, e218, e219, e220, e221, e222, e223, e224, e225, e226, e227, e228, e229, e230, e231, e232, e233, e234, e235, e236, e237, e238, e239, e240, e241, e242, e243, e244, e245, e246, e247, e248, e249, e250, e251, e252, e253, e254, e255, e256, e257, e258, e259, e260, e261, e262, e263, e264, e265, e266, e267, e268, e269, e270, e271, e272, e273, e274, e275, e276, e277, e278, e279], defers := [] } w := by
 have C1 : Calls Try.prog 33 #[] w fun e V => ∃ R M0 I1 I0 M1 I2 F Dn : Nat, e = .returned (.agg #[sv [119], .int .i64 0, .int .i64 0, .int .i64 0, .int .i64 0, .int .i64 0, .slice (some ⟨R, 0, none⟩) 2 2, .slice none 0 0, .slice none 0 0, .slice none 0 0, .slice (some ⟨F, 0, none⟩) 2 2, .slice (some ⟨Dn, 0, none⟩) 2 2]) ∧ Hid ((smallL [97] [99] [97] R M0 I1 I0 M1 I2 F Dn).At V ∧ NsAt V (smallL [97] [99] [97] R M0 I1 I0 M1 I2 F Dn).refs (smallN 0) ∧ Below w.heap.size w V) := by
  refine (small_any w).mono ?_
  rintro e V ⟨R, M0, I1, I0, M1, I2, F, Dn, rfl, h1, _, _, h2⟩
  exact ⟨R, M0, I1, I0, M1, I2, F, Dn, rfl, Lib.hid ⟨(small_at h1).1, (small_at h1).2, h2⟩⟩
 have C2 : ∀ (R M0 I1 I0 M1 I2 F Dn : Nat) (V : World), (smallL [97] [99] [97] R M0 I1 I0 M1 I2 F Dn).At V → NsAt V (smallL [97] [99] [97] R M0 I1 I0 M1 I2 F Dn).refs (smallN 0) → Below w.heap.size w V → Calls Try.prog 15 #[.agg #[sv [119], .int .i64 0, .int .i64 0, .int .i64 0, .int .i64 0, .int .i64 0, .slice (some ⟨R, 0, none⟩) 2 2, .slice none 0 0, .slice none 0 0, .slice none 0 0, .slice (some ⟨F, 0, none⟩) 2 2, .slice (some ⟨Dn, 0, none⟩) 2 2]] V fun e V' => ∃ (n : Nm) (i1 i2 i3 i4 i5 : Int) (a6 a7 a8 a9 a10 a11 : Option Addr) (n6 n7 n8 n9 n10 n11 k6 k7 k8 k9 k10 k11 : Nat), e = .returned (.tuple #[.agg #[sv n, .int .i64 i1, .int .i64 i2, .int .i64 i3, .int .i64 i4, .int .i64 i5, .slice a6 n6 k6, .slice a7 n7 k7, .slice a8 n8 k8, .slice a9 n9 k9, .slice a10 n10 k10, .slice a11 n11 k11], .int .i64 0]) ∧ Hid (∃ x : Ls, x.cells = #[sv n, .int .i64 i1, .int .i64 i2, .int .i64 i3, .int .i64 i4, .int .i64 i5, .slice a6 n6 k6, .slice a7 n7 k7, .slice a8 n8 k8, .slice a9 n9 k9, .slice a10 n10 k10, .slice a11 n11 k11] ∧ x.strip = smallSc [97] [99] [97] ∧ x.At V' ∧ NsAt V' x.refs [0, 1, 0, 1, 0, 0, 0, 0, 1, 0, 0, 1] ∧ Below w.heap.size w V') := by
  intro R M0 I1 I0 M1 I2 F Dn V hA hN hb
  refine (res_any (smallL [97] [99] [97] R M0 I1 I0 M1 I2 F Dn) (smallN 0) V hA hN (he.below hb)).mono ?_
  rintro e V' ⟨h, hb2⟩
  have h0 : resE (smallL [97] [99] [97] R M0 I1 I0 M1 I2 F Dn).strip (smallN 0) = 0 := small_ok
  obtain ⟨x, ks, rfl, hstr, hAx, hNx, hidx, _⟩ := (h.resolve_right (fun h => h.1 h0)).2
  rw [smallL_strip] at hidx hstr
  rw [small_idx] at hidx
  cases hidx
  exact ⟨_, _, _, _, _, _, _, _, _, _, _, _, _, _, _, _, _, _, _, _, _, _, _, _, rfl, Lib.hid ⟨x, rfl, hstr, hAx, hNx, hb.trans (hb2.mono hb.size)⟩⟩
 have HC1 := Lib.hid C1; have HC2 := Lib.hid C2; have HK := Lib.hid hK
 clear C1 C2 hK he
 dsimp only
 unfold elem13n1 code13
 conv => arg 2; whnf
 go_wp2_with (first
  | (go_at_call 33; refine HC1.out.mono ?_; rintro e V ⟨R, M0, I1, I0, M1, I2, F, Dn, rfl, h1⟩; dsimp only)
  | (go_at_call 15; refine (HC2.out R M0 I1 I0 M1 I2 F Dn V h1.out.1 h1.out.2.1 h1.out.2.2).mono ?_; rintro e V' ⟨n, i1, i2, i3, i4, i5, a6, a7, a8, a9, a10, a11, n6, n7, n8, n9, n10, n11, q6, q7, q8, q9, q10, q11, rfl, h2⟩; dsimp only))
 obtain ⟨x, hx, hstr, hAx, hNx, hb⟩ := h2.out
 have hbA := (Below.refl V'.heap.size V').alloc (Nat.le_refl _) (.cells #[sv n, .int .i64 i1, .int .i64 i2, .int .i64 i3, .int .i64 i4, .int .i64 i5, .slice a6 n6 q6, .slice a7 n7 q7, .slice a8 n8 q8, .slice a9 n9 q9, .slice a10 n10 q10, .slice a11 n11 q11] 30)
 exact HK.out _ _ x (thenB hb hbA) hb.size ⟨hstr, hAx.below hbA, hNx.below hbA, by rw [hx]; exact heap_alloc_new V' _⟩ _ _ _ _ _ _ _ _ _ _ _ _ _ _ _ _ _ _ _ _ _ _ _ _ _ _ _ _ _ _ _ _ _ _ _ _ _ _ _ _ _ _ _ _ _ _ _ _ _ _ _ _ _ _ _ _ _ _ _ _ _ _ _ _ _ _ _ _ _ _ _ _ _ _ _ _ _ _ _ _ _ _ _ _ _ _ _ _ _ _ _ _ _ _ _ _ _ _ _ _ _ _ _ _ _ _ _ _ _ _ _ _ _ _ _ _ _ _ _ _ _ _ _ _ _ _ _ _ _ _ _ _ _ _ _ _ _ _ _ _ _ _ _ _ _ _ _ _ _ _ _ _ _ _ _ _ _ _ _ _ _ _ _ _ _ _ _ _ _ _ _ _ _ _ _ _ _ _ _ _ _ _ _ _ _ _ _ _ _ _ _ _ _ _ _ _ _ _ _ _ _ _ _ _ _ _ _ _ _ _ _ _ _ _ _ _ _ _ _ _ _ _ _ _ _ _ _ _ _ _ _ _ _ _ _ _ _ _ _ _ _ _ _ _ _ _ _ _ _ _ _ _ _ _ _ _ _ _ _ _ _ _ _ _ _ _ _ _ _ _ _ _ _ _ _ _ _ _
set_option maxRecDepth 100000 in
set_option maxHeartbeats 16000000 in
theorem sane_e2 (X : Nat) (x : Ls) (W : World) (h : SX X x W) (K : Act → World → Prop) (hK : ∀ (e0 e3 e4 e5 e6 e7 e8 e9 e10 e11 e12 e13 e14 e15 e16 e17 e18 e19 e20 e21 e22 e23 e24 e25 e26 e27 e28 e29 e30 e31 e32 e33 e34 e35 e36 e37 e38 e39 e40 e41 e42 e43 e44 e45 e46 e47 e48 e49 e50 e51 e52 e53 e54 e55 e56 e57 e58 e59 e60 e61 e62 e63 e64 e65 e66 e67 e68 e69 e70 e71 e72 e73 e74 e75 e76 e77 e78 e79 e80 e81 e82 e83 e84 e85 e86 e87 e88 e89 e90 e91 e92 e93 e94 e95 e96 e97 e98 e99 e100 e101 e102 e103 e104 e105 e106 e107 e108 e109 e110 e111 e112 e113 e114 e115 e116 e117 e118 e119 e120 e121 e122 e123 e124 e125 e126 e127 e128 e129 e130 e131 e132 e133 e134 e135 e136 e137 e138 e139 e140 e141 e142 e143 e144 e145 e146 e147 e148 e149 e150 e151 e152 e153 e154 e155 e156 e157 e158 e159 e160 e161 e162 e163 e164 e165 e166 e167 e168 e169 e170 e171 e172 e173 e174 e175 e176 e177 e178 e179 e180 e181 e182 e183 e184 e185 e186 e187 e188 e189 e190 e191 e192 e193 e194 e195 e196 e197 e198 e199 e200 e201 e202 e203 e204 e205 e206 e207 e208 e209 e210 e211 e212 e213 e214 e215 e216 e217 e218 e219 e220 e221 e222 e223 e224 e225 e226 e227 e228 e229 e230 e231 e232 e233 e234 e235 e236 e237 e238 e239 e240 e241 e242 e243 e244 e245 e246 e247 e248 e249 e250 e251 e252 e253 e254 e255 e256 e257 e258 e259 e260 e261 e262 e263 e264 e265 e266 e267 e268 e269 e270 e271 e272 e273 e274 e275 e276 e277 e278 e279 : Value), K { tmps := #[e0, .pointer (some ⟨X, 0, none⟩), .int .i64 0, e3, e4, e5, e6, e7, e8, e9, e10, e11, e12, e13, e14, e15, e16, e17, e18, e19, e20, e21, e22, e23, e24, e25, e26, e27, e28, e29, e30, e31, e32, e33, e34, e35, e36, e37, e38, e39, e40, e41, e42, e43, e44, e45, e46, e47, e48, e49, e50, e51, e52, e53, e54, e55, e56, e57, e58, e59, e60, e61, e62, e63, e64, e65, e66, e67, e68, e69, e70, e71, e72, e73, e74, e75, e76, e77, e78, e79, e80, e81, e82, e83, e84, e85, e86, e87, e88, e89, e90, e91, e92, e93, e94, e95, e96, e97, e98, e99, e100, e101, e102, e103, e104, e105, e106, e107, e108, e109, e110, e111, e112, e113, e114, e115, e116, e117, e118, e119, e120, e121, e122, e123, e124, e125, e126, e127, e128, e129, e130, e131, e132, e133, e134, e135, e136, e137, e138, e139, e140, e141, e142, e143, e144, e145, e146, e147, e148, e149, e150, e151, e152, e153, e154, e155, e156, e157, e158, e159, e160, e161, e162, e163, e164, e165, e166, e167, e168, e169, e170, e171, e172, e173, e174, e175, e176, e177, e178, e179, e180, e181, e182, e183, e184, e185, e186, e187, e188, e189, e190, e191, e192, e193, e194, e195, e196, e197, e198, e199, e200, e201, e202, e203, e204, e205, e206, e207, e208, e209, e210, e211, e212, e213, e214, e215, e216, e217, e218, e219, e220, e221, e222, e223, e224, e225, e226, e227, e228, e229, e230, e231, e232, e233, e234, e235, e236, e237, e238, e239, e240, e241, e242, e243, e244, e245, e246, e247, e248, e249, e250, e251, e252, e253, e254, e255, e256, e257, e258, e259, e260, e261, e262, e263, e264, e265, e266, e267, e268, e269, e270, e271, e272, e273, e274, e275, e276, e277, e278, e279], defers := [] } W)
  (e0 e3 e4 e5 e6 e7 e8 e9 e10 e11 e12 e13 e14 e15 e16 e17 e18 e19 e20 e21 e22 e23 e24 e25 e26 e27 e28 e29 e30 e31 e32 e33 e34 e35 e36 e37 e38 e39 e40 e41 e42 e43 e44 e45 e46 e47 e48 e49 e50 e51 e52 e53 e54 e55 e56 e57 e58 e59 e60 e61 e62 e63 e64 e65 e66 e67 e68 e69 e70 e71 e72 e73 e74 e75 e76 e77 e78 e79 e80 e81 e82 e83 e84 e85 e86 e87 e88 e89 e90 e91 e92 e93 e94 e95 e96 e97 e98 e99 e100 e101 e102 e103 e104 e105 e106 e107 e108 e109 e110 e111 e112 e113 e114 e115 e116 e117 e118 e119 e120 e121 e122 e123 e124 e125 e126 e127 e128 e129 e130 e131 e132 e133 e134 e135 e136 e137 e138 e139 e140 e141 e142 e143 e144 e145 e146 e147 e148 e149 e150 e151 e152 e153 e154 e155 e156 e157 e158 e159 e160 e161 e162 e163 e164 e165 e166 e167 e168 e169 e170 e171 e172 e173 e174 e175 e176 e177 e178 e179 e180 e181 e182 e183 e184 e185 e186 e187 e188 e189 e190 e191 e192 e193 e194 e195 e196 e197 e198 e199 e200 e201 e202 e203 e204 e205 e206 e207 e208 e209 e210 e211 e212 e213 e214 e215 e216 e217 e218 e219 e220 e221 e222 e223 e224 e225 e226 e227 e228 e229 e230 e231 e232 e233 e234 e235 e236 e237 e238 e239 e240 e241 e242 e243 e244 e245 e246 e247 e248 e249 e250 e251 e252 e253 e254 e255 e256 e257 e258 e259 e260 e261 e262 e263 e264 e265 e266 e267 e268 e269 e270 e271 e272 e273 e274 e275 e276 e277 e278 e279 : Value) :
  elem13n2.wp Try.prog (Exit.then K (fun _ _ _ => False)) { tmps := #[e0, .pointer (some ⟨X, 0, none⟩), .int .i64 0, e3, e4, e5, e6, e7, e8, e9, e10, e11, e12, e13, e14, e15, e16, e17, e18, e19, e20, e21, e22, e23, e24, e25, e26, e27, e28, e29, e30, e31, e32, e33, e34, e35, e36, e37, e38, e39, e40, e41, e42, e43, e44, e45, e46, e47, e48, e49, e50, e51, e52, e53, e54, e55, e56, e57, e58, e59, e60, e61, e62, e63, e64, e65, e66, e67, e68, e69, e70, e71, e72, e73, e74, e75, e76, e77, e78, e79, e80, e81, e82, e83, e84, e85, e86, e87, e88, e89, e90, e91, e92, e93, e94, e95, e96, e97, e98, e99, e100, e101, e102, e103, e104, e105, e106, e107, e108, e109, e110, e111, e112, e113, e114, e115, e116, e117, e118, e119, e120, e121, e122, e123, e124, e125, e126, e127, e128, e129, e130, e131, e132, e133, e134, e135, e136, e137, e138, e139, e140, e141, e142, e143, e144, e145, e146, e147, e148, e149, e150, e151, e152, e153, e154, e155, e156, e157, e158, e159, e160, e161, e162, e163, e164, e165, e166, e167, e168, e169, e170, e171, e172, e173, e174, e175, e176, e177, e178, e179, e180, e181, e182, e183, e184, e185, e186, e187, e188, e189, e190, e191, e192, e193, e194, e195, e196, e197, e198, e199, e200, e201, e202, e203, e204, e205, e206, e207, e208, e209, e210, e211, e212, e213, e214, e215, e216, e217, e218, e219, e220, e221, e222, e223, e224, e225, e226, e227, e228, e229, e230, e231, e232, e233, e234, e235, e236, e237, e238, e239, e240, e241, e242, e243, e244, e245, e246, e247, e248, e249, e250, e251, e252, e253, e254, e255, e256, e257, e258, e259, e260, e261, e262, e263, e264, e265, e266, e267, e268, e269, e270, e271, e272, e273, e274, e275, e276, e277, e278, e279], defers := [] } W := by
 obtain ⟨F, f, I0, i0, I1, i1, M0, m0, I2, i2, M1, m1, D, d, n1, n2, n3, n4, c0, c1, c2, cm0, cm1, k1, k2, k3, k4, ra, ta, ua, sa, rc, tc, uc, sc, fc, dc, hX, hS⟩ := h.back
 have x10 := cell_at hX 10 rfl; have x11 := cell_at hX 11 rfl
 have f1 := hS.f1; have f3 := hS.f3; have a4 := hS.a4
 have HK := Lib.hid hK
 clear hK hS hX h
 dsimp only
 unfold elem13n2 code13
 conv => arg 2; whnf
 go_wp2_with fail
 exact HK.out _ _ _ _ _ _ _ _ _ _ _ _ _ _ _ _ _ _ _ _ _ _ _ _ _ _ _ _ _ _ _ _ _ _ _ _ _ _ _ _ _ _ _ _ _ _ _ _ _ _ _ _ _ _ _ _ _ _ _ _ _ _ _ _ _ _ _ _ _ _ _ _ _ _ _ _ _ _ _ _ _ _ _ _ _ _ _ _ _ _ _ _ _ _ _ _ _ _ _ _ _ _ _ _ _ _ _ _ _ _ _ _ _ _ _ _ _ _ _ _ _ _ _ _ _ _ _ _ _ _ _ _ _ _ _ _ _ _ _ _ _ _ _ _ _ _ _ _ _ _ _ _ _ _ _ _ _ _ _ _ _ _ _ _ _ _ _ _ _ _ _ _ _ _ _ _ _ _ _ _ _ _ _ _ _ _ _ _ _ _ _ _ _ _ _ _ _ _ _ _ _ _ _ _ _ _ _ _ _ _ _ _ _ _ _ _ _ _ _ _ _ _ _ _ _ _ _ _ _ _ _ _ _ _ _ _ _ _ _ _ _ _ _ _ _ _ _ _ _ _ _ _ _ _ _ _ _ _ _ _ _ _ _ _ _ _ _ _ _ _ _ _ _ _ _ _ _ _
end Go.Proofs.Ytpnbpepkoekkoaa
end
section
namespace Go.Proofs.Ytpnbpepkoekkoaa
open Go Go.RowKit Go.Shelf Go.Deep
noncomputable def elem13n3 : Code := match lastPart 3 code13 with
 | .seq a _ => a
 | c => c
theorem set6 {w : World} {X : Nat} {xs : Array Value} {t : TypeId} (h : w.heap[X]? = some (.cells xs t (0, 0))) (hs : xs.size = 6) (c0 c1 c2 c3 c4 c5 : Value) : ∃ w',
  ((((((w).setCell ⟨X, 0, none⟩ c0).setCell ⟨X, 1, none⟩ c1).setCell ⟨X, 2, none⟩ c2).setCell ⟨X, 3, none⟩ c3).setCell ⟨X, 4, none⟩ c4).setCell ⟨X, 5, none⟩ c5 = w' ∧
   w'.heap[X]? = some (.cells #[c0, c1, c2, c3, c4, c5] t (0, 0)) ∧ (∀ b, b ≠ X → w'.heap[b]? = w.heap[b]?) ∧ (∀ B w0, Below B w0 w → B ≤ X → Below B w0 w') ∧ w'.heap.size = w.heap.size := by
 refine ⟨_, rfl, ?_, fun b hb => ?_, fun B w0 hb hX => ?_, ?_⟩
 ·obtain ⟨l⟩ := xs
  match l, hs with
  | [_, _, _, _, _, _], _ => simp [World.setCell, Array.getElem?_modify, h]
 ·iterate 6 rw [Below.heap_setCell _ _ _ _ hb]
 ·iterate 6 refine Below.setCell ?_ (by exact hX) _
  exact hb
 ·simp [World.setCell]
structure SJ (J3 J4 J5 F f I0 i0 I1 i1 M0 m0 I2 i2 M1 m1 D d : Nat) (n1 n2 n3 n4 : Option Addr) (c0 c1 c2 cm0 cm1 k1 k2 k3 k4 : Nat) (W : World) : Prop where
 sw : SaneW F f I0 i0 I1 i1 M0 m0 I2 i2 M1 m1 D d n1 n2 n3 n4 c0 c1 c2 cm0 cm1 k1 k2 k3 k4 W
 j3 : W.heap[J3]? = some (.cells #[.int .i64 4, .int .i64 0, sv [99], .int .i64 1, .slice n1 0 k1, .slice n2 0 k2] 78 (0, 0))
 j4 : W.heap[J4]? = some (.cells #[.int .i64 1, .int .i64 0, sv [], .int .i64 0, .slice n3 0 k3, .slice (some ⟨M0, m0, none⟩) 2 cm0] 78 (0, 0))
 j5 : W.heap[J5]? = some (.cells #[.int .i64 1, .int .i64 0, sv [], .int .i64 0, .slice n4 0 k4, .slice (some ⟨M1, m1, none⟩) 1 cm1] 78 (0, 0))
set_option maxRecDepth 100000 in
set_option maxHeartbeats 16000000 in
theorem sane_e3 (X : Nat) (x : Ls) (W : World) (hX : SX X x W) (K : Act → World → Prop)
  (hK : ∀ (V : World) (J3 J4 J5 F f I0 i0 I1 i1 M0 m0 I2 i2 M1 m1 D d : Nat) (n1 n2 n3 n4 : Option Addr) (c0 c1 c2 cm0 cm1 k1 k2 k3 k4 : Nat), Below W.heap.size W V → SX X x V → (∃ dc, x.cells[11]? = some (.slice (some ⟨D, d, none⟩) 2 dc)) → SJ J3 J4 J5 F f I0 i0 I1 i1 M0 m0 I2 i2 M1 m1 D d n1 n2 n3 n4 c0 c1 c2 cm0 cm1 k1 k2 k3 k4 V → ∀ (e0 e6 e7 e8 e9 e10 e11 e12 e13 e14 e15 e16 e17 e18 e19 e20 e21 e22 e23 e24 e25 e26 e27 e28 e29 e30 e31 e32 e33 e34 e35 e36 e37 e38 e39 e40 e41 e42 e43 e44 e45 e46 e47 e48 e49 e50 e51 e52 e53 e54 e55 e56 e57 e58 e59 e60 e61 e62 e63 e64 e65 e66 e67 e68 e69 e70 e71 e72 e73 e74 e75 e76 e77 e78 e79 e80 e81 e82 e83 e84 e85 e86 e87 e88 e89 e90 e91 e92 e93 e94 e95 e96 e97 e98 e99 e100 e101 e102 e103 e104 e105 e106 e107 e108 e109 e110 e111 e112 e113 e114 e115 e116 e117 e118 e119 e120 e121 e122 e123 e124 e125 e126 e127 e128 e129 e130 e131 e132 e133 e134 e135 e136 e137 e138 e139 e140 e141 e142 e143 e144 e145 e146 e147 e148 e149 e150 e151 e152 e153 e154 e155 e156 e157 e158 e159 e160 e161 e162 e163 e164 e165 e166 e167 e168 e169 e170 e171 e172 e173 e174 e175 e176 e177 e178 e179 e180 e181 e182 e183 e184 e185 e186 e187 e188 e189 e190 e191 e192 e193 e194 e195 e196 e197 e198 e199 e200 e201 e202 e203 e204 e205 e206 e207 e208 e209 e210 e211 e212 e213 e214 e215 e216 e217 e218 e219 e220 e221 e222 e223 e224 e225 e226 e227 e228 e229 e230 e231 e232 e233 e234 e235 e236 e237 e238 e239 e240 e241 e242 e243 e244 e245 e246 e247 e248 e249 e250 e251 e252 e253 e254 e255 e256 e257 e258 e259 e260 e261 e262 e263 e264 e265 e266 e267 e268 e269 e270 e271 e272 e273 e274 e275 e276 e277 e278 e279 : Value), K { tmps := #[e0, .pointer (some ⟨X, 0, none⟩), .int .i64 0, .pointer (some ⟨J3, 0, none⟩), .pointer (some ⟨J4, 0, none⟩), .pointer (some ⟨J5, 0, none⟩), e6, e7, e8, e9, e10, e11, e12, e13, e14, e15, e16, e17, e18, e19, e20, e21, e22, e23, e24, e25, e26, e27, e28, e29, e30, e31, e32, e33, e34, e35, e36, e37, e38, e39, e40, e41, e42, e43, e44, e45, e46, e47, e48, e49, e50, e51, e52, e53, e54, e55, e56, e57, e58, e59, e60, e61, e62, e63, e64, e65, e66, e67, e68, e69, e70, e71, e72, e73, e74, e75, e76, e77, e78, e79, e80, e81, e82, e83, e84, e85, e86, e87, e88, e89, e90, e91, e92, e93, e94, e95, e96, e97, e98, e99, e100, e101, e102, e103, e104, e105, e106, e107, e108, e109, e110, e111, e112, e113, e114, e115, e116, e117, e118, e119, e120, e121, e122, e123, e124, e125, e126, e127, e128, e129, e130, e131, e132, e133, e134, e135, e136, e137, e138, e139, e140, e141, e142, e143, e144, e145, e146, e147, e148, e149, e150, e151, e152, e153, e154, e155, e156, e157, e158, e159, e160, e161, e162, e163, e164, e165, e166, e167, e168, e169, e170, e171, e172, e173, e174, e175, e176, e177, e178, e179, e180, e181, e182, e183, e184, e185, e186, e187, e188, e189, e190, e191, e192, e193, e194, e195, e196, e197, e198, e199, e200, e201, e202, e203, e204, e205, e206, e207, e208, e209, e210, e211, e212, e213, e214, e215, e216, e217, e218, e219, e220, e221, e222, e223, e224, e225, e226, e227, e228, e229, e230, e231, e232, e233, e234, e235, e236, e237, e238, e239, e240, e241, e242, e243, e244, e245, e246, e247, e248, e249, e250, e251, e252, e253, e254, e255, e256, e257, e258, e259, e260, e261, e262, e263, e264, e265, e266, e267, e268, e269, e270, e271, e272, e273, e274, e275, e276, e277, e278, e279], defers := [] } V)
  (e0 e3 e4 e5 e6 e7 e8 e9 e10 e11 e12 e13 e14 e15 e16 e17 e18 e19 e20 e21 e22 e23 e24 e25 e26 e27 e28 e29 e30 e31 e32 e33 e34 e35 e36 e37 e38 e39 e40 e41 e42 e43 e44 e45 e46 e47 e48 e49 e50 e51 e52 e53 e54 e55 e56 e57 e58 e59 e60 e61 e62 e63 e64 e65 e66 e67 e68 e69 e70 e71 e72 e73 e74 e75 e76 e77 e78 e79 e80 e81 e82 e83 e84 e85 e86 e87 e88 e89 e90 e91 e92 e93 e94 e95 e96 e97 e98 e99 e100 e101 e102 e103 e104 e105 e106 e107 e108 e109 e110 e111 e112 e113 e114 e115 e116 e117 e118 e119 e120 e121 e122 e123 e124 e125 e126 e127 e128 e129 e130 e131 e132 e133 e134 e135 e136 e137 e138 e139 e140 e141 e142 e143 e144 e145 e146 e147 e148 e149 e150 e151 e152 e153 e154 e155 e156 e157 e158 e159 e160 e161 e162 e163 e164 e165 e166 e167 e168 e169 e170 e171 e172 e173 e174 e175 e176 e177 e178 e179 e180 e181 e182 e183 e184 e185 e186 e187 e188 e189 e190 e191 e192 e193 e194 e195 e196 e197 e198 e199 e200 e201 e202 e203 e204 e205 e206 e207 e208 e209 e210 e211 e212 e213 e214 e215 e216 e217 e218 e219 e220 e221 e222 e223 e224 e225 e226 e227 e228 e229 e230 e231 e232 e233 e234 e235 e236 e237 e238 e239 e240 e241 e242 e243 e244 e245 e246 e247 e248 e249 e250 e251 e252 e253 e254 e255 e256 e257 e258 e259 e260 e261 e262 e263 e264 e265 e266 e267 e268 e269 e270 e271 e272 e273 e274 e275 e276 e277 e278 e279 : Value) :
  elem13n3.wp Try.prog (Exit.then K (fun _ _ _ => False)) { tmps := #[e0, .pointer (some ⟨X, 0, none⟩), .int .i64 0, e3, e4, e5, e6, e7, e8, e9, e10, e11, e12, e13, e14, e15, e16, e17, e18, e19, e20, e21, e22, e23, e24, e25, e26, e27, e28, e29, e30, e31, e32, e33, e34, e35, e36, e37, e38, e39, e40, e41, e42, e43, e44, e45, e46, e47, e48, e49, e50, e51, e52, e53, e54, e55, e56, e57, e58, e59, e60, e61, e62, e63, e64, e65, e66, e67, e68, e69, e70, e71, e72, e73, e74, e75, e76, e77, e78, e79, e80, e81, e82, e83, e84, e85, e86, e87, e88, e89, e90, e91, e92, e93, e94, e95, e96, e97, e98, e99, e100, e101, e102, e103, e104, e105, e106, e107, e108, e109, e110, e111, e112, e113, e114, e115, e116, e117, e118, e119, e120, e121, e122, e123, e124, e125, e126, e127, e128, e129, e130, e131, e132, e133, e134, e135, e136, e137, e138, e139, e140, e141, e142, e143, e144, e145, e146, e147, e148, e149, e150, e151, e152, e153, e154, e155, e156, e157, e158, e159, e160, e161, e162, e163, e164, e165, e166, e167, e168, e169, e170, e171, e172, e173, e174, e175, e176, e177, e178, e179, e180, e181, e182, e183, e184, e185, e186, e187, e188, e189, e190, e191, e192, e193, e194, e195, e196, e197, e198, e199, e200, e201, e202, e203, e204, e205, e206, e207, e208, e209, e210, e211, e212, e213, e214, e215, e216, e217, e218, e219, e220, e221, e222, e223, e224, e225, e226, e227, e228, e229, e230, e231, e232, e233, e234, e235, e236, e237, e238, e239, e240, e241, e242, e243, e244, e245, e246, e247, e248, e249, e250, e251, e252, e253, e254, e255, e256, e257, e258, e259, e260, e261, e262, e263, e264, e265, e266, e267, e268, e269, e270, e271, e272, e273, e274, e275, e276, e277, e278, e279], defers := [] } W := by
 obtain ⟨F, f, I0, i0, I1, i1, M0, m0, I2, i2, M1, m1, D, d, n1, n2, n3, n4, c0, c1, c2, cm0, cm1, k1, k2, k3, k4, ra, ta, ua, sa, rc, tc, uc, sc, fc, dc, hXX, hS⟩ := hX.back
 have x10 := cell_at hXX 10 rfl
 have hD0 : ∃ dc, x.cells[11]? = some (.slice (some ⟨D, d, none⟩) 2 dc) := ⟨dc, by
  have h := hX.heap
  rw [hXX] at h
  injection h with h; injection h with h
  rw [← h]; rfl⟩
 have HD0 := Lib.hid hD0
 have HK0 := Lib.hid hK
 clear hK hXX hD0
 unfold elem13n3 code13
 conv => arg 2; whnf
 refine wp_region_held (S := fun V => Below W.heap.size W V) (by kernel_rfl) ?_
 change wpAnyH _ _ _ _ _ _ _ _ W.drew
 have bz : Below W.heap.size W W.drew := (Below.refl _ _).drew
 generalize hWd : W.drew = Wd at *
 have hS0 : Below W.heap.size W Wd := bz
 dsimp only
 refine wpAnyH_take (i := 0) (oi := _) (v := .pointer (some ⟨X, 10, none⟩)) rfl (by kernel_rfl) (by kernel_rfl) (by kernel_rfl) (fun _ _ _ h => h) (Or.inl ⟨by kernel_rfl, fun V hb => by go_simp⟩) hS0 ?_
 try simp only [Act.put, List.getElem_toArray, List.getElem_cons_zero, List.getElem_cons_succ, List.setIfInBounds_toArray, List.set_cons_zero, List.set_cons_succ]
 refine wpAnyH_take (i := 1) (oi := _) (v := .slice (some ⟨F, f, none⟩) 2 fc) rfl (by kernel_rfl) (by kernel_rfl) (by kernel_rfl) (fun _ _ _ h => h) (Or.inl ⟨by kernel_rfl, fun V hb => by have q0 := keep_cell hb x10; go_simp⟩) hS0 ?_
 try simp only [Act.put, List.getElem_toArray, List.getElem_cons_zero, List.getElem_cons_succ, List.setIfInBounds_toArray, List.set_cons_zero, List.set_cons_succ]
 refine wpAnyH_take (i := 2) (oi := _) (v := .pointer (some ⟨F, f, none⟩)) rfl (by kernel_rfl) (by kernel_rfl) (by kernel_rfl) (fun _ _ _ h => h) (Or.inl ⟨by kernel_rfl, fun V hb => by go_simp⟩) hS0 ?_
 try simp only [Act.put, List.getElem_toArray, List.getElem_cons_zero, List.getElem_cons_succ, List.setIfInBounds_toArray, List.set_cons_zero, List.set_cons_succ]
 refine wpAnyH_take (i := 3) (oi := _) (v := .pointer (some ⟨F, f + 1, none⟩)) rfl (by kernel_rfl) (by kernel_rfl) (by kernel_rfl) (fun _ _ _ h => h) (Or.inl ⟨by kernel_rfl, fun V hb => by go_simp⟩) hS0 ?_
 try simp only [Act.put, List.getElem_toArray, List.getElem_cons_zero, List.getElem_cons_succ, List.setIfInBounds_toArray, List.set_cons_zero, List.set_cons_succ]
 refine wpAnyH_take (i := 4) (oi := _) (v := .slice (some ⟨I0, i0, none⟩) 1 c0) rfl (by kernel_rfl) (by kernel_rfl) (by kernel_rfl) (fun _ _ _ h => h) (Or.inl ⟨by kernel_rfl, fun V hb => by have q0 := keep_cell hb hS.f1; go_simp⟩) hS0 ?_
 try simp only [Act.put, List.getElem_toArray, List.getElem_cons_zero, List.getElem_cons_succ, List.setIfInBounds_toArray, List.set_cons_zero, List.set_cons_succ]
 refine wpAnyH_take (i := 5) (oi := _) (v := .pointer (some ⟨I0, i0, none⟩)) rfl (by kernel_rfl) (by kernel_rfl) (by kernel_rfl) (fun _ _ _ h => h) (Or.inl ⟨by kernel_rfl, fun V hb => by go_simp⟩) hS0 ?_
 try simp only [Act.put, List.getElem_toArray, List.getElem_cons_zero, List.getElem_cons_succ, List.setIfInBounds_toArray, List.set_cons_zero, List.set_cons_succ]
 refine wpAnyH_take (i := 6) (oi := _) (v := .pointer (some ⟨I0, i0 + 4, none⟩)) rfl (by kernel_rfl) (by kernel_rfl) (by kernel_rfl) (fun _ _ _ h => h) (Or.inl ⟨by kernel_rfl, fun V hb => by go_simp⟩) hS0 ?_
 try simp only [Act.put, List.getElem_toArray, List.getElem_cons_zero, List.getElem_cons_succ, List.setIfInBounds_toArray, List.set_cons_zero, List.set_cons_succ]
 refine wpAnyH_take (i := 7) (oi := _) (v := .slice (some ⟨I1, i1, none⟩) 2 c1) rfl (by kernel_rfl) (by kernel_rfl) (by kernel_rfl) (fun _ _ _ h => h) (Or.inl ⟨by kernel_rfl, fun V hb => by have q0 := keep_cell hb hS.a4; go_simp⟩) hS0 ?_
 try simp only [Act.put, List.getElem_toArray, List.getElem_cons_zero, List.getElem_cons_succ, List.setIfInBounds_toArray, List.set_cons_zero, List.set_cons_succ]
 refine wpAnyH_take (i := 8) (oi := _) (v := .pointer (some ⟨I1, i1, none⟩)) rfl (by kernel_rfl) (by kernel_rfl) (by kernel_rfl) (fun _ _ _ h => h) (Or.inl ⟨by kernel_rfl, fun V hb => by go_simp⟩) hS0 ?_
 try simp only [Act.put, List.getElem_toArray, List.getElem_cons_zero, List.getElem_cons_succ, List.setIfInBounds_toArray, List.set_cons_zero, List.set_cons_succ]
 refine wpAnyH_take (i := 9) (oi := _) (v := .agg #[.int .i64 4, .int .i64 0, sv [99], .int .i64 1, .slice n1 0 k1, .slice n2 0 k2]) rfl (by kernel_rfl) (by kernel_rfl) (by kernel_rfl) (fun _ _ _ h => h) (Or.inl ⟨by kernel_rfl, fun V hb => by have q0 := keep_cell hb hS.b0; have q1 := keep_cell hb hS.b1; have q2 := keep_cell hb hS.b2; have q3 := keep_cell hb hS.b3; have q4 := keep_cell hb hS.b4; have q5 := keep_cell hb hS.b5; go_simp⟩) hS0 ?_
 try simp only [Act.put, List.getElem_toArray, List.getElem_cons_zero, List.getElem_cons_succ, List.setIfInBounds_toArray, List.set_cons_zero, List.set_cons_succ]
 refine wpAnyH_take (i := 10) (oi := _) (v := .pointer (some ⟨X, 10, none⟩)) rfl (by kernel_rfl) (by kernel_rfl) (by kernel_rfl) (fun _ _ _ h => h) (Or.inl ⟨by kernel_rfl, fun V hb => by go_simp⟩) hS0 ?_
 try simp only [Act.put, List.getElem_toArray, List.getElem_cons_zero, List.getElem_cons_succ, List.setIfInBounds_toArray, List.set_cons_zero, List.set_cons_succ]
 refine wpAnyH_take (i := 11) (oi := _) (v := .slice (some ⟨F, f, none⟩) 2 fc) rfl (by kernel_rfl) (by kernel_rfl) (by kernel_rfl) (fun _ _ _ h => h) (Or.inl ⟨by kernel_rfl, fun V hb => by have q0 := keep_cell hb x10; go_simp⟩) hS0 ?_
 try simp only [Act.put, List.getElem_toArray, List.getElem_cons_zero, List.getElem_cons_succ, List.setIfInBounds_toArray, List.set_cons_zero, List.set_cons_succ]
 refine wpAnyH_take (i := 12) (oi := _) (v := .pointer (some ⟨F, f, none⟩)) rfl (by kernel_rfl) (by kernel_rfl) (by kernel_rfl) (fun _ _ _ h => h) (Or.inl ⟨by kernel_rfl, fun V hb => by go_simp⟩) hS0 ?_
 try simp only [Act.put, List.getElem_toArray, List.getElem_cons_zero, List.getElem_cons_succ, List.setIfInBounds_toArray, List.set_cons_zero, List.set_cons_succ]
 refine wpAnyH_take (i := 13) (oi := _) (v := .pointer (some ⟨F, f + 1, none⟩)) rfl (by kernel_rfl) (by kernel_rfl) (by kernel_rfl) (fun _ _ _ h => h) (Or.inl ⟨by kernel_rfl, fun V hb => by go_simp⟩) hS0 ?_
 try simp only [Act.put, List.getElem_toArray, List.getElem_cons_zero, List.getElem_cons_succ, List.setIfInBounds_toArray, List.set_cons_zero, List.set_cons_succ]
 refine wpAnyH_take (i := 14) (oi := _) (v := .slice (some ⟨I0, i0, none⟩) 1 c0) rfl (by kernel_rfl) (by kernel_rfl) (by kernel_rfl) (fun _ _ _ h => h) (Or.inl ⟨by kernel_rfl, fun V hb => by have q0 := keep_cell hb hS.f1; go_simp⟩) hS0 ?_
 try simp only [Act.put, List.getElem_toArray, List.getElem_cons_zero, List.getElem_cons_succ, List.setIfInBounds_toArray, List.set_cons_zero, List.set_cons_succ]
 refine wpAnyH_take (i := 15) (oi := _) (v := .pointer (some ⟨I0, i0, none⟩)) rfl (by kernel_rfl) (by kernel_rfl) (by kernel_rfl) (fun _ _ _ h => h) (Or.inl ⟨by kernel_rfl, fun V hb => by go_simp⟩) hS0 ?_
 try simp only [Act.put, List.getElem_toArray, List.getElem_cons_zero, List.getElem_cons_succ, List.setIfInBounds_toArray, List.set_cons_zero, List.set_cons_succ]
 refine wpAnyH_take (i := 16) (oi := _) (v := .pointer (some ⟨I0, i0 + 4, none⟩)) rfl (by kernel_rfl) (by kernel_rfl) (by kernel_rfl) (fun _ _ _ h => h) (Or.inl ⟨by kernel_rfl, fun V hb => by go_simp⟩) hS0 ?_
 try simp only [Act.put, List.getElem_toArray, List.getElem_cons_zero, List.getElem_cons_succ, List.setIfInBounds_toArray, List.set_cons_zero, List.set_cons_succ]
 refine wpAnyH_take (i := 17) (oi := _) (v := .slice (some ⟨I1, i1, none⟩) 2 c1) rfl (by kernel_rfl) (by kernel_rfl) (by kernel_rfl) (fun _ _ _ h => h) (Or.inl ⟨by kernel_rfl, fun V hb => by have q0 := keep_cell hb hS.a4; go_simp⟩) hS0 ?_
 try simp only [Act.put, List.getElem_toArray, List.getElem_cons_zero, List.getElem_cons_succ, List.setIfInBounds_toArray, List.set_cons_zero, List.set_cons_succ]
 refine wpAnyH_take (i := 18) (oi := _) (v := .pointer (some ⟨I1, i1 + 6, none⟩)) rfl (by kernel_rfl) (by kernel_rfl) (by kernel_rfl) (fun _ _ _ h => h) (Or.inl ⟨by kernel_rfl, fun V hb => by go_simp⟩) hS0 ?_
 try simp only [Act.put, List.getElem_toArray, List.getElem_cons_zero, List.getElem_cons_succ, List.setIfInBounds_toArray, List.set_cons_zero, List.set_cons_succ]
 refine wpAnyH_take (i := 19) (oi := _) (v := .agg #[.int .i64 1, .int .i64 0, sv [], .int .i64 0, .slice n3 0 k3, .slice (some ⟨M0, m0, none⟩) 2 cm0]) rfl (by kernel_rfl) (by kernel_rfl) (by kernel_rfl) (fun _ _ _ h => h) (Or.inl ⟨by kernel_rfl, fun V hb => by have q0 := keep_cell hb hS.b6; have q1 := keep_cell hb hS.b7; have q2 := keep_cell hb hS.b8; have q3 := keep_cell hb hS.b9; have q4 := keep_cell hb hS.b10; have q5 := keep_cell hb hS.b11; go_simp⟩) hS0 ?_
 try simp only [Act.put, List.getElem_toArray, List.getElem_cons_zero, List.getElem_cons_succ, List.setIfInBounds_toArray, List.set_cons_zero, List.set_cons_succ]
 refine wpAnyH_take (i := 20) (oi := _) (v := .pointer (some ⟨X, 10, none⟩)) rfl (by kernel_rfl) (by kernel_rfl) (by kernel_rfl) (fun _ _ _ h => h) (Or.inl ⟨by kernel_rfl, fun V hb => by go_simp⟩) hS0 ?_
 try simp only [Act.put, List.getElem_toArray, List.getElem_cons_zero, List.getElem_cons_succ, List.setIfInBounds_toArray, List.set_cons_zero, List.set_cons_succ]
 refine wpAnyH_take (i := 21) (oi := _) (v := .slice (some ⟨F, f, none⟩) 2 fc) rfl (by kernel_rfl) (by kernel_rfl) (by kernel_rfl) (fun _ _ _ h => h) (Or.inl ⟨by kernel_rfl, fun V hb => by have q0 := keep_cell hb x10; go_simp⟩) hS0 ?_
 try simp only [Act.put, List.getElem_toArray, List.getElem_cons_zero, List.getElem_cons_succ, List.setIfInBounds_toArray, List.set_cons_zero, List.set_cons_succ]
 refine wpAnyH_take (i := 22) (oi := _) (v := .pointer (some ⟨F, f + 2, none⟩)) rfl (by kernel_rfl) (by kernel_rfl) (by kernel_rfl) (fun _ _ _ h => h) (Or.inl ⟨by kernel_rfl, fun V hb => by go_simp⟩) hS0 ?_
 try simp only [Act.put, List.getElem_toArray, List.getElem_cons_zero, List.getElem_cons_succ, List.setIfInBounds_toArray, List.set_cons_zero, List.set_cons_succ]
 refine wpAnyH_take (i := 23) (oi := _) (v := .pointer (some ⟨F, f + 2 + 1, none⟩)) rfl (by kernel_rfl) (by kernel_rfl) (by kernel_rfl) (fun _ _ _ h => h) (Or.inl ⟨by kernel_rfl, fun V hb => by go_simp⟩) hS0 ?_
 try simp only [Act.put, List.getElem_toArray, List.getElem_cons_zero, List.getElem_cons_succ, List.setIfInBounds_toArray, List.set_cons_zero, List.set_cons_succ]
 refine wpAnyH_take (i := 24) (oi := _) (v := .slice (some ⟨I2, i2, none⟩) 2 c2) rfl (by kernel_rfl) (by kernel_rfl) (by kernel_rfl) (fun _ _ _ h => h) (Or.inl ⟨by kernel_rfl, fun V hb => by have q0 := keep_cell hb hS.f3; go_simp⟩) hS0 ?_
 try simp only [Act.put, List.getElem_toArray, List.getElem_cons_zero, List.getElem_cons_succ, List.setIfInBounds_toArray, List.set_cons_zero, List.set_cons_succ]
 refine wpAnyH_take (i := 25) (oi := _) (v := .pointer (some ⟨I2, i2, none⟩)) rfl (by kernel_rfl) (by kernel_rfl) (by kernel_rfl) (fun _ _ _ h => h) (Or.inl ⟨by kernel_rfl, fun V hb => by go_simp⟩) hS0 ?_
 try simp only [Act.put, List.getElem_toArray, List.getElem_cons_zero, List.getElem_cons_succ, List.setIfInBounds_toArray, List.set_cons_zero, List.set_cons_succ]
 refine wpAnyH_take (i := 26) (oi := _) (v := .agg #[.int .i64 1, .int .i64 0, sv [], .int .i64 0, .slice n4 0 k4, .slice (some ⟨M1, m1, none⟩) 1 cm1]) rfl (by kernel_rfl) (by kernel_rfl) (by kernel_rfl) (fun _ _ _ h => h) (Or.inl ⟨by kernel_rfl, fun V hb => by have q0 := keep_cell hb hS.d0; have q1 := keep_cell hb hS.d1; have q2 := keep_cell hb hS.d2; have q3 := keep_cell hb hS.d3; have q4 := keep_cell hb hS.d4; have q5 := keep_cell hb hS.d5; go_simp⟩) hS0 ?_
 try simp only [Act.put, List.getElem_toArray, List.getElem_cons_zero, List.getElem_cons_succ, List.setIfInBounds_toArray, List.set_cons_zero, List.set_cons_succ]
 refine wpAnyH_ready (rs := [27, 28, 29]) (by kernel_rfl) (by simp) ?_
 refine AllReadyH.cons (o := _) rfl (fun K1 hK => ?_) (AllReadyH.cons (o := _) rfl (fun K1 hK => ?_) (AllReadyH.cons (o := _) rfl (fun K1 hK => ?_) AllReadyH.nil))
 ·obtain ⟨V7, xV7, gV7, bV7, sV7⟩ := mk_cells Wd #[.int .i64 0, .int .i64 0, sv [], .int .i64 0, .slice none 0 0, .slice none 0 0] 78
  have bbV7 := thenB bz bV7
  have HK := Lib.hid hK
  have GV7 := Lib.hid gV7; have SV7 := Lib.hid sV7
  clear hK gV7 sV7
  go_simp
  refine HK.out _ _ bbV7 (fun _ => ?_)
  try simp only [Act.put, List.getElem_toArray, List.getElem_cons_zero, List.getElem_cons_succ, List.setIfInBounds_toArray, List.set_cons_zero, List.set_cons_succ]
  clear HK K1
  refine wpAnyH_ready (rs := [28, 29]) (by kernel_rfl) (by simp) ?_
  refine AllReadyH.cons (o := _) rfl (fun K1 hK => ?_) (AllReadyH.cons (o := _) rfl (fun K1 hK => ?_) AllReadyH.nil)
  ·obtain ⟨V78, xV78, gV78, bV78, sV78⟩ := mk_cells V7 #[.int .i64 0, .int .i64 0, sv [], .int .i64 0, .slice none 0 0, .slice none 0 0] 78
   have bbV78 := thenB bbV7 bV78
   have HK := Lib.hid hK
   have GV78 := Lib.hid gV78; have SV78 := Lib.hid sV78
   clear hK gV78 sV78
   go_simp
   refine HK.out _ _ bbV78 (fun _ => ?_)
   try simp only [Act.put, List.getElem_toArray, List.getElem_cons_zero, List.getElem_cons_succ, List.setIfInBounds_toArray, List.set_cons_zero, List.set_cons_succ]
   clear HK K1
   refine wpAnyH_ready (rs := [29]) (by kernel_rfl) (by simp) ?_
   refine AllReadyH.cons (o := _) rfl (fun K1 hK => ?_) AllReadyH.nil
   ·obtain ⟨V789, xV789, gV789, bV789, sV789⟩ := mk_cells V78 #[.int .i64 0, .int .i64 0, sv [], .int .i64 0, .slice none 0 0, .slice none 0 0] 78
    have bbV789 := thenB bbV78 bV789
    have HK := Lib.hid hK
    have GV789 := Lib.hid gV789; have SV789 := Lib.hid sV789
    clear hK gV789 sV789
    go_simp
    refine HK.out _ _ bbV789 (fun _ => ?_)
    try simp only [Act.put, List.getElem_toArray, List.getElem_cons_zero, List.getElem_cons_succ, List.setIfInBounds_toArray, List.set_cons_zero, List.set_cons_succ]
    clear HK K1
    have h29 : V789.heap[V78.heap.size]? = some (.cells #[.int .i64 0, .int .i64 0, sv [], .int .i64 0, .slice none 0 0, .slice none 0 0] 78 (0, 0)) := GV789.out
    have z1 := (Array.getElem?_eq_some_iff.1 GV7.out).1
    have z2 := (Array.getElem?_eq_some_iff.1 GV78.out).1
    have z3 := (Array.getElem?_eq_some_iff.1 GV789.out).1
    have y1 := SV7.out; have y2 := SV78.out; have y3 := SV789.out
    have h27 := keepO (thenB bV78 bV789) GV7.out
    have h28 := keepO bV789 GV78.out
    obtain ⟨U1, x1, g1, o1, bU1, t1⟩ := set6 h27 rfl (.int .i64 4) (.int .i64 0) (sv [99]) (.int .i64 1) (.slice n1 0 k1) (.slice n2 0 k2)
    have h28b := (o1 _ (by omega)).trans h28
    obtain ⟨U2, x2, g2, o2, bU2, t2⟩ := set6 h28b rfl (.int .i64 1) (.int .i64 0) (sv []) (.int .i64 0) (.slice n3 0 k3) (.slice (some ⟨M0, m0, none⟩) 2 cm0)
    have h29b := (o2 _ (by omega)).trans ((o1 _ (by omega)).trans h29)
    obtain ⟨U3, x3, g3, o3, bU3, t3⟩ := set6 h29b rfl (.int .i64 1) (.int .i64 0) (sv []) (.int .i64 0) (.slice n4 0 k4) (.slice (some ⟨M1, m1, none⟩) 1 cm1)
    have wz := bz.size
    have kk1 := bU1 _ _ bbV789 (by omega)
    have kk2 := bU2 _ _ kk1 (by omega)
    have kk3 := bU3 _ _ kk2 (by omega)
    have hfin := Lib.hid (HK0.out U3 (Wd.heap.size) (V7.heap.size) (V78.heap.size) F f I0 i0 I1 i1 M0 m0 I2 i2 M1 m1 D d n1 n2 n3 n4 c0 c1 c2 cm0 cm1 k1 k2 k3 k4 kk3 (SX.below hX kk3) HD0.out ⟨hS.below kk3, (o3 _ (by omega)).trans ((o2 _ (by omega)).trans g1), (o3 _ (by omega)).trans g2, g3⟩)
    clear y1 y2 y3 z1 z2 z3 wz g1 g2 g3 o1 o2 o3 bU1 bU2 bU3 t1 t2 t3
    refine wpAnyH_ready (rs := [30]) (by kernel_rfl) (by simp) ?_
    refine AllReadyH.cons (o := _) rfl (fun K1 hK => ?_) AllReadyH.nil
    have HK := Lib.hid hK
    clear hK
    have c0 := cell_at h27 0 rfl; have c1 := cell_at h27 1 rfl; have c2 := cell_at h27 2 rfl; have c3 := cell_at h27 3 rfl; have c4 := cell_at h27 4 rfl; have c5 := cell_at h27 5 rfl
    have hfz : ∀ q, V789.frozen? ⟨Wd.heap.size, q, none⟩ = false := fun q => (show FreeB V789 _ from ⟨_, _, h27⟩).free q
    go_simp
    refine HK.out _ _ kk1 (fun _ => ?_)
    try simp only [Act.put, List.getElem_toArray, List.getElem_cons_zero, List.getElem_cons_succ, List.setIfInBounds_toArray, List.set_cons_zero, List.set_cons_succ]
    clear HK K1 c0 c1 c2 c3 c4 c5 hfz
    refine wpAnyH_ready (rs := [31]) (by kernel_rfl) (by simp) ?_
    refine AllReadyH.cons (o := _) rfl (fun K1 hK => ?_) AllReadyH.nil
    have HK := Lib.hid hK
    clear hK
    have c0 := cell_at h28b 0 rfl; have c1 := cell_at h28b 1 rfl; have c2 := cell_at h28b 2 rfl; have c3 := cell_at h28b 3 rfl; have c4 := cell_at h28b 4 rfl; have c5 := cell_at h28b 5 rfl
    have hfz : ∀ q, U1.frozen? ⟨V7.heap.size, q, none⟩ = false := fun q => (show FreeB U1 _ from ⟨_, _, h28b⟩).free q
    go_simp
    refine HK.out _ _ kk2 (fun _ => ?_)
    try simp only [Act.put, List.getElem_toArray, List.getElem_cons_zero, List.getElem_cons_succ, List.setIfInBounds_toArray, List.set_cons_zero, List.set_cons_succ]
    clear HK K1 c0 c1 c2 c3 c4 c5 hfz
    refine wpAnyH_ready (rs := [32]) (by kernel_rfl) (by simp) ?_
    refine AllReadyH.cons (o := _) rfl (fun K1 hK => ?_) AllReadyH.nil
    have HK := Lib.hid hK
    clear hK
    have c0 := cell_at h29b 0 rfl; have c1 := cell_at h29b 1 rfl; have c2 := cell_at h29b 2 rfl; have c3 := cell_at h29b 3 rfl; have c4 := cell_at h29b 4 rfl; have c5 := cell_at h29b 5 rfl
    have hfz : ∀ q, U2.frozen? ⟨V78.heap.size, q, none⟩ = false := fun q => (show FreeB U2 _ from ⟨_, _, h29b⟩).free q
    go_simp
    refine HK.out _ _ kk3 (fun _ => ?_)
    try simp only [Act.put, List.getElem_toArray, List.getElem_cons_zero, List.getElem_cons_succ, List.setIfInBounds_toArray, List.set_cons_zero, List.set_cons_succ]
    clear HK K1 c0 c1 c2 c3 c4 c5 hfz
    refine wpAnyH_done (by kernel_rfl) ?_ _
    exact hfin.out _ _ _ _ _ _ _ _ _ _ _ _ _ _ _ _ _ _ _ _ _ _ _ _ _ _ _ _ _ _ _ _ _ _ _ _ _ _ _ _ _ _ _ _ _ _ _ _ _ _ _ _ _ _ _ _ _ _ _ _ _ _ _ _ _ _ _ _ _ _ _ _ _ _ _ _ _ _ _ _ _ _ _ _ _ _ _ _ _ _ _ _ _ _ _ _ _ _ _ _ _ _ _ _ _ _ _ _ _ _ _ _ _ _ _ _ _ _ _ _ _ _ _ _ _ _ _ _ _ _ _ _ _ _ _ _ _ _ _ _ _ _ _ _ _ _ _ _ _ _ _ _ _ _ _ _ _ _ _ _ _ _ _ _ _ _ _ _ _ _ _ _ _ _ _ _ _ _ _ _ _ _ _ _ _ _ _ _ _ _ _ _ _ _ _ _ _ _ _ _ _ _ _ _ _ _ _ _ _ _ _ _ _ _ _ _ _ _ _ _ _ _ _ _ _ _ _ _ _ _ _ _ _ _ _ _ _ _ _ _ _ _ _ _ _ _ _ _ _ _ _ _ _ _ _ _ _ _ _ _ _ _ _ _ _ _ _ _ _ _ _ _ _ _ _
  ·obtain ⟨V79, xV79, gV79, bV79, sV79⟩ := mk_cells V7 #[.int .i64 0, .int .i64 0, sv [], .int .i64 0, .slice none 0 0, .slice none 0 0] 78
   have bbV79 := thenB bbV7 bV79
   have HK := Lib.hid hK
   have GV79 := Lib.hid gV79; have SV79 := Lib.hid sV79
   clear hK gV79 sV79
   go_simp
   refine HK.out _ _ bbV79 (fun _ => ?_)
   try simp only [Act.put, List.getElem_toArray, List.getElem_cons_zero, List.getElem_cons_succ, List.setIfInBounds_toArray, List.set_cons_zero, List.set_cons_succ]
   clear HK K1
   refine wpAnyH_ready (rs := [28]) (by kernel_rfl) (by simp) ?_
   refine AllReadyH.cons (o := _) rfl (fun K1 hK => ?_) AllReadyH.nil
   ·obtain ⟨V798, xV798, gV798, bV798, sV798⟩ := mk_cells V79 #[.int .i64 0, .int .i64 0, sv [], .int .i64 0, .slice none 0 0, .slice none 0 0] 78
    have bbV798 := thenB bbV79 bV798
    have HK := Lib.hid hK
    have GV798 := Lib.hid gV798; have SV798 := Lib.hid sV798
    clear hK gV798 sV798
    go_simp
    refine HK.out _ _ bbV798 (fun _ => ?_)
    try simp only [Act.put, List.getElem_toArray, List.getElem_cons_zero, List.getElem_cons_succ, List.setIfInBounds_toArray, List.set_cons_zero, List.set_cons_succ]
    clear HK K1
    have h28 : V798.heap[V79.heap.size]? = some (.cells #[.int .i64 0, .int .i64 0, sv [], .int .i64 0, .slice none 0 0, .slice none 0 0] 78 (0, 0)) := GV798.out
    have z1 := (Array.getElem?_eq_some_iff.1 GV7.out).1
    have z2 := (Array.getElem?_eq_some_iff.1 GV79.out).1
    have z3 := (Array.getElem?_eq_some_iff.1 GV798.out).1
    have y1 := SV7.out; have y2 := SV79.out; have y3 := SV798.out
    have h27 := keepO (thenB bV79 bV798) GV7.out
    have h29 := keepO bV798 GV79.out
    obtain ⟨U1, x1, g1, o1, bU1, t1⟩ := set6 h27 rfl (.int .i64 4) (.int .i64 0) (sv [99]) (.int .i64 1) (.slice n1 0 k1) (.slice n2 0 k2)
    have h28b := (o1 _ (by omega)).trans h28
    obtain ⟨U2, x2, g2, o2, bU2, t2⟩ := set6 h28b rfl (.int .i64 1) (.int .i64 0) (sv []) (.int .i64 0) (.slice n3 0 k3) (.slice (some ⟨M0, m0, none⟩) 2 cm0)
    have h29b := (o2 _ (by omega)).trans ((o1 _ (by omega)).trans h29)
    obtain ⟨U3, x3, g3, o3, bU3, t3⟩ := set6 h29b rfl (.int .i64 1) (.int .i64 0) (sv []) (.int .i64 0) (.slice n4 0 k4) (.slice (some ⟨M1, m1, none⟩) 1 cm1)
    have wz := bz.size
    have kk1 := bU1 _ _ bbV798 (by omega)
    have kk2 := bU2 _ _ kk1 (by omega)
    have kk3 := bU3 _ _ kk2 (by omega)
    have hfin := Lib.hid (HK0.out U3 (Wd.heap.size) (V79.heap.size) (V7.heap.size) F f I0 i0 I1 i1 M0 m0 I2 i2 M1 m1 D d n1 n2 n3 n4 c0 c1 c2 cm0 cm1 k1 k2 k3 k4 kk3 (SX.below hX kk3) HD0.out ⟨hS.below kk3, (o3 _ (by omega)).trans ((o2 _ (by omega)).trans g1), (o3 _ (by omega)).trans g2, g3⟩)
    clear y1 y2 y3 z1 z2 z3 wz g1 g2 g3 o1 o2 o3 bU1 bU2 bU3 t1 t2 t3
    refine wpAnyH_ready (rs := [30]) (by kernel_rfl) (by simp) ?_
    refine AllReadyH.cons (o := _) rfl (fun K1 hK => ?_) AllReadyH.nil
    have HK := Lib.hid hK
    clear hK
    have c0 := cell_at h27 0 rfl; have c1 := cell_at h27 1 rfl; have c2 := cell_at h27 2 rfl; have c3 := cell_at h27 3 rfl; have c4 := cell_at h27 4 rfl; have c5 := cell_at h27 5 rfl
    have hfz : ∀ q, V798.frozen? ⟨Wd.heap.size, q, none⟩ = false := fun q => (show FreeB V798 _ from ⟨_, _, h27⟩).free q
    go_simp
    refine HK.out _ _ kk1 (fun _ => ?_)
    try simp only [Act.put, List.getElem_toArray, List.getElem_cons_zero, List.getElem_cons_succ, List.setIfInBounds_toArray, List.set_cons_zero, List.set_cons_succ]
    clear HK K1 c0 c1 c2 c3 c4 c5 hfz
    refine wpAnyH_ready (rs := [31]) (by kernel_rfl) (by simp) ?_
    refine AllReadyH.cons (o := _) rfl (fun K1 hK => ?_) AllReadyH.nil
    have HK := Lib.hid hK
    clear hK
    have c0 := cell_at h28b 0 rfl; have c1 := cell_at h28b 1 rfl; have c2 := cell_at h28b 2 rfl; have c3 := cell_at h28b 3 rfl; have c4 := cell_at h28b 4 rfl; have c5 := cell_at h28b 5 rfl
    have hfz : ∀ q, U1.frozen? ⟨V79.heap.size, q, none⟩ = false := fun q => (show FreeB U1 _ from ⟨_, _, h28b⟩).free q
    go_simp
    refine HK.out _ _ kk2 (fun _ => ?_)
    try simp only [Act.put, List.getElem_toArray, List.getElem_cons_zero, List.getElem_cons_succ, List.setIfInBounds_toArray, List.set_cons_zero, List.set_cons_succ]
    clear HK K1 c0 c1 c2 c3 c4 c5 hfz
    refine wpAnyH_ready (rs := [32]) (by kernel_rfl) (by simp) ?_
    refine AllReadyH.cons (o := _) rfl (fun K1 hK => ?_) AllReadyH.nil
    have HK := Lib.hid hK
    clear hK
    have c0 := cell_at h29b 0 rfl; have c1 := cell_at h29b 1 rfl; have c2 := cell_at h29b 2 rfl; have c3 := cell_at h29b 3 rfl; have c4 := cell_at h29b 4 rfl; have c5 := cell_at h29b 5 rfl
    have hfz : ∀ q, U2.frozen? ⟨V7.heap.size, q, none⟩ = false := fun q => (show FreeB U2 _ from ⟨_, _, h29b⟩).free q
    go_simp
    refine HK.out _ _ kk3 (fun _ => ?_)
    try simp only [Act.put, List.getElem_toArray, List.getElem_cons_zero, List.getElem_cons_succ, List.setIfInBounds_toArray, List.set_cons_zero, List.set_cons_succ]
    clear HK K1 c0 c1 c2 c3 c4 c5 hfz
    refine wpAnyH_done (by kernel_rfl) ?_ _
    exact hfin.out _ _ _ _ _ _ _ _ _ _ _ _ _ _ _ _ _ _ _ _ _ _ _ _ _ _ _ _ _ _ _ _ _ _ _ _ _ _ _ _ _ _ _ _ _ _ _ _ _ _ _ _ _ _ _ _ _ _ _ _ _ _ _ _ _ _ _ _ _ _ _ _ _ _ _ _ _ _ _ _ _ _ _ _ _ _ _ _ _ _ _ _ _ _ _ _ _ _ _ _ _ _ _ _ _ _ _ _ _ _ _ _ _ _ _ _ _ _ _ _ _ _ _ _ _ _ _ _ _ _ _ _ _ _ _ _ _ _ _ _ _ _ _ _ _ _ _ _ _ _ _ _ _ _ _ _ _ _ _ _ _ _ _ _ _ _ _ _ _ _ _ _ _ _ _ _ _ _ _ _ _ _ _ _ _ _ _ _ _ _ _ _ _ _ _ _ _ _ _ _ _ _ _ _ _ _ _ _ _ _ _ _ _ _ _ _ _ _ _ _ _ _ _ _ _ _ _ _ _ _ _ _ _ _ _ _ _ _ _ _ _ _ _ _ _ _ _ _ _ _ _ _ _ _ _ _ _ _ _ _ _ _ _ _ _ _ _ _ _ _ _ _ _ _ _
 ·obtain ⟨V8, xV8, gV8, bV8, sV8⟩ := mk_cells Wd #[.int .i64 0, .int .i64 0, sv [], .int .i64 0, .slice none 0 0, .slice none 0 0] 78
  have bbV8 := thenB bz bV8
  have HK := Lib.hid hK
  have GV8 := Lib.hid gV8; have SV8 := Lib.hid sV8
  clear hK gV8 sV8
  go_simp
  refine HK.out _ _ bbV8 (fun _ => ?_)
  try simp only [Act.put, List.getElem_toArray, List.getElem_cons_zero, List.getElem_cons_succ, List.setIfInBounds_toArray, List.set_cons_zero, List.set_cons_succ]
  clear HK K1
  refine wpAnyH_ready (rs := [27, 29]) (by kernel_rfl) (by simp) ?_
  refine AllReadyH.cons (o := _) rfl (fun K1 hK => ?_) (AllReadyH.cons (o := _) rfl (fun K1 hK => ?_) AllReadyH.nil)
  ·obtain ⟨V87, xV87, gV87, bV87, sV87⟩ := mk_cells V8 #[.int .i64 0, .int .i64 0, sv [], .int .i64 0, .slice none 0 0, .slice none 0 0] 78
   have bbV87 := thenB bbV8 bV87
   have HK := Lib.hid hK
   have GV87 := Lib.hid gV87; have SV87 := Lib.hid sV87
   clear hK gV87 sV87
   go_simp
   refine HK.out _ _ bbV87 (fun _ => ?_)
   try simp only [Act.put, List.getElem_toArray, List.getElem_cons_zero, List.getElem_cons_succ, List.setIfInBounds_toArray, List.set_cons_zero, List.set_cons_succ]
   clear HK K1
   refine wpAnyH_ready (rs := [29]) (by kernel_rfl) (by simp) ?_
   refine AllReadyH.cons (o := _) rfl (fun K1 hK => ?_) AllReadyH.nil
   ·obtain ⟨V879, xV879, gV879, bV879, sV879⟩ := mk_cells V87 #[.int .i64 0, .int .i64 0, sv [], .int .i64 0, .slice none 0 0, .slice none 0 0] 78
    have bbV879 := thenB bbV87 bV879
    have HK := Lib.hid hK
    have GV879 := Lib.hid gV879; have SV879 := Lib.hid sV879
    clear hK gV879 sV879
    go_simp
    refine HK.out _ _ bbV879 (fun _ => ?_)
    try simp only [Act.put, List.getElem_toArray, List.getElem_cons_zero, List.getElem_cons_succ, List.setIfInBounds_toArray, List.set_cons_zero, List.set_cons_succ]
    clear HK K1
    have h29 : V879.heap[V87.heap.size]? = some (.cells #[.int .i64 0, .int .i64 0, sv [], .int .i64 0, .slice none 0 0, .slice none 0 0] 78 (0, 0)) := GV879.out
    have z1 := (Array.getElem?_eq_some_iff.1 GV8.out).1
    have z2 := (Array.getElem?_eq_some_iff.1 GV87.out).1
    have z3 := (Array.getElem?_eq_some_iff.1 GV879.out).1
    have y1 := SV8.out; have y2 := SV87.out; have y3 := SV879.out
    have h28 := keepO (thenB bV87 bV879) GV8.out
    have h27 := keepO bV879 GV87.out
    obtain ⟨U1, x1, g1, o1, bU1, t1⟩ := set6 h27 rfl (.int .i64 4) (.int .i64 0) (sv [99]) (.int .i64 1) (.slice n1 0 k1) (.slice n2 0 k2)
    have h28b := (o1 _ (by omega)).trans h28
    obtain ⟨U2, x2, g2, o2, bU2, t2⟩ := set6 h28b rfl (.int .i64 1) (.int .i64 0) (sv []) (.int .i64 0) (.slice n3 0 k3) (.slice (some ⟨M0, m0, none⟩) 2 cm0)
    have h29b := (o2 _ (by omega)).trans ((o1 _ (by omega)).trans h29)
    obtain ⟨U3, x3, g3, o3, bU3, t3⟩ := set6 h29b rfl (.int .i64 1) (.int .i64 0) (sv []) (.int .i64 0) (.slice n4 0 k4) (.slice (some ⟨M1, m1, none⟩) 1 cm1)
    have wz := bz.size
    have kk1 := bU1 _ _ bbV879 (by omega)
    have kk2 := bU2 _ _ kk1 (by omega)
    have kk3 := bU3 _ _ kk2 (by omega)
    have hfin := Lib.hid (HK0.out U3 (V8.heap.size) (Wd.heap.size) (V87.heap.size) F f I0 i0 I1 i1 M0 m0 I2 i2 M1 m1 D d n1 n2 n3 n4 c0 c1 c2 cm0 cm1 k1 k2 k3 k4 kk3 (SX.below hX kk3) HD0.out ⟨hS.below kk3, (o3 _ (by omega)).trans ((o2 _ (by omega)).trans g1), (o3 _ (by omega)).trans g2, g3⟩)
    clear y1 y2 y3 z1 z2 z3 wz g1 g2 g3 o1 o2 o3 bU1 bU2 bU3 t1 t2 t3
    refine wpAnyH_ready (rs := [30]) (by kernel_rfl) (by simp) ?_
    refine AllReadyH.cons (o := _) rfl (fun K1 hK => ?_) AllReadyH.nil
    have HK := Lib.hid hK
    clear hK
    have c0 := cell_at h27 0 rfl; have c1 := cell_at h27 1 rfl; have c2 := cell_at h27 2 rfl; have c3 := cell_at h27 3 rfl; have c4 := cell_at h27 4 rfl; have c5 := cell_at h27 5 rfl
    have hfz : ∀ q, V879.frozen? ⟨V8.heap.size, q, none⟩ = false := fun q => (show FreeB V879 _ from ⟨_, _, h27⟩).free q
    go_simp
    refine HK.out _ _ kk1 (fun _ => ?_)
    try simp only [Act.put, List.getElem_toArray, List.getElem_cons_zero, List.getElem_cons_succ, List.setIfInBounds_toArray, List.set_cons_zero, List.set_cons_succ]
    clear HK K1 c0 c1 c2 c3 c4 c5 hfz
    refine wpAnyH_ready (rs := [31]) (by kernel_rfl) (by simp) ?_
    refine AllReadyH.cons (o := _) rfl (fun K1 hK => ?_) AllReadyH.nil
    have HK := Lib.hid hK
    clear hK
    have c0 := cell_at h28b 0 rfl; have c1 := cell_at h28b 1 rfl; have c2 := cell_at h28b 2 rfl; have c3 := cell_at h28b 3 rfl; have c4 := cell_at h28b 4 rfl; have c5 := cell_at h28b 5 rfl
    have hfz : ∀ q, U1.frozen? ⟨Wd.heap.size, q, none⟩ = false := fun q => (show FreeB U1 _ from ⟨_, _, h28b⟩).free q
    go_simp
    refine HK.out _ _ kk2 (fun _ => ?_)
    try simp only [Act.put, List.getElem_toArray, List.getElem_cons_zero, List.getElem_cons_succ, List.setIfInBounds_toArray, List.set_cons_zero, List.set_cons_succ]
    clear HK K1 c0 c1 c2 c3 c4 c5 hfz
    refine wpAnyH_ready (rs := [32]) (by kernel_rfl) (by simp) ?_
    refine AllReadyH.cons (o := _) rfl (fun K1 hK => ?_) AllReadyH.nil
    have HK := Lib.hid hK
    clear hK
    have c0 := cell_at h29b 0 rfl; have c1 := cell_at h29b 1 rfl; have c2 := cell_at h29b 2 rfl; have c3 := cell_at h29b 3 rfl; have c4 := cell_at h29b 4 rfl; have c5 := cell_at h29b 5 rfl
    have hfz : ∀ q, U2.frozen? ⟨V87.heap.size, q, none⟩ = false := fun q => (show FreeB U2 _ from ⟨_, _, h29b⟩).free q
    go_simp
    refine HK.out _ _ kk3 (fun _ => ?_)
    try simp only [Act.put, List.getElem_toArray, List.getElem_cons_zero, List.getElem_cons_succ, List.setIfInBounds_toArray, List.set_cons_zero, List.set_cons_succ]
    clear HK K1 c0 c1 c2 c3 c4 c5 hfz
    refine wpAnyH_done (by kernel_rfl) ?_ _
    exact hfin.out _ _ _ _ _ _ _ _ _ _ _ _ _ _ _ _ _ _ _ _ _ _ _ _ _ _ _ _ _ _ _ _ _ _ _ _ _ _ _ _ _ _ _ _ _ _ _ _ _ _ _ _ _ _ _ _ _ _ _ _ _ _ _ _ _ _ _ _ _ _ _ _ _ _ _ _ _ _ _ _ _ _ _ _ _ _ _ _ _ _ _ _ _ _ _ _ _ _ _ _ _ _ _ _ _ _ _ _ _ _ _ _ _ _ _ _ _ _ _ _ _ _ _ _ _ _ _ _ _ _ _ _ _ _ _ _ _ _ _ _ _ _ _ _ _ _ _ _ _ _ _ _ _ _ _ _ _ _ _ _ _ _ _ _ _ _ _ _ _ _ _ _ _ _ _ _ _ _ _ _ _ _ _ _ _ _ _ _ _ _ _ _ _ _ _ _ _ _ _ _ _ _ _ _ _ _ _ _ _ _ _ _ _ _ _ _ _ _ _ _ _ _ _ _ _ _ _ _ _ _ _ _ _ _ _ _ _ _ _ _ _ _ _ _ _ _ _ _ _ _ _ _ _ _ _ _ _ _ _ _ _ _ _ _ _ _ _ _ _ _ _ _ _ _ _
  ·obtain ⟨V89, xV89, gV89, bV89, sV89⟩ := mk_cells V8 #[.int .i64 0, .int .i64 0, sv [], .int .i64 0, .slice none 0 0, .slice none 0 0] 78
   have bbV89 := thenB bbV8 bV89
   have HK := Lib.hid hK
   have GV89 := Lib.hid gV89; have SV89 := Lib.hid sV89
   clear hK gV89 sV89
   go_simp
   refine HK.out _ _ bbV89 (fun _ => ?_)
   try simp only [Act.put, List.getElem_toArray, List.getElem_cons_zero, List.getElem_cons_succ, List.setIfInBounds_toArray, List.set_cons_zero, List.set_cons_succ]
   clear HK K1
   refine wpAnyH_ready (rs := [27]) (by kernel_rfl) (by simp) ?_
   refine AllReadyH.cons (o := _) rfl (fun K1 hK => ?_) AllReadyH.nil
   ·obtain ⟨V897, xV897, gV897, bV897, sV897⟩ := mk_cells V89 #[.int .i64 0, .int .i64 0, sv [], .int .i64 0, .slice none 0 0, .slice none 0 0] 78
    have bbV897 := thenB bbV89 bV897
    have HK := Lib.hid hK
    have GV897 := Lib.hid gV897; have SV897 := Lib.hid sV897
    clear hK gV897 sV897
    go_simp
    refine HK.out _ _ bbV897 (fun _ => ?_)
    try simp only [Act.put, List.getElem_toArray, List.getElem_cons_zero, List.getElem_cons_succ, List.setIfInBounds_toArray, List.set_cons_zero, List.set_cons_succ]
    clear HK K1
    have h27 : V897.heap[V89.heap.size]? = some (.cells #[.int .i64 0, .int .i64 0, sv [], .int .i64 0, .slice none 0 0, .slice none 0 0] 78 (0, 0)) := GV897.out
    have z1 := (Array.getElem?_eq_some_iff.1 GV8.out).1
    have z2 := (Array.getElem?_eq_some_iff.1 GV89.out).1
    have z3 := (Array.getElem?_eq_some_iff.1 GV897.out).1
    have y1 := SV8.out; have y2 := SV89.out; have y3 := SV897.out
    have h28 := keepO (thenB bV89 bV897) GV8.out
    have h29 := keepO bV897 GV89.out
    obtain ⟨U1, x1, g1, o1, bU1, t1⟩ := set6 h27 rfl (.int .i64 4) (.int .i64 0) (sv [99]) (.int .i64 1) (.slice n1 0 k1) (.slice n2 0 k2)
    have h28b := (o1 _ (by omega)).trans h28
    obtain ⟨U2, x2, g2, o2, bU2, t2⟩ := set6 h28b rfl (.int .i64 1) (.int .i64 0) (sv []) (.int .i64 0) (.slice n3 0 k3) (.slice (some ⟨M0, m0, none⟩) 2 cm0)
    have h29b := (o2 _ (by omega)).trans ((o1 _ (by omega)).trans h29)
    obtain ⟨U3, x3, g3, o3, bU3, t3⟩ := set6 h29b rfl (.int .i64 1) (.int .i64 0) (sv []) (.int .i64 0) (.slice n4 0 k4) (.slice (some ⟨M1, m1, none⟩) 1 cm1)
    have wz := bz.size
    have kk1 := bU1 _ _ bbV897 (by omega)
    have kk2 := bU2 _ _ kk1 (by omega)
    have kk3 := bU3 _ _ kk2 (by omega)
    have hfin := Lib.hid (HK0.out U3 (V89.heap.size) (Wd.heap.size) (V8.heap.size) F f I0 i0 I1 i1 M0 m0 I2 i2 M1 m1 D d n1 n2 n3 n4 c0 c1 c2 cm0 cm1 k1 k2 k3 k4 kk3 (SX.below hX kk3) HD0.out ⟨hS.below kk3, (o3 _ (by omega)).trans ((o2 _ (by omega)).trans g1), (o3 _ (by omega)).trans g2, g3⟩)
    clear y1 y2 y3 z1 z2 z3 wz g1 g2 g3 o1 o2 o3 bU1 bU2 bU3 t1 t2 t3
    refine wpAnyH_ready (rs := [30]) (by kernel_rfl) (by simp) ?_
    refine AllReadyH.cons (o := _) rfl (fun K1 hK => ?_) AllReadyH.nil
    have HK := Lib.hid hK
    clear hK
    have c0 := cell_at h27 0 rfl; have c1 := cell_at h27 1 rfl; have c2 := cell_at h27 2 rfl; have c3 := cell_at h27 3 rfl; have c4 := cell_at h27 4 rfl; have c5 := cell_at h27 5 rfl
    have hfz : ∀ q, V897.frozen? ⟨V89.heap.size, q, none⟩ = false := fun q => (show FreeB V897 _ from ⟨_, _, h27⟩).free q
    go_simp
    refine HK.out _ _ kk1 (fun _ => ?_)
    try simp only [Act.put, List.getElem_toArray, List.getElem_cons_zero, List.getElem_cons_succ, List.setIfInBounds_toArray, List.set_cons_zero, List.set_cons_succ]
    clear HK K1 c0 c1 c2 c3 c4 c5 hfz
    refine wpAnyH_ready (rs := [31]) (by kernel_rfl) (by simp) ?_
    refine AllReadyH.cons (o := _) rfl (fun K1 hK => ?_) AllReadyH.nil
    have HK := Lib.hid hK
    clear hK
    have c0 := cell_at h28b 0 rfl; have c1 := cell_at h28b 1 rfl; have c2 := cell_at h28b 2 rfl; have c3 := cell_at h28b 3 rfl; have c4 := cell_at h28b 4 rfl; have c5 := cell_at h28b 5 rfl
    have hfz : ∀ q, U1.frozen? ⟨Wd.heap.size, q, none⟩ = false := fun q => (show FreeB U1 _ from ⟨_, _, h28b⟩).free q
    go_simp
    refine HK.out _ _ kk2 (fun _ => ?_)
    try simp only [Act.put, List.getElem_toArray, List.getElem_cons_zero, List.getElem_cons_succ, List.setIfInBounds_toArray, List.set_cons_zero, List.set_cons_succ]
    clear HK K1 c0 c1 c2 c3 c4 c5 hfz
    refine wpAnyH_ready (rs := [32]) (by kernel_rfl) (by simp) ?_
    refine AllReadyH.cons (o := _) rfl (fun K1 hK => ?_) AllReadyH.nil
    have HK := Lib.hid hK
    clear hK
    have c0 := cell_at h29b 0 rfl; have c1 := cell_at h29b 1 rfl; have c2 := cell_at h29b 2 rfl; have c3 := cell_at h29b 3 rfl; have c4 := cell_at h29b 4 rfl; have c5 := cell_at h29b 5 rfl
    have hfz : ∀ q, U2.frozen? ⟨V8.heap.size, q, none⟩ = false := fun q => (show FreeB U2 _ from ⟨_, _, h29b⟩).free q
    go_simp
    refine HK.out _ _ kk3 (fun _ => ?_)
    try simp only [Act.put, List.getElem_toArray, List.getElem_cons_zero, List.getElem_cons_succ, List.setIfInBounds_toArray, List.set_cons_zero, List.set_cons_succ]
    clear HK K1 c0 c1 c2 c3 c4 c5 hfz
    refine wpAnyH_done (by kernel_rfl) ?_ _
    exact hfin.out _ _ _ _ _ _ _ _ _ _ _ _ _ _ _ _ _ _ _ _ _ _ _ _ _ _ _ _ _ _ _ _ _ _ _ _ _ _ _ _ _ _ _ _ _ _ _ _ _ _ _ _ _ _ _ _ _ _ _ _ _ _ _ _ _ _ _ _ _ _ _ _ _ _ _ _ _ _ _ _ _ _ _ _ _ _ _ _ _ _ _ _ _ _ _ _ _ _ _ _ _ _ _ _ _ _ _ _ _ _ _ _ _ _ _ _ _ _ _ _ _ _ _ _ _ _ _ _ _ _ _ _ _ _ _ _ _ _ _ _ _ _ _ _ _ _ _ _ _ _ _ _ _ _ _ _ _ _ _ _ _ _ _ _ _ _ _ _ _ _ _ _ _ _ _ _ _ _ _ _ _ _ _ _ _ _ _ _ _ _ _ _ _ _ _ _ _ _ _ _ _ _ _ _ _ _ _ _ _ _ _ _ _ _ _ _ _ _ _ _ _ _ _ _ _ _ _ _ _ _ _ _ _ _ _ _ _ _ _ _ _ _ _ _ _ _ _ _ _ _ _ _ _ _ _ _ _ _ _ _ _ _ _ _ _ _ _ _ _ _ _ _ _ _ _
 ·obtain ⟨V9, xV9, gV9, bV9, sV9⟩ := mk_cells Wd #[.int .i64 0, .int .i64 0, sv [], .int .i64 0, .slice none 0 0, .slice none 0 0] 78
  have bbV9 := thenB bz bV9
  have HK := Lib.hid hK
  have GV9 := Lib.hid gV9; have SV9 := Lib.hid sV9
  clear hK gV9 sV9
  go_simp
  refine HK.out _ _ bbV9 (fun _ => ?_)
  try simp only [Act.put, List.getElem_toArray, List.getElem_cons_zero, List.getElem_cons_succ, List.setIfInBounds_toArray, List.set_cons_zero, List.set_cons_succ]
  clear HK K1
  refine wpAnyH_ready (rs := [27, 28]) (by kernel_rfl) (by simp) ?_
  refine AllReadyH.cons (o := _) rfl (fun K1 hK => ?_) (AllReadyH.cons (o := _) rfl (fun K1 hK => ?_) AllReadyH.nil)
  ·obtain ⟨V97, xV97, gV97, bV97, sV97⟩ := mk_cells V9 #[.int .i64 0, .int .i64 0, sv [], .int .i64 0, .slice none 0 0, .slice none 0 0] 78
   have bbV97 := thenB bbV9 bV97
   have HK := Lib.hid hK
   have GV97 := Lib.hid gV97; have SV97 := Lib.hid sV97
   clear hK gV97 sV97
   go_simp
   refine HK.out _ _ bbV97 (fun _ => ?_)
   try simp only [Act.put, List.getElem_toArray, List.getElem_cons_zero, List.getElem_cons_succ, List.setIfInBounds_toArray, List.set_cons_zero, List.set_cons_succ]
   clear HK K1
   refine wpAnyH_ready (rs := [28]) (by kernel_rfl) (by simp) ?_
   refine AllReadyH.cons (o := _) rfl (fun K1 hK => ?_) AllReadyH.nil
   ·obtain ⟨V978, xV978, gV978, bV978, sV978⟩ := mk_cells V97 #[.int .i64 0, .int .i64 0, sv [], .int .i64 0, .slice none 0 0, .slice none 0 0] 78
    have bbV978 := thenB bbV97 bV978
    have HK := Lib.hid hK
    have GV978 := Lib.hid gV978; have SV978 := Lib.hid sV978
    clear hK gV978 sV978
    go_simp
    refine HK.out _ _ bbV978 (fun _ => ?_)
    try simp only [Act.put, List.getElem_toArray, List.getElem_cons_zero, List.getElem_cons_succ, List.setIfInBounds_toArray, List.set_cons_zero, List.set_cons_succ]
    clear HK K1
    have h28 : V978.heap[V97.heap.size]? = some (.cells #[.int .i64 0, .int .i64 0, sv [], .int .i64 0, .slice none 0 0, .slice none 0 0] 78 (0, 0)) := GV978.out
    have z1 := (Array.getElem?_eq_some_iff.1 GV9.out).1
    have z2 := (Array.getElem?_eq_some_iff.1 GV97.out).1
    have z3 := (Array.getElem?_eq_some_iff.1 GV978.out).1
    have y1 := SV9.out; have y2 := SV97.out; have y3 := SV978.out
    have h29 := keepO (thenB bV97 bV978) GV9.out
    have h27 := keepO bV978 GV97.out
    obtain ⟨U1, x1, g1, o1, bU1, t1⟩ := set6 h27 rfl (.int .i64 4) (.int .i64 0) (sv [99]) (.int .i64 1) (.slice n1 0 k1) (.slice n2 0 k2)
    have h28b := (o1 _ (by omega)).trans h28
    obtain ⟨U2, x2, g2, o2, bU2, t2⟩ := set6 h28b rfl (.int .i64 1) (.int .i64 0) (sv []) (.int .i64 0) (.slice n3 0 k3) (.slice (some ⟨M0, m0, none⟩) 2 cm0)
    have h29b := (o2 _ (by omega)).trans ((o1 _ (by omega)).trans h29)
    obtain ⟨U3, x3, g3, o3, bU3, t3⟩ := set6 h29b rfl (.int .i64 1) (.int .i64 0) (sv []) (.int .i64 0) (.slice n4 0 k4) (.slice (some ⟨M1, m1, none⟩) 1 cm1)
    have wz := bz.size
    have kk1 := bU1 _ _ bbV978 (by omega)
    have kk2 := bU2 _ _ kk1 (by omega)
    have kk3 := bU3 _ _ kk2 (by omega)
    have hfin := Lib.hid (HK0.out U3 (V9.heap.size) (V97.heap.size) (Wd.heap.size) F f I0 i0 I1 i1 M0 m0 I2 i2 M1 m1 D d n1 n2 n3 n4 c0 c1 c2 cm0 cm1 k1 k2 k3 k4 kk3 (SX.below hX kk3) HD0.out ⟨hS.below kk3, (o3 _ (by omega)).trans ((o2 _ (by omega)).trans g1), (o3 _ (by omega)).trans g2, g3⟩)
    clear y1 y2 y3 z1 z2 z3 wz g1 g2 g3 o1 o2 o3 bU1 bU2 bU3 t1 t2 t3
    refine wpAnyH_ready (rs := [30]) (by kernel_rfl) (by simp) ?_
    refine AllReadyH.cons (o := _) rfl (fun K1 hK => ?_) AllReadyH.nil
    have HK := Lib.hid hK
    clear hK
    have c0 := cell_at h27 0 rfl; have c1 := cell_at h27 1 rfl; have c2 := cell_at h27 2 rfl; have c3 := cell_at h27 3 rfl; have c4 := cell_at h27 4 rfl; have c5 := cell_at h27 5 rfl
    have hfz : ∀ q, V978.frozen? ⟨V9.heap.size, q, none⟩ = false := fun q => (show FreeB V978 _ from ⟨_, _, h27⟩).free q
    go_simp
    refine HK.out _ _ kk1 (fun _ => ?_)
    try simp only [Act.put, List.getElem_toArray, List.getElem_cons_zero, List.getElem_cons_succ, List.setIfInBounds_toArray, List.set_cons_zero, List.set_cons_succ]
    clear HK K1 c0 c1 c2 c3 c4 c5 hfz
    refine wpAnyH_ready (rs := [31]) (by kernel_rfl) (by simp) ?_
    refine AllReadyH.cons (o := _) rfl (fun K1 hK => ?_) AllReadyH.nil
    have HK := Lib.hid hK
    clear hK
    have c0 := cell_at h28b 0 rfl; have c1 := cell_at h28b 1 rfl; have c2 := cell_at h28b 2 rfl; have c3 := cell_at h28b 3 rfl; have c4 := cell_at h28b 4 rfl; have c5 := cell_at h28b 5 rfl
    have hfz : ∀ q, U1.frozen? ⟨V97.heap.size, q, none⟩ = false := fun q => (show FreeB U1 _ from ⟨_, _, h28b⟩).free q
    go_simp
    refine HK.out _ _ kk2 (fun _ => ?_)
    try simp only [Act.put, List.getElem_toArray, List.getElem_cons_zero, List.getElem_cons_succ, List.setIfInBounds_toArray, List.set_cons_zero, List.set_cons_succ]
    clear HK K1 c0 c1 c2 c3 c4 c5 hfz
    refine wpAnyH_ready (rs := [32]) (by kernel_rfl) (by simp) ?_
    refine AllReadyH.cons (o := _) rfl (fun K1 hK => ?_) AllReadyH.nil
    have HK := Lib.hid hK
    clear hK
    have c0 := cell_at h29b 0 rfl; have c1 := cell_at h29b 1 rfl; have c2 := cell_at h29b 2 rfl; have c3 := cell_at h29b 3 rfl; have c4 := cell_at h29b 4 rfl; have c5 := cell_at h29b 5 rfl
    have hfz : ∀ q, U2.frozen? ⟨Wd.heap.size, q, none⟩ = false := fun q => (show FreeB U2 _ from ⟨_, _, h29b⟩).free q
    go_simp
    refine HK.out _ _ kk3 (fun _ => ?_)
    try simp only [Act.put, List.getElem_toArray, List.getElem_cons_zero, List.getElem_cons_succ, List.setIfInBounds_toArray, List.set_cons_zero, List.set_cons_succ]
    clear HK K1 c0 c1 c2 c3 c4 c5 hfz
    refine wpAnyH_done (by kernel_rfl) ?_ _
    exact hfin.out _ _ _ _ _ _ _ _ _ _ _ _ _ _ _ _ _ _ _ _ _ _ _ _ _ _ _ _ _ _ _ _ _ _ _ _ _ _ _ _ _ _ _ _ _ _ _ _ _ _ _ _ _ _ _ _ _ _ _ _ _ _ _ _ _ _ _ _ _ _ _ _ _ _ _ _ _ _ _ _ _ _ _ _ _ _ _ _ _ _ _ _ _ _ _ _ _ _ _ _ _ _ _ _ _ _ _ _ _ _ _ _ _ _ _ _ _ _ _ _ _ _ _ _ _ _ _ _ _ _ _ _ _ _ _ _ _ _ _ _ _ _ _ _ _ _ _ _ _ _ _ _ _ _ _ _ _ _ _ _ _ _ _ _ _ _ _ _ _ _ _ _ _ _ _ _ _ _ _ _ _ _ _ _ _ _ _ _ _ _ _ _ _ _ _ _ _ _ _ _ _ _ _ _ _ _ _ _ _ _ _ _ _ _ _ _ _ _ _ _ _ _ _ _ _ _ _ _ _ _ _ _ _ _ _ _ _ _ _ _ _ _ _ _ _ _ _ _ _ _ _ _ _ _ _ _ _ _ _ _ _ _ _ _ _ _ _ _ _ _ _ _ _ _ _
  ·obtain ⟨V98, xV98, gV98, bV98, sV98⟩ := mk_cells V9 #[.int .i64 0, .int .i64 0, sv [], .int .i64 0, .slice none 0 0, .slice none 0 0] 78
   have bbV98 := thenB bbV9 bV98
   have HK := Lib.hid hK
   have GV98 := Lib.hid gV98; have SV98 := Lib.hid sV98
   clear hK gV98 sV98
   go_simp
   refine HK.out _ _ bbV98 (fun _ => ?_)
   try simp only [Act.put, List.getElem_toArray, List.getElem_cons_zero, List.getElem_cons_succ, List.setIfInBounds_toArray, List.set_cons_zero, List.set_cons_succ]
   clear HK K1
   refine wpAnyH_ready (rs := [27]) (by kernel_rfl) (by simp) ?_
   refine AllReadyH.cons (o := _) rfl (fun K1 hK => ?_) AllReadyH.nil
   ·obtain ⟨V987, xV987, gV987, bV987, sV987⟩ := mk_cells V98 #[.int .i64 0, .int .i64 0, sv [], .int .i64 0, .slice none 0 0, .slice none 0 0] 78
    have bbV987 := thenB bbV98 bV987
    have HK := Lib.hid hK
    have GV987 := Lib.hid gV987; have SV987 := Lib.hid sV987
    clear hK gV987 sV987
    go_simp
    refine HK.out _ _ bbV987 (fun _ => ?_)
    try simp only [Act.put, List.getElem_toArray, List.getElem_cons_zero, List.getElem_cons_succ, List.setIfInBounds_toArray, List.set_cons_zero, List.set_cons_succ]
    clear HK K1
    have h27 : V987.heap[V98.heap.size]? = some (.cells #[.int .i64 0, .int .i64 0, sv [], .int .i64 0, .slice none 0 0, .slice none 0 0] 78 (0, 0)) := GV987.out
    have z1 := (Array.getElem?_eq_some_iff.1 GV9.out).1
    have z2 := (Array.getElem?_eq_some_iff.1 GV98.out).1
    have z3 := (Array.getElem?_eq_some_iff.1 GV987.out).1
    have y1 := SV9.out; have y2 := SV98.out; have y3 := SV987.out
    have h29 := keepO (thenB bV98 bV987) GV9.out
    have h28 := keepO bV987 GV98.out
    obtain ⟨U1, x1, g1, o1, bU1, t1⟩ := set6 h27 rfl (.int .i64 4) (.int .i64 0) (sv [99]) (.int .i64 1) (.slice n1 0 k1) (.slice n2 0 k2)
    have h28b := (o1 _ (by omega)).trans h28
    obtain ⟨U2, x2, g2, o2, bU2, t2⟩ := set6 h28b rfl (.int .i64 1) (.int .i64 0) (sv []) (.int .i64 0) (.slice n3 0 k3) (.slice (some ⟨M0, m0, none⟩) 2 cm0)
    have h29b := (o2 _ (by omega)).trans ((o1 _ (by omega)).trans h29)
    obtain ⟨U3, x3, g3, o3, bU3, t3⟩ := set6 h29b rfl (.int .i64 1) (.int .i64 0) (sv []) (.int .i64 0) (.slice n4 0 k4) (.slice (some ⟨M1, m1, none⟩) 1 cm1)
    have wz := bz.size
    have kk1 := bU1 _ _ bbV987 (by omega)
    have kk2 := bU2 _ _ kk1 (by omega)
    have kk3 := bU3 _ _ kk2 (by omega)
    have hfin := Lib.hid (HK0.out U3 (V98.heap.size) (V9.heap.size) (Wd.heap.size) F f I0 i0 I1 i1 M0 m0 I2 i2 M1 m1 D d n1 n2 n3 n4 c0 c1 c2 cm0 cm1 k1 k2 k3 k4 kk3 (SX.below hX kk3) HD0.out ⟨hS.below kk3, (o3 _ (by omega)).trans ((o2 _ (by omega)).trans g1), (o3 _ (by omega)).trans g2, g3⟩)
    clear y1 y2 y3 z1 z2 z3 wz g1 g2 g3 o1 o2 o3 bU1 bU2 bU3 t1 t2 t3
    refine wpAnyH_ready (rs := [30]) (by kernel_rfl) (by simp) ?_
    refine AllReadyH.cons (o := _) rfl (fun K1 hK => ?_) AllReadyH.nil
    have HK := Lib.hid hK
    clear hK
    have c0 := cell_at h27 0 rfl; have c1 := cell_at h27 1 rfl; have c2 := cell_at h27 2 rfl; have c3 := cell_at h27 3 rfl; have c4 := cell_at h27 4 rfl; have c5 := cell_at h27 5 rfl
    have hfz : ∀ q, V987.frozen? ⟨V98.heap.size, q, none⟩ = false := fun q => (show FreeB V987 _ from ⟨_, _, h27⟩).free q
    go_simp
    refine HK.out _ _ kk1 (fun _ => ?_)
    try simp only [Act.put, List.getElem_toArray, List.getElem_cons_zero, List.getElem_cons_succ, List.setIfInBounds_toArray, List.set_cons_zero, List.set_cons_succ]
    clear HK K1 c0 c1 c2 c3 c4 c5 hfz
    refine wpAnyH_ready (rs := [31]) (by kernel_rfl) (by simp) ?_
    refine AllReadyH.cons (o := _) rfl (fun K1 hK => ?_) AllReadyH.nil
    have HK := Lib.hid hK
    clear hK
    have c0 := cell_at h28b 0 rfl; have c1 := cell_at h28b 1 rfl; have c2 := cell_at h28b 2 rfl; have c3 := cell_at h28b 3 rfl; have c4 := cell_at h28b 4 rfl; have c5 := cell_at h28b 5 rfl
    have hfz : ∀ q, U1.frozen? ⟨V9.heap.size, q, none⟩ = false := fun q => (show FreeB U1 _ from ⟨_, _, h28b⟩).free q
    go_simp
    refine HK.out _ _ kk2 (fun _ => ?_)
    try simp only [Act.put, List.getElem_toArray, List.getElem_cons_zero, List.getElem_cons_succ, List.setIfInBounds_toArray, List.set_cons_zero, List.set_cons_succ]
    clear HK K1 c0 c1 c2 c3 c4 c5 hfz
    refine wpAnyH_ready (rs := [32]) (by kernel_rfl) (by simp) ?_
    refine AllReadyH.cons (o := _) rfl (fun K1 hK => ?_) AllReadyH.nil
    have HK := Lib.hid hK
    clear hK
    have c0 := cell_at h29b 0 rfl; have c1 := cell_at h29b 1 rfl; have c2 := cell_at h29b 2 rfl; have c3 := cell_at h29b 3 rfl; have c4 := cell_at h29b 4 rfl; have c5 := cell_at h29b 5 rfl
    have hfz : ∀ q, U2.frozen? ⟨Wd.heap.size, q, none⟩ = false := fun q => (show FreeB U2 _ from ⟨_, _, h29b⟩).free q
    go_simp
    refine HK.out _ _ kk3 (fun _ => ?_)
    try simp only [Act.put, List.getElem_toArray, List.getElem_cons_zero, List.getElem_cons_succ, List.setIfInBounds_toArray, List.set_cons_zero, List.set_cons_succ]
    clear HK K1 c0 c1 c2 c3 c4 c5 hfz
    refine wpAnyH_done (by kernel_rfl) ?_ _
    exact hfin.out _ _ _ _ _ _ _ _ _ _ _ _ _ _ _ _ _ _ _ _ _ _ _ _ _ _ _ _ _ _ _ _ _ _ _ _ _ _ _ _ _ _ _ _ _ _ _ _ _ _ _ _ _ _ _ _ _ _ _ _ _ _ _ _ _ _ _ _ _ _ _ _ _ _ _ _ _ _ _ _ _ _ _ _ _ _ _ _ _ _ _ _ _ _ _ _ _ _ _ _ _ _ _ _ _ _ _ _ _ _ _ _ _ _ _ _ _ _ _ _ _ _ _ _ _ _ _ _ _ _ _ _ _ _ _ _ _ _ _ _ _ _ _ _ _ _ _ _ _ _ _ _ _ _ _ _ _ _ _ _ _ _ _ _ _ _ _ _ _ _ _ _ _ _ _ _ _ _ _ _ _ _ _ _ _ _ _ _ _ _ _ _ _ _ _ _ _ _ _ _ _ _ _ _ _ _ _ _ _ _ _ _ _ _ _ _ _ _ _ _ _ _ _ _ _ _ _ _ _ _ _ _ _ _ _ _ _ _ _ _ _ _ _ _ _ _ _ _ _ _ _ _ _ _ _ _ _ _ _ _ _ _ _ _ _ _ _ _ _ _ _ _ _ _ _
end Go.Proofs.Ytpnbpepkoekkoaa
end
