/- Contracts and plain laws on the way to the statement: part 42. -/
import Derived.Test.YtggcbblikgankaaGreatDoorZ41
import Derived.Test.YtggcbblikgankaaGreatDoorZ5
import Derived.Maps.AppendAt
import Derived.BigQuiet
import Derived.OwnWalk
set_option linter.unusedVariables false
set_option linter.unusedSimpArgs false
section
namespace Go.Proofs.YtggcbblikgankaaGreatDoor
open Go Go.RowKit Go.Deep
theorem toK_len (n : Nat) (own : List Int) : ∀ k, (toK n own k).length = n
 | 0 => by simp [toK]
 | k + 1 => by rw [toK_succ]; unfold to1; split <;> simp [toK_len n own k]
def SolP (n m : Nat) (res : Option SolS) (w : World) (e : Ending) (w' : World) : Prop :=
 match res with
 | none => e = .returned (.tuple #[.slice none 0 0, .slice none 0 0, .slice none 0 0, .bool false]) ∧ Below w.heap.size w w'
 | some s => ∃ T U V, e = .returned (.tuple #[.slice (some ⟨T, 0, none⟩) n n, .slice (some ⟨U, 0, none⟩) n n, .slice (some ⟨V, 0, none⟩) m m, .bool true]) ∧ BI w' T s.to ∧ BI w' U s.u ∧ BI w' V s.v ∧ (w.heap.size ≤ T ∧ w.heap.size ≤ U ∧ w.heap.size ≤ V) ∧ Below w.heap.size w w'
set_option maxRecDepth 100000 in
set_option maxHeartbeats 8000000 in
theorem solve_end (w0 : World) (T U V O : Nat) (u v own : List Int) (n m : Nat) (hm0 : m ≤ 1000) (hol : own.length = m) (hlo : ∀ j, j < m → gi own j < n)
  (hne : T ≠ U ∧ T ≠ V ∧ T ≠ O) (hlo2 : w0.heap.size ≤ T ∧ w0.heap.size ≤ U ∧ w0.heap.size ≤ V)
  (w : World) (hb : Below w0.heap.size w0 w) (hT : BI w T (List.replicate n 0)) (hU : BI w U u) (hV : BI w V v) (hO : BI w O own) (e0 e1 e2 e3 e7 e9 e10 e11 e12 e13 e14 e15 e16 e17 e18 e19 e20 e21 e22 e23 e24 e25 e26 e27 e28 e29 e30 e31 e32 e33 e34 e35 e36 e37 e38 e39 e40 e41 e42 e43 e44 e45 e46 e47 e48 e49 e50 e51 e52 e53 e54 e55 e56 e57 e58 e59 e60 e61 e62 e63 e64 e65 e66 e67 e68 e69 e70 e71 e72 e73 e74 e75 e76 e77 e78 e79 e80 e81 e82 e83 e84 e85 e86 e87 e88 e89 e90 e91 e92 e93 e94 e95 e96 e97 e98 e99 e100 e101 e102 e103 e104 e105 e106 e107 e108 e109 e110 e111 e112 e113 e114 e115 e116 e117 e118 e119 e120 e121 e122 e123 e124 e125 e126 e127 e128 e129 e130 e131 e132 e133 e134 e135 e136 e137 e138 e139 e140 e141 e142 e143 e144 e145 e146 e147 e148 e149 e150 e151 e152 e153 e154 e155 e156 e157 e158 e159 e160 e161 e162 e163 e164 e165 e166 e167 e168 e169 e170 e171 e172 e173 e174 e175 e176 e177 e178 e179 e180 e181 e182 e183 e184 e185 e186 e187 e188 e189 e190 e191 e192 e193 e194 e195 e196 e197 e198 e199 e200 e201 e202 e203 e204 e205 e206 e207 e208 e209 e210 e211 : Value) :
  Code.wp Tryz.prog part65n4 (bodyPost Tryz.prog Tryz.f46 (SolP n m (some ⟨toK n own m, u, v⟩) w0)) { tmps := #[e0, e1, e2, e3, .slice (some ⟨T, 0, none⟩) n n, .slice (some ⟨U, 0, none⟩) n n, .slice (some ⟨V, 0, none⟩) m m, e7, .slice (some ⟨O, 0, none⟩) m m, e9, e10, e11, e12, e13, e14, e15, e16, e17, e18, e19, e20, e21, e22, e23, e24, e25, e26, e27, e28, e29, e30, e31, e32, e33, e34, e35, e36, e37, e38, e39, e40, e41, e42, e43, e44, e45, e46, e47, e48, e49, e50, e51, e52, e53, e54, e55, e56, e57, e58, e59, e60, e61, e62, e63, e64, e65, e66, e67, e68, e69, e70, e71, e72, e73, e74, e75, e76, e77, e78, e79, e80, e81, e82, e83, e84, e85, e86, e87, e88, e89, e90, e91, e92, e93, e94, e95, e96, e97, e98, e99, e100, e101, e102, e103, e104, e105, e106, e107, e108, e109, e110, e111, e112, e113, e114, e115, e116, e117, e118, e119, e120, e121, e122, e123, e124, e125, e126, e127, e128, e129, e130, e131, e132, e133, e134, e135, e136, e137, e138, e139, e140, e141, e142, e143, e144, e145, e146, e147, e148, e149, e150, e151, e152, e153, e154, e155, e156, e157, e158, e159, e160, e161, e162, e163, e164, e165, e166, e167, e168, e169, e170, e171, e172, e173, e174, e175, e176, e177, e178, e179, e180, e181, e182, e183, e184, e185, e186, e187, e188, e189, e190, e191, e192, e193, e194, e195, e196, e197, e198, e199, e200, e201, e202, e203, e204, e205, e206, e207, e208, e209, e210, e211], defers := [] } w := by
 have HB := Lib.hid hb; have HT := Lib.hid hT; have HU := Lib.hid hU; have HV := Lib.hid hV; have HO := Lib.hid hO; have HOL := Lib.hid hol; have HLO := Lib.hid hlo; have HNE := Lib.hid hne; have HL2 := Lib.hid hlo2
 clear hb hT hU hV hO hol hlo hne hlo2
 unfold part65n4 code65
 conv => arg 2; whnf
 go_wp2_with fail
 go_loopw [197] (fun iv wr => ∃ j : Nat, j ≤ m ∧ iv = .int .i64 j ∧ Hid (Below w0.heap.size w0 wr) ∧ Hid (BI wr T (toK n own j)) ∧ Hid (BI wr U u) ∧ Hid (BI wr V v) ∧ Hid (BI wr O own)) (fun iv _ => m - (intOf iv).toNat)
 case atStart => exact ⟨0, Nat.zero_le _, rfl, HB, HT, HU, HV, HO⟩
 case round =>
  clear HB HT HU HV HO
  obtain ⟨j, hjm, rfl, hB, hT, hU, hV, hO⟩ := hrel
  by_cases hj : j < m
  ·have hj' : (j : Int) < (m : Int) := by omega
   have co := hO.out.cell (j := j) (by rw [HOL.out]; exact hj)
   have hlt := HLO.out j hj
   have hstep := toK_succ n own j
   unfold to1 at hstep
   by_cases h0 : 0 ≤ gi own j
   ·have hd : decide (0 ≤ gi own j) = true := decide_eq_true h0
    obtain ⟨q, hq⟩ : ∃ q : Nat, gi own j = (q : Int) := ⟨(gi own j).toNat, by omega⟩
    rw [if_pos h0, hq, Int.toNat_natCast] at hstep
    rw [hq] at co hd hlt
    have hlen := toK_len n own j
    have cT := hT.out.cell (j := q) (by rw [hlen]; omega)
    have fT := hT.out.free q
    have HST := Lib.hid hstep
    have HB2 := Lib.hid (hB.out.setCell (p := ⟨T, q, none⟩) HL2.out.1 (.int .i64 (j : Int)))
    have HT2 := Lib.hid (hT.out.set q (j : Int))
    have HU2 := Lib.hid (hU.out.other (a := ⟨T, q, none⟩) (v := .int .i64 (j : Int)) (Ne.symm HNE.out.1))
    have HV2 := Lib.hid (hV.out.other (a := ⟨T, q, none⟩) (v := .int .i64 (j : Int)) (Ne.symm HNE.out.2.1))
    have HO2 := Lib.hid (hO.out.other (a := ⟨T, q, none⟩) (v := .int .i64 (j : Int)) (Ne.symm HNE.out.2.2))
    clear hstep hq h0 hlen hB hT hU hV hO
    go_wp2_with fail
    exact ⟨⟨j + 1, by omega, by go_num, HB2, by rw [HST.out]; exact HT2, HU2, HV2, HO2⟩, by simp [intOf]; omega⟩
   ·have hd : decide (0 ≤ gi own j) = false := decide_eq_false h0
    rw [if_neg h0] at hstep
    have HST := Lib.hid hstep
    clear hstep h0 hlt
    generalize gi own j = oj at *
    go_wp2_with fail
    exact ⟨⟨j + 1, by omega, by go_num, hB, by rw [HST.out]; exact hT, hU, hV, hO⟩, by simp [intOf]; omega⟩
  ·obtain rfl : j = m := by omega
   have hj' : ¬ (j : Int) < (j : Int) := by omega
   go_wp2_with fail
   try simp only [Exit.inBlock, Exit.then]
   refine bodyPost_ret (results_tmp4 rfl _ _ _) rfl ?_
   exact ⟨T, U, V, rfl, hT.out, hU.out, hV.out, HL2.out, hB.out⟩
end Go.Proofs.YtggcbblikgankaaGreatDoor
end
section
namespace Go.Proofs.YtggcbblikgankaaGreatDoor
open Go Go.RowKit Go.Deep
noncomputable def srA : Code := .seq (fstC (sndC (sndC (sndC scR)))) augR
noncomputable def row7 : Code := .seq (fstC (sndC scR)) (.seq (.label 0) srA)
noncomputable def rowS : Code := .seq (fstC scR) row7
structure PhW (w0 : World) (T U V O n m : Nat) (s : PhaseS) (w : World) : Prop where
 below : Below w0.heap.size w0 w
 to : BI w T (List.replicate n 0)
 u : BI w U s.u
 v : BI w V s.v
 own : BI w O s.own
 lo : w0.heap.size ≤ T ∧ w0.heap.size ≤ U ∧ w0.heap.size ≤ V ∧ w0.heap.size ≤ O
 ne : (T ≠ U ∧ T ≠ V ∧ T ≠ O) ∧ (U ≠ V ∧ U ≠ O) ∧ V ≠ O
 lu : s.u.length = n
 lv : s.v.length = m
 lown : s.own.length = m
theorem PhW.sol {w0 : World} {T U V O n m : Nat} {s : PhaseS} {w w' : World} {B F D : Nat} (h : PhW w0 T U V O n m s w) (hb : Below w.heap.size w w') (h1 : BI w' B (List.replicate m neverI)) (h2 : BI w' F (List.replicate m 0)) (h3 : BB w' D (List.replicate m false))
  (hlo : w.heap.size ≤ B ∧ w.heap.size ≤ F ∧ w.heap.size ≤ D) (hne : B ≠ F ∧ B ≠ D ∧ F ≠ D) : SolW w0 T U V O B F D (List.replicate n 0) s.u s.v s.own (List.replicate m neverI) (List.replicate m 0) (List.replicate m false) w' := by
 have l1 := h.to.lt; have l2 := h.u.lt; have l3 := h.v.lt; have l4 := h.own.lt
 have hz := h.below.size
 obtain ⟨⟨a1, a2, a3⟩, ⟨a4, a5⟩, a6⟩ := h.ne
 obtain ⟨b1, b2, b3⟩ := hne
 obtain ⟨c1, c2, c3, c4⟩ := h.lo
 exact ⟨h.below.trans (hb.mono hz), ⟨a1, a2, a3, by omega, by omega, by omega, a4, a5, by omega, by omega, by omega, a6, by omega, by omega, by omega, by omega, by omega, by omega, b1, b2, b3⟩, ⟨c1, c2, c3, c4, by omega, by omega, by omega⟩, h.to.below hb l1, h.u.below hb l2, h.v.below hb l3, h.own.below hb l4, h1, h2, h3⟩
theorem SolW.phw {w0 : World} {T U V O B F D n m : Nat} {u v own near frm : List Int} {done : List Bool} {w : World} (h : SolW w0 T U V O B F D (List.replicate n 0) u v own near frm done w) (lu : u.length = n) (lv : v.length = m) (lo : own.length = m) : PhW w0 T U V O n m ⟨u, v, own⟩ w :=
 ⟨h.below, h.to, h.u, h.v, h.own, ⟨h.lo.1, h.lo.2.1, h.lo.2.2.1, h.lo.2.2.2.1⟩, ⟨⟨h.apart.ntu, h.apart.ntv, h.apart.nto⟩, ⟨h.apart.nuv, h.apart.nuo⟩, h.apart.nvo⟩, lu, lv, lo⟩
theorem phases_up {cost : List (List Int)} {n m k : Nat} : ∀ d, (phasesM cost n m k = none → phasesM cost n m (k + d) = none) ∧ (phasesM cost n m k = some none → phasesM cost n m (k + d) = some none)
 | 0 => ⟨id, id⟩
 | d + 1 => by
  obtain ⟨h1, h2⟩ := phases_up (cost := cost) (n := n) (m := m) (k := k) d
  refine ⟨fun h => ?_, fun h => ?_⟩
  ·show phasesM cost n m (k + d + 1) = none
   rw [phasesM, h1 h]
  ·show phasesM cost n m (k + d + 1) = some none
   rw [phasesM, h2 h]
set_option maxRecDepth 100000 in
set_option maxHeartbeats 8000000 in
theorem rows_loop (w0 : World) (T U V O : Nat) (cost : List (List Int)) (aoC : Option Addr) (ccC n m : Nat) (hC : IsMat w0 (.slice aoC n ccC) cost) (hl : cost.length = n) (hrl : ∀ r ∈ cost, r.length = m) (hm0 : m ≤ 1000) (hn0 : n ≤ 1000)
  (res : Option PhaseS) (hres : phasesM cost n m n = some res)
  (w : World) (hM : PhW w0 T U V O n m ⟨List.replicate n 0, List.replicate m 0, List.replicate m (-1)⟩ w) (e2 e3 e7 e9 e10 e11 e12 e13 e14 e15 e16 e17 e18 e19 e20 e21 e22 e23 e24 e25 e26 e27 e28 e29 e30 e31 e32 e33 e34 e35 e36 e37 e38 e39 e40 e41 e42 e43 e44 e45 e46 e47 e48 e49 e50 e51 e52 e53 e54 e55 e56 e57 e58 e59 e60 e61 e62 e63 e64 e65 e66 e67 e68 e69 e70 e71 e72 e73 e74 e75 e76 e77 e78 e79 e80 e81 e82 e83 e84 e85 e86 e87 e88 e89 e90 e91 e92 e93 e94 e95 e96 e97 e98 e99 e100 e101 e102 e103 e104 e105 e106 e107 e108 e109 e110 e111 e112 e113 e114 e115 e116 e117 e118 e119 e120 e121 e122 e123 e124 e125 e126 e127 e128 e129 e130 e131 e132 e133 e134 e135 e136 e137 e138 e139 e140 e141 e142 e143 e144 e145 e146 e147 e148 e149 e150 e151 e152 e153 e154 e155 e156 e157 e158 e159 e160 e161 e162 e163 e164 e165 e166 e167 e168 e169 e170 e171 e172 e173 e174 e175 e176 e177 e178 e179 e180 e181 e182 e183 e184 e185 e186 e187 e188 e189 e190 e191 e192 e193 e194 e195 e196 e197 e198 e199 e200 e201 e202 e203 e204 e205 e206 e207 e208 e209 e210 e211 : Value) (Q : Exit → Act → World → Prop) (X : Code)
  (hF : res = none → ∀ (w' : World) (f9 f10 f11 f12 f13 f14 f15 f16 f17 f18 f19 f20 f34 f35 f36 f37 f38 f39 f40 f41 f42 f43 f44 f45 f46 f47 f48 f49 f50 f51 f52 f53 f54 f55 f56 f57 f58 f59 f60 f61 f62 f63 f64 f65 f66 f67 f68 f69 f70 f71 f72 f73 f74 f75 f76 f77 f78 f79 f80 f81 f82 f83 f84 f85 f86 f87 f88 f89 f90 f91 f92 f93 f94 f95 f96 f97 f98 f99 f100 f101 f102 f103 f104 f105 f106 f107 f108 f109 f110 f111 f112 f113 f114 f115 f116 f117 f118 f119 f120 f121 f122 f123 f124 f125 f126 f127 f128 f129 f130 f131 f132 f133 f134 f135 f136 f137 f138 f139 f140 f141 f142 f143 f144 f145 f146 f147 f148 f149 f150 f151 f152 f153 f154 f155 f156 f157 f158 f159 f160 f161 f162 f163 f164 f165 f166 f167 f168 f169 f170 f171 f172 f173 f174 f175 f176 f177 f178 f179 f180 f181 f182 f183 f184 f185 f186 f187 f188 f189 f190 f191 f192 f193 f194 : Value), Below w0.heap.size w0 w' → Q .ret { tmps := #[.slice aoC n ccC, .int .i64 m, e2, e3, .slice none 0 0, .slice none 0 0, .slice none 0 0, .bool false, .slice (some ⟨O, 0, none⟩) m m, f9, f10, f11, f12, f13, f14, f15, f16, f17, f18, f19, f20, e21, e22, e23, e24, e25, e26, e27, e28, e29, e30, e31, e32, e33, f34, f35, f36, f37, f38, f39, f40, f41, f42, f43, f44, f45, f46, f47, f48, f49, f50, f51, f52, f53, f54, f55, f56, f57, f58, f59, f60, f61, f62, f63, f64, f65, f66, f67, f68, f69, f70, f71, f72, f73, f74, f75, f76, f77, f78, f79, f80, f81, f82, f83, f84, f85, f86, f87, f88, f89, f90, f91, f92, f93, f94, f95, f96, f97, f98, f99, f100, f101, f102, f103, f104, f105, f106, f107, f108, f109, f110, f111, f112, f113, f114, f115, f116, f117, f118, f119, f120, f121, f122, f123, f124, f125, f126, f127, f128, f129, f130, f131, f132, f133, f134, f135, f136, f137, f138, f139, f140, f141, f142, f143, f144, f145, f146, f147, f148, f149, f150, f151, f152, f153, f154, f155, f156, f157, f158, f159, f160, f161, f162, f163, f164, f165, f166, f167, f168, f169, f170, f171, f172, f173, f174, f175, f176, f177, f178, f179, f180, f181, f182, f183, f184, f185, f186, f187, f188, f189, f190, f191, f192, f193, f194, e195, e196, e197, e198, e199, e200, e201, e202, e203, e204, e205, e206, e207, e208, e209, e210, e211], defers := [] } w')
  (hX : ∀ s, res = some s → ∀ (w' : World) (f7 f9 f10 f11 f12 f13 f14 f15 f16 f17 f18 f19 f20 f34 f35 f36 f37 f38 f39 f40 f41 f42 f43 f44 f45 f46 f47 f48 f49 f50 f51 f52 f53 f54 f55 f56 f57 f58 f59 f60 f61 f62 f63 f64 f65 f66 f67 f68 f69 f70 f71 f72 f73 f74 f75 f76 f77 f78 f79 f80 f81 f82 f83 f84 f85 f86 f87 f88 f89 f90 f91 f92 f93 f94 f95 f96 f97 f98 f99 f100 f101 f102 f103 f104 f105 f106 f107 f108 f109 f110 f111 f112 f113 f114 f115 f116 f117 f118 f119 f120 f121 f122 f123 f124 f125 f126 f127 f128 f129 f130 f131 f132 f133 f134 f135 f136 f137 f138 f139 f140 f141 f142 f143 f144 f145 f146 f147 f148 f149 f150 f151 f152 f153 f154 f155 f156 f157 f158 f159 f160 f161 f162 f163 f164 f165 f166 f167 f168 f169 f170 f171 f172 f173 f174 f175 f176 f177 f178 f179 f180 f181 f182 f183 f184 f185 f186 f187 f188 f189 f190 f191 f192 f193 f194 : Value), PhW w0 T U V O n m s w' → Code.wp Tryz.prog X Q { tmps := #[.slice aoC n ccC, .int .i64 m, e2, e3, .slice (some ⟨T, 0, none⟩) n n, .slice (some ⟨U, 0, none⟩) n n, .slice (some ⟨V, 0, none⟩) m m, f7, .slice (some ⟨O, 0, none⟩) m m, f9, f10, f11, f12, f13, f14, f15, f16, f17, f18, f19, f20, e21, e22, e23, e24, e25, e26, e27, e28, e29, e30, e31, e32, e33, f34, f35, f36, f37, f38, f39, f40, f41, f42, f43, f44, f45, f46, f47, f48, f49, f50, f51, f52, f53, f54, f55, f56, f57, f58, f59, f60, f61, f62, f63, f64, f65, f66, f67, f68, f69, f70, f71, f72, f73, f74, f75, f76, f77, f78, f79, f80, f81, f82, f83, f84, f85, f86, f87, f88, f89, f90, f91, f92, f93, f94, f95, f96, f97, f98, f99, f100, f101, f102, f103, f104, f105, f106, f107, f108, f109, f110, f111, f112, f113, f114, f115, f116, f117, f118, f119, f120, f121, f122, f123, f124, f125, f126, f127, f128, f129, f130, f131, f132, f133, f134, f135, f136, f137, f138, f139, f140, f141, f142, f143, f144, f145, f146, f147, f148, f149, f150, f151, f152, f153, f154, f155, f156, f157, f158, f159, f160, f161, f162, f163, f164, f165, f166, f167, f168, f169, f170, f171, f172, f173, f174, f175, f176, f177, f178, f179, f180, f181, f182, f183, f184, f185, f186, f187, f188, f189, f190, f191, f192, f193, f194, e195, e196, e197, e198, e199, e200, e201, e202, e203, e204, e205, e206, e207, e208, e209, e210, e211], defers := [] } w') :
  Code.wp Tryz.prog (.seq part65n3 X) Q { tmps := #[.slice aoC n ccC, .int .i64 m, e2, e3, .slice (some ⟨T, 0, none⟩) n n, .slice (some ⟨U, 0, none⟩) n n, .slice (some ⟨V, 0, none⟩) m m, e7, .slice (some ⟨O, 0, none⟩) m m, e9, e10, e11, e12, e13, e14, e15, e16, e17, e18, e19, e20, e21, e22, e23, e24, e25, e26, e27, e28, e29, e30, e31, e32, e33, e34, e35, e36, e37, e38, e39, e40, e41, e42, e43, e44, e45, e46, e47, e48, e49, e50, e51, e52, e53, e54, e55, e56, e57, e58, e59, e60, e61, e62, e63, e64, e65, e66, e67, e68, e69, e70, e71, e72, e73, e74, e75, e76, e77, e78, e79, e80, e81, e82, e83, e84, e85, e86, e87, e88, e89, e90, e91, e92, e93, e94, e95, e96, e97, e98, e99, e100, e101, e102, e103, e104, e105, e106, e107, e108, e109, e110, e111, e112, e113, e114, e115, e116, e117, e118, e119, e120, e121, e122, e123, e124, e125, e126, e127, e128, e129, e130, e131, e132, e133, e134, e135, e136, e137, e138, e139, e140, e141, e142, e143, e144, e145, e146, e147, e148, e149, e150, e151, e152, e153, e154, e155, e156, e157, e158, e159, e160, e161, e162, e163, e164, e165, e166, e167, e168, e169, e170, e171, e172, e173, e174, e175, e176, e177, e178, e179, e180, e181, e182, e183, e184, e185, e186, e187, e188, e189, e190, e191, e192, e193, e194, e195, e196, e197, e198, e199, e200, e201, e202, e203, e204, e205, e206, e207, e208, e209, e210, e211], defers := [] } w := by
 have HX := Lib.hid hX; have HM := Lib.hid hM; have HF := Lib.hid hF; have HC := Lib.hid hC; have HRL := Lib.hid hrl; have HL := Lib.hid hl; have HRES := Lib.hid hres
 clear hX hM hF hC hrl hl hres
 unfold part65n3 code65
 conv => arg 2; arg 1; whnf
 go_wp2_with fail
 go_loopw [4, 5, 6, 36] (fun tv uv vv iv wr => tv = .slice (some ⟨T, 0, none⟩) n n ∧ uv = .slice (some ⟨U, 0, none⟩) n n ∧ vv = .slice (some ⟨V, 0, none⟩) m m ∧ ∃ (i : Nat) (s : PhaseS), i ≤ n ∧ iv = .int .i64 i ∧ Hid (PhW w0 T U V O n m s wr) ∧ Hid (phasesM cost n m i = some (some s))) (fun _ _ _ iv _ => n - (intOf iv).toNat)
 case atStart => exact ⟨rfl, rfl, rfl, 0, _, Nat.zero_le _, rfl, HM, Lib.hid rfl⟩
 case round =>
  clear HM
  obtain ⟨rfl, rfl, rfl, i, s, hin, rfl, hM, hP⟩ := hrel
  by_cases hi : i < n
  ·have hi' : (i : Int) < (n : Int) := by omega
   have hph : phasesM cost n m (i + 1) = phaseM cost n m i s := by rw [phasesM, hP.out]
   have hnn : phaseM cost n m i s ≠ none := fun h => by
    have := (phases_up (cost := cost) (n := n) (m := m) (k := i + 1) (n - (i + 1))).1 (hph.trans h)
    rw [show i + 1 + (n - (i + 1)) = n by omega, HRES.out] at this
    cases this
   obtain ⟨sr, hsr⟩ : ∃ sr, srchM cost n m i s.own (m + 1) ⟨s.u, s.v, List.replicate m neverI, List.replicate m 0, List.replicate m false, -1, i⟩ = some sr := by
    cases h : srchM cost n m i s.own (m + 1) ⟨s.u, s.v, List.replicate m neverI, List.replicate m 0, List.replicate m false, -1, i⟩ with
    | none => exfalso; apply hnn; unfold phaseM; rw [h]
    | some x => exact ⟨x, rfl⟩
   have HPH := Lib.hid hph; have HNN := Lib.hid hnn; have HSR := Lib.hid hsr
   clear hph hnn hsr
   change Code.wp Tryz.prog (.seq (fstC loopR) (.seq (fstC (sndC loopR)) (.seq (.block 1 (.seq (fstC bodyR) (.scope rowS))) (sndC (sndC (sndC loopR)))))) _ _ _
   go_wp2_with fail
   conv => arg 2; whnf
   go_wp2_with fail
   conv => arg 2; whnf
   go_wp2_with fail
   conv => arg 2; whnf
   go_wp2_with fail
   apply wp_scope_straight
   unfold rowS
   refine row_make m hm0 wr _ _ _ _ _ _ _ _ _ _ _ _ _ _ _ _ _ _ _ _ _ _ _ _ _ _ _ _ _ _ _ _ _ _ _ _ _ _ _ _ _ _ _ _ _ _ _ _ _ _ _ _ _ _ _ _ _ _ _ _ _ _ _ _ _ _ _ _ _ _ _ _ _ _ _ _ _ _ _ _ _ _ _ _ _ _ _ _ _ _ _ _ _ _ _ _ _ _ _ _ _ _ _ _ _ _ _ _ _ _ _ _ _ _ _ _ _ _ _ _ _ _ _ _ _ _ _ _ _ _ _ _ _ _ _ _ _ _ _ _ _ _ _ _ _ _ _ _ _ _ _ _ _ _ _ _ _ _ _ _ _ _ _ _ _ _ _ _ _ _ _ _ _ _ _ _ _ _ _ _ _ _ _ _ _ _ _ _ _ _ _ _ _ _ _ _ _ _ _ _ _ _ _ _ _ _ _ _ _ _ _ _ _ ?_
   intro w1 B F D _ _ _ _ _ _ _ hb1 gB gF gD hlo hne
   have HM1 := Lib.hid (hM.out.sol hb1 gB gF gD hlo hne)
   clear hb1 gB gF gD hlo hne
   unfold row7
   go_wp2_with fail
   conv => arg 2; whnf
   go_wp2_with fail
   apply wp_label
   go_wp2_with fail
   unfold srA
   have hL0 : SrL n m ⟨s.u, s.v, List.replicate m neverI, List.replicate m 0, List.replicate m false, -1, i⟩ := ⟨hM.out.lu, hM.out.lv, by simp, by simp, by simp⟩
   refine srch_loop w0 T U V O B F D (List.replicate n 0) s.own cost aoC ccC n m i hi HC.out HL.out HRL.out hm0 hn0 hM.out.lown (m + 1) _ hL0 sr HSR.out w1 HM1.out _ _ _ _ _ _ _ _ _ _ _ _ _ _ _ _ _ _ _ _ _ _ _ _ _ _ _ _ _ _ _ _ _ _ _ _ _ _ _ _ _ _ _ _ _ _ _ _ _ _ _ _ _ _ _ _ _ _ _ _ _ _ _ _ _ _ _ _ _ _ _ _ _ _ _ _ _ _ _ _ _ _ _ _ _ _ _ _ _ _ _ _ _ _ _ _ _ _ _ _ _ _ _ _ _ _ _ _ _ _ _ _ _ _ _ _ _ _ _ _ _ _ _ _ _ _ _ _ _ _ _ _ _ _ _ _ _ _ _ _ _ _ _ _ _ _ _ _ _ _ _ _ _ _ _ _ _ _ _ _ _ _ _ _ _ _ _ _ _ _ _ _ _ _ _ _ _ _ _ _ _ _ _ _ _ _ _ _ _ _ _ _ _ _ _ _ _ _ _ _ _ _ ?_ ?_
   ·intro hsrn w2 _ _ _ _ _ _ _ _ _ _ _ _ _ _ _ _ _ _ _ _ _ _ _ _ _ _ _ _ _ _ _ _ _ _ _ _ _ _ _ _ _ _ _ _ _ _ _ _ _ _ _ _ _ _ _ _ _ _ _ _ _ _ _ _ _ _ _ _ _ _ _ _ _ _ _ _ _ _ _ _ _ _ _ _ _ _ _ _ _ _ _ _ _ _ _ _ _ _ _ _ _ _ _ _ _ _ _ _ _ _ _ _ _ _ _ _ _ _ _ _ _ _ _ _ _ _ _ _ _ _ _ _ _ _ hb2
    subst hsrn
    have hpn : phaseM cost n m i s = some none := by unfold phaseM; rw [HSR.out]
    have hrn : res = none := by
     have h2 := (phases_up (cost := cost) (n := n) (m := m) (k := i + 1) (n - (i + 1))).2 (HPH.out.trans hpn)
     rw [show i + 1 + (n - (i + 1)) = n by omega, HRES.out] at h2
     exact Option.some.inj h2
    have HB2 := Lib.hid hb2; have HRN := Lib.hid hrn
    clear hb2 hrn hpn
    try simp only [Exit.noGoto, Exit.inBlock, Exit.then]
    exact HF.out HRN.out _ _ _ _ _ _ _ _ _ _ _ _ _ _ _ _ _ _ _ _ _ _ _ _ _ _ _ _ _ _ _ _ _ _ _ _ _ _ _ _ _ _ _ _ _ _ _ _ _ _ _ _ _ _ _ _ _ _ _ _ _ _ _ _ _ _ _ _ _ _ _ _ _ _ _ _ _ _ _ _ _ _ _ _ _ _ _ _ _ _ _ _ _ _ _ _ _ _ _ _ _ _ _ _ _ _ _ _ _ _ _ _ _ _ _ _ _ _ _ _ _ _ _ _ _ _ _ _ _ _ _ _ _ _ _ _ _ _ _ _ _ _ _ _ _ _ _ _ _ _ _ _ _ _ _ _ _ _ _ _ _ _ _ _ _ _ _ _ _ _ _ _ _ _ HB2.out
   ·intro t ht hLt w2 _ _ _ _ _ _ _ _ _ _ _ _ _ _ _ _ _ _ _ _ _ _ _ _ _ _ _ _ _ _ _ _ _ _ _ _ _ _ _ _ _ _ _ _ _ _ _ _ _ _ _ _ _ _ _ _ _ _ _ _ _ _ _ _ _ _ _ _ _ _ _ _ _ _ _ _ _ _ _ _ _ _ _ _ _ _ _ _ _ _ _ _ _ _ _ _ _ _ _ _ _ _ _ _ _ _ _ _ _ _ _ _ _ _ _ _ _ _ _ _ _ _ _ _ _ _ _ _ _ _ _ _ _ _ hM2
    subst ht
    obtain ⟨ow, how⟩ : ∃ ow, augM i m t.frm (m + 1) s.own t.at_ = some ow := by
     cases h : augM i m t.frm (m + 1) s.own t.at_ with
     | none => exfalso; apply HNN.out; unfold phaseM; rw [HSR.out]; simp only [h]
     | some x => exact ⟨x, rfl⟩
    have hp2 : phasesM cost n m (i + 1) = some (some ⟨t.u, t.v, ow⟩) := by
     rw [HPH.out]; unfold phaseM; rw [HSR.out]; simp only [how]
    have HP2 := Lib.hid hp2; have HLT := Lib.hid hLt
    clear hp2 hLt
    refine aug_loop w0 T U V O B F D (List.replicate n 0) t.u t.v s.own t.near t.frm t.done m i hm0 HLT.out.frm hM.out.lown (m + 1) t.at_ ow how w2 hM2 _ _ _ _ _ _ _ _ _ _ _ _ _ _ _ _ _ _ _ _ _ _ _ _ _ _ _ _ _ _ _ _ _ _ _ _ _ _ _ _ _ _ _ _ _ _ _ _ _ _ _ _ _ _ _ _ _ _ _ _ _ _ _ _ _ _ _ _ _ _ _ _ _ _ _ _ _ _ _ _ _ _ _ _ _ _ _ _ _ _ _ _ _ _ _ _ _ _ _ _ _ _ _ _ _ _ _ _ _ _ _ _ _ _ _ _ _ _ _ _ _ _ _ _ _ _ _ _ _ _ _ _ _ _ _ _ _ _ _ _ _ _ _ _ _ _ _ _ _ _ _ _ _ _ _ _ _ _ _ _ _ _ _ _ _ _ _ _ _ _ _ _ _ _ _ _ _ _ _ _ _ _ _ _ _ _ _ _ _ _ _ _ _ _ _ _ _ _ _ _ _ _ _ _ _ _ _ _ _ ?_
    intro w3 _ _ _ _ _ _ _ _ _ _ _ _ _ _ _ _ _ _ _ _ _ _ hM3 hlo3
    have HM3 := Lib.hid (hM3.phw HLT.out.u HLT.out.v hlo3)
    clear hM3 hM2 how
    go_wp2_with fail
    conv => arg 2; whnf
    go_wp2_with fail
    exact ⟨⟨rfl, rfl, rfl, i + 1, ⟨t.u, t.v, ow⟩, by omega, by go_num, HM3, HP2⟩, by simp [intOf]; omega⟩
  ·obtain rfl : i = n := by omega
   have hi' : ¬ (i : Int) < (i : Int) := by omega
   have hrs : res = some s := Option.some.inj (HRES.out.symm.trans hP.out)
   go_wp2_with fail
   exact HX.out s hrs _ _ _ _ _ _ _ _ _ _ _ _ _ _ _ _ _ _ _ _ _ _ _ _ _ _ _ _ _ _ _ _ _ _ _ _ _ _ _ _ _ _ _ _ _ _ _ _ _ _ _ _ _ _ _ _ _ _ _ _ _ _ _ _ _ _ _ _ _ _ _ _ _ _ _ _ _ _ _ _ _ _ _ _ _ _ _ _ _ _ _ _ _ _ _ _ _ _ _ _ _ _ _ _ _ _ _ _ _ _ _ _ _ _ _ _ _ _ _ _ _ _ _ _ _ _ _ _ _ _ _ _ _ _ _ _ _ _ _ _ _ _ _ _ _ _ _ _ _ _ _ _ _ _ _ _ _ _ _ _ _ _ _ _ _ _ _ _ _ _ _ _ _ _ _ hM.out
end Go.Proofs.YtggcbblikgankaaGreatDoor
end
section
namespace Go.Proofs.YtggcbblikgankaaGreatDoor
open Go Go.RowKit Go.Deep
set_option maxRecDepth 100000 in
set_option maxHeartbeats 8000000 in
theorem solve_any (cost : List (List Int)) (aoC : Option Addr) (ccC m : Nat) (w : World) (hC : IsMat w (.slice aoC cost.length ccC) cost) (hrl : ∀ r ∈ cost, r.length = m) (hn0 : cost.length ≤ 1000) (hm0 : m ≤ 1000) (res : Option SolS) (hres : solveM cost m = some res)
  (hown : ∀ s, phasesM cost cost.length m cost.length = some (some s) → ∀ j, j < m → gi s.own j < cost.length) :
  Calls Tryz.prog 46 #[.slice aoC cost.length ccC, .int .i64 m] w (SolP cost.length m res w) := by
 obtain ⟨pr, hpr, hr⟩ : ∃ pr, phasesM cost cost.length m cost.length = some pr ∧ res = pr.map fun s => ⟨toK cost.length s.own m, s.u, s.v⟩ := by
  unfold solveM at hres
  cases h : phasesM cost cost.length m cost.length with
  | none => rw [h] at hres; cases hres
  | some pr =>
   rw [h] at hres
   cases pr with
   | none => exact ⟨none, rfl, (Option.some.inj hres).symm⟩
   | some s => exact ⟨some s, rfl, (Option.some.inj hres).symm⟩
 clear hres
 have HC := Lib.hid hC; have HRL := Lib.hid hrl; have HPR := Lib.hid hpr; have HR := Lib.hid hr; have HOWN := Lib.hid hown
 have HN := Lib.hid (show cost.length = cost.length from rfl)
 clear hC hrl hpr hr hown
 generalize hnn : cost.length = n at *
 go_enter Tryz.func46, Tryz.ntmps46
 change Code.wp Tryz.prog (.seq (fstC code65) (withLast 1 part65n1 (withLast 1 part65n2 (.seq part65n3 part65n4)))) _ _ _
 refine wp_seq ?_
 conv => arg 2; whnf
 go_wp2_with fail
 refine start_make aoC n m ccC hn0 hm0 w _ _ _ _ _ _ _ _ _ _ _ _ _ _ _ _ _ _ _ _ _ _ _ _ _ _ _ _ _ _ _ _ _ _ _ _ _ _ _ _ _ _ _ _ _ _ _ _ _ _ _ _ _ _ _ _ _ _ _ _ _ _ _ _ _ _ _ _ _ _ _ _ _ _ _ _ _ _ _ _ _ _ _ _ _ _ _ _ _ _ _ _ _ _ _ _ _ _ _ _ _ _ _ _ _ _ _ _ _ _ _ _ _ _ _ _ _ _ _ _ _ _ _ _ _ _ _ _ _ _ _ _ _ _ _ _ _ _ _ _ _ _ _ _ _ _ _ _ _ _ _ _ _ _ _ _ _ _ _ _ _ _ _ _ _ _ _ _ _ _ _ _ _ _ _ _ _ _ _ _ _ _ _ _ _ _ _ _ _ _ _ _ _ _ _ _ _ _ _ _ _ _ _ _ _ _ _ _ _ _ _ _ ?_
 intro w1 T U V _ _ _ _ _ _ _ _ hb1 gT gU gV hlo hne
 refine start_owner m hm0 w1 _ _ _ _ _ _ _ _ _ _ _ _ _ _ _ _ _ _ _ _ _ _ _ _ _ _ _ _ _ _ _ _ _ _ _ _ _ _ _ _ _ _ _ _ _ _ _ _ _ _ _ _ _ _ _ _ _ _ _ _ _ _ _ _ _ _ _ _ _ _ _ _ _ _ _ _ _ _ _ _ _ _ _ _ _ _ _ _ _ _ _ _ _ _ _ _ _ _ _ _ _ _ _ _ _ _ _ _ _ _ _ _ _ _ _ _ _ _ _ _ _ _ _ _ _ _ _ _ _ _ _ _ _ _ _ _ _ _ _ _ _ _ _ _ _ _ _ _ _ _ _ _ _ _ _ _ _ _ _ _ _ _ _ _ _ _ _ _ _ _ _ _ _ _ _ _ _ _ _ _ _ _ _ _ _ _ _ _ _ _ _ _ _ _ _ _ _ _ _ _ _ _ _ _ _ _ _ _ _ _ _ _ _ ?_
 intro w2 O _ _ _ hb2 gO hO
 have l1 := gT.lt; have l2 := gU.lt; have l3 := gV.lt
 have hz := hb1.size
 refine rows_loop w T U V O cost aoC ccC n m HC.out hnn HRL.out hm0 hn0 pr HPR.out w2 ⟨hb1.trans (hb2.mono hz), gT.below hb2 l1, gU.below hb2 l2, gV.below hb2 l3, gO, ⟨hlo.1, hlo.2.1, hlo.2.2, Nat.le_trans hz hO⟩, ⟨⟨hne.1, hne.2.1, by omega⟩, ⟨hne.2.2, by omega⟩, by omega⟩, by simp, by simp, by simp⟩ _ _ _ _ _ _ _ _ _ _ _ _ _ _ _ _ _ _ _ _ _ _ _ _ _ _ _ _ _ _ _ _ _ _ _ _ _ _ _ _ _ _ _ _ _ _ _ _ _ _ _ _ _ _ _ _ _ _ _ _ _ _ _ _ _ _ _ _ _ _ _ _ _ _ _ _ _ _ _ _ _ _ _ _ _ _ _ _ _ _ _ _ _ _ _ _ _ _ _ _ _ _ _ _ _ _ _ _ _ _ _ _ _ _ _ _ _ _ _ _ _ _ _ _ _ _ _ _ _ _ _ _ _ _ _ _ _ _ _ _ _ _ _ _ _ _ _ _ _ _ _ _ _ _ _ _ _ _ _ _ _ _ _ _ _ _ _ _ _ _ _ _ _ _ _ _ _ _ _ _ _ _ _ _ _ _ _ _ _ _ _ _ _ _ _ _ _ _ _ _ _ _ _ _ _ _ _ _ ?_ ?_
 ·intro hp w3 _ _ _ _ _ _ _ _ _ _ _ _ _ _ _ _ _ _ _ _ _ _ _ _ _ _ _ _ _ _ _ _ _ _ _ _ _ _ _ _ _ _ _ _ _ _ _ _ _ _ _ _ _ _ _ _ _ _ _ _ _ _ _ _ _ _ _ _ _ _ _ _ _ _ _ _ _ _ _ _ _ _ _ _ _ _ _ _ _ _ _ _ _ _ _ _ _ _ _ _ _ _ _ _ _ _ _ _ _ _ _ _ _ _ _ _ _ _ _ _ _ _ _ _ _ _ _ _ _ _ _ _ _ _ _ _ _ _ _ _ _ _ _ _ _ _ _ _ _ _ _ _ _ _ _ _ _ _ _ _ _ _ _ _ _ _ _ _ _ _ _ _ _ hb3
  have hrn : res = none := by rw [HR.out, hp]; rfl
  subst hrn
  refine bodyPost_ret (results_tmp4 rfl _ _ _) rfl ?_
  exact ⟨rfl, hb3⟩
 ·intro s hs w3 _ _ _ _ _ _ _ _ _ _ _ _ _ _ _ _ _ _ _ _ _ _ _ _ _ _ _ _ _ _ _ _ _ _ _ _ _ _ _ _ _ _ _ _ _ _ _ _ _ _ _ _ _ _ _ _ _ _ _ _ _ _ _ _ _ _ _ _ _ _ _ _ _ _ _ _ _ _ _ _ _ _ _ _ _ _ _ _ _ _ _ _ _ _ _ _ _ _ _ _ _ _ _ _ _ _ _ _ _ _ _ _ _ _ _ _ _ _ _ _ _ _ _ _ _ _ _ _ _ _ _ _ _ _ _ _ _ _ _ _ _ _ _ _ _ _ _ _ _ _ _ _ _ _ _ _ _ _ _ _ _ _ _ _ _ _ _ _ _ _ _ _ _ _ hM
  have hrs : res = some ⟨toK n s.own m, s.u, s.v⟩ := by rw [HR.out, hs]; rfl
  subst hrs
  refine solve_end w T U V O s.u s.v s.own n m hm0 hM.lown (fun j hj => by have := HOWN.out s (by rw [HPR.out, hs]) j hj; omega) hM.ne.1 ⟨hM.lo.1, hM.lo.2.1, hM.lo.2.2.1⟩ w3 hM.below hM.to hM.u hM.v hM.own _ _ _ _ _ _ _ _ _ _ _ _ _ _ _ _ _ _ _ _ _ _ _ _ _ _ _ _ _ _ _ _ _ _ _ _ _ _ _ _ _ _ _ _ _ _ _ _ _ _ _ _ _ _ _ _ _ _ _ _ _ _ _ _ _ _ _ _ _ _ _ _ _ _ _ _ _ _ _ _ _ _ _ _ _ _ _ _ _ _ _ _ _ _ _ _ _ _ _ _ _ _ _ _ _ _ _ _ _ _ _ _ _ _ _ _ _ _ _ _ _ _ _ _ _ _ _ _ _ _ _ _ _ _ _ _ _ _ _ _ _ _ _ _ _ _ _ _ _ _ _ _ _ _ _ _ _ _ _ _ _ _ _ _ _ _ _ _ _ _ _ _ _ _ _ _ _ _ _ _ _ _ _ _ _ _ _ _ _ _ _ _ _ _ _ _ _ _ _ _ _ _ _ _ _ _ _ _
theorem right_of {cost : List (List Int)} (h : castE cost = 0) : cost.length ≤ 16 ∧ widN cost ≤ 16 ∧ (∀ r ∈ cost, r.length = widN cost) ∧ (∀ r j, cI cost r j ≤ topC) ∧ ∀ r j, -1 ≤ cI cost r j := by
 unfold castE at h
 by_cases h1 : 16 < cost.length ∨ longB cost = true
 ·rw [if_pos h1] at h; cases h
 ·rw [if_neg h1] at h
  have h2 : ¬ 16 < cost.length := fun q => h1 (Or.inl q)
  have h3 : ¬ longB cost = true := fun q => h1 (Or.inr q)
  have h4 : ¬ cost.any (badB (widN cost)) = true := fun q => by rw [if_pos q] at h; cases h
  have hrow : ∀ r ∈ cost, r.length = widN cost ∧ ∀ x ∈ r, -1 ≤ x ∧ x ≤ 1048576 := by
   intro r hr
   have hb : ¬ badB (widN cost) r = true := fun q => h4 (List.any_eq_true.2 ⟨r, hr, q⟩)
   unfold badB at hb
   simp only [Bool.or_eq_true, decide_eq_true_eq, not_or, Decidable.not_not] at hb
   refine ⟨hb.1, fun x hx => ?_⟩
   have hq : ¬ oddB x = true := fun q => hb.2 (List.any_eq_true.2 ⟨x, hx, q⟩)
   unfold oddB at hq
   simp only [decide_eq_true_eq] at hq
   omega
  have hcell : ∀ r j, -1 ≤ cI cost r j ∧ cI cost r j ≤ 1048576 := by
   intro r j
   unfold cI gi
   cases hr : cost[r]? with
   | none => simp
   | some row =>
    cases hx : row[j]? with
    | none => simp [hx]
    | some x =>
     have := (hrow row (List.mem_of_getElem? hr)).2 x (List.mem_of_getElem? hx)
     simpa [hx] using this
  refine ⟨by omega, ?_, fun r hr => (hrow r hr).1, fun r j => (hcell r j).2, fun r j => (hcell r j).1⟩
  unfold widN
  cases hc : cost[0]? with
  | none => simp
  | some row =>
   have hm := List.mem_of_getElem? hc
   have : ¬ (16 : Int) < (row.length : Int) := fun q => h3 (List.any_eq_true.2 ⟨row, hm, by simpa using q⟩)
   simp only [Option.getD_some]
   omega
theorem solve_right (cost : List (List Int)) (aoC : Option Addr) (ccC m : Nat) (w : World) (hC : IsMat w (.slice aoC cost.length ccC) cost) (hrl : ∀ r ∈ cost, r.length = m) (hn : cost.length ≤ 16) (hm : m ≤ 16) (hc : ∀ r j, cI cost r j ≤ topC) (hc0 : ∀ r j, -1 ≤ cI cost r j) :
  ∃ res, solveM cost m = some res ∧ (match res with | none => Hall cost.length m (cI cost) | some s => SolOk cost.length m (cI cost) s) ∧ Calls Tryz.prog 46 #[.slice aoC cost.length ccC, .int .i64 m] w (SolP cost.length m res w) := by
 have hown : ∀ s, phasesM cost cost.length m cost.length = some (some s) → ∀ j, j < m → gi s.own j < cost.length := by
  intro s hs j hj
  rcases phases_ok hn hm hc hc0 cost.length (Nat.le_refl _) with ⟨h1, _⟩ | ⟨t, h1, h2⟩
  ·rw [h1] at hs; cases hs
  ·rw [h1] at hs
   obtain rfl : t = s := Option.some.inj (Option.some.inj hs)
   have := h2.pot.lo j hj
   omega
 rcases solve_ok hn hm hc hc0 with ⟨h1, h2⟩ | ⟨s, h1, h2⟩
 ·exact ⟨none, h1, h2, solve_any cost aoC ccC m w hC hrl (by omega) (by omega) none h1 hown⟩
 ·exact ⟨some s, h1, h2, solve_any cost aoC ccC m w hC hrl (by omega) (by omega) (some s) h1 hown⟩
end Go.Proofs.YtggcbblikgankaaGreatDoor
end
section
namespace Go.Proofs.YtggcbblikgankaaGreatDoor
open Go Go.RowKit Go.Deep
def PricesP (cost : List (List Int)) (w : World) (e : Ending) (w' : World) : Prop :=
 (castE cost ≠ 0 ∧ e = .returned (.tuple #[.slice none 0 0, .slice none 0 0, .bool false, .int .i64 (castE cost)]) ∧ Below w.heap.size w w') ∨
 (castE cost = 0 ∧ ∃ res, solveM cost (widN cost) = some res ∧ (match res with
  | none => Hall cost.length (widN cost) (cI cost) ∧ e = .returned (.tuple #[.slice none 0 0, .slice none 0 0, .bool false, .int .i64 0]) ∧ Below w.heap.size w w'
  | some s => SolOk cost.length (widN cost) (cI cost) s ∧ ∃ U V, e = .returned (.tuple #[.slice (some ⟨U, 0, none⟩) cost.length cost.length, .slice (some ⟨V, 0, none⟩) (widN cost) (widN cost), .bool true, .int .i64 0]) ∧ BI w' U s.u ∧ BI w' V s.v ∧ Below w.heap.size w w'))
set_option maxRecDepth 100000 in
set_option maxHeartbeats 4000000 in
theorem prices_any {v : Value} {cost : List (List Int)} (w : World) (h : IsMat w v cost) : Calls Tryz.prog 29 #[v] w (PricesP cost w) := by
 obtain ⟨ao, c, rfl⟩ := h.form
 have hch := ccheck_any w h
 have HCH := Lib.hid hch; have HH := Lib.hid h
 have HW := Lib.hid (fun (W : World) (hb : Below w.heap.size w W) => width_any W (h.below hb (Nat.le_refl _)))
 clear hch h
 go_enter Tryz.func29, Tryz.ntmps29
 go_wp2_with fail
 refine HCH.out.mono ?_
 rintro e w1 ⟨rfl, hb1⟩
 have HB1 := Lib.hid hb1
 clear hb1 HCH
 by_cases hce : castE cost = 0
 ·have hne : (castE cost != 0) = false := by simp [hce]
  obtain ⟨r1, r2, r3, r4, r5⟩ := right_of hce
  have hs := solve_right cost ao c (widN cost) w1 (HH.out.below HB1.out (Nat.le_refl _)) r3 r1 r2 r4 r5
  obtain ⟨res, hres, hok, hcall⟩ := hs
  have HCALL := Lib.hid hcall; have HOK := Lib.hid hok; have HRES := Lib.hid hres
  have HCE := Lib.hid hce
  clear r1 r2 r3 r4 r5 hres hok hcall hce
  go_wp2_with fail
  refine (HW.out w1 HB1.out).mono ?_
  rintro e w2 ⟨rfl, hw⟩
  rw [hw]
  clear hw w2 HW
  go_wp2_with fail
  refine HCALL.out.mono ?_
  intro e w2 hsp
  cases res with
  | none =>
   obtain ⟨rfl, hb2⟩ := hsp
   have HB2 := Lib.hid (HB1.out.trans (hb2.mono HB1.out.size))
   clear hb2 HCALL
   go_wp2_with fail
   try simp only [Exit.inBlock, Exit.then]
   refine bodyPost_ret (results_tmp4 rfl _ _ _) rfl ?_
   exact Or.inr ⟨HCE.out, none, HRES.out, HOK.out, rfl, HB2.out⟩
  | some s =>
   obtain ⟨T, U, V, rfl, hT, hU, hV, _, hb2⟩ := hsp
   have HB2 := Lib.hid (HB1.out.trans (hb2.mono HB1.out.size)); have HU := Lib.hid hU; have HV := Lib.hid hV
   clear hb2 HCALL hT hU hV
   go_wp2_with fail
   try simp only [Exit.inBlock, Exit.then]
   refine bodyPost_ret (results_tmp4 rfl _ _ _) rfl ?_
   exact Or.inr ⟨HCE.out, some s, HRES.out, HOK.out, U, V, rfl, HU.out, HV.out, HB2.out⟩
 ·have hne : (castE cost != 0) = true := by simpa using hce
  have HCE := Lib.hid hce
  clear hce
  go_wp2_with fail
  try simp only [Exit.inBlock, Exit.then]
  refine bodyPost_ret (results_tmp4 rfl _ _ _) rfl ?_
  exact Or.inl ⟨HCE.out, rfl, HB1.out⟩
end Go.Proofs.YtggcbblikgankaaGreatDoor
end
section
namespace Go.Proofs.YtggcbblikgankaaGreatDoor
open Go Go.RowKit Go.Deep
def oddV (x : Int) : Bool := decide (x < -1099511627776 ∨ 0 < x)
def numB (x : Int) : Bool := decide (-1099511627776 ≤ x) && decide (x ≤ 1099511627776)
def fitR (row v : List Int) (x : Int) (k : Nat) : Bool := (List.range k).all fun j => !(decide (0 ≤ gi row j) && decide (gi row j < x + gi v j))
def fitU (cost : List (List Int)) (u v : List Int) (m k : Nat) : Bool := (List.range k).all fun i => numB (gi u i) && fitR (cost[i]?.getD []) v (gi u i) m
def provB (cost : List (List Int)) (u v : List Int) : Bool := decide (u.length = cost.length) && decide (v.length = widN cost) && !(v.any oddV) && fitU cost u v (widN cost) cost.length
def provN (cost : List (List Int)) (u v : List Int) : Int := if castE cost = 0 ∧ provB cost u v = true then sumT (gi v) (widN cost) + sumT (gi u) cost.length else 0
theorem all_range_succ (f : Nat → Bool) (k : Nat) : (List.range (k + 1)).all f = ((List.range k).all f && f k) := by
 rw [List.range_succ, List.all_append]; simp
theorem all_range_false {f : Nat → Bool} {k n : Nat} (hk : k < n) (h : f k = false) : (List.range n).all f = false := by
 rw [Bool.eq_false_iff]
 intro h2
 have := List.all_eq_true.1 h2 k (by simpa using hk)
 rw [h] at this; cases this
theorem fitU_sum {cost : List (List Int)} {u v : List Int} {m : Nat} : ∀ {k : Nat}, fitU cost u v m k = true → -1099511627776 * (k : Int) ≤ sumT (gi u) k ∧ sumT (gi u) k ≤ 1099511627776 * (k : Int)
 | 0, _ => ⟨by simp [sumT], by simp [sumT]⟩
 | k + 1, h => by
  unfold fitU at h
  rw [all_range_succ, Bool.and_eq_true, Bool.and_eq_true] at h
  have ih := fitU_sum (k := k) h.1
  have hn := h.2.1
  unfold numB at hn
  simp only [Bool.and_eq_true, decide_eq_true_eq] at hn
  unfold sumT
  omega
set_option maxRecDepth 100000 in
set_option maxHeartbeats 4000000 in
theorem oddV_any (x : Int) (w : World) : Calls Tryz.prog 54 #[.int .i64 x] w fun e w' => e = .returned (.bool (oddV x)) ∧ Below w.heap.size w w' := by
 unfold oddV
 by_cases h1 : x < -1099511627776
 ·have hd : decide (x < -1099511627776 ∨ 0 < x) = true := by simp [h1]
  rw [hd]
  clear hd
  go_enter Tryz.func54, Tryz.ntmps54
  go_wp2_with fail
  go_ret
  exact ⟨rfl, Below.refl _ _⟩
 ·have hd : decide (x < -1099511627776 ∨ 0 < x) = decide (0 < x) := decide_eq_decide.2 (by simp [h1])
  rw [hd]
  clear hd
  go_enter Tryz.func54, Tryz.ntmps54
  go_wp2_with fail
  go_ret
  exact ⟨rfl, Below.refl _ _⟩
def ProvesP (cost : List (List Int)) (u v : List Int) (w : World) (e : Ending) (w' : World) : Prop :=
 e = .returned (.tuple #[.int .i64 (provN cost u v), .bool (decide (castE cost = 0) && provB cost u v), .int .i64 (castE cost)]) ∧ Below w.heap.size w w'
set_option maxRecDepth 100000 in
set_option maxHeartbeats 8000000 in
theorem proves_any {cv : Value} {cost : List (List Int)} (u v : List Int) (nu nv : Nat) (hnu : u.length = nu) (hnv : v.length = nv) (au av : Option Addr) (cu cw : Nat) (w : World) (h : IsMat w cv cost) (hu : IsRow encI 1 w (.slice au nu cu) u) (hv : IsRow encI 1 w (.slice av nv cw) v) :
  Calls Tryz.prog 25 #[cv, .slice au nu cu, .slice av nv cw] w (ProvesP cost u v w) := by
 obtain ⟨ao, c, rfl⟩ := h.form
 have HCH := Lib.hid (ccheck_any w h); have HH := Lib.hid h; have HU := Lib.hid hu; have HV := Lib.hid hv; have HNU := Lib.hid hnu; have HNV := Lib.hid hnv
 have HW := Lib.hid (fun (W : World) (hb : Below w.heap.size w W) => width_any W (h.below hb (Nat.le_refl _)))
 have HNC := Lib.hid (show cost.length = cost.length from rfl)
 have HOD := Lib.hid (fun (W : World) (hb : Below w.heap.size w W) => containsI_any oddV 54 #[] (enters_of Tryz.func54 (by kernel_rfl) rfl) v nv hnv av cw W (hv.below hb (Nat.le_refl _)) (fun x _ W2 _ => oddV_any x W2))
 clear h hu hv hnu hnv
 have hPN := Lib.hid (show provN cost u v = if castE cost = 0 ∧ provB cost u v = true then sumT (gi v) (widN cost) + sumT (gi u) cost.length else 0 from rfl)
 have hPB := Lib.hid (show provB cost u v = (decide (u.length = cost.length) && decide (v.length = widN cost) && !(v.any oddV) && fitU cost u v (widN cost) cost.length) from rfl)
 unfold ProvesP
 by_cases hce : castE cost = 0
 ·obtain ⟨r1, r2, r3, r4, r5⟩ := right_of hce
  have HCE := Lib.hid hce; have HR1 := Lib.hid r1; have HR2 := Lib.hid r2; have HR3 := Lib.hid r3
  clear r1 r2 r3 r4 r5
  have hbad : provB cost u v = false → ∀ W, Below w.heap.size w W → (.returned (.tuple #[.int .i64 0, .bool false, .int .i64 0]) : Ending) = .returned (.tuple #[.int .i64 (provN cost u v), .bool (decide (castE cost = 0) && provB cost u v), .int .i64 (castE cost)]) ∧ Below w.heap.size w W := by
   intro hb W hW
   refine ⟨?_, hW⟩
   rw [hPN.out, hb, if_neg (fun q => by cases q.2), HCE.out]; simp
  have HBAD := Lib.hid hbad
  have hgood : provB cost u v = true → ∀ W, Below w.heap.size w W → (.returned (.tuple #[.int .i64 (sumT (gi v) (widN cost) + sumT (gi u) cost.length), .bool true, .int .i64 0]) : Ending) = .returned (.tuple #[.int .i64 (provN cost u v), .bool (decide (castE cost = 0) && provB cost u v), .int .i64 (castE cost)]) ∧ Below w.heap.size w W := by
   intro hb W hW
   refine ⟨?_, hW⟩
   rw [hPN.out, hb, if_pos ⟨HCE.out, rfl⟩, HCE.out]; simp
  have HGOOD := Lib.hid hgood
  clear hbad hgood
  rw [hce] at HCH
  generalize hn : cost.length = n at *
  go_enter Tryz.func25, Tryz.ntmps25
  go_wp2_with fail
  refine HCH.out.mono ?_
  rintro e w1 ⟨rfl, hb1⟩
  have HB1 := Lib.hid hb1
  clear hb1 HCH hce
  by_cases hun : nu = n
  ·have hd1 : ((nu : Int) != (nu : Int)) = false := by simp
   subst hun
   go_wp2_with fail
   refine (HW.out w1 HB1.out).mono ?_
   rintro e w2 ⟨rfl, hw⟩
   rw [hw]
   clear hw w2
   generalize hm : widN cost = m at *
   by_cases hvm : nv = m
   ·have hd2 : ((nv : Int) != (nv : Int)) = false := by simp
    subst hvm
    go_wp2_with fail
    refine (HOD.out w1 HB1.out).mono ?_
    rintro e w2 ⟨rfl, hb2⟩
    have HB2 := Lib.hid (HB1.out.trans (hb2.mono HB1.out.size))
    clear hb2 HOD HB1
    cases hod : v.any oddV with
    | true =>
     go_wp2_with fail
     go_ret3
     exact HBAD.out (by rw [hPB.out, hod]; simp) _ HB2.out
    | false =>
     have HOD := Lib.hid hod
     clear hod
     have hvr : ∀ x ∈ v, -1099511627776 ≤ x ∧ x ≤ 0 := by
      intro x hx
      have hq : ¬ oddV x = true := fun q => by have := List.any_eq_true.2 ⟨x, hx, q⟩; rw [HOD.out] at this; cases this
      unfold oddV at hq
      simp only [decide_eq_true_eq] at hq
      omega
     have hgv : ∀ j, -1099511627776 ≤ gi v j ∧ gi v j ≤ 0 := by
      intro j
      unfold gi
      cases hx : v[j]? with
      | none => simp
      | some x => exact hvr x (List.mem_of_getElem? hx)
     have hsv : ∀ j : Nat, -1099511627776 * (j : Int) ≤ sumT (gi v) j ∧ sumT (gi v) j ≤ 0 := by
      intro j
      induction j with
      | zero => exact ⟨by simp [sumT], by simp [sumT]⟩
      | succ j ih => have := hgv j; unfold sumT; omega
     have HGV := Lib.hid hgv; have HSV := Lib.hid hsv
     clear hvr hgv hsv
     have hVc := fun (W : World) (hb : Below w.heap.size w W) (j : Nat) (hj : j < nv) => (HV.out.below hb (Nat.le_refl _)).int (j := j) (by rw [HNV.out]; exact hj)
     have HVC := Lib.hid hVc
     clear hVc
     have hn16 : nv ≤ 16 := HR2.out
     have hn17 : nu ≤ 16 := HR1.out
     go_wp2_with fail
     go_loopw [6, 38] (fun sv iv wr => ∃ j : Nat, j ≤ nv ∧ iv = .int .i64 j ∧ sv = .int .i64 (sumT (gi v) j) ∧ Hid (Below w.heap.size w wr)) (fun _ iv _ => nv - (intOf iv).toNat)
     case atStart => exact ⟨0, Nat.zero_le _, rfl, rfl, HB2⟩
     case round =>
      clear HB2
      obtain ⟨j, hjm, rfl, rfl, hB⟩ := hrel
      by_cases hj : j < nv
      ·have hj' : (j : Int) < (nv : Int) := by omega
       obtain ⟨bv, ov, e, hcell, _⟩ := HVC.out wr hB.out j hj
       subst e
       have hb1 := HSV.out j; have hb2 := HGV.out j
       have hmm := HR2.out
       have hW : wrap64 (sumT (gi v) j + gi v j) = sumT (gi v) (j + 1) := by
        rw [show sumT (gi v) (j + 1) = sumT (gi v) j + gi v j from rfl]
        exact nw (by omega) (by omega)
       have HWW := Lib.hid hW
       clear hb1 hb2 hmm hW
       generalize sumT (gi v) j = sj at *
       generalize gi v j = vj at *
       go_wp2_with fail
       exact ⟨⟨j + 1, by omega, by go_num, by first | rw [HWW.out] | (rw [← HWW.out]; rfl), hB⟩, by simp [intOf]; omega⟩
      ·obtain rfl : j = nv := by omega
       have hj' : ¬ (j : Int) < (j : Int) := by omega
       go_wp2_with fail
       have hUc := fun (W : World) (hb : Below w.heap.size w W) (i : Nat) (hi : i < nu) => (HU.out.below hb (Nat.le_refl _)).int (j := i) (by rw [HNU.out]; exact hi)
       have HUC := Lib.hid hUc
       clear hUc
       go_loopw [6, 48] (fun sv iv wr => ∃ i : Nat, i ≤ nu ∧ iv = .int .i64 i ∧ sv = .int .i64 (sumT (gi v) j + sumT (gi u) i) ∧ Hid (Below w.heap.size w wr) ∧ Hid (fitU cost u v j i = true)) (fun _ iv _ => nu - (intOf iv).toNat)
       case atStart => exact ⟨0, Nat.zero_le _, rfl, by simp [sumT], hB, Lib.hid rfl⟩
       case round =>
        clear hB
        obtain ⟨i, him, rfl, rfl, hB, hFU⟩ := hrel
        by_cases hi : i < nu
        ·have hi' : (i : Int) < (nu : Int) := by omega
         obtain ⟨bu, ou, e, hcell, _⟩ := HUC.out _ hB.out i hi
         subst e
         obtain ⟨bC, oC, e, ar, cr, hcC0, hrC, hltC⟩ := HH.out.at_ (i := i) (by rw [hn]; exact hi)
         subst e
         have hcC := (hB.out.cell (p := ⟨bC, oC + i, none⟩) hltC).trans hcC0
         clear hcC0 hltC
         have hrl : (cost[i]?.getD []).length = j := by
          rw [List.getElem?_eq_getElem (by rw [hn]; exact hi)]
          exact HR3.out _ (List.getElem_mem _)
         rw [hrl] at hcC hrC
         have hsu := fitU_sum hFU.out
         have hsv2 := HSV.out j
         have hfs := all_range_succ (fun i => numB (gi u i) && fitR (cost[i]?.getD []) v (gi u i) j) i
         have HSU := Lib.hid hsu; have HFS := Lib.hid hfs; have HRC := Lib.hid hrC; have HRL := Lib.hid hrl; have HSV2 := Lib.hid hsv2
         have hfalse : (numB (gi u i) && fitR (cost[i]?.getD []) v (gi u i) j) = false → provB cost u v = false := by
          intro hq
          rw [hPB.out]
          unfold fitU
          rw [all_range_false (f := fun i => numB (gi u i) && fitR (cost[i]?.getD []) v (gi u i) j) hi hq]; simp
         have HFALSE := Lib.hid hfalse
         have hsucc : sumT (gi v) j + sumT (gi u) (i + 1) = (sumT (gi v) j + sumT (gi u) i) + gi u i := by
          rw [show sumT (gi u) (i + 1) = sumT (gi u) i + gi u i from rfl]; omega
         have HSUCC := Lib.hid hsucc
         clear hrl hrC hsu hfs hfalse hsv2 hsucc
         generalize hrow : cost[i]?.getD [] = row at *
         have hbig : -1099511627776 * ((j : Int) + (i : Int)) ≤ sumT (gi v) j + sumT (gi u) i ∧ sumT (gi v) j + sumT (gi u) i ≤ 1099511627776 * (i : Int) := by
          have := HSU.out; have := HSV2.out; omega
         have HBIG := Lib.hid hbig
         clear hbig
         generalize hx : gi u i = x at *
         generalize htot : sumT (gi v) j + sumT (gi u) i = tot at *
         by_cases h1 : x < -1099511627776
         ·have hb := HBAD.out (HFALSE.out (by unfold numB; rw [decide_eq_false (by omega : ¬ -1099511627776 ≤ x)]; rfl)) _ hB.out
          have HBB := Lib.hid hb
          clear hb
          go_wp2_with fail
          go_ret3
          exact HBB.out
         by_cases h2 : 1099511627776 < x
         ·have hb := HBAD.out (HFALSE.out (by unfold numB; rw [decide_eq_false (by omega : ¬ x ≤ 1099511627776)]; simp)) _ hB.out
          have HBB := Lib.hid hb
          clear hb
          go_wp2_with fail
          go_ret3
          exact HBB.out
         have hnum : numB x = true := by unfold numB; rw [decide_eq_true (by omega : -1099511627776 ≤ x), decide_eq_true (by omega : x ≤ 1099511627776)]; rfl
         have hW : wrap64 (tot + x) = tot + x := by have := HBIG.out; exact nw (by omega) (by omega)
         have HNUM := Lib.hid hnum; have HXB := Lib.hid (show -1099511627776 ≤ x ∧ x ≤ 1099511627776 by omega)
         clear hnum
         have HWT := Lib.hid hW
         go_wp2_with fail
         go_loopw [6, 67] (fun sv iv wr => sv = .int .i64 (tot + x) ∧ ∃ q : Nat, q ≤ j ∧ iv = .int .i64 q ∧ Hid (Below w.heap.size w wr) ∧ Hid (fitR row v x q = true)) (fun _ iv _ => j - (intOf iv).toNat)
         case atStart => exact ⟨by first | rfl | rw [hW], 0, Nat.zero_le _, rfl, hB, Lib.hid rfl⟩
         case round =>
          clear hW
          obtain ⟨rfl, q, hqj, rfl, hB2, hFR⟩ := hrel
          by_cases hq : q < j
          ·have hq' : (q : Int) < (j : Int) := by omega
           obtain ⟨bv, ov, e, hcv, _⟩ := HVC.out _ hB2.out q hq
           subst e
           obtain ⟨bR, oR, e, hcq, _⟩ := (HRC.out.below hB2.out (Nat.le_refl _)).int (j := q) (by rw [HRL.out]; exact hq)
           subst e
           have hfs2 := all_range_succ (fun j => !(decide (0 ≤ gi row j) && decide (gi row j < x + gi v j))) q
           have hgv := HGV.out q
           have hWx : wrap64 (x + gi v q) = x + gi v q := by have := HXB.out; exact nw (by omega) (by omega)
           have hbadq : (!(decide (0 ≤ gi row q) && decide (gi row q < x + gi v q))) = false → provB cost u v = false := by
            intro hq2
            refine HFALSE.out ?_
            unfold fitR
            rw [all_range_false (f := fun j => !(decide (0 ≤ gi row j) && decide (gi row j < x + gi v j))) hq hq2]; simp
           have HFS2 := Lib.hid hfs2; have HBQ := Lib.hid hbadq
           clear hfs2 hgv hbadq
           generalize hcj : gi row q = cj at *
           generalize hvj : gi v q = vj at *
           by_cases hc0 : 0 ≤ cj
           ·have hd0 : decide (0 ≤ cj) = true := decide_eq_true hc0
            by_cases hlt : cj < x + vj
            ·have hd1 : decide (cj < x + vj) = true := decide_eq_true hlt
             have HBB := Lib.hid (HBAD.out (HBQ.out (by rw [hd0, hd1]; rfl)) _ hB2.out)
             go_wp2_with fail
             go_ret3
             exact HBB.out
            ·have hd1 : decide (cj < x + vj) = false := decide_eq_false hlt
             have HF2 := Lib.hid (show fitR row v x (q + 1) = true by
              unfold fitR
              rw [HFS2.out, hd0, hd1]
              have := hFR.out
              unfold fitR at this
              rw [this]; rfl)
             go_wp2_with fail
             exact ⟨⟨rfl, q + 1, by omega, by go_num, hB2, HF2⟩, by simp [intOf]; omega⟩
           ·have hd0 : decide (0 ≤ cj) = false := decide_eq_false hc0
            have HF2 := Lib.hid (show fitR row v x (q + 1) = true by
             unfold fitR
             rw [HFS2.out, hd0]
             have := hFR.out
             unfold fitR at this
             rw [this]; rfl)
            go_wp2_with fail
            exact ⟨⟨rfl, q + 1, by omega, by go_num, hB2, HF2⟩, by simp [intOf]; omega⟩
          ·obtain rfl : q = j := by omega
           have hq' : ¬ (q : Int) < (q : Int) := by omega
           have hfu : fitU cost u v q (i + 1) = true := by
            unfold fitU
            rw [HFS.out, HNUM.out, hFR.out]
            have := hFU.out
            unfold fitU at this
            rw [this]; rfl
           have HFU := Lib.hid hfu; have HS2 := Lib.hid (show tot + x = sumT (gi v) q + sumT (gi u) (i + 1) by rw [HSUCC.out])
           clear hfu
           go_wp2_with fail
           exact ⟨⟨i + 1, by omega, by go_num, by rw [HS2.out], hB2, HFU⟩, by simp [intOf]; omega⟩
        ·obtain rfl : i = nu := by omega
         have hi' : ¬ (i : Int) < (i : Int) := by omega
         have hpb : provB cost u v = true := by
          rw [hPB.out, hFU.out, HOD.out, decide_eq_true HNU.out, decide_eq_true HNV.out]; rfl
         have HG := Lib.hid (HGOOD.out hpb _ hB.out)
         clear hpb
         generalize sumT (gi v) j + sumT (gi u) i = tot at *
         go_wp2_with fail
         go_ret3
         exact HG.out
   ·have hd2 : ((nv : Int) != (m : Int)) = true := by simp; omega
    go_wp2_with fail
    go_ret3
    exact HBAD.out (by rw [hPB.out, show decide (v.length = m) = false from decide_eq_false (by rw [HNV.out]; exact hvm)]; simp) _ HB1.out
  ·have hd1 : ((nu : Int) != (n : Int)) = true := by simp; omega
   go_wp2_with fail
   go_ret3
   exact HBAD.out (by rw [hPB.out, show decide (u.length = n) = false from decide_eq_false (by rw [HNU.out]; exact hun)]; simp) _ HB1.out
 ·have hne : (castE cost != 0) = true := by simpa using hce
  have hp : provN cost u v = 0 := by rw [hPN.out, if_neg (fun q => hce q.1)]
  rw [hp, decide_eq_false hce, Bool.false_and]
  clear hce hp
  go_enter Tryz.func25, Tryz.ntmps25
  go_wp2_with fail
  refine HCH.out.mono ?_
  rintro e w1 ⟨rfl, hb1⟩
  have HB1 := Lib.hid hb1
  clear hb1 HCH
  go_wp2_with fail
  go_ret3
  exact ⟨rfl, HB1.out⟩
end Go.Proofs.YtggcbblikgankaaGreatDoor
end
section
namespace Go.Proofs.YtggcbblikgankaaGreatDoor
open Go Go.RowKit Go.Deep
structure RI (w : World) (g : Nat) (l : List Int) : Prop where
 cell : ∀ q, q < l.length → w.cell? ⟨g, q, none⟩ = some (.int .i64 (gi l q))
 free : ∀ q, q < l.length → w.frozen? ⟨g, q, none⟩ = false
theorem RI.set {w : World} {g : Nat} {l : List Int} (h : RI w g l) (j : Nat) (hj : j < l.length) (x : Int) : RI (w.setCell ⟨g, j, none⟩ (.int .i64 x)) g (l.set j x) := by
 refine ⟨fun q hq => ?_, fun q hq => ?_⟩
 ·rw [List.length_set] at hq
  rw [gi_set _ _ _ _ hj]
  by_cases e : q = j
  ·subst e
   rw [if_pos rfl]
   exact World.cell?_setCell_same _ _ _ (h.cell q hq)
  ·rw [if_neg e]
   refine (World.cell?_setCell_other _ _ _ _ ?_).trans (h.cell q hq)
   intro e2
   injection e2 with _ e3 _
   exact e e3.symm
 ·rw [List.length_set] at hq
  rw [World.frozen?_setCell]
  exact h.free q hq
theorem RI.below {w w' : World} {g B : Nat} {l : List Int} (h : RI w g l) (hb : Below B w w') (hB : g < B) : RI w' g l := by
 refine ⟨fun q hq => (hb.cell (p := ⟨g, q, none⟩) hB).trans (h.cell q hq), fun q hq => ?_⟩
 have := h.free q hq
 unfold World.frozen? at this ⊢
 rw [hb.block g hB]
 exact this
noncomputable def code66 : Code := (Tryz.f47.body).getD .skip
noncomputable def part66n3 : Code := fstC (lastPart 3 code66)
noncomputable def loopL : Code := lopC (blkC (sndC part66n3))
noncomputable def bodyL : Code := blkC (fstC (sndC (sndC loopL)))
noncomputable def maskS : Code := fstC (sndC (sndC (sndC bodyL)))
set_option maxRecDepth 100000 in
set_option maxHeartbeats 8000000 in
theorem mask_loop (w0 : World) (kT D g m cap j : Nat) (row : List Int) (taken : List Bool) (hrl : row.length = m) (htl : taken.length = m) (hm0 : m ≤ 1000) (B : Nat) (hD : D < B) (hg : B ≤ g) (hkT : kT < B)
  (w : World) (hb0 : Below B w0 w) (hT : w.cell? ⟨kT, 0, none⟩ = some (.slice (some ⟨D, 0, none⟩) m m)) (hBD : BB w D taken) (hR : RI w g (row.set j (-1))) (e0 e1 e3 e4 e5 e6 e7 e8 e9 e10 e11 e12 e14 e15 e16 e17 e18 e19 e20 e21 e22 e23 e24 e25 e26 e27 e28 e29 e30 e31 e32 e33 e34 e35 e36 e37 e38 e39 e40 e41 e42 e43 e44 e45 e46 e47 e48 e49 e50 e51 e52 e53 e54 e55 e56 e57 e58 e59 e60 e61 e62 e63 e64 e65 e66 e67 e68 e69 e70 e71 e72 e73 e74 e75 e76 e77 e78 e79 e80 e81 e82 e83 e84 e85 e86 e87 e88 e89 e90 e91 e92 e93 e94 e95 e96 e97 e98 e99 e100 e101 e102 e103 e104 e105 e106 e107 e108 e109 e110 : Value) (Q : Exit → Act → World → Prop) (X : Code)
  (hX : ∀ (w' : World) (f14 f15 f54 f55 f56 f57 f58 f59 f60 f61 f62 f63 f64 f65 : Value), Below B w0 w' → RI w' g (maskK row j taken m) → (∀ h, h ≠ g → w'.heap[h]? = w.heap[h]?) → Code.wp Tryz.prog X Q { tmps := #[e0, e1, .pointer (some ⟨kT, 0, none⟩), e3, e4, e5, e6, e7, e8, e9, e10, e11, e12, .slice (some ⟨g, 0, none⟩) m cap, f14, f15, e16, e17, e18, e19, e20, e21, e22, e23, e24, e25, e26, e27, e28, e29, e30, e31, e32, e33, e34, e35, e36, e37, e38, e39, e40, e41, e42, e43, e44, e45, e46, e47, e48, e49, e50, e51, e52, e53, f54, f55, f56, f57, f58, f59, f60, f61, f62, f63, f64, f65, e66, e67, e68, e69, e70, e71, e72, e73, e74, e75, e76, e77, e78, e79, e80, e81, e82, e83, e84, e85, e86, e87, e88, e89, e90, e91, e92, e93, e94, e95, e96, e97, e98, e99, e100, e101, e102, e103, e104, e105, e106, e107, e108, e109, e110], defers := [] } w') :
  Code.wp Tryz.prog (.seq maskS X) Q { tmps := #[e0, e1, .pointer (some ⟨kT, 0, none⟩), e3, e4, e5, e6, e7, e8, e9, e10, e11, e12, .slice (some ⟨g, 0, none⟩) m cap, e14, e15, e16, e17, e18, e19, e20, e21, e22, e23, e24, e25, e26, e27, e28, e29, e30, e31, e32, e33, e34, e35, e36, e37, e38, e39, e40, e41, e42, e43, e44, e45, e46, e47, e48, e49, e50, e51, e52, e53, e54, e55, e56, e57, e58, e59, e60, e61, e62, e63, e64, e65, e66, e67, e68, e69, e70, e71, e72, e73, e74, e75, e76, e77, e78, e79, e80, e81, e82, e83, e84, e85, e86, e87, e88, e89, e90, e91, e92, e93, e94, e95, e96, e97, e98, e99, e100, e101, e102, e103, e104, e105, e106, e107, e108, e109, e110], defers := [] } w := by
 have HX := Lib.hid hX; have HR := Lib.hid hR; have HBD := Lib.hid hBD; have HRL := Lib.hid hrl; have HTL := Lib.hid htl; have HB0 := Lib.hid hb0; have HG := Lib.hid hg; have HD := Lib.hid hD
 clear hX hR hBD hrl htl hb0 hkT hg hD
 unfold maskS bodyL loopL part66n3 code66
 conv => arg 2; arg 1; whnf
 go_wp2_with fail
 go_loopw [56] (fun iv wr => ∃ k : Nat, k ≤ m ∧ iv = .int .i64 k ∧ Hid (Below B w0 wr) ∧ Hid (RI wr g (maskK row j taken k)) ∧ Hid (∀ h, h ≠ g → wr.heap[h]? = w.heap[h]?)) (fun iv _ => m - (intOf iv).toNat)
 case atStart => exact ⟨0, Nat.zero_le _, rfl, HB0, HR, fun _ _ => rfl⟩
 case round =>
  clear HR HB0
  obtain ⟨k, hkm, rfl, hB, hR, hO⟩ := hrel
  by_cases hk : k < m
  ·have hk' : (k : Int) < (m : Int) := by omega
   have hgD : D ≠ g := by have := HG.out; have := HD.out; omega
   have hBD2 : BB wr D taken := (hO.out D hgD).trans HBD.out
   have cd := hBD2.cell (j := k) (by rw [HTL.out]; exact hk)
   have hlen := maskK_len row j taken k
   have cx := hR.out.cell k (by rw [hlen, HRL.out]; exact hk)
   have fx := hR.out.free k (by rw [hlen, HRL.out]; exact hk)
   have hstep := maskK_succ row j taken k
   unfold mask1 at hstep
   cases htk : gb taken k with
   | true =>
    rw [htk] at cd
    rw [if_pos htk] at hstep
    have HR2 := Lib.hid (hR.out.set k (by rw [hlen, HRL.out]; exact hk) (-1))
    have HO2 := Lib.hid (fun h (hh : h ≠ g) => (heap_setCell (w := wr) (a := ⟨g, k, none⟩) (v := .int .i64 (-1)) hh).trans (hO.out h hh))
    have HB2 := Lib.hid (hB.out.setCell (p := ⟨g, k, none⟩) HG.out (.int .i64 (-1)))
    have HST := Lib.hid hstep
    clear hstep htk hlen hBD2 hR hO hB
    generalize gi (maskK row j taken k) k = xk at *
    go_wp2_with fail
    exact ⟨⟨k + 1, by omega, by go_num, HB2, by rw [HST.out]; exact HR2, HO2⟩, by simp [intOf]; omega⟩
   | false =>
    rw [htk] at cd
    rw [if_neg (by rw [htk]; decide)] at hstep
    have HST := Lib.hid hstep
    clear hstep htk hlen hBD2 cx fx
    go_wp2_with fail
    exact ⟨⟨k + 1, by omega, by go_num, hB, by rw [HST.out]; exact hR, hO⟩, by simp [intOf]; omega⟩
  ·obtain rfl : k = m := by omega
   have hk' : ¬ (k : Int) < (k : Int) := by omega
   go_wp2_with fail
   exact HX.out _ _ _ _ _ _ _ _ _ _ _ _ _ _ _ hB.out hR.out hO.out
end Go.Proofs.YtggcbblikgankaaGreatDoor
end
section
namespace Go.Proofs.YtggcbblikgankaaGreatDoor
open Go Go.RowKit Go.Deep
theorem own_RI {w : World} {base m : Nat} {v : Value} {row : List Int} (hm : 0 < m) (hl : row.length = m) (h : w.ownsRow base 3 1 v m (intsL row)) : ∃ g cap, v = .slice (some ⟨g, 0, none⟩) m cap ∧ base ≤ g ∧ g < w.heap.size ∧ RI w g row := by
 obtain ⟨h1, h2 | ⟨g, cap, cur, e, hb, hg, hn, _, hs, ht⟩⟩ := h
 ·omega
 ·refine ⟨g, cap, e, hb, (Array.getElem?_eq_some_iff.1 hg).1, ⟨fun q hq => ?_, fun q _ => by simp [World.frozen?, hg]⟩⟩
  refine cell_at hg q ?_
  have hq2 : (cur.toList.take (m * 1))[q]? = (intsL row)[q]? := by rw [ht]
  rw [List.getElem?_take, if_pos (by omega)] at hq2
  rw [← Array.getElem?_toList, hq2]
  unfold intsL gi
  rw [List.getElem?_map, List.getElem?_eq_getElem hq]; rfl
theorem RI.row {w : World} {g m cap : Nat} {l : List Int} (h : RI w g l) (hl : l.length = m) (hm : m ≤ 1000) (hg : g < w.heap.size) : IsRow encI 1 w (.slice (some ⟨g, 0, none⟩) m cap) l := by
 refine ⟨some ⟨g, 0, none⟩, cap, by rw [hl], by rw [hl]; simp only [maxLen]; omega, Or.inr ⟨g, 0, rfl, ?_, hg⟩⟩
 intro q x hx k v hv
 have hq := (List.getElem?_eq_some_iff.1 hx).1
 rcases k with _ | k
 ·obtain rfl : _ = v := by simpa [encI] using hv
  rw [Nat.zero_add, Nat.mul_one, Nat.add_zero, h.cell q hq]
  unfold gi
  rw [hx]; rfl
 ·simp [encI] at hv
structure LeftW (L n m : Nat) (cost : List (List Int)) (i j : Nat) (taken : List Bool) (w : World) (k : Nat) (hs : List Value) (wr : World) : Prop where
 below : Below L w wr
 lt : L < wr.heap.size
 own : wr.ownsRow L 55 1 (.slice (some ⟨L, 0, none⟩) k n) k hs
 len : hs.length = k
 rows : ∀ r, r < k → ∃ g cap, hs[r]? = some (.slice (some ⟨g, 0, none⟩) m cap) ∧ L < g ∧ g < wr.heap.size ∧ RI wr g (maskK (cost[i + 1 + r]?.getD []) j taken m)
theorem RI.block {w w' : World} {g : Nat} {l : List Int} (h : RI w g l) (e : w'.heap[g]? = w.heap[g]?) : RI w' g l := by
 refine ⟨fun q hq => ?_, fun q hq => ?_⟩
 ·rw [World.cell?_of_block (w := w) e]; exact h.cell q hq
 ·rw [World.frozen?_of_block (w := w) e]; exact h.free q hq
theorem RI.lt {w : World} {g : Nat} {l : List Int} (h : RI w g l) (hl : 0 < l.length) : g < w.heap.size := by
 have := h.cell 0 hl
 unfold World.cell? at this
 cases e : w.heap[g]? with
 | none => simp only [e] at this; cases this
 | some o => exact (Array.getElem?_eq_some_iff.1 e).1
theorem LeftW.step {L n m : Nat} {cost : List (List Int)} {i j : Nat} {taken : List Bool} {w wr w3 w4 : World} {k g cap : Nat} {hs : List Value} {row : List Int} {o : Obj}
  (h : LeftW L n m cost i j taken w k hs wr) (hb3 : Below wr.heap.size wr w3) (hg : wr.heap.size ≤ g) (hR : RI w3 g (maskK row j taken m)) (hrow : cost[i + 1 + k]?.getD [] = row) (hl : 0 < row.length)
  (hown : w4.ownsRow L 55 1 (.slice (some ⟨L, 0, none⟩) (k + 1) n) (k + 1) (hs ++ [.slice (some ⟨g, 0, none⟩) m cap])) (hgr : (w3.alloc o).grownBy w4 (some L)) : LeftW L n m cost i j taken w (k + 1) (hs ++ [.slice (some ⟨g, 0, none⟩) m cap]) w4 := by
 have hLs := h.lt
 have h3 := hb3.size
 have hba : Below w3.heap.size w3 (w3.alloc o) := (Below.refl _ w3).alloc (Nat.le_refl _) o
 have hsa := hba.size
 have hgs := hgr.size
 have hgl : g < w3.heap.size := hR.lt (by rw [maskK_len]; exact hl)
 have hblk : ∀ q, L < q → q < w3.heap.size → w4.heap[q]? = w3.heap[q]? := fun q h1 h2 => (hgr.block q (by omega) (fun e => by cases e; omega)).trans (hba.block q h2)
 refine ⟨?_, by omega, hown, by rw [List.length_append, h.len]; rfl, fun r hr => ?_⟩
 ·exact ((h.below.trans (hb3.mono (by omega))).trans (hba.mono (by omega))).grown hgr (by omega) (fun q hq => by cases hq; omega)
 ·by_cases hrk : r < k
  ·obtain ⟨g2, c2, e2, h4, h5, h6⟩ := h.rows r hrk
   refine ⟨g2, c2, by rw [List.getElem?_append_left (by rw [h.len]; omega)]; exact e2, h4, by omega, h6.block ((hblk g2 h4 (by omega)).trans (hb3.block g2 h5))⟩
  ·obtain rfl : r = k := by omega
   refine ⟨g, cap, by rw [List.getElem?_append_right (by rw [h.len]; omega), h.len, Nat.sub_self]; rfl, by omega, by omega, ?_⟩
   rw [hrow]
   exact hR.block (hblk g (by omega) hgl)
noncomputable def maskR : Code := .seq maskS (sndC (sndC (sndC (sndC bodyL))))
theorem info79 : ∃ i, Tryz.prog.info? 55 = some i ∧ i.zero = some (.slice none 0 0) ∧ i.size = 1 := by
 have h1 : (Tryz.prog.info? 55).map (·.zero) = some (some (.slice none 0 0)) := by kernel_rfl
 have h2 : (Tryz.prog.info? 55).map (·.size) = some 1 := by kernel_rfl
 cases h : Tryz.prog.info? 55 with
 | none => rw [h] at h1; cases h1
 | some i =>
  rw [h] at h1 h2
  exact ⟨i, rfl, Option.some.inj h1, Option.some.inj h2⟩
set_option maxRecDepth 100000 in
set_option maxHeartbeats 8000000 in
theorem left_loop (kT kC D L n m i j : Nat) (cost : List (List Int)) (taken : List Bool) (aoC : Option Addr) (ccC : Nat) (hl : cost.length = n) (hrl : ∀ r ∈ cost, r.length = m) (htl : taken.length = m) (hm0 : m ≤ 1000) (hn0 : n ≤ 1000) (hi : i < n) (hj : j < m) (hcap : n ≤ ccC) (hcc : ccC ≤ maxLen)
  (w : World) (hC : IsMat w (.slice aoC n ccC) cost) (hcl : ∀ W, Below L w W → IsMat W (.slice aoC n ccC) cost) (hbx : w.cell? ⟨kC, 0, none⟩ = some (.slice aoC n ccC)) (hkC : kC < L) (hT : w.cell? ⟨kT, 0, none⟩ = some (.slice (some ⟨D, 0, none⟩) m m)) (hkT : kT < L) (hBD : BB w D taken) (hD : D < L)
  (hL : LeftW L n m cost i j taken w 0 [] w) (e4 e5 e6 e7 e8 e9 e11 e12 e13 e14 e15 e16 e17 e18 e19 e20 e21 e22 e23 e24 e25 e26 e27 e28 e29 e30 e31 e32 e33 e34 e35 e36 e37 e38 e39 e40 e41 e42 e43 e44 e45 e46 e47 e48 e49 e50 e51 e52 e53 e54 e55 e56 e57 e58 e59 e60 e61 e62 e63 e64 e65 e66 e67 e68 e69 e70 e71 e72 e73 e74 e75 e76 e77 e78 e79 e80 e81 e82 e83 e84 e85 e86 e87 e88 e89 e90 e91 e92 e93 e94 e95 e96 e97 e98 e99 e100 e101 e102 e103 e104 e105 e106 e107 e108 e109 e110 : Value) (Q : Exit → Act → World → Prop) (X : Code)
  (hX : ∀ (w' : World) (hs : List Value) (f12 f13 f14 f15 f40 f41 f42 f43 f44 f45 f46 f47 f48 f49 f50 f51 f52 f53 f54 f55 f56 f57 f58 f59 f60 f61 f62 f63 f64 f65 f66 f67 f68 f69 f70 : Value), LeftW L n m cost i j taken w (n - (i + 1)) hs w' → Code.wp Tryz.prog X Q { tmps := #[.int .i64 i, .int .i64 j, .pointer (some ⟨kT, 0, none⟩), .pointer (some ⟨kC, 0, none⟩), e4, e5, e6, e7, e8, e9, .slice (some ⟨L, 0, none⟩) (n - (i + 1)) n, e11, f12, f13, f14, f15, e16, e17, e18, e19, e20, e21, e22, e23, e24, e25, e26, e27, e28, e29, e30, e31, e32, e33, e34, e35, e36, e37, e38, e39, f40, f41, f42, f43, f44, f45, f46, f47, f48, f49, f50, f51, f52, f53, f54, f55, f56, f57, f58, f59, f60, f61, f62, f63, f64, f65, f66, f67, f68, f69, f70, e71, e72, e73, e74, e75, e76, e77, e78, e79, e80, e81, e82, e83, e84, e85, e86, e87, e88, e89, e90, e91, e92, e93, e94, e95, e96, e97, e98, e99, e100, e101, e102, e103, e104, e105, e106, e107, e108, e109, e110], defers := [] } w') :
  Code.wp Tryz.prog (.seq part66n3 X) Q { tmps := #[.int .i64 i, .int .i64 j, .pointer (some ⟨kT, 0, none⟩), .pointer (some ⟨kC, 0, none⟩), e4, e5, e6, e7, e8, e9, .slice (some ⟨L, 0, none⟩) 0 n, e11, e12, e13, e14, e15, e16, e17, e18, e19, e20, e21, e22, e23, e24, e25, e26, e27, e28, e29, e30, e31, e32, e33, e34, e35, e36, e37, e38, e39, e40, e41, e42, e43, e44, e45, e46, e47, e48, e49, e50, e51, e52, e53, e54, e55, e56, e57, e58, e59, e60, e61, e62, e63, e64, e65, e66, e67, e68, e69, e70, e71, e72, e73, e74, e75, e76, e77, e78, e79, e80, e81, e82, e83, e84, e85, e86, e87, e88, e89, e90, e91, e92, e93, e94, e95, e96, e97, e98, e99, e100, e101, e102, e103, e104, e105, e106, e107, e108, e109, e110], defers := [] } w := by
 have HX := Lib.hid hX; have HL := Lib.hid hL; have HCL := Lib.hid hcl; have HLN := Lib.hid hl; have HRL := Lib.hid hrl; have HTL := Lib.hid htl; have HBD := Lib.hid hBD; have HT := Lib.hid hT; have HD := Lib.hid hD; have HKT := Lib.hid hkT
 obtain ⟨bC, oC, rfl, _, _, _, _, hbC⟩ := hC.at_ (i := i) (by omega)
 have hmx : (maxLen : Nat) < 9223372036854775808 := by decide
 clear hX hL hcl hl hrl htl hBD hT hD hkT hC
 unfold part66n3 code66
 conv => arg 2; arg 1; whnf
 have hle1 : (i : Int) + 1 ≤ (n : Int) := by omega
 have hle2 : (n : Int) ≤ (ccC : Int) := by omega
 by_cases hce : ccC = i + 1
 ·obtain rfl : n = i + 1 := by omega
  go_wp2_with fail
  go_loopw [10, 45] (fun lv iv wr => lv = .slice (some ⟨L, 0, none⟩) 0 (i + 1) ∧ iv = .int .i64 0 ∧ wr = w) (fun _ _ _ => 0)
  case atStart => exact ⟨rfl, rfl, rfl⟩
  case round =>
   obtain ⟨rfl, rfl, rfl⟩ := hrel
   go_wp2_with fail
   have HX2 := HX.out
   rw [Nat.sub_self] at HX2
   exact HX2 _ []  _ _ _ _ _ _ _ _ _ _ _ _ _ _ _ _ _ _ _ _ _ _ _ _ _ _ _ _ _ _ _ _ _ _ _ HL.out
 ·have hce2 : (ccC : Int) - ((i : Int) + 1) ≠ 0 := by omega
  go_wp2_with fail
  go_loopw [10, 45] (fun lv iv wr => ∃ (k : Nat) (hs : List Value), k ≤ n - (i + 1) ∧ lv = .slice (some ⟨L, 0, none⟩) k n ∧ iv = .int .i64 k ∧ Hid (LeftW L n m cost i j taken w k hs wr)) (fun _ iv _ => n - (intOf iv).toNat)
  case atStart => exact ⟨0, [], Nat.zero_le _, rfl, rfl, HL⟩
  case round =>
   clear HL
   obtain ⟨k, hs, hkn, rfl, rfl, hL⟩ := hrel
   have hb0 := hL.out.below
   by_cases hk : k < n - (i + 1)
   ·have hk' : (k : Int) < ((n - (i + 1) : Nat) : Int) := by omega
    have hk2 : (k : Int) < (n : Int) - ((i : Int) + 1) := by omega
    have hir : i + 1 + k < cost.length := by have := HLN.out; omega
    obtain ⟨b2, o2, e2, aR, cR, hcR, hrowR, hbR⟩ := (HCL.out wr hb0).at_ (i := i + 1 + k) hir
    cases e2
    have hbx2 : wr.cell? ⟨kC, 0, none⟩ = some (.slice (some ⟨bC, oC, none⟩) n ccC) := (hb0.cell (p := ⟨kC, 0, none⟩) hkC).trans hbx
    have hcR2 : wr.cell? ⟨bC, oC + (i + 1) + k, none⟩ = some (.slice aR (cost[i + 1 + k]?.getD []).length cR) := by rw [show oC + (i + 1) + k = oC + (i + 1 + k) by omega]; exact hcR
    have hrl2 : (cost[i + 1 + k]?.getD []).length = m := HRL.out _ (by rw [List.getElem?_eq_getElem hir]; exact List.getElem_mem _)
    have HCR := Lib.hid hcR2
    clear hcR hcR2
    generalize hrow : cost[i + 1 + k]?.getD [] = row at *
    have HROW := Lib.hid hrow
    rw [hrl2] at HCR hrowR
    obtain ⟨bR, oR, rfl, _, _⟩ := hrowR.int (j := 0) (by omega)
    have hcells : ∀ q, q < row.length → wr.cell? ⟨bR, oR + q, none⟩ = some (.int .i64 (row.getD q 0)) := fun q hq => by
     obtain ⟨b3, o3, e3, h3, _⟩ := hrowR.int (j := q) hq
     cases e3
     rw [h3]; unfold gi; rw [List.getD_eq_getElem?_getD]
    have c67 := Tryz.slices_Clone_int bR oR m cR row wr (by omega) (by omega) hcells
    have c67b := c67.mono (R' := fun e w' => ∃ g cap, e = .returned (.slice (some ⟨g, 0, none⟩) m cap) ∧ Hid (wr.heap.size ≤ g ∧ g < w'.heap.size ∧ RI w' g row ∧ Below wr.heap.size wr w')) (by
     rintro e w' ⟨v', rfl, ho, _, hb⟩
     rw [show (row.take m).map (Value.int .i64) = intsL row by rw [List.take_of_length_le (by omega)]; rfl] at ho
     obtain ⟨g, cap, rfl, h1, h2, h3⟩ := own_RI (by omega) hrl2 ho
     exact ⟨g, cap, rfl, Lib.hid ⟨h1, h2, h3, hb⟩⟩)
    clear c67 hcells hrowR
    have hcR3 := HCR.out
    change Code.wp Tryz.prog (.seq (fstC loopL) (.seq (fstC (sndC loopL)) (.seq (.block 1 (.seq (fstC bodyL) (.seq (fstC (sndC bodyL)) (.seq (fstC (sndC (sndC bodyL))) maskR)))) (sndC (sndC (sndC loopL)))))) _ _ _
    go_wp2_with fail
    conv => arg 2; whnf
    go_wp2_with fail
    conv => arg 2; whnf
    go_wp2_with fail
    conv => arg 2; whnf
    go_wp2_with fail
    conv => arg 2; whnf
    go_wp2_with (go_at_call 48; refine c67b.mono ?_; rintro e w1 ⟨g, cap, rfl, hw1⟩)
    obtain ⟨hg0, hg1, hR1, hb1⟩ := hw1.out
    have cj := hR1.cell j (by omega)
    have fj := hR1.free j (by omega)
    have hj' : (j : Int) < (m : Int) := by omega
    generalize gi row j = xj at cj
    have HR1 := Lib.hid hR1; have HB1 := Lib.hid hb1; have HG0 := Lib.hid hg0
    clear hR1 hb1 hg0 hg1 hw1
    conv => arg 2; whnf
    go_wp2_with fail
    unfold maskR
    have hLs := hL.out.lt
    have hb2 : Below wr.heap.size wr (w1.setCell ⟨g, j, none⟩ (.int .i64 (-1))) := HB1.out.setCell (p := ⟨g, j, none⟩) HG0.out _
    have hbw2 : Below L w (w1.setCell ⟨g, j, none⟩ (.int .i64 (-1))) := hb0.trans (hb2.mono (by omega))
    have hT2 := (hbw2.cell (p := ⟨kT, 0, none⟩) HKT.out).trans HT.out
    have hBD2 : BB (w1.setCell ⟨g, j, none⟩ (.int .i64 (-1))) D taken := (hbw2.block D HD.out).trans HBD.out
    refine mask_loop wr kT D g m cap j row taken hrl2 HTL.out hm0 wr.heap.size (by have := HD.out; omega) HG0.out (by have := HKT.out; omega) _ hb2 hT2 hBD2 (HR1.out.set j (by omega) (-1)) _ _ _ _ _ _ _ _ _ _ _ _ _ _ _ _ _ _ _ _ _ _ _ _ _ _ _ _ _ _ _ _ _ _ _ _ _ _ _ _ _ _ _ _ _ _ _ _ _ _ _ _ _ _ _ _ _ _ _ _ _ _ _ _ _ _ _ _ _ _ _ _ _ _ _ _ _ _ _ _ _ _ _ _ _ _ _ _ _ _ _ _ _ _ _ _ _ _ _ _ _ _ _ _ _ _ _ _ _ _ _ ?_
    intro w3 _ _ _ _ _ _ _ _ _ _ _ _ _ _ hb3 hR3 hO3
    have HB3 := Lib.hid hb3; have HR3 := Lib.hid hR3
    clear hb2 hbw2 hT2 hBD2 hb3 hR3 hO3
    obtain ⟨i79, hi79, _, hz79⟩ := info79
    have hown3 : w3.ownsRow L 55 1 (.slice (some ⟨L, 0, none⟩) k n) k hs := owns_kept hL.out.own HB3.out (fun q hq => by cases hq; omega)
    have hown4 := hown3.alloc (.cells #[.slice (some ⟨g, 0, none⟩) m cap] 55)
    have HOWN := Lib.hid hown4
    clear hown3 hown4
    go_wp2_with fail
    conv => arg 2; whnf
    go_wp2_with (at_builtin; refine wpList_append_fits _ rfl (.tmp 66) (.tmp 68) 50 rfl L 55 i79 1 Tryz.underlying50 hi79 hz79 L k n hs rfl HOWN.out ⟨w3.heap.size, 0, none⟩ 1 1 [.slice (some ⟨g, 0, none⟩) m cap] rfl rfl (cell_one_new _ _ _) (by intro u hu; simp at hu; subst hu; rfl) (by omega) ?_; intro w4 hown5 hgrow4)
    have HL5 := Lib.hid (hL.out.step HB3.out HG0.out HR3.out HROW.out (by omega) hown5 hgrow4)
    clear hown5 hgrow4
    conv => arg 2; whnf
    go_wp2_with fail
    exact ⟨⟨k + 1, _, by omega, rfl, by go_num, HL5⟩, by simp [intOf]; omega⟩
   ·obtain rfl : k = n - (i + 1) := by omega
    have hk' : ¬ ((n - (i + 1) : Nat) : Int) < (n : Int) - ((i : Int) + 1) := by omega
    go_wp2_with fail
    exact HX.out _ _  _ _ _ _ _ _ _ _ _ _ _ _ _ _ _ _ _ _ _ _ _ _ _ _ _ _ _ _ _ _ _ _ _ _ _ hL.out
end Go.Proofs.YtggcbblikgankaaGreatDoor
end
section
namespace Go.Proofs.YtggcbblikgankaaGreatDoor
open Go Go.RowKit Go.Deep
noncomputable def part66n6 : Code := fstC (lastPart 6 code66)
set_option maxRecDepth 100000 in
set_option maxHeartbeats 8000000 in
theorem sum_loop (M : List (List Int)) (n' m : Nat) (to : List Int) (aoL : Option Addr) (cL T : Nat) (hM : M.length = n') (hrl : ∀ r ∈ M, r.length = m) (hto : to.length = n') (htr : ∀ r, r < n' → 0 ≤ gi to r ∧ gi to r < (m : Int)) (s0 : Int) (hs : ∀ k, k ≤ n' → -1099511627776 ≤ s0 + sumT (fun r => cI M r (gi to r).toNat) k ∧ s0 + sumT (fun r => cI M r (gi to r).toNat) k ≤ 1099511627776) (hn0 : n' ≤ 1000) (hm0 : m ≤ 1000)
  (w : World) (hC : IsMat w (.slice aoL n' cL) M) (hT : BI w T to) (e0 e1 e2 e3 e4 e5 e6 e7 e8 e9 e11 e12 e13 e14 e15 e17 e18 e19 e21 e22 e23 e24 e25 e26 e27 e28 e29 e30 e31 e32 e33 e34 e35 e36 e37 e38 e39 e40 e41 e42 e43 e44 e45 e46 e47 e48 e49 e50 e51 e52 e53 e54 e55 e56 e57 e58 e59 e60 e61 e62 e63 e64 e65 e66 e67 e68 e69 e70 e71 e72 e73 e74 e75 e76 e77 e78 e79 e80 e81 e82 e83 e84 e85 e86 e87 e88 e89 e90 e91 e92 e93 e94 e95 e96 e97 e98 e99 e100 e101 e102 e103 e104 e105 e106 e107 e108 e109 e110 : Value) (Q : Exit → Act → World → Prop) (X : Code)
  (hX : ∀ (f21 f22 f88 f89 f90 f91 f92 f93 f94 f95 f96 f97 f98 f99 f100 f101 f102 f103 f104 : Value), Code.wp Tryz.prog X Q { tmps := #[e0, e1, e2, e3, e4, e5, e6, e7, e8, e9, .slice aoL n' cL, e11, e12, e13, e14, e15, .slice (some ⟨T, 0, none⟩) n' n', e17, e18, e19, .int .i64 (s0 + sumT (fun r => cI M r (gi to r).toNat) n'), f21, f22, e23, e24, e25, e26, e27, e28, e29, e30, e31, e32, e33, e34, e35, e36, e37, e38, e39, e40, e41, e42, e43, e44, e45, e46, e47, e48, e49, e50, e51, e52, e53, e54, e55, e56, e57, e58, e59, e60, e61, e62, e63, e64, e65, e66, e67, e68, e69, e70, e71, e72, e73, e74, e75, e76, e77, e78, e79, e80, e81, e82, e83, e84, e85, e86, e87, f88, f89, f90, f91, f92, f93, f94, f95, f96, f97, f98, f99, f100, f101, f102, f103, f104, e105, e106, e107, e108, e109, e110], defers := [] } w) :
  Code.wp Tryz.prog (.seq part66n6 X) Q { tmps := #[e0, e1, e2, e3, e4, e5, e6, e7, e8, e9, .slice aoL n' cL, e11, e12, e13, e14, e15, .slice (some ⟨T, 0, none⟩) n' n', e17, e18, e19, .int .i64 s0, e21, e22, e23, e24, e25, e26, e27, e28, e29, e30, e31, e32, e33, e34, e35, e36, e37, e38, e39, e40, e41, e42, e43, e44, e45, e46, e47, e48, e49, e50, e51, e52, e53, e54, e55, e56, e57, e58, e59, e60, e61, e62, e63, e64, e65, e66, e67, e68, e69, e70, e71, e72, e73, e74, e75, e76, e77, e78, e79, e80, e81, e82, e83, e84, e85, e86, e87, e88, e89, e90, e91, e92, e93, e94, e95, e96, e97, e98, e99, e100, e101, e102, e103, e104, e105, e106, e107, e108, e109, e110], defers := [] } w := by
 have HX := Lib.hid hX; have HC := Lib.hid hC; have HT := Lib.hid hT; have HS := Lib.hid hs; have HTR := Lib.hid htr; have HTO := Lib.hid hto; have HM := Lib.hid hM; have HRL := Lib.hid hrl
 clear hX hC hT hs htr hto hM hrl
 unfold part66n6 code66
 conv => arg 2; arg 1; whnf
 go_wp2_with fail
 go_loopw [20, 90] (fun sv iv wr => ∃ k : Nat, k ≤ n' ∧ sv = .int .i64 (s0 + sumT (fun r => cI M r (gi to r).toNat) k) ∧ iv = .int .i64 k ∧ wr = w) (fun _ iv _ => n' - (intOf iv).toNat)
 case atStart => exact ⟨0, Nat.zero_le _, by show Value.int .i64 s0 = .int .i64 (s0 + 0); rw [Int.add_zero], rfl, rfl⟩
 case round =>
  obtain ⟨k, hkn, rfl, rfl, rfl⟩ := hrel
  by_cases hk : k < n'
  ·have hk' : (k : Int) < (n' : Int) := by omega
   have cT := HT.out.cell (j := k) (by rw [HTO.out]; exact hk)
   obtain ⟨ht0, htm⟩ := HTR.out k hk
   have hb1 := HS.out k hkn
   have hb2 := HS.out (k + 1) hk
   have hstep : s0 + sumT (fun r => cI M r (gi to r).toNat) (k + 1) = s0 + sumT (fun r => cI M r (gi to r).toNat) k + cI M k (gi to k).toNat := by
    show s0 + (_ + _) = _
    rw [Int.add_assoc]
   have HST := Lib.hid hstep
   rw [hstep] at hb2
   generalize s0 + sumT (fun r => cI M r (gi to r).toNat) k = sk at *
   obtain ⟨q, hq⟩ : ∃ q : Nat, gi to k = (q : Int) := ⟨(gi to k).toNat, by omega⟩
   rw [hq] at cT htm hb2 HST hstep
   have hkl : k < M.length := by have := HM.out; omega
   obtain ⟨b1, o1, rfl, aR, cR, cH, hrow, _⟩ := HC.out.at_ hkl
   have hrl2 : (M[k]?.getD []).length = m := HRL.out _ (by rw [List.getElem?_eq_getElem hkl]; exact List.getElem_mem _)
   have hcell : cI M k ((q : Int)).toNat = gi (M[k]?.getD []) q := rfl
   rw [hcell] at hb2 HST
   generalize M[k]?.getD [] = row at cH hrow hrl2 hb2 HST
   rw [hrl2] at cH hrow
   obtain ⟨b2, o2, rfl, cX, _⟩ := hrow.int (j := q) (by omega)
   generalize gi row q = xq at cX hb2 HST
   have hlo : -9223372036854775808 ≤ sk + xq := by omega
   have hhi : sk + xq ≤ 9223372036854775807 := by omega
   clear hstep hcell hq hrow
   go_wp2_with fail
   exact ⟨⟨k + 1, by omega, by rw [HST.out], by go_num, trivial⟩, by simp [intOf]; omega⟩
  ·obtain rfl : k = n' := by omega
   have hk' : ¬ (k : Int) < (k : Int) := by omega
   go_wp2_with fail
   exact HX.out _ _ _ _ _ _ _ _ _ _ _ _ _ _ _ _ _ _ _
end Go.Proofs.YtggcbblikgankaaGreatDoor
end
section
namespace Go.Proofs.YtggcbblikgankaaGreatDoor
open Go Go.RowKit Go.Deep
noncomputable def part66n4 : Code := withLast 2 (lastPart 4 code66) (.seq part66n6 (lastPart 7 code66))
theorem info79b : (Tryz.prog.info? 55).map (fun i => (i.zero, i.size, i.bytes)) = some (some (.slice none 0 0), 1, 24) := by kernel_rfl
theorem LeftW.mat {L n m : Nat} {cost : List (List Int)} {i j : Nat} {taken : List Bool} {w wr : World} {hs : List Value} (h : LeftW L n m cost i j taken w (n - (i + 1)) hs wr) (hl : cost.length = n) (hrl : ∀ r ∈ cost, r.length = m) (htl : taken.length = m) (hm : m ≤ 1000) (hn : n ≤ 1000) :
  IsMat wr (.slice (some ⟨L, 0, none⟩) (n - (i + 1)) n) (leftM cost i j taken) := by
 have hrow : ∀ r, r < n - (i + 1) → (cost[i + 1 + r]?.getD []).length = m := fun r hr => hrl _ (by rw [List.getElem?_eq_getElem (by omega)]; exact List.getElem_mem _)
 refine ⟨hs, ?_, by rw [h.len, leftM_len, hl], ?_⟩
 ·refine ⟨some ⟨L, 0, none⟩, n, by rw [h.len], by rw [h.len]; simp only [maxLen]; omega, ?_⟩
  refine Or.inr ⟨L, 0, rfl, ?_, h.lt⟩
  intro q x hx k v hv
  have hq := (List.getElem?_eq_some_iff.1 hx).1
  rcases k with _ | k
  ·obtain rfl : x = v := by simpa [encH] using hv
   rw [Nat.zero_add, Nat.mul_one, Nat.add_zero]
   obtain ⟨_, h2 | ⟨g, cap, cur, e, hb, hg, hn, _, hs2, ht⟩⟩ := h.own
   ·have := h.len; omega
   ·injection e with e1 _ _
    injection e1 with e1
    injection e1 with e1 _ _
    subst e1
    refine cell_at hg q ?_
    have hq2 : (cur.toList.take ((n - (i + 1)) * 1))[q]? = hs[q]? := by rw [ht]
    rw [List.getElem?_take, if_pos (by have := h.len; omega)] at hq2
    rw [← Array.getElem?_toList, hq2, hx]
  ·simp [encH] at hv
 ·intro r x row hx hr
  have hq : r < n - (i + 1) := by have := (List.getElem?_eq_some_iff.1 hx).1; have := h.len; omega
  obtain ⟨g, cap, e, _, hg, hR⟩ := h.rows r hq
  rw [hx] at e
  obtain rfl := Option.some.inj e
  rw [leftM_row (by omega)] at hr
  obtain rfl := Option.some.inj hr
  rw [htl]
  exact hR.row (by rw [maskK_len]; exact hrow r hq) hm hg
end Go.Proofs.YtggcbblikgankaaGreatDoor
end
