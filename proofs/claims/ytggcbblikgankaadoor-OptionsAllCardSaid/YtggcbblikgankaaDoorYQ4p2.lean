/- The walk of the statement: part 2. -/
import Derived.Test.YtggcbblikgankaaDoorYQ4p1
import Derived.Test.YtggcbblikgankaaDoorZ4
set_option linter.unusedVariables false
set_option linter.unusedSimpArgs false
section
/- OptionsAll: the loops, the end, the whole walk. -/
namespace Go.Proofs.YtggcbblikgankaaDoor
open Go Go.RowKit

set_option maxRecDepth 100000 in
set_option maxHeartbeats 8000000 in
theorem all_loop (k : Wrk) (s : Sgn) (b : Bod) (top i : Nat) (F : AllFacts k s b top) (hi : i < 3) (htop : topOf b i = top) (hta : 0 ≤ k.ta ∧ k.ta ≤ 32768) (htc : 0 ≤ k.tc ∧ k.tc ≤ 32768) (ws : Array Value) (hw2 : ws[2]? = some (.int .i64 k.ta)) (hw4 : ws[4]? = some (.int .i64 k.tc)) (ao : Option Addr) (c A K : Nat)
    (w : World) (hE : Env w) (hz : 2 ≤ w.heap.size) (g0 : w.heap[A]? = some (.cells ws 32 (0, 0))) (g1 : w.heap[A + 1]? = some (.cells (bodCells b) 36 (0, 0))) (g2 : w.heap[K]? = some (.cells (sgnA s) 41 (0, 0))) (hrow : IsRow encRea 4 w (.slice ao (optL k s b).length c) (optL k s b)) (e0 e1 e2 e4 e6 e8 e10 e12 e13 e14 e15 e16 e17 e18 e19 e20 e21 e22 e23 e24 e25 e26 e27 e28 e29 e30 e31 e32 e33 e34 e35 e36 e37 e38 e39 e40 e41 e42 e43 e44 e45 e46 e47 e48 e49 e50 e51 e52 e53 e54 e55 e56 e57 e58 e59 e60 e61 e62 e63 e64 e65 e66 e67 e68 e69 e70 e71 e72 e73 e74 e75 e76 e77 e78 e79 e80 e81 e82 e83 e84 e85 e86 e87 e88 e89 e90 e91 e92 e93 e94 e95 e96 e97 e98 e99 e100 e101 e102 e103 e104 e105 e106 e107 e108 e109 e110 e111 e112 e113 e114 e115 e116 e117 e118 e119 e120 e121 e122 e123 e124 e125 e126 e127 e128 e129 e130 e131 e132 e133 e134 e135 e136 e137 e138 e139 e140 e141 e142 e143 e144 e145 e146 e147 e148 e149 e150 e151 e152 e153 e154 e155 e156 e157 e158 e159 e160 e161 e162 e163 e164 e165 e166 e167 e168 e169 e170 e171 e172 e173 e174 e175 e176 e177 e178 e179 e180 e181 e182 e183 e184 e185 e186 e187 e188 : Value) (R : Ending → World → Prop) (X : Code)
    (hX : ∀ (w' : World) (e0 e1 e2 e4 e6 e8 e10 e13 e14 e15 e16 e17 e18 e19 e20 e21 e22 e23 e24 e25 e26 e27 e28 e29 e30 e31 e32 e33 e34 e35 e36 e37 e38 e39 e40 e41 e42 e43 e44 e45 e46 e47 e48 e49 e50 e51 e52 e53 e54 e55 e56 e57 e58 e59 e60 e61 e62 e63 e64 e65 e66 e67 e68 e69 e70 e71 e72 e73 e74 e75 e76 e77 e78 e79 e80 e81 e82 e83 e84 e85 e86 e87 e88 e89 e90 e91 e92 e93 e94 e95 e96 e97 e98 e99 e100 e101 e102 e103 e104 e105 e106 e107 e108 e109 e110 e111 e112 e113 e114 e115 e116 e117 e118 e119 e120 e121 e122 e123 e124 e125 e126 e127 e128 e129 e130 e131 e132 e133 e134 e135 e136 e137 e138 e139 e140 e141 e142 e143 e144 e145 e146 e147 e148 e149 e150 e151 e152 e153 e154 e155 e156 e157 e158 e159 e160 e161 e162 e163 e164 e165 e166 e167 e168 e169 e170 e171 e172 e173 e174 e175 e176 e177 e178 e179 e180 e181 e182 e183 e184 e185 e186 e187 e188 : Value), Below w.heap.size w w' → Code.wp Tryd.prog X (bodyPost Tryd.prog Tryd.f3 R) { tmps := #[e0, e1, e2, .pointer (some ⟨A, 0, none⟩), e4, .pointer (some ⟨A + 1, 0, none⟩), e6, .pointer (some ⟨K, 0, none⟩), e8, .slice ao (optL k s b).length c, e10, .int .i64 (i : Nat), .int .i64 (((allL k.ta k.tc s top 9).length : Nat) : Int), e13, e14, e15, e16, e17, e18, e19, e20, e21, e22, e23, e24, e25, e26, e27, e28, e29, e30, e31, e32, e33, e34, e35, e36, e37, e38, e39, e40, e41, e42, e43, e44, e45, e46, e47, e48, e49, e50, e51, e52, e53, e54, e55, e56, e57, e58, e59, e60, e61, e62, e63, e64, e65, e66, e67, e68, e69, e70, e71, e72, e73, e74, e75, e76, e77, e78, e79, e80, e81, e82, e83, e84, e85, e86, e87, e88, e89, e90, e91, e92, e93, e94, e95, e96, e97, e98, e99, e100, e101, e102, e103, e104, e105, e106, e107, e108, e109, e110, e111, e112, e113, e114, e115, e116, e117, e118, e119, e120, e121, e122, e123, e124, e125, e126, e127, e128, e129, e130, e131, e132, e133, e134, e135, e136, e137, e138, e139, e140, e141, e142, e143, e144, e145, e146, e147, e148, e149, e150, e151, e152, e153, e154, e155, e156, e157, e158, e159, e160, e161, e162, e163, e164, e165, e166, e167, e168, e169, e170, e171, e172, e173, e174, e175, e176, e177, e178, e179, e180, e181, e182, e183, e184, e185, e186, e187, e188], defers := [] } w') :
    Code.wp Tryd.prog (withLast 2 part3n8 X) (bodyPost Tryd.prog Tryd.f3 R) { tmps := #[e0, e1, e2, .pointer (some ⟨A, 0, none⟩), e4, .pointer (some ⟨A + 1, 0, none⟩), e6, .pointer (some ⟨K, 0, none⟩), e8, .slice ao (optL k s b).length c, e10, .int .i64 (i : Nat), e12, e13, e14, e15, e16, e17, e18, e19, e20, e21, e22, e23, e24, e25, e26, e27, e28, e29, e30, e31, e32, e33, e34, e35, e36, e37, e38, e39, e40, e41, e42, e43, e44, e45, e46, e47, e48, e49, e50, e51, e52, e53, e54, e55, e56, e57, e58, e59, e60, e61, e62, e63, e64, e65, e66, e67, e68, e69, e70, e71, e72, e73, e74, e75, e76, e77, e78, e79, e80, e81, e82, e83, e84, e85, e86, e87, e88, e89, e90, e91, e92, e93, e94, e95, e96, e97, e98, e99, e100, e101, e102, e103, e104, e105, e106, e107, e108, e109, e110, e111, e112, e113, e114, e115, e116, e117, e118, e119, e120, e121, e122, e123, e124, e125, e126, e127, e128, e129, e130, e131, e132, e133, e134, e135, e136, e137, e138, e139, e140, e141, e142, e143, e144, e145, e146, e147, e148, e149, e150, e151, e152, e153, e154, e155, e156, e157, e158, e159, e160, e161, e162, e163, e164, e165, e166, e167, e168, e169, e170, e171, e172, e173, e174, e175, e176, e177, e178, e179, e180, e181, e182, e183, e184, e185, e186, e187, e188], defers := [] } w := by
  have hA : A < w.heap.size := (Array.getElem?_eq_some_iff.1 g0).1
  have hA1 : A + 1 < w.heap.size := (Array.getElem?_eq_some_iff.1 g1).1
  have hK : K < w.heap.size := (Array.getElem?_eq_some_iff.1 g2).1
  have hfew := fun (m : Nat) => allL_len k.ta k.tc s top m
  have hfl := fun (d m : Nat) => lineL_len k.ta k.tc s d m
  have hround := fun (d v : Nat) (hd : d ≤ 8) (hv : 1 ≤ v ∧ v ≤ 3) (many : Int) (hm : 0 ≤ many ∧ many ≤ 100) (w6 : World) (hb : Below w.heap.size w w6) => all_round k s b top i F hi htop hta htc ws hw2 hw4 d v hd hv ao c A K many hm w6 (hE.below hb) (Nat.le_trans hz hb.size) ((hb.block _ hA).trans g0) ((hb.block _ hA1).trans g1) ((hb.block _ hK).trans g2) (hrow.below hb (Nat.le_refl _))
  have htop3 := F.tops
  have HR := Lib.hid hround; have HX := Lib.hid hX; have HFW := Lib.hid hfew; have HFL := Lib.hid hfl
  clear hround hX hE hz g0 g1 g2 hrow hw2 hw4 hta htc hA hA1 hK htop hfew hfl F hi
  generalize (optL k s b).length = nl at *
  unfold part3n8 code3
  conv => arg 2; whnf
  simp only [withLast]
  go_wp2_with fail
  go_loopw [12, 13] (fun mv dv wr => ∃ d : Nat, d ≤ 9 ∧ dv = .int .i64 d ∧ Hid (mv = .int .i64 (((allL k.ta k.tc s top d).length : Nat) : Int)) ∧ Hid (Below w.heap.size w wr)) (fun _ dv _ => 9 - (intOf dv).toNat)
  case atStart => exact ⟨0, by omega, rfl, Lib.hid (by simp [allL]), Lib.hid (Below.refl _ _)⟩
  case round =>
    obtain ⟨d, hd9, rfl, hmv, hbw⟩ := hrel
    by_cases hd : d ≤ 8
    · have hd' : (d : Int) ≤ 8 := by omega
      have hml := HFW.out d
      obtain rfl := hmv.out
      go_wp2_with fail
      go_loopw [12, 14] (fun mv vv wr2 => ∃ v : Nat, 1 ≤ v ∧ v ≤ 4 ∧ vv = .int .i64 v ∧ Hid (mv = .int .i64 (((allL k.ta k.tc s top d).length + (lineL k.ta k.tc s d (min (v - 1) top)).length : Nat) : Int)) ∧ Hid (Below w.heap.size w wr2)) (fun _ vv _ => 4 - (intOf vv).toNat)
      case atStart => exact ⟨1, by omega, by omega, rfl, Lib.hid (by simp [lineL]), hbw⟩
      case round =>
        obtain ⟨v, hv1, hv4, rfl, hmv2, hbw2⟩ := hrel
        by_cases hv : v ≤ 3
        · have hv' : (v : Int) ≤ 3 := by omega
          have hm2 := HFL.out d (min (v - 1) top)
          have hml3 : (allL k.ta k.tc s top d).length ≤ 30 := by
            have := Nat.mul_le_mul hd htop3.2
            omega
          obtain rfl := hmv2.out
          have hr := HR.out d v hd ⟨hv1, hv⟩ (((allL k.ta k.tc s top d).length + (lineL k.ta k.tc s d (min (v - 1) top)).length : Nat) : Int) (by omega) wr hbw2.out
          have HRR := Lib.hid hr
          clear hr hm2 hml3
          change Code.wp Tryd.prog (.seq (fstC loop3b) (.seq (.block 3 body3) (sndC (sndC loop3b)))) _ _ _
          go_wp2_with fail
          conv => arg 2; whnf
          go_wp2_with fail
          refine HRR.out _ _ _ _ _ _ _ _ _ _ _ _ _ _ _ _ _ _ _ _ _ _ _ _ _ _ _ _ _ _ _ _ _ _ _ _ _ _ _ _ _ _ _ _ _ _ _ _ _ _ _ _ _ _ _ _ _ _ _ _ _ _ _ _ _ _ _ _ _ _ _ _ _ _ _ _ _ _ _ _ _ _ _ _ _ _ _ _ _ _ _ _ _ _ _ _ _ _ _ _ _ _ _ _ _ _ _ _ _ _ _ _ _ _ _ _ _ _ _ _ _ _ _ _ _ _ _ _ _ _ _ _ _ _ _ _ _ _ _ _ _ _ _ _ _ _ _ _ _ _ _ _ _ _ _ _ _ _ _ _ _ _ _ _ _ _ _ _ _ _ _ _ _ _ _ _ _ _ _ _ _ _ ?_
          intro w7 m2 _ _ _ _ _ _ _ _ _ _ _ _ _ _ _ _ _ _ _ _ _ _ _ _ _ _ _ _ _ _ _ _ _ _ _ _ _ _ _ _ _ _ _ _ _ _ _ _ _ _ _ _ _ _ _ _ _ _ _ _ _ _ _ _ _ _ _ _ _ _ _ _ _ _ _ _ _ _ _ _ _ _ _ _ _ _ _ _ _ _ _ _ _ _ _ _ _ _ _ hm2 b7
          have HM2 := Lib.hid hm2
          clear hm2
          have B7 := Lib.hid (hbw2.out.trans (b7.mono hbw2.out.size))
          clear b7 HRR
          go_wp2_with fail
          conv => arg 2; whnf
          go_wp2_with fail
          go_roundw
          case rel =>
            refine ⟨v + 1, by omega, by omega, by go_num, Lib.hid ?_, B7⟩
            rw [HM2.out, ← Int.natCast_add]
            congr 2
            rw [Nat.add_assoc]
            congr 1
            by_cases ht : v ≤ top
            · rw [show min (v + 1 - 1) top = v by omega, show min (v - 1) top = v - 1 by omega]
              cases hf : fitB k.ta k.tc s d v with
              | true => rw [lineL_hit hv1 hf, List.length_append]; simp [ht]
              | false => rw [lineL_miss hv1 hf]; simp
            · rw [show min (v + 1 - 1) top = top by omega, show min (v - 1) top = top by omega]
              simp [ht]
          case measure => simp [intOf]; omega
        · obtain rfl : v = 4 := by omega
          rw [show ((4 : Nat) : Int) = 4 from rfl]
          obtain rfl := hmv2.out
          go_wp2_with fail
          go_roundw
          case rel =>
            refine ⟨d + 1, by omega, by go_num, Lib.hid ?_, hbw2⟩
            rw [allL_succ, List.length_append, show min (4 - 1) top = top by omega]
          case measure => simp [intOf]; omega
    · obtain rfl : d = 9 := by omega
      rw [show ((9 : Nat) : Int) = 9 from rfl]
      obtain rfl := hmv.out
      go_wp2_with fail
      exact HX.out _ _ _ _ _ _ _ _ _ _ _ _ _ _ _ _ _ _ _ _ _ _ _ _ _ _ _ _ _ _ _ _ _ _ _ _ _ _ _ _ _ _ _ _ _ _ _ _ _ _ _ _ _ _ _ _ _ _ _ _ _ _ _ _ _ _ _ _ _ _ _ _ _ _ _ _ _ _ _ _ _ _ _ _ _ _ _ _ _ _ _ _ _ _ _ _ _ _ _ _ _ _ _ _ _ _ _ _ _ _ _ _ _ _ _ _ _ _ _ _ _ _ _ _ _ _ _ _ _ _ _ _ _ _ _ _ _ _ _ _ _ _ _ _ _ _ _ _ _ _ _ _ _ _ _ _ _ _ _ _ _ _ _ _ _ _ _ _ _ _ _ _ _ _ _ _ _ _ _ _ _ _ _ _ hbw.out
set_option maxRecDepth 100000 in
set_option maxHeartbeats 8000000 in
theorem all_end (s : Sgn) (na nl : Nat) (hna : na ≤ 27) (l : List Rea) (hll : l.length = nl) (hdr : hasN l ⟨s.id, 0, 0, true⟩ = if s.mark = 1 then 0 else 1) (hnl : nl = na + if s.mark = 1 then 0 else 1) (ao : Option Addr) (c K : Nat) (w0 w : World) (hB : Below w0.heap.size w0 w) (g2 : w.heap[K]? = some (.cells (sgnA s) 41 (0, 0))) (hrow : IsRow encRea 4 w (.slice ao nl c) l) (e0 e1 e2 e3 e4 e5 e6 e8 e10 e11 e13 e14 e15 e16 e17 e18 e19 e20 e21 e22 e23 e24 e25 e26 e27 e28 e29 e30 e31 e32 e33 e34 e35 e36 e37 e38 e39 e40 e41 e42 e43 e44 e45 e46 e47 e48 e49 e50 e51 e52 e53 e54 e55 e56 e57 e58 e59 e60 e61 e62 e63 e64 e65 e66 e67 e68 e69 e70 e71 e72 e73 e74 e75 e76 e77 e78 e79 e80 e81 e82 e83 e84 e85 e86 e87 e88 e89 e90 e91 e92 e93 e94 e95 e96 e97 e98 e99 e100 e101 e102 e103 e104 e105 e106 e107 e108 e109 e110 e111 e112 e113 e114 e115 e116 e117 e118 e119 e120 e121 e122 e123 e124 e125 e126 e127 e128 e129 e130 e131 e132 e133 e134 e135 e136 e137 e138 e139 e140 e141 e142 e143 e144 e145 e146 e147 e148 e149 e150 e151 e152 e153 e154 e155 e156 e157 e158 e159 e160 e161 e162 e163 e164 e165 e166 e167 e168 e169 e170 e171 e172 e173 e174 e175 e176 e177 e178 e179 e180 e181 e182 e183 e184 e185 e186 e187 e188 : Value) :
    Code.wp Tryd.prog part3n10 (bodyPost Tryd.prog Tryd.f3 (trueP w0)) { tmps := #[e0, e1, e2, e3, e4, e5, e6, .pointer (some ⟨K, 0, none⟩), e8, .slice ao nl c, e10, e11, .int .i64 (na : Nat), e13, e14, e15, e16, e17, e18, e19, e20, e21, e22, e23, e24, e25, e26, e27, e28, e29, e30, e31, e32, e33, e34, e35, e36, e37, e38, e39, e40, e41, e42, e43, e44, e45, e46, e47, e48, e49, e50, e51, e52, e53, e54, e55, e56, e57, e58, e59, e60, e61, e62, e63, e64, e65, e66, e67, e68, e69, e70, e71, e72, e73, e74, e75, e76, e77, e78, e79, e80, e81, e82, e83, e84, e85, e86, e87, e88, e89, e90, e91, e92, e93, e94, e95, e96, e97, e98, e99, e100, e101, e102, e103, e104, e105, e106, e107, e108, e109, e110, e111, e112, e113, e114, e115, e116, e117, e118, e119, e120, e121, e122, e123, e124, e125, e126, e127, e128, e129, e130, e131, e132, e133, e134, e135, e136, e137, e138, e139, e140, e141, e142, e143, e144, e145, e146, e147, e148, e149, e150, e151, e152, e153, e154, e155, e156, e157, e158, e159, e160, e161, e162, e163, e164, e165, e166, e167, e168, e169, e170, e171, e172, e173, e174, e175, e176, e177, e178, e179, e180, e181, e182, e183, e184, e185, e186, e187, e188], defers := [] } w := by
  have c0 : w.cell? ⟨K, 0, none⟩ = some (.int .i64 s.id) := cell_at g2 0 rfl
  have c3 : w.cell? ⟨K, 3, none⟩ = some (.int .i64 s.mark) := cell_at g2 3 rfl
  have hK : K < w.heap.size := (Array.getElem?_eq_some_iff.1 g2).1
  subst hll
  have hh := has_any ao c l ⟨s.id, 0, 0, true⟩ w hrow
  unfold reaV at hh
  have HH := Lib.hid hh; have HB := Lib.hid hB; have HDR := Lib.hid hdr; have HNL := Lib.hid hnl
  clear hh hB g2 hrow hdr hnl
  generalize hasN l ⟨s.id, 0, 0, true⟩ = nd at *
  generalize l.length = nl at *
  unfold trueP part3n10 code3
  conv => arg 2; whnf
  go_wp2_with fail
  refine HH.out.mono ?_
  rintro e w' ⟨rfl, hb⟩
  have d3 := (hb.cell (p := ⟨K, 3, none⟩) hK).trans c3
  have HB2 := Lib.hid (HB.out.trans (hb.mono HB.out.size))
  clear hb HH HB c0 c3 hK
  by_cases hm : s.mark = 1
  · have e1 : nd = 0 := by rw [HDR.out, if_pos hm]
    have e2 : nl = na := by rw [HNL.out, if_pos hm]; rfl
    subst e1
    subst e2
    rw [hm] at d3
    clear hm HDR HNL
    go_wp2_with fail
    go_ret
    exact ⟨rfl, HB2.out⟩
  · have e1 : nd = 1 := by rw [HDR.out, if_neg hm]
    have e2 : nl = na + 1 := by rw [HNL.out, if_neg hm]
    subst e1
    subst e2
    have hmf : (s.mark == 1) = false := by simpa using hm
    clear hm HDR HNL
    go_wp2_with fail
    go_ret
    exact ⟨rfl, HB2.out⟩
set_option maxRecDepth 100000 in
set_option maxHeartbeats 8000000 in
theorem all_any (k : Wrk) (b : Bod) (hbn : b.name.length ≤ maxLen) (n : Nat) (hn : n < 65536) (ws : Array Value) (w : World) (hE : Env w) (hz2 : 2 ≤ w.heap.size) (hW : WkAt k ws w) :
    Calls Tryd.prog 3 #[.agg ws, .int .u16 n, bodV b] w (trueP w) := by
  go_enter Tryd.func3, Tryd.ntmps3
  refine pick_3 k b n hn ws w hE hz2 hW _ (withLast 1 part3n3 (withLast 2 part3n4 (withLast 2 part3n6 (withLast 2 part3n8 part3n10)))) ?_
  intro w3 K _ _ _ _ _ _ _ _ _ _ _ _ _ _ _ _ _ _ _ _ _ _ _ _ _ _ _ _ _ _ _ _ _ _ _ _ _ _ _ _ _ _ _ _ _ _ _ _ _ _ _ _ _ _ _ _ _ _ _ _ _ _ _ _ _ _ _ _ _ _ _ _ _ _ _ _ _ _ _ _ _ _ _ _ _ _ _ _ _ _ _ _ _ _ _ _ _ _ _ _ _ _ _ _ _ _ _ _ _ _ _ _ _ _ _ _ _ _ _ _ _ _ _ _ _ _ _ _ _ _ _ _ _ _ _ _ _ _ _ _ _ _ _ _ _ _ _ _ _ _ _ _ _ _ _ _ _ _ _ _ _ _ _ _ _ _ _ _ _ _ _ _ _ _ _ _ _ _ _ _ _ _ _ _ _ B3 g0 g1 g2 hKg
  refine guards_3 k b hbn _ ws w.heap.size K w3 (hE.below B3) (hW.below B3 (Nat.le_refl _)) g0 g1 _ _ _ _ _ _ _ _ _ _ _ _ _ _ _ _ _ _ _ _ _ _ _ _ _ _ _ _ _ _ _ _ _ _ _ _ _ _ _ _ _ _ _ _ _ _ _ _ _ _ _ _ _ _ _ _ _ _ _ _ _ _ _ _ _ _ _ _ _ _ _ _ _ _ _ _ _ _ _ _ _ _ _ _ _ _ _ _ _ _ _ _ _ _ _ _ _ _ _ _ _ _ _ _ _ _ _ _ _ _ _ _ _ _ _ _ _ _ _ _ _ _ _ _ _ _ _ _ _ _ _ _ _ _ _ _ _ _ _ _ _ _ _ _ _ _ _ _ _ _ _ _ _ _ _ _ _ _ _ _ _ _ _ _ _ _ _ _ _ _ _ _ _ _ _ _ _ _ _ _ _ _ _ _ _ _ (withLast 2 part3n4 (withLast 2 part3n6 (withLast 2 part3n8 part3n10))) ?_ ?_
  · intro w' hb
    exact ⟨rfl, B3.trans (hb.mono B3.size)⟩
  intro hfew hok hk hbo w4 _ _ _ _ _ _ _ _ _ _ _ _ _ _ _ _ _ _ _ _ _ _ _ _ _ _ _ _ _ _ _ _ _ _ _ _ _ _ _ _ _ _ _ _ _ _ _ _ _ _ _ _ _ _ _ _ _ _ _ _ _ _ _ _ _ _ _ _ _ _ _ _ _ _ _ _ _ _ _ _ _ _ _ _ _ _ _ _ _ _ _ _ _ _ _ _ _ _ _ _ _ _ _ _ _ _ _ _ _ _ _ _ _ _ _ _ _ _ _ _ _ _ _ _ _ _ _ _ _ _ _ _ _ _ _ _ _ _ _ _ _ _ _ _ _ _ _ _ _ _ _ _ _ _ _ _ _ _ _ _ _ _ _ _ _ _ _ _ _ _ _ _ _ _ _ _ _ _ _ _ _ _ _ _ _ b4
  have hne : k.signs ≠ [] := of_decide_eq_true hok
  have hs := pick_mem hne n
  have g2 : w3.heap[K]? = some (.cells (sgnA (pickS k.signs n)) 41 (0, 0)) := by rw [g2]; unfold pickA; rw [if_neg hne]
  generalize pickS k.signs n = s at *
  have hA3 : w.heap.size < w3.heap.size := (Array.getElem?_eq_some_iff.1 g0).1
  have hA31 : w.heap.size + 1 < w3.heap.size := (Array.getElem?_eq_some_iff.1 g1).1
  have hK3 : K < w3.heap.size := (Array.getElem?_eq_some_iff.1 g2).1
  have B4 := B3.trans (b4.mono B3.size)
  have g0 := (b4.block _ hA3).trans g0
  have g1 := (b4.block _ hA31).trans g1
  have g2 := (b4.block _ hK3).trans g2
  have hA4 : w.heap.size < w4.heap.size := Nat.lt_of_lt_of_le hA3 b4.size
  have hA41 : w.heap.size + 1 < w4.heap.size := Nat.lt_of_lt_of_le hA31 b4.size
  have hK4 : K < w4.heap.size := Nat.lt_of_lt_of_le hK3 b4.size
  clear b4 B3 hA3 hA31 hK3 hfew hok hne
  refine opts_3 k s b hbn ws w.heap.size K w4 (hE.below B4) (Nat.le_trans hz2 B4.size) (hW.below B4 (Nat.le_refl _)) g0 g1 g2 hk hs hbo _ _ _ _ _ _ _ _ _ _ _ _ _ _ _ _ _ _ _ _ _ _ _ _ _ _ _ _ _ _ _ _ _ _ _ _ _ _ _ _ _ _ _ _ _ _ _ _ _ _ _ _ _ _ _ _ _ _ _ _ _ _ _ _ _ _ _ _ _ _ _ _ _ _ _ _ _ _ _ _ _ _ _ _ _ _ _ _ _ _ _ _ _ _ _ _ _ _ _ _ _ _ _ _ _ _ _ _ _ _ _ _ _ _ _ _ _ _ _ _ _ _ _ _ _ _ _ _ _ _ _ _ _ _ _ _ _ _ _ _ _ _ _ _ _ _ _ _ _ _ _ _ _ _ _ _ _ _ _ _ _ _ _ _ _ _ _ _ _ _ _ _ _ _ _ _ _ _ _ _ _ _ _ _ _ _ _ (withLast 2 part3n6 (withLast 2 part3n8 part3n10)) ?_
  intro w5 v _ _ _ _ _ _ _ _ _ _ _ _ _ _ _ _ _ _ _ _ _ _ _ _ _ _ _ _ _ _ _ _ _ _ _ _ _ _ _ _ _ _ _ _ _ _ _ _ _ _ _ _ _ _ _ _ _ _ _ _ _ _ _ _ _ _ _ _ _ _ _ _ _ _ _ _ _ _ _ _ _ _ _ _ _ _ _ _ _ _ _ _ _ _ _ _ _ _ _ _ _ _ _ _ _ _ _ _ _ _ _ _ _ _ _ _ _ _ _ _ _ _ _ _ _ _ _ _ _ _ _ _ _ _ _ _ _ _ _ _ _ _ _ _ _ _ _ _ _ _ _ _ _ _ _ _ _ _ _ _ _ _ _ _ _ _ _ _ _ _ _ _ _ _ _ _ _ _ _ _ _ _ _ _ b5 hown
  have B5 := B4.trans (b5.mono B4.size)
  have g0 := (b5.block _ hA4).trans g0
  have g1 := (b5.block _ hA41).trans g1
  have g2 := (b5.block _ hK4).trans g2
  have hA5 : w.heap.size < w5.heap.size := Nat.lt_of_lt_of_le hA4 b5.size
  have hA51 : w.heap.size + 1 < w5.heap.size := Nat.lt_of_lt_of_le hA41 b5.size
  have hK5 : K < w5.heap.size := Nat.lt_of_lt_of_le hK4 b5.size
  have hrow : IsRow encRea 4 w5 v (optL k s b) := owns_isRow encRea_len hown rfl
  clear b5 hown B4 hA4 hA41 hK4
  refine all_limb s v w5 w.heap.size K g2 _ _ _ _ _ _ _ _ _ _ _ _ _ _ _ _ _ _ _ _ _ _ _ _ _ _ _ _ _ _ _ _ _ _ _ _ _ _ _ _ _ _ _ _ _ _ _ _ _ _ _ _ _ _ _ _ _ _ _ _ _ _ _ _ _ _ _ _ _ _ _ _ _ _ _ _ _ _ _ _ _ _ _ _ _ _ _ _ _ _ _ _ _ _ _ _ _ _ _ _ _ _ _ _ _ _ _ _ _ _ _ _ _ _ _ _ _ _ _ _ _ _ _ _ _ _ _ _ _ _ _ _ _ _ _ _ _ _ _ _ _ _ _ _ _ _ _ _ _ _ _ _ _ _ _ _ _ _ _ _ _ _ _ _ _ _ _ _ _ _ _ _ _ _ _ _ _ _ _ _ _ _ _ _ _ _ (withLast 2 part3n8 part3n10) ?_ ?_
  · intro w' hb
    exact ⟨rfl, B5.trans (hb.mono B5.size)⟩
  intro hlim w6 _ _ _ _ _ _ _ _ _ _ _ _ _ _ _ _ _ _ _ _ _ _ _ _ _ _ _ _ _ _ _ _ _ _ _ _ _ _ _ _ _ _ _ _ _ _ _ _ _ _ _ _ _ _ _ _ _ _ _ _ _ _ _ _ _ _ _ _ _ _ _ _ _ _ _ _ _ _ _ _ _ _ _ _ _ _ _ _ _ _ _ _ _ _ _ _ _ _ _ _ _ _ _ _ _ _ _ _ _ _ _ _ _ _ _ _ _ _ _ _ _ _ _ _ _ _ _ _ _ _ _ _ _ _ _ _ _ _ _ _ _ _ _ _ _ _ _ _ _ _ _ _ _ _ _ _ _ _ _ _ _ _ _ _ _ _ _ _ _ _ _ _ _ _ _ _ _ _ _ _ _ _ _ _ b6
  have B6 := B5.trans (b6.mono B5.size)
  have g0 := (b6.block _ hA5).trans g0
  have g1 := (b6.block _ hA51).trans g1
  have g2 := (b6.block _ hK5).trans g2
  have hK6 : K < w6.heap.size := Nat.lt_of_lt_of_le hK5 b6.size
  have hrow := hrow.below b6 (Nat.le_refl _)
  obtain ⟨i, hi, hik⟩ : ∃ i : Nat, i < 3 ∧ limbI s.kind = i := by
    rcases limbI_vals s.kind with h | h | h | h
    · omega
    · exact ⟨0, by omega, h⟩
    · exact ⟨1, by omega, h⟩
    · exact ⟨2, by omega, h⟩
  have hkind : s.kind = (i : Int) + 3 := by
    unfold limbI at hik
    (repeat' split at hik) <;> omega
  have F := all_facts hk hs hbo i hi hkind
  have htp := bod_top hbo hi
  have ht : topOf b i = ((topOf b i).toNat : Nat) := by omega
  have htu := wrk_turn hk
  rw [hik]
  obtain ⟨e2, e4⟩ : ws[2]? = some (.int .i64 k.ta) ∧ ws[4]? = some (.int .i64 k.tc) := by
    obtain ⟨aR, aT, aP, aX, aS, cR, cT, cP, cX, cS, rfl, _⟩ := hW
    exact ⟨rfl, rfl⟩
  obtain ⟨ao, c, rfl, hml, hr2⟩ := hrow
  have hrow : IsRow encRea 4 w6 (.slice ao (optL k s b).length c) (optL k s b) := ⟨ao, c, rfl, hml, hr2⟩
  refine all_loop k s b _ i F hi ht ⟨htu.1, htu.2.1⟩ ⟨by omega, htu.2.2.2.1⟩ ws e2 e4 ao c w.heap.size K w6 (hE.below B6) (Nat.le_trans hz2 B6.size) g0 g1 g2 hrow _ _ _ _ _ _ _ _ _ _ _ _ _ _ _ _ _ _ _ _ _ _ _ _ _ _ _ _ _ _ _ _ _ _ _ _ _ _ _ _ _ _ _ _ _ _ _ _ _ _ _ _ _ _ _ _ _ _ _ _ _ _ _ _ _ _ _ _ _ _ _ _ _ _ _ _ _ _ _ _ _ _ _ _ _ _ _ _ _ _ _ _ _ _ _ _ _ _ _ _ _ _ _ _ _ _ _ _ _ _ _ _ _ _ _ _ _ _ _ _ _ _ _ _ _ _ _ _ _ _ _ _ _ _ _ _ _ _ _ _ _ _ _ _ _ _ _ _ _ _ _ _ _ _ _ _ _ _ _ _ _ _ _ _ _ _ _ _ _ _ _ _ _ _ _ _ _ _ _ _ _ _ _ _ _ part3n10 ?_
  intro w7 _ _ _ _ _ _ _ _ _ _ _ _ _ _ _ _ _ _ _ _ _ _ _ _ _ _ _ _ _ _ _ _ _ _ _ _ _ _ _ _ _ _ _ _ _ _ _ _ _ _ _ _ _ _ _ _ _ _ _ _ _ _ _ _ _ _ _ _ _ _ _ _ _ _ _ _ _ _ _ _ _ _ _ _ _ _ _ _ _ _ _ _ _ _ _ _ _ _ _ _ _ _ _ _ _ _ _ _ _ _ _ _ _ _ _ _ _ _ _ _ _ _ _ _ _ _ _ _ _ _ _ _ _ _ _ _ _ _ _ _ _ _ _ _ _ _ _ _ _ _ _ _ _ _ _ _ _ _ _ _ _ _ _ _ _ _ _ _ _ _ _ _ _ _ _ _ _ _ _ _ _ _ _ b7
  have hmx := allL_len k.ta k.tc s (topOf b i).toNat 9
  have hdl := dropL_len s
  exact all_end s _ _ (by have := F.tops; omega) (optL k s b) rfl (by rw [F.drops, hdl]) (by rw [F.len, hdl]) ao c K w w7 (B6.trans (b7.mono B6.size)) ((b7.block _ hK6).trans g2) (hrow.below b7 (Nat.le_refl _)) _ _ _ _ _ _ _ _ _ _ _ _ _ _ _ _ _ _ _ _ _ _ _ _ _ _ _ _ _ _ _ _ _ _ _ _ _ _ _ _ _ _ _ _ _ _ _ _ _ _ _ _ _ _ _ _ _ _ _ _ _ _ _ _ _ _ _ _ _ _ _ _ _ _ _ _ _ _ _ _ _ _ _ _ _ _ _ _ _ _ _ _ _ _ _ _ _ _ _ _ _ _ _ _ _ _ _ _ _ _ _ _ _ _ _ _ _ _ _ _ _ _ _ _ _ _ _ _ _ _ _ _ _ _ _ _ _ _ _ _ _ _ _ _ _ _ _ _ _ _ _ _ _ _ _ _ _ _ _ _ _ _ _ _ _ _ _ _ _ _ _ _ _ _ _ _ _ _ _ _ _ _ _ _ _ _
end Go.Proofs.YtggcbblikgankaaDoor
end
