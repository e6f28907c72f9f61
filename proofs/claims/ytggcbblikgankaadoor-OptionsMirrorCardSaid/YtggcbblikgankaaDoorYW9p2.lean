/- The walk of the statement: part 2. -/
import Derived.Test.YtggcbblikgankaaDoorYW9p1
set_option linter.unusedVariables false
set_option linter.unusedSimpArgs false
section
/- OptionsMirror: the closure that cuts the last real off; the options of both copies. -/
namespace Go.Proofs.YtggcbblikgankaaDoor
open Go Go.RowKit Go.Deep

theorem opt_dir {k : Wrk} {s : Sgn} {b : Bod} {r : Rea} (h : r ∈ optL k s b) : 0 ≤ r.dir ∧ r.dir ≤ 8 := by
  have lim : ∀ top, r ∈ optS k.ta k.tc s top → 0 ≤ r.dir ∧ r.dir ≤ 8 := fun top hr => by
    obtain ⟨d, v, hd, _, _, _, rfl⟩ := optS_mem hr
    show (0 : Int) ≤ (d : Int) ∧ (d : Int) ≤ 8
    omega
  have trv : ∀ n, r ∈ travL s n → 0 ≤ r.dir ∧ r.dir ≤ 8 := fun n hr => by
    unfold travL at hr
    split at hr
    · cases hr
    · rw [List.mem_singleton.1 hr]; exact ⟨Int.le_refl _, show (0 : Int) ≤ 8 by decide⟩
  have one : ∀ x : Rea, x.dir = 0 → r ∈ ([x] : List Rea) → 0 ≤ r.dir ∧ r.dir ≤ 8 := fun x hx hr => by
    rw [List.mem_singleton.1 hr, hx]; exact ⟨Int.le_refl _, show (0 : Int) ≤ 8 by decide⟩
  unfold optL at h
  rcases List.mem_append.1 h with h | h
  · unfold doL at h
    repeat' split at h
    all_goals first | exact trv _ h | exact lim _ h | exact one _ rfl h
  · rw [(dropL_mem h).1]; exact ⟨Int.le_refl _, show (0 : Int) ≤ 8 by decide⟩

theorem IsRow.first {w : World} {ao : Option Addr} {c : Nat} {l dl rest : List Rea} (h : IsRow encRea 4 w (.slice ao l.length c) l) (hl : l = dl ++ rest) : IsRow encRea 4 w (.slice ao dl.length c) dl := by
  obtain ⟨ao', c', e, hm, h⟩ := h
  injection e with e1 e2 e3
  subst e1 e3
  refine ⟨ao, c, rfl, by rw [hl, List.length_append] at hm; omega, ?_⟩
  rcases h with h | ⟨b, o, e4, hat, hb⟩
  · left
    rw [h] at hl
    exact (List.append_eq_nil_iff.1 hl.symm).1
  · right
    refine ⟨b, o, e4, ?_, hb⟩
    intro i x hx j v hv
    refine hat i x ?_ j v hv
    rw [hl, List.getElem?_append_left (List.getElem?_eq_some_iff.1 hx).1]
    exact hx
set_option maxRecDepth 100000 in
set_option maxHeartbeats 4000000 in
/-- The options without dropping. -/
theorem cut_any (s : Sgn) (l dl : List Rea) (hl : l = dl ++ dropL s) (hdl : ∀ r ∈ dl, r.drop = false) (ao : Option Addr) (n c : Nat) (hn : l.length = n) (hc : n ≤ c) (hn2 : n ≤ 2000) (hcm : c ≤ maxLen) (w : World) (hx : IsRow encRea 4 w (.slice ao n c) l) :
    Calls Tryd.prog 24 #[.slice ao n c] w fun e w' => e = .returned (.slice ao dl.length c) ∧ w' = w := by
  by_cases h0 : n = 0
  · subst h0
    have hd0 : dl = [] := by
      have := List.length_eq_zero_iff.1 hn
      rw [hl] at this
      exact (List.append_eq_nil_iff.1 this).1
    subst hd0
    clear hx hl hdl
    go_enter Tryd.func24, Tryd.ntmps24
    go_wp2_with fail
    go_ret
    exact ⟨rfl, rfl⟩
  · obtain ⟨x, hxl⟩ : ∃ x, l[n - 1]? = some x := ⟨_, List.getElem?_eq_getElem (by omega)⟩
    obtain ⟨b, o, rfl, hat, hb⟩ := hx.block hxl
    have p3 : w.cell? ⟨b, o + (n - 1) * 4 + 3, none⟩ = some (.bool x.drop) := hat (n - 1) x hxl 3 _ rfl
    obtain ⟨m, rfl⟩ : ∃ m, n = m + 1 := ⟨n - 1, by omega⟩
    simp only [Nat.add_sub_cancel] at p3 hxl
    have W1 : IntKind.i64.wrap ((m : Int) + 1 - 1) = (m : Int) := by rw [show (m : Int) + 1 - 1 = (m : Int) by omega]; exact IntWalk.i64_in _ (by omega)
    have hdd : (x.drop = true ∧ dl.length = m) ∨ (x.drop = false ∧ dl.length = m + 1) := by
      by_cases hm : s.mark = 1
      · have hz : dropL s = [] := by unfold dropL; rw [if_pos hm]
        rw [hz, List.append_nil] at hl
        subst hl
        exact Or.inr ⟨hdl x (List.mem_of_getElem? hxl), hn⟩
      · have hz : dropL s = [⟨s.id, 0, 0, true⟩] := by unfold dropL; rw [if_neg hm]
        have hlen : dl.length = m := by
          rw [hl, hz, List.length_append] at hn; simpa using hn
        left
        refine ⟨?_, hlen⟩
        rw [hl, hz, List.getElem?_append_right (by omega), hlen, Nat.sub_self] at hxl
        simp at hxl
        rw [← hxl]
    clear hx hat hxl hl hdl h0 hn
    rcases hdd with ⟨hd, hlen⟩ | ⟨hd, hlen⟩
    · rw [hd] at p3
      rw [hlen]
      go_enter Tryd.func24, Tryd.ntmps24
      go_wp2_with fail
      go_ret
      exact ⟨rfl, rfl⟩
    · rw [hd] at p3
      rw [hlen]
      go_enter Tryd.func24, Tryd.ntmps24
      go_wp2_with fail
      go_ret
      exact ⟨rfl, rfl⟩

noncomputable def part5n9 : Code := lastPart 9 code5
set_option maxRecDepth 100000 in
set_option maxHeartbeats 8000000 in
theorem mir_opts (k k' : Wrk) (n : Int) (s s' : Sgn) (hid : s.id = n) (hid' : s'.id = n) (b : Bod) (hbn : b.name.length ≤ maxLen) (xm vl : Value) (ws ws' : Array Value) (A K M1 M2 : Nat) (w3 : World) (hE : Env w3) (hz2 : 2 ≤ w3.heap.size) (hW : WkAt k ws w3) (hW' : WkAt k' ws' w3) (g1 : w3.heap[A + 1]? = some (.cells (bodCells b) 36 (0, 0))) (c0 : w3.cell? ⟨K, 0, none⟩ = some (.int .i64 n)) (hK : K < w3.heap.size) (g0 : w3.heap[M1]? = some (.cells ws 32 (0, 0))) (g4 : w3.heap[M2]? = some (.cells ws' 32 (0, 0)))
    (hk : wrkE k = 0) (hs : s ∈ k.signs) (hk' : wrkE k' = 0) (hs' : s' ∈ k'.signs) (hb : bodB b = true) (e0 e1 e2 e5 e7 e8 e10 e15 e16 e17 e18 e19 e20 e21 e22 e23 e24 e25 e26 e27 e28 e29 e30 e31 e32 e33 e34 e35 e36 e37 e38 e39 e40 e41 e42 e43 e44 e45 e46 e47 e48 e49 e50 e51 e52 e53 e54 e55 e56 e57 e58 e59 e60 e61 e62 e63 e64 e65 e66 e67 e68 e69 e70 e71 e72 e73 e74 e75 e76 e77 e78 e79 e80 e81 e82 e83 e84 e85 e86 e87 e88 e89 e90 e91 e92 e93 e94 e95 e96 e97 e98 e99 e100 e101 e102 e103 e104 e105 e106 e107 e108 e109 e110 e111 e112 e113 e114 e115 e116 e117 e118 e119 e120 e121 e122 e123 e124 e125 e126 e127 e128 e129 e130 e131 e132 e133 e134 e135 e136 e137 e138 e139 e140 e141 e142 e143 e144 e145 e146 e147 e148 e149 e150 e151 e152 e153 e154 e155 e156 e157 e158 e159 e160 e161 e162 e163 e164 e165 e166 e167 e168 e169 e170 e171 e172 e173 e174 e175 e176 e177 e178 e179 e180 e181 e182 e183 e184 e185 e186 e187 e188 e189 e190 e191 e192 : Value) (R : Ending → World → Prop) (X : Code)
    (hX : ∀ (w5 : World) (vx vy : Value) (e0 e1 e2 e5 e7 e8 e10 e15 e16 e17 e18 e23 e24 e25 e26 e27 e28 e29 e30 e31 e32 e33 e34 e35 e36 e37 e38 e39 e40 e41 e42 e43 e44 e45 e46 e47 e48 e49 e50 e51 e52 e53 e54 e55 e56 e57 e58 e59 e60 e61 e62 e63 e64 e65 e66 e67 e68 e69 e70 e71 e72 e73 e74 e75 e76 e77 e78 e79 e80 e81 e82 e83 e84 e85 e86 e87 e88 e89 e90 e91 e92 e93 e94 e95 e96 e97 e98 e99 e100 e101 e102 e103 e104 e105 e106 e107 e108 e109 e110 e111 e112 e113 e114 e115 e116 e117 e118 e119 e120 e121 e122 e123 e124 e125 e126 e127 e128 e129 e130 e131 e132 e133 e134 e135 e136 e137 e138 e139 e140 e141 e142 e143 e144 e145 e146 e147 e148 e149 e150 e151 e152 e153 e154 e155 e156 e157 e158 e159 e160 e161 e162 e163 e164 e165 e166 e167 e168 e169 e170 e171 e172 e173 e174 e175 e176 e177 e178 e179 e180 e181 e182 e183 e184 e185 e186 e187 e188 e189 e190 e191 e192 : Value), Below w3.heap.size w3 w5 → w5.ownsRow w3.heap.size 60 4 vx (optL k s b).length ((optL k s b).flatMap encRea) → w5.ownsRow w3.heap.size 60 4 vy (optL k' s' b).length ((optL k' s' b).flatMap encRea) → Code.wp Tryd.prog X (bodyPost Tryd.prog Tryd.f5 R) { tmps := #[e0, e1, e2, xm, .pointer (some ⟨A, 0, none⟩), e5, .pointer (some ⟨A + 1, 0, none⟩), e7, e8, .pointer (some ⟨K, 0, none⟩), e10, vl, .int .i64 0, .pointer (some ⟨M1, 0, none⟩), .pointer (some ⟨M2, 0, none⟩), e15, e16, e17, e18, vx, .int .i64 0, vy, .int .i64 0, e23, e24, e25, e26, e27, e28, e29, e30, e31, e32, e33, e34, e35, e36, e37, e38, e39, e40, e41, e42, e43, e44, e45, e46, e47, e48, e49, e50, e51, e52, e53, e54, e55, e56, e57, e58, e59, e60, e61, e62, e63, e64, e65, e66, e67, e68, e69, e70, e71, e72, e73, e74, e75, e76, e77, e78, e79, e80, e81, e82, e83, e84, e85, e86, e87, e88, e89, e90, e91, e92, e93, e94, e95, e96, e97, e98, e99, e100, e101, e102, e103, e104, e105, e106, e107, e108, e109, e110, e111, e112, e113, e114, e115, e116, e117, e118, e119, e120, e121, e122, e123, e124, e125, e126, e127, e128, e129, e130, e131, e132, e133, e134, e135, e136, e137, e138, e139, e140, e141, e142, e143, e144, e145, e146, e147, e148, e149, e150, e151, e152, e153, e154, e155, e156, e157, e158, e159, e160, e161, e162, e163, e164, e165, e166, e167, e168, e169, e170, e171, e172, e173, e174, e175, e176, e177, e178, e179, e180, e181, e182, e183, e184, e185, e186, e187, e188, e189, e190, e191, e192], defers := [] } w5) :
    Code.wp Tryd.prog (withLast 2 part5n9 X) (bodyPost Tryd.prog Tryd.f5 R) { tmps := #[e0, e1, e2, xm, .pointer (some ⟨A, 0, none⟩), e5, .pointer (some ⟨A + 1, 0, none⟩), e7, e8, .pointer (some ⟨K, 0, none⟩), e10, vl, .int .i64 0, .pointer (some ⟨M1, 0, none⟩), .pointer (some ⟨M2, 0, none⟩), e15, e16, e17, e18, e19, e20, e21, e22, e23, e24, e25, e26, e27, e28, e29, e30, e31, e32, e33, e34, e35, e36, e37, e38, e39, e40, e41, e42, e43, e44, e45, e46, e47, e48, e49, e50, e51, e52, e53, e54, e55, e56, e57, e58, e59, e60, e61, e62, e63, e64, e65, e66, e67, e68, e69, e70, e71, e72, e73, e74, e75, e76, e77, e78, e79, e80, e81, e82, e83, e84, e85, e86, e87, e88, e89, e90, e91, e92, e93, e94, e95, e96, e97, e98, e99, e100, e101, e102, e103, e104, e105, e106, e107, e108, e109, e110, e111, e112, e113, e114, e115, e116, e117, e118, e119, e120, e121, e122, e123, e124, e125, e126, e127, e128, e129, e130, e131, e132, e133, e134, e135, e136, e137, e138, e139, e140, e141, e142, e143, e144, e145, e146, e147, e148, e149, e150, e151, e152, e153, e154, e155, e156, e157, e158, e159, e160, e161, e162, e163, e164, e165, e166, e167, e168, e169, e170, e171, e172, e173, e174, e175, e176, e177, e178, e179, e180, e181, e182, e183, e184, e185, e186, e187, e188, e189, e190, e191, e192], defers := [] } w3 := by
  have hsz := hW.size
  have hsz' := hW'.size
  have ho := hW.options hE hz2 n b hbn
  have ho' := fun (W : World) (hB : Below w3.heap.size w3 W) => (hW'.below hB (Nat.le_refl _)).options (hE.below hB) (Nat.le_trans hz2 hB.size) n b hbn
  obtain ⟨he, hr⟩ := opt_own hk hs hb
  obtain ⟨he', hr'⟩ := opt_own hk' hs' hb
  rw [hid] at he hr
  rw [hid'] at he' hr'
  rw [he, hr] at ho
  rw [he', hr'] at ho'
  have hbv : bodV b = .agg (bodCells b) := rfl
  rw [hbv] at ho ho'
  have hM : M2 < w3.heap.size := (Array.getElem?_eq_some_iff.1 g4).1
  have hA1 : A + 1 < w3.heap.size := (Array.getElem?_eq_some_iff.1 g1).1
  have HS := Lib.hid hsz; have HS' := Lib.hid hsz'; have G0 := Lib.hid g0; have G1 := Lib.hid g1; have G4 := Lib.hid g4; have HO := Lib.hid ho; have HO' := Lib.hid ho'; have HX := Lib.hid hX; have HM := Lib.hid hM; have HA1 := Lib.hid hA1; have HK := Lib.hid hK; have HC0 := Lib.hid c0
  clear hsz hsz' g0 g1 g4 ho ho' he hr he' hr' hbv hX hW hW' hE hk hs hk' hs' hb hM hA1 hK hid hid'
  unfold part5n9 code5
  conv => arg 2; whnf
  simp only [withLast]
  go_wp2_with (first | (refine wpList_load_row rfl 32 _ rfl M1 rfl 32 _ (0, 0) _ G0.out Tryd.underlying32 rfl HS.out ?_; simp only [Act.put, List.setIfInBounds_toArray, List.set_cons_zero, List.set_cons_succ]) | (refine wpList_load_row rfl 36 _ rfl (A + 1) rfl 36 (bodCells b) (0, 0) _ G1.out Tryd.underlying36 rfl (by kernel_rfl) ?_; simp only [Act.put, List.setIfInBounds_toArray, List.set_cons_zero, List.set_cons_succ]))
  refine HO.out.mono ?_
  rintro e w4 ⟨vx, rfl, hown, b4⟩
  have c0' : w4.cell? ⟨K, 0, none⟩ = some (.int .i64 n) := (b4.cell (p := ⟨K, 0, none⟩) HK.out).trans HC0.out
  have H1 := Lib.hid ((b4.block (A + 1) HA1.out).trans G1.out)
  have H4 := Lib.hid ((b4.block M2 HM.out).trans G4.out)
  have RX := Lib.hid hown
  have B4 := Lib.hid b4
  clear hown b4 HO c0 G0 G1 G4
  go_wp2_with (first | (refine wpList_load_row rfl 32 _ rfl M2 rfl 32 _ (0, 0) _ H4.out Tryd.underlying32 rfl HS'.out ?_; simp only [Act.put, List.setIfInBounds_toArray, List.set_cons_zero, List.set_cons_succ]) | (refine wpList_load_row rfl 36 _ rfl (A + 1) rfl 36 (bodCells b) (0, 0) _ H1.out Tryd.underlying36 rfl (by kernel_rfl) ?_; simp only [Act.put, List.setIfInBounds_toArray, List.set_cons_zero, List.set_cons_succ]))
  refine (HO'.out w4 B4.out).mono ?_
  rintro e w5 ⟨vy, rfl, hown, b5⟩
  have RY := Lib.hid (owns_base hown B4.out.size)
  have RX2 := Lib.hid (owns_below RX.out b5)
  have B5 := Lib.hid (B4.out.trans (b5.mono B4.out.size))
  clear hown b5 HO' c0' H1 H4 RX B4
  go_wp2_with fail
  exact HX.out _ vx vy _ _ _ _ _ _ _ _ _ _ _ _ _ _ _ _ _ _ _ _ _ _ _ _ _ _ _ _ _ _ _ _ _ _ _ _ _ _ _ _ _ _ _ _ _ _ _ _ _ _ _ _ _ _ _ _ _ _ _ _ _ _ _ _ _ _ _ _ _ _ _ _ _ _ _ _ _ _ _ _ _ _ _ _ _ _ _ _ _ _ _ _ _ _ _ _ _ _ _ _ _ _ _ _ _ _ _ _ _ _ _ _ _ _ _ _ _ _ _ _ _ _ _ _ _ _ _ _ _ _ _ _ _ _ _ _ _ _ _ _ _ _ _ _ _ _ _ _ _ _ _ _ _ _ _ _ _ _ _ _ _ _ _ _ _ _ _ _ _ _ _ _ _ _ _ _ _ _ _ _ _ B5.out RX2.out RY.out
end Go.Proofs.YtggcbblikgankaaDoor
end
section
/- OptionsMirror: the comparison. -/
namespace Go.Proofs.YtggcbblikgankaaDoor
open Go Go.RowKit Go.Deep

noncomputable def part5n11 : Code := lastPart 11 code5
set_option maxRecDepth 100000 in
set_option maxHeartbeats 8000000 in
theorem mir_end (s s2 : Sgn) (l lm lo dl : List Rea) (nl no : Nat) (hl : l.length = nl) (hm : lm.length = nl) (ho : lo.length = no) (hnl : nl ≤ 2000) (hno : no ≤ 2000) (hone : ∀ r ∈ l, hasN lm (mirR r) = 1) (hdir : ∀ r ∈ l, 0 ≤ r.dir ∧ r.dir ≤ 8) (hdc1 : l = dl ++ dropL s) (hdc2 : lo = dl ++ dropL s2) (hdl : ∀ r ∈ dl, r.drop = false)
    (al am ao : Option Addr) (cl cm co : Nat) (hcl : nl ≤ cl ∧ cl ≤ maxLen) (hco : no ≤ co ∧ co ≤ maxLen) (w0 w : World) (hB : Below w0.heap.size w0 w) (hrl : IsRow encRea 4 w (.slice al nl cl) l) (hrm : IsRow encRea 4 w (.slice am nl cm) lm) (hro : IsRow encRea 4 w (.slice ao no co) lo) (e0 e1 e2 e3 e4 e5 e6 e7 e8 e9 e10 e13 e14 e15 e16 e17 e18 e23 e24 e25 e26 e27 e28 e29 e30 e31 e32 e33 e34 e35 e36 e37 e38 e39 e40 e41 e42 e43 e44 e45 e46 e47 e48 e49 e50 e51 e52 e53 e54 e55 e56 e57 e58 e59 e60 e61 e62 e63 e64 e65 e66 e67 e68 e69 e70 e71 e72 e73 e74 e75 e76 e77 e78 e79 e80 e81 e82 e83 e84 e85 e86 e87 e88 e89 e90 e91 e92 e93 e94 e95 e96 e97 e98 e99 e100 e101 e102 e103 e104 e105 e106 e107 e108 e109 e110 e111 e112 e113 e114 e115 e116 e117 e118 e119 e120 e121 e122 e123 e124 e125 e126 e127 e128 e129 e130 e131 e132 e133 e134 e135 e136 e137 e138 e139 e140 e141 e142 e143 e144 e145 e146 e147 e148 e149 e150 e151 e152 e153 e154 e155 e156 e157 e158 e159 e160 e161 e162 e163 e164 e165 e166 e167 e168 e169 e170 e171 e172 e173 e174 e175 e176 e177 e178 e179 e180 e181 e182 e183 e184 e185 e186 e187 e188 e189 e190 e191 e192 : Value) :
    Code.wp Tryd.prog part5n11 (bodyPost Tryd.prog Tryd.f5 (trueP w0)) { tmps := #[e0, e1, e2, e3, e4, e5, e6, e7, e8, e9, e10, .slice al nl cl, .int .i64 0, e13, e14, e15, e16, e17, e18, .slice am nl cm, .int .i64 0, .slice ao no co, .int .i64 0, e23, e24, e25, e26, e27, e28, e29, e30, e31, e32, e33, e34, e35, e36, e37, e38, e39, e40, e41, e42, e43, e44, e45, e46, e47, e48, e49, e50, e51, e52, e53, e54, e55, e56, e57, e58, e59, e60, e61, e62, e63, e64, e65, e66, e67, e68, e69, e70, e71, e72, e73, e74, e75, e76, e77, e78, e79, e80, e81, e82, e83, e84, e85, e86, e87, e88, e89, e90, e91, e92, e93, e94, e95, e96, e97, e98, e99, e100, e101, e102, e103, e104, e105, e106, e107, e108, e109, e110, e111, e112, e113, e114, e115, e116, e117, e118, e119, e120, e121, e122, e123, e124, e125, e126, e127, e128, e129, e130, e131, e132, e133, e134, e135, e136, e137, e138, e139, e140, e141, e142, e143, e144, e145, e146, e147, e148, e149, e150, e151, e152, e153, e154, e155, e156, e157, e158, e159, e160, e161, e162, e163, e164, e165, e166, e167, e168, e169, e170, e171, e172, e173, e174, e175, e176, e177, e178, e179, e180, e181, e182, e183, e184, e185, e186, e187, e188, e189, e190, e191, e192], defers := [] } w := by
  have hc : ∀ r ∈ l, ∀ W, Below w.heap.size w W → Calls Tryd.prog 21 #[.slice am nl cm, .agg #[.int .i64 r.sign, .int .i64 (mirD r.dir), .int .i64 r.level, .bool r.drop]] W fun e w' => e = .returned (.int .i64 1) ∧ Below W.heap.size W w' := by
    intro r hr W hb
    subst hm
    have := has_any am cm lm (mirR r) W (hrm.below hb (Nat.le_refl _))
    rw [hone r hr] at this
    exact this
  have hmv : ∀ r ∈ l, mirV r.dir = .tuple #[.int .i64 (mirD r.dir), .int .i64 0] := fun r hr => by unfold mirV mirD; rw [inB_iff.2 (hdir r hr)]; rfl
  have hcut1 := fun (W : World) (hb : Below w.heap.size w W) => cut_any s l dl hdc1 hdl al nl cl hl hcl.1 hnl hcl.2 W (hrl.below hb (Nat.le_refl _))
  have hcut2 := fun (W : World) (hb : Below w.heap.size w W) => cut_any s2 lo dl hdc2 hdl ao no co ho hco.1 hno hco.2 W (hro.below hb (Nat.le_refl _))
  have hsame := fun (W : World) (hb : Below w.heap.size w W) => same_any al ao cl co dl dl W ((by subst hl; exact hrl.below hb (Nat.le_refl _) : IsRow encRea 4 W (.slice al l.length cl) l).first hdc1) ((by subst ho; exact hro.below hb (Nat.le_refl _) : IsRow encRea 4 W (.slice ao lo.length co) lo).first hdc2)
  rw [decide_eq_true rfl] at hsame
  have HC := Lib.hid hc; have HB := Lib.hid hB; have HRL := Lib.hid hrl; have HLL := Lib.hid hl; have HMV := Lib.hid hmv; have HC1 := Lib.hid hcut1; have HC2 := Lib.hid hcut2; have HSM := Lib.hid hsame
  clear hc hB hrl hrm hro hone hl hm ho hmv hcut1 hcut2 hsame hdc1 hdc2 hdl hdir hcl hco
  generalize dl.length = nd at *
  unfold trueP part5n11 code5
  conv => arg 2; whnf
  go_wp2_with fail
  go_loopw [167] (fun iv wr => ∃ k : Nat, k ≤ nl ∧ iv = .int .i64 k ∧ Hid (Below w.heap.size w wr)) (fun iv _ => nl - (intOf iv).toNat)
  case atStart => exact ⟨0, Nat.zero_le _, rfl, Lib.hid (Below.refl _ _)⟩
  case round =>
    obtain ⟨k, hkn0, rfl, hbw⟩ := hrel
    by_cases hkn : k < nl
    · obtain ⟨r, hr⟩ : ∃ r, l[k]? = some r := ⟨_, List.getElem?_eq_getElem (by rw [HLL.out]; exact hkn)⟩
      obtain ⟨b1, o1, hp1, hat1, hb1⟩ := (HRL.out.below hbw.out (Nat.le_refl _)).block hr
      subst hp1
      obtain ⟨p0, p1, p2, p3⟩ := atRea hat1 hr
      have hkn' : (k : Int) < (nl : Int) := by omega
      have HCALL := Lib.hid (HC.out r (List.mem_of_getElem? hr))
      have HV := Lib.hid (HMV.out r (List.mem_of_getElem? hr))
      clear hat1 hb1 hr
      go_wp2_with fail
      refine (mirrored_any r.dir _).mono ?_
      rintro e w' ⟨rfl, rfl⟩
      rw [HV.out]
      clear p0 p1 p2 p3
      go_wp2_with fail
      refine (HCALL.out _ (hbw.out.alloc hbw.out.size _)).mono ?_
      rintro e w' ⟨rfl, hb6⟩
      have HB6 := Lib.hid ((hbw.out.alloc hbw.out.size _).trans (hb6.mono (hbw.out.alloc hbw.out.size _).size))
      clear hb6 HCALL HV
      go_wp2_with fail
      go_roundw
      case rel => exact ⟨k + 1, by omega, by go_num, HB6⟩
      case measure => simp [intOf]; omega
    · obtain rfl : k = nl := by omega
      have hkn' : ¬ (k : Int) < (k : Int) := by omega
      go_wp2_with fail
      refine (HC1.out _ hbw.out).mono ?_
      rintro e w' ⟨rfl, rfl⟩
      go_wp2_with fail
      refine (HC2.out _ hbw.out).mono ?_
      rintro e w' ⟨rfl, rfl⟩
      go_wp2_with fail
      refine (HSM.out _ hbw.out).mono ?_
      rintro e w' ⟨rfl, m, rfl⟩
      go_wp2_with fail
      go_ret
      exact ⟨rfl, below_drewN (HB.out.trans (hbw.out.mono HB.out.size)) m⟩
end Go.Proofs.YtggcbblikgankaaDoor
end
section
/- OptionsMirror: the whole walk. -/
namespace Go.Proofs.YtggcbblikgankaaDoor
open Go Go.RowKit Go.Deep

theorem own_slice {w : World} {base n k : Nat} {v : Value} {e : TypeId} {cs : List Value} (h : w.ownsRow base e k v n cs) : ∃ al cl, v = .slice al n cl ∧ n ≤ cl ∧ cl ≤ maxLen := by
  rcases h.2 with ⟨rfl, rfl⟩ | ⟨g, cap, cur, rfl, _, _, h1, h2, _⟩
  · exact ⟨none, 0, rfl, Nat.le_refl _, Nat.zero_le _⟩
  · exact ⟨_, cap, rfl, h1, h2⟩
theorem at_keep {α : Type} {enc : α → List Value} {k : Nat} {w w' : World} {b o : Nat} {xs : List α} (h : AtRow enc k w b o xs) (he : w'.heap[b]? = w.heap[b]?) : AtRow enc k w' b o xs := by
  intro i x hx j v hv
  have := h i x hx j v hv
  unfold World.cell? at this ⊢
  rw [he]; exact this
theorem own_row {α : Type} {enc : α → List Value} {k : Nat} (hk : ∀ x, (enc x).length = k) {w : World} {base n I c : Nat} {e : TypeId} {xs : List α} (h : w.ownsRow base e k (.slice (some ⟨I, 0, none⟩) n c) n (xs.flatMap enc)) (hn : xs.length = n) (h0 : xs ≠ []) : AtRow enc k w I 0 xs ∧ (∃ cs, w.heap[I]? = some (.cells cs e (0, 0))) ∧ base ≤ I ∧ I < w.heap.size := by
  have hr := owns_isRow hk h hn
  obtain ⟨h1, h2, h3⟩ := owns_ge h rfl
  refine ⟨?_, h3, h1, h2⟩
  obtain ⟨ao, c', e1, _, h4⟩ := hr
  rcases h4 with h4 | ⟨b, o, e2, hat, _⟩
  · exact absurd h4 h0
  · injection e1 with e1 _ _
    rw [e2] at e1
    injection e1 with e1
    injection e1 with e3 e4
    subst e3 e4
    exact hat
theorem one_sign {k : Wrk} (hk : wrkE k = 0) {x s : Sgn} (hx : x ∈ k.signs) (hs : s ∈ k.signs) (h : x.id = s.id) : x = s := by
  have h1 := (idF_own (wrk_sorted hk) hx).2
  have h2 := (idF_own (wrk_sorted hk) hs).2
  rw [h] at h1
  exact h1.symm.trans h2
theorem mir_ok {k : Wrk} (hk : wrkE k = 0) {s : Sgn} (hs : s ∈ k.signs) : wrkE { k with signs := mirL s k.signs } = 0 := by
  refine wrk_map (fun x => if x.id = s.id then mirG s x else x) (fun x => by show (if x.id = s.id then mirG s x else x).id = x.id; split <;> rfl) hk ?_
  intro x hx hr
  by_cases h : x.id = s.id
  · simp only [if_pos h]
    have := one_sign hk hx hs h
    subst this
    exact mir_right hr
  · simp only [if_neg h]; exact hr
theorem mark_ok {k : Wrk} (hk : wrkE k = 0) {s : Sgn} {m : Int} (hm : 1 ≤ m ∧ m ≤ 3) : wrkE { k with signs := markL s m k.signs } = 0 := by
  refine wrk_map (fun x => if x.id = s.id then { x with mark := m } else x) (fun x => by show (if x.id = s.id then { x with mark := m } else x).id = x.id; split <;> rfl) hk ?_
  intro x _ hr
  by_cases h : x.id = s.id
  · simp only [if_pos h]; exact mark_right hm hr
  · simp only [if_neg h]; exact hr
theorem WkAt.signs {k : Wrk} {ws : Array Value} {w : World} (h : WkAt k ws w) {ss : List Sgn} {I c : Nat} (hn : ss.length = k.signs.length) (hat : AtRow encS 14 w I 0 ss) (hI : I < w.heap.size) (hm : ss.length ≤ maxLen) : WkAt { k with signs := ss } (ws.setIfInBounds 10 (.slice (some ⟨I, 0, none⟩) k.signs.length c)) w := by
  obtain ⟨aR, aT, aP, aX, aS, cR, cT, cP, cX, cS, rfl, hR, hT, hP, hX, hS⟩ := h
  refine ⟨aR, aT, aP, aX, some ⟨I, 0, none⟩, cR, cT, cP, cX, c, ?_, hR, hT, hP, hX, ⟨_, c, rfl, hm, Or.inr ⟨I, 0, rfl, hat, hI⟩⟩⟩
  show _ = #[_, _, _, _, _, _, _, _, _, _, Value.slice (some ⟨I, 0, none⟩) ss.length c]
  rw [hn]
  rfl
theorem WkAt.src {k : Wrk} {ws : Array Value} {w : World} (h : WkAt k ws w) (hne : k.signs ≠ []) : ∃ b o c, ws[10]? = some (.slice (some ⟨b, o, none⟩) k.signs.length c) ∧ AtRow encS 14 w b o k.signs ∧ b < w.heap.size ∧ ws.size = 11 := by
  obtain ⟨aR, aT, aP, aX, aS, cR, cT, cP, cX, cS, rfl, hR, hT, hP, hX, hS⟩ := h
  obtain ⟨b, o, rfl, hat, hb⟩ := hS.block (List.getElem?_eq_getElem (List.length_pos_iff.2 hne))
  exact ⟨b, o, cS, rfl, hat, hb, rfl⟩

set_option maxRecDepth 100000 in
set_option maxHeartbeats 8000000 in
theorem mir_any (k : Wrk) (b : Bod) (hbn : b.name.length ≤ maxLen) (n : Nat) (hn : n < 65536) (mk : Nat) (hmk : mk < 256) (ws : Array Value) (w : World) (hE : Env w) (hz2 : 2 ≤ w.heap.size) (hW : WkAt k ws w) :
    Calls Tryd.prog 5 #[.agg ws, .int .u16 n, bodV b, .int .u8 mk] w (trueP w) := by
  go_enter Tryd.func5, Tryd.ntmps5
  refine pick_5 k b n hn ws _ w hE hz2 hW _ (withLast 1 part5n3 (withLast 1 part5n4 (withLast 1 part5n5 (withLast 1 part5n6 (withLast 1 part5n7 (withLast 1 part5n8 (withLast 2 part5n9 part5n11))))))) ?_
  intro w3 K _ _ _ _ _ _ _ _ _ _ _ _ _ _ _ _ _ _ _ _ _ _ _ _ _ _ _ _ _ _ _ _ _ _ _ _ _ _ _ _ _ _ _ _ _ _ _ _ _ _ _ _ _ _ _ _ _ _ _ _ _ _ _ _ _ _ _ _ _ _ _ _ _ _ _ _ _ _ _ _ _ _ _ _ _ _ _ _ _ _ _ _ _ _ _ _ _ _ _ _ _ _ _ _ _ _ _ _ _ _ _ _ _ _ _ _ _ _ _ _ _ _ _ _ _ _ _ _ _ _ _ _ _ _ _ _ _ _ _ _ _ _ _ _ _ _ _ _ _ _ _ _ _ _ _ _ _ _ _ _ _ _ _ _ _ _ _ _ _ _ _ _ _ _ _ _ _ _ _ _ _ _ _ _ _ _ _ _ B3 g0 g1 g2 hKg
  refine guards_5 k b hbn _ ws w.heap.size K _ w3 (hE.below B3) (hW.below B3 (Nat.le_refl _)) g0 g1 _ _ _ _ _ _ _ _ _ _ _ _ _ _ _ _ _ _ _ _ _ _ _ _ _ _ _ _ _ _ _ _ _ _ _ _ _ _ _ _ _ _ _ _ _ _ _ _ _ _ _ _ _ _ _ _ _ _ _ _ _ _ _ _ _ _ _ _ _ _ _ _ _ _ _ _ _ _ _ _ _ _ _ _ _ _ _ _ _ _ _ _ _ _ _ _ _ _ _ _ _ _ _ _ _ _ _ _ _ _ _ _ _ _ _ _ _ _ _ _ _ _ _ _ _ _ _ _ _ _ _ _ _ _ _ _ _ _ _ _ _ _ _ _ _ _ _ _ _ _ _ _ _ _ _ _ _ _ _ _ _ _ _ _ _ _ _ _ _ _ _ _ _ _ _ _ _ _ _ _ _ _ _ _ _ _ _ _ _ (withLast 1 part5n4 (withLast 1 part5n5 (withLast 1 part5n6 (withLast 1 part5n7 (withLast 1 part5n8 (withLast 2 part5n9 part5n11)))))) ?_ ?_
  · intro w' hb
    exact ⟨rfl, B3.trans (hb.mono B3.size)⟩
  intro hfew hok hk hbo w4 _ _ _ _ _ _ _ _ _ _ _ _ _ _ _ _ _ _ _ _ _ _ _ _ _ _ _ _ _ _ _ _ _ _ _ _ _ _ _ _ _ _ _ _ _ _ _ _ _ _ _ _ _ _ _ _ _ _ _ _ _ _ _ _ _ _ _ _ _ _ _ _ _ _ _ _ _ _ _ _ _ _ _ _ _ _ _ _ _ _ _ _ _ _ _ _ _ _ _ _ _ _ _ _ _ _ _ _ _ _ _ _ _ _ _ _ _ _ _ _ _ _ _ _ _ _ _ _ _ _ _ _ _ _ _ _ _ _ _ _ _ _ _ _ _ _ _ _ _ _ _ _ _ _ _ _ _ _ _ _ _ _ _ _ _ _ _ _ _ _ _ _ _ _ _ _ _ _ _ _ _ _ _ _ _ _ _ _ b4
  have hne : k.signs ≠ [] := of_decide_eq_true hok
  have hs := pick_mem hne n
  have g2 : w3.heap[K]? = some (.cells (sgnA (pickS k.signs n)) 41 (0, 0)) := by rw [g2]; unfold pickA; rw [if_neg hne]
  generalize pickS k.signs n = s at *
  have hA3 : w.heap.size < w3.heap.size := (Array.getElem?_eq_some_iff.1 g0).1
  have hA31 : w.heap.size + 1 < w3.heap.size := (Array.getElem?_eq_some_iff.1 g1).1
  have hK3 : K < w3.heap.size := (Array.getElem?_eq_some_iff.1 g2).1
  have B4 := B3.trans (b4.mono B3.size)
  have g0 := (b4.block _ hA3).trans g0
  have g1 := (b4.block _ hA31).trans g1
  have g2 := (b4.block _ hK3).trans g2
  have hA4 : w.heap.size < w4.heap.size := Nat.lt_of_lt_of_le hA3 b4.size
  have hA41 : w.heap.size + 1 < w4.heap.size := Nat.lt_of_lt_of_le hA31 b4.size
  have hK4 : K < w4.heap.size := Nat.lt_of_lt_of_le hK3 b4.size
  clear b4 B3 hA3 hA31 hK3 hfew hok
  refine opts_5 k s b hbn ws w.heap.size K _ w4 (hE.below B4) (Nat.le_trans hz2 B4.size) (hW.below B4 (Nat.le_refl _)) g0 g1 g2 hk hs hbo _ _ _ _ _ _ _ _ _ _ _ _ _ _ _ _ _ _ _ _ _ _ _ _ _ _ _ _ _ _ _ _ _ _ _ _ _ _ _ _ _ _ _ _ _ _ _ _ _ _ _ _ _ _ _ _ _ _ _ _ _ _ _ _ _ _ _ _ _ _ _ _ _ _ _ _ _ _ _ _ _ _ _ _ _ _ _ _ _ _ _ _ _ _ _ _ _ _ _ _ _ _ _ _ _ _ _ _ _ _ _ _ _ _ _ _ _ _ _ _ _ _ _ _ _ _ _ _ _ _ _ _ _ _ _ _ _ _ _ _ _ _ _ _ _ _ _ _ _ _ _ _ _ _ _ _ _ _ _ _ _ _ _ _ _ _ _ _ _ _ _ _ _ _ _ _ _ _ _ _ _ _ _ _ _ _ _ _ _ _ (withLast 1 part5n5 (withLast 1 part5n6 (withLast 1 part5n7 (withLast 1 part5n8 (withLast 2 part5n9 part5n11))))) ?_
  intro w5 v _ _ _ _ _ _ _ _ _ _ _ _ _ _ _ _ _ _ _ _ _ _ _ _ _ _ _ _ _ _ _ _ _ _ _ _ _ _ _ _ _ _ _ _ _ _ _ _ _ _ _ _ _ _ _ _ _ _ _ _ _ _ _ _ _ _ _ _ _ _ _ _ _ _ _ _ _ _ _ _ _ _ _ _ _ _ _ _ _ _ _ _ _ _ _ _ _ _ _ _ _ _ _ _ _ _ _ _ _ _ _ _ _ _ _ _ _ _ _ _ _ _ _ _ _ _ _ _ _ _ _ _ _ _ _ _ _ _ _ _ _ _ _ _ _ _ _ _ _ _ _ _ _ _ _ _ _ _ _ _ _ _ _ _ _ _ _ _ _ _ _ _ _ _ _ _ _ _ _ _ _ _ _ _ _ _ _ b5 hown
  have B5 := B4.trans (b5.mono B4.size)
  have g0 := (b5.block _ hA4).trans g0
  have g1 := (b5.block _ hA41).trans g1
  have g2 := (b5.block _ hK4).trans g2
  have hA5 := Nat.lt_of_lt_of_le hA4 b5.size
  have hA51 := Nat.lt_of_lt_of_le hA41 b5.size
  have hK5 := Nat.lt_of_lt_of_le hK4 b5.size
  have hrow : IsRow encRea 4 w5 v (optL k s b) := owns_isRow encRea_len hown rfl
  obtain ⟨al, cl, rfl, hcl1, hcl2⟩ := own_slice hown
  clear b5 hown B4 hA4 hA41 hK4
  have hW5 := hW.below B5 (Nat.le_refl _)
  have hR := wrk_right hk hs
  have hside := right_side hR
  have hlen : k.signs.length ≤ 4096 := (wrk_ok_of hk).2.1
  obtain ⟨bs, os, cs, h10, hat, hbs, hws⟩ := hW5.src hne
  refine mir_copies k ws _ _ w.heap.size K w5 hW5 g0 _ _ _ _ _ _ _ _ _ _ _ _ _ _ _ _ _ _ _ _ _ _ _ _ _ _ _ _ _ _ _ _ _ _ _ _ _ _ _ _ _ _ _ _ _ _ _ _ _ _ _ _ _ _ _ _ _ _ _ _ _ _ _ _ _ _ _ _ _ _ _ _ _ _ _ _ _ _ _ _ _ _ _ _ _ _ _ _ _ _ _ _ _ _ _ _ _ _ _ _ _ _ _ _ _ _ _ _ _ _ _ _ _ _ _ _ _ _ _ _ _ _ _ _ _ _ _ _ _ _ _ _ _ _ _ _ _ _ _ _ _ _ _ _ _ _ _ _ _ _ _ _ _ _ _ _ _ _ _ _ _ _ _ _ _ _ _ _ _ _ _ _ _ _ _ _ _ _ _ _ _ _ _ _ _ _ _ _ (withLast 1 part5n6 (withLast 1 part5n7 (withLast 1 part5n8 (withLast 2 part5n9 part5n11)))) ?_
  intro w6 M1 M2 _ _ _ _ _ _ _ _ _ _ _ _ _ _ _ _ _ _ _ _ _ _ _ _ _ _ _ _ _ _ _ _ _ _ _ _ _ _ _ _ _ _ _ _ _ _ _ _ _ _ _ _ _ _ _ _ _ _ _ _ _ _ _ _ _ _ _ _ _ _ _ _ _ _ _ _ _ _ _ _ _ _ _ _ _ _ _ _ _ _ _ _ _ _ _ _ _ _ _ _ _ _ _ _ _ _ _ _ _ _ _ _ _ _ _ _ _ _ _ _ _ _ _ _ _ _ _ _ _ _ _ _ _ _ _ _ _ _ _ _ _ _ _ _ _ _ _ _ _ _ _ _ _ _ _ _ _ _ _ _ _ _ _ _ _ _ _ _ _ _ _ _ _ _ _ _ _ _ _ _ _ _ _ _ _ b6 gM1 gM2 hM1 hM2 hM12
  have hM1s : M1 < w6.heap.size := (Array.getElem?_eq_some_iff.1 gM1).1
  have hM2s : M2 < w6.heap.size := (Array.getElem?_eq_some_iff.1 gM2).1
  refine mir_app1 k hne hlen ws _ _ w.heap.size K M1 M2 w5.heap.size hM1 w5 w6 b6 b6.size (hW5.below b6 (Nat.le_refl _)) ((b6.block _ hA5).trans g0) gM1 _ _ _ _ _ _ _ _ _ _ _ _ _ _ _ _ _ _ _ _ _ _ _ _ _ _ _ _ _ _ _ _ _ _ _ _ _ _ _ _ _ _ _ _ _ _ _ _ _ _ _ _ _ _ _ _ _ _ _ _ _ _ _ _ _ _ _ _ _ _ _ _ _ _ _ _ _ _ _ _ _ _ _ _ _ _ _ _ _ _ _ _ _ _ _ _ _ _ _ _ _ _ _ _ _ _ _ _ _ _ _ _ _ _ _ _ _ _ _ _ _ _ _ _ _ _ _ _ _ _ _ _ _ _ _ _ _ _ _ _ _ _ _ _ _ _ _ _ _ _ _ _ _ _ _ _ _ _ _ _ _ _ _ _ _ _ _ _ _ _ _ _ _ _ _ _ _ _ _ _ _ _ _ _ _ _ (withLast 1 part5n7 (withLast 1 part5n8 (withLast 2 part5n9 part5n11))) ?_
  intro w7 I1 c1 _ _ _ _ _ _ _ _ _ _ _ _ _ _ _ _ _ _ _ _ _ _ _ _ _ _ _ _ _ _ _ _ _ _ _ _ _ _ _ _ _ _ _ _ _ _ _ _ _ _ _ _ _ _ _ _ _ _ _ _ _ _ _ _ _ _ _ _ _ _ _ _ _ _ _ _ _ _ _ _ _ _ _ _ _ _ _ _ _ _ _ _ _ _ _ _ _ _ _ _ _ _ _ _ _ _ _ _ _ _ _ _ _ _ _ _ _ _ _ _ _ _ _ _ _ _ _ _ _ _ _ _ _ _ _ _ _ _ _ _ _ _ _ _ _ _ _ _ _ _ _ _ _ _ _ _ _ _ _ _ _ _ _ _ _ _ _ _ _ _ _ _ _ _ _ _ _ _ _ _ _ _ _ _ _ b7 hI1 gN1 keep1 own1
  obtain ⟨at1, ⟨cs1, bl1⟩, _, hI1s⟩ := own_row encS_len own1 rfl hne
  have hw67 : w6.heap.size ≤ w7.heap.size := Nat.le_trans hI1 (Nat.le_of_lt hI1s)
  refine mir_app2 k hne hlen ws _ _ w.heap.size K M1 M2 w5.heap.size hM2 w5 w7 b7 b7.size (hW5.below b7 (Nat.le_refl _)) ((b7.block _ hA5).trans g0) ((keep1 M2 hM2s (fun e => hM12 e.symm)).trans gM2) _ _ _ _ _ _ _ _ _ _ _ _ _ _ _ _ _ _ _ _ _ _ _ _ _ _ _ _ _ _ _ _ _ _ _ _ _ _ _ _ _ _ _ _ _ _ _ _ _ _ _ _ _ _ _ _ _ _ _ _ _ _ _ _ _ _ _ _ _ _ _ _ _ _ _ _ _ _ _ _ _ _ _ _ _ _ _ _ _ _ _ _ _ _ _ _ _ _ _ _ _ _ _ _ _ _ _ _ _ _ _ _ _ _ _ _ _ _ _ _ _ _ _ _ _ _ _ _ _ _ _ _ _ _ _ _ _ _ _ _ _ _ _ _ _ _ _ _ _ _ _ _ _ _ _ _ _ _ _ _ _ _ _ _ _ _ _ _ _ _ _ _ _ _ _ _ _ _ _ _ _ _ _ _ _ _ (withLast 1 part5n8 (withLast 2 part5n9 part5n11)) ?_
  intro w8 I2 c2 _ _ _ _ _ _ _ _ _ _ _ _ _ _ _ _ _ _ _ _ _ _ _ _ _ _ _ _ _ _ _ _ _ _ _ _ _ _ _ _ _ _ _ _ _ _ _ _ _ _ _ _ _ _ _ _ _ _ _ _ _ _ _ _ _ _ _ _ _ _ _ _ _ _ _ _ _ _ _ _ _ _ _ _ _ _ _ _ _ _ _ _ _ _ _ _ _ _ _ _ _ _ _ _ _ _ _ _ _ _ _ _ _ _ _ _ _ _ _ _ _ _ _ _ _ _ _ _ _ _ _ _ _ _ _ _ _ _ _ _ _ _ _ _ _ _ _ _ _ _ _ _ _ _ _ _ _ _ _ _ _ _ _ _ _ _ _ _ _ _ _ _ _ _ _ _ _ _ _ _ _ _ _ _ _ b8 hI2 gN2 keep2 own2
  obtain ⟨at2, bl2, _, hI2s⟩ := own_row encS_len own2 rfl hne
  have kI1 := keep2 I1 hI1s (by omega)
  have kM1 := keep2 M1 (by omega) hM12
  have hz8 : mirL1 s k.signs 0 = k.signs := by simp [mirL1, mirL]
  have hz9 : ∀ m, markL1 s m k.signs 0 = k.signs := fun m => by simp [markL1, markL]
  have hMA : MirAt w5.heap.size w5 s (1 + ((mk % 3 : Nat) : Int)) k.signs I1 I2 M1 M2 (ws.setIfInBounds 10 (.slice (some ⟨I1, 0, none⟩) k.signs.length c1)) (ws.setIfInBounds 10 (.slice (some ⟨I2, 0, none⟩) k.signs.length c2)) 0 w8 :=
    ⟨b8, kM1.trans gN1, gN2, by rw [hz8]; exact at_keep at1 kI1, by rw [hz9]; exact at2, ⟨cs1, kI1.trans bl1⟩, bl2, by omega, by omega, by omega, by omega, by omega, hM12⟩
  refine mir_loop s mk hmk k.signs k.signs.length rfl hlen (by omega) (by omega) hside.2.2.2.2.2.2 _ w.heap.size K M1 M2 I1 I2 w5.heap.size bs os cs c1 c2 ws _ _ w5 w8 hA5 hK5 hbs g0 g2 h10 hat (by rw [Array.getElem?_setIfInBounds]; simp [hws]) (by rw [Array.getElem?_setIfInBounds]; simp [hws]) hMA _ _ _ _ _ _ _ _ _ _ _ _ _ _ _ _ _ _ _ _ _ _ _ _ _ _ _ _ _ _ _ _ _ _ _ _ _ _ _ _ _ _ _ _ _ _ _ _ _ _ _ _ _ _ _ _ _ _ _ _ _ _ _ _ _ _ _ _ _ _ _ _ _ _ _ _ _ _ _ _ _ _ _ _ _ _ _ _ _ _ _ _ _ _ _ _ _ _ _ _ _ _ _ _ _ _ _ _ _ _ _ _ _ _ _ _ _ _ _ _ _ _ _ _ _ _ _ _ _ _ _ _ _ _ _ _ _ _ _ _ _ _ _ _ _ _ _ _ _ _ _ _ _ _ _ _ _ _ _ _ _ _ _ _ _ _ _ _ _ _ _ _ _ _ _ _ _ _ _ _ _ _ _ _ _ _ (withLast 2 part5n9 part5n11) ?_
  intro w9 _ _ _ _ _ _ _ _ _ _ _ _ _ _ _ _ _ _ _ _ _ _ _ _ _ _ _ _ _ _ _ _ _ _ _ _ _ _ _ _ _ _ _ _ _ _ _ _ _ _ _ _ _ _ _ _ _ _ _ _ _ _ _ _ _ _ _ _ _ _ _ _ _ _ _ _ _ _ _ _ _ _ _ _ _ _ _ _ _ _ _ _ _ _ _ _ _ _ _ _ _ _ _ _ _ _ _ _ _ _ _ _ _ _ _ _ _ _ _ _ _ _ _ _ _ _ _ _ _ _ _ _ _ _ _ _ _ _ _ _ _ _ _ _ _ _ _ _ _ _ _ _ _ _ _ _ _ _ _ _ _ _ _ _ _ _ _ _ _ _ _ _ _ _ _ _ _ _ _ _ _ _ _ _ _ hM9
  have hm3 : mk % 3 < 3 := Nat.mod_lt _ (by omega)
  have hm : 1 ≤ (1 : Int) + ((mk % 3 : Nat) : Int) ∧ (1 : Int) + ((mk % 3 : Nat) : Int) ≤ 3 := by omega
  clear hMA hz9
  generalize (1 : Int) + ((mk % 3 : Nat) : Int) = m at *
  have hn9 : mirL1 s k.signs k.signs.length = mirL s k.signs := by simp [mirL1]
  have hn9' : markL1 s m k.signs k.signs.length = markL s m k.signs := by simp [markL1]
  have r1 := hM9.r1
  have r2 := hM9.r2
  rw [hn9] at r1
  rw [hn9'] at r2
  obtain ⟨cs9, hb1⟩ := hM9.b1
  obtain ⟨cs9', hb2⟩ := hM9.b2
  have hW9 := hW5.below hM9.below (Nat.le_refl _)
  have W1 := hW9.signs (c := c1) (ss := mirL s k.signs) (by simp [mirL]) r1 (Array.getElem?_eq_some_iff.1 hb1).1 (by simp only [mirL, List.length_map, maxLen]; omega)
  have W2 := hW9.signs (c := c2) (ss := markL s m k.signs) (by simp [markL]) r2 (Array.getElem?_eq_some_iff.1 hb2).1 (by simp only [markL, List.length_map, maxLen]; omega)
  have hk1 := mir_ok hk hs
  have hk2 := mark_ok (s := s) hk hm
  have hs1 : mirG s s ∈ mirL s k.signs := List.mem_map.2 ⟨s, hs, if_pos rfl⟩
  have hs2 : { s with mark := m } ∈ markL s m k.signs := List.mem_map.2 ⟨s, hs, if_pos rfl⟩
  have B9 := B5.trans (hM9.below.mono B5.size)
  refine mir_opts { k with signs := mirL s k.signs } { k with signs := markL s m k.signs } s.id (mirG s s) { s with mark := m } rfl rfl b hbn _ _ _ _ w.heap.size K M1 M2 w9 (hE.below B9) (Nat.le_trans hz2 B9.size) W1 W2 ((hM9.below.block _ hA51).trans g1) (cell_at ((hM9.below.block _ hK5).trans g2) 0 rfl) (Nat.lt_of_lt_of_le hK5 hM9.below.size) hM9.m1 hM9.m2 hk1 hs1 hk2 hs2 hbo _ _ _ _ _ _ _ _ _ _ _ _ _ _ _ _ _ _ _ _ _ _ _ _ _ _ _ _ _ _ _ _ _ _ _ _ _ _ _ _ _ _ _ _ _ _ _ _ _ _ _ _ _ _ _ _ _ _ _ _ _ _ _ _ _ _ _ _ _ _ _ _ _ _ _ _ _ _ _ _ _ _ _ _ _ _ _ _ _ _ _ _ _ _ _ _ _ _ _ _ _ _ _ _ _ _ _ _ _ _ _ _ _ _ _ _ _ _ _ _ _ _ _ _ _ _ _ _ _ _ _ _ _ _ _ _ _ _ _ _ _ _ _ _ _ _ _ _ _ _ _ _ _ _ _ _ _ _ _ _ _ _ _ _ _ _ _ _ _ _ _ _ _ _ _ _ _ _ _ _ _ _ _ _ _ _ part5n11 ?_
  intro w10 vx vy _ _ _ _ _ _ _ _ _ _ _ _ _ _ _ _ _ _ _ _ _ _ _ _ _ _ _ _ _ _ _ _ _ _ _ _ _ _ _ _ _ _ _ _ _ _ _ _ _ _ _ _ _ _ _ _ _ _ _ _ _ _ _ _ _ _ _ _ _ _ _ _ _ _ _ _ _ _ _ _ _ _ _ _ _ _ _ _ _ _ _ _ _ _ _ _ _ _ _ _ _ _ _ _ _ _ _ _ _ _ _ _ _ _ _ _ _ _ _ _ _ _ _ _ _ _ _ _ _ _ _ _ _ _ _ _ _ _ _ _ _ _ _ _ _ _ _ _ _ _ _ _ _ _ _ _ _ _ _ _ _ _ _ _ _ _ _ _ _ _ _ _ _ _ _ _ _ _ _ _ _ b10 ox oy
  obtain ⟨f1, f2⟩ := mir_opt (k := k) (k' := { k with signs := mirL s k.signs }) (s := s) (b := b) hbo hR rfl rfl
  obtain ⟨am, cm, hvx, _, _⟩ := own_slice ox
  obtain ⟨ao, co, rfl, hco1, hco2⟩ := own_slice oy
  have rx := owns_isRow encRea_len ox rfl
  have ry := owns_isRow encRea_len oy rfl
  rw [f1] at hvx
  subst hvx
  have e2 : optL { k with signs := markL s m k.signs } { s with mark := m } b = doL k s b ++ dropL { s with mark := m } := by
    unfold optL
    rw [mark_do k { k with signs := markL s m k.signs } s b m rfl rfl]
  have few : ∀ t : Sgn, (doL k s b ++ dropL t).length ≤ 2000 := fun t => by
    have := doL_len k s hbo
    unfold dropL
    rw [List.length_append]
    split <;> simp <;> omega
  exact mir_end s { s with mark := m } (optL k s b) _ _ (doL k s b) _ _ rfl f1 rfl (few s) (by rw [e2]; exact few _) f2 (fun r hr => opt_dir hr) rfl e2 (fun r hr => doL_drop hr) al am ao cl cm co ⟨hcl1, hcl2⟩ ⟨hco1, hco2⟩ w w10 (B9.trans (b10.mono B9.size)) (hrow.below (hM9.below.trans (b10.mono hM9.below.size)) (Nat.le_refl _)) rx ry _ _ _ _ _ _ _ _ _ _ _ _ _ _ _ _ _ _ _ _ _ _ _ _ _ _ _ _ _ _ _ _ _ _ _ _ _ _ _ _ _ _ _ _ _ _ _ _ _ _ _ _ _ _ _ _ _ _ _ _ _ _ _ _ _ _ _ _ _ _ _ _ _ _ _ _ _ _ _ _ _ _ _ _ _ _ _ _ _ _ _ _ _ _ _ _ _ _ _ _ _ _ _ _ _ _ _ _ _ _ _ _ _ _ _ _ _ _ _ _ _ _ _ _ _ _ _ _ _ _ _ _ _ _ _ _ _ _ _ _ _ _ _ _ _ _ _ _ _ _ _ _ _ _ _ _ _ _ _ _ _ _ _ _ _ _ _ _ _ _ _ _ _ _ _ _ _ _ _ _ _ _ _ _ _ _ _
end Go.Proofs.YtggcbblikgankaaDoor
end
