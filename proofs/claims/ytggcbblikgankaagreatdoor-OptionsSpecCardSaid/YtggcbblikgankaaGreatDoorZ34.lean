/- Contracts and plain laws on the way to the statement: part 34. -/
import Derived.Test.YtggcbblikgankaaGreatDoorZ33
set_option linter.unusedVariables false
set_option linter.unusedSimpArgs false
section
namespace Go.Proofs.YtggcbblikgankaaGreatDoor
open Go Go.RowKit
theorem doL_len (k : Wrk) (s : Sgn) {b : Bod} (hb : bodB b = true) : (doL k s b).length ≤ 1000 := by
 have h0 := bod_top hb (i := 0) (by omega)
 have h1 := bod_top hb (i := 1) (by omega)
 have h2 := bod_top hb (i := 2) (by omega)
 have key : ∀ t : Nat, t ≤ 3 → (optS k.ta k.tc s t).length ≤ 1000 := by
  intro t ht
  unfold optS
  rw [List.length_map, sortA_len]
  exact Nat.le_trans (allL_len k.ta k.tc s t 9) (by omega)
 simp only [topOf] at h0 h1 h2
 unfold doL travL
 split
 ·split <;> simp
 split
 ·split <;> simp
 split
 ·exact key _ (by omega)
 split
 ·exact key _ (by omega)
 split
 ·exact key _ (by omega)
 split <;> simp
theorem find_mem {ss : List Sgn} {n : Int} (h : idF ss n = true) : ss[idP ss n]! ∈ ss := by
 unfold idF at h
 cases hs : ss[idP ss n]? with
 | none => rw [hs] at h; simp at h
 | some s => rw [List.getElem!_eq_getElem?_getD, hs]; exact List.mem_of_getElem? hs
theorem find_id {ss : List Sgn} {n : Int} (h : idF ss n = true) : ss[idP ss n]!.id = n := by
 unfold idF at h
 cases hs : ss[idP ss n]? with
 | none => rw [hs] at h; simp at h
 | some s => rw [hs] at h; rw [List.getElem!_eq_getElem?_getD, hs]; simpa using h
def lastPart : Nat → Code → Code
 | 0, c => c
 | k + 1, .seq _ b => lastPart k b
 | _, c => c
def withLast : Nat → Code → Code → Code
 | 0, _, x => x
 | k + 1, .seq a b, x => .seq a (withLast k b x)
 | _, c, _ => c
noncomputable def code18 : Code := (Tryz.f9.body).getD .skip
noncomputable def part18 : Code := lastPart 5 code18
noncomputable def last18 : Code := lastPart 6 code18
set_option maxRecDepth 100000 in
set_option maxHeartbeats 8000000 in
theorem options_mark (n : Int) (s : Sgn) (DL : List Rea) (hlen : DL.length ≤ 1000) (hsid : s.id = n) (w w5 : World) (K8 : Nat) (v : Value) (mk : w5.cell? ⟨K8, 3, none⟩ = some (.int .i64 s.mark)) (ho : w5.ownsRow w.heap.size 37 4 v DL.length (DL.flatMap encRea)) (hB5 : Below w.heap.size w w5) (e0 e2 e3 e4 e5 e9 e10 e11 e12 e13 e14 e15 e16 e17 e18 e19 e20 e21 e22 e23 e24 e25 e26 e27 e28 e29 e30 e31 e32 e33 e34 e35 e36 e37 e38 e39 e40 e41 e42 e43 e44 e45 e46 e47 e48 e49 e50 e51 e52 e53 e54 e55 e56 e57 e58 : Value) :
  Code.wp Tryz.prog last18 (bodyPost Tryz.prog Tryz.f9 fun e w' => ∃ v, e = .returned (.tuple #[v, .int .i64 0]) ∧ w'.ownsRow w.heap.size 37 4 v (DL ++ dropL s).length ((DL ++ dropL s).flatMap encRea) ∧ Below w.heap.size w w') { tmps := #[e0, .int .i64 n, e2, e3, e4, e5, v, .int .i64 0, .pointer (some ⟨K8, 0, none⟩), e9, e10, e11, e12, e13, e14, e15, e16, e17, e18, e19, e20, e21, e22, e23, e24, e25, e26, e27, e28, e29, e30, e31, e32, e33, e34, e35, e36, e37, e38, e39, e40, e41, e42, e43, e44, e45, e46, e47, e48, e49, e50, e51, e52, e53, e54, e55, e56, e57, e58], defers := [] } w5 := by
 obtain ⟨j0, hj0, hjz, hjs, hjb⟩ := info_parts info60
 have HO := Lib.hid ho; have B5 := Lib.hid hB5; have HID := Lib.hid hsid
 clear ho hB5 hsid
 unfold last18 code18
 conv => arg 2; whnf
 by_cases hmk : s.mark = 1
 ·have f9 : (s.mark != 1) = false := by simpa using hmk
  have HD := Lib.hid (show dropL s = [] by unfold dropL; rw [if_pos hmk])
  clear hmk
  go_wp2_with fail
  go_ret2
  exact ⟨_, rfl, by rw [HD.out, List.append_nil]; exact HO.out, B5.out⟩
 ·have f9 : (s.mark != 1) = true := by simpa using hmk
  have HD := Lib.hid (show dropL s = [⟨n, 0, 0, true⟩] by unfold dropL; rw [if_neg hmk, HID.out])
  have hpar : ∀ j u, (encRea ⟨n, 0, 0, true⟩)[j]? = some u → (w5.alloc (.cells #[.int .i64 n, .int .i64 0, .int .i64 0, .bool true] 37)).cell? ((⟨w5.heap.size, 0, none⟩ : Addr).add j) = some u := by
   intro j u hj
   rw [addr_plain, Nat.zero_add]
   exact cell_at (heap_alloc_new w5 _) j (by simpa [encRea] using hj)
  have HP := Lib.hid hpar
  have hb5s := B5.out.size
  clear hmk hpar
  go_wp2_with (at_builtin; refine wpList_append_own _ rfl _ _ 40 rfl w.heap.size 37 j0 _ 4 32 Tryz.underlying40 hj0 hjz hjs hjb rfl (by decide) _ _ _ rfl (HO.out.alloc _) ⟨w5.heap.size, 0, none⟩ 1 1 (encRea ⟨n, 0, 0, true⟩) rfl rfl HP.out (encRea_one _) (by simp only [maxLen]; omega) (by omega) (by simp; omega) ?_; intro v' w6 hown hgrow _)
  have HB6 := Lib.hid ((B5.out.alloc hb5s (.cells #[.int .i64 n, .int .i64 0, .int .i64 0, .bool true] 37)).grown hgrow (by simp; omega) (fun j h => (owns_ge HO.out (g := j) h).1))
  go_ret2
  exact ⟨_, rfl, by rw [HD.out, List.length_append, List.flatMap_append]; simpa using hown, HB6.out⟩
end Go.Proofs.YtggcbblikgankaaGreatDoor
end
section
namespace Go.Proofs.YtggcbblikgankaaGreatDoor
open Go Go.RowKit
set_option maxRecDepth 100000 in
set_option maxHeartbeats 8000000 in
theorem options_known (n : Int) (b : Bod) (s : Sgn) (DL : List Rea) (w w3 : World) (B K8 : Nat) (hz2w : 2 ≤ w.heap.size) (hE : Env w) (wd dp ta tb tc bars : Int) (aR aT aP aX aS : Option Addr) (nR nT nP nX nS cR cT cP cX cS : Nat)
  (hdk : ∀ w W, Env W → 2 ≤ W.heap.size → KS w W (kindsKV w.heap.size) kindsB → ∃ g lb, kvGet (kindsKV w.heap.size) s.kind = some (.func (.func g) #[] lb) ∧ (∀ args w, (callFunc g args).run Tryz.prog w = .ok (.enter g args) w) ∧ DoOk W g lb ta tb tc s b DL)
  (hB3 : Below w.heap.size w w3) (g0 : w3.heap[B]? = some (.cells #[.int .i64 wd, .int .i64 dp, .int .i64 ta, .int .i64 tb, .int .i64 tc, .slice aR nR cR, .int .i64 bars, .slice aT nT cT, .slice aP nP cP, .slice aX nX cX, .slice aS nS cS] 32 (0, 0))) (g1 : w3.heap[B + 1]? = some (.cells (bodCells b) 35 (0, 0))) (g2 : w3.heap[K8]? = some (.cells (sgnA s) 72 (0, 0))) (e0 e2 e4 e6 e9 e10 e11 e12 e13 e14 e15 e16 e17 e18 e19 e20 e21 e22 e23 e24 e25 e26 e27 e28 e29 e30 e31 e32 e33 e34 e35 e36 e37 e38 e39 e40 e41 e42 e43 e44 e45 e46 e47 e48 e49 e50 e51 e52 e53 e54 e55 e56 e57 e58 : Value) (X : Code)
  (hX : ∀ (v : Value) (w5 : World) (e0 e2 e3 e4 e5 e9 e10 e11 e12 e13 e14 e15 e16 e17 e18 e19 e20 e21 e22 e23 e24 e25 e26 e27 e28 e29 e30 e31 e32 e33 e34 e35 e36 e37 e38 e39 e40 e41 e42 e43 e44 e45 e46 e47 e48 e49 e50 e51 e52 e53 e54 e55 e56 e57 e58 : Value), w5.cell? ⟨K8, 3, none⟩ = some (.int .i64 s.mark) → w5.ownsRow w.heap.size 37 4 v DL.length (DL.flatMap encRea) → Below w.heap.size w w5 → Code.wp Tryz.prog X (bodyPost Tryz.prog Tryz.f9 fun e w' => ∃ v, e = .returned (.tuple #[v, .int .i64 0]) ∧ w'.ownsRow w.heap.size 37 4 v (DL ++ dropL s).length ((DL ++ dropL s).flatMap encRea) ∧ Below w.heap.size w w') { tmps := #[e0, .int .i64 n, e2, e3, e4, e5, v, .int .i64 0, .pointer (some ⟨K8, 0, none⟩), e9, e10, e11, e12, e13, e14, e15, e16, e17, e18, e19, e20, e21, e22, e23, e24, e25, e26, e27, e28, e29, e30, e31, e32, e33, e34, e35, e36, e37, e38, e39, e40, e41, e42, e43, e44, e45, e46, e47, e48, e49, e50, e51, e52, e53, e54, e55, e56, e57, e58], defers := [] } w5) :
  Code.wp Tryz.prog (withLast 1 part18 X) (bodyPost Tryz.prog Tryz.f9 fun e w' => ∃ v, e = .returned (.tuple #[v, .int .i64 0]) ∧ w'.ownsRow w.heap.size 37 4 v (DL ++ dropL s).length ((DL ++ dropL s).flatMap encRea) ∧ Below w.heap.size w w') { tmps := #[e0, .int .i64 n, e2, .pointer (some ⟨B, 0, none⟩), e4, .pointer (some ⟨B + 1, 0, none⟩), e6, .int .i64 0, .pointer (some ⟨K8, 0, none⟩), e9, e10, e11, e12, e13, e14, e15, e16, e17, e18, e19, e20, e21, e22, e23, e24, e25, e26, e27, e28, e29, e30, e31, e32, e33, e34, e35, e36, e37, e38, e39, e40, e41, e42, e43, e44, e45, e46, e47, e48, e49, e50, e51, e52, e53, e54, e55, e56, e57, e58], defers := [] } w3 := by
 have hz1 : B + 1 < w3.heap.size := (Array.getElem?_eq_some_iff.1 g1).1
 have hz5 : K8 < w3.heap.size := (Array.getElem?_eq_some_iff.1 g2).1
 have kc4 : w3.cell? ⟨K8, 4, none⟩ = some (.int .i64 s.kind) := cell_at g2 4 rfl
 have hz6 : 2 ≤ w3.heap.size := Nat.le_trans hz2w hB3.size
 have B3 := Lib.hid hB3; have G0 := Lib.hid g0; have G1 := Lib.hid g1; have G2 := Lib.hid g2; have HDK := Lib.hid hdk; have HE := Lib.hid hE; have HX := Lib.hid hX
 clear hdk g0 g1 g2 hE hX hB3
 unfold part18 code18
 conv => arg 2; whnf
 go_wp2_with fail
 go_region_with (go_at_call 35; refine (kinds_any _).mono ?_; rintro e w4 ⟨rfl, hks⟩; have hc4 : w4.cell? ⟨K8, 4, none⟩ = some (.int .i64 s.kind) := (hks.2.2.2.2.cell (p := ⟨K8, 4, none⟩) (show K8 < _ from hz5)).trans kc4; obtain ⟨g, lb, hkg, heg, hdo⟩ := HDK.out w3.drew w4 (HE.out.two hz2w (B3.out.drew.trans (hks.2.2.2.2.mono B3.out.size))) (Nat.le_trans hz6 hks.2.2.2.2.size) hks; have hlk : Sem.run Tryz.prog (Instr.lookup 78 (.map (some w3.heap.size)) (.int .i64 s.kind) true) w4 = .ok (.tuple #[.func (.func g) #[] lb, .bool true]) w4 := (run_lookup_kv (P := Tryz.prog) (T := 78) Tryz.underlying78 Tryz.underlying3 hks.1 s.kind (Tryz.zeroValue76 _) true).trans (by rw [hkg]; rfl); have hdo2 := hdo w4 (Below.refl _ _); rw [show sgnV s = .agg (sgnA s) from rfl, show bodV b = .agg (bodCells b) from rfl] at hdo2; have HDO := Lib.hid hdo2; have HKS := Lib.hid hks; clear hks hdo hdo2 hkg)
 all_goals
  have hb4 := HKS.out.2.2.2.2
  have hz4 := hb4.size
  have hB4 : Below w.heap.size w w4 := B3.out.drew.trans (hb4.mono (by show w.heap.size ≤ w3.heap.size; exact B3.out.size))
  have k0 := (hb4.block B (show B < w3.heap.size by omega)).trans G0.out
  have k1 := (hb4.block (B + 1) (show B + 1 < w3.heap.size by omega)).trans G1.out
  have k2 := (hb4.block K8 (show K8 < w3.heap.size by omega)).trans G2.out
  have B4 := Lib.hid hB4
  have q0 : w4.cell? ⟨B, 2, none⟩ = some (.int .i64 ta) := cell_at k0 2 rfl
  have q1 : w4.cell? ⟨B, 3, none⟩ = some (.int .i64 tb) := cell_at k0 3 rfl
  have q2 : w4.cell? ⟨B, 4, none⟩ = some (.int .i64 tc) := cell_at k0 4 rfl
  have K2 := Lib.hid k2; have K1 := Lib.hid k1
  clear hb4 hz4 hB4 k0 k1 k2 hlk hc4 HKS kc4
  go_wp2_with (first | (refine wpList_load_row rfl 72 _ rfl K8 rfl 72 (sgnA s) (0, 0) _ K2.out Tryz.underlying72 rfl (by kernel_rfl) ?_; simp only [Act.put, List.setIfInBounds_toArray, List.set_cons_zero, List.set_cons_succ]) | (refine wpList_load_row rfl 35 _ rfl (B + 1) rfl 35 (bodCells b) (0, 0) _ K1.out Tryz.underlying35 rfl (by kernel_rfl) ?_; simp only [Act.put, List.setIfInBounds_toArray, List.set_cons_zero, List.set_cons_succ]))
  refine HDO.out.mono ?_
  rintro e w5 ⟨v, rfl, ho, hb5⟩
  have HO := Lib.hid (owns_base ho B4.out.size)
  have B5 := Lib.hid (B4.out.trans (hb5.mono B4.out.size))
  have mk : w5.cell? ⟨K8, 3, none⟩ = some (.int .i64 s.mark) := cell_at ((hb5.block _ (show K8 < w4.heap.size from (Array.getElem?_eq_some_iff.1 K2.out).1)).trans K2.out) 3 rfl
  clear ho hb5 HDO heg q0 q1 q2 K1
  have MK := Lib.hid mk
  clear mk
  go_wp2_with fail
  exact HX.out _ _ _ _ _ _ _ _ _ _ _ _ _ _ _ _ _ _ _ _ _ _ _ _ _ _ _ _ _ _ _ _ _ _ _ _ _ _ _ _ _ _ _ _ _ _ _ _ _ _ _ _ _ _ _ _ _ MK.out HO.out B5.out
set_option maxRecDepth 100000 in
set_option maxHeartbeats 8000000 in
theorem options_unknown (n : Int) (b : Bod) (s : Sgn) (DL : List Rea) (hsid : s.id = n) (w w3 : World) (B K8 : Nat) (hz2w : 2 ≤ w.heap.size) (hE : Env w) (wd dp ta tb tc bars : Int) (aR aT aP aX aS : Option Addr) (nR nT nP nX nS cR cT cP cX cS : Nat)
  (hkn : ∀ N, kvGet (kindsKV N) s.kind = none) (hDL : DL = [⟨s.id, 0, 0, false⟩])
  (hB3 : Below w.heap.size w w3) (g0 : w3.heap[B]? = some (.cells #[.int .i64 wd, .int .i64 dp, .int .i64 ta, .int .i64 tb, .int .i64 tc, .slice aR nR cR, .int .i64 bars, .slice aT nT cT, .slice aP nP cP, .slice aX nX cX, .slice aS nS cS] 32 (0, 0))) (g1 : w3.heap[B + 1]? = some (.cells (bodCells b) 35 (0, 0))) (g2 : w3.heap[K8]? = some (.cells (sgnA s) 72 (0, 0))) (e0 e2 e4 e6 e9 e10 e11 e12 e13 e14 e15 e16 e17 e18 e19 e20 e21 e22 e23 e24 e25 e26 e27 e28 e29 e30 e31 e32 e33 e34 e35 e36 e37 e38 e39 e40 e41 e42 e43 e44 e45 e46 e47 e48 e49 e50 e51 e52 e53 e54 e55 e56 e57 e58 : Value) (X : Code)
  (hX : ∀ (v : Value) (w5 : World) (e0 e2 e3 e4 e5 e9 e10 e11 e12 e13 e14 e15 e16 e17 e18 e19 e20 e21 e22 e23 e24 e25 e26 e27 e28 e29 e30 e31 e32 e33 e34 e35 e36 e37 e38 e39 e40 e41 e42 e43 e44 e45 e46 e47 e48 e49 e50 e51 e52 e53 e54 e55 e56 e57 e58 : Value), w5.cell? ⟨K8, 3, none⟩ = some (.int .i64 s.mark) → w5.ownsRow w.heap.size 37 4 v DL.length (DL.flatMap encRea) → Below w.heap.size w w5 → Code.wp Tryz.prog X (bodyPost Tryz.prog Tryz.f9 fun e w' => ∃ v, e = .returned (.tuple #[v, .int .i64 0]) ∧ w'.ownsRow w.heap.size 37 4 v (DL ++ dropL s).length ((DL ++ dropL s).flatMap encRea) ∧ Below w.heap.size w w') { tmps := #[e0, .int .i64 n, e2, e3, e4, e5, v, .int .i64 0, .pointer (some ⟨K8, 0, none⟩), e9, e10, e11, e12, e13, e14, e15, e16, e17, e18, e19, e20, e21, e22, e23, e24, e25, e26, e27, e28, e29, e30, e31, e32, e33, e34, e35, e36, e37, e38, e39, e40, e41, e42, e43, e44, e45, e46, e47, e48, e49, e50, e51, e52, e53, e54, e55, e56, e57, e58], defers := [] } w5) :
  Code.wp Tryz.prog (withLast 1 part18 X) (bodyPost Tryz.prog Tryz.f9 fun e w' => ∃ v, e = .returned (.tuple #[v, .int .i64 0]) ∧ w'.ownsRow w.heap.size 37 4 v (DL ++ dropL s).length ((DL ++ dropL s).flatMap encRea) ∧ Below w.heap.size w w') { tmps := #[e0, .int .i64 n, e2, .pointer (some ⟨B, 0, none⟩), e4, .pointer (some ⟨B + 1, 0, none⟩), e6, .int .i64 0, .pointer (some ⟨K8, 0, none⟩), e9, e10, e11, e12, e13, e14, e15, e16, e17, e18, e19, e20, e21, e22, e23, e24, e25, e26, e27, e28, e29, e30, e31, e32, e33, e34, e35, e36, e37, e38, e39, e40, e41, e42, e43, e44, e45, e46, e47, e48, e49, e50, e51, e52, e53, e54, e55, e56, e57, e58], defers := [] } w3 := by
 have hz1 : B + 1 < w3.heap.size := (Array.getElem?_eq_some_iff.1 g1).1
 have hz5 : K8 < w3.heap.size := (Array.getElem?_eq_some_iff.1 g2).1
 have kc4 : w3.cell? ⟨K8, 4, none⟩ = some (.int .i64 s.kind) := cell_at g2 4 rfl
 have hz6 : 2 ≤ w3.heap.size := Nat.le_trans hz2w hB3.size
 have B3 := Lib.hid hB3; have G0 := Lib.hid g0; have G1 := Lib.hid g1; have G2 := Lib.hid g2; have HKN := Lib.hid hkn; have HDL := Lib.hid hDL; have HE := Lib.hid hE; have HID := Lib.hid hsid; have HX := Lib.hid hX
 clear hkn hDL g0 g1 g2 hE hsid hX hB3
 unfold part18 code18
 conv => arg 2; whnf
 go_wp2_with fail
 go_region_with (go_at_call 35; refine (kinds_any _).mono ?_; rintro e w4 ⟨rfl, hks⟩; have hc4 : w4.cell? ⟨K8, 4, none⟩ = some (.int .i64 s.kind) := (hks.2.2.2.2.cell (p := ⟨K8, 4, none⟩) (show K8 < _ from hz5)).trans kc4; have hlk : Sem.run Tryz.prog (Instr.lookup 78 (.map (some w3.heap.size)) (.int .i64 s.kind) true) w4 = .ok (.tuple #[.nilFunc, .bool false]) w4 := (run_lookup_kv (P := Tryz.prog) (T := 78) Tryz.underlying78 Tryz.underlying3 hks.1 s.kind (Tryz.zeroValue76 _) true).trans (by rw [HKN.out]; rfl); have HKS := Lib.hid hks; clear hks)
 all_goals
  have hb4 := HKS.out.2.2.2.2
  have hz4 := hb4.size
  have hB4 : Below w.heap.size w w4 := B3.out.drew.trans (hb4.mono (by show w.heap.size ≤ w3.heap.size; exact B3.out.size))
  have k0 := (hb4.block B (show B < w3.heap.size by omega)).trans G0.out
  have k1 := (hb4.block (B + 1) (show B + 1 < w3.heap.size by omega)).trans G1.out
  have k2 := (hb4.block K8 (show K8 < w3.heap.size by omega)).trans G2.out
  have B4 := Lib.hid hB4
  have q0 : w4.cell? ⟨B, 2, none⟩ = some (.int .i64 ta) := cell_at k0 2 rfl
  have q1 : w4.cell? ⟨B, 3, none⟩ = some (.int .i64 tb) := cell_at k0 3 rfl
  have q2 : w4.cell? ⟨B, 4, none⟩ = some (.int .i64 tc) := cell_at k0 4 rfl
  have r0 : w4.cell? ⟨K8, 0, none⟩ = some (.int .i64 s.id) := cell_at k2 0 rfl
  have r1 : w4.cell? ⟨K8, 1, none⟩ = some (.int .i64 s.role) := cell_at k2 1 rfl
  have r2 : w4.cell? ⟨K8, 2, none⟩ = some (.int .i64 s.bar) := cell_at k2 2 rfl
  have r3 : w4.cell? ⟨K8, 3, none⟩ = some (.int .i64 s.mark) := cell_at k2 3 rfl
  have r4 : w4.cell? ⟨K8, 4, none⟩ = some (.int .i64 s.kind) := cell_at k2 4 rfl
  have r5 : w4.cell? ⟨K8, 5, none⟩ = some (.int .i64 s.side) := cell_at k2 5 rfl
  have r6 : w4.cell? ⟨K8, 6, none⟩ = some (.int .i64 s.dir) := cell_at k2 6 rfl
  have r7 : w4.cell? ⟨K8, 7, none⟩ = some (.int .i64 s.level) := cell_at k2 7 rfl
  have r8 : w4.cell? ⟨K8, 8, none⟩ = some (.int .i64 s.size) := cell_at k2 8 rfl
  have r9 : w4.cell? ⟨K8, 9, none⟩ = some (.int .i64 s.wth) := cell_at k2 9 rfl
  have r10 : w4.cell? ⟨K8, 10, none⟩ = some (.int .i64 s.fn) := cell_at k2 10 rfl
  have r11 : w4.cell? ⟨K8, 11, none⟩ = some (.int .i64 s.fd) := cell_at k2 11 rfl
  have r12 : w4.cell? ⟨K8, 12, none⟩ = some (.int .i64 s.tn) := cell_at k2 12 rfl
  have r13 : w4.cell? ⟨K8, 13, none⟩ = some (.int .i64 s.td) := cell_at k2 13 rfl
  have p0 : w4.cell? ⟨B + 1, 0, none⟩ = some (.string ⟨b.name.toArray⟩) := cell_at k1 0 rfl
  have p1 : w4.cell? ⟨B + 1, 1, none⟩ = some (.int .i64 b.weight) := cell_at k1 1 rfl
  have p2 : w4.cell? ⟨B + 1, 2, none⟩ = some (.int .i64 b.lift) := cell_at k1 2 rfl
  have p3 : w4.cell? ⟨B + 1, 3, none⟩ = some (.int .i64 b.girth) := cell_at k1 3 rfl
  have p4 : w4.cell? ⟨B + 1, 4, none⟩ = some (.int .i64 b.step) := cell_at k1 4 rfl
  have p5 : w4.cell? ⟨B + 1, 5, none⟩ = some (.int .i64 b.jump) := cell_at k1 5 rfl
  have p6 : w4.cell? ⟨B + 1, 6, none⟩ = some (.int .i64 b.r0) := cell_at k1 6 rfl
  have p7 : w4.cell? ⟨B + 1, 7, none⟩ = some (.int .i64 b.r1) := cell_at k1 7 rfl
  have p8 : w4.cell? ⟨B + 1, 8, none⟩ = some (.int .i64 b.r2) := cell_at k1 8 rfl
  have p9 : w4.cell? ⟨B + 1, 9, none⟩ = some (.int .i64 b.s0) := cell_at k1 9 rfl
  have p10 : w4.cell? ⟨B + 1, 10, none⟩ = some (.int .i64 b.s1) := cell_at k1 10 rfl
  have p11 : w4.cell? ⟨B + 1, 11, none⟩ = some (.int .i64 b.s2) := cell_at k1 11 rfl
  have p12 : w4.cell? ⟨B + 1, 12, none⟩ = some (.int .i64 b.t0) := cell_at k1 12 rfl
  have p13 : w4.cell? ⟨B + 1, 13, none⟩ = some (.int .i64 b.t1) := cell_at k1 13 rfl
  have p14 : w4.cell? ⟨B + 1, 14, none⟩ = some (.int .i64 b.t2) := cell_at k1 14 rfl
  have p15 : w4.cell? ⟨B + 1, 15, none⟩ = some (.int .i64 b.effort) := cell_at k1 15 rfl
  have p16 : w4.cell? ⟨B + 1, 16, none⟩ = some (.int .i64 b.recover) := cell_at k1 16 rfl
  have K2 := Lib.hid k2
  clear hb4 hz4 hB4 k0 k1 k2 hlk hc4 HKS kc4
  have ho := owns_new w4 ⟨n, 0, 0, false⟩
  have hb5 : Below w4.heap.size w4 (w4.alloc (.cells #[.int .i64 n, .int .i64 0, .int .i64 0, .bool false] 37)) := (Below.refl _ _).alloc (Nat.le_refl _) _
  have hDLl : DL = [⟨n, 0, 0, false⟩] := by rw [HDL.out, HID.out]
  have ho2 : (w4.alloc (.cells #[.int .i64 n, .int .i64 0, .int .i64 0, .bool false] 37)).ownsRow w.heap.size 37 4 (.slice (some ⟨w4.heap.size, 0, none⟩) 1 1) DL.length (DL.flatMap encRea) := by rw [hDLl]; exact owns_base ho B4.out.size
  have HO := Lib.hid ho2
  have B5 := Lib.hid (B4.out.trans (hb5.mono B4.out.size))
  have mk : (w4.alloc (.cells #[.int .i64 n, .int .i64 0, .int .i64 0, .bool false] 37)).cell? ⟨K8, 3, none⟩ = some (.int .i64 s.mark) := cell_at ((hb5.block _ (show K8 < w4.heap.size from (Array.getElem?_eq_some_iff.1 K2.out).1)).trans K2.out) 3 rfl
  clear ho ho2 hb5 hDLl q0 q1 q2 r0 r1 r2 r3 r4 r5 r6 r7 r8 r9 r10 r11 r12 r13 p0 p1 p2 p3 p4 p5 p6 p7 p8 p9 p10 p11 p12 p13 p14 p15 p16
  have MK := Lib.hid mk
  clear mk
  go_wp2_with fail
  exact HX.out _ _ _ _ _ _ _ _ _ _ _ _ _ _ _ _ _ _ _ _ _ _ _ _ _ _ _ _ _ _ _ _ _ _ _ _ _ _ _ _ _ _ _ _ _ _ _ _ _ _ _ _ _ _ _ _ _ MK.out HO.out B5.out
end Go.Proofs.YtggcbblikgankaaGreatDoor
end
section
namespace Go.Proofs.YtggcbblikgankaaGreatDoor
open Go Go.RowKit
set_option maxRecDepth 100000 in
set_option maxHeartbeats 8000000 in
theorem options_head (n : Int) (b : Bod) (hbn : b.name.length ≤ maxLen) (wd dp ta tb tc bars : Int) (aR aT aP aX aS : Option Addr) (cR cT cP cX cS : Nat) (rs : List Rol) (ts : List Tmp) (ps : List Pau) (xs : List Con) (ss : List Sgn) (w : World) (hE : Env w)
  (hR : IsRow encR 4 w (.slice aR rs.length cR) rs) (hT : IsRow encT 3 w (.slice aT ts.length cT) ts) (hP : IsRow encP 4 w (.slice aP ps.length cP) ps) (hX : IsRow encC 4 w (.slice aX xs.length cX) xs) (hS : IsRow encS 14 w (.slice aS ss.length cS) ss)
  (hne : wrkE ⟨wd, dp, ta, tb, tc, rs, ⟨bars, ts, ps, xs⟩, ss⟩ = 0) (hid : idF ss n = true) (hbo : bodB b = true) (X : Code) (R : Ending → World → Prop)
  (hK : ∀ (w3 : World) (K8 : Nat) (e0 e2 e4 e6 e9 e10 e11 e12 e13 e14 e15 e16 e17 e18 e19 e20 e21 e22 e23 e24 e25 e26 e27 e28 e29 e30 e31 e32 e33 e34 e35 e36 e37 e38 e39 e40 e41 e42 e43 e44 e45 e46 e47 e48 e49 e50 e51 e52 e53 e54 e55 e56 e57 e58 : Value), Below w.heap.size w w3 → w3.heap[w.heap.size]? = some (.cells #[.int .i64 wd, .int .i64 dp, .int .i64 ta, .int .i64 tb, .int .i64 tc, .slice aR rs.length cR, .int .i64 bars, .slice aT ts.length cT, .slice aP ps.length cP, .slice aX xs.length cX, .slice aS ss.length cS] 32 (0, 0)) → w3.heap[w.heap.size + 1]? = some (.cells (bodCells b) 35 (0, 0)) → w3.heap[K8]? = some (.cells (sgnA ss[idP ss n]!) 72 (0, 0)) → Code.wp Tryz.prog X (bodyPost Tryz.prog Tryz.f9 R) { tmps := #[e0, .int .i64 n, e2, .pointer (some ⟨w.heap.size, 0, none⟩), e4, .pointer (some ⟨w.heap.size + 1, 0, none⟩), e6, .int .i64 0, .pointer (some ⟨K8, 0, none⟩), e9, e10, e11, e12, e13, e14, e15, e16, e17, e18, e19, e20, e21, e22, e23, e24, e25, e26, e27, e28, e29, e30, e31, e32, e33, e34, e35, e36, e37, e38, e39, e40, e41, e42, e43, e44, e45, e46, e47, e48, e49, e50, e51, e52, e53, e54, e55, e56, e57, e58], defers := [] } w3) :
  Code.wp Tryz.prog (withLast 5 code18 X) (bodyPost Tryz.prog Tryz.f9 R) { tmps := #[.agg #[.int .i64 wd, .int .i64 dp, .int .i64 ta, .int .i64 tb, .int .i64 tc, .slice aR rs.length cR, .int .i64 bars, .slice aT ts.length cT, .slice aP ps.length cP, .slice aX xs.length cX, .slice aS ss.length cS], .int .i64 n, bodV b, undef, undef, undef, undef, undef, undef, undef, undef, undef, undef, undef, undef, undef, undef, undef, undef, undef, undef, undef, undef, undef, undef, undef, undef, undef, undef, undef, undef, undef, undef, undef, undef, undef, undef, undef, undef, undef, undef, undef, undef, undef, undef, undef, undef, undef, undef, undef, undef, undef, undef, undef, undef, undef, undef, undef, undef], defers := [] } w := by
 have hfd := fun (w : World) hE hR hT hP hX hS => find_any n wd dp ta tb tc bars aR aT aP aX aS cR cT cP cX cS rs ts ps xs ss w hE hR hT hP hX hS
 have hbc := fun w => bcheck_any b hbn w
 have hfv : findV ⟨wd, dp, ta, tb, tc, rs, ⟨bars, ts, ps, xs⟩, ss⟩ n = .tuple #[.agg (sgnA ss[idP ss n]!), .int .i64 0] := by unfold findV; rw [if_pos hne, hid]; rfl
 rw [hfv] at hfd
 rw [hbo] at hbc
 generalize ss[idP ss n]! = s at *
 have HBC := Lib.hid hbc; have HFD := Lib.hid hfd; have HE := Lib.hid hE; have HR := Lib.hid hR; have HT := Lib.hid hT; have HP := Lib.hid hP; have HX := Lib.hid hX; have HS := Lib.hid hS; have HK := Lib.hid hK
 clear hfd hE hR hT hP hX hS hfv hne hid hbc hbo hK
 generalize rs.length = nR at *
 generalize ts.length = nT at *
 generalize ps.length = nP at *
 generalize xs.length = nX at *
 generalize ss.length = nS at *
 obtain ⟨g0, g1, hz, hb⟩ := blocks2 w (.cells #[.int .i64 wd, .int .i64 dp, .int .i64 ta, .int .i64 tb, .int .i64 tc, .slice aR nR cR, .int .i64 bars, .slice aT nT cT, .slice aP nP cP, .slice aX nX cX, .slice aS nS cS] 32) (.cells (bodCells b) 35)
 have hbv : bodV b = .agg (bodCells b) := rfl
 rw [hbv]
 have G0 := Lib.hid g0; have G1 := Lib.hid g1; have HB := Lib.hid hb; have HZ := Lib.hid hz; have HBV := Lib.hid hbv; have HSA := Lib.hid (show (sgnA s).all (·.oneCell') = true by simp [sgnA, Value.oneCell'])
 clear g0 g1 hz hb hbv
 unfold code18
 conv => arg 2; whnf
 simp only [withLast]
 go_wp2_with (first | (refine wpList_load_row rfl 32 _ rfl w.heap.size rfl 32 _ (0, 0) _ G0.out Tryz.underlying32 rfl (by kernel_rfl) ?_; simp only [Act.put, List.setIfInBounds_toArray, List.set_cons_zero, List.set_cons_succ]))
 generalize (w.alloc (.cells #[.int .i64 wd, .int .i64 dp, .int .i64 ta, .int .i64 tb, .int .i64 tc, .slice aR nR cR, .int .i64 bars, .slice aT nT cT, .slice aP nP cP, .slice aX nX cX, .slice aS nS cS] 32)).alloc (.cells (bodCells b) 35) = w0 at *
 refine (HFD.out w0 (HE.out.below HB.out) (HR.out.below HB.out (Nat.le_refl _)) (HT.out.below HB.out (Nat.le_refl _)) (HP.out.below HB.out (Nat.le_refl _)) (HX.out.below HB.out (Nat.le_refl _)) (HS.out.below HB.out (Nat.le_refl _))).mono ?_
 rintro e w1 ⟨rfl, b1⟩
 have hz := HZ.out
 have hb1 := b1.size
 have B1 := Lib.hid (HB.out.trans (b1.mono (by omega)))
 have g0 := (b1.block w.heap.size (by omega)).trans G0.out
 have g1 := (b1.block (w.heap.size + 1) (by omega)).trans G1.out
 have hl : w.heap.size + 1 < w1.heap.size := by omega
 have H0 := Lib.hid g0; have H1 := Lib.hid g1
 clear HFD HE HR HT HP HX HS HB G0 G1 b1 hz g0 g1 HZ hb1
 have hb5 : Below w1.heap.size w1 (w1.alloc (.cells (sgnA s) 72)) := (Below.refl w1.heap.size w1).alloc (Nat.le_refl _) _
 have I0 := Lib.hid ((hb5.block w.heap.size (by omega)).trans H0.out)
 have I1 := Lib.hid ((hb5.block (w.heap.size + 1) hl).trans H1.out)
 have I2 := Lib.hid (heap_alloc_new w1 (.cells (sgnA s) 72))
 have B2 := Lib.hid (B1.out.trans (hb5.mono B1.out.size))
 have hz2 : (w1.alloc (.cells (sgnA s) 72)).heap.size = w1.heap.size + 1 := by simp
 have Z2 := Lib.hid hz2
 clear hb5 H0 H1 B1 hz2
 go_wp2_with (first | (refine wpList_store_row rfl 72 _ _ rfl w1.heap.size (sgnA s) rfl rfl 72 _ (heap_alloc_new w1 _) (by kernel_rfl) rfl HSA.out ?_; rw [World.setRow_alloc_new]) | (refine wpList_load_row rfl 35 _ rfl (w.heap.size + 1) rfl 35 (bodCells b) (0, 0) _ I1.out Tryz.underlying35 rfl (by kernel_rfl) ?_; simp only [Act.put, List.setIfInBounds_toArray, List.set_cons_zero, List.set_cons_succ]))
 refine (HBC.out _).mono ?_
 rintro e w3 ⟨rfl, hb3⟩
 rw [show codeI true 250 = 0 from rfl]
 have J0 := Lib.hid ((hb3.block _ (by have := Z2.out; omega)).trans I0.out)
 have J1 := Lib.hid ((hb3.block _ (by have := Z2.out; omega)).trans I1.out)
 have J2 := Lib.hid ((hb3.block _ (by have := Z2.out; omega)).trans I2.out)
 have B3 := Lib.hid (B2.out.trans (hb3.mono B2.out.size))
 clear hb3 I0 I1 I2 B2 Z2 HBC
 go_wp2_with fail
 exact HK.out w3 w1.heap.size _ _ _ _ _ _ _ _ _ _ _ _ _ _ _ _ _ _ _ _ _ _ _ _ _ _ _ _ _ _ _ _ _ _ _ _ _ _ _ _ _ _ _ _ _ _ _ _ _ _ _ _ _ _ B3.out J0.out J1.out J2.out
set_option maxRecDepth 100000 in
set_option maxHeartbeats 8000000 in
theorem options_body (n : Int) (b : Bod) (hbn : b.name.length ≤ maxLen) (wd dp ta tb tc bars : Int) (aR aT aP aX aS : Option Addr) (cR cT cP cX cS : Nat) (rs : List Rol) (ts : List Tmp) (ps : List Pau) (xs : List Con) (ss : List Sgn) (w : World) (hE : Env w)
  (hR : IsRow encR 4 w (.slice aR rs.length cR) rs) (hT : IsRow encT 3 w (.slice aT ts.length cT) ts) (hP : IsRow encP 4 w (.slice aP ps.length cP) ps) (hX : IsRow encC 4 w (.slice aX xs.length cX) xs) (hS : IsRow encS 14 w (.slice aS ss.length cS) ss)
  (hne : wrkE ⟨wd, dp, ta, tb, tc, rs, ⟨bars, ts, ps, xs⟩, ss⟩ = 0) (hid : idF ss n = true) (hbo : bodB b = false) :
  Calls Tryz.prog 9 #[.agg #[.int .i64 wd, .int .i64 dp, .int .i64 ta, .int .i64 tb, .int .i64 tc, .slice aR rs.length cR, .int .i64 bars, .slice aT ts.length cT, .slice aP ps.length cP, .slice aX xs.length cX, .slice aS ss.length cS], .int .i64 n, bodV b] w fun e w' => e = .returned (.tuple #[.slice none 0 0, .int .i64 250]) ∧ Below w.heap.size w w' := by
 have hfd := fun (w : World) hE hR hT hP hX hS => find_any n wd dp ta tb tc bars aR aT aP aX aS cR cT cP cX cS rs ts ps xs ss w hE hR hT hP hX hS
 have hbc := fun w => bcheck_any b hbn w
 have hfv : findV ⟨wd, dp, ta, tb, tc, rs, ⟨bars, ts, ps, xs⟩, ss⟩ n = .tuple #[.agg (sgnA ss[idP ss n]!), .int .i64 0] := by unfold findV; rw [if_pos hne, hid]; rfl
 rw [hfv] at hfd
 rw [hbo] at hbc
 generalize ss[idP ss n]! = s at *
 have HBC := Lib.hid hbc; have HFD := Lib.hid hfd; have HE := Lib.hid hE; have HR := Lib.hid hR; have HT := Lib.hid hT; have HP := Lib.hid hP; have HX := Lib.hid hX; have HS := Lib.hid hS;
 clear hfd hE hR hT hP hX hS hfv hne hid hbc hbo
 generalize rs.length = nR at *
 generalize ts.length = nT at *
 generalize ps.length = nP at *
 generalize xs.length = nX at *
 generalize ss.length = nS at *
 obtain ⟨g0, g1, hz, hb⟩ := blocks2 w (.cells #[.int .i64 wd, .int .i64 dp, .int .i64 ta, .int .i64 tb, .int .i64 tc, .slice aR nR cR, .int .i64 bars, .slice aT nT cT, .slice aP nP cP, .slice aX nX cX, .slice aS nS cS] 32) (.cells (bodCells b) 35)
 have hbv : bodV b = .agg (bodCells b) := rfl
 rw [hbv]
 have G0 := Lib.hid g0; have G1 := Lib.hid g1; have HB := Lib.hid hb; have HZ := Lib.hid hz; have HBV := Lib.hid hbv; have HSA := Lib.hid (show (sgnA s).all (·.oneCell') = true by simp [sgnA, Value.oneCell'])
 clear g0 g1 hz hb hbv
 go_enter Tryz.func9, Tryz.ntmps9
 go_wp2_with (first | (refine wpList_load_row rfl 32 _ rfl w.heap.size rfl 32 _ (0, 0) _ G0.out Tryz.underlying32 rfl (by kernel_rfl) ?_; simp only [Act.put, List.setIfInBounds_toArray, List.set_cons_zero, List.set_cons_succ]))
 generalize (w.alloc (.cells #[.int .i64 wd, .int .i64 dp, .int .i64 ta, .int .i64 tb, .int .i64 tc, .slice aR nR cR, .int .i64 bars, .slice aT nT cT, .slice aP nP cP, .slice aX nX cX, .slice aS nS cS] 32)).alloc (.cells (bodCells b) 35) = w0 at *
 refine (HFD.out w0 (HE.out.below HB.out) (HR.out.below HB.out (Nat.le_refl _)) (HT.out.below HB.out (Nat.le_refl _)) (HP.out.below HB.out (Nat.le_refl _)) (HX.out.below HB.out (Nat.le_refl _)) (HS.out.below HB.out (Nat.le_refl _))).mono ?_
 rintro e w1 ⟨rfl, b1⟩
 have hz := HZ.out
 have hb1 := b1.size
 have B1 := Lib.hid (HB.out.trans (b1.mono (by omega)))
 have g0 := (b1.block w.heap.size (by omega)).trans G0.out
 have g1 := (b1.block (w.heap.size + 1) (by omega)).trans G1.out
 have hl : w.heap.size + 1 < w1.heap.size := by omega
 have H0 := Lib.hid g0; have H1 := Lib.hid g1
 clear HFD HE HR HT HP HX HS HB G0 G1 b1 hz g0 g1 HZ hb1
 have hb5 : Below w1.heap.size w1 (w1.alloc (.cells (sgnA s) 72)) := (Below.refl w1.heap.size w1).alloc (Nat.le_refl _) _
 have I0 := Lib.hid ((hb5.block w.heap.size (by omega)).trans H0.out)
 have I1 := Lib.hid ((hb5.block (w.heap.size + 1) hl).trans H1.out)
 have I2 := Lib.hid (heap_alloc_new w1 (.cells (sgnA s) 72))
 have B2 := Lib.hid (B1.out.trans (hb5.mono B1.out.size))
 have hz2 : (w1.alloc (.cells (sgnA s) 72)).heap.size = w1.heap.size + 1 := by simp
 have Z2 := Lib.hid hz2
 clear hb5 H0 H1 B1 hz2
 go_wp2_with (first | (refine wpList_store_row rfl 72 _ _ rfl w1.heap.size (sgnA s) rfl rfl 72 _ (heap_alloc_new w1 _) (by kernel_rfl) rfl HSA.out ?_; rw [World.setRow_alloc_new]) | (refine wpList_load_row rfl 35 _ rfl (w.heap.size + 1) rfl 35 (bodCells b) (0, 0) _ I1.out Tryz.underlying35 rfl (by kernel_rfl) ?_; simp only [Act.put, List.setIfInBounds_toArray, List.set_cons_zero, List.set_cons_succ]))
 refine (HBC.out _).mono ?_
 rintro e w3 ⟨rfl, hb3⟩
 rw [show codeI false 250 = 250 from rfl]
 have B3 := Lib.hid (B2.out.trans (hb3.mono B2.out.size))
 clear hb3 I0 I1 I2 B2 Z2 HBC
 go_wp2_with fail
 go_ret2
 exact ⟨rfl, B3.out⟩
end Go.Proofs.YtggcbblikgankaaGreatDoor
end
section
namespace Go.Proofs.YtggcbblikgankaaGreatDoor
open Go Go.RowKit
theorem kv_unknown {n : Nat} {k : Int} (h : k = 6 ∨ k = 7 ∨ k = 8) : kvGet (kindsKV n) k = none := by rcases h with rfl | rfl | rfl <;> rfl
set_option maxRecDepth 100000 in
set_option maxHeartbeats 8000000 in
theorem options_some (n : Int) (b : Bod) (hbn : b.name.length ≤ maxLen) (wd dp ta tb tc bars : Int) (aR aT aP aX aS : Option Addr) (cR cT cP cX cS : Nat) (rs : List Rol) (ts : List Tmp) (ps : List Pau) (xs : List Con) (ss : List Sgn) (w : World) (hE : Env w) (hz2w : 2 ≤ w.heap.size)
  (hR : IsRow encR 4 w (.slice aR rs.length cR) rs) (hT : IsRow encT 3 w (.slice aT ts.length cT) ts) (hP : IsRow encP 4 w (.slice aP ps.length cP) ps) (hX : IsRow encC 4 w (.slice aX xs.length cX) xs) (hS : IsRow encS 14 w (.slice aS ss.length cS) ss)
  (hne : wrkE ⟨wd, dp, ta, tb, tc, rs, ⟨bars, ts, ps, xs⟩, ss⟩ = 0) (hid : idF ss n = true) (hbo : bodB b = true) :
  Calls Tryz.prog 9 #[.agg #[.int .i64 wd, .int .i64 dp, .int .i64 ta, .int .i64 tb, .int .i64 tc, .slice aR rs.length cR, .int .i64 bars, .slice aT ts.length cT, .slice aP ps.length cP, .slice aX xs.length cX, .slice aS ss.length cS], .int .i64 n, bodV b] w fun e w' => ∃ v, e = .returned (.tuple #[v, .int .i64 0]) ∧ w'.ownsRow w.heap.size 37 4 v (optL ⟨wd, dp, ta, tb, tc, rs, ⟨bars, ts, ps, xs⟩, ss⟩ ss[idP ss n]! b).length ((optL ⟨wd, dp, ta, tb, tc, rs, ⟨bars, ts, ps, xs⟩, ss⟩ ss[idP ss n]! b).flatMap encRea) ∧ Below w.heap.size w w' := by
 have hsm : ss[idP ss n]! ∈ ss := find_mem hid
 have hsid : ss[idP ss n]!.id = n := find_id hid
 have hr := right_kind (wrk_right (k := ⟨wd, dp, ta, tb, tc, rs, ⟨bars, ts, ps, xs⟩, ss⟩) hne hsm)
 have hlen := doL_len ⟨wd, dp, ta, tb, tc, rs, ⟨bars, ts, ps, xs⟩, ss⟩ ss[idP ss n]! hbo
 have hop : optL ⟨wd, dp, ta, tb, tc, rs, ⟨bars, ts, ps, xs⟩, ss⟩ ss[idP ss n]! b = doL ⟨wd, dp, ta, tb, tc, rs, ⟨bars, ts, ps, xs⟩, ss⟩ ss[idP ss n]! b ++ dropL ss[idP ss n]! := rfl
 rw [hop]
 go_enter Tryz.func9, Tryz.ntmps9
 refine options_head n b hbn wd dp ta tb tc bars aR aT aP aX aS cR cT cP cX cS rs ts ps xs ss w hE hR hT hP hX hS hne hid hbo (withLast 1 part18 last18) _ ?_
 intro w3 K8 _ _ _ _ _ _ _ _ _ _ _ _ _ _ _ _ _ _ _ _ _ _ _ _ _ _ _ _ _ _ _ _ _ _ _ _ _ _ _ _ _ _ _ _ _ _ _ _ _ _ _ _ _ _ hB3 g0 g1 g2
 have hmark := fun (v : Value) (w5 : World) (a0 a1 a2 a3 a4 a5 a6 a7 a8 a9 a10 a11 a12 a13 a14 a15 a16 a17 a18 a19 a20 a21 a22 a23 a24 a25 a26 a27 a28 a29 a30 a31 a32 a33 a34 a35 a36 a37 a38 a39 a40 a41 a42 a43 a44 a45 a46 a47 a48 a49 a50 a51 a52 a53 a54 : Value) mk ho hB5 => options_mark n ss[idP ss n]! (doL ⟨wd, dp, ta, tb, tc, rs, ⟨bars, ts, ps, xs⟩, ss⟩ ss[idP ss n]! b) hlen hsid w w5 K8 v mk ho hB5 a0 a1 a2 a3 a4 a5 a6 a7 a8 a9 a10 a11 a12 a13 a14 a15 a16 a17 a18 a19 a20 a21 a22 a23 a24 a25 a26 a27 a28 a29 a30 a31 a32 a33 a34 a35 a36 a37 a38 a39 a40 a41 a42 a43 a44 a45 a46 a47 a48 a49 a50 a51 a52 a53 a54
 by_cases hu : ss[idP ss n]!.kind = 6 ∨ ss[idP ss n]!.kind = 7 ∨ ss[idP ss n]!.kind = 8
 ·refine options_unknown n b ss[idP ss n]! (doL ⟨wd, dp, ta, tb, tc, rs, ⟨bars, ts, ps, xs⟩, ss⟩ ss[idP ss n]! b) hsid w w3 w.heap.size K8 hz2w hE wd dp ta tb tc bars aR aT aP aX aS _ _ _ _ _ cR cT cP cX cS (fun N => kv_unknown hu) ?_ hB3 g0 g1 g2 _ _ _ _ _ _ _ _ _ _ _ _ _ _ _ _ _ _ _ _ _ _ _ _ _ _ _ _ _ _ _ _ _ _ _ _ _ _ _ _ _ _ _ _ _ _ _ _ _ _ _ _ _ _ last18 hmark
  unfold doL
  rw [if_neg (by omega), if_neg (by omega), if_neg (by omega), if_neg (by omega), if_neg (by omega), if_neg (by omega)]
 ·refine options_known n b ss[idP ss n]! (doL ⟨wd, dp, ta, tb, tc, rs, ⟨bars, ts, ps, xs⟩, ss⟩ ss[idP ss n]! b) w w3 w.heap.size K8 hz2w hE wd dp ta tb tc bars aR aT aP aX aS _ _ _ _ _ cR cT cP cX cS (fun w' W hEW hzW hks => ?_) hB3 g0 g1 g2 _ _ _ _ _ _ _ _ _ _ _ _ _ _ _ _ _ _ _ _ _ _ _ _ _ _ _ _ _ _ _ _ _ _ _ _ _ _ _ _ _ _ _ _ _ _ _ _ _ _ _ _ _ _ last18 hmark
  rcases do_kind (k := ⟨wd, dp, ta, tb, tc, rs, ⟨bars, ts, ps, xs⟩, ss⟩) hne hsm hbo hEW hzW hks with h | ⟨h, _⟩
  ·exact h
  ·exfalso
   have hk : ss[idP ss n]!.kind = 1 ∨ ss[idP ss n]!.kind = 2 ∨ ss[idP ss n]!.kind = 3 ∨ ss[idP ss n]!.kind = 4 ∨ ss[idP ss n]!.kind = 5 ∨ ss[idP ss n]!.kind = 9 := by omega
   rcases hk with hk | hk | hk | hk | hk | hk <;> rw [hk] at h <;> exact absurd h (by simp [kvGet, kindsKV])
theorem options_any (n : Int) (b : Bod) (hbn : b.name.length ≤ maxLen) (wd dp ta tb tc bars : Int) (aR aT aP aX aS : Option Addr) (cR cT cP cX cS : Nat) (rs : List Rol) (ts : List Tmp) (ps : List Pau) (xs : List Con) (ss : List Sgn) (w : World) (hE : Env w) (hz2w : 2 ≤ w.heap.size)
  (hR : IsRow encR 4 w (.slice aR rs.length cR) rs) (hT : IsRow encT 3 w (.slice aT ts.length cT) ts) (hP : IsRow encP 4 w (.slice aP ps.length cP) ps) (hX : IsRow encC 4 w (.slice aX xs.length cX) xs) (hS : IsRow encS 14 w (.slice aS ss.length cS) ss) :
  Calls Tryz.prog 9 #[.agg #[.int .i64 wd, .int .i64 dp, .int .i64 ta, .int .i64 tb, .int .i64 tc, .slice aR rs.length cR, .int .i64 bars, .slice aT ts.length cT, .slice aP ps.length cP, .slice aX xs.length cX, .slice aS ss.length cS], .int .i64 n, bodV b] w fun e w' => ∃ v, e = .returned (.tuple #[v, .int .i64 (optE ⟨wd, dp, ta, tb, tc, rs, ⟨bars, ts, ps, xs⟩, ss⟩ n b)]) ∧ w'.ownsRow w.heap.size 37 4 v (optR ⟨wd, dp, ta, tb, tc, rs, ⟨bars, ts, ps, xs⟩, ss⟩ n b).length ((optR ⟨wd, dp, ta, tb, tc, rs, ⟨bars, ts, ps, xs⟩, ss⟩ n b).flatMap encRea) ∧ Below w.heap.size w w' := by
 have nil : ∀ er, er ≠ 0 → optE ⟨wd, dp, ta, tb, tc, rs, ⟨bars, ts, ps, xs⟩, ss⟩ n b = er → optR ⟨wd, dp, ta, tb, tc, rs, ⟨bars, ts, ps, xs⟩, ss⟩ n b = [] := fun er h h2 => by unfold optR; rw [if_neg (by rw [h2]; exact h)]
 by_cases hne : wrkE ⟨wd, dp, ta, tb, tc, rs, ⟨bars, ts, ps, xs⟩, ss⟩ = 0
 ·cases hid : idF ss n with
  | false =>
   have he : optE ⟨wd, dp, ta, tb, tc, rs, ⟨bars, ts, ps, xs⟩, ss⟩ n b = if bodB b then 300 else 250 := by
    unfold optE; rw [if_neg (by simpa using hne)]; simp [hid]
   refine (options_none n b hbn wd dp ta tb tc bars aR aT aP aX aS cR cT cP cX cS rs ts ps xs ss w hE hR hT hP hX hS hne hid).mono ?_
   rintro e w' ⟨rfl, hb⟩
   rw [nil _ (by split <;> decide) he, he]
   exact ⟨_, rfl, World.ownsRow_nil _ _ _ _, hb⟩
  | true =>
   cases hbo : bodB b with
   | false =>
    have he : optE ⟨wd, dp, ta, tb, tc, rs, ⟨bars, ts, ps, xs⟩, ss⟩ n b = 250 := by
     unfold optE; rw [if_neg (by simpa using hne), hbo]; rfl
    refine (options_body n b hbn wd dp ta tb tc bars aR aT aP aX aS cR cT cP cX cS rs ts ps xs ss w hE hR hT hP hX hS hne hid hbo).mono ?_
    rintro e w' ⟨rfl, hb⟩
    rw [nil _ (by decide) he, he]
    exact ⟨_, rfl, World.ownsRow_nil _ _ _ _, hb⟩
   | true =>
    have he : optE ⟨wd, dp, ta, tb, tc, rs, ⟨bars, ts, ps, xs⟩, ss⟩ n b = 0 := by
     unfold optE; rw [if_neg (by simpa using hne), hbo]; simp [hid]
    have hr : optR ⟨wd, dp, ta, tb, tc, rs, ⟨bars, ts, ps, xs⟩, ss⟩ n b = optL ⟨wd, dp, ta, tb, tc, rs, ⟨bars, ts, ps, xs⟩, ss⟩ ss[idP ss n]! b := by unfold optR; rw [if_pos he]
    rw [he, hr]
    exact options_some n b hbn wd dp ta tb tc bars aR aT aP aX aS cR cT cP cX cS rs ts ps xs ss w hE hz2w hR hT hP hX hS hne hid hbo
 ·have he : optE ⟨wd, dp, ta, tb, tc, rs, ⟨bars, ts, ps, xs⟩, ss⟩ n b = wrkE ⟨wd, dp, ta, tb, tc, rs, ⟨bars, ts, ps, xs⟩, ss⟩ := by unfold optE; rw [if_pos (by simpa using hne)]
  refine (options_err n b hbn wd dp ta tb tc bars aR aT aP aX aS cR cT cP cX cS rs ts ps xs ss w hE hR hT hP hX hS hne).mono ?_
  rintro e w' ⟨rfl, hb⟩
  rw [nil _ hne he, he]
  exact ⟨_, rfl, World.ownsRow_nil _ _ _ _, hb⟩
end Go.Proofs.YtggcbblikgankaaGreatDoor
end
section
namespace Go.Proofs.YtggcbblikgankaaGreatDoor
open Go Go.RowKit
def movB (s : Sgn) : Bool := decide (s.kind = 3) || decide (s.kind = 4) || decide (s.kind = 5)
def formB (s : Sgn) (r : Rea) : Bool :=
 if r.drop then decide (r.dir = 0) && decide (r.level = 0) else if movB s then inB r.dir 0 8 && inB r.level 1 3
 else if s.kind = 9 then decide (r.dir = 0) && inB r.level 1 3 else decide (r.dir = 0) && decide (r.level = 0)
def priceI (s : Sgn) (r : Rea) : Int :=
 if r.drop then (if s.mark = 3 then 4 else if s.mark = 2 then 16 else if s.mark = 1 then 64 else 0)
 else if movB s && !(decide (r.dir = s.dir) && decide (r.level = s.level)) then 1 else 0
def costE (k : Wrk) (n : Int) (r : Rea) : Int := if wrkE k ≠ 0 then wrkE k else if idF k.signs n then (if formB (k.signs[idP k.signs n]!) r && decide (r.sign = n) then 0 else 1) else 300
def costI (k : Wrk) (n : Int) (r : Rea) : Int := if costE k n r = 0 then priceI (k.signs[idP k.signs n]!) r else 0
def reaV (r : Rea) : Value := .agg #[.int .i64 r.sign, .int .i64 r.dir, .int .i64 r.level, .bool r.drop]
noncomputable def code22 : Code := (Tryz.f11.body).getD .skip
noncomputable def part22a : Code := lastPart 3 code22
noncomputable def part22b : Code := lastPart 4 code22
noncomputable def part22c : Code := lastPart 6 code22
set_option maxRecDepth 100000 in
set_option maxHeartbeats 8000000 in
theorem cost_moves (n : Int) (s : Sgn) (w3 : World) (B K8 : Nat) (g2 : w3.heap[K8]? = some (.cells (sgnA s) 72 (0, 0))) (e0 e2 e3 e4 e9 e10 e11 e12 e13 e14 e15 e16 e17 e18 e19 e20 e21 e22 e23 e24 e25 e26 e27 e28 e29 e30 e31 e32 e33 e34 e35 e36 e37 e38 e39 e40 e41 e42 e43 e44 e45 e46 e47 e48 e49 e50 e51 e52 e53 e54 e55 e56 e57 e58 e59 e60 e61 e62 e63 e64 e65 e66 e67 e68 e69 e70 e71 e72 e73 e74 e75 e76 e77 e78 e79 e80 e81 e82 e83 e84 e85 e86 e87 e88 e89 e90 e91 e92 e93 e94 e95 e96 e97 e98 e99 e100 e101 e102 e103 e104 e105 e106 e107 e108 e109 e110 e111 e112 : Value) (X : Code) (R : Ending → World → Prop)
  (hX : ∀ (e0 e2 e3 e4 e10 e11 e12 e13 e14 e15 e16 e17 e18 e19 e20 e21 e22 e23 e24 e25 e26 e27 e28 e29 e30 e31 e32 e33 e34 e35 e36 e37 e38 e39 e40 e41 e42 e43 e44 e45 e46 e47 e48 e49 e50 e51 e52 e53 e54 e55 e56 e57 e58 e59 e60 e61 e62 e63 e64 e65 e66 e67 e68 e69 e70 e71 e72 e73 e74 e75 e76 e77 e78 e79 e80 e81 e82 e83 e84 e85 e86 e87 e88 e89 e90 e91 e92 e93 e94 e95 e96 e97 e98 e99 e100 e101 e102 e103 e104 e105 e106 e107 e108 e109 e110 e111 e112 : Value), Code.wp Tryz.prog X (bodyPost Tryz.prog Tryz.f11 R) { tmps := #[e0, .int .i64 n, e2, e3, e4, .pointer (some ⟨B, 0, none⟩), .int .i64 0, .int .i64 0, .pointer (some ⟨K8, 0, none⟩), .bool (movB s), e10, e11, e12, e13, e14, e15, e16, e17, e18, e19, e20, e21, e22, e23, e24, e25, e26, e27, e28, e29, e30, e31, e32, e33, e34, e35, e36, e37, e38, e39, e40, e41, e42, e43, e44, e45, e46, e47, e48, e49, e50, e51, e52, e53, e54, e55, e56, e57, e58, e59, e60, e61, e62, e63, e64, e65, e66, e67, e68, e69, e70, e71, e72, e73, e74, e75, e76, e77, e78, e79, e80, e81, e82, e83, e84, e85, e86, e87, e88, e89, e90, e91, e92, e93, e94, e95, e96, e97, e98, e99, e100, e101, e102, e103, e104, e105, e106, e107, e108, e109, e110, e111, e112], defers := [] } w3) :
  Code.wp Tryz.prog (withLast 1 part22a X) (bodyPost Tryz.prog Tryz.f11 R) { tmps := #[e0, .int .i64 n, e2, e3, e4, .pointer (some ⟨B, 0, none⟩), .int .i64 0, .int .i64 0, .pointer (some ⟨K8, 0, none⟩), e9, e10, e11, e12, e13, e14, e15, e16, e17, e18, e19, e20, e21, e22, e23, e24, e25, e26, e27, e28, e29, e30, e31, e32, e33, e34, e35, e36, e37, e38, e39, e40, e41, e42, e43, e44, e45, e46, e47, e48, e49, e50, e51, e52, e53, e54, e55, e56, e57, e58, e59, e60, e61, e62, e63, e64, e65, e66, e67, e68, e69, e70, e71, e72, e73, e74, e75, e76, e77, e78, e79, e80, e81, e82, e83, e84, e85, e86, e87, e88, e89, e90, e91, e92, e93, e94, e95, e96, e97, e98, e99, e100, e101, e102, e103, e104, e105, e106, e107, e108, e109, e110, e111, e112], defers := [] } w3 := by
 have c4 : w3.cell? ⟨K8, 4, none⟩ = some (.int .i64 s.kind) := cell_at g2 4 rfl
 have hm : movB s = (decide (s.kind = 3) || decide (s.kind = 4) || decide (s.kind = 5)) := rfl
 generalize movB s = mv at *
 have HX := Lib.hid hX; have HM := Lib.hid hm
 clear hX g2 hm
 unfold part22a code22
 conv => arg 2; whnf
 by_cases h3 : s.kind = 3
 ·have f1 : (s.kind == 3) = true := by simpa using h3
  obtain rfl : mv = true := by rw [HM.out, decide_eq_true h3]; rfl
  clear h3
  go_wp2_with fail
  exact HX.out _ _ _ _ _ _ _ _ _ _ _ _ _ _ _ _ _ _ _ _ _ _ _ _ _ _ _ _ _ _ _ _ _ _ _ _ _ _ _ _ _ _ _ _ _ _ _ _ _ _ _ _ _ _ _ _ _ _ _ _ _ _ _ _ _ _ _ _ _ _ _ _ _ _ _ _ _ _ _ _ _ _ _ _ _ _ _ _ _ _ _ _ _ _ _ _ _ _ _ _ _ _ _ _ _ _ _
 ·have f1 : (s.kind == 3) = false := by simpa using h3
  by_cases h4 : s.kind = 4
  ·have f2 : (s.kind == 4) = true := by simpa using h4
   obtain rfl : mv = true := by rw [HM.out, decide_eq_true h4]; simp
   clear h3 h4
   go_wp2_with fail
   exact HX.out _ _ _ _ _ _ _ _ _ _ _ _ _ _ _ _ _ _ _ _ _ _ _ _ _ _ _ _ _ _ _ _ _ _ _ _ _ _ _ _ _ _ _ _ _ _ _ _ _ _ _ _ _ _ _ _ _ _ _ _ _ _ _ _ _ _ _ _ _ _ _ _ _ _ _ _ _ _ _ _ _ _ _ _ _ _ _ _ _ _ _ _ _ _ _ _ _ _ _ _ _ _ _ _ _ _ _
  ·have f2 : (s.kind == 4) = false := by simpa using h4
   by_cases h5 : s.kind = 5
   ·have f3 : (s.kind == 5) = true := by simpa using h5
    obtain rfl : mv = true := by rw [HM.out, decide_eq_true h5]; simp
    clear h3 h4 h5
    go_wp2_with fail
    exact HX.out _ _ _ _ _ _ _ _ _ _ _ _ _ _ _ _ _ _ _ _ _ _ _ _ _ _ _ _ _ _ _ _ _ _ _ _ _ _ _ _ _ _ _ _ _ _ _ _ _ _ _ _ _ _ _ _ _ _ _ _ _ _ _ _ _ _ _ _ _ _ _ _ _ _ _ _ _ _ _ _ _ _ _ _ _ _ _ _ _ _ _ _ _ _ _ _ _ _ _ _ _ _ _ _ _ _ _
   ·have f3 : (s.kind == 5) = false := by simpa using h5
    obtain rfl : mv = false := by rw [HM.out, decide_eq_false h3, decide_eq_false h4, decide_eq_false h5]; rfl
    clear h3 h4 h5
    go_wp2_with fail
    exact HX.out _ _ _ _ _ _ _ _ _ _ _ _ _ _ _ _ _ _ _ _ _ _ _ _ _ _ _ _ _ _ _ _ _ _ _ _ _ _ _ _ _ _ _ _ _ _ _ _ _ _ _ _ _ _ _ _ _ _ _ _ _ _ _ _ _ _ _ _ _ _ _ _ _ _ _ _ _ _ _ _ _ _ _ _ _ _ _ _ _ _ _ _ _ _ _ _ _ _ _ _ _ _ _ _ _ _ _
end Go.Proofs.YtggcbblikgankaaGreatDoor
end
section
namespace Go.Proofs.YtggcbblikgankaaGreatDoor
open Go Go.RowKit
def zeroB (r : Rea) : Bool := decide (r.dir = 0) && decide (r.level = 0)
noncomputable def part22d : Code := lastPart 5 code22
set_option maxRecDepth 100000 in
set_option maxHeartbeats 8000000 in
theorem cost_zero (n : Int) (mv : Bool) (r : Rea) (w3 : World) (B K8 : Nat) (g1 : w3.heap[B]? = some (.cells (reaA r) 37 (0, 0))) (e0 e2 e3 e4 e10 e11 e12 e13 e14 e15 e16 e17 e18 e19 e20 e21 e22 e23 e24 e25 e26 e27 e28 e29 e30 e31 e32 e33 e34 e35 e36 e37 e38 e39 e40 e41 e42 e43 e44 e45 e46 e47 e48 e49 e50 e51 e52 e53 e54 e55 e56 e57 e58 e59 e60 e61 e62 e63 e64 e65 e66 e67 e68 e69 e70 e71 e72 e73 e74 e75 e76 e77 e78 e79 e80 e81 e82 e83 e84 e85 e86 e87 e88 e89 e90 e91 e92 e93 e94 e95 e96 e97 e98 e99 e100 e101 e102 e103 e104 e105 e106 e107 e108 e109 e110 e111 e112 : Value) (X : Code) (R : Ending → World → Prop)
  (hX : ∀ (e0 e2 e3 e4 e11 e12 e13 e14 e15 e16 e17 e18 e19 e20 e21 e22 e23 e24 e25 e26 e27 e28 e29 e30 e31 e32 e33 e34 e35 e36 e37 e38 e39 e40 e41 e42 e43 e44 e45 e46 e47 e48 e49 e50 e51 e52 e53 e54 e55 e56 e57 e58 e59 e60 e61 e62 e63 e64 e65 e66 e67 e68 e69 e70 e71 e72 e73 e74 e75 e76 e77 e78 e79 e80 e81 e82 e83 e84 e85 e86 e87 e88 e89 e90 e91 e92 e93 e94 e95 e96 e97 e98 e99 e100 e101 e102 e103 e104 e105 e106 e107 e108 e109 e110 e111 e112 : Value), Code.wp Tryz.prog X (bodyPost Tryz.prog Tryz.f11 R) { tmps := #[e0, .int .i64 n, e2, e3, e4, .pointer (some ⟨B, 0, none⟩), .int .i64 0, .int .i64 0, .pointer (some ⟨K8, 0, none⟩), .bool mv, .bool (zeroB r), e11, e12, e13, e14, e15, e16, e17, e18, e19, e20, e21, e22, e23, e24, e25, e26, e27, e28, e29, e30, e31, e32, e33, e34, e35, e36, e37, e38, e39, e40, e41, e42, e43, e44, e45, e46, e47, e48, e49, e50, e51, e52, e53, e54, e55, e56, e57, e58, e59, e60, e61, e62, e63, e64, e65, e66, e67, e68, e69, e70, e71, e72, e73, e74, e75, e76, e77, e78, e79, e80, e81, e82, e83, e84, e85, e86, e87, e88, e89, e90, e91, e92, e93, e94, e95, e96, e97, e98, e99, e100, e101, e102, e103, e104, e105, e106, e107, e108, e109, e110, e111, e112], defers := [] } w3) :
  Code.wp Tryz.prog (withLast 1 part22b X) (bodyPost Tryz.prog Tryz.f11 R) { tmps := #[e0, .int .i64 n, e2, e3, e4, .pointer (some ⟨B, 0, none⟩), .int .i64 0, .int .i64 0, .pointer (some ⟨K8, 0, none⟩), .bool mv, e10, e11, e12, e13, e14, e15, e16, e17, e18, e19, e20, e21, e22, e23, e24, e25, e26, e27, e28, e29, e30, e31, e32, e33, e34, e35, e36, e37, e38, e39, e40, e41, e42, e43, e44, e45, e46, e47, e48, e49, e50, e51, e52, e53, e54, e55, e56, e57, e58, e59, e60, e61, e62, e63, e64, e65, e66, e67, e68, e69, e70, e71, e72, e73, e74, e75, e76, e77, e78, e79, e80, e81, e82, e83, e84, e85, e86, e87, e88, e89, e90, e91, e92, e93, e94, e95, e96, e97, e98, e99, e100, e101, e102, e103, e104, e105, e106, e107, e108, e109, e110, e111, e112], defers := [] } w3 := by
 have b0 : w3.cell? ⟨B, 0, none⟩ = some (.int .i64 r.sign) := cell_at g1 0 rfl
 have b1 : w3.cell? ⟨B, 1, none⟩ = some (.int .i64 r.dir) := cell_at g1 1 rfl
 have b2 : w3.cell? ⟨B, 2, none⟩ = some (.int .i64 r.level) := cell_at g1 2 rfl
 have b3 : w3.cell? ⟨B, 3, none⟩ = some (.bool r.drop) := cell_at g1 3 rfl
 have hm : zeroB r = (decide (r.dir = 0) && decide (r.level = 0)) := rfl
 generalize zeroB r = zb at *
 have HX := Lib.hid hX; have HM := Lib.hid hm
 clear hX g1 hm
 unfold part22b code22
 conv => arg 2; whnf
 by_cases h3 : r.dir = 0
 ·have f1 : (r.dir == 0) = true := by simpa using h3
  by_cases h4 : r.level = 0
  ·have f2 : (r.level == 0) = true := by simpa using h4
   obtain rfl : zb = true := by rw [HM.out, decide_eq_true h3, decide_eq_true h4]; rfl
   clear h3 h4
   go_wp2_with fail
   exact HX.out _ _ _ _ _ _ _ _ _ _ _ _ _ _ _ _ _ _ _ _ _ _ _ _ _ _ _ _ _ _ _ _ _ _ _ _ _ _ _ _ _ _ _ _ _ _ _ _ _ _ _ _ _ _ _ _ _ _ _ _ _ _ _ _ _ _ _ _ _ _ _ _ _ _ _ _ _ _ _ _ _ _ _ _ _ _ _ _ _ _ _ _ _ _ _ _ _ _ _ _ _ _ _ _ _ _
  ·have f2 : (r.level == 0) = false := by simpa using h4
   obtain rfl : zb = false := by rw [HM.out, decide_eq_false h4]; simp
   clear h3 h4
   go_wp2_with fail
   exact HX.out _ _ _ _ _ _ _ _ _ _ _ _ _ _ _ _ _ _ _ _ _ _ _ _ _ _ _ _ _ _ _ _ _ _ _ _ _ _ _ _ _ _ _ _ _ _ _ _ _ _ _ _ _ _ _ _ _ _ _ _ _ _ _ _ _ _ _ _ _ _ _ _ _ _ _ _ _ _ _ _ _ _ _ _ _ _ _ _ _ _ _ _ _ _ _ _ _ _ _ _ _ _ _ _ _ _
 ·have f1 : (r.dir == 0) = false := by simpa using h3
  obtain rfl : zb = false := by rw [HM.out, decide_eq_false h3]; rfl
  clear h3
  go_wp2_with fail
  exact HX.out _ _ _ _ _ _ _ _ _ _ _ _ _ _ _ _ _ _ _ _ _ _ _ _ _ _ _ _ _ _ _ _ _ _ _ _ _ _ _ _ _ _ _ _ _ _ _ _ _ _ _ _ _ _ _ _ _ _ _ _ _ _ _ _ _ _ _ _ _ _ _ _ _ _ _ _ _ _ _ _ _ _ _ _ _ _ _ _ _ _ _ _ _ _ _ _ _ _ _ _ _ _ _ _ _ _
theorem form_drop {s : Sgn} {r : Rea} (h : r.drop = true) : formB s r = zeroB r := by unfold formB; rw [if_pos h]; rfl
theorem form_move {s : Sgn} {r : Rea} (h : r.drop = false) (hm : movB s = true) : formB s r = (inB r.dir 0 8 && inB r.level 1 3) := by unfold formB; rw [h, hm]; rfl
theorem form_free {s : Sgn} {r : Rea} (h : r.drop = false) (hm : movB s = false) (hk : s.kind = 9) : formB s r = (decide (r.dir = 0) && inB r.level 1 3) := by unfold formB; rw [h, hm]; simp [hk]
theorem form_else {s : Sgn} {r : Rea} (h : r.drop = false) (hm : movB s = false) (hk : ¬ s.kind = 9) : formB s r = zeroB r := by unfold formB zeroB; rw [h, hm]; simp [hk]
set_option maxRecDepth 100000 in
set_option maxHeartbeats 8000000 in
theorem cost_form (n : Int) (s : Sgn) (r : Rea) (w3 : World) (B K8 : Nat) (g1 : w3.heap[B]? = some (.cells (reaA r) 37 (0, 0))) (g2 : w3.heap[K8]? = some (.cells (sgnA s) 72 (0, 0))) (e0 e2 e3 e4 e11 e12 e13 e14 e15 e16 e17 e18 e19 e20 e21 e22 e23 e24 e25 e26 e27 e28 e29 e30 e31 e32 e33 e34 e35 e36 e37 e38 e39 e40 e41 e42 e43 e44 e45 e46 e47 e48 e49 e50 e51 e52 e53 e54 e55 e56 e57 e58 e59 e60 e61 e62 e63 e64 e65 e66 e67 e68 e69 e70 e71 e72 e73 e74 e75 e76 e77 e78 e79 e80 e81 e82 e83 e84 e85 e86 e87 e88 e89 e90 e91 e92 e93 e94 e95 e96 e97 e98 e99 e100 e101 e102 e103 e104 e105 e106 e107 e108 e109 e110 e111 e112 : Value) (X : Code) (R : Ending → World → Prop)
  (hX : ∀ (e0 e2 e3 e4 e11 e12 e13 e14 e15 e16 e17 e18 e19 e20 e21 e22 e23 e24 e25 e26 e27 e28 e29 e30 e31 e32 e33 e34 e35 e36 e37 e38 e39 e40 e41 e42 e43 e44 e45 e46 e47 e48 e49 e50 e51 e52 e53 e54 e55 e56 e57 e58 e59 e60 e61 e62 e63 e64 e65 e66 e67 e68 e69 e70 e71 e72 e73 e74 e75 e76 e77 e78 e79 e80 e81 e82 e83 e84 e85 e86 e87 e88 e89 e90 e91 e92 e93 e94 e95 e96 e97 e98 e99 e100 e101 e102 e103 e104 e105 e106 e107 e108 e109 e110 e111 e112 : Value), Code.wp Tryz.prog X (bodyPost Tryz.prog Tryz.f11 R) { tmps := #[e0, .int .i64 n, e2, e3, e4, .pointer (some ⟨B, 0, none⟩), .int .i64 0, .int .i64 0, .pointer (some ⟨K8, 0, none⟩), .bool (movB s), .bool (formB s r), e11, e12, e13, e14, e15, e16, e17, e18, e19, e20, e21, e22, e23, e24, e25, e26, e27, e28, e29, e30, e31, e32, e33, e34, e35, e36, e37, e38, e39, e40, e41, e42, e43, e44, e45, e46, e47, e48, e49, e50, e51, e52, e53, e54, e55, e56, e57, e58, e59, e60, e61, e62, e63, e64, e65, e66, e67, e68, e69, e70, e71, e72, e73, e74, e75, e76, e77, e78, e79, e80, e81, e82, e83, e84, e85, e86, e87, e88, e89, e90, e91, e92, e93, e94, e95, e96, e97, e98, e99, e100, e101, e102, e103, e104, e105, e106, e107, e108, e109, e110, e111, e112], defers := [] } w3) :
  Code.wp Tryz.prog (withLast 1 part22d X) (bodyPost Tryz.prog Tryz.f11 R) { tmps := #[e0, .int .i64 n, e2, e3, e4, .pointer (some ⟨B, 0, none⟩), .int .i64 0, .int .i64 0, .pointer (some ⟨K8, 0, none⟩), .bool (movB s), .bool (zeroB r), e11, e12, e13, e14, e15, e16, e17, e18, e19, e20, e21, e22, e23, e24, e25, e26, e27, e28, e29, e30, e31, e32, e33, e34, e35, e36, e37, e38, e39, e40, e41, e42, e43, e44, e45, e46, e47, e48, e49, e50, e51, e52, e53, e54, e55, e56, e57, e58, e59, e60, e61, e62, e63, e64, e65, e66, e67, e68, e69, e70, e71, e72, e73, e74, e75, e76, e77, e78, e79, e80, e81, e82, e83, e84, e85, e86, e87, e88, e89, e90, e91, e92, e93, e94, e95, e96, e97, e98, e99, e100, e101, e102, e103, e104, e105, e106, e107, e108, e109, e110, e111, e112], defers := [] } w3 := by
 have b0 : w3.cell? ⟨B, 0, none⟩ = some (.int .i64 r.sign) := cell_at g1 0 rfl
 have b1 : w3.cell? ⟨B, 1, none⟩ = some (.int .i64 r.dir) := cell_at g1 1 rfl
 have b2 : w3.cell? ⟨B, 2, none⟩ = some (.int .i64 r.level) := cell_at g1 2 rfl
 have b3 : w3.cell? ⟨B, 3, none⟩ = some (.bool r.drop) := cell_at g1 3 rfl
 have c4 : w3.cell? ⟨K8, 4, none⟩ = some (.int .i64 s.kind) := cell_at g2 4 rfl
 have h1 := fun h => form_drop (s := s) (r := r) h
 have h2 := fun h hm => form_move (s := s) (r := r) h hm
 have h3 := fun h hm hk => form_free (s := s) (r := r) h hm hk
 have h4 := fun h hm hk => form_else (s := s) (r := r) h hm hk
 generalize movB s = mv at *
 generalize formB s r = fb at *
 generalize zeroB r = zb at *
 have HX := Lib.hid hX; have H1 := Lib.hid h1; have H2 := Lib.hid h2; have H3 := Lib.hid h3; have H4 := Lib.hid h4
 clear hX g1 g2 h1 h2 h3 h4
 unfold part22d code22
 conv => arg 2; whnf
 cases hd : r.drop with
 | true =>
  obtain rfl := H1.out hd
  rw [hd] at b3
  clear hd
  go_wp2_with fail
  exact HX.out _ _ _ _ _ _ _ _ _ _ _ _ _ _ _ _ _ _ _ _ _ _ _ _ _ _ _ _ _ _ _ _ _ _ _ _ _ _ _ _ _ _ _ _ _ _ _ _ _ _ _ _ _ _ _ _ _ _ _ _ _ _ _ _ _ _ _ _ _ _ _ _ _ _ _ _ _ _ _ _ _ _ _ _ _ _ _ _ _ _ _ _ _ _ _ _ _ _ _ _ _ _ _ _ _ _
 | false =>
  rw [hd] at b3
  cases mv with
  | true =>
   have hf := H2.out hd rfl
   clear hd
   by_cases q1 : 0 ≤ r.dir
   ·by_cases q2 : r.dir ≤ 8
    ·by_cases q3 : 1 ≤ r.level
     ·by_cases q4 : r.level ≤ 3
      ·obtain rfl : fb = true := by rw [hf, inB_iff.2 ⟨q1, q2⟩, inB_iff.2 ⟨q3, q4⟩]; rfl
       clear hf
       go_wp2_with fail
       exact HX.out _ _ _ _ _ _ _ _ _ _ _ _ _ _ _ _ _ _ _ _ _ _ _ _ _ _ _ _ _ _ _ _ _ _ _ _ _ _ _ _ _ _ _ _ _ _ _ _ _ _ _ _ _ _ _ _ _ _ _ _ _ _ _ _ _ _ _ _ _ _ _ _ _ _ _ _ _ _ _ _ _ _ _ _ _ _ _ _ _ _ _ _ _ _ _ _ _ _ _ _ _ _ _ _ _ _
      ·obtain rfl : fb = false := by rw [hf, inB_false.2 (show r.level < 1 ∨ 3 < r.level by omega)]; simp
       clear hf
       go_wp2_with fail
       exact HX.out _ _ _ _ _ _ _ _ _ _ _ _ _ _ _ _ _ _ _ _ _ _ _ _ _ _ _ _ _ _ _ _ _ _ _ _ _ _ _ _ _ _ _ _ _ _ _ _ _ _ _ _ _ _ _ _ _ _ _ _ _ _ _ _ _ _ _ _ _ _ _ _ _ _ _ _ _ _ _ _ _ _ _ _ _ _ _ _ _ _ _ _ _ _ _ _ _ _ _ _ _ _ _ _ _ _
     ·obtain rfl : fb = false := by rw [hf, inB_false.2 (show r.level < 1 ∨ 3 < r.level by omega)]; simp
      clear hf
      go_wp2_with fail
      exact HX.out _ _ _ _ _ _ _ _ _ _ _ _ _ _ _ _ _ _ _ _ _ _ _ _ _ _ _ _ _ _ _ _ _ _ _ _ _ _ _ _ _ _ _ _ _ _ _ _ _ _ _ _ _ _ _ _ _ _ _ _ _ _ _ _ _ _ _ _ _ _ _ _ _ _ _ _ _ _ _ _ _ _ _ _ _ _ _ _ _ _ _ _ _ _ _ _ _ _ _ _ _ _ _ _ _ _
    ·obtain rfl : fb = false := by rw [hf, inB_false.2 (show r.dir < 0 ∨ 8 < r.dir by omega)]; rfl
     clear hf
     go_wp2_with fail
     exact HX.out _ _ _ _ _ _ _ _ _ _ _ _ _ _ _ _ _ _ _ _ _ _ _ _ _ _ _ _ _ _ _ _ _ _ _ _ _ _ _ _ _ _ _ _ _ _ _ _ _ _ _ _ _ _ _ _ _ _ _ _ _ _ _ _ _ _ _ _ _ _ _ _ _ _ _ _ _ _ _ _ _ _ _ _ _ _ _ _ _ _ _ _ _ _ _ _ _ _ _ _ _ _ _ _ _ _
   ·obtain rfl : fb = false := by rw [hf, inB_false.2 (show r.dir < 0 ∨ 8 < r.dir by omega)]; rfl
    clear hf
    go_wp2_with fail
    exact HX.out _ _ _ _ _ _ _ _ _ _ _ _ _ _ _ _ _ _ _ _ _ _ _ _ _ _ _ _ _ _ _ _ _ _ _ _ _ _ _ _ _ _ _ _ _ _ _ _ _ _ _ _ _ _ _ _ _ _ _ _ _ _ _ _ _ _ _ _ _ _ _ _ _ _ _ _ _ _ _ _ _ _ _ _ _ _ _ _ _ _ _ _ _ _ _ _ _ _ _ _ _ _ _ _ _ _
  | false =>
   by_cases hk : s.kind = 9
   ·have hf := H3.out hd rfl hk
    have f0 : (s.kind == 9) = true := by simpa using hk
    clear hd hk
    by_cases q1 : r.dir = 0
    ·have f1 : (r.dir == 0) = true := by simpa using q1
     by_cases q3 : 1 ≤ r.level
     ·by_cases q4 : r.level ≤ 3
      ·obtain rfl : fb = true := by rw [hf, decide_eq_true q1, inB_iff.2 ⟨q3, q4⟩]; rfl
       clear hf q1
       go_wp2_with fail
       exact HX.out _ _ _ _ _ _ _ _ _ _ _ _ _ _ _ _ _ _ _ _ _ _ _ _ _ _ _ _ _ _ _ _ _ _ _ _ _ _ _ _ _ _ _ _ _ _ _ _ _ _ _ _ _ _ _ _ _ _ _ _ _ _ _ _ _ _ _ _ _ _ _ _ _ _ _ _ _ _ _ _ _ _ _ _ _ _ _ _ _ _ _ _ _ _ _ _ _ _ _ _ _ _ _ _ _ _
      ·obtain rfl : fb = false := by rw [hf, inB_false.2 (show r.level < 1 ∨ 3 < r.level by omega)]; simp
       clear hf q1
       go_wp2_with fail
       exact HX.out _ _ _ _ _ _ _ _ _ _ _ _ _ _ _ _ _ _ _ _ _ _ _ _ _ _ _ _ _ _ _ _ _ _ _ _ _ _ _ _ _ _ _ _ _ _ _ _ _ _ _ _ _ _ _ _ _ _ _ _ _ _ _ _ _ _ _ _ _ _ _ _ _ _ _ _ _ _ _ _ _ _ _ _ _ _ _ _ _ _ _ _ _ _ _ _ _ _ _ _ _ _ _ _ _ _
     ·obtain rfl : fb = false := by rw [hf, inB_false.2 (show r.level < 1 ∨ 3 < r.level by omega)]; simp
      clear hf q1
      go_wp2_with fail
      exact HX.out _ _ _ _ _ _ _ _ _ _ _ _ _ _ _ _ _ _ _ _ _ _ _ _ _ _ _ _ _ _ _ _ _ _ _ _ _ _ _ _ _ _ _ _ _ _ _ _ _ _ _ _ _ _ _ _ _ _ _ _ _ _ _ _ _ _ _ _ _ _ _ _ _ _ _ _ _ _ _ _ _ _ _ _ _ _ _ _ _ _ _ _ _ _ _ _ _ _ _ _ _ _ _ _ _ _
    ·have f1 : (r.dir == 0) = false := by simpa using q1
     obtain rfl : fb = false := by rw [hf, decide_eq_false q1]; rfl
     clear hf q1
     go_wp2_with fail
     exact HX.out _ _ _ _ _ _ _ _ _ _ _ _ _ _ _ _ _ _ _ _ _ _ _ _ _ _ _ _ _ _ _ _ _ _ _ _ _ _ _ _ _ _ _ _ _ _ _ _ _ _ _ _ _ _ _ _ _ _ _ _ _ _ _ _ _ _ _ _ _ _ _ _ _ _ _ _ _ _ _ _ _ _ _ _ _ _ _ _ _ _ _ _ _ _ _ _ _ _ _ _ _ _ _ _ _ _
   ·have f0 : (s.kind == 9) = false := by simpa using hk
    obtain rfl := H4.out hd rfl hk
    clear hd hk
    go_wp2_with fail
    exact HX.out _ _ _ _ _ _ _ _ _ _ _ _ _ _ _ _ _ _ _ _ _ _ _ _ _ _ _ _ _ _ _ _ _ _ _ _ _ _ _ _ _ _ _ _ _ _ _ _ _ _ _ _ _ _ _ _ _ _ _ _ _ _ _ _ _ _ _ _ _ _ _ _ _ _ _ _ _ _ _ _ _ _ _ _ _ _ _ _ _ _ _ _ _ _ _ _ _ _ _ _ _ _ _ _ _ _
end Go.Proofs.YtggcbblikgankaaGreatDoor
end
section
namespace Go.Proofs.YtggcbblikgankaaGreatDoor
open Go Go.RowKit
def costR (c er : Int) (w : World) (e : Ending) (w' : World) : Prop := e = .returned (.tuple #[.int .i64 c, .int .i64 er]) ∧ Below w.heap.size w w'
theorem update_kv {P : Program} {T K E : TypeId} (hT : P.underlying T = some (.map K E)) (hK : P.underlying K = some (.int .i64)) {w : World} {b : Nat} {kvs : List (Int × Value)} (h : MapAt w b kvs) (hn : KeysApart kvs) (k : Int) (v : Value) :
  ∃ w', (Instr.mapUpdate T (.map (some b)) (.int .i64 k) v).run P w = .ok () w' ∧ MapAt w' b (kvPut kvs k v) ∧ Below b w w' ∧ w.grownBy w' (some b) ∧ w'.heap.size = w.heap.size := by
 obtain ⟨o, h1, h2⟩ := run_update_kv hT hK h hn k v
 exact ⟨_, h1, h2, setBlock_below _ _ o (Nat.le_refl _), setBlock_grown _ _ _, by simp⟩
def markKV : List (Int × Value) := [(3, .int .i64 4), (2, .int .i64 16), (1, .int .i64 64)]
def markC (m : Int) : Int := if m = 3 then 4 else if m = 2 then 16 else if m = 1 then 64 else 0
theorem markKV_get (m : Int) : (kvGet markKV m).getD (.int .i64 0) = .int .i64 (markC m) := by
 unfold markC
 by_cases h3 : m = 3
 ·subst h3; rfl
 by_cases h2 : m = 2
 ·subst h2; rfl
 by_cases h1 : m = 1
 ·subst h1; rfl
 ·rw [if_neg h3, if_neg h2, if_neg h1]
  have : kvGet markKV m = none := by
   unfold kvGet markKV
   have e3 : ((3 : Int) == m) = false := by simpa using fun e => h3 e.symm
   have e2 : ((2 : Int) == m) = false := by simpa using fun e => h2 e.symm
   have e1 : ((1 : Int) == m) = false := by simpa using fun e => h1 e.symm
   simp [e3, e2, e1]
  rw [this]; rfl
set_option maxRecDepth 100000 in
set_option maxHeartbeats 8000000 in
theorem cost_end (n : Int) (s : Sgn) (r : Rea) (c er : Int) (hc : c = if formB s r && decide (r.sign = n) then priceI s r else 0) (her : er = if formB s r && decide (r.sign = n) then 0 else 1) (w w3 : World) (B K8 : Nat) (hB3 : Below w.heap.size w w3) (g1 : w3.heap[B]? = some (.cells (reaA r) 37 (0, 0))) (g2 : w3.heap[K8]? = some (.cells (sgnA s) 72 (0, 0))) (e0 e2 e3 e4 e11 e12 e13 e14 e15 e16 e17 e18 e19 e20 e21 e22 e23 e24 e25 e26 e27 e28 e29 e30 e31 e32 e33 e34 e35 e36 e37 e38 e39 e40 e41 e42 e43 e44 e45 e46 e47 e48 e49 e50 e51 e52 e53 e54 e55 e56 e57 e58 e59 e60 e61 e62 e63 e64 e65 e66 e67 e68 e69 e70 e71 e72 e73 e74 e75 e76 e77 e78 e79 e80 e81 e82 e83 e84 e85 e86 e87 e88 e89 e90 e91 e92 e93 e94 e95 e96 e97 e98 e99 e100 e101 e102 e103 e104 e105 e106 e107 e108 e109 e110 e111 e112 : Value) :
  Code.wp Tryz.prog part22c (bodyPost Tryz.prog Tryz.f11 (costR c er w)) { tmps := #[e0, .int .i64 n, e2, e3, e4, .pointer (some ⟨B, 0, none⟩), .int .i64 0, .int .i64 0, .pointer (some ⟨K8, 0, none⟩), .bool (movB s), .bool (formB s r), e11, e12, e13, e14, e15, e16, e17, e18, e19, e20, e21, e22, e23, e24, e25, e26, e27, e28, e29, e30, e31, e32, e33, e34, e35, e36, e37, e38, e39, e40, e41, e42, e43, e44, e45, e46, e47, e48, e49, e50, e51, e52, e53, e54, e55, e56, e57, e58, e59, e60, e61, e62, e63, e64, e65, e66, e67, e68, e69, e70, e71, e72, e73, e74, e75, e76, e77, e78, e79, e80, e81, e82, e83, e84, e85, e86, e87, e88, e89, e90, e91, e92, e93, e94, e95, e96, e97, e98, e99, e100, e101, e102, e103, e104, e105, e106, e107, e108, e109, e110, e111, e112], defers := [] } w3 := by
 have b0 : w3.cell? ⟨B, 0, none⟩ = some (.int .i64 r.sign) := cell_at g1 0 rfl
 have b1 : w3.cell? ⟨B, 1, none⟩ = some (.int .i64 r.dir) := cell_at g1 1 rfl
 have b2 : w3.cell? ⟨B, 2, none⟩ = some (.int .i64 r.level) := cell_at g1 2 rfl
 have b3 : w3.cell? ⟨B, 3, none⟩ = some (.bool r.drop) := cell_at g1 3 rfl
 have c3 : w3.cell? ⟨K8, 3, none⟩ = some (.int .i64 s.mark) := cell_at g2 3 rfl
 have c6 : w3.cell? ⟨K8, 6, none⟩ = some (.int .i64 s.dir) := cell_at g2 6 rfl
 have c7 : w3.cell? ⟨K8, 7, none⟩ = some (.int .i64 s.level) := cell_at g2 7 rfl
 have hK8 : K8 < w3.heap.size := (Array.getElem?_eq_some_iff.1 g2).1
 have pd : r.drop = true → priceI s r = markC s.mark := fun h => by unfold priceI; rw [if_pos h]; rfl
 have pm : r.drop = false → priceI s r = if movB s && !(decide (r.dir = s.dir) && decide (r.level = s.level)) then 1 else 0 := fun h => by unfold priceI; rw [h]; rfl
 unfold costR
 generalize priceI s r = pr at *
 generalize movB s = mv at *
 generalize formB s r = fb at *
 have HC := Lib.hid hc; have HER := Lib.hid her; have B3 := Lib.hid hB3; have PD := Lib.hid pd; have PM := Lib.hid pm
 clear hB3 g1 g2 pd pm hc her
 unfold part22c code22
 conv => arg 2; whnf
 cases fb with
 | false =>
  clear b0 b1 b2 b3 c3 c6 c7
  go_wp2_with fail
  go_ret2
  exact ⟨by rw [HC.out, HER.out]; rfl, B3.out⟩
 | true =>
  by_cases hs : r.sign = n
  ·have f1 : (r.sign != n) = false := by simpa using hs
   have HS := Lib.hid (decide_eq_true hs)
   clear hs
   cases hd : r.drop with
   | true =>
    rw [hd] at b3
    have HP := Lib.hid (PD.out hd)
    clear hd b1 b2 c6 c7
    have hmm := @run_makeMap Tryz.prog
    have hm0 := MapAt.new w3
    have hbl : Below w3.heap.size w3 (w3.alloc (.map #[] 0)) := (Below.refl _ _).alloc (Nat.le_refl _) _
    obtain ⟨W1, u1, hm1, bb1, _, _⟩ := update_kv (P := Tryz.prog) (T := 82) Tryz.underlying82 Tryz.underlying3 hm0 List.nodup_nil 3 (.int .i64 4)
    rw [kvPut_new rfl] at hm1
    have hb1 := hbl.trans bb1
    obtain ⟨W2, u2, hm2, bb2, _, _⟩ := update_kv (P := Tryz.prog) (T := 82) Tryz.underlying82 Tryz.underlying3 hm1 (by unfold KeysApart; simp) 2 (.int .i64 16)
    rw [kvPut_new rfl] at hm2
    have hb2 := hb1.trans bb2
    obtain ⟨W3, u3, hm3, bb3, _, _⟩ := update_kv (P := Tryz.prog) (T := 82) Tryz.underlying82 Tryz.underlying3 hm2 (by unfold KeysApart; simp) 1 (.int .i64 64)
    rw [kvPut_new rfl] at hm3
    have hb3 := hb2.trans bb3
    have d3 := (hb3.cell (p := ⟨K8, 3, none⟩) hK8).trans c3
    have u4 := run_lookup_kv (P := Tryz.prog) (T := 82) Tryz.underlying82 Tryz.underlying3 hm3 s.mark (Tryz.zeroValue3 _) false
    have hg : (kvGet ([] ++ [(3, Value.int .i64 4)] ++ [(2, .int .i64 16)] ++ [(1, .int .i64 64)]) s.mark).getD (.int .i64 0) = .int .i64 (markC s.mark) := markKV_get s.mark
    rw [hg] at u4
    have HB := Lib.hid (B3.out.trans (hb3.mono B3.out.size))
    clear hm0 hm1 hm2 hm3 hbl hb1 hb2 hb3 hg bb1 bb2 bb3
    go_wp2_with fail
    go_ret2
    exact ⟨by rw [HC.out, HER.out, HS.out, HP.out]; rfl, HB.out⟩
   | false =>
    rw [hd] at b3
    have HP := Lib.hid (PM.out hd)
    clear hd c3
    cases mv with
    | false =>
     go_wp2_with fail
     go_ret2
     exact ⟨by rw [HC.out, HER.out, HS.out, HP.out]; rfl, B3.out⟩
    | true =>
     by_cases q1 : r.dir = s.dir
     ·have f2 : (r.dir != s.dir) = false := by simpa using q1
      by_cases q2 : r.level = s.level
      ·have f3 : (r.level != s.level) = false := by simpa using q2
       have HQ := Lib.hid (HP.out.trans (by rw [decide_eq_true q1, decide_eq_true q2]; rfl) : pr = 0)
       clear q1 q2
       go_wp2_with fail
       go_ret2
       exact ⟨by rw [HC.out, HER.out, HS.out, HQ.out]; rfl, B3.out⟩
      ·have f3 : (r.level != s.level) = true := by simpa using q2
       have HQ := Lib.hid (HP.out.trans (by rw [decide_eq_false q2]; simp) : pr = 1)
       clear q1 q2
       go_wp2_with fail
       go_ret2
       exact ⟨by rw [HC.out, HER.out, HS.out, HQ.out]; rfl, B3.out⟩
     ·have f2 : (r.dir != s.dir) = true := by simpa using q1
      have HQ := Lib.hid (HP.out.trans (by rw [decide_eq_false q1]; rfl) : pr = 1)
      clear q1
      go_wp2_with fail
      go_ret2
      exact ⟨by rw [HC.out, HER.out, HS.out, HQ.out]; rfl, B3.out⟩
  ·have f1 : (r.sign != n) = true := by simpa using hs
   have HS := Lib.hid (decide_eq_false hs)
   clear hs b1 b2 b3 c3 c6 c7
   go_wp2_with fail
   go_ret2
   exact ⟨by rw [HC.out, HER.out, HS.out]; rfl, B3.out⟩
end Go.Proofs.YtggcbblikgankaaGreatDoor
end
section
namespace Go.Proofs.YtggcbblikgankaaGreatDoor
open Go Go.RowKit
set_option maxRecDepth 100000 in
set_option maxHeartbeats 8000000 in
theorem cost_head (n : Int) (r : Rea) (wd dp ta tb tc bars : Int) (aR aT aP aX aS : Option Addr) (cR cT cP cX cS : Nat) (rs : List Rol) (ts : List Tmp) (ps : List Pau) (xs : List Con) (ss : List Sgn) (w : World) (hE : Env w)
  (hR : IsRow encR 4 w (.slice aR rs.length cR) rs) (hT : IsRow encT 3 w (.slice aT ts.length cT) ts) (hP : IsRow encP 4 w (.slice aP ps.length cP) ps) (hX : IsRow encC 4 w (.slice aX xs.length cX) xs) (hS : IsRow encS 14 w (.slice aS ss.length cS) ss)
  (hne : wrkE ⟨wd, dp, ta, tb, tc, rs, ⟨bars, ts, ps, xs⟩, ss⟩ = 0) (hid : idF ss n = true) (X : Code) (R : Ending → World → Prop)
  (hK : ∀ (w3 : World) (K8 : Nat) (e0 e2 e3 e4 e9 e10 e11 e12 e13 e14 e15 e16 e17 e18 e19 e20 e21 e22 e23 e24 e25 e26 e27 e28 e29 e30 e31 e32 e33 e34 e35 e36 e37 e38 e39 e40 e41 e42 e43 e44 e45 e46 e47 e48 e49 e50 e51 e52 e53 e54 e55 e56 e57 e58 e59 e60 e61 e62 e63 e64 e65 e66 e67 e68 e69 e70 e71 e72 e73 e74 e75 e76 e77 e78 e79 e80 e81 e82 e83 e84 e85 e86 e87 e88 e89 e90 e91 e92 e93 e94 e95 e96 e97 e98 e99 e100 e101 e102 e103 e104 e105 e106 e107 e108 e109 e110 e111 e112 : Value), Below w.heap.size w w3 → w3.heap[w.heap.size + 1]? = some (.cells (reaA r) 37 (0, 0)) → w3.heap[K8]? = some (.cells (sgnA ss[idP ss n]!) 72 (0, 0)) → Code.wp Tryz.prog X (bodyPost Tryz.prog Tryz.f11 R) { tmps := #[e0, .int .i64 n, e2, e3, e4, .pointer (some ⟨w.heap.size + 1, 0, none⟩), .int .i64 0, .int .i64 0, .pointer (some ⟨K8, 0, none⟩), e9, e10, e11, e12, e13, e14, e15, e16, e17, e18, e19, e20, e21, e22, e23, e24, e25, e26, e27, e28, e29, e30, e31, e32, e33, e34, e35, e36, e37, e38, e39, e40, e41, e42, e43, e44, e45, e46, e47, e48, e49, e50, e51, e52, e53, e54, e55, e56, e57, e58, e59, e60, e61, e62, e63, e64, e65, e66, e67, e68, e69, e70, e71, e72, e73, e74, e75, e76, e77, e78, e79, e80, e81, e82, e83, e84, e85, e86, e87, e88, e89, e90, e91, e92, e93, e94, e95, e96, e97, e98, e99, e100, e101, e102, e103, e104, e105, e106, e107, e108, e109, e110, e111, e112], defers := [] } w3) :
  Code.wp Tryz.prog (withLast 3 code22 X) (bodyPost Tryz.prog Tryz.f11 R) { tmps := #[.agg #[.int .i64 wd, .int .i64 dp, .int .i64 ta, .int .i64 tb, .int .i64 tc, .slice aR rs.length cR, .int .i64 bars, .slice aT ts.length cT, .slice aP ps.length cP, .slice aX xs.length cX, .slice aS ss.length cS], .int .i64 n, reaV r, undef, undef, undef, undef, undef, undef, undef, undef, undef, undef, undef, undef, undef, undef, undef, undef, undef, undef, undef, undef, undef, undef, undef, undef, undef, undef, undef, undef, undef, undef, undef, undef, undef, undef, undef, undef, undef, undef, undef, undef, undef, undef, undef, undef, undef, undef, undef, undef, undef, undef, undef, undef, undef, undef, undef, undef, undef, undef, undef, undef, undef, undef, undef, undef, undef, undef, undef, undef, undef, undef, undef, undef, undef, undef, undef, undef, undef, undef, undef, undef, undef, undef, undef, undef, undef, undef, undef, undef, undef, undef, undef, undef, undef, undef, undef, undef, undef, undef, undef, undef, undef, undef, undef, undef, undef, undef, undef, undef, undef, undef], defers := [] } w := by
 have hfd := fun (w : World) hE hR hT hP hX hS => find_any n wd dp ta tb tc bars aR aT aP aX aS cR cT cP cX cS rs ts ps xs ss w hE hR hT hP hX hS
 have hfv : findV ⟨wd, dp, ta, tb, tc, rs, ⟨bars, ts, ps, xs⟩, ss⟩ n = .tuple #[.agg (sgnA ss[idP ss n]!), .int .i64 0] := by unfold findV; rw [if_pos hne, hid]; rfl
 rw [hfv] at hfd
 generalize ss[idP ss n]! = s at *
 have HFD := Lib.hid hfd; have HE := Lib.hid hE; have HR := Lib.hid hR; have HT := Lib.hid hT; have HP := Lib.hid hP; have HX := Lib.hid hX; have HS := Lib.hid hS; have HK := Lib.hid hK
 clear hfd hE hR hT hP hX hS hfv hne hid hK
 generalize rs.length = nR at *
 generalize ts.length = nT at *
 generalize ps.length = nP at *
 generalize xs.length = nX at *
 generalize ss.length = nS at *
 obtain ⟨g0, g1, hz, hb⟩ := blocks2 w (.cells #[.int .i64 wd, .int .i64 dp, .int .i64 ta, .int .i64 tb, .int .i64 tc, .slice aR nR cR, .int .i64 bars, .slice aT nT cT, .slice aP nP cP, .slice aX nX cX, .slice aS nS cS] 32) (.cells (reaA r) 37)
 have hbv : reaV r = .agg (reaA r) := rfl
 rw [hbv]
 have G0 := Lib.hid g0; have G1 := Lib.hid g1; have HB := Lib.hid hb; have HZ := Lib.hid hz; have HBV := Lib.hid hbv
 have HSA := Lib.hid (show (sgnA s).all (·.oneCell') = true by simp [sgnA, Value.oneCell'])
 clear g0 g1 hz hb hbv
 unfold code22
 conv => arg 2; whnf
 simp only [withLast]
 go_wp2_with (first | (refine wpList_load_row rfl 32 _ rfl w.heap.size rfl 32 _ (0, 0) _ G0.out Tryz.underlying32 rfl (by kernel_rfl) ?_; simp only [Act.put, List.setIfInBounds_toArray, List.set_cons_zero, List.set_cons_succ]))
 generalize (w.alloc (.cells #[.int .i64 wd, .int .i64 dp, .int .i64 ta, .int .i64 tb, .int .i64 tc, .slice aR nR cR, .int .i64 bars, .slice aT nT cT, .slice aP nP cP, .slice aX nX cX, .slice aS nS cS] 32)).alloc (.cells (reaA r) 37) = w0 at *
 refine (HFD.out w0 (HE.out.below HB.out) (HR.out.below HB.out (Nat.le_refl _)) (HT.out.below HB.out (Nat.le_refl _)) (HP.out.below HB.out (Nat.le_refl _)) (HX.out.below HB.out (Nat.le_refl _)) (HS.out.below HB.out (Nat.le_refl _))).mono ?_
 rintro e w1 ⟨rfl, b1⟩
 have hz := HZ.out
 have hb1 := b1.size
 have B1 := Lib.hid (HB.out.trans (b1.mono (by omega)))
 have H1 := Lib.hid ((b1.block (w.heap.size + 1) (by omega)).trans G1.out)
 have hl : w.heap.size + 1 < w1.heap.size := by omega
 clear HFD HE HR HT HP HX HS HB G0 G1 b1 hz HZ hb1
 have hb5 : Below w1.heap.size w1 (w1.alloc (.cells (sgnA s) 72)) := (Below.refl w1.heap.size w1).alloc (Nat.le_refl _) _
 have I1 := Lib.hid ((hb5.block (w.heap.size + 1) hl).trans H1.out)
 have I2 := Lib.hid (heap_alloc_new w1 (.cells (sgnA s) 72))
 have B2 := Lib.hid (B1.out.trans (hb5.mono B1.out.size))
 clear hb5 H1 B1
 go_wp2_with (refine wpList_store_row rfl 72 _ _ rfl w1.heap.size (sgnA s) rfl rfl 72 _ (heap_alloc_new w1 _) (by kernel_rfl) rfl HSA.out ?_; rw [World.setRow_alloc_new])
 exact HK.out _ w1.heap.size _ _ _ _ _ _ _ _ _ _ _ _ _ _ _ _ _ _ _ _ _ _ _ _ _ _ _ _ _ _ _ _ _ _ _ _ _ _ _ _ _ _ _ _ _ _ _ _ _ _ _ _ _ _ _ _ _ _ _ _ _ _ _ _ _ _ _ _ _ _ _ _ _ _ _ _ _ _ _ _ _ _ _ _ _ _ _ _ _ _ _ _ _ _ _ _ _ _ _ _ _ _ _ _ _ _ _ _ B2.out I1.out I2.out
set_option maxRecDepth 100000 in
set_option maxHeartbeats 8000000 in
theorem cost_none (n : Int) (r : Rea) (wd dp ta tb tc bars : Int) (aR aT aP aX aS : Option Addr) (cR cT cP cX cS : Nat) (rs : List Rol) (ts : List Tmp) (ps : List Pau) (xs : List Con) (ss : List Sgn) (w : World) (hE : Env w)
  (hR : IsRow encR 4 w (.slice aR rs.length cR) rs) (hT : IsRow encT 3 w (.slice aT ts.length cT) ts) (hP : IsRow encP 4 w (.slice aP ps.length cP) ps) (hX : IsRow encC 4 w (.slice aX xs.length cX) xs) (hS : IsRow encS 14 w (.slice aS ss.length cS) ss)
  (er : Int) (her : er ≠ 0) (hfv : findV ⟨wd, dp, ta, tb, tc, rs, ⟨bars, ts, ps, xs⟩, ss⟩ n = .tuple #[.agg zeroA, .int .i64 er]) :
  Calls Tryz.prog 11 #[.agg #[.int .i64 wd, .int .i64 dp, .int .i64 ta, .int .i64 tb, .int .i64 tc, .slice aR rs.length cR, .int .i64 bars, .slice aT ts.length cT, .slice aP ps.length cP, .slice aX xs.length cX, .slice aS ss.length cS], .int .i64 n, reaV r] w fun e w' => e = .returned (.tuple #[.int .i64 0, .int .i64 er]) ∧ Below w.heap.size w w' := by
 have hfd := fun (w : World) hE hR hT hP hX hS => find_any n wd dp ta tb tc bars aR aT aP aX aS cR cT cP cX cS rs ts ps xs ss w hE hR hT hP hX hS
 have her2 : (er != 0) = true := by simpa using her
 rw [hfv] at hfd
 clear her
 have HFD := Lib.hid hfd; have HE := Lib.hid hE; have HR := Lib.hid hR; have HT := Lib.hid hT; have HP := Lib.hid hP; have HX := Lib.hid hX; have HS := Lib.hid hS
 clear hfd hE hR hT hP hX hS hfv
 generalize rs.length = nR at *
 generalize ts.length = nT at *
 generalize ps.length = nP at *
 generalize xs.length = nX at *
 generalize ss.length = nS at *
 obtain ⟨g0, g1, hz, hb⟩ := blocks2 w (.cells #[.int .i64 wd, .int .i64 dp, .int .i64 ta, .int .i64 tb, .int .i64 tc, .slice aR nR cR, .int .i64 bars, .slice aT nT cT, .slice aP nP cP, .slice aX nX cX, .slice aS nS cS] 32) (.cells (reaA r) 37)
 have hbv : reaV r = .agg (reaA r) := rfl
 rw [hbv]
 have G0 := Lib.hid g0; have G1 := Lib.hid g1; have HB := Lib.hid hb; have HZ := Lib.hid hz; have HBV := Lib.hid hbv
 clear g0 g1 hz hb hbv
 go_enter Tryz.func11, Tryz.ntmps11
 go_wp2_with (first | (refine wpList_load_row rfl 32 _ rfl w.heap.size rfl 32 _ (0, 0) _ G0.out Tryz.underlying32 rfl (by kernel_rfl) ?_; simp only [Act.put, List.setIfInBounds_toArray, List.set_cons_zero, List.set_cons_succ]))
 generalize (w.alloc (.cells #[.int .i64 wd, .int .i64 dp, .int .i64 ta, .int .i64 tb, .int .i64 tc, .slice aR nR cR, .int .i64 bars, .slice aT nT cT, .slice aP nP cP, .slice aX nX cX, .slice aS nS cS] 32)).alloc (.cells (reaA r) 37) = w0 at *
 refine (HFD.out w0 (HE.out.below HB.out) (HR.out.below HB.out (Nat.le_refl _)) (HT.out.below HB.out (Nat.le_refl _)) (HP.out.below HB.out (Nat.le_refl _)) (HX.out.below HB.out (Nat.le_refl _)) (HS.out.below HB.out (Nat.le_refl _))).mono ?_
 rintro e w1 ⟨rfl, b1⟩
 have hz := HZ.out
 have hb1 := b1.size
 have B1 := Lib.hid (HB.out.trans (b1.mono (by omega)))
 have H1 := Lib.hid ((b1.block (w.heap.size + 1) (by omega)).trans G1.out)
 have hl : w.heap.size + 1 < w1.heap.size := by omega
 clear HFD HE HR HT HP HX HS HB G0 G1 b1 hz HZ hb1
 have B2 := Lib.hid (B1.out.alloc B1.out.size (.cells zeroA 72))
 clear B1 H1
 unfold zeroA at *
 go_wp2_with fail
 go_ret2
 exact ⟨rfl, B2.out⟩
set_option maxRecDepth 100000 in
set_option maxHeartbeats 8000000 in
theorem cost_some (n : Int) (r : Rea) (wd dp ta tb tc bars : Int) (aR aT aP aX aS : Option Addr) (cR cT cP cX cS : Nat) (rs : List Rol) (ts : List Tmp) (ps : List Pau) (xs : List Con) (ss : List Sgn) (w : World) (hE : Env w)
  (hR : IsRow encR 4 w (.slice aR rs.length cR) rs) (hT : IsRow encT 3 w (.slice aT ts.length cT) ts) (hP : IsRow encP 4 w (.slice aP ps.length cP) ps) (hX : IsRow encC 4 w (.slice aX xs.length cX) xs) (hS : IsRow encS 14 w (.slice aS ss.length cS) ss) (hne : wrkE ⟨wd, dp, ta, tb, tc, rs, ⟨bars, ts, ps, xs⟩, ss⟩ = 0) (hid : idF ss n = true) :
  Calls Tryz.prog 11 #[.agg #[.int .i64 wd, .int .i64 dp, .int .i64 ta, .int .i64 tb, .int .i64 tc, .slice aR rs.length cR, .int .i64 bars, .slice aT ts.length cT, .slice aP ps.length cP, .slice aX xs.length cX, .slice aS ss.length cS], .int .i64 n, reaV r] w (costR (if formB ss[idP ss n]! r && decide (r.sign = n) then priceI ss[idP ss n]! r else 0) (if formB ss[idP ss n]! r && decide (r.sign = n) then 0 else 1) w) := by
 generalize hc : (if formB ss[idP ss n]! r && decide (r.sign = n) then priceI ss[idP ss n]! r else 0) = c
 generalize her : (if formB ss[idP ss n]! r && decide (r.sign = n) then (0 : Int) else 1) = er
 go_enter Tryz.func11, Tryz.ntmps11
 refine cost_head n r wd dp ta tb tc bars aR aT aP aX aS cR cT cP cX cS rs ts ps xs ss w hE hR hT hP hX hS hne hid (withLast 1 part22a (withLast 1 part22b (withLast 1 part22d part22c))) _ ?_
 intro w3 K8 _ _ _ _ _ _ _ _ _ _ _ _ _ _ _ _ _ _ _ _ _ _ _ _ _ _ _ _ _ _ _ _ _ _ _ _ _ _ _ _ _ _ _ _ _ _ _ _ _ _ _ _ _ _ _ _ _ _ _ _ _ _ _ _ _ _ _ _ _ _ _ _ _ _ _ _ _ _ _ _ _ _ _ _ _ _ _ _ _ _ _ _ _ _ _ _ _ _ _ _ _ _ _ _ _ _ _ _ hB3 g1 g2
 refine cost_moves n ss[idP ss n]! w3 (w.heap.size + 1) K8 g2 _ _ _ _ _ _ _ _ _ _ _ _ _ _ _ _ _ _ _ _ _ _ _ _ _ _ _ _ _ _ _ _ _ _ _ _ _ _ _ _ _ _ _ _ _ _ _ _ _ _ _ _ _ _ _ _ _ _ _ _ _ _ _ _ _ _ _ _ _ _ _ _ _ _ _ _ _ _ _ _ _ _ _ _ _ _ _ _ _ _ _ _ _ _ _ _ _ _ _ _ _ _ _ _ _ _ _ _ (withLast 1 part22b (withLast 1 part22d part22c)) _ ?_
 intros
 refine cost_zero n _ r w3 (w.heap.size + 1) K8 g1 _ _ _ _ _ _ _ _ _ _ _ _ _ _ _ _ _ _ _ _ _ _ _ _ _ _ _ _ _ _ _ _ _ _ _ _ _ _ _ _ _ _ _ _ _ _ _ _ _ _ _ _ _ _ _ _ _ _ _ _ _ _ _ _ _ _ _ _ _ _ _ _ _ _ _ _ _ _ _ _ _ _ _ _ _ _ _ _ _ _ _ _ _ _ _ _ _ _ _ _ _ _ _ _ _ _ _ (withLast 1 part22d part22c) _ ?_
 intros
 refine cost_form n ss[idP ss n]! r w3 (w.heap.size + 1) K8 g1 g2 _ _ _ _ _ _ _ _ _ _ _ _ _ _ _ _ _ _ _ _ _ _ _ _ _ _ _ _ _ _ _ _ _ _ _ _ _ _ _ _ _ _ _ _ _ _ _ _ _ _ _ _ _ _ _ _ _ _ _ _ _ _ _ _ _ _ _ _ _ _ _ _ _ _ _ _ _ _ _ _ _ _ _ _ _ _ _ _ _ _ _ _ _ _ _ _ _ _ _ _ _ _ _ _ _ _ part22c _ ?_
 intros
 exact cost_end n ss[idP ss n]! r c er hc.symm her.symm w w3 (w.heap.size + 1) K8 hB3 g1 g2 _ _ _ _ _ _ _ _ _ _ _ _ _ _ _ _ _ _ _ _ _ _ _ _ _ _ _ _ _ _ _ _ _ _ _ _ _ _ _ _ _ _ _ _ _ _ _ _ _ _ _ _ _ _ _ _ _ _ _ _ _ _ _ _ _ _ _ _ _ _ _ _ _ _ _ _ _ _ _ _ _ _ _ _ _ _ _ _ _ _ _ _ _ _ _ _ _ _ _ _ _ _ _ _ _ _
theorem cost_any (n : Int) (r : Rea) (wd dp ta tb tc bars : Int) (aR aT aP aX aS : Option Addr) (cR cT cP cX cS : Nat) (rs : List Rol) (ts : List Tmp) (ps : List Pau) (xs : List Con) (ss : List Sgn) (w : World) (hE : Env w)
  (hR : IsRow encR 4 w (.slice aR rs.length cR) rs) (hT : IsRow encT 3 w (.slice aT ts.length cT) ts) (hP : IsRow encP 4 w (.slice aP ps.length cP) ps) (hX : IsRow encC 4 w (.slice aX xs.length cX) xs) (hS : IsRow encS 14 w (.slice aS ss.length cS) ss) :
  Calls Tryz.prog 11 #[.agg #[.int .i64 wd, .int .i64 dp, .int .i64 ta, .int .i64 tb, .int .i64 tc, .slice aR rs.length cR, .int .i64 bars, .slice aT ts.length cT, .slice aP ps.length cP, .slice aX xs.length cX, .slice aS ss.length cS], .int .i64 n, reaV r] w (costR (costI ⟨wd, dp, ta, tb, tc, rs, ⟨bars, ts, ps, xs⟩, ss⟩ n r) (costE ⟨wd, dp, ta, tb, tc, rs, ⟨bars, ts, ps, xs⟩, ss⟩ n r) w) := by
 by_cases hne : wrkE ⟨wd, dp, ta, tb, tc, rs, ⟨bars, ts, ps, xs⟩, ss⟩ = 0
 ·cases hid : idF ss n with
  | true =>
   have h := cost_some n r wd dp ta tb tc bars aR aT aP aX aS cR cT cP cX cS rs ts ps xs ss w hE hR hT hP hX hS hne hid
   have he : costE ⟨wd, dp, ta, tb, tc, rs, ⟨bars, ts, ps, xs⟩, ss⟩ n r = if formB ss[idP ss n]! r && decide (r.sign = n) then 0 else 1 := by unfold costE; rw [if_neg (by simpa using hne)]; simp only [hid, if_true]
   have hi : costI ⟨wd, dp, ta, tb, tc, rs, ⟨bars, ts, ps, xs⟩, ss⟩ n r = if formB ss[idP ss n]! r && decide (r.sign = n) then priceI ss[idP ss n]! r else 0 := by
    unfold costI; rw [he]
    cases (formB ss[idP ss n]! r && decide (r.sign = n)) <;> rfl
   rw [he, hi]; exact h
  | false =>
   have he : costE ⟨wd, dp, ta, tb, tc, rs, ⟨bars, ts, ps, xs⟩, ss⟩ n r = 300 := by unfold costE; rw [if_neg (by simpa using hne)]; simp [hid]
   have hi : costI ⟨wd, dp, ta, tb, tc, rs, ⟨bars, ts, ps, xs⟩, ss⟩ n r = 0 := by unfold costI; rw [he]; rfl
   rw [he, hi]
   exact cost_none n r wd dp ta tb tc bars aR aT aP aX aS cR cT cP cX cS rs ts ps xs ss w hE hR hT hP hX hS 300 (by decide) (by unfold findV; rw [if_pos hne, hid]; rfl)
 ·have he : costE ⟨wd, dp, ta, tb, tc, rs, ⟨bars, ts, ps, xs⟩, ss⟩ n r = wrkE ⟨wd, dp, ta, tb, tc, rs, ⟨bars, ts, ps, xs⟩, ss⟩ := by unfold costE; rw [if_pos hne]
  have hi : costI ⟨wd, dp, ta, tb, tc, rs, ⟨bars, ts, ps, xs⟩, ss⟩ n r = 0 := by unfold costI; rw [he, if_neg hne]
  rw [he, hi]
  exact cost_none n r wd dp ta tb tc bars aR aT aP aX aS cR cT cP cX cS rs ts ps xs ss w hE hR hT hP hX hS _ hne (by unfold findV; rw [if_neg hne])
end Go.Proofs.YtggcbblikgankaaGreatDoor
end
