/- The walk of the statement: part 1. -/
import Derived.Test.YtpnbpepkoekkoaaZ37
set_option linter.unusedVariables false
set_option linter.unusedSimpArgs false
section
namespace Go.Proofs.Ytpnbpepkoekkoaa
open Go Go.RowKit Go.Deep
def fstC : Code → Code | .seq a _ => a | c => c
def sndC : Code → Code | .seq _ b => b | c => c
def thenC : Code → Code | .cond _ a _ => a | c => c
noncomputable def code7 : Code := (Try.f7.body).getD .skip
noncomputable def elem7n0 : Code := fstC (lastPart 0 code7)
noncomputable def elem7n1 : Code := fstC (lastPart 1 code7)
noncomputable def elem7n2 : Code := fstC (lastPart 2 code7)
noncomputable def elem7n3 : Code := fstC (lastPart 3 code7)
noncomputable def elem7n4 : Code := fstC (lastPart 4 code7)
noncomputable def elem7n5 : Code := fstC (lastPart 5 code7)
noncomputable def elem7n6 : Code := fstC (lastPart 6 code7)
noncomputable def then7n5 : Code := thenC (sndC (sndC elem7n5))
noncomputable def then7n6 : Code := thenC (sndC (sndC elem7n6))
noncomputable def reg7n11 : Code := fstC then7n5
noncomputable def reg7n13 : Code := fstC (sndC (sndC then7n5))
noncomputable def reg7n18 : Code := fstC then7n6
noncomputable def reg7n20 : Code := fstC (sndC (sndC then7n6))
set_option maxRecDepth 100000 in
set_option maxHeartbeats 16000000 in
theorem tw_r11 (X g j k cap at_ wh B : Nat) (nm : Nm) (cs : Array Value) (xs : List Value) (W : World) (hX : W.heap[X]? = some (.cells cs 30 (0, 0))) (h10 : cs[10]? = some (.slice (some ⟨g, 0, none⟩) k cap)) (hown : W.ownsRow B 57 2 (.slice (some ⟨g, 0, none⟩) k cap) k xs) (hB : B ≤ W.heap.size) (hgX : g ≠ X) (hk : k < 64) (hj : j < k) (hat : at_ % k = j) (ha : at_ < 256) (hnm : W.cell? ⟨g, j * 2, none⟩ = some (sv nm)) (K : Act → World → Prop)
  (hK : ∀ (g1 c1 : Nat) (W' : World), Shape W' g1 57 (c1 * 2) → k + 1 ≤ c1 → c1 ≤ maxLen → (∀ j u, (xs ++ [sv nm, .slice none 0 0])[j]? = some u → W'.cell? ⟨g1, j, none⟩ = some u) → W'.heap[X]? = some (.cells (cs.setIfInBounds 10 (.slice (some ⟨g1, 0, none⟩) (k + 1) c1)) 30 (0, 0)) →
   (∀ b, b < W.heap.size → b ≠ X → b ≠ g → W'.heap[b]? = W.heap[b]?) → (g1 = g ∨ W.heap.size ≤ g1) → (∀ B', B' ≤ X → B' ≤ g → B' ≤ W.heap.size → Below B' W W') → ∀ (f0 f1 f4 f5 f6 f7 f8 f9 f10 f13 f14 f15 f16 f17 f18 f19 f20 f21 f22 f23 f24 f25 f26 f27 f28 f29 f30 f31 f32 f33 f34 f35 f36 f37 f38 f39 f40 f41 f42 f43 f44 f45 f46 f47 f48 f49 f50 f51 f52 f53 f54 f55 f56 f57 f58 f59 f60 f61 f62 f63 f64 f65 f66 f67 f68 f69 f70 f71 f72 f73 f74 f75 f76 f77 f78 f79 f80 f81 f82 f83 f84 f85 f86 f87 f88 f89 f90 f91 f92 f93 f94 f95 f96 f97 f98 f99 f100 f101 f102 f103 f104 f105 f106 f107 f108 f109 f110 f111 f112 f113 f114 f115 f116 f117 f118 f119 f120 f121 f122 f123 f124 f125 f126 f127 f128 f129 f130 f131 f132 f133 f134 f135 f136 f137 f138 f139 f140 f141 f142 f143 f144 f145 f146 f147 f148 f149 f150 : Value), K { tmps := #[f0, f1, .int .u8 (at_ : Nat), .int .u8 (wh : Nat), f4, f5, f6, f7, f8, f9, f10, .pointer (some ⟨X, 0, none⟩), .int .i64 (k : Nat), f13, f14, f15, f16, f17, f18, f19, f20, f21, f22, f23, f24, f25, f26, f27, f28, f29, f30, f31, f32, f33, f34, f35, f36, f37, f38, f39, f40, f41, f42, f43, f44, f45, f46, f47, f48, f49, f50, f51, f52, f53, f54, f55, f56, f57, f58, f59, f60, f61, f62, f63, f64, f65, f66, f67, f68, f69, f70, f71, f72, f73, f74, f75, f76, f77, f78, f79, f80, f81, f82, f83, f84, f85, f86, f87, f88, f89, f90, f91, f92, f93, f94, f95, f96, f97, f98, f99, f100, f101, f102, f103, f104, f105, f106, f107, f108, f109, f110, f111, f112, f113, f114, f115, f116, f117, f118, f119, f120, f121, f122, f123, f124, f125, f126, f127, f128, f129, f130, f131, f132, f133, f134, f135, f136, f137, f138, f139, f140, f141, f142, f143, f144, f145, f146, f147, f148, f149, f150], defers := [] } W')
  (e0 e1 e4 e5 e6 e7 e8 e9 e10 e13 e14 e15 e16 e17 e18 e19 e20 e21 e22 e23 e24 e25 e26 e27 e28 e29 e30 e31 e32 e33 e34 e35 e36 e37 e38 e39 e40 e41 e42 e43 e44 e45 e46 e47 e48 e49 e50 e51 e52 e53 e54 e55 e56 e57 e58 e59 e60 e61 e62 e63 e64 e65 e66 e67 e68 e69 e70 e71 e72 e73 e74 e75 e76 e77 e78 e79 e80 e81 e82 e83 e84 e85 e86 e87 e88 e89 e90 e91 e92 e93 e94 e95 e96 e97 e98 e99 e100 e101 e102 e103 e104 e105 e106 e107 e108 e109 e110 e111 e112 e113 e114 e115 e116 e117 e118 e119 e120 e121 e122 e123 e124 e125 e126 e127 e128 e129 e130 e131 e132 e133 e134 e135 e136 e137 e138 e139 e140 e141 e142 e143 e144 e145 e146 e147 e148 e149 e150 : Value) : reg7n11.wp Try.prog (Exit.then K (fun _ _ _ => False)) { tmps := #[e0, e1, .int .u8 (at_ : Nat), .int .u8 (wh : Nat), e4, e5, e6, e7, e8, e9, e10, .pointer (some ⟨X, 0, none⟩), .int .i64 (k : Nat), e13, e14, e15, e16, e17, e18, e19, e20, e21, e22, e23, e24, e25, e26, e27, e28, e29, e30, e31, e32, e33, e34, e35, e36, e37, e38, e39, e40, e41, e42, e43, e44, e45, e46, e47, e48, e49, e50, e51, e52, e53, e54, e55, e56, e57, e58, e59, e60, e61, e62, e63, e64, e65, e66, e67, e68, e69, e70, e71, e72, e73, e74, e75, e76, e77, e78, e79, e80, e81, e82, e83, e84, e85, e86, e87, e88, e89, e90, e91, e92, e93, e94, e95, e96, e97, e98, e99, e100, e101, e102, e103, e104, e105, e106, e107, e108, e109, e110, e111, e112, e113, e114, e115, e116, e117, e118, e119, e120, e121, e122, e123, e124, e125, e126, e127, e128, e129, e130, e131, e132, e133, e134, e135, e136, e137, e138, e139, e140, e141, e142, e143, e144, e145, e146, e147, e148, e149, e150], defers := [] } W := by
 obtain ⟨i0, hi85, hz0, hz1, hz2⟩ := info_parts info57
 have hgl : g < W.heap.size := by
  have := own_lt hown (show (Value.slice (some ⟨g, 0, none⟩) k cap).ownBlock = some g from rfl); omega
 have hXl : X < W.heap.size := (Array.getElem?_eq_some_iff.1 hX).1
 have c10 := cell_at hX 10 h10
 have HK0 := Lib.hid hK
 have HX := Lib.hid hX; have HOWN := Lib.hid hown; have H10 := Lib.hid h10
 have hmod : (at_ : Int).tmod (k : Int) = (j : Int) := by
  rw [← hat]; exact Int.ofNat_tmod at_ k
 have hkz : ¬ (k : Int) = 0 := by omega
 have hkz2 : ¬ k = 0 := by omega
 have hji : (j : Int) < (k : Int) := by omega
 have HM := Lib.hid hmod
 have HI := Lib.hid (And.intro hi85 (And.intro hz0 (And.intro hz1 hz2)))
 clear hK hX hown h10 hmod hat hi85 hz0 hz1 hz2
 unfold reg7n11 then7n5 elem7n5 code7
 conv => arg 2; whnf
 refine wp_region_D 13 15 (fun V => V.cell? ⟨g, j * 2, none⟩ = some (sv nm)) (fun V => V.cell? ⟨X, 10, none⟩ = some (.slice (some ⟨g, 0, none⟩) k cap)) (by kernel_rfl) ?_
 have hS1 : W.drew.cell? ⟨g, j * 2, none⟩ = some (sv nm) := hnm
 have hS2 : W.drew.cell? ⟨X, 10, none⟩ = some (.slice (some ⟨g, 0, none⟩) k cap) := c10
 have HXd : Hid (W.drew.heap[X]? = some (.cells cs 30 (0, 0))) := HX
 have HOd : Hid (W.drew.ownsRow B 57 2 (.slice (some ⟨g, 0, none⟩) k cap) k xs) := HOWN
 have HBd : Hid (Below W.heap.size W W.drew) := Lib.hid (Below.refl _ _).drew
 have hsd : W.drew.heap.size = W.heap.size := rfl
 have HSD := Lib.hid hsd
 clear hsd
 generalize W.drew = Wd at *
 dsimp only
 refine wpAnyD_take2 [15] (i := 0) (oi := _) (v := .pointer (some ⟨X, 10, none⟩)) rfl (by kernel_rfl) (fun _ _ _ h => h) (Or.inl ⟨by kernel_rfl, fun V hb => by go_simp⟩) (fun _ => hS1) hS2 ?_
 try simp only [Act.put, List.getElem_toArray, List.getElem_cons_zero, List.getElem_cons_succ, List.setIfInBounds_toArray, List.set_cons_zero, List.set_cons_succ]
 refine wpAnyD_take2 [15] (i := 1) (oi := _) (v := .slice (some ⟨g, 0, none⟩) k cap) rfl (by kernel_rfl) (fun _ _ _ h => h) (Or.inl ⟨by kernel_rfl, fun V hb => by have q0 : V.cell? ⟨X, 10, none⟩ = some (.slice (some ⟨g, 0, none⟩) k cap) := hb; go_simp⟩) (fun _ => hS1) hS2 ?_
 try simp only [Act.put, List.getElem_toArray, List.getElem_cons_zero, List.getElem_cons_succ, List.setIfInBounds_toArray, List.set_cons_zero, List.set_cons_succ]
 refine wpAnyD_take2 [15] (i := 2) (oi := _) (v := .pointer (some ⟨X, 10, none⟩)) rfl (by kernel_rfl) (fun _ _ _ h => h) (Or.inl ⟨by kernel_rfl, fun V hb => by go_simp⟩) (fun _ => hS1) hS2 ?_
 try simp only [Act.put, List.getElem_toArray, List.getElem_cons_zero, List.getElem_cons_succ, List.setIfInBounds_toArray, List.set_cons_zero, List.set_cons_succ]
 refine wpAnyD_take2 [15] (i := 3) (oi := _) (v := .slice (some ⟨g, 0, none⟩) k cap) rfl (by kernel_rfl) (fun _ _ _ h => h) (Or.inl ⟨by kernel_rfl, fun V hb => by have q0 : V.cell? ⟨X, 10, none⟩ = some (.slice (some ⟨g, 0, none⟩) k cap) := hb; go_simp⟩) (fun _ => hS1) hS2 ?_
 try simp only [Act.put, List.getElem_toArray, List.getElem_cons_zero, List.getElem_cons_succ, List.setIfInBounds_toArray, List.set_cons_zero, List.set_cons_succ]
 refine wpAnyD_take2 [15] (i := 4) (oi := _) (v := .int .u8 (at_ : Nat)) rfl (by kernel_rfl) (fun _ _ _ h => h) (Or.inl ⟨by kernel_rfl, fun V hb => by go_simp⟩) (fun _ => hS1) hS2 ?_
 try simp only [Act.put, List.getElem_toArray, List.getElem_cons_zero, List.getElem_cons_succ, List.setIfInBounds_toArray, List.set_cons_zero, List.set_cons_succ]
 refine wpAnyD_take2 [15] (i := 5) (oi := _) (v := .int .i64 (at_ : Nat)) rfl (by kernel_rfl) (fun _ _ _ h => h) (Or.inl ⟨by kernel_rfl, fun V hb => by have q0 : IntKind.i64.wrap (at_ : Int) = (at_ : Int) := IntWalk.i64_in _ (by omega); go_simp⟩) (fun _ => hS1) hS2 ?_
 try simp only [Act.put, List.getElem_toArray, List.getElem_cons_zero, List.getElem_cons_succ, List.setIfInBounds_toArray, List.set_cons_zero, List.set_cons_succ]
 refine wpAnyD_take2 [15] (i := 6) (oi := _) (v := .int .i64 (k : Nat)) rfl (by kernel_rfl) (fun _ _ _ h => h) (Or.inl ⟨by kernel_rfl, fun V hb => by go_simp⟩) (fun _ => hS1) hS2 ?_
 try simp only [Act.put, List.getElem_toArray, List.getElem_cons_zero, List.getElem_cons_succ, List.setIfInBounds_toArray, List.set_cons_zero, List.set_cons_succ]
 refine wpAnyD_take2 [15] (i := 7) (oi := _) (v := .int .i64 (j : Nat)) rfl (by kernel_rfl) (fun _ _ _ h => h) (Or.inl ⟨by kernel_rfl, fun V hb => by have q0 := HM.out; go_simp⟩) (fun _ => hS1) hS2 ?_
 try simp only [Act.put, List.getElem_toArray, List.getElem_cons_zero, List.getElem_cons_succ, List.setIfInBounds_toArray, List.set_cons_zero, List.set_cons_succ]
 refine wpAnyD_take2 [15] (i := 8) (oi := _) (v := .pointer (some ⟨g, j * 2, none⟩)) rfl (by kernel_rfl) (fun _ _ _ h => h) (Or.inl ⟨by kernel_rfl, fun V hb => by go_simp⟩) (fun _ => hS1) hS2 ?_
 try simp only [Act.put, List.getElem_toArray, List.getElem_cons_zero, List.getElem_cons_succ, List.setIfInBounds_toArray, List.set_cons_zero, List.set_cons_succ]
 refine wpAnyD_take2 [15] (i := 9) (oi := _) (v := .pointer (some ⟨g, j * 2, none⟩)) rfl (by kernel_rfl) (fun _ _ _ h => h) (Or.inl ⟨by kernel_rfl, fun V hb => by go_simp⟩) (fun _ => hS1) hS2 ?_
 try simp only [Act.put, List.getElem_toArray, List.getElem_cons_zero, List.getElem_cons_succ, List.setIfInBounds_toArray, List.set_cons_zero, List.set_cons_succ]
 refine wpAnyD_take1 [11, 12, 13] (i := 10) (oi := _) (v := sv nm) rfl (by kernel_rfl) (fun _ _ _ h => h) (Or.inl ⟨by kernel_rfl, fun V hb => by have q0 : V.cell? ⟨g, j * 2, none⟩ = some (sv nm) := hb; go_simp⟩) hS1 (fun _ => hS2) ?_
 try simp only [Act.put, List.getElem_toArray, List.getElem_cons_zero, List.getElem_cons_succ, List.setIfInBounds_toArray, List.set_cons_zero, List.set_cons_succ]
 refine wpAnyD_take2 [15] (i := 11) (oi := _) (v := .agg #[sv nm, .slice none 0 0]) rfl (by kernel_rfl) (fun _ _ _ h => h) (Or.inl ⟨by kernel_rfl, fun V hb => by go_simp⟩) (fun _ => hS1) hS2 ?_
 try simp only [Act.put, List.getElem_toArray, List.getElem_cons_zero, List.getElem_cons_succ, List.setIfInBounds_toArray, List.set_cons_zero, List.set_cons_succ]
 refine wpAnyD_one (i := 12) (by kernel_rfl) rfl (fun K1 hK => ?_)
 have HK := Lib.hid hK
 clear hK
 obtain ⟨Wb, xWb, gWb, bWb, sWb⟩ := mk_cells Wd #[sv nm, .slice none 0 0] 57
 have GWb := Lib.hid gWb; have BWb := Lib.hid bWb; have SWb := Lib.hid sWb
 have hS1b := keep_cell bWb hS1; have hS2b := keep_cell bWb hS2
 clear gWb bWb sWb
 go_simp
 refine HK.out _ _ (fun _ => hS1b) (fun _ => hS2b) ?_
 try simp only [Act.put, List.getElem_toArray, List.getElem_cons_zero, List.getElem_cons_succ, List.setIfInBounds_toArray, List.set_cons_zero, List.set_cons_succ]
 clear HK K1
 refine wpAnyD_one (i := 13) (by kernel_rfl) rfl (fun K1 hK => ?_)
 have HK := Lib.hid hK
 clear hK
 rw [if_pos (by rfl)]
 refine wp_append_at _ _ 27 rfl B 57 i0 _ 2 40 Try.underlying27 HI.out.1 HI.out.2.1 HI.out.2.2.1 HI.out.2.2.2 rfl (by decide) (.slice (some ⟨g, 0, none⟩) k cap) k xs rfl (own_below HOd.out BWb.out) ⟨Wd.heap.size, 0, none⟩ 1 1 [sv nm, .slice none 0 0] rfl rfl (fun j u hj => by rw [addr_plain, Nat.zero_add]; exact cell_at GWb.out j (by rw [← List.getElem?_toArray] at hj; exact hj)) (by intro u hu; simp only [List.mem_cons, List.mem_nil_iff, or_false] at hu; rcases hu with rfl | rfl <;> rfl) (by unfold maxLen; omega) (by omega) (by have := SWb.out; have := HSD.out; omega) ?_
 intro v1 W1 ho1 hg1 hat1
 have hX1 : W1.heap[X]? = some (.cells cs 30 (0, 0)) := by
  have e := HSD.out
  have s2 := SWb.out
  rw [hg1.block X (by omega) (by simp [Value.ownBlock]; omega)]
  exact keepO' BWb.out HXd.out
 have hb1 : v1.ownBlock = some g ∨ v1.ownBlock = some Wb.heap.size := hat1
 obtain ⟨ao, c1, rfl, _, _, hform, _, _⟩ := own_new (by omega) ho1
 obtain ⟨g1, rfl⟩ : ∃ g1, ao = some ⟨g1, 0, none⟩ := by
  rcases hform with e | e
  ·rw [e] at hb1; rcases hb1 with hb1 | hb1 <;> cases hb1
  ·exact ⟨_, e⟩
 have hg1' : g1 = g ∨ W.heap.size ≤ g1 := by
  have s2 := SWb.out; have e := HSD.out
  rcases hb1 with hb1 | hb1
  ·exact Or.inl (Option.some.inj hb1)
  ·right; have : g1 = Wb.heap.size := Option.some.inj hb1; omega
 have hg1X : g1 ≠ X := by rcases hg1' with e | e <;> omega
 have hS2c : W1.cell? ⟨X, 10, none⟩ = some (.slice (some ⟨g, 0, none⟩) k cap) := cell_at hX1 10 H10.out
 have z1 : W1.frozen? ⟨X, 10, none⟩ = false := (show FreeB W1 X from ⟨_, _, hX1⟩).free _
 obtain ⟨cap', ecap, hsh, hle, hmx, _⟩ := shape_of_own ho1 (show (Value.slice (some ⟨g1, 0, none⟩) (k + 1) c1).ownBlock = some g1 from rfl)
 have hc : cap' = c1 := by injection ecap with _ _ e; exact e.symm
 subst hc
 have hcl : ∀ j u, (xs ++ [sv nm, .slice none 0 0])[j]? = some u → W1.cell? ⟨g1, j, none⟩ = some u := fun j u hj => by
  have := ho1.cells (g := g1) rfl j u hj
  rw [addr_plain, Nat.zero_add] at this; exact this
 have hfin := HK0.out g1 cap' (W1.setCell ⟨X, 10, none⟩ (.slice (some ⟨g1, 0, none⟩) (k + 1) cap')) (hsh.set _ _ _) hle hmx (fun j u hj => cell_set_ne (hcl j u hj) (addr_ne (Or.inl fun e => hg1X e.symm))) (set_blk hX1 10 _)
  (fun b hb hbX hbg => by
   have s2 := SWb.out; have e := HSD.out
   rw [Below.heap_setCell _ _ _ _ hbX, hg1.block b (by omega) (fun e => hbg (Option.some.inj e)), BWb.out.block b (by omega)]
   exact HBd.out.block b hb) hg1' (fun B' h1 h2 h3 => by
   have s2 := SWb.out; have e := HSD.out
   exact (((HBd.out.mono h3).trans (BWb.out.mono (by omega))).grown hg1 (by omega) (fun k hk => by have : g = k := Option.some.inj hk; omega)).setCell (p := ⟨X, 10, none⟩) h1 _)
 have HFIN := Lib.hid hfin
 clear ho1 hg1 hat1 hb1 hform hg1' hg1X hX1 hsh hle hmx hcl hfin ecap hS1 hS2 hS1b hS2b
 refine HK.out _ _ (fun h => absurd (show true = false from h) (by decide)) (fun _ => hS2c) ?_
 try simp only [Act.put, List.getElem_toArray, List.getElem_cons_zero, List.getElem_cons_succ, List.setIfInBounds_toArray, List.set_cons_zero, List.set_cons_succ]
 clear HK K1
 refine wpAnyD_take2 [15] (i := 14) (oi := _) (v := .pointer (some ⟨X, 10, none⟩)) rfl (by kernel_rfl) (fun _ _ _ h => h) (Or.inl ⟨by kernel_rfl, fun V hb => by go_simp⟩) (fun h => absurd (show true = false from h) (by decide)) hS2c ?_
 try simp only [Act.put, List.getElem_toArray, List.getElem_cons_zero, List.getElem_cons_succ, List.setIfInBounds_toArray, List.set_cons_zero, List.set_cons_succ]
 refine wpAnyD_one (i := 15) (by kernel_rfl) rfl (fun K1 hK => ?_)
 have HK := Lib.hid hK
 clear hK
 go_simp
 refine HK.out _ _ (fun h => absurd (show true = false from h) (by decide)) (fun h => absurd (show true = false from h) (by decide)) ?_
 try simp only [Act.put, List.getElem_toArray, List.getElem_cons_zero, List.getElem_cons_succ, List.setIfInBounds_toArray, List.set_cons_zero, List.set_cons_succ]
 clear HK K1
 refine wpAnyD_done (by kernel_rfl) ?_ _
 exact HFIN.out _ _ _ _ _ _ _ _ _ _ _ _ _ _ _ _ _ _ _ _ _ _ _ _ _ _ _ _ _ _ _ _ _ _ _ _ _ _ _ _ _ _ _ _ _ _ _ _ _ _ _ _ _ _ _ _ _ _ _ _ _ _ _ _ _ _ _ _ _ _ _ _ _ _ _ _ _ _ _ _ _ _ _ _ _ _ _ _ _ _ _ _ _ _ _ _ _ _ _ _ _ _ _ _ _ _ _ _ _ _ _ _ _ _ _ _ _ _ _ _ _ _ _ _ _ _ _ _ _ _ _ _ _ _ _ _ _ _ _ _ _ _ _ _ _ _ _
set_option maxRecDepth 100000 in
set_option maxHeartbeats 16000000 in
theorem tw_r18 (X g j k cap at_ wh B : Nat) (nm : Nm) (cs : Array Value) (xs : List Value) (W : World) (hX : W.heap[X]? = some (.cells cs 30 (0, 0))) (h10 : cs[6]? = some (.slice (some ⟨g, 0, none⟩) k cap)) (hown : W.ownsRow B 59 4 (.slice (some ⟨g, 0, none⟩) k cap) k xs) (hB : B ≤ W.heap.size) (hgX : g ≠ X) (hk : k < 64) (hj : j < k) (hat : at_ % k = j) (ha : at_ < 256) (hw : wh < 256) (hnm : W.cell? ⟨g, j * 4, none⟩ = some (sv nm)) (K : Act → World → Prop)
  (hK : ∀ (g1 c1 : Nat) (W' : World), Shape W' g1 59 (c1 * 4) → k + 1 ≤ c1 → c1 ≤ maxLen → (∀ j u, (xs ++ [sv nm, .int .i64 (wh : Nat), .int .i64 0, .int .i64 0])[j]? = some u → W'.cell? ⟨g1, j, none⟩ = some u) → W'.heap[X]? = some (.cells (cs.setIfInBounds 6 (.slice (some ⟨g1, 0, none⟩) (k + 1) c1)) 30 (0, 0)) →
   (∀ b, b < W.heap.size → b ≠ X → b ≠ g → W'.heap[b]? = W.heap[b]?) → (g1 = g ∨ W.heap.size ≤ g1) → (∀ B', B' ≤ X → B' ≤ g → B' ≤ W.heap.size → Below B' W W') → ∀ (f0 f1 f4 f5 f6 f7 f8 f9 f10 f12 f13 f14 f15 f17 f18 f19 f20 f21 f22 f23 f24 f25 f26 f27 f28 f29 f30 f31 f32 f33 f34 f35 f36 f37 f38 f39 f40 f41 f42 f43 f44 f45 f46 f47 f48 f49 f50 f51 f52 f53 f54 f55 f56 f57 f58 f59 f60 f61 f62 f63 f64 f65 f66 f67 f68 f69 f70 f71 f72 f73 f74 f75 f76 f77 f78 f79 f80 f81 f82 f83 f84 f85 f86 f87 f88 f89 f90 f91 f92 f93 f94 f95 f96 f97 f98 f99 f100 f101 f102 f103 f104 f105 f106 f107 f108 f109 f110 f111 f112 f113 f114 f115 f116 f117 f118 f119 f120 f121 f122 f123 f124 f125 f126 f127 f128 f129 f130 f131 f132 f133 f134 f135 f136 f137 f138 f139 f140 f141 f142 f143 f144 f145 f146 f147 f148 f149 f150 : Value), K { tmps := #[f0, f1, .int .u8 (at_ : Nat), .int .u8 (wh : Nat), f4, f5, f6, f7, f8, f9, f10, .pointer (some ⟨X, 0, none⟩), f12, f13, f14, f15, .int .i64 (k : Nat), f17, f18, f19, f20, f21, f22, f23, f24, f25, f26, f27, f28, f29, f30, f31, f32, f33, f34, f35, f36, f37, f38, f39, f40, f41, f42, f43, f44, f45, f46, f47, f48, f49, f50, f51, f52, f53, f54, f55, f56, f57, f58, f59, f60, f61, f62, f63, f64, f65, f66, f67, f68, f69, f70, f71, f72, f73, f74, f75, f76, f77, f78, f79, f80, f81, f82, f83, f84, f85, f86, f87, f88, f89, f90, f91, f92, f93, f94, f95, f96, f97, f98, f99, f100, f101, f102, f103, f104, f105, f106, f107, f108, f109, f110, f111, f112, f113, f114, f115, f116, f117, f118, f119, f120, f121, f122, f123, f124, f125, f126, f127, f128, f129, f130, f131, f132, f133, f134, f135, f136, f137, f138, f139, f140, f141, f142, f143, f144, f145, f146, f147, f148, f149, f150], defers := [] } W')
  (e0 e1 e4 e5 e6 e7 e8 e9 e10 e12 e13 e14 e15 e17 e18 e19 e20 e21 e22 e23 e24 e25 e26 e27 e28 e29 e30 e31 e32 e33 e34 e35 e36 e37 e38 e39 e40 e41 e42 e43 e44 e45 e46 e47 e48 e49 e50 e51 e52 e53 e54 e55 e56 e57 e58 e59 e60 e61 e62 e63 e64 e65 e66 e67 e68 e69 e70 e71 e72 e73 e74 e75 e76 e77 e78 e79 e80 e81 e82 e83 e84 e85 e86 e87 e88 e89 e90 e91 e92 e93 e94 e95 e96 e97 e98 e99 e100 e101 e102 e103 e104 e105 e106 e107 e108 e109 e110 e111 e112 e113 e114 e115 e116 e117 e118 e119 e120 e121 e122 e123 e124 e125 e126 e127 e128 e129 e130 e131 e132 e133 e134 e135 e136 e137 e138 e139 e140 e141 e142 e143 e144 e145 e146 e147 e148 e149 e150 : Value) : reg7n18.wp Try.prog (Exit.then K (fun _ _ _ => False)) { tmps := #[e0, e1, .int .u8 (at_ : Nat), .int .u8 (wh : Nat), e4, e5, e6, e7, e8, e9, e10, .pointer (some ⟨X, 0, none⟩), e12, e13, e14, e15, .int .i64 (k : Nat), e17, e18, e19, e20, e21, e22, e23, e24, e25, e26, e27, e28, e29, e30, e31, e32, e33, e34, e35, e36, e37, e38, e39, e40, e41, e42, e43, e44, e45, e46, e47, e48, e49, e50, e51, e52, e53, e54, e55, e56, e57, e58, e59, e60, e61, e62, e63, e64, e65, e66, e67, e68, e69, e70, e71, e72, e73, e74, e75, e76, e77, e78, e79, e80, e81, e82, e83, e84, e85, e86, e87, e88, e89, e90, e91, e92, e93, e94, e95, e96, e97, e98, e99, e100, e101, e102, e103, e104, e105, e106, e107, e108, e109, e110, e111, e112, e113, e114, e115, e116, e117, e118, e119, e120, e121, e122, e123, e124, e125, e126, e127, e128, e129, e130, e131, e132, e133, e134, e135, e136, e137, e138, e139, e140, e141, e142, e143, e144, e145, e146, e147, e148, e149, e150], defers := [] } W := by
 obtain ⟨i0, hi85, hz0, hz1, hz2⟩ := info_parts info59
 have hgl : g < W.heap.size := by
  have := own_lt hown (show (Value.slice (some ⟨g, 0, none⟩) k cap).ownBlock = some g from rfl); omega
 have hXl : X < W.heap.size := (Array.getElem?_eq_some_iff.1 hX).1
 have c10 := cell_at hX 6 h10
 have HK0 := Lib.hid hK
 have HX := Lib.hid hX; have HOWN := Lib.hid hown; have H10 := Lib.hid h10
 have hmod : (at_ : Int).tmod (k : Int) = (j : Int) := by
  rw [← hat]; exact Int.ofNat_tmod at_ k
 have hkz : ¬ (k : Int) = 0 := by omega
 have hkz2 : ¬ k = 0 := by omega
 have hji : (j : Int) < (k : Int) := by omega
 have HM := Lib.hid hmod
 have HI := Lib.hid (And.intro hi85 (And.intro hz0 (And.intro hz1 hz2)))
 clear hK hX hown h10 hmod hat hi85 hz0 hz1 hz2
 unfold reg7n18 then7n6 elem7n6 code7
 conv => arg 2; whnf
 refine wp_region_D 15 17 (fun V => V.cell? ⟨g, j * 4, none⟩ = some (sv nm)) (fun V => V.cell? ⟨X, 6, none⟩ = some (.slice (some ⟨g, 0, none⟩) k cap)) (by kernel_rfl) ?_
 have hS1 : W.drew.cell? ⟨g, j * 4, none⟩ = some (sv nm) := hnm
 have hS2 : W.drew.cell? ⟨X, 6, none⟩ = some (.slice (some ⟨g, 0, none⟩) k cap) := c10
 have HXd : Hid (W.drew.heap[X]? = some (.cells cs 30 (0, 0))) := HX
 have HOd : Hid (W.drew.ownsRow B 59 4 (.slice (some ⟨g, 0, none⟩) k cap) k xs) := HOWN
 have HBd : Hid (Below W.heap.size W W.drew) := Lib.hid (Below.refl _ _).drew
 have hsd : W.drew.heap.size = W.heap.size := rfl
 have HSD := Lib.hid hsd
 clear hsd
 generalize W.drew = Wd at *
 dsimp only
 refine wpAnyD_take2 [17] (i := 0) (oi := _) (v := .pointer (some ⟨X, 6, none⟩)) rfl (by kernel_rfl) (fun _ _ _ h => h) (Or.inl ⟨by kernel_rfl, fun V hb => by go_simp⟩) (fun _ => hS1) hS2 ?_
 try simp only [Act.put, List.getElem_toArray, List.getElem_cons_zero, List.getElem_cons_succ, List.setIfInBounds_toArray, List.set_cons_zero, List.set_cons_succ]
 refine wpAnyD_take2 [17] (i := 1) (oi := _) (v := .slice (some ⟨g, 0, none⟩) k cap) rfl (by kernel_rfl) (fun _ _ _ h => h) (Or.inl ⟨by kernel_rfl, fun V hb => by have q0 : V.cell? ⟨X, 6, none⟩ = some (.slice (some ⟨g, 0, none⟩) k cap) := hb; go_simp⟩) (fun _ => hS1) hS2 ?_
 try simp only [Act.put, List.getElem_toArray, List.getElem_cons_zero, List.getElem_cons_succ, List.setIfInBounds_toArray, List.set_cons_zero, List.set_cons_succ]
 refine wpAnyD_take2 [17] (i := 2) (oi := _) (v := .pointer (some ⟨X, 6, none⟩)) rfl (by kernel_rfl) (fun _ _ _ h => h) (Or.inl ⟨by kernel_rfl, fun V hb => by go_simp⟩) (fun _ => hS1) hS2 ?_
 try simp only [Act.put, List.getElem_toArray, List.getElem_cons_zero, List.getElem_cons_succ, List.setIfInBounds_toArray, List.set_cons_zero, List.set_cons_succ]
 refine wpAnyD_take2 [17] (i := 3) (oi := _) (v := .slice (some ⟨g, 0, none⟩) k cap) rfl (by kernel_rfl) (fun _ _ _ h => h) (Or.inl ⟨by kernel_rfl, fun V hb => by have q0 : V.cell? ⟨X, 6, none⟩ = some (.slice (some ⟨g, 0, none⟩) k cap) := hb; go_simp⟩) (fun _ => hS1) hS2 ?_
 try simp only [Act.put, List.getElem_toArray, List.getElem_cons_zero, List.getElem_cons_succ, List.setIfInBounds_toArray, List.set_cons_zero, List.set_cons_succ]
 refine wpAnyD_take2 [17] (i := 4) (oi := _) (v := .int .u8 (at_ : Nat)) rfl (by kernel_rfl) (fun _ _ _ h => h) (Or.inl ⟨by kernel_rfl, fun V hb => by go_simp⟩) (fun _ => hS1) hS2 ?_
 try simp only [Act.put, List.getElem_toArray, List.getElem_cons_zero, List.getElem_cons_succ, List.setIfInBounds_toArray, List.set_cons_zero, List.set_cons_succ]
 refine wpAnyD_take2 [17] (i := 5) (oi := _) (v := .int .i64 (at_ : Nat)) rfl (by kernel_rfl) (fun _ _ _ h => h) (Or.inl ⟨by kernel_rfl, fun V hb => by have q0 : IntKind.i64.wrap (at_ : Int) = (at_ : Int) := IntWalk.i64_in _ (by omega); go_simp⟩) (fun _ => hS1) hS2 ?_
 try simp only [Act.put, List.getElem_toArray, List.getElem_cons_zero, List.getElem_cons_succ, List.setIfInBounds_toArray, List.set_cons_zero, List.set_cons_succ]
 refine wpAnyD_take2 [17] (i := 6) (oi := _) (v := .int .i64 (k : Nat)) rfl (by kernel_rfl) (fun _ _ _ h => h) (Or.inl ⟨by kernel_rfl, fun V hb => by go_simp⟩) (fun _ => hS1) hS2 ?_
 try simp only [Act.put, List.getElem_toArray, List.getElem_cons_zero, List.getElem_cons_succ, List.setIfInBounds_toArray, List.set_cons_zero, List.set_cons_succ]
 refine wpAnyD_take2 [17] (i := 7) (oi := _) (v := .int .i64 (j : Nat)) rfl (by kernel_rfl) (fun _ _ _ h => h) (Or.inl ⟨by kernel_rfl, fun V hb => by have q0 := HM.out; go_simp⟩) (fun _ => hS1) hS2 ?_
 try simp only [Act.put, List.getElem_toArray, List.getElem_cons_zero, List.getElem_cons_succ, List.setIfInBounds_toArray, List.set_cons_zero, List.set_cons_succ]
 refine wpAnyD_take2 [17] (i := 8) (oi := _) (v := .pointer (some ⟨g, j * 4, none⟩)) rfl (by kernel_rfl) (fun _ _ _ h => h) (Or.inl ⟨by kernel_rfl, fun V hb => by go_simp⟩) (fun _ => hS1) hS2 ?_
 try simp only [Act.put, List.getElem_toArray, List.getElem_cons_zero, List.getElem_cons_succ, List.setIfInBounds_toArray, List.set_cons_zero, List.set_cons_succ]
 refine wpAnyD_take2 [17] (i := 9) (oi := _) (v := .pointer (some ⟨g, j * 4, none⟩)) rfl (by kernel_rfl) (fun _ _ _ h => h) (Or.inl ⟨by kernel_rfl, fun V hb => by go_simp⟩) (fun _ => hS1) hS2 ?_
 try simp only [Act.put, List.getElem_toArray, List.getElem_cons_zero, List.getElem_cons_succ, List.setIfInBounds_toArray, List.set_cons_zero, List.set_cons_succ]
 refine wpAnyD_take1 [13, 14, 15] (i := 10) (oi := _) (v := sv nm) rfl (by kernel_rfl) (fun _ _ _ h => h) (Or.inl ⟨by kernel_rfl, fun V hb => by have q0 : V.cell? ⟨g, j * 4, none⟩ = some (sv nm) := hb; go_simp⟩) hS1 (fun _ => hS2) ?_
 try simp only [Act.put, List.getElem_toArray, List.getElem_cons_zero, List.getElem_cons_succ, List.setIfInBounds_toArray, List.set_cons_zero, List.set_cons_succ]
 refine wpAnyD_take2 [17] (i := 11) (oi := _) (v := .int .u8 (wh : Nat)) rfl (by kernel_rfl) (fun _ _ _ h => h) (Or.inl ⟨by kernel_rfl, fun V hb => by go_simp⟩) (fun _ => hS1) hS2 ?_
 try simp only [Act.put, List.getElem_toArray, List.getElem_cons_zero, List.getElem_cons_succ, List.setIfInBounds_toArray, List.set_cons_zero, List.set_cons_succ]
 refine wpAnyD_take2 [17] (i := 12) (oi := _) (v := .int .i64 (wh : Nat)) rfl (by kernel_rfl) (fun _ _ _ h => h) (Or.inl ⟨by kernel_rfl, fun V hb => by have q0 : IntKind.i64.wrap (wh : Int) = (wh : Int) := IntWalk.i64_in _ (by omega); go_simp⟩) (fun _ => hS1) hS2 ?_
 try simp only [Act.put, List.getElem_toArray, List.getElem_cons_zero, List.getElem_cons_succ, List.setIfInBounds_toArray, List.set_cons_zero, List.set_cons_succ]
 refine wpAnyD_take2 [17] (i := 13) (oi := _) (v := .agg #[sv nm, .int .i64 (wh : Nat), .int .i64 0, .int .i64 0]) rfl (by kernel_rfl) (fun _ _ _ h => h) (Or.inl ⟨by kernel_rfl, fun V hb => by go_simp⟩) (fun _ => hS1) hS2 ?_
 try simp only [Act.put, List.getElem_toArray, List.getElem_cons_zero, List.getElem_cons_succ, List.setIfInBounds_toArray, List.set_cons_zero, List.set_cons_succ]
 refine wpAnyD_one (i := 14) (by kernel_rfl) rfl (fun K1 hK => ?_)
 have HK := Lib.hid hK
 clear hK
 obtain ⟨Wb, xWb, gWb, bWb, sWb⟩ := mk_cells Wd #[sv nm, .int .i64 (wh : Nat), .int .i64 0, .int .i64 0] 59
 have GWb := Lib.hid gWb; have BWb := Lib.hid bWb; have SWb := Lib.hid sWb
 have hS1b := keep_cell bWb hS1; have hS2b := keep_cell bWb hS2
 clear gWb bWb sWb
 go_simp
 refine HK.out _ _ (fun _ => hS1b) (fun _ => hS2b) ?_
 try simp only [Act.put, List.getElem_toArray, List.getElem_cons_zero, List.getElem_cons_succ, List.setIfInBounds_toArray, List.set_cons_zero, List.set_cons_succ]
 clear HK K1
 refine wpAnyD_one (i := 15) (by kernel_rfl) rfl (fun K1 hK => ?_)
 have HK := Lib.hid hK
 clear hK
 rw [if_pos (by rfl)]
 refine wp_append_at _ _ 23 rfl B 59 i0 _ 4 40 Try.underlying23 HI.out.1 HI.out.2.1 HI.out.2.2.1 HI.out.2.2.2 rfl (by decide) (.slice (some ⟨g, 0, none⟩) k cap) k xs rfl (own_below HOd.out BWb.out) ⟨Wd.heap.size, 0, none⟩ 1 1 [sv nm, .int .i64 (wh : Nat), .int .i64 0, .int .i64 0] rfl rfl (fun j u hj => by rw [addr_plain, Nat.zero_add]; exact cell_at GWb.out j (by rw [← List.getElem?_toArray] at hj; exact hj)) (by intro u hu; simp only [List.mem_cons, List.mem_nil_iff, or_false] at hu; rcases hu with rfl | rfl | rfl | rfl <;> rfl) (by unfold maxLen; omega) (by omega) (by have := SWb.out; have := HSD.out; omega) ?_
 intro v1 W1 ho1 hg1 hat1
 have hX1 : W1.heap[X]? = some (.cells cs 30 (0, 0)) := by
  have e := HSD.out
  have s2 := SWb.out
  rw [hg1.block X (by omega) (by simp [Value.ownBlock]; omega)]
  exact keepO' BWb.out HXd.out
 have hb1 : v1.ownBlock = some g ∨ v1.ownBlock = some Wb.heap.size := hat1
 obtain ⟨ao, c1, rfl, _, _, hform, _, _⟩ := own_new (by omega) ho1
 obtain ⟨g1, rfl⟩ : ∃ g1, ao = some ⟨g1, 0, none⟩ := by
  rcases hform with e | e
  ·rw [e] at hb1; rcases hb1 with hb1 | hb1 <;> cases hb1
  ·exact ⟨_, e⟩
 have hg1' : g1 = g ∨ W.heap.size ≤ g1 := by
  have s2 := SWb.out; have e := HSD.out
  rcases hb1 with hb1 | hb1
  ·exact Or.inl (Option.some.inj hb1)
  ·right; have : g1 = Wb.heap.size := Option.some.inj hb1; omega
 have hg1X : g1 ≠ X := by rcases hg1' with e | e <;> omega
 have hS2c : W1.cell? ⟨X, 6, none⟩ = some (.slice (some ⟨g, 0, none⟩) k cap) := cell_at hX1 6 H10.out
 have z1 : W1.frozen? ⟨X, 6, none⟩ = false := (show FreeB W1 X from ⟨_, _, hX1⟩).free _
 obtain ⟨cap', ecap, hsh, hle, hmx, _⟩ := shape_of_own ho1 (show (Value.slice (some ⟨g1, 0, none⟩) (k + 1) c1).ownBlock = some g1 from rfl)
 have hc : cap' = c1 := by injection ecap with _ _ e; exact e.symm
 subst hc
 have hcl : ∀ j u, (xs ++ [sv nm, .int .i64 (wh : Nat), .int .i64 0, .int .i64 0])[j]? = some u → W1.cell? ⟨g1, j, none⟩ = some u := fun j u hj => by
  have := ho1.cells (g := g1) rfl j u hj
  rw [addr_plain, Nat.zero_add] at this; exact this
 have hfin := HK0.out g1 cap' (W1.setCell ⟨X, 6, none⟩ (.slice (some ⟨g1, 0, none⟩) (k + 1) cap')) (hsh.set _ _ _) hle hmx (fun j u hj => cell_set_ne (hcl j u hj) (addr_ne (Or.inl fun e => hg1X e.symm))) (set_blk hX1 6 _)
  (fun b hb hbX hbg => by
   have s2 := SWb.out; have e := HSD.out
   rw [Below.heap_setCell _ _ _ _ hbX, hg1.block b (by omega) (fun e => hbg (Option.some.inj e)), BWb.out.block b (by omega)]
   exact HBd.out.block b hb) hg1' (fun B' h1 h2 h3 => by
   have s2 := SWb.out; have e := HSD.out
   exact (((HBd.out.mono h3).trans (BWb.out.mono (by omega))).grown hg1 (by omega) (fun k hk => by have : g = k := Option.some.inj hk; omega)).setCell (p := ⟨X, 6, none⟩) h1 _)
 have HFIN := Lib.hid hfin
 clear ho1 hg1 hat1 hb1 hform hg1' hg1X hX1 hsh hle hmx hcl hfin ecap hS1 hS2 hS1b hS2b
 refine HK.out _ _ (fun h => absurd (show true = false from h) (by decide)) (fun _ => hS2c) ?_
 try simp only [Act.put, List.getElem_toArray, List.getElem_cons_zero, List.getElem_cons_succ, List.setIfInBounds_toArray, List.set_cons_zero, List.set_cons_succ]
 clear HK K1
 refine wpAnyD_take2 [17] (i := 16) (oi := _) (v := .pointer (some ⟨X, 6, none⟩)) rfl (by kernel_rfl) (fun _ _ _ h => h) (Or.inl ⟨by kernel_rfl, fun V hb => by go_simp⟩) (fun h => absurd (show true = false from h) (by decide)) hS2c ?_
 try simp only [Act.put, List.getElem_toArray, List.getElem_cons_zero, List.getElem_cons_succ, List.setIfInBounds_toArray, List.set_cons_zero, List.set_cons_succ]
 refine wpAnyD_one (i := 17) (by kernel_rfl) rfl (fun K1 hK => ?_)
 have HK := Lib.hid hK
 clear hK
 go_simp
 refine HK.out _ _ (fun h => absurd (show true = false from h) (by decide)) (fun h => absurd (show true = false from h) (by decide)) ?_
 try simp only [Act.put, List.getElem_toArray, List.getElem_cons_zero, List.getElem_cons_succ, List.setIfInBounds_toArray, List.set_cons_zero, List.set_cons_succ]
 clear HK K1
 refine wpAnyD_done (by kernel_rfl) ?_ _
 exact HFIN.out _ _ _ _ _ _ _ _ _ _ _ _ _ _ _ _ _ _ _ _ _ _ _ _ _ _ _ _ _ _ _ _ _ _ _ _ _ _ _ _ _ _ _ _ _ _ _ _ _ _ _ _ _ _ _ _ _ _ _ _ _ _ _ _ _ _ _ _ _ _ _ _ _ _ _ _ _ _ _ _ _ _ _ _ _ _ _ _ _ _ _ _ _ _ _ _ _ _ _ _ _ _ _ _ _ _ _ _ _ _ _ _ _ _ _ _ _ _ _ _ _ _ _ _ _ _ _ _ _ _ _ _ _ _ _ _ _ _ _ _ _ _ _ _ _ _ _
end Go.Proofs.Ytpnbpepkoekkoaa
end
section
namespace Go.Proofs.Ytpnbpepkoekkoaa
open Go Go.RowKit Go.Deep
def putPh (W : World) (g i : Nat) (p : Ph) : World := (W.setCell ⟨g, i * 2, none⟩ (sv p.name)).setCell ⟨g, i * 2 + 1, none⟩ p.val
theorem putPh_row {W : World} {g i : Nat} {ps : List Ph} {p : Ph} (h : RowV phCell W g ps) (hi : i < ps.length) : RowV phCell (putPh W g i p) g (ps.set i p) := by
 obtain ⟨q, hq⟩ : ∃ q, ps[i]? = some q := ⟨_, List.getElem?_eq_getElem hi⟩
 have c0 := h.get phCell_len (r := 0) hq rfl
 have c1 := h.get phCell_len (r := 1) hq rfl
 refine h.set phCell_len hi (fun r u hr => ?_) fun q v hq hc => ?_
 ·match r, hr with
  | 0, hr => cases hr; exact cell_set_ne (World.cell?_setCell_same _ _ _ c0) (addr_ne (Or.inr (by omega)))
  | 1, hr => cases hr; exact World.cell?_setCell_same _ _ _ (cell_set_ne c1 (addr_ne (Or.inr (by omega))))
 ·exact cell_set_ne (cell_set_ne hc (addr_ne (Or.inr (by omega)))) (addr_ne (Or.inr (by omega)))
theorem putPh_but (W : World) (g i : Nat) (p : Ph) : ButOne g W (putPh W g i p) := (ButOne.setCell (p := ⟨g, i * 2, none⟩) _).trans (ButOne.setCell (p := ⟨g, i * 2 + 1, none⟩) _)
theorem putPh_shape {W : World} {g i sz : Nat} {t : TypeId} {p : Ph} (h : Shape W g t sz) : Shape (putPh W g i p) g t sz := (h.set _ _ _).set _ _ _
def putRol (W : World) (g i : Nat) (p : Rol) : World := (((W.setCell ⟨g, i * 4, none⟩ (sv p.name)).setCell ⟨g, i * 4 + 1, none⟩ (.int .i64 p.x)).setCell ⟨g, i * 4 + 2, none⟩ (.int .i64 p.y)).setCell ⟨g, i * 4 + 3, none⟩ (.int .i64 p.face)
theorem putRol_row {W : World} {g i : Nat} {ps : List Rol} {p : Rol} (h : RowV encR W g ps) (hi : i < ps.length) : RowV encR (putRol W g i p) g (ps.set i p) := by
 obtain ⟨q, hq⟩ : ∃ q, ps[i]? = some q := ⟨_, List.getElem?_eq_getElem hi⟩
 have c0 := h.get encR_len (r := 0) hq rfl
 have c1 := h.get encR_len (r := 1) hq rfl
 have c2 := h.get encR_len (r := 2) hq rfl
 have c3 := h.get encR_len (r := 3) hq rfl
 have ne : ∀ {a b : Nat}, a ≠ b → (⟨g, a, none⟩ : Addr) ≠ ⟨g, b, none⟩ := fun h => addr_ne (Or.inr h)
 refine h.set encR_len hi (fun r u hr => ?_) fun q v hq hc => ?_
 ·match r, hr with
  | 0, hr => cases hr; exact cell_set_ne (cell_set_ne (cell_set_ne (World.cell?_setCell_same _ _ _ c0) (ne (by omega))) (ne (by omega))) (ne (by omega))
  | 1, hr => cases hr; exact cell_set_ne (cell_set_ne (World.cell?_setCell_same _ _ _ (cell_set_ne c1 (ne (by omega)))) (ne (by omega))) (ne (by omega))
  | 2, hr => cases hr; exact cell_set_ne (World.cell?_setCell_same _ _ _ (cell_set_ne (cell_set_ne c2 (ne (by omega))) (ne (by omega)))) (ne (by omega))
  | 3, hr => cases hr; exact World.cell?_setCell_same _ _ _ (cell_set_ne (cell_set_ne (cell_set_ne c3 (ne (by omega))) (ne (by omega))) (ne (by omega)))
 ·exact cell_set_ne (cell_set_ne (cell_set_ne (cell_set_ne hc (ne (by omega))) (ne (by omega))) (ne (by omega))) (ne (by omega))
theorem putRol_but (W : World) (g i : Nat) (p : Rol) : ButOne g W (putRol W g i p) := (((ButOne.setCell (p := ⟨g, i * 4, none⟩) _).trans (ButOne.setCell (p := ⟨g, i * 4 + 1, none⟩) _)).trans (ButOne.setCell (p := ⟨g, i * 4 + 2, none⟩) _)).trans (ButOne.setCell (p := ⟨g, i * 4 + 3, none⟩) _)
theorem putRol_shape {W : World} {g i sz : Nat} {t : TypeId} {p : Rol} (h : Shape W g t sz) : Shape (putRol W g i p) g t sz := (((h.set _ _ _).set _ _ _).set _ _ _).set _ _ _
set_option maxRecDepth 100000 in
set_option maxHeartbeats 16000000 in
theorem tw_r13 (X g i k c1 sz : Nat) (cs : Array Value) (ps : List Ph) (pi pk : Ph) (W : World) (hX : W.heap[X]? = some (.cells cs 30 (0, 0))) (h10 : cs[10]? = some (.slice (some ⟨g, 0, none⟩) (k + 1) c1)) (hgX : g ≠ X) (hk : k < 64) (hi : i < k + 1) (hl : ps.length = k + 1) (hpi : ps[i]? = some pi) (hpk : ps[k]? = some pk) (hrow : RowV phCell W g ps) (hsh : Shape W g 57 sz) (K : Act → World → Prop)
  (hK : ∀ W', RowV phCell W' g ((ps.set i pk).set k pi) → ButOne g W W' → Shape W' g 57 sz → ∀ (f0 f1 f2 f3 f4 f5 f6 f7 f8 f9 f10 f14 f15 f16 f17 f18 f19 f20 f21 f22 f23 f24 f25 f26 f27 f28 f29 f30 f31 f32 f33 f34 f35 f36 f37 f38 f39 f40 f41 f42 f43 f44 f45 f46 f47 f48 f49 f50 f51 f52 f53 f54 f55 f56 f57 f58 f59 f60 f61 f62 f63 f64 f65 f66 f67 f68 f69 f70 f71 f72 f73 f74 f75 f76 f77 f78 f79 f80 f81 f82 f83 f84 f85 f86 f87 f88 f89 f90 f91 f92 f93 f94 f95 f96 f97 f98 f99 f100 f101 f102 f103 f104 f105 f106 f107 f108 f109 f110 f111 f112 f113 f114 f115 f116 f117 f118 f119 f120 f121 f122 f123 f124 f125 f126 f127 f128 f129 f130 f131 f132 f133 f134 f135 f136 f137 f138 f139 f140 f141 f142 f143 f144 f145 f146 f147 f148 f149 f150 : Value), K { tmps := #[f0, f1, f2, f3, f4, f5, f6, f7, f8, f9, f10, .pointer (some ⟨X, 0, none⟩), .int .i64 (k : Nat), .int .i64 (i : Nat), f14, f15, f16, f17, f18, f19, f20, f21, f22, f23, f24, f25, f26, f27, f28, f29, f30, f31, f32, f33, f34, f35, f36, f37, f38, f39, f40, f41, f42, f43, f44, f45, f46, f47, f48, f49, f50, f51, f52, f53, f54, f55, f56, f57, f58, f59, f60, f61, f62, f63, f64, f65, f66, f67, f68, f69, f70, f71, f72, f73, f74, f75, f76, f77, f78, f79, f80, f81, f82, f83, f84, f85, f86, f87, f88, f89, f90, f91, f92, f93, f94, f95, f96, f97, f98, f99, f100, f101, f102, f103, f104, f105, f106, f107, f108, f109, f110, f111, f112, f113, f114, f115, f116, f117, f118, f119, f120, f121, f122, f123, f124, f125, f126, f127, f128, f129, f130, f131, f132, f133, f134, f135, f136, f137, f138, f139, f140, f141, f142, f143, f144, f145, f146, f147, f148, f149, f150], defers := [] } W')
  (e0 e1 e2 e3 e4 e5 e6 e7 e8 e9 e10 e14 e15 e16 e17 e18 e19 e20 e21 e22 e23 e24 e25 e26 e27 e28 e29 e30 e31 e32 e33 e34 e35 e36 e37 e38 e39 e40 e41 e42 e43 e44 e45 e46 e47 e48 e49 e50 e51 e52 e53 e54 e55 e56 e57 e58 e59 e60 e61 e62 e63 e64 e65 e66 e67 e68 e69 e70 e71 e72 e73 e74 e75 e76 e77 e78 e79 e80 e81 e82 e83 e84 e85 e86 e87 e88 e89 e90 e91 e92 e93 e94 e95 e96 e97 e98 e99 e100 e101 e102 e103 e104 e105 e106 e107 e108 e109 e110 e111 e112 e113 e114 e115 e116 e117 e118 e119 e120 e121 e122 e123 e124 e125 e126 e127 e128 e129 e130 e131 e132 e133 e134 e135 e136 e137 e138 e139 e140 e141 e142 e143 e144 e145 e146 e147 e148 e149 e150 : Value) : reg7n13.wp Try.prog (Exit.then K (fun _ _ _ => False)) { tmps := #[e0, e1, e2, e3, e4, e5, e6, e7, e8, e9, e10, .pointer (some ⟨X, 0, none⟩), .int .i64 (k : Nat), .int .i64 (i : Nat), e14, e15, e16, e17, e18, e19, e20, e21, e22, e23, e24, e25, e26, e27, e28, e29, e30, e31, e32, e33, e34, e35, e36, e37, e38, e39, e40, e41, e42, e43, e44, e45, e46, e47, e48, e49, e50, e51, e52, e53, e54, e55, e56, e57, e58, e59, e60, e61, e62, e63, e64, e65, e66, e67, e68, e69, e70, e71, e72, e73, e74, e75, e76, e77, e78, e79, e80, e81, e82, e83, e84, e85, e86, e87, e88, e89, e90, e91, e92, e93, e94, e95, e96, e97, e98, e99, e100, e101, e102, e103, e104, e105, e106, e107, e108, e109, e110, e111, e112, e113, e114, e115, e116, e117, e118, e119, e120, e121, e122, e123, e124, e125, e126, e127, e128, e129, e130, e131, e132, e133, e134, e135, e136, e137, e138, e139, e140, e141, e142, e143, e144, e145, e146, e147, e148, e149, e150], defers := [] } W := by
 have c10 : W.drew.cell? ⟨X, 10, none⟩ = _ := cell_at hX 10 h10
 have hrow : RowV phCell W.drew g ps := hrow
 have hsh : Shape W.drew g 57 sz := hsh
 have hbd : ButOne g W W.drew := ButOne.of_below (Below.refl _ _).drew
 have a0 := hrow.get phCell_len (r := 0) hpi rfl
 have b0 := hrow.get phCell_len (r := 0) hpk rfl
 have a1 := hrow.get phCell_len (r := 1) hpi rfl
 have b1 := hrow.get phCell_len (r := 1) hpk rfl
 simp only [Nat.add_zero] at a0 b0
 have hS1 : W.drew.cell? ⟨g, i * 2, none⟩ = some (sv pi.name) ∧ W.drew.cell? ⟨g, i * 2 + 1, none⟩ = some (pi.val) ∧ W.drew.cell? ⟨g, k * 2, none⟩ = some (sv pk.name) ∧ W.drew.cell? ⟨g, k * 2 + 1, none⟩ = some (pk.val) := ⟨a0, a1, b0, b1⟩
 have hrow1 := putPh_row (p := pk) hrow (show i < ps.length by omega)
 have hrow2 := putPh_row (p := pi) hrow1 (show k < (ps.set i pk).length by rw [List.length_set]; omega)
 have hsh1 := putPh_shape (i := i) (p := pk) hsh
 have hb1 := putPh_but W.drew g i pk
 have hfin := hK _ hrow2 (hbd.trans (hb1.trans (putPh_but _ g k pi))) (putPh_shape hsh1)
 obtain ⟨q, hq⟩ : ∃ q, (ps.set i pk)[k]? = some q := ⟨_, List.getElem?_eq_getElem (by rw [List.length_set]; omega)⟩
 have d0 := hrow1.get phCell_len (r := 0) hq rfl
 have d1 := hrow1.get phCell_len (r := 1) hq rfl
 simp only [Nat.add_zero] at d0
 have z0 := hsh.free.free; have z1 := hsh1.free.free
 have hS2b := hb1.cell c10 (show X ≠ g from fun e => hgX e.symm)
 unfold Ph.val at hS1
 have hji : (i : Int) < ((k + 1 : Nat) : Int) := by omega
 have hki : (k : Int) < ((k + 1 : Nat) : Int) := by omega
 have HFIN := Lib.hid hfin
 have HD := Lib.hid (And.intro hS2b (And.intro z0 (And.intro z1 (And.intro d0 d1))))
 have HS1 := Lib.hid hS1
 clear hX h10 hl hbd hpi hpk hrow hsh hK hrow1 hrow2 hsh1 hb1 hfin hq hS2b z0 z1 hS1 a0 a1 b0 b1 d0 d1
 unfold reg7n13 then7n5 elem7n5 code7
 conv => arg 2; whnf
 refine wp_region_D 17 19 (fun V => V.cell? ⟨g, i * 2, none⟩ = some (sv pi.name) ∧ V.cell? ⟨g, i * 2 + 1, none⟩ = some (.slice pi.ia pi.its.len pi.ic) ∧ V.cell? ⟨g, k * 2, none⟩ = some (sv pk.name) ∧ V.cell? ⟨g, k * 2 + 1, none⟩ = some (.slice pk.ia pk.its.len pk.ic)) (fun V => V.cell? ⟨X, 10, none⟩ = some (.slice (some ⟨g, 0, none⟩) (k + 1) c1)) (by kernel_rfl) ?_
 have hS1 : W.drew.cell? ⟨g, i * 2, none⟩ = some (sv pi.name) ∧ W.drew.cell? ⟨g, i * 2 + 1, none⟩ = some (.slice pi.ia pi.its.len pi.ic) ∧ W.drew.cell? ⟨g, k * 2, none⟩ = some (sv pk.name) ∧ W.drew.cell? ⟨g, k * 2 + 1, none⟩ = some (.slice pk.ia pk.its.len pk.ic) := HS1.out
 have hS2 : W.drew.cell? ⟨X, 10, none⟩ = some (.slice (some ⟨g, 0, none⟩) (k + 1) c1) := c10
 clear c10
 generalize W.drew = Wd at *
 dsimp only
 refine wpAnyD_take2 [19] (i := 0) (oi := _) (v := .pointer (some ⟨X, 10, none⟩)) rfl (by kernel_rfl) (fun _ _ _ h => h) (Or.inl ⟨by kernel_rfl, fun V hb => by go_simp⟩) (fun _ => hS1) hS2 ?_
 try simp only [Act.put, List.getElem_toArray, List.getElem_cons_zero, List.getElem_cons_succ, List.setIfInBounds_toArray, List.set_cons_zero, List.set_cons_succ]
 refine wpAnyD_take2 [19] (i := 1) (oi := _) (v := .slice (some ⟨g, 0, none⟩) (k + 1) c1) rfl (by kernel_rfl) (fun _ _ _ h => h) (Or.inl ⟨by kernel_rfl, fun V hb => by have q0 : V.cell? ⟨X, 10, none⟩ = some (.slice (some ⟨g, 0, none⟩) (k + 1) c1) := hb; go_simp⟩) (fun _ => hS1) hS2 ?_
 try simp only [Act.put, List.getElem_toArray, List.getElem_cons_zero, List.getElem_cons_succ, List.setIfInBounds_toArray, List.set_cons_zero, List.set_cons_succ]
 refine wpAnyD_take2 [19] (i := 2) (oi := _) (v := .int .i64 (i : Nat)) rfl (by kernel_rfl) (fun _ _ _ h => h) (Or.inl ⟨by kernel_rfl, fun V hb => by go_simp⟩) (fun _ => hS1) hS2 ?_
 try simp only [Act.put, List.getElem_toArray, List.getElem_cons_zero, List.getElem_cons_succ, List.setIfInBounds_toArray, List.set_cons_zero, List.set_cons_succ]
 refine wpAnyD_take2 [19] (i := 3) (oi := _) (v := .pointer (some ⟨X, 10, none⟩)) rfl (by kernel_rfl) (fun _ _ _ h => h) (Or.inl ⟨by kernel_rfl, fun V hb => by go_simp⟩) (fun _ => hS1) hS2 ?_
 try simp only [Act.put, List.getElem_toArray, List.getElem_cons_zero, List.getElem_cons_succ, List.setIfInBounds_toArray, List.set_cons_zero, List.set_cons_succ]
 refine wpAnyD_take2 [19] (i := 4) (oi := _) (v := .slice (some ⟨g, 0, none⟩) (k + 1) c1) rfl (by kernel_rfl) (fun _ _ _ h => h) (Or.inl ⟨by kernel_rfl, fun V hb => by have q0 : V.cell? ⟨X, 10, none⟩ = some (.slice (some ⟨g, 0, none⟩) (k + 1) c1) := hb; go_simp⟩) (fun _ => hS1) hS2 ?_
 try simp only [Act.put, List.getElem_toArray, List.getElem_cons_zero, List.getElem_cons_succ, List.setIfInBounds_toArray, List.set_cons_zero, List.set_cons_succ]
 refine wpAnyD_take2 [19] (i := 5) (oi := _) (v := .int .i64 (k : Nat)) rfl (by kernel_rfl) (fun _ _ _ h => h) (Or.inl ⟨by kernel_rfl, fun V hb => by go_simp⟩) (fun _ => hS1) hS2 ?_
 try simp only [Act.put, List.getElem_toArray, List.getElem_cons_zero, List.getElem_cons_succ, List.setIfInBounds_toArray, List.set_cons_zero, List.set_cons_succ]
 refine wpAnyD_take2 [19] (i := 6) (oi := _) (v := .pointer (some ⟨X, 10, none⟩)) rfl (by kernel_rfl) (fun _ _ _ h => h) (Or.inl ⟨by kernel_rfl, fun V hb => by go_simp⟩) (fun _ => hS1) hS2 ?_
 try simp only [Act.put, List.getElem_toArray, List.getElem_cons_zero, List.getElem_cons_succ, List.setIfInBounds_toArray, List.set_cons_zero, List.set_cons_succ]
 refine wpAnyD_take2 [19] (i := 7) (oi := _) (v := .slice (some ⟨g, 0, none⟩) (k + 1) c1) rfl (by kernel_rfl) (fun _ _ _ h => h) (Or.inl ⟨by kernel_rfl, fun V hb => by have q0 : V.cell? ⟨X, 10, none⟩ = some (.slice (some ⟨g, 0, none⟩) (k + 1) c1) := hb; go_simp⟩) (fun _ => hS1) hS2 ?_
 try simp only [Act.put, List.getElem_toArray, List.getElem_cons_zero, List.getElem_cons_succ, List.setIfInBounds_toArray, List.set_cons_zero, List.set_cons_succ]
 refine wpAnyD_take2 [19] (i := 8) (oi := _) (v := .int .i64 (k : Nat)) rfl (by kernel_rfl) (fun _ _ _ h => h) (Or.inl ⟨by kernel_rfl, fun V hb => by go_simp⟩) (fun _ => hS1) hS2 ?_
 try simp only [Act.put, List.getElem_toArray, List.getElem_cons_zero, List.getElem_cons_succ, List.setIfInBounds_toArray, List.set_cons_zero, List.set_cons_succ]
 refine wpAnyD_take2 [19] (i := 9) (oi := _) (v := .pointer (some ⟨g, k * 2, none⟩)) rfl (by kernel_rfl) (fun _ _ _ h => h) (Or.inl ⟨by kernel_rfl, fun V hb => by have q0 : ¬ ((k : Int) + 1 ≤ (k : Int)) := (by omega); go_simp⟩) (fun _ => hS1) hS2 ?_
 try simp only [Act.put, List.getElem_toArray, List.getElem_cons_zero, List.getElem_cons_succ, List.setIfInBounds_toArray, List.set_cons_zero, List.set_cons_succ]
 refine wpAnyD_take1 [17] (i := 10) (oi := _) (v := .agg #[sv pk.name, .slice pk.ia pk.its.len pk.ic]) rfl (by kernel_rfl) (fun _ _ _ h => h) (Or.inl ⟨by kernel_rfl, fun V hb => by obtain ⟨a0, a1, b0, b1⟩ := hb; go_simp⟩) hS1 (fun _ => hS2) ?_
 try simp only [Act.put, List.getElem_toArray, List.getElem_cons_zero, List.getElem_cons_succ, List.setIfInBounds_toArray, List.set_cons_zero, List.set_cons_succ]
 refine wpAnyD_take2 [19] (i := 11) (oi := _) (v := .pointer (some ⟨X, 10, none⟩)) rfl (by kernel_rfl) (fun _ _ _ h => h) (Or.inl ⟨by kernel_rfl, fun V hb => by go_simp⟩) (fun _ => hS1) hS2 ?_
 try simp only [Act.put, List.getElem_toArray, List.getElem_cons_zero, List.getElem_cons_succ, List.setIfInBounds_toArray, List.set_cons_zero, List.set_cons_succ]
 refine wpAnyD_take2 [19] (i := 12) (oi := _) (v := .slice (some ⟨g, 0, none⟩) (k + 1) c1) rfl (by kernel_rfl) (fun _ _ _ h => h) (Or.inl ⟨by kernel_rfl, fun V hb => by have q0 : V.cell? ⟨X, 10, none⟩ = some (.slice (some ⟨g, 0, none⟩) (k + 1) c1) := hb; go_simp⟩) (fun _ => hS1) hS2 ?_
 try simp only [Act.put, List.getElem_toArray, List.getElem_cons_zero, List.getElem_cons_succ, List.setIfInBounds_toArray, List.set_cons_zero, List.set_cons_succ]
 refine wpAnyD_take2 [19] (i := 13) (oi := _) (v := .int .i64 (i : Nat)) rfl (by kernel_rfl) (fun _ _ _ h => h) (Or.inl ⟨by kernel_rfl, fun V hb => by go_simp⟩) (fun _ => hS1) hS2 ?_
 try simp only [Act.put, List.getElem_toArray, List.getElem_cons_zero, List.getElem_cons_succ, List.setIfInBounds_toArray, List.set_cons_zero, List.set_cons_succ]
 refine wpAnyD_take2 [19] (i := 14) (oi := _) (v := .pointer (some ⟨g, i * 2, none⟩)) rfl (by kernel_rfl) (fun _ _ _ h => h) (Or.inl ⟨by kernel_rfl, fun V hb => by have q0 : ¬ ((k : Int) + 1 ≤ (i : Int)) := (by omega); go_simp⟩) (fun _ => hS1) hS2 ?_
 try simp only [Act.put, List.getElem_toArray, List.getElem_cons_zero, List.getElem_cons_succ, List.setIfInBounds_toArray, List.set_cons_zero, List.set_cons_succ]
 refine wpAnyD_take1 [17] (i := 15) (oi := _) (v := .agg #[sv pi.name, .slice pi.ia pi.its.len pi.ic]) rfl (by kernel_rfl) (fun _ _ _ h => h) (Or.inl ⟨by kernel_rfl, fun V hb => by obtain ⟨a0, a1, b0, b1⟩ := hb; go_simp⟩) hS1 (fun _ => hS2) ?_
 try simp only [Act.put, List.getElem_toArray, List.getElem_cons_zero, List.getElem_cons_succ, List.setIfInBounds_toArray, List.set_cons_zero, List.set_cons_succ]
 refine wpAnyD_take2 [19] (i := 16) (oi := _) (v := .pointer (some ⟨g, i * 2, none⟩)) rfl (by kernel_rfl) (fun _ _ _ h => h) (Or.inl ⟨by kernel_rfl, fun V hb => by have q0 : ¬ ((k : Int) + 1 ≤ (i : Int)) := (by omega); go_simp⟩) (fun _ => hS1) hS2 ?_
 try simp only [Act.put, List.getElem_toArray, List.getElem_cons_zero, List.getElem_cons_succ, List.setIfInBounds_toArray, List.set_cons_zero, List.set_cons_succ]
 refine wpAnyD_one (i := 17) (by kernel_rfl) rfl (fun K1 hK => ?_)
 have HK := Lib.hid hK
 clear hK
 obtain ⟨a0, a1, b0, b1⟩ := HS1.out
 have f0 := HD.out.2.1
 have a0 : Wd.cell? ⟨g, i * 2, none⟩ = some (sv pi.name) := a0
 have a1 : Wd.cell? ⟨g, i * 2 + 1, none⟩ = some (.slice pi.ia pi.its.len pi.ic) := a1
 have f0 : ∀ q, Wd.frozen? ⟨g, q, none⟩ = false := f0
 clear b0 b1
 go_simp
 have hS2b : (((Wd).setCell ⟨g, i * 2, none⟩ (sv pk.name)).setCell ⟨g, i * 2 + 1, none⟩ (.slice pk.ia pk.its.len pk.ic)).cell? ⟨X, 10, none⟩ = some (.slice (some ⟨g, 0, none⟩) (k + 1) c1) := HD.out.1
 have e0 := HD.out.2.2.1
 clear f0 a0 a1
 refine HK.out _ _ (fun h => absurd (show true = false from h) (by decide)) (fun _ => hS2b) ?_
 try simp only [Act.put, List.getElem_toArray, List.getElem_cons_zero, List.getElem_cons_succ, List.setIfInBounds_toArray, List.set_cons_zero, List.set_cons_succ]
 clear HK K1
 refine wpAnyD_take2 [19] (i := 18) (oi := _) (v := .pointer (some ⟨g, k * 2, none⟩)) rfl (by kernel_rfl) (fun _ _ _ h => h) (Or.inl ⟨by kernel_rfl, fun V hb => by have q0 : ¬ ((k : Int) + 1 ≤ (k : Int)) := (by omega); go_simp⟩) (fun h => absurd (show true = false from h) (by decide)) hS2b ?_
 try simp only [Act.put, List.getElem_toArray, List.getElem_cons_zero, List.getElem_cons_succ, List.setIfInBounds_toArray, List.set_cons_zero, List.set_cons_succ]
 refine wpAnyD_one (i := 19) (by kernel_rfl) rfl (fun K1 hK => ?_)
 have HK := Lib.hid hK
 clear hK
 have e0 : ∀ q, (((Wd).setCell ⟨g, i * 2, none⟩ (sv pk.name)).setCell ⟨g, i * 2 + 1, none⟩ (.slice pk.ia pk.its.len pk.ic)).frozen? ⟨g, q, none⟩ = false := HD.out.2.2.1
 have d0 : (((Wd).setCell ⟨g, i * 2, none⟩ (sv pk.name)).setCell ⟨g, i * 2 + 1, none⟩ (.slice pk.ia pk.its.len pk.ic)).cell? ⟨g, k * 2, none⟩ = _ := HD.out.2.2.2.1
 have d1 : (((Wd).setCell ⟨g, i * 2, none⟩ (sv pk.name)).setCell ⟨g, i * 2 + 1, none⟩ (.slice pk.ia pk.its.len pk.ic)).cell? ⟨g, k * 2 + 1, none⟩ = _ := HD.out.2.2.2.2
 obtain ⟨w17, hw17⟩ : ∃ w17, ((Wd).setCell ⟨g, i * 2, none⟩ (sv pk.name)).setCell ⟨g, i * 2 + 1, none⟩ (.slice pk.ia pk.its.len pk.ic) = w17 := ⟨_, rfl⟩
 rw [hw17] at d0 d1 e0 hS2b ⊢
 have HW := Lib.hid hw17
 clear hw17
 go_simp
 rw [← HW.out]
 clear e0 d0 d1
 refine HK.out _ _ (fun h => absurd (show true = false from h) (by decide)) (fun h => absurd (show true = false from h) (by decide)) ?_
 try simp only [Act.put, List.getElem_toArray, List.getElem_cons_zero, List.getElem_cons_succ, List.setIfInBounds_toArray, List.set_cons_zero, List.set_cons_succ]
 clear HK K1
 refine wpAnyD_done (by kernel_rfl) ?_ _
 exact HFIN.out _ _ _ _ _ _ _ _ _ _ _ _ _ _ _ _ _ _ _ _ _ _ _ _ _ _ _ _ _ _ _ _ _ _ _ _ _ _ _ _ _ _ _ _ _ _ _ _ _ _ _ _ _ _ _ _ _ _ _ _ _ _ _ _ _ _ _ _ _ _ _ _ _ _ _ _ _ _ _ _ _ _ _ _ _ _ _ _ _ _ _ _ _ _ _ _ _ _ _ _ _ _ _ _ _ _ _ _ _ _ _ _ _ _ _ _ _ _ _ _ _ _ _ _ _ _ _ _ _ _ _ _ _ _ _ _ _ _ _ _ _ _ _ _ _ _ _ _
set_option maxRecDepth 100000 in
set_option maxHeartbeats 16000000 in
theorem tw_r20 (X g i k c1 sz : Nat) (cs : Array Value) (ps : List Rol) (pi pk : Rol) (W : World) (hX : W.heap[X]? = some (.cells cs 30 (0, 0))) (h10 : cs[6]? = some (.slice (some ⟨g, 0, none⟩) (k + 1) c1)) (hgX : g ≠ X) (hk : k < 64) (hi : i < k + 1) (hl : ps.length = k + 1) (hpi : ps[i]? = some pi) (hpk : ps[k]? = some pk) (hrow : RowV encR W g ps) (hsh : Shape W g 59 sz) (K : Act → World → Prop)
  (hK : ∀ W', RowV encR W' g ((ps.set i pk).set k pi) → ButOne g W W' → Shape W' g 59 sz → ∀ (f0 f1 f2 f3 f4 f5 f6 f7 f8 f9 f10 f12 f13 f14 f15 f18 f19 f20 f21 f22 f23 f24 f25 f26 f27 f28 f29 f30 f31 f32 f33 f34 f35 f36 f37 f38 f39 f40 f41 f42 f43 f44 f45 f46 f47 f48 f49 f50 f51 f52 f53 f54 f55 f56 f57 f58 f59 f60 f61 f62 f63 f64 f65 f66 f67 f68 f69 f70 f71 f72 f73 f74 f75 f76 f77 f78 f79 f80 f81 f82 f83 f84 f85 f86 f87 f88 f89 f90 f91 f92 f93 f94 f95 f96 f97 f98 f99 f100 f101 f102 f103 f104 f105 f106 f107 f108 f109 f110 f111 f112 f113 f114 f115 f116 f117 f118 f119 f120 f121 f122 f123 f124 f125 f126 f127 f128 f129 f130 f131 f132 f133 f134 f135 f136 f137 f138 f139 f140 f141 f142 f143 f144 f145 f146 f147 f148 f149 f150 : Value), K { tmps := #[f0, f1, f2, f3, f4, f5, f6, f7, f8, f9, f10, .pointer (some ⟨X, 0, none⟩), f12, f13, f14, f15, .int .i64 (k : Nat), .int .i64 (i : Nat), f18, f19, f20, f21, f22, f23, f24, f25, f26, f27, f28, f29, f30, f31, f32, f33, f34, f35, f36, f37, f38, f39, f40, f41, f42, f43, f44, f45, f46, f47, f48, f49, f50, f51, f52, f53, f54, f55, f56, f57, f58, f59, f60, f61, f62, f63, f64, f65, f66, f67, f68, f69, f70, f71, f72, f73, f74, f75, f76, f77, f78, f79, f80, f81, f82, f83, f84, f85, f86, f87, f88, f89, f90, f91, f92, f93, f94, f95, f96, f97, f98, f99, f100, f101, f102, f103, f104, f105, f106, f107, f108, f109, f110, f111, f112, f113, f114, f115, f116, f117, f118, f119, f120, f121, f122, f123, f124, f125, f126, f127, f128, f129, f130, f131, f132, f133, f134, f135, f136, f137, f138, f139, f140, f141, f142, f143, f144, f145, f146, f147, f148, f149, f150], defers := [] } W')
  (e0 e1 e2 e3 e4 e5 e6 e7 e8 e9 e10 e12 e13 e14 e15 e18 e19 e20 e21 e22 e23 e24 e25 e26 e27 e28 e29 e30 e31 e32 e33 e34 e35 e36 e37 e38 e39 e40 e41 e42 e43 e44 e45 e46 e47 e48 e49 e50 e51 e52 e53 e54 e55 e56 e57 e58 e59 e60 e61 e62 e63 e64 e65 e66 e67 e68 e69 e70 e71 e72 e73 e74 e75 e76 e77 e78 e79 e80 e81 e82 e83 e84 e85 e86 e87 e88 e89 e90 e91 e92 e93 e94 e95 e96 e97 e98 e99 e100 e101 e102 e103 e104 e105 e106 e107 e108 e109 e110 e111 e112 e113 e114 e115 e116 e117 e118 e119 e120 e121 e122 e123 e124 e125 e126 e127 e128 e129 e130 e131 e132 e133 e134 e135 e136 e137 e138 e139 e140 e141 e142 e143 e144 e145 e146 e147 e148 e149 e150 : Value) : reg7n20.wp Try.prog (Exit.then K (fun _ _ _ => False)) { tmps := #[e0, e1, e2, e3, e4, e5, e6, e7, e8, e9, e10, .pointer (some ⟨X, 0, none⟩), e12, e13, e14, e15, .int .i64 (k : Nat), .int .i64 (i : Nat), e18, e19, e20, e21, e22, e23, e24, e25, e26, e27, e28, e29, e30, e31, e32, e33, e34, e35, e36, e37, e38, e39, e40, e41, e42, e43, e44, e45, e46, e47, e48, e49, e50, e51, e52, e53, e54, e55, e56, e57, e58, e59, e60, e61, e62, e63, e64, e65, e66, e67, e68, e69, e70, e71, e72, e73, e74, e75, e76, e77, e78, e79, e80, e81, e82, e83, e84, e85, e86, e87, e88, e89, e90, e91, e92, e93, e94, e95, e96, e97, e98, e99, e100, e101, e102, e103, e104, e105, e106, e107, e108, e109, e110, e111, e112, e113, e114, e115, e116, e117, e118, e119, e120, e121, e122, e123, e124, e125, e126, e127, e128, e129, e130, e131, e132, e133, e134, e135, e136, e137, e138, e139, e140, e141, e142, e143, e144, e145, e146, e147, e148, e149, e150], defers := [] } W := by
 have c10 : W.drew.cell? ⟨X, 6, none⟩ = _ := cell_at hX 6 h10
 have hrow : RowV encR W.drew g ps := hrow
 have hsh : Shape W.drew g 59 sz := hsh
 have hbd : ButOne g W W.drew := ButOne.of_below (Below.refl _ _).drew
 have a0 := hrow.get encR_len (r := 0) hpi rfl
 have b0 := hrow.get encR_len (r := 0) hpk rfl
 have a1 := hrow.get encR_len (r := 1) hpi rfl
 have b1 := hrow.get encR_len (r := 1) hpk rfl
 have a2 := hrow.get encR_len (r := 2) hpi rfl
 have b2 := hrow.get encR_len (r := 2) hpk rfl
 have a3 := hrow.get encR_len (r := 3) hpi rfl
 have b3 := hrow.get encR_len (r := 3) hpk rfl
 simp only [Nat.add_zero] at a0 b0
 have hS1 : W.drew.cell? ⟨g, i * 4, none⟩ = some (sv pi.name) ∧ W.drew.cell? ⟨g, i * 4 + 1, none⟩ = some (.int .i64 pi.x) ∧ W.drew.cell? ⟨g, i * 4 + 2, none⟩ = some (.int .i64 pi.y) ∧ W.drew.cell? ⟨g, i * 4 + 3, none⟩ = some (.int .i64 pi.face) ∧ W.drew.cell? ⟨g, k * 4, none⟩ = some (sv pk.name) ∧ W.drew.cell? ⟨g, k * 4 + 1, none⟩ = some (.int .i64 pk.x) ∧ W.drew.cell? ⟨g, k * 4 + 2, none⟩ = some (.int .i64 pk.y) ∧ W.drew.cell? ⟨g, k * 4 + 3, none⟩ = some (.int .i64 pk.face) := ⟨a0, a1, a2, a3, b0, b1, b2, b3⟩
 have hrow1 := putRol_row (p := pk) hrow (show i < ps.length by omega)
 have hrow2 := putRol_row (p := pi) hrow1 (show k < (ps.set i pk).length by rw [List.length_set]; omega)
 have hsh1 := putRol_shape (i := i) (p := pk) hsh
 have hb1 := putRol_but W.drew g i pk
 have hfin := hK _ hrow2 (hbd.trans (hb1.trans (putRol_but _ g k pi))) (putRol_shape hsh1)
 obtain ⟨q, hq⟩ : ∃ q, (ps.set i pk)[k]? = some q := ⟨_, List.getElem?_eq_getElem (by rw [List.length_set]; omega)⟩
 have d0 := hrow1.get encR_len (r := 0) hq rfl
 have d1 := hrow1.get encR_len (r := 1) hq rfl
 have d2 := hrow1.get encR_len (r := 2) hq rfl
 have d3 := hrow1.get encR_len (r := 3) hq rfl
 simp only [Nat.add_zero] at d0
 have z0 := hsh.free.free; have z1 := hsh1.free.free
 have hS2b := hb1.cell c10 (show X ≠ g from fun e => hgX e.symm)
 have hji : (i : Int) < ((k + 1 : Nat) : Int) := by omega
 have hki : (k : Int) < ((k + 1 : Nat) : Int) := by omega
 have HFIN := Lib.hid hfin
 have HD := Lib.hid (And.intro hS2b (And.intro z0 (And.intro z1 (And.intro d0 (And.intro d1 (And.intro d2 d3))))))
 have HS1 := Lib.hid hS1
 clear hX h10 hl hbd hpi hpk hrow hsh hK hrow1 hrow2 hsh1 hb1 hfin hq hS2b z0 z1 hS1 a0 a1 a2 a3 b0 b1 b2 b3 d0 d1 d2 d3
 unfold reg7n20 then7n6 elem7n6 code7
 conv => arg 2; whnf
 refine wp_region_D 17 19 (fun V => V.cell? ⟨g, i * 4, none⟩ = some (sv pi.name) ∧ V.cell? ⟨g, i * 4 + 1, none⟩ = some (.int .i64 pi.x) ∧ V.cell? ⟨g, i * 4 + 2, none⟩ = some (.int .i64 pi.y) ∧ V.cell? ⟨g, i * 4 + 3, none⟩ = some (.int .i64 pi.face) ∧ V.cell? ⟨g, k * 4, none⟩ = some (sv pk.name) ∧ V.cell? ⟨g, k * 4 + 1, none⟩ = some (.int .i64 pk.x) ∧ V.cell? ⟨g, k * 4 + 2, none⟩ = some (.int .i64 pk.y) ∧ V.cell? ⟨g, k * 4 + 3, none⟩ = some (.int .i64 pk.face)) (fun V => V.cell? ⟨X, 6, none⟩ = some (.slice (some ⟨g, 0, none⟩) (k + 1) c1)) (by kernel_rfl) ?_
 have hS1 : W.drew.cell? ⟨g, i * 4, none⟩ = some (sv pi.name) ∧ W.drew.cell? ⟨g, i * 4 + 1, none⟩ = some (.int .i64 pi.x) ∧ W.drew.cell? ⟨g, i * 4 + 2, none⟩ = some (.int .i64 pi.y) ∧ W.drew.cell? ⟨g, i * 4 + 3, none⟩ = some (.int .i64 pi.face) ∧ W.drew.cell? ⟨g, k * 4, none⟩ = some (sv pk.name) ∧ W.drew.cell? ⟨g, k * 4 + 1, none⟩ = some (.int .i64 pk.x) ∧ W.drew.cell? ⟨g, k * 4 + 2, none⟩ = some (.int .i64 pk.y) ∧ W.drew.cell? ⟨g, k * 4 + 3, none⟩ = some (.int .i64 pk.face) := HS1.out
 have hS2 : W.drew.cell? ⟨X, 6, none⟩ = some (.slice (some ⟨g, 0, none⟩) (k + 1) c1) := c10
 clear c10
 generalize W.drew = Wd at *
 dsimp only
 refine wpAnyD_take2 [19] (i := 0) (oi := _) (v := .pointer (some ⟨X, 6, none⟩)) rfl (by kernel_rfl) (fun _ _ _ h => h) (Or.inl ⟨by kernel_rfl, fun V hb => by go_simp⟩) (fun _ => hS1) hS2 ?_
 try simp only [Act.put, List.getElem_toArray, List.getElem_cons_zero, List.getElem_cons_succ, List.setIfInBounds_toArray, List.set_cons_zero, List.set_cons_succ]
 refine wpAnyD_take2 [19] (i := 1) (oi := _) (v := .slice (some ⟨g, 0, none⟩) (k + 1) c1) rfl (by kernel_rfl) (fun _ _ _ h => h) (Or.inl ⟨by kernel_rfl, fun V hb => by have q0 : V.cell? ⟨X, 6, none⟩ = some (.slice (some ⟨g, 0, none⟩) (k + 1) c1) := hb; go_simp⟩) (fun _ => hS1) hS2 ?_
 try simp only [Act.put, List.getElem_toArray, List.getElem_cons_zero, List.getElem_cons_succ, List.setIfInBounds_toArray, List.set_cons_zero, List.set_cons_succ]
 refine wpAnyD_take2 [19] (i := 2) (oi := _) (v := .int .i64 (i : Nat)) rfl (by kernel_rfl) (fun _ _ _ h => h) (Or.inl ⟨by kernel_rfl, fun V hb => by go_simp⟩) (fun _ => hS1) hS2 ?_
 try simp only [Act.put, List.getElem_toArray, List.getElem_cons_zero, List.getElem_cons_succ, List.setIfInBounds_toArray, List.set_cons_zero, List.set_cons_succ]
 refine wpAnyD_take2 [19] (i := 3) (oi := _) (v := .pointer (some ⟨X, 6, none⟩)) rfl (by kernel_rfl) (fun _ _ _ h => h) (Or.inl ⟨by kernel_rfl, fun V hb => by go_simp⟩) (fun _ => hS1) hS2 ?_
 try simp only [Act.put, List.getElem_toArray, List.getElem_cons_zero, List.getElem_cons_succ, List.setIfInBounds_toArray, List.set_cons_zero, List.set_cons_succ]
 refine wpAnyD_take2 [19] (i := 4) (oi := _) (v := .slice (some ⟨g, 0, none⟩) (k + 1) c1) rfl (by kernel_rfl) (fun _ _ _ h => h) (Or.inl ⟨by kernel_rfl, fun V hb => by have q0 : V.cell? ⟨X, 6, none⟩ = some (.slice (some ⟨g, 0, none⟩) (k + 1) c1) := hb; go_simp⟩) (fun _ => hS1) hS2 ?_
 try simp only [Act.put, List.getElem_toArray, List.getElem_cons_zero, List.getElem_cons_succ, List.setIfInBounds_toArray, List.set_cons_zero, List.set_cons_succ]
 refine wpAnyD_take2 [19] (i := 5) (oi := _) (v := .int .i64 (k : Nat)) rfl (by kernel_rfl) (fun _ _ _ h => h) (Or.inl ⟨by kernel_rfl, fun V hb => by go_simp⟩) (fun _ => hS1) hS2 ?_
 try simp only [Act.put, List.getElem_toArray, List.getElem_cons_zero, List.getElem_cons_succ, List.setIfInBounds_toArray, List.set_cons_zero, List.set_cons_succ]
 refine wpAnyD_take2 [19] (i := 6) (oi := _) (v := .pointer (some ⟨X, 6, none⟩)) rfl (by kernel_rfl) (fun _ _ _ h => h) (Or.inl ⟨by kernel_rfl, fun V hb => by go_simp⟩) (fun _ => hS1) hS2 ?_
 try simp only [Act.put, List.getElem_toArray, List.getElem_cons_zero, List.getElem_cons_succ, List.setIfInBounds_toArray, List.set_cons_zero, List.set_cons_succ]
 refine wpAnyD_take2 [19] (i := 7) (oi := _) (v := .slice (some ⟨g, 0, none⟩) (k + 1) c1) rfl (by kernel_rfl) (fun _ _ _ h => h) (Or.inl ⟨by kernel_rfl, fun V hb => by have q0 : V.cell? ⟨X, 6, none⟩ = some (.slice (some ⟨g, 0, none⟩) (k + 1) c1) := hb; go_simp⟩) (fun _ => hS1) hS2 ?_
 try simp only [Act.put, List.getElem_toArray, List.getElem_cons_zero, List.getElem_cons_succ, List.setIfInBounds_toArray, List.set_cons_zero, List.set_cons_succ]
 refine wpAnyD_take2 [19] (i := 8) (oi := _) (v := .int .i64 (k : Nat)) rfl (by kernel_rfl) (fun _ _ _ h => h) (Or.inl ⟨by kernel_rfl, fun V hb => by go_simp⟩) (fun _ => hS1) hS2 ?_
 try simp only [Act.put, List.getElem_toArray, List.getElem_cons_zero, List.getElem_cons_succ, List.setIfInBounds_toArray, List.set_cons_zero, List.set_cons_succ]
 refine wpAnyD_take2 [19] (i := 9) (oi := _) (v := .pointer (some ⟨g, k * 4, none⟩)) rfl (by kernel_rfl) (fun _ _ _ h => h) (Or.inl ⟨by kernel_rfl, fun V hb => by have q0 : ¬ ((k : Int) + 1 ≤ (k : Int)) := (by omega); go_simp⟩) (fun _ => hS1) hS2 ?_
 try simp only [Act.put, List.getElem_toArray, List.getElem_cons_zero, List.getElem_cons_succ, List.setIfInBounds_toArray, List.set_cons_zero, List.set_cons_succ]
 refine wpAnyD_take1 [17] (i := 10) (oi := _) (v := .agg #[sv pk.name, .int .i64 pk.x, .int .i64 pk.y, .int .i64 pk.face]) rfl (by kernel_rfl) (fun _ _ _ h => h) (Or.inl ⟨by kernel_rfl, fun V hb => by obtain ⟨a0, a1, a2, a3, b0, b1, b2, b3⟩ := hb; go_simp⟩) hS1 (fun _ => hS2) ?_
 try simp only [Act.put, List.getElem_toArray, List.getElem_cons_zero, List.getElem_cons_succ, List.setIfInBounds_toArray, List.set_cons_zero, List.set_cons_succ]
 refine wpAnyD_take2 [19] (i := 11) (oi := _) (v := .pointer (some ⟨X, 6, none⟩)) rfl (by kernel_rfl) (fun _ _ _ h => h) (Or.inl ⟨by kernel_rfl, fun V hb => by go_simp⟩) (fun _ => hS1) hS2 ?_
 try simp only [Act.put, List.getElem_toArray, List.getElem_cons_zero, List.getElem_cons_succ, List.setIfInBounds_toArray, List.set_cons_zero, List.set_cons_succ]
 refine wpAnyD_take2 [19] (i := 12) (oi := _) (v := .slice (some ⟨g, 0, none⟩) (k + 1) c1) rfl (by kernel_rfl) (fun _ _ _ h => h) (Or.inl ⟨by kernel_rfl, fun V hb => by have q0 : V.cell? ⟨X, 6, none⟩ = some (.slice (some ⟨g, 0, none⟩) (k + 1) c1) := hb; go_simp⟩) (fun _ => hS1) hS2 ?_
 try simp only [Act.put, List.getElem_toArray, List.getElem_cons_zero, List.getElem_cons_succ, List.setIfInBounds_toArray, List.set_cons_zero, List.set_cons_succ]
 refine wpAnyD_take2 [19] (i := 13) (oi := _) (v := .int .i64 (i : Nat)) rfl (by kernel_rfl) (fun _ _ _ h => h) (Or.inl ⟨by kernel_rfl, fun V hb => by go_simp⟩) (fun _ => hS1) hS2 ?_
 try simp only [Act.put, List.getElem_toArray, List.getElem_cons_zero, List.getElem_cons_succ, List.setIfInBounds_toArray, List.set_cons_zero, List.set_cons_succ]
 refine wpAnyD_take2 [19] (i := 14) (oi := _) (v := .pointer (some ⟨g, i * 4, none⟩)) rfl (by kernel_rfl) (fun _ _ _ h => h) (Or.inl ⟨by kernel_rfl, fun V hb => by have q0 : ¬ ((k : Int) + 1 ≤ (i : Int)) := (by omega); go_simp⟩) (fun _ => hS1) hS2 ?_
 try simp only [Act.put, List.getElem_toArray, List.getElem_cons_zero, List.getElem_cons_succ, List.setIfInBounds_toArray, List.set_cons_zero, List.set_cons_succ]
 refine wpAnyD_take1 [17] (i := 15) (oi := _) (v := .agg #[sv pi.name, .int .i64 pi.x, .int .i64 pi.y, .int .i64 pi.face]) rfl (by kernel_rfl) (fun _ _ _ h => h) (Or.inl ⟨by kernel_rfl, fun V hb => by obtain ⟨a0, a1, a2, a3, b0, b1, b2, b3⟩ := hb; go_simp⟩) hS1 (fun _ => hS2) ?_
 try simp only [Act.put, List.getElem_toArray, List.getElem_cons_zero, List.getElem_cons_succ, List.setIfInBounds_toArray, List.set_cons_zero, List.set_cons_succ]
 refine wpAnyD_take2 [19] (i := 16) (oi := _) (v := .pointer (some ⟨g, i * 4, none⟩)) rfl (by kernel_rfl) (fun _ _ _ h => h) (Or.inl ⟨by kernel_rfl, fun V hb => by have q0 : ¬ ((k : Int) + 1 ≤ (i : Int)) := (by omega); go_simp⟩) (fun _ => hS1) hS2 ?_
 try simp only [Act.put, List.getElem_toArray, List.getElem_cons_zero, List.getElem_cons_succ, List.setIfInBounds_toArray, List.set_cons_zero, List.set_cons_succ]
 refine wpAnyD_one (i := 17) (by kernel_rfl) rfl (fun K1 hK => ?_)
 have HK := Lib.hid hK
 clear hK
 obtain ⟨a0, a1, a2, a3, b0, b1, b2, b3⟩ := HS1.out
 have f0 := HD.out.2.1
 have a0 : Wd.cell? ⟨g, i * 4, none⟩ = some (sv pi.name) := a0
 have a1 : Wd.cell? ⟨g, i * 4 + 1, none⟩ = some (.int .i64 pi.x) := a1
 have a2 : Wd.cell? ⟨g, i * 4 + 2, none⟩ = some (.int .i64 pi.y) := a2
 have a3 : Wd.cell? ⟨g, i * 4 + 3, none⟩ = some (.int .i64 pi.face) := a3
 have f0 : ∀ q, Wd.frozen? ⟨g, q, none⟩ = false := f0
 clear b0 b1 b2 b3
 go_simp
 have hS2b : (((((Wd).setCell ⟨g, i * 4, none⟩ (sv pk.name)).setCell ⟨g, i * 4 + 1, none⟩ (.int .i64 pk.x)).setCell ⟨g, i * 4 + 2, none⟩ (.int .i64 pk.y)).setCell ⟨g, i * 4 + 3, none⟩ (.int .i64 pk.face)).cell? ⟨X, 6, none⟩ = some (.slice (some ⟨g, 0, none⟩) (k + 1) c1) := HD.out.1
 have e0 := HD.out.2.2.1
 clear f0 a0 a1 a2 a3
 refine HK.out _ _ (fun h => absurd (show true = false from h) (by decide)) (fun _ => hS2b) ?_
 try simp only [Act.put, List.getElem_toArray, List.getElem_cons_zero, List.getElem_cons_succ, List.setIfInBounds_toArray, List.set_cons_zero, List.set_cons_succ]
 clear HK K1
 refine wpAnyD_take2 [19] (i := 18) (oi := _) (v := .pointer (some ⟨g, k * 4, none⟩)) rfl (by kernel_rfl) (fun _ _ _ h => h) (Or.inl ⟨by kernel_rfl, fun V hb => by have q0 : ¬ ((k : Int) + 1 ≤ (k : Int)) := (by omega); go_simp⟩) (fun h => absurd (show true = false from h) (by decide)) hS2b ?_
 try simp only [Act.put, List.getElem_toArray, List.getElem_cons_zero, List.getElem_cons_succ, List.setIfInBounds_toArray, List.set_cons_zero, List.set_cons_succ]
 refine wpAnyD_one (i := 19) (by kernel_rfl) rfl (fun K1 hK => ?_)
 have HK := Lib.hid hK
 clear hK
 have e0 : ∀ q, (((((Wd).setCell ⟨g, i * 4, none⟩ (sv pk.name)).setCell ⟨g, i * 4 + 1, none⟩ (.int .i64 pk.x)).setCell ⟨g, i * 4 + 2, none⟩ (.int .i64 pk.y)).setCell ⟨g, i * 4 + 3, none⟩ (.int .i64 pk.face)).frozen? ⟨g, q, none⟩ = false := HD.out.2.2.1
 have d0 : (((((Wd).setCell ⟨g, i * 4, none⟩ (sv pk.name)).setCell ⟨g, i * 4 + 1, none⟩ (.int .i64 pk.x)).setCell ⟨g, i * 4 + 2, none⟩ (.int .i64 pk.y)).setCell ⟨g, i * 4 + 3, none⟩ (.int .i64 pk.face)).cell? ⟨g, k * 4, none⟩ = _ := HD.out.2.2.2.1
 have d1 : (((((Wd).setCell ⟨g, i * 4, none⟩ (sv pk.name)).setCell ⟨g, i * 4 + 1, none⟩ (.int .i64 pk.x)).setCell ⟨g, i * 4 + 2, none⟩ (.int .i64 pk.y)).setCell ⟨g, i * 4 + 3, none⟩ (.int .i64 pk.face)).cell? ⟨g, k * 4 + 1, none⟩ = _ := HD.out.2.2.2.2.1
 have d2 : (((((Wd).setCell ⟨g, i * 4, none⟩ (sv pk.name)).setCell ⟨g, i * 4 + 1, none⟩ (.int .i64 pk.x)).setCell ⟨g, i * 4 + 2, none⟩ (.int .i64 pk.y)).setCell ⟨g, i * 4 + 3, none⟩ (.int .i64 pk.face)).cell? ⟨g, k * 4 + 2, none⟩ = _ := HD.out.2.2.2.2.2.1
 have d3 : (((((Wd).setCell ⟨g, i * 4, none⟩ (sv pk.name)).setCell ⟨g, i * 4 + 1, none⟩ (.int .i64 pk.x)).setCell ⟨g, i * 4 + 2, none⟩ (.int .i64 pk.y)).setCell ⟨g, i * 4 + 3, none⟩ (.int .i64 pk.face)).cell? ⟨g, k * 4 + 3, none⟩ = _ := HD.out.2.2.2.2.2.2
 obtain ⟨w17, hw17⟩ : ∃ w17, ((((Wd).setCell ⟨g, i * 4, none⟩ (sv pk.name)).setCell ⟨g, i * 4 + 1, none⟩ (.int .i64 pk.x)).setCell ⟨g, i * 4 + 2, none⟩ (.int .i64 pk.y)).setCell ⟨g, i * 4 + 3, none⟩ (.int .i64 pk.face) = w17 := ⟨_, rfl⟩
 rw [hw17] at d0 d1 d2 d3 e0 hS2b ⊢
 have HW := Lib.hid hw17
 clear hw17
 go_simp
 rw [← HW.out]
 clear e0 d0 d1 d2 d3
 refine HK.out _ _ (fun h => absurd (show true = false from h) (by decide)) (fun h => absurd (show true = false from h) (by decide)) ?_
 try simp only [Act.put, List.getElem_toArray, List.getElem_cons_zero, List.getElem_cons_succ, List.setIfInBounds_toArray, List.set_cons_zero, List.set_cons_succ]
 clear HK K1
 refine wpAnyD_done (by kernel_rfl) ?_ _
 exact HFIN.out _ _ _ _ _ _ _ _ _ _ _ _ _ _ _ _ _ _ _ _ _ _ _ _ _ _ _ _ _ _ _ _ _ _ _ _ _ _ _ _ _ _ _ _ _ _ _ _ _ _ _ _ _ _ _ _ _ _ _ _ _ _ _ _ _ _ _ _ _ _ _ _ _ _ _ _ _ _ _ _ _ _ _ _ _ _ _ _ _ _ _ _ _ _ _ _ _ _ _ _ _ _ _ _ _ _ _ _ _ _ _ _ _ _ _ _ _ _ _ _ _ _ _ _ _ _ _ _ _ _ _ _ _ _ _ _ _ _ _ _ _ _ _ _ _ _ _ _
end Go.Proofs.Ytpnbpepkoekkoaa
end
