/- The walk of the statement: part 2. -/
import Derived.Test.YtpnbpepkoekkoaaYU3p1
set_option linter.unusedVariables false
set_option linter.unusedSimpArgs false
section
namespace Go.Proofs.Ytpnbpepkoekkoaa
open Go Go.RowKit Go.Deep
theorem Lt.small_ok : ∀ (T : Lt) (d : Nat), T.strip.ok d = true → T.size ≤ 100000 → T.small
 | .nil, _, _, _ => trivial
 | .cons _ _ _ _ _ its _ _ ms r, d, h1, h2 => by
  obtain ⟨h3, _, h4, h5⟩ := (Its.ok_cons ..).1 h1
  simp only [Lt.size] at h2
  have h6 := its.strip.len_le_size
  rw [its.strip_len, its.strip_size] at h6
  exact ⟨by omega, by omega, its.small_ok _ h4 (by omega), r.small_ok d h5 (by omega)⟩
theorem mem_sizeP {ps : List Phr} {p : Phr} (h : p ∈ ps) : p.items.size ≤ sizeP ps := by
 induction ps with
 | nil => cases h
 | cons q r ih =>
  have e : sizeP (q :: r) = q.items.size + sizeP r := by simp [sizeP]
  rcases List.mem_cons.1 h with rfl | h
  ·omega
  ·have := ih h; omega
theorem Ls.lims_cp {s : Ls} (h : s.strip.lims = true) : s.cpOk := by
 obtain ⟨h1, h2, h3⟩ := (lims_iff _).1 h
 obtain ⟨f1, _, _, _, f5, f6⟩ := (fitIff _).1 h1
 have f5' : s.phrases.length ≤ 64 := by
  have e : s.strip.phrases.length = s.phrases.length := by simp [Ls.strip]
  rw [← e]; exact f5
 have f1' : s.roles.length ≤ 64 := f1
 have f6' : s.dances.length ≤ 256 := f6
 refine ⟨by omega, by omega, by omega, fun p hp => ?_⟩
 have hm : p.strip ∈ s.strip.phrases := List.mem_map.2 ⟨p, hp, rfl⟩
 have h4 : p.its.strip.ok 1 = true := h2 _ hm
 have h5 : p.its.strip.size ≤ 4096 := Nat.le_trans (mem_sizeP hm) h3
 have h6 := p.its.strip.len_le_size
 rw [p.its.strip_size] at h5
 rw [p.its.strip_len, p.its.strip_size] at h6
 exact ⟨by omega, p.its.small_ok 1 h4 (by omega)⟩
theorem wp_seq_thenQ {P : Program} {x y : Code} {Q : Exit → Act → World → Prop} {a : Act} {w : World} (h : ∀ K : Act → World → Prop, (∀ a w, y.wp P Q a w → K a w) → x.wp P (Exit.then K Q) a w) : (Code.seq x y).wp P Q a w := wp_seq (h _ fun _ _ h => h)
set_option maxRecDepth 100000 in
set_option maxHeartbeats 16000000 in
theorem tw_then5 (s : Ls) (ns : List Int) (w : World) (x : Ls) (W0 W : World) (X k at_ wh : Nat) (hA : s.At w) (hcp : CpW s ns w x W0) (hb : Below W0.heap.size W0 W) (hX0 : W0.heap.size ≤ X) (hX : W.heap[X]? = some (.cells x.cells 30 (0, 0))) (he : ∀ V, Below w.heap.size w V → Env V) (h0 : resE s.strip ns = 0) (ha : at_ < 256) (hw : wh < 256)
  (hkl : x.phrases.length = k) (hk0 : 0 < k) (hk : k < 64) (Q : Exit → Act → World → Prop) (hQ : ∀ W', Below w.heap.size w W' → ∀ (f0 f1 f2 f3 f4 f5 f6 f7 f9 f10 f11 f12 f13 f14 f15 f16 f17 f18 f19 f20 f21 f22 f23 f24 f25 f26 f27 f28 f29 f30 f31 f32 f33 f34 f35 f36 f37 f38 f39 f40 f41 f42 f43 f44 f45 f46 f47 f48 f49 f50 f51 f52 f53 f54 f55 f56 f57 f58 f59 f60 f61 f62 f63 f64 f65 f66 f67 f68 f69 f70 f71 f72 f73 f74 f75 f76 f77 f78 f79 f80 f81 f82 f83 f84 f85 f86 f87 f88 f89 f90 f91 f92 f93 f94 f95 f96 f97 f98 f99 f100 f101 f102 f103 f104 f105 f106 f107 f108 f109 f110 f111 f112 f113 f114 f115 f116 f117 f118 f119 f120 f121 f122 f123 f124 f125 f126 f127 f128 f129 f130 f131 f132 f133 f134 f135 f136 f137 f138 f139 f140 f141 f142 f143 f144 f145 f146 f147 f148 f149 f150 : Value), Q .ret { tmps := #[f0, f1, f2, f3, f4, f5, f6, f7, .bool true, f9, f10, f11, f12, f13, f14, f15, f16, f17, f18, f19, f20, f21, f22, f23, f24, f25, f26, f27, f28, f29, f30, f31, f32, f33, f34, f35, f36, f37, f38, f39, f40, f41, f42, f43, f44, f45, f46, f47, f48, f49, f50, f51, f52, f53, f54, f55, f56, f57, f58, f59, f60, f61, f62, f63, f64, f65, f66, f67, f68, f69, f70, f71, f72, f73, f74, f75, f76, f77, f78, f79, f80, f81, f82, f83, f84, f85, f86, f87, f88, f89, f90, f91, f92, f93, f94, f95, f96, f97, f98, f99, f100, f101, f102, f103, f104, f105, f106, f107, f108, f109, f110, f111, f112, f113, f114, f115, f116, f117, f118, f119, f120, f121, f122, f123, f124, f125, f126, f127, f128, f129, f130, f131, f132, f133, f134, f135, f136, f137, f138, f139, f140, f141, f142, f143, f144, f145, f146, f147, f148, f149, f150], defers := [] } W')
  (e0 e1 e4 e5 e6 e7 e8 e9 e10 e13 e14 e15 e16 e17 e18 e19 e20 e21 e22 e23 e24 e25 e26 e27 e28 e29 e30 e31 e32 e33 e34 e35 e36 e37 e38 e39 e40 e41 e42 e43 e44 e45 e46 e47 e48 e49 e50 e51 e52 e53 e54 e55 e56 e57 e58 e59 e60 e61 e62 e63 e64 e65 e66 e67 e68 e69 e70 e71 e72 e73 e74 e75 e76 e77 e78 e79 e80 e81 e82 e83 e84 e85 e86 e87 e88 e89 e90 e91 e92 e93 e94 e95 e96 e97 e98 e99 e100 e101 e102 e103 e104 e105 e106 e107 e108 e109 e110 e111 e112 e113 e114 e115 e116 e117 e118 e119 e120 e121 e122 e123 e124 e125 e126 e127 e128 e129 e130 e131 e132 e133 e134 e135 e136 e137 e138 e139 e140 e141 e142 e143 e144 e145 e146 e147 e148 e149 e150 : Value) : then7n5.wp Try.prog Q { tmps := #[e0, e1, .int .u8 (at_ : Nat), .int .u8 (wh : Nat), e4, e5, e6, e7, e8, e9, e10, .pointer (some ⟨X, 0, none⟩), .int .i64 (k : Nat), e13, e14, e15, e16, e17, e18, e19, e20, e21, e22, e23, e24, e25, e26, e27, e28, e29, e30, e31, e32, e33, e34, e35, e36, e37, e38, e39, e40, e41, e42, e43, e44, e45, e46, e47, e48, e49, e50, e51, e52, e53, e54, e55, e56, e57, e58, e59, e60, e61, e62, e63, e64, e65, e66, e67, e68, e69, e70, e71, e72, e73, e74, e75, e76, e77, e78, e79, e80, e81, e82, e83, e84, e85, e86, e87, e88, e89, e90, e91, e92, e93, e94, e95, e96, e97, e98, e99, e100, e101, e102, e103, e104, e105, e106, e107, e108, e109, e110, e111, e112, e113, e114, e115, e116, e117, e118, e119, e120, e121, e122, e123, e124, e125, e126, e127, e128, e129, e130, e131, e132, e133, e134, e135, e136, e137, e138, e139, e140, e141, e142, e143, e144, e145, e146, e147, e148, e149, e150], defers := [] } W := by
 have hcpW := hcp.belowW hb
 obtain ⟨⟨l1, l2⟩, ⟨l3, l4⟩⟩ := hcp.own.lt
 obtain ⟨p, hp⟩ : ∃ p, x.phrases[at_ % k]? = some p := ⟨_, List.getElem?_eq_getElem (by rw [hkl]; exact Nat.mod_lt _ hk0)⟩
 have hown : W.ownsRow w.heap.size 57 2 (.slice (some ⟨blk x.fa, 0, none⟩) k x.fc) k (x.phrases.flatMap phCell) := by
  have := hcpW.own.phrases
  rw [hcpW.own.faf, hkl] at this; exact this
 have hc10 : x.cells[10]? = some (.slice (some ⟨blk x.fa, 0, none⟩) k x.fc) := by
  have : x.cells[10]? = some (.slice x.fa x.phrases.length x.fc) := rfl
  rw [this, hcpW.own.faf, hkl]; rfl
 have hnm := (own_rowV hown).get phCell_len (r := 0) hp rfl
 simp only [Nat.add_zero] at hnm
 have hsz := hb.size
 have hXl : X < W.heap.size := (Array.getElem?_eq_some_iff.1 hX).1
 have hlo := hcp.below.size
 change Code.wp Try.prog (.seq reg7n11 (sndC then7n5)) _ _ _
 refine wp_seq_then (fun K hK => tw_r11 X (blk x.fa) (at_ % k) k x.fc at_ wh w.heap.size p.name x.cells (x.phrases.flatMap phCell) W hX hc10 hown (by omega) (by omega) hk (Nat.mod_lt _ hk0) rfl ha hnm K ?_ _ _ _ _ _ _ _ _ _ _ _ _ _ _ _ _ _ _ _ _ _ _ _ _ _ _ _ _ _ _ _ _ _ _ _ _ _ _ _ _ _ _ _ _ _ _ _ _ _ _ _ _ _ _ _ _ _ _ _ _ _ _ _ _ _ _ _ _ _ _ _ _ _ _ _ _ _ _ _ _ _ _ _ _ _ _ _ _ _ _ _ _ _ _ _ _ _ _ _ _ _ _ _ _ _ _ _ _ _ _ _ _ _ _ _ _ _ _ _ _ _ _ _ _ _ _ _ _ _ _ _ _ _ _ _ _ _ _ _ _ _ _ _ _ _ _ _)
 intro g1 c1 W1 hsh hle hmx hcl hX1 hkeep hg1 hbel
 intros
 refine hK _ _ ?_
 clear hK K
 have hlen : (x.phrases ++ [(⟨p.name, none, 0, .nil⟩ : Ph)]).length = k + 1 := by simp [hkl]
 have hrow : RowV phCell W1 g1 (x.phrases ++ [(⟨p.name, none, 0, .nil⟩ : Ph)]) := fun j u hj => hcl j u (by
  rw [List.flatMap_append] at hj
  exact hj)
 have hg1X : g1 ≠ X := by rcases hg1 with e | e <;> omega
 obtain ⟨i, hi⟩ : ∃ i, wh % (k + 1) = i := ⟨_, rfl⟩
 have hil : i < k + 1 := by rw [← hi]; exact Nat.mod_lt _ (by omega)
 have hmod : (wh : Int).tmod ((k : Int) + 1) = (i : Int) := by
  rw [← hi]; exact_mod_cast Int.ofNat_tmod wh (k + 1)
 obtain ⟨pi, hpi⟩ : ∃ pi, (x.phrases ++ [(⟨p.name, none, 0, .nil⟩ : Ph)])[i]? = some pi := ⟨_, List.getElem?_eq_getElem (by omega)⟩
 have hpk : (x.phrases ++ [(⟨p.name, none, 0, .nil⟩ : Ph)])[k]? = some (⟨p.name, none, 0, .nil⟩ : Ph) := by
  rw [List.getElem?_append_right (by omega), hkl, Nat.sub_self]; rfl
 have hc1 : (x.cells.setIfInBounds 10 (.slice (some ⟨g1, 0, none⟩) (k + 1) c1))[10]? = some (.slice (some ⟨g1, 0, none⟩) (k + 1) c1) := rfl
 have HS := Lib.hid (And.intro hcp (And.intro hb (And.intro hX0 (And.intro he (And.intro h0 (And.intro hA hcpW))))))
 have HR := Lib.hid (And.intro hsh (And.intro hle (And.intro hmx (And.intro hX1 (And.intro hkeep (And.intro hg1 hbel))))))
 have HL := Lib.hid (And.intro hlen (And.intro hrow (And.intro hpi (And.intro hpk (And.intro hc1 (And.intro hkl hp))))))
 have HM := Lib.hid (And.intro hmod hi)
 have HQ := Lib.hid hQ; have HE := Lib.hid he
 have hkz : ¬ ((k : Int) + 1 = 0) := by omega
 have hw0 : IntKind.i64.wrap (wh : Int) = (wh : Int) := IntWalk.i64_in _ (by omega)
 have hm0 := HM.out.1
 clear hcp hb hX0 he h0 hA hcpW hsh hle hmx hX1 hkeep hg1 hbel hlen hrow hpi hpk hc1 hkl hp hown hc10 hnm hX hmod hi hQ
 conv => arg 2; whnf
 refine wp_seq_then (fun K hK => ?_)
 have HK := Lib.hid hK
 clear hK
 go_wp2_with fail
 refine HK.out _ _ ?_
 clear HK K hw0 hm0
 obtain ⟨hlen, hrow, hpi, hpk, hc1, hkl, hp⟩ := HL.out
 obtain ⟨hsh, hle, hmx, hX1, hkeep, hg1, hbel⟩ := HR.out
 change Code.wp Try.prog (.seq reg7n13 (sndC (sndC (sndC then7n5)))) _ _ _
 refine wp_seq_then (fun K hK => tw_r13 X g1 i k c1 _ _ _ pi _ W1 hX1 hc1 hg1X hk hil hlen hpi hpk hrow hsh K ?_ _ _ _ _ _ _ _ _ _ _ _ _ _ _ _ _ _ _ _ _ _ _ _ _ _ _ _ _ _ _ _ _ _ _ _ _ _ _ _ _ _ _ _ _ _ _ _ _ _ _ _ _ _ _ _ _ _ _ _ _ _ _ _ _ _ _ _ _ _ _ _ _ _ _ _ _ _ _ _ _ _ _ _ _ _ _ _ _ _ _ _ _ _ _ _ _ _ _ _ _ _ _ _ _ _ _ _ _ _ _ _ _ _ _ _ _ _ _ _ _ _ _ _ _ _ _ _ _ _ _ _ _ _ _ _ _ _ _ _ _ _ _ _ _ _ _ _ _)
 intro W2 hrow2 hb2 hsh2
 intros
 refine hK _ _ ?_
 clear hK K
 obtain ⟨hcp, hb, hX0, he, h0, hA, hcpW⟩ := HS.out
 have hX2 : W2.heap[X]? = some (.cells (x.cells.setIfInBounds 10 (.slice (some ⟨g1, 0, none⟩) (k + 1) c1)) 30 (0, 0)) := (hb2.block X (Array.getElem?_eq_some_iff.1 hX1).1 (fun e => hg1X e.symm)).trans hX1
 have hw1 := (hbel 0 (Nat.zero_le _) (Nat.zero_le _) (Nat.zero_le _)).size
 have hB2 : Below w.heap.size w W2 := by
  have q1 := hbel w.heap.size (by omega) l3 (by omega)
  exact (hcpW.below.trans q1).trans (hb2.below (by rcases hg1 with e | e <;> omega) (by omega))
 have hKp : Kept s ns w x W0 W2 (blk x.fa) := ⟨hcp, hB2, fun b hb0 hne => by
  rw [hb2.block b (by omega) (by rcases hg1 with e | e <;> omega), hkeep b (by omega) (by omega) hne]
  exact hb.block b hb0⟩
 obtain ⟨ps, hps⟩ : ∃ ps, ((x.phrases ++ [(⟨p.name, none, 0, .nil⟩ : Ph)]).set i (⟨p.name, none, 0, .nil⟩ : Ph)).set k pi = ps := ⟨_, rfl⟩
 rw [hps] at hrow2
 have hperm : ps.Perm ((⟨p.name, none, 0, .nil⟩ : Ph) :: x.phrases) := by
  rw [← hps]
  exact (swapL_perm _ i k (by omega) (by omega) _ _ hpi hpk).trans (List.perm_append_singleton _ _)
 have hpl : ps.length = k + 1 := by rw [hperm.length_eq, List.length_cons, hkl]
 obtain ⟨hat, ms, hms⟩ := phr_at (g := g1) (c := c1) hKp hA (by have := (Ls.lims_cp (res_zero h0).1).roles; have e := congrArg (fun s => s.roles.length) hcp.strip; simp only [Ls.strip] at e; unfold maxLen; omega) hrow2 (by unfold maxLen; omega) (fun q hq => by
  rcases List.mem_cons.1 (hperm.mem_iff.1 hq) with rfl | h
  ·exact Or.inr rfl
  ·exact Or.inl h)
 have hcells : ({ x with fa := some ⟨g1, 0, none⟩, fc := c1, phrases := ps } : Ls).cells = x.cells.setIfInBounds 10 (.slice (some ⟨g1, 0, none⟩) (k + 1) c1) := by
  unfold Ls.cells
  simp [hpl]
 have hres : resE ({ x with fa := some ⟨g1, 0, none⟩, fc := c1, phrases := ps } : Ls).strip ms = 171 := by
  have e : ({ x with fa := some ⟨g1, 0, none⟩, fc := c1, phrases := ps } : Ls).strip = { s.strip with phrases := ps.map Ph.strip } := by
   rw [← hcp.strip]; rfl
  have hpe : s.strip.phrases = x.phrases.map Ph.strip := by rw [← hcp.strip]; rfl
  rw [e]
  refine twice_phrase (nm := p.name) h0 (by rw [hpe, List.length_map]; omega) ?_ (by rw [hpe]; exact hperm.map Ph.strip)
  unfold Sc.pnames
  rw [hpe]
  exact List.mem_map.2 ⟨p.strip, List.mem_map.2 ⟨p, List.mem_of_getElem? hp, rfl⟩, rfl⟩
 obtain ⟨xl, hxl⟩ : ∃ xl : Ls, ({ x with fa := some ⟨g1, 0, none⟩, fc := c1, phrases := ps } : Ls) = xl := ⟨_, rfl⟩
 rw [hxl] at hat hms hcells hres
 rw [← hcells] at hX2
 have hCode := fun (V : World) (hv : Below W2.heap.size W2 V) (hev : Env V) => res_code xl ms V (hat.below hv) (hms.below hv) hev 171 hres
 have hev : Env W2 := HE.out W2 hB2
 have HC : Hid (Calls Try.prog 15 #[.agg xl.cells] W2 (CodeP 171 W2)) := Lib.hid (hCode W2 (Below.refl _ _) hev)
 have HX2 := Lib.hid hX2; have HB2 := Lib.hid hB2
 clear hat hms hcells hres hxl hps hpl hCode hKp hX2 hB2 hcp hb hX0 he h0 hA hcpW hlen hrow hpi hpk hc1 hkl hp hsh hle hmx hX1 hkeep hg1 hbel hrow2 hb2 hsh2 hev hperm HL HR HS HM hw1
 unfold CodeP at HC
 conv => arg 2; whnf
 go_wp2_with (first
  | (refine wpList_load_row rfl 30 _ rfl X rfl 30 xl.cells (0, 0) _ HX2.out Try.underlying30 rfl (by kernel_rfl) ?_; simp only [Act.put, List.setIfInBounds_toArray, List.set_cons_zero, List.set_cons_succ])
  | (go_at_call 15; refine HC.out.mono ?_; rintro e V ⟨n, i1, i2, i3, i4, i5, a6, a7, a8, a9, a10, a11, n6, n7, n8, n9, n10, n11, q6, q7, q8, q9, q10, q11, rfl, hbV⟩; dsimp only; have HBV := Lib.hid hbV; clear hbV))
 exact HQ.out _ (thenB HB2.out (thenB HBV.out ((Below.refl V.heap.size V).alloc (Nat.le_refl _) _))) _ _ _ _ _ _ _ _ _ _ _ _ _ _ _ _ _ _ _ _ _ _ _ _ _ _ _ _ _ _ _ _ _ _ _ _ _ _ _ _ _ _ _ _ _ _ _ _ _ _ _ _ _ _ _ _ _ _ _ _ _ _ _ _ _ _ _ _ _ _ _ _ _ _ _ _ _ _ _ _ _ _ _ _ _ _ _ _ _ _ _ _ _ _ _ _ _ _ _ _ _ _ _ _ _ _ _ _ _ _ _ _ _ _ _ _ _ _ _ _ _ _ _ _ _ _ _ _ _ _ _ _ _ _ _ _ _ _ _ _ _ _ _ _ _ _ _ _ _ _
set_option maxRecDepth 100000 in
set_option maxHeartbeats 16000000 in
theorem tw_then6 (s : Ls) (ns : List Int) (w : World) (x : Ls) (W0 W : World) (X k at_ wh : Nat) (hA : s.At w) (hcp : CpW s ns w x W0) (hb : Below W0.heap.size W0 W) (hX0 : W0.heap.size ≤ X) (hX : W.heap[X]? = some (.cells x.cells 30 (0, 0))) (he : ∀ V, Below w.heap.size w V → Env V) (h0 : resE s.strip ns = 0) (ha : at_ < 256) (hw : wh < 256)
  (hkl : x.roles.length = k) (hk0 : 0 < k) (hk : k < 64) (Q : Exit → Act → World → Prop) (hQ : ∀ W', Below w.heap.size w W' → ∀ (f0 f1 f2 f3 f4 f5 f6 f7 f9 f10 f11 f12 f13 f14 f15 f16 f17 f18 f19 f20 f21 f22 f23 f24 f25 f26 f27 f28 f29 f30 f31 f32 f33 f34 f35 f36 f37 f38 f39 f40 f41 f42 f43 f44 f45 f46 f47 f48 f49 f50 f51 f52 f53 f54 f55 f56 f57 f58 f59 f60 f61 f62 f63 f64 f65 f66 f67 f68 f69 f70 f71 f72 f73 f74 f75 f76 f77 f78 f79 f80 f81 f82 f83 f84 f85 f86 f87 f88 f89 f90 f91 f92 f93 f94 f95 f96 f97 f98 f99 f100 f101 f102 f103 f104 f105 f106 f107 f108 f109 f110 f111 f112 f113 f114 f115 f116 f117 f118 f119 f120 f121 f122 f123 f124 f125 f126 f127 f128 f129 f130 f131 f132 f133 f134 f135 f136 f137 f138 f139 f140 f141 f142 f143 f144 f145 f146 f147 f148 f149 f150 : Value), Q .ret { tmps := #[f0, f1, f2, f3, f4, f5, f6, f7, .bool true, f9, f10, f11, f12, f13, f14, f15, f16, f17, f18, f19, f20, f21, f22, f23, f24, f25, f26, f27, f28, f29, f30, f31, f32, f33, f34, f35, f36, f37, f38, f39, f40, f41, f42, f43, f44, f45, f46, f47, f48, f49, f50, f51, f52, f53, f54, f55, f56, f57, f58, f59, f60, f61, f62, f63, f64, f65, f66, f67, f68, f69, f70, f71, f72, f73, f74, f75, f76, f77, f78, f79, f80, f81, f82, f83, f84, f85, f86, f87, f88, f89, f90, f91, f92, f93, f94, f95, f96, f97, f98, f99, f100, f101, f102, f103, f104, f105, f106, f107, f108, f109, f110, f111, f112, f113, f114, f115, f116, f117, f118, f119, f120, f121, f122, f123, f124, f125, f126, f127, f128, f129, f130, f131, f132, f133, f134, f135, f136, f137, f138, f139, f140, f141, f142, f143, f144, f145, f146, f147, f148, f149, f150], defers := [] } W')
  (e0 e1 e4 e5 e6 e7 e8 e9 e10 e12 e13 e14 e15 e17 e18 e19 e20 e21 e22 e23 e24 e25 e26 e27 e28 e29 e30 e31 e32 e33 e34 e35 e36 e37 e38 e39 e40 e41 e42 e43 e44 e45 e46 e47 e48 e49 e50 e51 e52 e53 e54 e55 e56 e57 e58 e59 e60 e61 e62 e63 e64 e65 e66 e67 e68 e69 e70 e71 e72 e73 e74 e75 e76 e77 e78 e79 e80 e81 e82 e83 e84 e85 e86 e87 e88 e89 e90 e91 e92 e93 e94 e95 e96 e97 e98 e99 e100 e101 e102 e103 e104 e105 e106 e107 e108 e109 e110 e111 e112 e113 e114 e115 e116 e117 e118 e119 e120 e121 e122 e123 e124 e125 e126 e127 e128 e129 e130 e131 e132 e133 e134 e135 e136 e137 e138 e139 e140 e141 e142 e143 e144 e145 e146 e147 e148 e149 e150 : Value) : then7n6.wp Try.prog Q { tmps := #[e0, e1, .int .u8 (at_ : Nat), .int .u8 (wh : Nat), e4, e5, e6, e7, e8, e9, e10, .pointer (some ⟨X, 0, none⟩), e12, e13, e14, e15, .int .i64 (k : Nat), e17, e18, e19, e20, e21, e22, e23, e24, e25, e26, e27, e28, e29, e30, e31, e32, e33, e34, e35, e36, e37, e38, e39, e40, e41, e42, e43, e44, e45, e46, e47, e48, e49, e50, e51, e52, e53, e54, e55, e56, e57, e58, e59, e60, e61, e62, e63, e64, e65, e66, e67, e68, e69, e70, e71, e72, e73, e74, e75, e76, e77, e78, e79, e80, e81, e82, e83, e84, e85, e86, e87, e88, e89, e90, e91, e92, e93, e94, e95, e96, e97, e98, e99, e100, e101, e102, e103, e104, e105, e106, e107, e108, e109, e110, e111, e112, e113, e114, e115, e116, e117, e118, e119, e120, e121, e122, e123, e124, e125, e126, e127, e128, e129, e130, e131, e132, e133, e134, e135, e136, e137, e138, e139, e140, e141, e142, e143, e144, e145, e146, e147, e148, e149, e150], defers := [] } W := by
 have hcpW := hcp.belowW hb
 obtain ⟨⟨l1, l2⟩, ⟨l3, l4⟩⟩ := hcp.own.lt
 obtain ⟨p, hp⟩ : ∃ p, x.roles[at_ % k]? = some p := ⟨_, List.getElem?_eq_getElem (by rw [hkl]; exact Nat.mod_lt _ hk0)⟩
 have hown : W.ownsRow w.heap.size 59 4 (.slice (some ⟨blk x.ra, 0, none⟩) k x.rc) k (x.roles.flatMap encR) := by
  have := hcpW.own.roles
  rw [hcpW.own.raf, hkl] at this; exact this
 have hc10 : x.cells[6]? = some (.slice (some ⟨blk x.ra, 0, none⟩) k x.rc) := by
  have : x.cells[6]? = some (.slice x.ra x.roles.length x.rc) := rfl
  rw [this, hcpW.own.raf, hkl]; rfl
 have hnm := (own_rowV hown).get encR_len (r := 0) hp rfl
 simp only [Nat.add_zero] at hnm
 have hsz := hb.size
 have hXl : X < W.heap.size := (Array.getElem?_eq_some_iff.1 hX).1
 have hlo := hcp.below.size
 change Code.wp Try.prog (.seq reg7n18 (sndC then7n6)) _ _ _
 refine wp_seq_then (fun K hK => tw_r18 X (blk x.ra) (at_ % k) k x.rc at_ wh w.heap.size p.name x.cells (x.roles.flatMap encR) W hX hc10 hown (by omega) (by omega) hk (Nat.mod_lt _ hk0) rfl ha hw hnm K ?_ _ _ _ _ _ _ _ _ _ _ _ _ _ _ _ _ _ _ _ _ _ _ _ _ _ _ _ _ _ _ _ _ _ _ _ _ _ _ _ _ _ _ _ _ _ _ _ _ _ _ _ _ _ _ _ _ _ _ _ _ _ _ _ _ _ _ _ _ _ _ _ _ _ _ _ _ _ _ _ _ _ _ _ _ _ _ _ _ _ _ _ _ _ _ _ _ _ _ _ _ _ _ _ _ _ _ _ _ _ _ _ _ _ _ _ _ _ _ _ _ _ _ _ _ _ _ _ _ _ _ _ _ _ _ _ _ _ _ _ _ _ _ _ _ _ _ _)
 intro g1 c1 W1 hsh hle hmx hcl hX1 hkeep hg1 hbel
 intros
 refine hK _ _ ?_
 clear hK K
 have hlen : (x.roles ++ [(⟨p.name, (wh : Nat), 0, 0⟩ : Rol)]).length = k + 1 := by simp [hkl]
 have hrow : RowV encR W1 g1 (x.roles ++ [(⟨p.name, (wh : Nat), 0, 0⟩ : Rol)]) := fun j u hj => hcl j u (by
  rw [List.flatMap_append] at hj
  exact hj)
 have hg1X : g1 ≠ X := by rcases hg1 with e | e <;> omega
 obtain ⟨i, hi⟩ : ∃ i, wh % (k + 1) = i := ⟨_, rfl⟩
 have hil : i < k + 1 := by rw [← hi]; exact Nat.mod_lt _ (by omega)
 have hmod : (wh : Int).tmod ((k : Int) + 1) = (i : Int) := by
  rw [← hi]; exact_mod_cast Int.ofNat_tmod wh (k + 1)
 obtain ⟨pi, hpi⟩ : ∃ pi, (x.roles ++ [(⟨p.name, (wh : Nat), 0, 0⟩ : Rol)])[i]? = some pi := ⟨_, List.getElem?_eq_getElem (by omega)⟩
 have hpk : (x.roles ++ [(⟨p.name, (wh : Nat), 0, 0⟩ : Rol)])[k]? = some (⟨p.name, (wh : Nat), 0, 0⟩ : Rol) := by
  rw [List.getElem?_append_right (by omega), hkl, Nat.sub_self]; rfl
 have hc1 : (x.cells.setIfInBounds 6 (.slice (some ⟨g1, 0, none⟩) (k + 1) c1))[6]? = some (.slice (some ⟨g1, 0, none⟩) (k + 1) c1) := rfl
 have HS := Lib.hid (And.intro hcp (And.intro hb (And.intro hX0 (And.intro he (And.intro h0 (And.intro hA hcpW))))))
 have HR := Lib.hid (And.intro hsh (And.intro hle (And.intro hmx (And.intro hX1 (And.intro hkeep (And.intro hg1 hbel))))))
 have HL := Lib.hid (And.intro hlen (And.intro hrow (And.intro hpi (And.intro hpk (And.intro hc1 (And.intro hkl hp))))))
 have HM := Lib.hid (And.intro hmod hi)
 have HQ := Lib.hid hQ; have HE := Lib.hid he
 have hkz : ¬ ((k : Int) + 1 = 0) := by omega
 have hw0 : IntKind.i64.wrap (wh : Int) = (wh : Int) := IntWalk.i64_in _ (by omega)
 have hm0 := HM.out.1
 clear hcp hb hX0 he h0 hA hcpW hsh hle hmx hX1 hkeep hg1 hbel hlen hrow hpi hpk hc1 hkl hp hown hc10 hnm hX hmod hi hQ
 conv => arg 2; whnf
 refine wp_seq_then (fun K hK => ?_)
 have HK := Lib.hid hK
 clear hK
 go_wp2_with fail
 refine HK.out _ _ ?_
 clear HK K hw0 hm0
 obtain ⟨hlen, hrow, hpi, hpk, hc1, hkl, hp⟩ := HL.out
 obtain ⟨hsh, hle, hmx, hX1, hkeep, hg1, hbel⟩ := HR.out
 change Code.wp Try.prog (.seq reg7n20 (sndC (sndC (sndC then7n6)))) _ _ _
 refine wp_seq_then (fun K hK => tw_r20 X g1 i k c1 _ _ _ pi _ W1 hX1 hc1 hg1X hk hil hlen hpi hpk hrow hsh K ?_ _ _ _ _ _ _ _ _ _ _ _ _ _ _ _ _ _ _ _ _ _ _ _ _ _ _ _ _ _ _ _ _ _ _ _ _ _ _ _ _ _ _ _ _ _ _ _ _ _ _ _ _ _ _ _ _ _ _ _ _ _ _ _ _ _ _ _ _ _ _ _ _ _ _ _ _ _ _ _ _ _ _ _ _ _ _ _ _ _ _ _ _ _ _ _ _ _ _ _ _ _ _ _ _ _ _ _ _ _ _ _ _ _ _ _ _ _ _ _ _ _ _ _ _ _ _ _ _ _ _ _ _ _ _ _ _ _ _ _ _ _ _ _ _ _ _ _ _)
 intro W2 hrow2 hb2 hsh2
 intros
 refine hK _ _ ?_
 clear hK K
 obtain ⟨hcp, hb, hX0, he, h0, hA, hcpW⟩ := HS.out
 have hX2 : W2.heap[X]? = some (.cells (x.cells.setIfInBounds 6 (.slice (some ⟨g1, 0, none⟩) (k + 1) c1)) 30 (0, 0)) := (hb2.block X (Array.getElem?_eq_some_iff.1 hX1).1 (fun e => hg1X e.symm)).trans hX1
 have hw1 := (hbel 0 (Nat.zero_le _) (Nat.zero_le _) (Nat.zero_le _)).size
 have hB2 : Below w.heap.size w W2 := by
  have q1 := hbel w.heap.size (by omega) l1 (by omega)
  exact (hcpW.below.trans q1).trans (hb2.below (by rcases hg1 with e | e <;> omega) (by omega))
 have hKp : Kept s ns w x W0 W2 (blk x.ra) := ⟨hcp, hB2, fun b hb0 hne => by
  rw [hb2.block b (by omega) (by rcases hg1 with e | e <;> omega), hkeep b (by omega) (by omega) hne]
  exact hb.block b hb0⟩
 obtain ⟨ps, hps⟩ : ∃ ps, ((x.roles ++ [(⟨p.name, (wh : Nat), 0, 0⟩ : Rol)]).set i (⟨p.name, (wh : Nat), 0, 0⟩ : Rol)).set k pi = ps := ⟨_, rfl⟩
 rw [hps] at hrow2
 have hperm : ps.Perm ((⟨p.name, (wh : Nat), 0, 0⟩ : Rol) :: x.roles) := by
  rw [← hps]
  exact (swapL_perm _ i k (by omega) (by omega) _ _ hpi hpk).trans (List.perm_append_singleton _ _)
 have hpl : ps.length = k + 1 := by rw [hperm.length_eq, List.length_cons, hkl]
 obtain ⟨hat, ms, hms⟩ := rol_at (g := g1) (c := c1) hKp hA hrow2 hsh2.lt (by unfold maxLen; omega)
 have hcells : ({ x with ra := some ⟨g1, 0, none⟩, rc := c1, roles := ps } : Ls).cells = x.cells.setIfInBounds 6 (.slice (some ⟨g1, 0, none⟩) (k + 1) c1) := by
  unfold Ls.cells
  simp [hpl]
 have hres : resE ({ x with ra := some ⟨g1, 0, none⟩, rc := c1, roles := ps } : Ls).strip ms = 171 := by
  have e : ({ x with ra := some ⟨g1, 0, none⟩, rc := c1, roles := ps } : Ls).strip = { s.strip with roles := ps } := by
   rw [← hcp.strip]; rfl
  have hpe : s.strip.roles = x.roles := by rw [← hcp.strip]; rfl
  rw [e]
  refine twice_role (nr := ⟨p.name, (wh : Nat), 0, 0⟩) h0 (by rw [hpe]; omega) ?_ (by rw [hpe]; exact hperm)
  unfold Sc.rnames
  rw [hpe]
  exact List.mem_map.2 ⟨p, List.mem_of_getElem? hp, rfl⟩
 obtain ⟨xl, hxl⟩ : ∃ xl : Ls, ({ x with ra := some ⟨g1, 0, none⟩, rc := c1, roles := ps } : Ls) = xl := ⟨_, rfl⟩
 rw [hxl] at hat hms hcells hres
 rw [← hcells] at hX2
 have hCode := fun (V : World) (hv : Below W2.heap.size W2 V) (hev : Env V) => res_code xl ms V (hat.below hv) (hms.below hv) hev 171 hres
 have hev : Env W2 := HE.out W2 hB2
 have HC : Hid (Calls Try.prog 15 #[.agg xl.cells] W2 (CodeP 171 W2)) := Lib.hid (hCode W2 (Below.refl _ _) hev)
 have HX2 := Lib.hid hX2; have HB2 := Lib.hid hB2
 clear hat hms hcells hres hxl hps hpl hCode hKp hX2 hB2 hcp hb hX0 he h0 hA hcpW hlen hrow hpi hpk hc1 hkl hp hsh hle hmx hX1 hkeep hg1 hbel hrow2 hb2 hsh2 hev hperm HL HR HS HM hw1
 unfold CodeP at HC
 conv => arg 2; whnf
 go_wp2_with (first
  | (refine wpList_load_row rfl 30 _ rfl X rfl 30 xl.cells (0, 0) _ HX2.out Try.underlying30 rfl (by kernel_rfl) ?_; simp only [Act.put, List.setIfInBounds_toArray, List.set_cons_zero, List.set_cons_succ])
  | (go_at_call 15; refine HC.out.mono ?_; rintro e V ⟨n, i1, i2, i3, i4, i5, a6, a7, a8, a9, a10, a11, n6, n7, n8, n9, n10, n11, q6, q7, q8, q9, q10, q11, rfl, hbV⟩; dsimp only; have HBV := Lib.hid hbV; clear hbV))
 exact HQ.out _ (thenB HB2.out (thenB HBV.out ((Below.refl V.heap.size V).alloc (Nat.le_refl _) _))) _ _ _ _ _ _ _ _ _ _ _ _ _ _ _ _ _ _ _ _ _ _ _ _ _ _ _ _ _ _ _ _ _ _ _ _ _ _ _ _ _ _ _ _ _ _ _ _ _ _ _ _ _ _ _ _ _ _ _ _ _ _ _ _ _ _ _ _ _ _ _ _ _ _ _ _ _ _ _ _ _ _ _ _ _ _ _ _ _ _ _ _ _ _ _ _ _ _ _ _ _ _ _ _ _ _ _ _ _ _ _ _ _ _ _ _ _ _ _ _ _ _ _ _ _ _ _ _ _ _ _ _ _ _ _ _ _ _ _ _ _ _ _ _ _ _ _ _ _ _
end Go.Proofs.Ytpnbpepkoekkoaa
end
section
namespace Go.Proofs.Ytpnbpepkoekkoaa
open Go Go.RowKit Go.Deep
theorem tstep1 : lastPart 1 code7 = .seq elem7n1 (lastPart 2 code7) := rfl
theorem tstep2 : lastPart 2 code7 = .seq elem7n2 (lastPart 3 code7) := rfl
theorem tstep3 : lastPart 3 code7 = .seq elem7n3 (lastPart 4 code7) := rfl
theorem tstep4 : lastPart 4 code7 = .seq elem7n4 (lastPart 5 code7) := rfl
theorem tstep5 : lastPart 5 code7 = .seq elem7n5 (lastPart 6 code7) := rfl
theorem tstep6 : lastPart 6 code7 = .seq elem7n6 (lastPart 7 code7) := rfl
set_option maxRecDepth 100000 in
set_option maxHeartbeats 16000000 in
theorem tw_e7 (w W : World) (hb : Below w.heap.size w W) (e0 e1 e2 e3 e4 e5 e6 e7 e8 e9 e10 e11 e12 e13 e14 e15 e16 e17 e18 e19 e20 e21 e22 e23 e24 e25 e26 e27 e28 e29 e30 e31 e32 e33 e34 e35 e36 e37 e38 e39 e40 e41 e42 e43 e44 e45 e46 e47 e48 e49 e50 e51 e52 e53 e54 e55 e56 e57 e58 e59 e60 e61 e62 e63 e64 e65 e66 e67 e68 e69 e70 e71 e72 e73 e74 e75 e76 e77 e78 e79 e80 e81 e82 e83 e84 e85 e86 e87 e88 e89 e90 e91 e92 e93 e94 e95 e96 e97 e98 e99 e100 e101 e102 e103 e104 e105 e106 e107 e108 e109 e110 e111 e112 e113 e114 e115 e116 e117 e118 e119 e120 e121 e122 e123 e124 e125 e126 e127 e128 e129 e130 e131 e132 e133 e134 e135 e136 e137 e138 e139 e140 e141 e142 e143 e144 e145 e146 e147 e148 e149 e150 : Value) : (lastPart 7 code7).wp Try.prog (bodyPost Try.prog Try.f7 (fun e w' => e = .returned (.bool true) ∧ Below w.heap.size w w')) { tmps := #[e0, e1, e2, e3, e4, e5, e6, e7, e8, e9, e10, e11, e12, e13, e14, e15, e16, e17, e18, e19, e20, e21, e22, e23, e24, e25, e26, e27, e28, e29, e30, e31, e32, e33, e34, e35, e36, e37, e38, e39, e40, e41, e42, e43, e44, e45, e46, e47, e48, e49, e50, e51, e52, e53, e54, e55, e56, e57, e58, e59, e60, e61, e62, e63, e64, e65, e66, e67, e68, e69, e70, e71, e72, e73, e74, e75, e76, e77, e78, e79, e80, e81, e82, e83, e84, e85, e86, e87, e88, e89, e90, e91, e92, e93, e94, e95, e96, e97, e98, e99, e100, e101, e102, e103, e104, e105, e106, e107, e108, e109, e110, e111, e112, e113, e114, e115, e116, e117, e118, e119, e120, e121, e122, e123, e124, e125, e126, e127, e128, e129, e130, e131, e132, e133, e134, e135, e136, e137, e138, e139, e140, e141, e142, e143, e144, e145, e146, e147, e148, e149, e150], defers := [] } W := by
 have HB := Lib.hid hb
 clear hb
 conv => arg 2; whnf
 go_wp2_with fail
 go_ret
 exact ⟨rfl, HB.out⟩
set_option maxRecDepth 100000 in
set_option maxHeartbeats 16000000 in
theorem tw_e6 (s : Ls) (ns : List Int) (w : World) (x : Ls) (W0 W : World) (A X at_ wh : Nat) (phrase : Bool) (hA : s.At w) (hcp : CpW s ns w x W0) (hb : Below W0.heap.size W0 W) (hX0 : W0.heap.size ≤ X) (hX : W.heap[X]? = some (.cells x.cells 30 (0, 0))) (he : ∀ V, Below w.heap.size w V → Env V) (h0 : resE s.strip ns = 0) (ha : at_ < 256) (hw : wh < 256) (e0 e4 e5 e6 e7 e8 e9 e10 e12 e13 e14 e15 e16 e17 e18 e19 e20 e21 e22 e23 e24 e25 e26 e27 e28 e29 e30 e31 e32 e33 e34 e35 e36 e37 e38 e39 e40 e41 e42 e43 e44 e45 e46 e47 e48 e49 e50 e51 e52 e53 e54 e55 e56 e57 e58 e59 e60 e61 e62 e63 e64 e65 e66 e67 e68 e69 e70 e71 e72 e73 e74 e75 e76 e77 e78 e79 e80 e81 e82 e83 e84 e85 e86 e87 e88 e89 e90 e91 e92 e93 e94 e95 e96 e97 e98 e99 e100 e101 e102 e103 e104 e105 e106 e107 e108 e109 e110 e111 e112 e113 e114 e115 e116 e117 e118 e119 e120 e121 e122 e123 e124 e125 e126 e127 e128 e129 e130 e131 e132 e133 e134 e135 e136 e137 e138 e139 e140 e141 e142 e143 e144 e145 e146 e147 e148 e149 e150 : Value) :
  (lastPart 6 code7).wp Try.prog (bodyPost Try.prog Try.f7 (fun e w' => e = .returned (.bool true) ∧ Below w.heap.size w w')) { tmps := #[e0, .bool phrase, .int .u8 (at_ : Nat), .int .u8 (wh : Nat), e4, e5, e6, e7, e8, e9, e10, .pointer (some ⟨X, 0, none⟩), e12, e13, e14, e15, e16, e17, e18, e19, e20, e21, e22, e23, e24, e25, e26, e27, e28, e29, e30, e31, e32, e33, e34, e35, e36, e37, e38, e39, e40, e41, e42, e43, e44, e45, e46, e47, e48, e49, e50, e51, e52, e53, e54, e55, e56, e57, e58, e59, e60, e61, e62, e63, e64, e65, e66, e67, e68, e69, e70, e71, e72, e73, e74, e75, e76, e77, e78, e79, e80, e81, e82, e83, e84, e85, e86, e87, e88, e89, e90, e91, e92, e93, e94, e95, e96, e97, e98, e99, e100, e101, e102, e103, e104, e105, e106, e107, e108, e109, e110, e111, e112, e113, e114, e115, e116, e117, e118, e119, e120, e121, e122, e123, e124, e125, e126, e127, e128, e129, e130, e131, e132, e133, e134, e135, e136, e137, e138, e139, e140, e141, e142, e143, e144, e145, e146, e147, e148, e149, e150], defers := [] } W := by
 have c10 : W.cell? ⟨X, 6, none⟩ = some (.slice x.ra x.roles.length x.rc) := cell_at hX 6 rfl
 have hbw : Below w.heap.size w W := hcp.below.trans (hb.mono hcp.below.size)
 have HN : Hid (∀ (e0 e1 e2 e3 e4 e5 e6 e7 e8 e9 e10 e11 e12 e13 e14 e15 e16 e17 e18 e19 e20 e21 e22 e23 e24 e25 e26 e27 e28 e29 e30 e31 e32 e33 e34 e35 e36 e37 e38 e39 e40 e41 e42 e43 e44 e45 e46 e47 e48 e49 e50 e51 e52 e53 e54 e55 e56 e57 e58 e59 e60 e61 e62 e63 e64 e65 e66 e67 e68 e69 e70 e71 e72 e73 e74 e75 e76 e77 e78 e79 e80 e81 e82 e83 e84 e85 e86 e87 e88 e89 e90 e91 e92 e93 e94 e95 e96 e97 e98 e99 e100 e101 e102 e103 e104 e105 e106 e107 e108 e109 e110 e111 e112 e113 e114 e115 e116 e117 e118 e119 e120 e121 e122 e123 e124 e125 e126 e127 e128 e129 e130 e131 e132 e133 e134 e135 e136 e137 e138 e139 e140 e141 e142 e143 e144 e145 e146 e147 e148 e149 e150 : Value), (lastPart 7 code7).wp Try.prog (bodyPost Try.prog Try.f7 (fun e w' => e = .returned (.bool true) ∧ Below w.heap.size w w')) { tmps := #[e0, e1, e2, e3, e4, e5, e6, e7, e8, e9, e10, e11, e12, e13, e14, e15, e16, e17, e18, e19, e20, e21, e22, e23, e24, e25, e26, e27, e28, e29, e30, e31, e32, e33, e34, e35, e36, e37, e38, e39, e40, e41, e42, e43, e44, e45, e46, e47, e48, e49, e50, e51, e52, e53, e54, e55, e56, e57, e58, e59, e60, e61, e62, e63, e64, e65, e66, e67, e68, e69, e70, e71, e72, e73, e74, e75, e76, e77, e78, e79, e80, e81, e82, e83, e84, e85, e86, e87, e88, e89, e90, e91, e92, e93, e94, e95, e96, e97, e98, e99, e100, e101, e102, e103, e104, e105, e106, e107, e108, e109, e110, e111, e112, e113, e114, e115, e116, e117, e118, e119, e120, e121, e122, e123, e124, e125, e126, e127, e128, e129, e130, e131, e132, e133, e134, e135, e136, e137, e138, e139, e140, e141, e142, e143, e144, e145, e146, e147, e148, e149, e150], defers := [] } W) := Lib.hid (fun e0 e1 e2 e3 e4 e5 e6 e7 e8 e9 e10 e11 e12 e13 e14 e15 e16 e17 e18 e19 e20 e21 e22 e23 e24 e25 e26 e27 e28 e29 e30 e31 e32 e33 e34 e35 e36 e37 e38 e39 e40 e41 e42 e43 e44 e45 e46 e47 e48 e49 e50 e51 e52 e53 e54 e55 e56 e57 e58 e59 e60 e61 e62 e63 e64 e65 e66 e67 e68 e69 e70 e71 e72 e73 e74 e75 e76 e77 e78 e79 e80 e81 e82 e83 e84 e85 e86 e87 e88 e89 e90 e91 e92 e93 e94 e95 e96 e97 e98 e99 e100 e101 e102 e103 e104 e105 e106 e107 e108 e109 e110 e111 e112 e113 e114 e115 e116 e117 e118 e119 e120 e121 e122 e123 e124 e125 e126 e127 e128 e129 e130 e131 e132 e133 e134 e135 e136 e137 e138 e139 e140 e141 e142 e143 e144 e145 e146 e147 e148 e149 e150 => tw_e7 w W hbw e0 e1 e2 e3 e4 e5 e6 e7 e8 e9 e10 e11 e12 e13 e14 e15 e16 e17 e18 e19 e20 e21 e22 e23 e24 e25 e26 e27 e28 e29 e30 e31 e32 e33 e34 e35 e36 e37 e38 e39 e40 e41 e42 e43 e44 e45 e46 e47 e48 e49 e50 e51 e52 e53 e54 e55 e56 e57 e58 e59 e60 e61 e62 e63 e64 e65 e66 e67 e68 e69 e70 e71 e72 e73 e74 e75 e76 e77 e78 e79 e80 e81 e82 e83 e84 e85 e86 e87 e88 e89 e90 e91 e92 e93 e94 e95 e96 e97 e98 e99 e100 e101 e102 e103 e104 e105 e106 e107 e108 e109 e110 e111 e112 e113 e114 e115 e116 e117 e118 e119 e120 e121 e122 e123 e124 e125 e126 e127 e128 e129 e130 e131 e132 e133 e134 e135 e136 e137 e138 e139 e140 e141 e142 e143 e144 e145 e146 e147 e148 e149 e150)
 have HT : Hid (∀ k, x.roles.length = k → 0 < k → k < 64 → ∀ Q : Exit → Act → World → Prop, (∀ W', Below w.heap.size w W' → ∀ (f0 f1 f2 f3 f4 f5 f6 f7 f9 f10 f11 f12 f13 f14 f15 f16 f17 f18 f19 f20 f21 f22 f23 f24 f25 f26 f27 f28 f29 f30 f31 f32 f33 f34 f35 f36 f37 f38 f39 f40 f41 f42 f43 f44 f45 f46 f47 f48 f49 f50 f51 f52 f53 f54 f55 f56 f57 f58 f59 f60 f61 f62 f63 f64 f65 f66 f67 f68 f69 f70 f71 f72 f73 f74 f75 f76 f77 f78 f79 f80 f81 f82 f83 f84 f85 f86 f87 f88 f89 f90 f91 f92 f93 f94 f95 f96 f97 f98 f99 f100 f101 f102 f103 f104 f105 f106 f107 f108 f109 f110 f111 f112 f113 f114 f115 f116 f117 f118 f119 f120 f121 f122 f123 f124 f125 f126 f127 f128 f129 f130 f131 f132 f133 f134 f135 f136 f137 f138 f139 f140 f141 f142 f143 f144 f145 f146 f147 f148 f149 f150 : Value), Q .ret { tmps := #[f0, f1, f2, f3, f4, f5, f6, f7, .bool true, f9, f10, f11, f12, f13, f14, f15, f16, f17, f18, f19, f20, f21, f22, f23, f24, f25, f26, f27, f28, f29, f30, f31, f32, f33, f34, f35, f36, f37, f38, f39, f40, f41, f42, f43, f44, f45, f46, f47, f48, f49, f50, f51, f52, f53, f54, f55, f56, f57, f58, f59, f60, f61, f62, f63, f64, f65, f66, f67, f68, f69, f70, f71, f72, f73, f74, f75, f76, f77, f78, f79, f80, f81, f82, f83, f84, f85, f86, f87, f88, f89, f90, f91, f92, f93, f94, f95, f96, f97, f98, f99, f100, f101, f102, f103, f104, f105, f106, f107, f108, f109, f110, f111, f112, f113, f114, f115, f116, f117, f118, f119, f120, f121, f122, f123, f124, f125, f126, f127, f128, f129, f130, f131, f132, f133, f134, f135, f136, f137, f138, f139, f140, f141, f142, f143, f144, f145, f146, f147, f148, f149, f150], defers := [] } W') → ∀ (e0 e1 e4 e5 e6 e7 e8 e9 e10 e12 e13 e14 e15 e17 e18 e19 e20 e21 e22 e23 e24 e25 e26 e27 e28 e29 e30 e31 e32 e33 e34 e35 e36 e37 e38 e39 e40 e41 e42 e43 e44 e45 e46 e47 e48 e49 e50 e51 e52 e53 e54 e55 e56 e57 e58 e59 e60 e61 e62 e63 e64 e65 e66 e67 e68 e69 e70 e71 e72 e73 e74 e75 e76 e77 e78 e79 e80 e81 e82 e83 e84 e85 e86 e87 e88 e89 e90 e91 e92 e93 e94 e95 e96 e97 e98 e99 e100 e101 e102 e103 e104 e105 e106 e107 e108 e109 e110 e111 e112 e113 e114 e115 e116 e117 e118 e119 e120 e121 e122 e123 e124 e125 e126 e127 e128 e129 e130 e131 e132 e133 e134 e135 e136 e137 e138 e139 e140 e141 e142 e143 e144 e145 e146 e147 e148 e149 e150 : Value), then7n6.wp Try.prog Q { tmps := #[e0, e1, .int .u8 (at_ : Nat), .int .u8 (wh : Nat), e4, e5, e6, e7, e8, e9, e10, .pointer (some ⟨X, 0, none⟩), e12, e13, e14, e15, .int .i64 (k : Nat), e17, e18, e19, e20, e21, e22, e23, e24, e25, e26, e27, e28, e29, e30, e31, e32, e33, e34, e35, e36, e37, e38, e39, e40, e41, e42, e43, e44, e45, e46, e47, e48, e49, e50, e51, e52, e53, e54, e55, e56, e57, e58, e59, e60, e61, e62, e63, e64, e65, e66, e67, e68, e69, e70, e71, e72, e73, e74, e75, e76, e77, e78, e79, e80, e81, e82, e83, e84, e85, e86, e87, e88, e89, e90, e91, e92, e93, e94, e95, e96, e97, e98, e99, e100, e101, e102, e103, e104, e105, e106, e107, e108, e109, e110, e111, e112, e113, e114, e115, e116, e117, e118, e119, e120, e121, e122, e123, e124, e125, e126, e127, e128, e129, e130, e131, e132, e133, e134, e135, e136, e137, e138, e139, e140, e141, e142, e143, e144, e145, e146, e147, e148, e149, e150], defers := [] } W) := Lib.hid (fun k h1 h2 h3 Q hQ => tw_then6 s ns w x W0 W X k at_ wh hA hcp hb hX0 hX he h0 ha hw h1 h2 h3 Q hQ)
 clear hA hcp hX0 hX he h0
 generalize hk : x.roles.length = k at *
 rw [tstep6]
 refine wp_seq_thenQ (fun K hK => ?_)
 have HK := Lib.hid hK
 clear hK
 conv => arg 2; whnf
 cases phrase with
 | true =>
  go_wp2_with fail
  exact HK.out _ _ (HN.out _ _ _ _ _ _ _ _ _ _ _ _ _ _ _ _ _ _ _ _ _ _ _ _ _ _ _ _ _ _ _ _ _ _ _ _ _ _ _ _ _ _ _ _ _ _ _ _ _ _ _ _ _ _ _ _ _ _ _ _ _ _ _ _ _ _ _ _ _ _ _ _ _ _ _ _ _ _ _ _ _ _ _ _ _ _ _ _ _ _ _ _ _ _ _ _ _ _ _ _ _ _ _ _ _ _ _ _ _ _ _ _ _ _ _ _ _ _ _ _ _ _ _ _ _ _ _ _ _ _ _ _ _ _ _ _ _ _ _ _ _ _ _ _ _ _ _ _ _ _ _)
 | false =>
  by_cases hk0 : 0 < k
  ·by_cases hk64 : k < 64
   ·have hq1 : (0 : Int) < (k : Int) := by omega
    have hq2 : (k : Int) < 64 := by omega
    change Code.wp Try.prog (.seq (fstC elem7n6) (.seq (fstC (sndC elem7n6)) (.cond (.tmp 103) then7n6 .skip))) _ _ _
    refine wp_seq_thenQ (fun K1 hK1 => ?_)
    have HK1 := Lib.hid hK1
    clear hK1
    conv => arg 2; whnf
    go_wp2_with fail
    refine HK1.out _ _ ?_
    clear HK1 K1
    refine wp_seq_thenQ (fun K1 hK1 => ?_)
    have HK1 := Lib.hid hK1
    clear hK1
    conv => arg 2; whnf
    go_wp2_with fail
    refine HK1.out _ _ ?_
    clear HK1 K1
    refine wp_cond_true rfl ?_
    refine HT.out k rfl hk0 hk64 _ (fun W' hW' => ?_) _ _ _ _ _ _ _ _ _ _ _ _ _ _ _ _ _ _ _ _ _ _ _ _ _ _ _ _ _ _ _ _ _ _ _ _ _ _ _ _ _ _ _ _ _ _ _ _ _ _ _ _ _ _ _ _ _ _ _ _ _ _ _ _ _ _ _ _ _ _ _ _ _ _ _ _ _ _ _ _ _ _ _ _ _ _ _ _ _ _ _ _ _ _ _ _ _ _ _ _ _ _ _ _ _ _ _ _ _ _ _ _ _ _ _ _ _ _ _ _ _ _ _ _ _ _ _ _ _ _ _ _ _ _ _ _ _ _ _ _ _ _ _ _ _ _ _
    intros
    simp only [Exit.then]
    go_ret
    exact ⟨rfl, hW'⟩
   ·have hq1 : (0 : Int) < (k : Int) := by omega
    have hq2 : ¬ (k : Int) < 64 := by omega
    go_wp2_with fail
    exact HK.out _ _ (HN.out _ _ _ _ _ _ _ _ _ _ _ _ _ _ _ _ _ _ _ _ _ _ _ _ _ _ _ _ _ _ _ _ _ _ _ _ _ _ _ _ _ _ _ _ _ _ _ _ _ _ _ _ _ _ _ _ _ _ _ _ _ _ _ _ _ _ _ _ _ _ _ _ _ _ _ _ _ _ _ _ _ _ _ _ _ _ _ _ _ _ _ _ _ _ _ _ _ _ _ _ _ _ _ _ _ _ _ _ _ _ _ _ _ _ _ _ _ _ _ _ _ _ _ _ _ _ _ _ _ _ _ _ _ _ _ _ _ _ _ _ _ _ _ _ _ _ _ _ _ _ _)
  ·have hq1 : ¬ (0 : Int) < (k : Int) := by omega
   go_wp2_with fail
   exact HK.out _ _ (HN.out _ _ _ _ _ _ _ _ _ _ _ _ _ _ _ _ _ _ _ _ _ _ _ _ _ _ _ _ _ _ _ _ _ _ _ _ _ _ _ _ _ _ _ _ _ _ _ _ _ _ _ _ _ _ _ _ _ _ _ _ _ _ _ _ _ _ _ _ _ _ _ _ _ _ _ _ _ _ _ _ _ _ _ _ _ _ _ _ _ _ _ _ _ _ _ _ _ _ _ _ _ _ _ _ _ _ _ _ _ _ _ _ _ _ _ _ _ _ _ _ _ _ _ _ _ _ _ _ _ _ _ _ _ _ _ _ _ _ _ _ _ _ _ _ _ _ _ _ _ _ _)
set_option maxRecDepth 100000 in
set_option maxHeartbeats 16000000 in
theorem tw_e5 (s : Ls) (ns : List Int) (w : World) (x : Ls) (W0 W : World) (A X at_ wh : Nat) (phrase : Bool) (hA : s.At w) (hcp : CpW s ns w x W0) (hb : Below W0.heap.size W0 W) (hX0 : W0.heap.size ≤ X) (hX : W.heap[X]? = some (.cells x.cells 30 (0, 0))) (he : ∀ V, Below w.heap.size w V → Env V) (h0 : resE s.strip ns = 0) (ha : at_ < 256) (hw : wh < 256) (e0 e4 e5 e6 e7 e8 e9 e10 e12 e13 e14 e15 e16 e17 e18 e19 e20 e21 e22 e23 e24 e25 e26 e27 e28 e29 e30 e31 e32 e33 e34 e35 e36 e37 e38 e39 e40 e41 e42 e43 e44 e45 e46 e47 e48 e49 e50 e51 e52 e53 e54 e55 e56 e57 e58 e59 e60 e61 e62 e63 e64 e65 e66 e67 e68 e69 e70 e71 e72 e73 e74 e75 e76 e77 e78 e79 e80 e81 e82 e83 e84 e85 e86 e87 e88 e89 e90 e91 e92 e93 e94 e95 e96 e97 e98 e99 e100 e101 e102 e103 e104 e105 e106 e107 e108 e109 e110 e111 e112 e113 e114 e115 e116 e117 e118 e119 e120 e121 e122 e123 e124 e125 e126 e127 e128 e129 e130 e131 e132 e133 e134 e135 e136 e137 e138 e139 e140 e141 e142 e143 e144 e145 e146 e147 e148 e149 e150 : Value) :
  (lastPart 5 code7).wp Try.prog (bodyPost Try.prog Try.f7 (fun e w' => e = .returned (.bool true) ∧ Below w.heap.size w w')) { tmps := #[e0, .bool phrase, .int .u8 (at_ : Nat), .int .u8 (wh : Nat), e4, e5, e6, e7, e8, e9, e10, .pointer (some ⟨X, 0, none⟩), e12, e13, e14, e15, e16, e17, e18, e19, e20, e21, e22, e23, e24, e25, e26, e27, e28, e29, e30, e31, e32, e33, e34, e35, e36, e37, e38, e39, e40, e41, e42, e43, e44, e45, e46, e47, e48, e49, e50, e51, e52, e53, e54, e55, e56, e57, e58, e59, e60, e61, e62, e63, e64, e65, e66, e67, e68, e69, e70, e71, e72, e73, e74, e75, e76, e77, e78, e79, e80, e81, e82, e83, e84, e85, e86, e87, e88, e89, e90, e91, e92, e93, e94, e95, e96, e97, e98, e99, e100, e101, e102, e103, e104, e105, e106, e107, e108, e109, e110, e111, e112, e113, e114, e115, e116, e117, e118, e119, e120, e121, e122, e123, e124, e125, e126, e127, e128, e129, e130, e131, e132, e133, e134, e135, e136, e137, e138, e139, e140, e141, e142, e143, e144, e145, e146, e147, e148, e149, e150], defers := [] } W := by
 have c10 : W.cell? ⟨X, 10, none⟩ = some (.slice x.fa x.phrases.length x.fc) := cell_at hX 10 rfl
 have hbw : Below w.heap.size w W := hcp.below.trans (hb.mono hcp.below.size)
 have HN : Hid (∀ (e0 e4 e5 e6 e7 e8 e9 e10 e12 e13 e14 e15 e16 e17 e18 e19 e20 e21 e22 e23 e24 e25 e26 e27 e28 e29 e30 e31 e32 e33 e34 e35 e36 e37 e38 e39 e40 e41 e42 e43 e44 e45 e46 e47 e48 e49 e50 e51 e52 e53 e54 e55 e56 e57 e58 e59 e60 e61 e62 e63 e64 e65 e66 e67 e68 e69 e70 e71 e72 e73 e74 e75 e76 e77 e78 e79 e80 e81 e82 e83 e84 e85 e86 e87 e88 e89 e90 e91 e92 e93 e94 e95 e96 e97 e98 e99 e100 e101 e102 e103 e104 e105 e106 e107 e108 e109 e110 e111 e112 e113 e114 e115 e116 e117 e118 e119 e120 e121 e122 e123 e124 e125 e126 e127 e128 e129 e130 e131 e132 e133 e134 e135 e136 e137 e138 e139 e140 e141 e142 e143 e144 e145 e146 e147 e148 e149 e150 : Value), (lastPart 6 code7).wp Try.prog (bodyPost Try.prog Try.f7 (fun e w' => e = .returned (.bool true) ∧ Below w.heap.size w w')) { tmps := #[e0, .bool phrase, .int .u8 (at_ : Nat), .int .u8 (wh : Nat), e4, e5, e6, e7, e8, e9, e10, .pointer (some ⟨X, 0, none⟩), e12, e13, e14, e15, e16, e17, e18, e19, e20, e21, e22, e23, e24, e25, e26, e27, e28, e29, e30, e31, e32, e33, e34, e35, e36, e37, e38, e39, e40, e41, e42, e43, e44, e45, e46, e47, e48, e49, e50, e51, e52, e53, e54, e55, e56, e57, e58, e59, e60, e61, e62, e63, e64, e65, e66, e67, e68, e69, e70, e71, e72, e73, e74, e75, e76, e77, e78, e79, e80, e81, e82, e83, e84, e85, e86, e87, e88, e89, e90, e91, e92, e93, e94, e95, e96, e97, e98, e99, e100, e101, e102, e103, e104, e105, e106, e107, e108, e109, e110, e111, e112, e113, e114, e115, e116, e117, e118, e119, e120, e121, e122, e123, e124, e125, e126, e127, e128, e129, e130, e131, e132, e133, e134, e135, e136, e137, e138, e139, e140, e141, e142, e143, e144, e145, e146, e147, e148, e149, e150], defers := [] } W) := Lib.hid (tw_e6 s ns w x W0 W A X at_ wh phrase hA hcp hb hX0 hX he h0 ha hw)
 have HT : Hid (∀ k, x.phrases.length = k → 0 < k → k < 64 → ∀ Q : Exit → Act → World → Prop, (∀ W', Below w.heap.size w W' → ∀ (f0 f1 f2 f3 f4 f5 f6 f7 f9 f10 f11 f12 f13 f14 f15 f16 f17 f18 f19 f20 f21 f22 f23 f24 f25 f26 f27 f28 f29 f30 f31 f32 f33 f34 f35 f36 f37 f38 f39 f40 f41 f42 f43 f44 f45 f46 f47 f48 f49 f50 f51 f52 f53 f54 f55 f56 f57 f58 f59 f60 f61 f62 f63 f64 f65 f66 f67 f68 f69 f70 f71 f72 f73 f74 f75 f76 f77 f78 f79 f80 f81 f82 f83 f84 f85 f86 f87 f88 f89 f90 f91 f92 f93 f94 f95 f96 f97 f98 f99 f100 f101 f102 f103 f104 f105 f106 f107 f108 f109 f110 f111 f112 f113 f114 f115 f116 f117 f118 f119 f120 f121 f122 f123 f124 f125 f126 f127 f128 f129 f130 f131 f132 f133 f134 f135 f136 f137 f138 f139 f140 f141 f142 f143 f144 f145 f146 f147 f148 f149 f150 : Value), Q .ret { tmps := #[f0, f1, f2, f3, f4, f5, f6, f7, .bool true, f9, f10, f11, f12, f13, f14, f15, f16, f17, f18, f19, f20, f21, f22, f23, f24, f25, f26, f27, f28, f29, f30, f31, f32, f33, f34, f35, f36, f37, f38, f39, f40, f41, f42, f43, f44, f45, f46, f47, f48, f49, f50, f51, f52, f53, f54, f55, f56, f57, f58, f59, f60, f61, f62, f63, f64, f65, f66, f67, f68, f69, f70, f71, f72, f73, f74, f75, f76, f77, f78, f79, f80, f81, f82, f83, f84, f85, f86, f87, f88, f89, f90, f91, f92, f93, f94, f95, f96, f97, f98, f99, f100, f101, f102, f103, f104, f105, f106, f107, f108, f109, f110, f111, f112, f113, f114, f115, f116, f117, f118, f119, f120, f121, f122, f123, f124, f125, f126, f127, f128, f129, f130, f131, f132, f133, f134, f135, f136, f137, f138, f139, f140, f141, f142, f143, f144, f145, f146, f147, f148, f149, f150], defers := [] } W') → ∀ (e0 e1 e4 e5 e6 e7 e8 e9 e10 e13 e14 e15 e16 e17 e18 e19 e20 e21 e22 e23 e24 e25 e26 e27 e28 e29 e30 e31 e32 e33 e34 e35 e36 e37 e38 e39 e40 e41 e42 e43 e44 e45 e46 e47 e48 e49 e50 e51 e52 e53 e54 e55 e56 e57 e58 e59 e60 e61 e62 e63 e64 e65 e66 e67 e68 e69 e70 e71 e72 e73 e74 e75 e76 e77 e78 e79 e80 e81 e82 e83 e84 e85 e86 e87 e88 e89 e90 e91 e92 e93 e94 e95 e96 e97 e98 e99 e100 e101 e102 e103 e104 e105 e106 e107 e108 e109 e110 e111 e112 e113 e114 e115 e116 e117 e118 e119 e120 e121 e122 e123 e124 e125 e126 e127 e128 e129 e130 e131 e132 e133 e134 e135 e136 e137 e138 e139 e140 e141 e142 e143 e144 e145 e146 e147 e148 e149 e150 : Value), then7n5.wp Try.prog Q { tmps := #[e0, e1, .int .u8 (at_ : Nat), .int .u8 (wh : Nat), e4, e5, e6, e7, e8, e9, e10, .pointer (some ⟨X, 0, none⟩), .int .i64 (k : Nat), e13, e14, e15, e16, e17, e18, e19, e20, e21, e22, e23, e24, e25, e26, e27, e28, e29, e30, e31, e32, e33, e34, e35, e36, e37, e38, e39, e40, e41, e42, e43, e44, e45, e46, e47, e48, e49, e50, e51, e52, e53, e54, e55, e56, e57, e58, e59, e60, e61, e62, e63, e64, e65, e66, e67, e68, e69, e70, e71, e72, e73, e74, e75, e76, e77, e78, e79, e80, e81, e82, e83, e84, e85, e86, e87, e88, e89, e90, e91, e92, e93, e94, e95, e96, e97, e98, e99, e100, e101, e102, e103, e104, e105, e106, e107, e108, e109, e110, e111, e112, e113, e114, e115, e116, e117, e118, e119, e120, e121, e122, e123, e124, e125, e126, e127, e128, e129, e130, e131, e132, e133, e134, e135, e136, e137, e138, e139, e140, e141, e142, e143, e144, e145, e146, e147, e148, e149, e150], defers := [] } W) := Lib.hid (fun k h1 h2 h3 Q hQ => tw_then5 s ns w x W0 W X k at_ wh hA hcp hb hX0 hX he h0 ha hw h1 h2 h3 Q hQ)
 clear hA hcp hX0 hX he h0
 generalize hk : x.phrases.length = k at *
 rw [tstep5]
 refine wp_seq_thenQ (fun K hK => ?_)
 have HK := Lib.hid hK
 clear hK
 conv => arg 2; whnf
 cases phrase with
 | false =>
  go_wp2_with fail
  exact HK.out _ _ (HN.out _ _ _ _ _ _ _ _ _ _ _ _ _ _ _ _ _ _ _ _ _ _ _ _ _ _ _ _ _ _ _ _ _ _ _ _ _ _ _ _ _ _ _ _ _ _ _ _ _ _ _ _ _ _ _ _ _ _ _ _ _ _ _ _ _ _ _ _ _ _ _ _ _ _ _ _ _ _ _ _ _ _ _ _ _ _ _ _ _ _ _ _ _ _ _ _ _ _ _ _ _ _ _ _ _ _ _ _ _ _ _ _ _ _ _ _ _ _ _ _ _ _ _ _ _ _ _ _ _ _ _ _ _ _ _ _ _ _ _ _ _ _ _ _ _ _ _)
 | true =>
  by_cases hk0 : 0 < k
  ·by_cases hk64 : k < 64
   ·have hq1 : (0 : Int) < (k : Int) := by omega
    have hq2 : (k : Int) < 64 := by omega
    change Code.wp Try.prog (.seq (fstC elem7n5) (.seq (fstC (sndC elem7n5)) (.cond (.tmp 45) then7n5 .skip))) _ _ _
    refine wp_seq_thenQ (fun K1 hK1 => ?_)
    have HK1 := Lib.hid hK1
    clear hK1
    conv => arg 2; whnf
    go_wp2_with fail
    refine HK1.out _ _ ?_
    clear HK1 K1
    refine wp_seq_thenQ (fun K1 hK1 => ?_)
    have HK1 := Lib.hid hK1
    clear hK1
    conv => arg 2; whnf
    go_wp2_with fail
    refine HK1.out _ _ ?_
    clear HK1 K1
    refine wp_cond_true rfl ?_
    refine HT.out k rfl hk0 hk64 _ (fun W' hW' => ?_) _ _ _ _ _ _ _ _ _ _ _ _ _ _ _ _ _ _ _ _ _ _ _ _ _ _ _ _ _ _ _ _ _ _ _ _ _ _ _ _ _ _ _ _ _ _ _ _ _ _ _ _ _ _ _ _ _ _ _ _ _ _ _ _ _ _ _ _ _ _ _ _ _ _ _ _ _ _ _ _ _ _ _ _ _ _ _ _ _ _ _ _ _ _ _ _ _ _ _ _ _ _ _ _ _ _ _ _ _ _ _ _ _ _ _ _ _ _ _ _ _ _ _ _ _ _ _ _ _ _ _ _ _ _ _ _ _ _ _ _ _ _ _ _ _ _ _
    intros
    simp only [Exit.then]
    go_ret
    exact ⟨rfl, hW'⟩
   ·have hq1 : (0 : Int) < (k : Int) := by omega
    have hq2 : ¬ (k : Int) < 64 := by omega
    go_wp2_with fail
    exact HK.out _ _ (HN.out _ _ _ _ _ _ _ _ _ _ _ _ _ _ _ _ _ _ _ _ _ _ _ _ _ _ _ _ _ _ _ _ _ _ _ _ _ _ _ _ _ _ _ _ _ _ _ _ _ _ _ _ _ _ _ _ _ _ _ _ _ _ _ _ _ _ _ _ _ _ _ _ _ _ _ _ _ _ _ _ _ _ _ _ _ _ _ _ _ _ _ _ _ _ _ _ _ _ _ _ _ _ _ _ _ _ _ _ _ _ _ _ _ _ _ _ _ _ _ _ _ _ _ _ _ _ _ _ _ _ _ _ _ _ _ _ _ _ _ _ _ _ _ _ _ _ _)
  ·have hq1 : ¬ (0 : Int) < (k : Int) := by omega
   go_wp2_with fail
   exact HK.out _ _ (HN.out _ _ _ _ _ _ _ _ _ _ _ _ _ _ _ _ _ _ _ _ _ _ _ _ _ _ _ _ _ _ _ _ _ _ _ _ _ _ _ _ _ _ _ _ _ _ _ _ _ _ _ _ _ _ _ _ _ _ _ _ _ _ _ _ _ _ _ _ _ _ _ _ _ _ _ _ _ _ _ _ _ _ _ _ _ _ _ _ _ _ _ _ _ _ _ _ _ _ _ _ _ _ _ _ _ _ _ _ _ _ _ _ _ _ _ _ _ _ _ _ _ _ _ _ _ _ _ _ _ _ _ _ _ _ _ _ _ _ _ _ _ _ _ _ _ _ _)
end Go.Proofs.Ytpnbpepkoekkoaa
end
section
namespace Go.Proofs.Ytpnbpepkoekkoaa
open Go Go.RowKit Go.Deep
structure LawIn (s : Ls) (ns : List Int) (w : World) : Prop where
 at_ : s.At w
 ns : NsAt w s.refs ns
 env : ∀ V, Below w.heap.size w V → Env V
 fit : s.mfit
structure LawW (s : Ls) (w W : World) : Prop where
 below : Below w.heap.size w W
 box : W.heap[w.heap.size]? = some (.cells s.cells 30 (0, 0))
theorem LawW.next {s : Ls} {w W W' : World} (h : LawW s w W) (hb : Below W.heap.size W W') : LawW s w W' := ⟨thenB h.below hb, keepO hb h.box⟩
set_option maxRecDepth 100000 in
set_option maxHeartbeats 16000000 in
theorem twice_any (s : Ls) (ns : List Int) (w : World) (at_ wh : Nat) (phrase : Bool) (h : LawIn s ns w) (ha : at_ < 256) (hw : wh < 256) :
  Calls Try.prog 7 #[s.val, .bool phrase, .int .u8 (at_ : Nat), .int .u8 (wh : Nat)] w (fun e w' => e = .returned (.bool true) ∧ Below w.heap.size w w') := by
 obtain ⟨hA, hN, he, hm⟩ := h
 obtain ⟨W1, hW1, h1⟩ : ∃ W1, w.alloc (.cells s.cells 30) = W1 ∧ LawW s w W1 := ⟨_, rfl, (Below.refl _ w).alloc (Nat.le_refl _) _, heap_alloc_new w _⟩
 obtain ⟨cs, hcs⟩ : ∃ cs, s.cells = cs := ⟨_, rfl⟩
 have hsv : s.val = .agg cs := by rw [← hcs]; rfl
 have hW1' : w.alloc (.cells cs 30) = W1 := by rw [← hcs]; exact hW1
 rw [hsv]
 have HW1 := Lib.hid hW1'; have HCS := Lib.hid hcs; have HA := Lib.hid hA; have HN := Lib.hid hN; have HE := Lib.hid he; have HM := Lib.hid hm
 have H1 := Lib.hid h1
 clear hA hN he hm hcs hW1 hW1' hsv h1
 go_enter Try.func7, Try.ntmps7
 change Code.wp Try.prog (.seq elem7n0 (lastPart 1 code7)) _ _ _
 refine wp_seq_thenQ (fun K hK => ?_)
 have HK := Lib.hid hK
 clear hK
 conv => arg 2; whnf
 go_wp2_with fail
 refine HK.out _ _ ?_
 clear HK K
 rw [HW1.out]
 -- sane
 rw [tstep1]
 refine wp_seq_thenQ (fun K hK => ?_)
 have HK := Lib.hid hK
 clear hK
 conv => arg 2; whnf
 have C := sane_any W1 (HE.out _ H1.out.below)
 have HC := Lib.hid C
 clear C
 go_wp2_with (go_at_call 13; refine HC.out.mono ?_; rintro e V ⟨rfl, hv⟩)
 refine HK.out _ _ ?_
 have H2 := Lib.hid (H1.out.next hv)
 clear HK K HC H1 HW1 hv
 generalize V = W2 at *
 -- Few
 rw [tstep2]
 refine wp_seq_thenQ (fun K hK => ?_)
 have HK := Lib.hid hK
 clear hK
 conv => arg 2; whnf
 have C := few_any s W2 (HA.out.below H2.out.below) HM.out
 have HC := Lib.hid C
 have HL := Lib.hid H2.out.box
 clear C
 go_wp2_with (refine wpList_load_row rfl 30 _ rfl w.heap.size rfl 30 s.cells (0, 0) _ HL.out Try.underlying30 rfl (by kernel_rfl) ?_; simp only [Act.put, List.setIfInBounds_toArray, List.set_cons_zero, List.set_cons_succ])
 unfold Ls.val at HC
 refine HC.out.mono ?_
 rintro e V ⟨b, rfl, _, hv⟩
 have H3 := Lib.hid (H2.out.next hv)
 clear HC HL H2 hv W1 W2
 cases b with
 | false =>
  go_wp2_with fail
  go_ret
  exact ⟨rfl, H3.out.below⟩
 | true =>
 go_wp2_with fail
 refine HK.out _ _ ?_
 clear HK K
 generalize V = W3 at *
 -- Resolve
 rw [tstep3]
 refine wp_seq_thenQ (fun K hK => ?_)
 have HK := Lib.hid hK
 clear hK
 conv => arg 2; whnf
 have hb3 := H3.out.below
 have C : Calls Try.prog 15 #[.agg s.cells] W3 (CodeP (resE s.strip ns) W3) := res_code s ns W3 (HA.out.below hb3) (HN.out.below hb3) (HE.out _ hb3) _ rfl
 have HC := Lib.hid C
 have HL := Lib.hid H3.out.box
 clear C hb3
 unfold CodeP at HC
 go_wp2_with (refine wpList_load_row rfl 30 _ rfl w.heap.size rfl 30 s.cells (0, 0) _ HL.out Try.underlying30 rfl (by kernel_rfl) ?_; simp only [Act.put, List.setIfInBounds_toArray, List.set_cons_zero, List.set_cons_succ])
 by_cases h0 : resE s.strip ns = 0
 ·rw [h0] at HC
  refine HC.out.mono ?_
  rintro e V ⟨n, i1, i2, i3, i4, i5, a6, a7, a8, a9, a10, a11, n6, n7, n8, n9, n10, n11, q6, q7, q8, q9, q10, q11, rfl, hv⟩
  dsimp only
  have H4 := Lib.hid ((H3.out.next hv).next ((Below.refl V.heap.size V).alloc (Nat.le_refl _) (.cells #[sv n, .int .i64 i1, .int .i64 i2, .int .i64 i3, .int .i64 i4, .int .i64 i5, .slice a6 n6 q6, .slice a7 n7 q7, .slice a8 n8 q8, .slice a9 n9 q9, .slice a10 n10 q10, .slice a11 n11 q11] 30)))
  have H0 := Lib.hid h0
  clear HC HL H3 hv h0
  go_wp2_with fail
  refine HK.out _ _ ?_
  clear HK K
  generalize V.alloc (.cells #[sv n, .int .i64 i1, .int .i64 i2, .int .i64 i3, .int .i64 i4, .int .i64 i5, .slice a6 n6 q6, .slice a7 n7 q7, .slice a8 n8 q8, .slice a9 n9 q9, .slice a10 n10 q10, .slice a11 n11 q11] 30) = W4 at *
  -- copied
  rw [tstep4]
  refine wp_seq_thenQ (fun K hK => ?_)
  have HK := Lib.hid hK
  clear hK
  conv => arg 2; whnf
  have hb4 := H4.out.below
  have C := copied_any s ns W4 (HA.out.below hb4) (HN.out.below hb4) (Ls.lims_cp (res_zero H0.out).1)
  have HC := Lib.hid C
  have HL := Lib.hid H4.out.box
  clear C hb4
  unfold Ls.val at HC
  go_wp2_with (refine wpList_load_row rfl 30 _ rfl w.heap.size rfl 30 s.cells (0, 0) _ HL.out Try.underlying30 rfl (by kernel_rfl) ?_; simp only [Act.put, List.setIfInBounds_toArray, List.set_cons_zero, List.set_cons_succ])
  refine HC.out.mono ?_
  intro e V hv
  obtain ⟨x, rfl, hcp⟩ := CpW.of hv
  unfold Ls.val
  obtain ⟨W5, hW5, hX5, hb5⟩ : ∃ W5, V.alloc (.cells x.cells 30) = W5 ∧ W5.heap[V.heap.size]? = some (.cells x.cells 30 (0, 0)) ∧ Below V.heap.size V W5 := ⟨_, rfl, heap_alloc_new V _, (Below.refl _ _).alloc (Nat.le_refl _) _⟩
  have HX5 := Lib.hid hX5; have HB5 := Lib.hid hb5
  unfold Ls.cells at hW5 ⊢
  have HW5 := Lib.hid hW5
  dsimp only
  have HCP := Lib.hid hcp
  clear HC HL hv hcp hX5 hb5 hW5
  go_wp2_with fail
  have e5 := HW5.out
  simp only [sv] at e5 ⊢
  refine HK.out _ _ ?_
  rw [e5]
  clear HK K e5 HW5
  have hcp := HCP.out
  have hb4 := H4.out.below
  have hcp' : CpW s ns w x V := ⟨hcp.strip, hcp.at_, hcp.ns, hcp.sep, fun r hr => ⟨Nat.le_trans hb4.size (hcp.refs r hr).1, (hcp.refs r hr).2⟩, ⟨own_base hcp.own.roles hb4.size, own_base hcp.own.phrases hb4.size, hcp.own.raf, hcp.own.faf, hcp.own.daf, hcp.own.ra, hcp.own.rf, hcp.own.rd, hcp.own.fd⟩, fun b hb => Nat.le_trans hb4.size (hcp.pown b hb), hb4.trans (hcp.below.mono hb4.size), hcp.tup⟩
  exact tw_e5 s ns w x V W5 w.heap.size V.heap.size at_ wh phrase HA.out hcp' HB5.out (Nat.le_refl _) HX5.out HE.out H0.out ha hw _ _ _ _ _ _ _ _ _ _ _ _ _ _ _ _ _ _ _ _ _ _ _ _ _ _ _ _ _ _ _ _ _ _ _ _ _ _ _ _ _ _ _ _ _ _ _ _ _ _ _ _ _ _ _ _ _ _ _ _ _ _ _ _ _ _ _ _ _ _ _ _ _ _ _ _ _ _ _ _ _ _ _ _ _ _ _ _ _ _ _ _ _ _ _ _ _ _ _ _ _ _ _ _ _ _ _ _ _ _ _ _ _ _ _ _ _ _ _ _ _ _ _ _ _ _ _ _ _ _ _ _ _ _ _ _ _ _ _ _ _ _ _ _ _ _ _
 ·have hne : (resE s.strip ns == 0) = false := by simpa using h0
  have hne2 : (resE s.strip ns != 0) = true := by simpa using h0
  generalize resE s.strip ns = c at *
  refine HC.out.mono ?_
  rintro e V ⟨n, i1, i2, i3, i4, i5, a6, a7, a8, a9, a10, a11, n6, n7, n8, n9, n10, n11, q6, q7, q8, q9, q10, q11, rfl, hv⟩
  dsimp only
  have HF := Lib.hid (thenB H3.out.below (thenB hv ((Below.refl V.heap.size V).alloc (Nat.le_refl _) (.cells #[sv n, .int .i64 i1, .int .i64 i2, .int .i64 i3, .int .i64 i4, .int .i64 i5, .slice a6 n6 q6, .slice a7 n7 q7, .slice a8 n8 q8, .slice a9 n9 q9, .slice a10 n10 q10, .slice a11 n11 q11] 30))))
  clear HC HL H3 hv
  go_wp2_with fail
  go_ret
  exact ⟨rfl, HF.out⟩
end Go.Proofs.Ytpnbpepkoekkoaa
end
