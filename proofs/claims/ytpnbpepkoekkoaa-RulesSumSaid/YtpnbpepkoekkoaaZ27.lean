/- Contracts and plain laws on the way to the statement: part 27. -/
import Derived.Test.YtpnbpepkoekkoaaZ26
set_option linter.unusedVariables false
set_option linter.unusedSimpArgs false
section
namespace Go.Proofs.Ytpnbpepkoekkoaa
open Go Go.RowKit Go.Shelf
theorem run_len_kv {κ : Type} [DecidableEq κ] {f : κ → Value} {P : Program} {T K E : TypeId} (hT : P.underlying T = some (.map K E)) {w : World} {b : Nat} {kvs : List (κ × Value)} (h : MapAt f w b kvs) (ty : TypeId) : (Builtin.len_ #[T] ty #[.map (some b)]).run P w = .ok (.int .i64 kvs.length) w := by
 obtain ⟨es, c, hb, he⟩ := h
 have hl : es.size = kvs.length := by simpa using congrArg List.length he
 simp [Builtin.len_, run_underlying hT, MapKept.run_getObj_map hb, goInt, Result.andThen, hl]
theorem Ph.Its.below' {w w' : World} {p : Ph} (h : p.Its w) (hb : Below w.heap.size w w') : p.Its w' := ⟨h.1, h.2.1, h.2.2.below hb⟩
theorem phAt_cp {w w' : World} (hb : Below w.heap.size w w') {b g : Nat} : ∀ {o o' : Nat} {ps : List Ph}, phAt w b o ps → Cp w b o w' g o' (2 * ps.length) → phAt w' g o' ps
 | _, _, [], _, _ => trivial
 | o, o', p :: r, ⟨⟨h1, h2, h3⟩, h⟩, hc => by
  have hc' : Cp w b o w' g o' (2 + 2 * r.length) := by
   have e : 2 * (p :: r).length = 2 + 2 * r.length := by simp only [List.length_cons]; omega
   rw [e] at hc; exact hc
  exact ⟨⟨hc' 0 _ (by omega) h1, hc' 1 _ (by omega) h2, h3.below' hb⟩, phAt_cp hb h hc'.from⟩
theorem danAt_cp {w w' : World} {b g : Nat} : ∀ {o o' : Nat} {ds : List Dan}, danAt w b o ds → Cp w b o w' g o' (6 * ds.length) → danAt w' g o' ds
 | _, _, [], _, _ => trivial
 | o, o', d :: r, ⟨⟨h1, h2, h3, h4⟩, h⟩, hc => by
  have hc' : Cp w b o w' g o' (6 + 6 * r.length) := by
   have e : 6 * (d :: r).length = 6 + 6 * r.length := by simp only [List.length_cons]; omega
   rw [e] at hc; exact hc
  exact ⟨⟨hc' 0 _ (by omega) h1, hc' 2 _ (by omega) h2, hc' 4 _ (by omega) h3, hc' 5 _ (by omega) h4⟩, danAt_cp h hc'.from⟩
theorem danNs_cp {w w' : World} {b g : Nat} : ∀ {o o' : Nat} {ds : List Dan} {ns : List Int}, NsAt w (danRefs b o ds) ns → Cp w b o w' g o' (6 * ds.length) → NsAt w' (danRefs g o' ds) ns
 | _, _, [], [], _, _ => trivial
 | _, _, [], _ :: _, h, _ => h.elim
 | _, _, _ :: _, [], h, _ => h.elim
 | _, _, _ :: _, [_], h, _ => h.2.elim
 | o, o', d :: r, n :: m :: ns, ⟨h1, h2, h3⟩, hc => by
  have hc' : Cp w b o w' g o' (6 + 6 * r.length) := by
   have e : 6 * (d :: r).length = 6 + 6 * r.length := by simp only [List.length_cons]; omega
   rw [e] at hc; exact hc
  exact ⟨hc' 1 _ (by omega) h1, hc' 3 _ (by omega) h2, danNs_cp h3 hc'.from⟩
theorem phRow {w : World} {b : Nat} : ∀ {o : Nat} {ps : List Ph}, phAt w b o ps → ∀ q, q < 2 * ps.length → ∃ v, w.cell? ⟨b, o + q, none⟩ = some v ∧ v.oneCell' = true
 | _, [], _, q, hq => by simp at hq
 | o, p :: r, ⟨⟨h1, h2, _⟩, h⟩, q, hq => by
  simp only [List.length_cons] at hq
  match q, hq with
  | 0, _ => exact ⟨_, h1, rfl⟩
  | 1, _ => exact ⟨_, h2, rfl⟩
  | q + 2, hq =>
   obtain ⟨v, k1, k2⟩ := phRow h q (by omega)
   exact ⟨v, by rw [show o + (q + 2) = o + 2 + q by omega]; exact k1, k2⟩
theorem danRow {w : World} {b : Nat} : ∀ {o : Nat} {ds : List Dan} {ns : List Int}, danAt w b o ds → NsAt w (danRefs b o ds) ns → ∀ q, q < 6 * ds.length → ∃ v, w.cell? ⟨b, o + q, none⟩ = some v ∧ v.oneCell' = true
 | _, [], _, _, _, q, hq => by simp at hq
 | _, _ :: _, [], _, h, _, _ => h.elim
 | _, _ :: _, [_], _, h, _, _ => h.2.elim
 | o, d :: r, n :: m :: ns, ⟨⟨h1, h2, h3, h4⟩, h⟩, ⟨n1, n2, n3⟩, q, hq => by
  simp only [List.length_cons] at hq
  match q, hq with
  | 0, _ => exact ⟨_, h1, rfl⟩
  | 1, _ => exact ⟨_, n1, rfl⟩
  | 2, _ => exact ⟨_, h2, rfl⟩
  | 3, _ => exact ⟨_, n2, rfl⟩
  | 4, _ => exact ⟨_, h3, rfl⟩
  | 5, _ => exact ⟨_, h4, rfl⟩
  | q + 6, hq =>
   obtain ⟨v, k1, k2⟩ := danRow h n3 q (by omega)
   exact ⟨v, by rw [show o + (q + 6) = o + 6 + q by omega]; exact k1, k2⟩
theorem clone_ph (fa : Option Addr) (fc n : Nat) (ps : List Ph) (w : World) (hn : ps.length = n) (hm : n ≤ 100000) (hf : ps = [] ∨ fa = some ⟨blk fa, off fa, none⟩) (hA : phAt w (blk fa) (off fa) ps) :
  Calls Try.prog 46 #[.slice fa n fc] w fun e w' => ∃ fa' fc', e = .returned (.slice fa' n fc') ∧ (RowNew w w' fa' n ∧ phAt w' (blk fa') 0 ps) ∧ Below w.heap.size w w' := by
 subst hn
 by_cases hz : ps = []
 ·subst hz
  refine (clone46 fa 0 fc [] w rfl (Nat.zero_le _) (fun _ => rfl) (fun a _ j u hj => by cases hj) (fun u hu => by cases hu)).mono ?_
  rintro e w' ⟨v', rfl, ho, hb⟩
  obtain ⟨ao, c, rfl, h1, _, _⟩ := own_rowNew (by omega) ho
  exact ⟨ao, c, rfl, ⟨h1, trivial⟩, hb⟩
 ·have hf' := hf.resolve_left hz
  obtain ⟨news, l1, l2, l3⟩ := read_row (phRow hA)
  refine (clone46 fa ps.length fc news w (by rw [l1]; omega) hm (fun e => by rw [e] at hf'; cases hf') (fun a ha j u hj => by
   rw [hf'] at ha; cases ha; rw [addr_plain]; exact l2 j u hj) l3).mono ?_
  rintro e w' ⟨v', rfl, ho, hb⟩
  obtain ⟨ao, c, rfl, h1, _, h3⟩ := own_rowNew (by omega) ho
  have hcp : Cp w (blk fa) (off fa) w' (blk ao) 0 (2 * ps.length) := fun q v hq hc => h3 q v (by
   have : q < news.length := by omega
   rw [List.getElem?_eq_getElem this]
   have h4 := l2 q _ (List.getElem?_eq_getElem this)
   rw [h4] at hc; exact hc)
  exact ⟨ao, c, rfl, ⟨h1, phAt_cp hb hA hcp⟩, hb⟩
theorem clone_dan (fa : Option Addr) (fc n : Nat) (ds : List Dan) (ns : List Int) (w : World) (hn : ds.length = n) (hm : n ≤ 100000) (hf : ds = [] ∨ fa = some ⟨blk fa, off fa, none⟩) (hA : danAt w (blk fa) (off fa) ds) (hN : NsAt w (danRefs (blk fa) (off fa) ds) ns) :
  Calls Try.prog 47 #[.slice fa n fc] w fun e w' => ∃ fa' fc', e = .returned (.slice fa' n fc') ∧ (RowNew w w' fa' n ∧ danAt w' (blk fa') 0 ds ∧ NsAt w' (danRefs (blk fa') 0 ds) ns) ∧ Below w.heap.size w w' := by
 subst hn
 by_cases hz : ds = []
 ·subst hz
  refine (clone47 fa 0 fc [] w rfl (Nat.zero_le _) (fun _ => rfl) (fun a _ j u hj => by cases hj) (fun u hu => by cases hu)).mono ?_
  rintro e w' ⟨v', rfl, ho, hb⟩
  obtain ⟨ao, c, rfl, h1, _, _⟩ := own_rowNew (by omega) ho
  cases ns with
  | nil => exact ⟨ao, c, rfl, ⟨h1, trivial, trivial⟩, hb⟩
  | cons => exact hN.elim
 ·have hf' := hf.resolve_left hz
  obtain ⟨news, l1, l2, l3⟩ := read_row (danRow hA hN)
  refine (clone47 fa ds.length fc news w (by rw [l1]; omega) hm (fun e => by rw [e] at hf'; cases hf') (fun a ha j u hj => by
   rw [hf'] at ha; cases ha; rw [addr_plain]; exact l2 j u hj) l3).mono ?_
  rintro e w' ⟨v', rfl, ho, hb⟩
  obtain ⟨ao, c, rfl, h1, _, h3⟩ := own_rowNew (by omega) ho
  have hcp : Cp w (blk fa) (off fa) w' (blk ao) 0 (6 * ds.length) := fun q v hq hc => h3 q v (by
   have : q < news.length := by omega
   rw [List.getElem?_eq_getElem this]
   have h4 := l2 q _ (List.getElem?_eq_getElem this)
   rw [h4] at hc; exact hc)
  exact ⟨ao, c, rfl, ⟨h1, danAt_cp hA hcp, danNs_cp hN hcp⟩, hb⟩
def cells7 (s : Ls) (fa : Option Addr) (fc : Nat) (da : Option Addr) (dc : Nat) : Array Value := #[sv s.name, .int .i64 s.wd, .int .i64 s.dp, .int .i64 s.bars, .int .i64 s.t0, .int .i64 s.t1, .slice s.ra s.roles.length s.rc, .slice s.ta s.tempos.length s.tc, .slice s.ua s.pauses.length s.uc, .slice s.sa s.spans.length s.sc, .slice fa s.phrases.length fc, .slice da s.dances.length dc]
structure R7 (s : Ls) (n2 : List Int) (X : Nat) (W : World) (fa : Option Addr) (fc : Nat) (da : Option Addr) (dc : Nat) (W' : World) : Prop where
 x : W'.heap[X]? = some (.cells (cells7 s fa fc da dc) 30 (0, 0))
 ph : phAt W' (blk fa) 0 s.phrases
 phn : RowNew W W' fa s.phrases.length
 dan : danAt W' (blk da) 0 s.dances
 dn : NsAt W' (danRefs (blk da) 0 s.dances) n2
 dnn : RowNew W W' da s.dances.length
 fd : s.dances ≠ [] → s.phrases ≠ [] → blk fa ≠ blk da
 but : ButOne X W W'
theorem RowNew.set {W V : World} {ao : Option Addr} {n : Nat} (h : RowNew W V ao n) (p : Addr) (v : Value) : RowNew W (V.setCell p v) ao n := by
 rcases h with h | ⟨h1, h2, h3⟩
 ·exact Or.inl h
 ·exact Or.inr ⟨h1, h2, h3.set p v⟩
theorem R7.make {s : Ls} {n2 : List Int} {X : Nat} {W V1 V2 V3 : World} {fa da : Option Addr} {fc dc nP nD : Nat} (hnP : s.phrases.length = nP) (hnD : s.dances.length = nD) (hX : W.heap[X]? = some (.cells s.cells 30 (0, 0))) (hXo : ∀ b ∈ phOwn s.phrases, b ≠ X) (hb1 : Below W.heap.size W V1) (h1 : RowNew W V1 fa nP ∧ phAt V1 (blk fa) 0 s.phrases)
  (hb2 : Below V1.heap.size V1 V2) (h2 : RowNew V2 V3 da nD ∧ danAt V3 (blk da) 0 s.dances ∧ NsAt V3 (danRefs (blk da) 0 s.dances) n2) (hb3 : Below V2.heap.size V2 V3) :
  R7 s n2 X W fa fc da dc ((V3.setCell ⟨X, 10, none⟩ (.slice fa nP fc)).setCell ⟨X, 11, none⟩ (.slice da nD dc)) := by
 subst hnP hnD
 have hXl := (Array.getElem?_eq_some_iff.1 hX).1
 have b13 := hb2.trans (hb3.mono hb2.size)
 have b03 := hb1.trans (b13.mono hb1.size)
 obtain ⟨⟨r1, r2⟩, r3, r4, r5⟩ := And.intro h1 h2
 have s1 := hb1.size; have s2 := hb2.size
 have keep : ∀ {c q : Nat} {v : Value}, c ≠ X → V3.cell? ⟨c, q, none⟩ = some v → ((V3.setCell ⟨X, 10, none⟩ (.slice fa s.phrases.length fc)).setCell ⟨X, 11, none⟩ (.slice da s.dances.length dc)).cell? ⟨c, q, none⟩ = some v := fun hc h => cell_set_ne (cell_set_ne h (addr_ne (Or.inl hc.symm))) (addr_ne (Or.inl hc.symm))
 have r1' : RowNew W V3 fa s.phrases.length := by
  rcases r1 with h | ⟨h, h', h''⟩
  ·exact Or.inl h
  ·exact Or.inr ⟨h, h', h''.below b13⟩
 have r3' : RowNew W V3 da s.dances.length := by
  rcases r3 with h | ⟨h, h', h''⟩
  ·exact Or.inl h
  ·exact Or.inr ⟨h, by omega, h''⟩
 have hfX : s.phrases ≠ [] → blk fa ≠ X := fun hz => by
  rcases r1 with h | ⟨_, h, _⟩
  ·exact absurd (List.length_eq_zero_iff.1 h) hz
  ·omega
 have hdX : s.dances ≠ [] → blk da ≠ X := fun hz => by
  rcases r3 with h | ⟨_, h, _⟩
  ·exact absurd (List.length_eq_zero_iff.1 h) hz
  ·omega
 refine ⟨?_, ?_, (r1'.set _ _).set _ _, ?_, ?_, (r3'.set _ _).set _ _, ?_, ?_⟩
 ·have hX3 : V3.heap[X]? = some (.cells s.cells 30 (0, 0)) := (b03.block X hXl).trans hX
  simp [World.setCell, Array.getElem?_modify, hX3, Ls.cells, cells7]
 ·by_cases hz : s.phrases = []
  ·rw [hz]; trivial
  ·exact phAt_kept (phAt_below b13 r2) (fun q v _ hc => keep (hfX hz) hc) (fun c hc q v h => keep (hXo c hc) h)
 ·by_cases hz : s.dances = []
  ·rw [hz]; trivial
  ·exact danAt_kept r4 (fun q v _ hc => keep (hdX hz) hc)
 ·by_cases hz : s.dances = []
  ·rw [hz] at r5 ⊢
   cases n2 with
   | nil => trivial
   | cons => exact r5.elim
  ·exact r5.kept fun x hx v hc => keep (by rw [(danRefs_mem hx).1]; exact hdX hz) hc
 ·intro hd hp e
  rcases r1 with h | ⟨_, _, h⟩
  ·exact absurd (List.length_eq_zero_iff.1 h) hp
  rcases r3 with k | ⟨_, k, _⟩
  ·exact absurd (List.length_eq_zero_iff.1 k) hd
  have := h.lt
  omega
 ·exact ((ButOne.of_below b03).trans (ButOne.setCell (p := ⟨X, 10, none⟩) _)).trans (ButOne.setCell (p := ⟨X, 11, none⟩) _)
noncomputable def elem15n7 : Code := match lastPart 7 code15 with
 | .seq a _ => a
 | c => c
set_option maxRecDepth 100000 in
set_option maxHeartbeats 8000000 in
theorem res_r7 (s : Ls) (n2 : List Int) (B1 X E TB : Nat) (ds : List Deferred) (W : World) (hB : W.heap[B1]? = some (.cells s.cells 30 (0, 0))) (hX : W.heap[X]? = some (.cells s.cells 30 (0, 0))) (hXo : ∀ b ∈ phOwn s.phrases, b ≠ X) (hA : s.At W) (hN2 : NsAt W (danRefs (blk s.da) (off s.da) s.dances) n2) (hp : s.phrases.length ≤ 100000) (hd : s.dances.length ≤ 100000) (Q : Act → World → Prop)
  (hQ : ∀ fa fc da dc W', R7 s n2 X W fa fc da dc W' → ∀ (f0 f5 f6 f7 f8 f9 f10 f11 f12 f13 f14 f15 f16 f17 f18 f19 f20 f21 f22 f23 f24 f25 f26 f27 f28 f29 f30 f31 f32 f33 f34 f35 f36 f37 f38 f39 f40 f41 f42 f43 f44 f45 f46 f47 f48 f49 f50 f51 f52 f53 f54 f55 f56 f57 f58 f59 f60 f61 f62 f63 f64 f65 f66 f67 f68 f69 f70 f71 f72 f73 f74 f75 f76 f77 f78 f79 f80 f81 f82 f83 f84 f85 f86 f87 f88 f89 f90 f91 f92 f93 f94 f95 f96 f97 f98 : Value), Q { tmps := #[f0, .pointer (some ⟨B1, 0, none⟩), .pointer (some ⟨X, 0, none⟩), .pointer (some ⟨E, 0, none⟩), .pointer (some ⟨TB, 0, none⟩), f5, f6, f7, f8, f9, f10, f11, f12, f13, f14, f15, f16, f17, f18, f19, f20, f21, f22, f23, f24, f25, f26, f27, f28, f29, f30, f31, f32, f33, f34, f35, f36, f37, f38, f39, f40, f41, f42, f43, f44, f45, f46, f47, f48, f49, f50, f51, f52, f53, f54, f55, f56, f57, f58, f59, f60, f61, f62, f63, f64, f65, f66, f67, f68, f69, f70, f71, f72, f73, f74, f75, f76, f77, f78, f79, f80, f81, f82, f83, f84, f85, f86, f87, f88, f89, f90, f91, f92, f93, f94, f95, f96, f97, f98], defers := ds } W')
  (e0 e5 e6 e7 e8 e9 e10 e11 e12 e13 e14 e15 e16 e17 e18 e19 e20 e21 e22 e23 e24 e25 e26 e27 e28 e29 e30 e31 e32 e33 e34 e35 e36 e37 e38 e39 e40 e41 e42 e43 e44 e45 e46 e47 e48 e49 e50 e51 e52 e53 e54 e55 e56 e57 e58 e59 e60 e61 e62 e63 e64 e65 e66 e67 e68 e69 e70 e71 e72 e73 e74 e75 e76 e77 e78 e79 e80 e81 e82 e83 e84 e85 e86 e87 e88 e89 e90 e91 e92 e93 e94 e95 e96 e97 e98 : Value) :
  elem15n7.wp Try.prog (Exit.then Q (fun _ _ _ => False)) { tmps := #[e0, .pointer (some ⟨B1, 0, none⟩), .pointer (some ⟨X, 0, none⟩), .pointer (some ⟨E, 0, none⟩), .pointer (some ⟨TB, 0, none⟩), e5, e6, e7, e8, e9, e10, e11, e12, e13, e14, e15, e16, e17, e18, e19, e20, e21, e22, e23, e24, e25, e26, e27, e28, e29, e30, e31, e32, e33, e34, e35, e36, e37, e38, e39, e40, e41, e42, e43, e44, e45, e46, e47, e48, e49, e50, e51, e52, e53, e54, e55, e56, e57, e58, e59, e60, e61, e62, e63, e64, e65, e66, e67, e68, e69, e70, e71, e72, e73, e74, e75, e76, e77, e78, e79, e80, e81, e82, e83, e84, e85, e86, e87, e88, e89, e90, e91, e92, e93, e94, e95, e96, e97, e98], defers := ds } W := by
 obtain ⟨nP, hnP⟩ : ∃ n, s.phrases.length = n := ⟨_, rfl⟩
 obtain ⟨nD, hnD⟩ : ∃ n, s.dances.length = n := ⟨_, rfl⟩
 have C46 : ∀ V, Below W.heap.size W V → Calls Try.prog 46 #[.slice s.fa nP s.fc] V fun e V' => ∃ fa fc, e = .returned (.slice fa nP fc) ∧ Hid (Below V.heap.size V V' ∧ RowNew V V' fa nP ∧ phAt V' (blk fa) 0 s.phrases) ∧ Below W.heap.size W V' := fun V hb =>
  (clone_ph s.fa s.fc nP s.phrases V hnP (by omega) hA.pform (phAt_below hb hA.phrases)).mono fun e V' ⟨fa, fc, h1, h2, h3⟩ => ⟨fa, fc, h1, Lib.hid ⟨h3, h2⟩, hb.trans (h3.mono hb.size)⟩
 have C47 : ∀ V, Below W.heap.size W V → Calls Try.prog 47 #[.slice s.da nD s.dc] V fun e V' => ∃ da dc, e = .returned (.slice da nD dc) ∧ Hid (Below V.heap.size V V' ∧ RowNew V V' da nD ∧ danAt V' (blk da) 0 s.dances ∧ NsAt V' (danRefs (blk da) 0 s.dances) n2) ∧ Below W.heap.size W V' := fun V hb =>
  (clone_dan s.da s.dc nD s.dances n2 V hnD (by omega) hA.dform (danAt_below hb hA.dances) (hN2.below hb)).mono fun e V' ⟨fa, fc, h1, h2, h3⟩ => ⟨fa, fc, h1, Lib.hid ⟨h3, h2⟩, hb.trans (h3.mono hb.size)⟩
 have hB' := hB; have hX' := hX
 unfold Ls.cells at hB'
 rw [hnP, hnD] at hB'
 have c10 := cell_at hB' 10 rfl; have c11 := cell_at hB' 11 rfl
 unfold Ls.cells at hX'
 rw [hnP, hnD] at hX'
 have x10 := cell_at hX' 10 rfl; have x11 := cell_at hX' 11 rfl
 have HK : ∀ V, Below W.heap.size W V → V.cell? ⟨B1, 10, none⟩ = some (.slice s.fa nP s.fc) ∧ V.cell? ⟨B1, 11, none⟩ = some (.slice s.da nD s.dc) ∧ V.frozen? ⟨X, 10, none⟩ = false ∧ V.frozen? ⟨X, 11, none⟩ = false ∧ V.cell? ⟨X, 10, none⟩ = some (.slice s.fa nP s.fc) ∧ V.cell? ⟨X, 11, none⟩ = some (.slice s.da nD s.dc) := fun V hb => by
  have hf : FreeB V X := FreeB.below ⟨_, _, hX⟩ hb
  exact ⟨keep_cell hb c10, keep_cell hb c11, hf.free _, hf.free _, keep_cell hb x10, keep_cell hb x11⟩
 have HKK := Lib.hid HK; have H46 := Lib.hid C46; have H47 := Lib.hid C47; have HQ := Lib.hid hQ; have HM := Lib.hid (fun V1 V2 V3 fa da fc dc => R7.make (s := s) (n2 := n2) (V1 := V1) (V2 := V2) (V3 := V3) (fa := fa) (da := da) (fc := fc) (dc := dc) hnP hnD hX hXo)
 have hB0 : Below W.heap.size W W := Below.refl _ _
 clear x10 x11 C46 C47 HK hQ hB hB' hX hX' hXo hA hN2 hp hd hnP hnD
 dsimp only
 unfold elem15n7 code15
 conv => arg 2; whnf
 go_wp2_with fail
 go_region_with (first
  | (go_at_call 46; refine (H46.out _ (by first | assumption | exact below_drewN (by assumption) _)).mono ?_; rintro e w5 ⟨fa, fc, rfl, h5, hb5⟩; have k51 := (HKK.out _ hb5).1; have k52 := (HKK.out _ hb5).2.1)
  | (go_at_call 47; refine (H47.out _ (by first | assumption | exact below_drewN (by assumption) _)).mono ?_; rintro e w6 ⟨da, dc, rfl, h6, hb6⟩; have k61 := (HKK.out _ hb6).2.2.1; have k62 := (HKK.out _ hb6).2.2.2.1; have k63 := (HKK.out _ hb6).2.2.2.2.1; have k64 := (HKK.out _ hb6).2.2.2.2.2))
 all_goals
  exact HQ.out _ _ _ _ _ (HM.out _ _ _ _ _ _ _ hb5 h5.out.2 (by first | exact Below.refl _ _ | exact below_drewN (Below.refl _ _) _) h6.out.2 h6.out.1) _ _ _ _ _ _ _ _ _ _ _ _ _ _ _ _ _ _ _ _ _ _ _ _ _ _ _ _ _ _ _ _ _ _ _ _ _ _ _ _ _ _ _ _ _ _ _ _ _ _ _ _ _ _ _ _ _ _ _ _ _ _ _ _ _ _ _ _ _ _ _ _ _ _ _ _ _ _ _ _ _ _ _ _ _ _ _ _ _ _ _ _ _ _ _
end Go.Proofs.Ytpnbpepkoekkoaa
end
