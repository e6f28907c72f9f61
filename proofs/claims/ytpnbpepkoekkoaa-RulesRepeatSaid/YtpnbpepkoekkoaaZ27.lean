/- Contracts and plain laws on the way to the statement: part 27. -/
import Derived.Test.YtpnbpepkoekkoaaZ26
import Derived.Test.YtpnbpepkoekkoaaZ12
import Derived.Test.YtpnbpepkoekkoaaZ17
import Derived.Test.YtpnbpepkoekkoaaZ3
set_option linter.unusedVariables false
set_option linter.unusedSimpArgs false
set_option maxRecDepth 100000
set_option maxHeartbeats 16000000
namespace Go.Proofs.Ytpnbpepkoekkoaa
open Go.Value (int)
open Go.IntKind (i64)
section
open Go Go.RowKit Go.Shelf
theorem Fz {κ : Type} [DecidableEq κ] {f : κ → Value} {P : Program} {T K E : TypeId} (hT : P.underlying T = some (.map K E)) {w : World} {b : Nat} {kvs : List (κ × Value)} (h : MapAt f w b kvs) (ty : TypeId) : (Builtin.len_ #[T] ty #[.map (some b)]).run P w = .ok (int i64 kvs.length) w := by
 obtain ⟨es, c, hb, he⟩ := h; have hl : es.size = kvs.length := by simpa using congrArg List.length he
 simp [Builtin.len_, run_underlying hT, MapKept.run_getObj_map hb, goInt, Result.andThen, hl]
theorem Ph.Its.below' {w w' : World} {p : Ph} (h : p.Its w) (hb : Below w.heap.size w w') : p.Its w' := ⟨h.1, h.2.1, h.2.2.below hb⟩
theorem Jg {w w' : World} (hb : Below w.heap.size w w') {b g : Nat} : ∀ {o o' : Nat} {ps : List Ph}, AZ w b o ps → Cp w b o w' g o' (2 * ps.length) → AZ w' g o' ps
 | _, _, [], _, _ => trivial
 | o, o', p :: r, ⟨⟨h1, h2, h3⟩, h⟩, hc => by
  have hc' : Cp w b o w' g o' (2 + 2 * r.length) := by
   have e : 2 * (p :: r).length = 2 + 2 * r.length := by simp only [List.length_cons]; omega
   rw [e] at hc; exact hc
  exact ⟨⟨hc' 0 _ (by omega) h1, hc' 1 _ (by omega) h2, h3.below' hb⟩, Jg hb h hc'.from⟩
theorem GY {w w' : World} {b g : Nat} : ∀ {o o' : Nat} {ds : List Dan}, B5 w b o ds → Cp w b o w' g o' (6 * ds.length) → B5 w' g o' ds
 | _, _, [], _, _ => trivial
 | o, o', d :: r, ⟨⟨h1, h2, h3, h4⟩, h⟩, hc => by
  have hc' : Cp w b o w' g o' (6 + 6 * r.length) := by
   have e : 6 * (d :: r).length = 6 + 6 * r.length := by simp only [List.length_cons]; omega
   rw [e] at hc; exact hc
  exact ⟨⟨hc' 0 _ (by omega) h1, hc' 2 _ (by omega) h2, hc' 4 _ (by omega) h3, hc' 5 _ (by omega) h4⟩, GY h hc'.from⟩
theorem GZ {w w' : World} {b g : Nat} : ∀ {o o' : Nat} {ds : List Dan} {ns : List Int}, NsAt w (Ak b o ds) ns → Cp w b o w' g o' (6 * ds.length) → NsAt w' (Ak g o' ds) ns
 | _, _, [], [], _, _ => trivial
 | _, _, [], _ :: _, h, _ => h.elim
 | _, _, _ :: _, [], h, _ => h.elim
 | _, _, _ :: _, [_], h, _ => h.2.elim
 | o, o', d :: r, n :: m :: ns, ⟨h1, h2, h3⟩, hc => by
  have hc' : Cp w b o w' g o' (6 + 6 * r.length) := by
   have e : 6 * (d :: r).length = 6 + 6 * r.length := by simp only [List.length_cons]; omega
   rw [e] at hc; exact hc
  exact ⟨hc' 1 _ (by omega) h1, hc' 3 _ (by omega) h2, GZ h3 hc'.from⟩
theorem ND {w : World} {b : Nat} : ∀ {o : Nat} {ps : List Ph}, AZ w b o ps → ∀ q, q < 2 * ps.length → ∃ v, w.cell? ⟨b, o + q, none⟩ = some v ∧ v.oneCell' = true
 | _, [], _, q, hq => by simp at hq
 | o, p :: r, ⟨⟨h1, h2, _⟩, h⟩, q, hq => by
  simp only [List.length_cons] at hq
  match q, hq with
  | 0, _ => exact ⟨_, h1, rfl⟩
  | 1, _ => exact ⟨_, h2, rfl⟩
  | q + 2, hq =>
   obtain ⟨v, k1, k2⟩ := ND h q (by omega); exact ⟨v, by rw [show o + (q + 2) = o + 2 + q by omega]; exact k1, k2⟩
theorem KT {w : World} {b : Nat} : ∀ {o : Nat} {ds : List Dan} {ns : List Int}, B5 w b o ds → NsAt w (Ak b o ds) ns → ∀ q, q < 6 * ds.length → ∃ v, w.cell? ⟨b, o + q, none⟩ = some v ∧ v.oneCell' = true
 | _, [], _, _, _, q, hq => by simp at hq
 | _, _ :: _, [], _, h, _, _ => h.elim
 | _, _ :: _, [_], _, h, _, _ => h.2.elim
 | o, d :: r, n :: m :: ns, ⟨⟨h1, h2, h3, h4⟩, h⟩, ⟨n1, n2, n3⟩, q, hq => by
  simp only [List.length_cons] at hq
  match q, hq with
  | 0, _ => exact ⟨_, h1, rfl⟩
  | 1, _ => exact ⟨_, n1, rfl⟩
  | 2, _ => exact ⟨_, h2, rfl⟩
  | 3, _ => exact ⟨_, n2, rfl⟩
  | 4, _ => exact ⟨_, h3, rfl⟩
  | 5, _ => exact ⟨_, h4, rfl⟩
  | q + 6, hq =>
   obtain ⟨v, k1, k2⟩ := KT h n3 q (by omega); exact ⟨v, by rw [show o + (q + 6) = o + 6 + q by omega]; exact k1, k2⟩
theorem KQ (fa : Option Addr) (fc n : Nat) (ps : List Ph) (w : World) (hn : ps.length = n) (hm : n ≤ 100000) (hf : ps = [] ∨ fa = some ⟨blk fa, off fa, none⟩) (hA : AZ w (blk fa) (off fa) ps) :
  Calls Try.prog 46 #[.slice fa n fc] w fun e w' => ∃ fa' fc', e = .returned (.slice fa' n fc') ∧ (RowNew w w' fa' n ∧ AZ w' (blk fa') 0 ps) ∧ Below w.heap.size w w' := by
 subst hn; by_cases hz : ps = []
 ·subst hz
  refine (clone46 fa 0 fc [] w rfl (Nat.zero_le _) (fun _ => rfl) (fun a _ j u hj => by cases hj) (fun u hu => by cases hu)).mono ?_; rintro e w' ⟨v', rfl, ho, hb⟩; obtain ⟨ao, c, rfl, h1, _, _⟩ := BC (by omega) ho; exact ⟨ao, c, rfl, ⟨h1, trivial⟩, hb⟩
 ·have hf' := hf.resolve_left hz
  obtain ⟨news, l1, l2, l3⟩ := Ee (ND hA)
  refine (clone46 fa ps.length fc news w (by rw [l1]; omega) hm (fun e => by rw [e] at hf'; cases hf') (fun a ha j u hj => by
   rw [hf'] at ha; cases ha; rw [AX]; exact l2 j u hj) l3).mono ?_
  rintro e w' ⟨v', rfl, ho, hb⟩; obtain ⟨ao, c, rfl, h1, _, h3⟩ := BC (by omega) ho
  have hcp : Cp w (blk fa) (off fa) w' (blk ao) 0 (2 * ps.length) := fun q v hq hc => h3 q v (by
   have : q < news.length := by omega
   rw [qg this]; have h4 := l2 q _ (qg this)
   rw [h4] at hc; exact hc)
  exact ⟨ao, c, rfl, ⟨h1, Jg hb hA hcp⟩, hb⟩
theorem Jw (fa : Option Addr) (fc n : Nat) (ds : List Dan) (ns : List Int) (w : World) (hn : ds.length = n) (hm : n ≤ 100000) (hf : ds = [] ∨ fa = some ⟨blk fa, off fa, none⟩) (hA : B5 w (blk fa) (off fa) ds) (hN : NsAt w (Ak (blk fa) (off fa) ds) ns) :
  Calls Try.prog 47 #[.slice fa n fc] w fun e w' => ∃ fa' fc', e = .returned (.slice fa' n fc') ∧ (RowNew w w' fa' n ∧ B5 w' (blk fa') 0 ds ∧ NsAt w' (Ak (blk fa') 0 ds) ns) ∧ Below w.heap.size w w' := by
 subst hn; by_cases hz : ds = []
 ·subst hz
  refine (clone47 fa 0 fc [] w rfl (Nat.zero_le _) (fun _ => rfl) (fun a _ j u hj => by cases hj) (fun u hu => by cases hu)).mono ?_; rintro e w' ⟨v', rfl, ho, hb⟩; obtain ⟨ao, c, rfl, h1, _, _⟩ := BC (by omega) ho
  cases ns with
  | nil => exact ⟨ao, c, rfl, ⟨h1, trivial, trivial⟩, hb⟩
  | cons => exact hN.elim
 ·have hf' := hf.resolve_left hz
  obtain ⟨news, l1, l2, l3⟩ := Ee (KT hA hN)
  refine (clone47 fa ds.length fc news w (by rw [l1]; omega) hm (fun e => by rw [e] at hf'; cases hf') (fun a ha j u hj => by
   rw [hf'] at ha; cases ha; rw [AX]; exact l2 j u hj) l3).mono ?_
  rintro e w' ⟨v', rfl, ho, hb⟩; obtain ⟨ao, c, rfl, h1, _, h3⟩ := BC (by omega) ho
  have hcp : Cp w (blk fa) (off fa) w' (blk ao) 0 (6 * ds.length) := fun q v hq hc => h3 q v (by
   have : q < news.length := by omega
   rw [qg this]; have h4 := l2 q _ (qg this)
   rw [h4] at hc; exact hc)
  exact ⟨ao, c, rfl, ⟨h1, GY hA hcp, GZ hN hcp⟩, hb⟩
def Il (s : Ls) (fa : Option Addr) (fc : Nat) (da : Option Addr) (dc : Nat) : Array Value := #[sv s.name, int i64 s.wd, int i64 s.dp, int i64 s.bars, int i64 s.t0, int i64 s.t1, .slice s.ra s.roles.length s.rc, .slice s.ta s.tempos.length s.tc, .slice s.ua s.pauses.length s.uc, .slice s.sa s.spans.length s.sc, .slice fa s.phrases.length fc, .slice da s.dances.length dc]
structure R7 (s : Ls) (n2 : List Int) (X : Nat) (W : World) (fa : Option Addr) (fc : Nat) (da : Option Addr) (dc : Nat) (W' : World) : Prop where
 x : W'.heap[X]? = some (.cells (Il s fa fc da dc) 30 (0, 0))
 ph : AZ W' (blk fa) 0 s.phrases
 phn : RowNew W W' fa s.phrases.length
 dan : B5 W' (blk da) 0 s.dances
 dn : NsAt W' (Ak (blk da) 0 s.dances) n2
 dnn : RowNew W W' da s.dances.length
 fd : s.dances ≠ [] → s.phrases ≠ [] → blk fa ≠ blk da
 but : ButOne X W W'
theorem RowNew.set {W V : World} {ao : Option Addr} {n : Nat} (h : RowNew W V ao n) (p : Addr) (v : Value) : RowNew W (V.setCell p v) ao n := by
 rcases h with h | ⟨h1, h2, h3⟩
 ·exact Or.inl h
 ·exact Or.inr ⟨h1, h2, h3.set p v⟩
theorem R7.make {s : Ls} {n2 : List Int} {X : Nat} {W V1 V2 V3 : World} {fa da : Option Addr} {fc dc nP nD : Nat} (hnP : s.phrases.length = nP) (hnD : s.dances.length = nD) (hX : W.heap[X]? = some (.cells s.cells 30 (0, 0))) (hXo : ∀ b ∈ AR s.phrases, b ≠ X) (hb1 : Below W.heap.size W V1) (h1 : RowNew W V1 fa nP ∧ AZ V1 (blk fa) 0 s.phrases)
  (hb2 : Below V1.heap.size V1 V2) (h2 : RowNew V2 V3 da nD ∧ B5 V3 (blk da) 0 s.dances ∧ NsAt V3 (Ak (blk da) 0 s.dances) n2) (hb3 : Below V2.heap.size V2 V3) :
  R7 s n2 X W fa fc da dc ((V3.setCell ⟨X, 10, none⟩ (.slice fa nP fc)).setCell ⟨X, 11, none⟩ (.slice da nD dc)) := by
 subst hnP hnD; have hXl := (qs.1 hX).1; have b13 := hb2.trans (hb3.mono hb2.size); have b03 := hb1.trans (b13.mono hb1.size); obtain ⟨⟨r1, r2⟩, r3, r4, r5⟩ := And.intro h1 h2; have s1 := hb1.size; have s2 := hb2.size; have keep : ∀ {c q : Nat} {v : Value}, c ≠ X → V3.cell? ⟨c, q, none⟩ = some v → ((V3.setCell ⟨X, 10, none⟩ (.slice fa s.phrases.length fc)).setCell ⟨X, 11, none⟩ (.slice da s.dances.length dc)).cell? ⟨c, q, none⟩ = some v := fun hc h => Ad (Ad h (Av (Or.inl hc.symm))) (Av (Or.inl hc.symm))
 have r1' : RowNew W V3 fa s.phrases.length := by
  rcases r1 with h | ⟨h, h', h''⟩
  ·exact Or.inl h
  ·exact Or.inr ⟨h, h', h''.below b13⟩
 have r3' : RowNew W V3 da s.dances.length := by
  rcases r3 with h | ⟨h, h', h''⟩
  ·exact Or.inl h
  ·exact Or.inr ⟨h, by omega, h''⟩
 have hfX : s.phrases ≠ [] → blk fa ≠ X := fun hz => by
  rcases r1 with h | ⟨_, h, _⟩
  ·exact absurd (List.length_eq_zero_iff.1 h) hz
  ·omega
 have hdX : s.dances ≠ [] → blk da ≠ X := fun hz => by
  rcases r3 with h | ⟨_, h, _⟩
  ·exact absurd (List.length_eq_zero_iff.1 h) hz
  ·omega
 refine ⟨?_, ?_, (r1'.set _ _).set _ _, ?_, ?_, (r3'.set _ _).set _ _, ?_, ?_⟩
 ·have hX3 : V3.heap[X]? = some (.cells s.cells 30 (0, 0)) := (b03.block X hXl).trans hX
  simp [World.setCell, Array.getElem?_modify, hX3, Ls.cells, Il]
 ·by_cases hz : s.phrases = []
  ·rw [hz]; trivial
  ·exact C8 (Bi b13 r2) (fun q v _ hc => keep (hfX hz) hc) (fun c hc q v h => keep (hXo c hc) h)
 ·by_cases hz : s.dances = []
  ·rw [hz]; trivial
  ·exact BA r4 (fun q v _ hc => keep (hdX hz) hc)
 ·by_cases hz : s.dances = []
  ·rw [hz] at r5 ⊢
   cases n2 with
   | nil => trivial
   | cons => exact r5.elim
  ·exact r5.kept fun x hx v hc => keep (by rw [(AP hx).1]; exact hdX hz) hc
 ·intro hd hp e
  rcases r1 with h | ⟨_, _, h⟩
  ·exact absurd (List.length_eq_zero_iff.1 h) hp
  rcases r3 with k | ⟨_, k, _⟩
  ·exact absurd (List.length_eq_zero_iff.1 k) hd
  have := h.lt; omega
 ·exact ((ButOne.of_below b03).trans (ButOne.setCell (p := ⟨X, 10, none⟩) _)).trans (ButOne.setCell (p := ⟨X, 11, none⟩) _)
noncomputable def elem15n7 : Code := match Ab 7 Ao with
 | .seq a _ => a
 | c => c
theorem OF (s : Ls) (n2 : List Int) (B1 X E TB : Nat) (ds : List Deferred) (W : World) (hB : W.heap[B1]? = some (.cells s.cells 30 (0, 0))) (hX : W.heap[X]? = some (.cells s.cells 30 (0, 0))) (hXo : ∀ b ∈ AR s.phrases, b ≠ X) (hA : s.At W) (hN2 : NsAt W (Ak (blk s.da) (off s.da) s.dances) n2) (hp : s.phrases.length ≤ 100000) (hd : s.dances.length ≤ 100000) (Q : Act → World → Prop)
  (hQ : ∀ fa fc da dc W', R7 s n2 X W fa fc da dc W' → ∀ (f0 f5 f6 f7 f8 f9 aN aO aP aQ aR aS aT aU aV aW aX aY aZ ba bb bc bd be bf bg bh bi bj bk bl bm bn bo bp bq br bs bt bu bv bw bx bz bA bB bC bD bE bF bG bH bI bJ bK bL bM bN bO bP bQ bR bS bT bU bV bW bX bY bZ ca cb cc cd ce cf cg ch ci cj ck cl cm cn co cp cq cr cs ct cu cv cw cx cy : Value), Q { tmps := #[f0, .pointer (some ⟨B1, 0, none⟩), .pointer (some ⟨X, 0, none⟩), .pointer (some ⟨E, 0, none⟩), .pointer (some ⟨TB, 0, none⟩), f5, f6, f7, f8, f9, aN, aO, aP, aQ, aR, aS, aT, aU, aV, aW, aX, aY, aZ, ba, bb, bc, bd, be, bf, bg, bh, bi, bj, bk, bl, bm, bn, bo, bp, bq, br, bs, bt, bu, bv, bw, bx, bz, bA, bB, bC, bD, bE, bF, bG, bH, bI, bJ, bK, bL, bM, bN, bO, bP, bQ, bR, bS, bT, bU, bV, bW, bX, bY, bZ, ca, cb, cc, cd, ce, cf, cg, ch, ci, cj, ck, cl, cm, cn, co, cp, cq, cr, cs, ct, cu, cv, cw, cx, cy], defers := ds } W')
  (e0 e5 e6 e7 e8 e9 ea eb ec ed ee ef eg eh ei ej ek el em en eo ep eq er es et eu ev ew ex ey ez eA eB eC eD eE eF eG eH eI eJ eK eL eM eN eO eP eQ eR eS eT eU eV eW eX eY eZ aa ab ac ad ae af ag ah ai aj ak al am an ao ap aq ar au av aw ax ay az aA aB aC aD aE aF aG aH aI aJ aK aL aM : Value) :
  elem15n7.wp Try.prog (Exit.then Q (fun _ _ _ => False)) { tmps := #[e0, .pointer (some ⟨B1, 0, none⟩), .pointer (some ⟨X, 0, none⟩), .pointer (some ⟨E, 0, none⟩), .pointer (some ⟨TB, 0, none⟩), e5, e6, e7, e8, e9, ea, eb, ec, ed, ee, ef, eg, eh, ei, ej, ek, el, em, en, eo, ep, eq, er, es, et, eu, ev, ew, ex, ey, ez, eA, eB, eC, eD, eE, eF, eG, eH, eI, eJ, eK, eL, eM, eN, eO, eP, eQ, eR, eS, eT, eU, eV, eW, eX, eY, eZ, aa, ab, ac, ad, ae, af, ag, ah, ai, aj, ak, al, am, an, ao, ap, aq, ar, au, av, aw, ax, ay, az, aA, aB, aC, aD, aE, aF, aG, aH, aI, aJ, aK, aL, aM], defers := ds } W := by
 obtain ⟨nP, hnP⟩ : ∃ n, s.phrases.length = n := ⟨_, rfl⟩; obtain ⟨nD, hnD⟩ : ∃ n, s.dances.length = n := ⟨_, rfl⟩
 have C46 : ∀ V, Below W.heap.size W V → Calls Try.prog 46 #[.slice s.fa nP s.fc] V fun e V' => ∃ fa fc, e = .returned (.slice fa nP fc) ∧ Hid (Below V.heap.size V V' ∧ RowNew V V' fa nP ∧ AZ V' (blk fa) 0 s.phrases) ∧ Below W.heap.size W V' := fun V hb =>
  (KQ s.fa s.fc nP s.phrases V hnP (by omega) hA.pform (Bi hb hA.phrases)).mono fun e V' ⟨fa, fc, h1, h2, h3⟩ => ⟨fa, fc, h1, qh ⟨h3, h2⟩, hb.trans (h3.mono hb.size)⟩
 have C47 : ∀ V, Below W.heap.size W V → Calls Try.prog 47 #[.slice s.da nD s.dc] V fun e V' => ∃ da dc, e = .returned (.slice da nD dc) ∧ Hid (Below V.heap.size V V' ∧ RowNew V V' da nD ∧ B5 V' (blk da) 0 s.dances ∧ NsAt V' (Ak (blk da) 0 s.dances) n2) ∧ Below W.heap.size W V' := fun V hb =>
  (Jw s.da s.dc nD s.dances n2 V hnD (by omega) hA.dform (Ca hb hA.dances) (hN2.below hb)).mono fun e V' ⟨fa, fc, h1, h2, h3⟩ => ⟨fa, fc, h1, qh ⟨h3, h2⟩, hb.trans (h3.mono hb.size)⟩
 have hB' := hB; have hX' := hX; unfold Ls.cells at hB'; rw [hnP, hnD] at hB'; have c10 := Aa hB' 10 rfl; have c11 := Aa hB' 11 rfl; unfold Ls.cells at hX'; rw [hnP, hnD] at hX'; have cz := Aa hX' 10 rfl; have cA := Aa hX' 11 rfl
 have HK : ∀ V, Below W.heap.size W V → V.cell? ⟨B1, 10, none⟩ = some (.slice s.fa nP s.fc) ∧ V.cell? ⟨B1, 11, none⟩ = some (.slice s.da nD s.dc) ∧ V.frozen? ⟨X, 10, none⟩ = false ∧ V.frozen? ⟨X, 11, none⟩ = false ∧ V.cell? ⟨X, 10, none⟩ = some (.slice s.fa nP s.fc) ∧ V.cell? ⟨X, 11, none⟩ = some (.slice s.da nD s.dc) := fun V hb => by
  have hf : FreeB V X := FreeB.below ⟨_, _, hX⟩ hb; exact ⟨Ae hb c10, Ae hb c11, hf.free _, hf.free _, Ae hb cz, Ae hb cA⟩
 have HKK := qh HK; have H46 := qh C46; have H47 := qh C47; have HQ := qh hQ; have HM := qh (fun V1 V2 V3 fa da fc dc => R7.make (s := s) (n2 := n2) (V1 := V1) (V2 := V2) (V3 := V3) (fa := fa) (da := da) (fc := fc) (dc := dc) hnP hnD hX hXo); have hB0 : Below W.heap.size W W := Below.refl _ _; clear cz cA C46 C47 HK hQ hB hB' hX hX' hXo hA hN2 hp hd hnP hnD; dsimp only; unfold elem15n7 Ao
 conv => arg 2; whnf
 go_wp2_with fail
 go_region_with (first
  | (go_at_call 46; refine (H46.out _ (by first | assumption | exact Ar (by assumption) _)).mono ?_; rintro e w5 ⟨fa, fc, rfl, h5, hb5⟩; have k51 := (HKK.out _ hb5).1; have k52 := (HKK.out _ hb5).2.1)
  | (go_at_call 47; refine (H47.out _ (by first | assumption | exact Ar (by assumption) _)).mono ?_; rintro e w6 ⟨da, dc, rfl, h6, hb6⟩; have k61 := (HKK.out _ hb6).2.2.1; have k62 := (HKK.out _ hb6).2.2.2.1; have k63 := (HKK.out _ hb6).2.2.2.2.1; have k64 := (HKK.out _ hb6).2.2.2.2.2))
 all_goals
  exact HQ.out _ _ _ _ _ (HM.out _ _ _ _ _ _ _ hb5 h5.out.2 (by first | exact Below.refl _ _ | exact Ar (Below.refl _ _) _) h6.out.2 h6.out.1) _ _ _ _ _ _ _ _ _ _ _ _ _ _ _ _ _ _ _ _ _ _ _ _ _ _ _ _ _ _ _ _ _ _ _ _ _ _ _ _ _ _ _ _ _ _ _ _ _ _ _ _ _ _ _ _ _ _ _ _ _ _ _ _ _ _ _ _ _ _ _ _ _ _ _ _ _ _ _ _ _ _ _ _ _ _ _ _ _ _ _ _ _ _ _
end
section
open Go Go.RowKit Go.Shelf
noncomputable def elem15n5 : Code := match Ab 5 Ao with
 | .seq a _ => a
 | c => c
noncomputable def elem15n6 : Code := match Ab 6 Ao with
 | .seq a _ => a
 | c => c
theorem OC (s : Ls) (lR lP B1 X E TB MT mR mP : Nat) (kR kP : List (Nm × Value)) (hlR : kR.length = lR) (hlP : kP.length = lP) (ds : List Deferred) (W : World) (hB : W.heap[B1]? = some (.cells s.cells 30 (0, 0))) (hT : W.heap[TB]? = some (.cells #[.map (some MT)] 98 (0, 0))) (hM : ∃ kvs : List (Int × Value), MapAt kI W MT kvs ∧ Ap kvs 1 = some (.map (some mR)) ∧ Ap kvs 2 = some (.map (some mP))) (hR : MapAt sv W mR kR) (hP : MapAt sv W mP kP) (K : Act → World → Prop) (Q : Exit → Act → World → Prop)
  (hK : lR = s.roles.length → lP = s.phrases.length → ∀ (f0 f5 f6 f7 f8 f9 aN aO aP aQ aR aS aT aU aV aW aX aY aZ ba bb bc bd be bf bg bh bi bj bk bl bm bn bo bp bq br bs bt bu bv bw bx bz bA bB bC bD bE bF bG bH bI bJ bK bL bM bN bO bP bQ bR bS bT bU bV bW bX bY bZ ca cb cc cd ce cf cg ch ci cj ck cl cm cn co cp cq cr cs ct cu cv cw cx cy : Value), K { tmps := #[f0, .pointer (some ⟨B1, 0, none⟩), .pointer (some ⟨X, 0, none⟩), .pointer (some ⟨E, 0, none⟩), .pointer (some ⟨TB, 0, none⟩), f5, f6, f7, f8, f9, aN, aO, aP, aQ, aR, aS, aT, aU, aV, aW, aX, aY, aZ, ba, bb, bc, bd, be, bf, bg, bh, bi, bj, bk, bl, bm, bn, bo, bp, bq, br, bs, bt, bu, bv, bw, bx, bz, bA, bB, bC, bD, bE, bF, bG, bH, bI, bJ, bK, bL, bM, bN, bO, bP, bQ, bR, bS, bT, bU, bV, bW, bX, bY, bZ, ca, cb, cc, cd, ce, cf, cg, ch, ci, cj, ck, cl, cm, cn, co, cp, cq, cr, cs, ct, cu, cv, cw, cx, cy], defers := ds } W)
  (hbad : ¬ (lR = s.roles.length ∧ lP = s.phrases.length) → ∀ (f0 f5 f6 f7 f8 f9 aN aO aP aQ aR aS aT aU aV aW aX aY aZ ba bb bc bd be bf bg bh bi bj bk bl bm bn bo bp bq br bs bt bu bv bw bx bz bA bB bC bD bE bF bG bH bI bJ bK bL bM bN bO bP bQ bR bS bT bU bV bW bX bY bZ ca cb cc cd ce cf cg ch ci cj ck cl cm cn co cp cq cr cs ct cu cv cw cx cy : Value), Q (.panic (AC 171)) { tmps := #[f0, .pointer (some ⟨B1, 0, none⟩), .pointer (some ⟨X, 0, none⟩), .pointer (some ⟨E, 0, none⟩), .pointer (some ⟨TB, 0, none⟩), f5, f6, f7, f8, f9, aN, aO, aP, aQ, aR, aS, aT, aU, aV, aW, aX, aY, aZ, ba, bb, bc, bd, be, bf, bg, bh, bi, bj, bk, bl, bm, bn, bo, bp, bq, br, bs, bt, bu, bv, bw, bx, bz, bA, bB, bC, bD, bE, bF, bG, bH, bI, bJ, bK, bL, bM, bN, bO, bP, bQ, bR, bS, bT, bU, bV, bW, bX, bY, bZ, ca, cb, cc, cd, ce, cf, cg, ch, ci, cj, ck, cl, cm, cn, co, cp, cq, cr, cs, ct, cu, cv, cw, cx, cy], defers := ds } W)
  (e0 e5 e6 e7 e8 e9 ea eb ec ed ee ef eg eh ei ej ek el em en eo ep eq er es et eu ev ew ex ey ez eA eB eC eD eE eF eG eH eI eJ eK eL eM eN eO eP eQ eR eS eT eU eV eW eX eY eZ aa ab ac ad ae af ag ah ai aj ak al am an ao ap aq ar au av aw ax ay az aA aB aC aD aE aF aG aH aI aJ aK aL aM : Value) :
  elem15n5.wp Try.prog (Exit.then K Q) { tmps := #[e0, .pointer (some ⟨B1, 0, none⟩), .pointer (some ⟨X, 0, none⟩), .pointer (some ⟨E, 0, none⟩), .pointer (some ⟨TB, 0, none⟩), e5, e6, e7, e8, e9, ea, eb, ec, ed, ee, ef, eg, eh, ei, ej, ek, el, em, en, eo, ep, eq, er, es, et, eu, ev, ew, ex, ey, ez, eA, eB, eC, eD, eE, eF, eG, eH, eI, eJ, eK, eL, eM, eN, eO, eP, eQ, eR, eS, eT, eU, eV, eW, eX, eY, eZ, aa, ab, ac, ad, ae, af, ag, ah, ai, aj, ak, al, am, an, ao, ap, aq, ar, au, av, aw, ax, ay, az, aA, aB, aC, aD, aE, aF, aG, aH, aI, aJ, aK, aL, aM], defers := ds } W := by
 obtain ⟨kvs, m1, m2, m3⟩ := hM
 have hl1 : (Instr.lookup 98 (.map (some MT)) (int i64 1) false).run Try.prog W = .ok (.map (some mR)) W := by
  have := B6 (P := Try.prog) AT Try.underlying98 Try.underlying93 m1 1 (Try.zeroValue90 _) false; unfold kI at this; simpa [m2] using this
 have hl2 : (Instr.lookup 98 (.map (some MT)) (int i64 2) false).run Try.prog W = .ok (.map (some mP)) W := by
  have := B6 (P := Try.prog) AT Try.underlying98 Try.underlying93 m1 2 (Try.zeroValue90 _) false; unfold kI at this; simpa [m3] using this
 have hn1 := fun ty => Fz (P := Try.prog) (T := 90) Try.underlying90 hR ty
 have hn2 := fun ty => Fz (P := Try.prog) (T := 90) Try.underlying90 hP ty
 rw [hlR] at hn1; rw [hlP] at hn2; unfold Ls.cells at hB; have c6 := Aa hB 6 rfl; have c10 := Aa hB 10 rfl; have cT := Aa hT 0 rfl; have HK := qh hK; have HBAD := qh hbad; clear hK hbad hB hT hR hP m1 m2 m3 hlR hlP; generalize s.roles.length = nR at *; generalize s.phrases.length = nP at *; by_cases e1 : lR = nR
 ·have d1 : ((lR : Int) == (nR : Int)) = true := by rw [e1]; simp
  by_cases e2 : lP = nP
  ·have d2 : ((lP : Int) == (nP : Int)) = true := by rw [e2]; simp
   have HF := qh (HK.out e1 e2); clear e1 e2 HK HBAD; dsimp only; unfold elem15n5 Ao
   conv => arg 2; whnf
   go_wp2_with (go_at_call 45; refine (Bn _ _).mono ?_; rintro e w' ⟨rfl, rfl⟩); exact HF.out _ _ _ _ _ _ _ _ _ _ _ _ _ _ _ _ _ _ _ _ _ _ _ _ _ _ _ _ _ _ _ _ _ _ _ _ _ _ _ _ _ _ _ _ _ _ _ _ _ _ _ _ _ _ _ _ _ _ _ _ _ _ _ _ _ _ _ _ _ _ _ _ _ _ _ _ _ _ _ _ _ _ _ _ _ _ _ _ _ _ _ _ _ _ _
  ·have d2 : ((lP : Int) == (nP : Int)) = false := by simp; omega
   have HF := qh (HBAD.out (fun h => e2 h.2)); clear e1 e2 HK HBAD; dsimp only; unfold elem15n5 Ao
   conv => arg 2; whnf
   go_wp2_with (go_at_call 45; refine (AK _ _).mono ?_; unfold Af; rintro e w' ⟨rfl, rfl⟩); exact HF.out _ _ _ _ _ _ _ _ _ _ _ _ _ _ _ _ _ _ _ _ _ _ _ _ _ _ _ _ _ _ _ _ _ _ _ _ _ _ _ _ _ _ _ _ _ _ _ _ _ _ _ _ _ _ _ _ _ _ _ _ _ _ _ _ _ _ _ _ _ _ _ _ _ _ _ _ _ _ _ _ _ _ _ _ _ _ _ _ _ _ _ _ _ _ _
 ·have d1 : ((lR : Int) == (nR : Int)) = false := by simp; omega
  have HF := qh (HBAD.out (fun h => e1 h.1)); clear e1 HK HBAD; dsimp only; unfold elem15n5 Ao
  conv => arg 2; whnf
  go_wp2_with (go_at_call 45; refine (AK _ _).mono ?_; unfold Af; rintro e w' ⟨rfl, rfl⟩); exact HF.out _ _ _ _ _ _ _ _ _ _ _ _ _ _ _ _ _ _ _ _ _ _ _ _ _ _ _ _ _ _ _ _ _ _ _ _ _ _ _ _ _ _ _ _ _ _ _ _ _ _ _ _ _ _ _ _ _ _ _ _ _ _ _ _ _ _ _ _ _ _ _ _ _ _ _ _ _ _ _ _ _ _ _ _ _ _ _ _ _ _ _ _ _ _ _
theorem OD (s : Ls) (B1 X E TB : Nat) (xs : Array Value) (hxs : xs.size = 12) (ds : List Deferred) (W : World) (hB : W.heap[B1]? = some (.cells s.cells 30 (0, 0))) (hX : W.heap[X]? = some (.cells xs 30 (0, 0))) (K : Act → World → Prop)
  (hK : ∀ W', W'.heap[X]? = some (.cells s.cells 30 (0, 0)) → (∀ b, b ≠ X → W'.heap[b]? = W.heap[b]?) → (∀ B w0, Below B w0 W → B ≤ X → Below B w0 W') → W'.heap.size = W.heap.size → ∀ (f0 f5 f6 f7 f8 f9 aN aO aP aQ aR aS aT aU aV aW aX aY aZ ba bb bc bd be bf bg bh bi bj bk bl bm bn bo bp bq br bs bt bu bv bw bx bz bA bB bC bD bE bF bG bH bI bJ bK bL bM bN bO bP bQ bR bS bT bU bV bW bX bY bZ ca cb cc cd ce cf cg ch ci cj ck cl cm cn co cp cq cr cs ct cu cv cw cx cy : Value), K { tmps := #[f0, .pointer (some ⟨B1, 0, none⟩), .pointer (some ⟨X, 0, none⟩), .pointer (some ⟨E, 0, none⟩), .pointer (some ⟨TB, 0, none⟩), f5, f6, f7, f8, f9, aN, aO, aP, aQ, aR, aS, aT, aU, aV, aW, aX, aY, aZ, ba, bb, bc, bd, be, bf, bg, bh, bi, bj, bk, bl, bm, bn, bo, bp, bq, br, bs, bt, bu, bv, bw, bx, bz, bA, bB, bC, bD, bE, bF, bG, bH, bI, bJ, bK, bL, bM, bN, bO, bP, bQ, bR, bS, bT, bU, bV, bW, bX, bY, bZ, ca, cb, cc, cd, ce, cf, cg, ch, ci, cj, ck, cl, cm, cn, co, cp, cq, cr, cs, ct, cu, cv, cw, cx, cy], defers := ds } W')
  (e0 e5 e6 e7 e8 e9 ea eb ec ed ee ef eg eh ei ej ek el em en eo ep eq er es et eu ev ew ex ey ez eA eB eC eD eE eF eG eH eI eJ eK eL eM eN eO eP eQ eR eS eT eU eV eW eX eY eZ aa ab ac ad ae af ag ah ai aj ak al am an ao ap aq ar au av aw ax ay az aA aB aC aD aE aF aG aH aI aJ aK aL aM : Value) :
  elem15n6.wp Try.prog (Exit.then K (fun _ _ _ => False)) { tmps := #[e0, .pointer (some ⟨B1, 0, none⟩), .pointer (some ⟨X, 0, none⟩), .pointer (some ⟨E, 0, none⟩), .pointer (some ⟨TB, 0, none⟩), e5, e6, e7, e8, e9, ea, eb, ec, ed, ee, ef, eg, eh, ei, ej, ek, el, em, en, eo, ep, eq, er, es, et, eu, ev, ew, ex, ey, ez, eA, eB, eC, eD, eE, eF, eG, eH, eI, eJ, eK, eL, eM, eN, eO, eP, eQ, eR, eS, eT, eU, eV, eW, eX, eY, eZ, aa, ab, ac, ad, ae, af, ag, ah, ai, aj, ak, al, am, an, ao, ap, aq, ar, au, av, aw, ax, ay, az, aA, aB, aC, aD, aE, aF, aG, aH, aI, aJ, aK, aL, aM], defers := ds } W := by
 unfold Ls.cells at hB hK; obtain ⟨W', x', g', o', b', s'⟩ := Ey hX hxs (sv s.name) (int i64 s.wd) (int i64 s.dp) (int i64 s.bars) (int i64 s.t0) (int i64 s.t1) (.slice s.ra s.roles.length s.rc) (.slice s.ta s.tempos.length s.tc) (.slice s.ua s.pauses.length s.uc) (.slice s.sa s.spans.length s.sc) (.slice s.fa s.phrases.length s.fc) (.slice s.da s.dances.length s.dc); have y0 := Aa hB 0 rfl; have y1 := Aa hB 1 rfl; have y2 := Aa hB 2 rfl; have y3 := Aa hB 3 rfl; have y4 := Aa hB 4 rfl; have y5 := Aa hB 5 rfl; have y6 := Aa hB 6 rfl; have y7 := Aa hB 7 rfl; have y8 := Aa hB 8 rfl; have y9 := Aa hB 9 rfl; have y10 := Aa hB 10 rfl; have y11 := Aa hB 11 rfl
 obtain ⟨x0, x1, x2, x3, x4, x5, x6, x7, x8, x9, cz, cA, rfl⟩ : ∃ x0 x1 x2 x3 x4 x5 x6 x7 x8 x9 cz cA, xs = #[x0, x1, x2, x3, x4, x5, x6, x7, x8, x9, cz, cA] := by
  obtain ⟨l⟩ := xs
  match l, hxs with
  | [a, b, c, d, e, f, g, h, i, j, k, l], _ => exact ⟨a, b, c, d, e, f, g, h, i, j, k, l, rfl⟩
 have z0 := Aa hX 0 rfl; have z1 := Aa hX 1 rfl; have z2 := Aa hX 2 rfl; have z3 := Aa hX 3 rfl; have z4 := Aa hX 4 rfl; have z5 := Aa hX 5 rfl; have z6 := Aa hX 6 rfl; have z7 := Aa hX 7 rfl; have z8 := Aa hX 8 rfl; have z9 := Aa hX 9 rfl; have z10 := Aa hX 10 rfl; have z11 := Aa hX 11 rfl; have hfz : ∀ q, W.frozen? ⟨X, q, none⟩ = false := fun q => (show FreeB W X from ⟨_, _, hX⟩).free q
 have h0 := hfz 0; have HF := qh (hK W' g' o' b' s'); clear hK g' o' b' s' hB hX hxs; dsimp only; unfold elem15n6 Ao
 conv => arg 2; whnf
 go_wp2_with fail; exact HF.out _ _ _ _ _ _ _ _ _ _ _ _ _ _ _ _ _ _ _ _ _ _ _ _ _ _ _ _ _ _ _ _ _ _ _ _ _ _ _ _ _ _ _ _ _ _ _ _ _ _ _ _ _ _ _ _ _ _ _ _ _ _ _ _ _ _ _ _ _ _ _ _ _ _ _ _ _ _ _ _ _ _ _ _ _ _ _ _ _ _ _ _ _ _ _
theorem Di : ∀ (T : Lt) (d : Nat) (left l : Int), left ≤ 4096 → T.strip.count d left = some l → l ≤ left ∧ T.small
 | .nil, d, left, l, h, e => by
  simp only [Lt.strip, Its.count, Option.some.injEq] at e; exact ⟨by omega, trivial⟩
 | .cons k n un ia ic its ma mc ms r, d, left, l, h, e => by
  simp only [Lt.strip, Its.count] at e
  split at e
  ·rename_i hc
   obtain ⟨c1, c2, _⟩ := hc; rw [Lt.strip_len] at c2
   split at e
   ·cases e
   ·rename_i l1 e1
    obtain ⟨a1, a2⟩ := Di its _ _ _ (by omega) e1; obtain ⟨b1, b2⟩ := Di r _ _ _ (by omega) e; exact ⟨by omega, ⟨by omega, by omega, a2, b2⟩⟩
  ·cases e
theorem E4 : ∀ (ps : List Ph) (left l : Int), left ≤ 4096 → countP (ps.map Ph.strip) left = some l → ∀ p ∈ ps, p.its.len ≤ 100000 ∧ p.its.small
 | [], _, _, _, _, p, hp => by cases hp
 | q :: r, left, l, h, e, p, hp => by
  simp only [List.map_cons, countP] at e
  split at e
  ·cases e
  ·rename_i l1 e1
   unfold Its.countL at e1
   split at e1
   ·rename_i hc
    obtain ⟨c1, _⟩ := hc; simp only [Ph.strip, Lt.strip_len] at c1 e1; obtain ⟨a1, a2⟩ := Di q.its _ _ _ (by omega) e1; rcases List.mem_cons.1 hp with rfl | hp
    ·exact ⟨by omega, a2⟩
    ·exact E4 r _ _ (by omega) e p hp
   ·cases e1
theorem DU {s : Ls} (h : s.strip.lims = true) : s.phrases.length ≤ 64 ∧ s.dances.length ≤ 256 ∧ s.roles.length ≤ 64 ∧ ∀ p ∈ s.phrases, p.its.len ≤ 100000 ∧ p.its.small := by
 unfold Sc.lims at h; simp only [Bool.and_eq_true] at h; have hf := Gt.1 h.1; simp only [Ls.strip, List.length_map] at hf; obtain ⟨l, hl⟩ := Option.isSome_iff_exists.1 h.2; exact ⟨hf.2.2.2.2.1, hf.2.2.2.2.2, hf.1, E4 s.phrases 4096 l (by omega) hl⟩
end
section
open Go Go.RowKit Go.Shelf
def Ih (s : Ls) (ns : List Int) (w : World) (e : Ending) (w' : World) : Prop :=
 ((Cd s.strip ns = 0 ∧ ∃ (x : Ls) (ks : List Int), e = .returned (.tuple #[x.val, int i64 0]) ∧ x.strip = s.strip ∧ x.At w' ∧ NsAt w' x.refs ks ∧ s.strip.idx ns = some ks ∧ x.Sep ∧ (∀ r ∈ x.refs, w.heap.size ≤ r.b ∧ FreeB w' r.b)) ∨
  (Cd s.strip ns ≠ 0 ∧ e = .returned (.tuple #[.agg C5, int i64 (Cd s.strip ns)]))) ∧ Below w.heap.size w w'
theorem By {K : Act → World → Prop} {Q : Exit → Act → World → Prop} : ∀ e a w, Exit.then K (fun _ _ _ => False) e a w → Exit.then K Q e a w
 | .normal, _, _, h => h
 | .ret, _, _, h => h.elim
 | .panic _, _, _, h => h.elim
 | .outgrown, _, _, h => h.elim
 | .exit _, _, _, h => h.elim
 | .goto _, _, _, h => h.elim
structure R5 (s : Ls) (w0 : World) (B1 X E TB MT mR mP : Nat) (W : World) : Prop where
 b1 : W.heap[B1]? = some (.cells s.cells 30 (0, 0))
 x : W.heap[X]? = some (.cells C5 30 (0, 0))
 e : W.heap[E]? = some (.cells #[int i64 0] 35 (0, 0))
 tb : W.heap[TB]? = some (.cells #[.map (some MT)] 98 (0, 0))
 mt : ∃ kvs : List (Int × Value), MapAt kI W MT kvs ∧ Ap kvs 1 = some (.map (some mR)) ∧ Ap kvs 2 = some (.map (some mP))
 mr : MapAt sv W mR (AL (s.roles.map Rol.name))
 mp : MapAt sv W mP (AL (s.phrases.map Ph.name))
 base : Below w0.heap.size w0 W
 ge : w0.heap.size ≤ X ∧ w0.heap.size ≤ E ∧ w0.heap.size ≤ TB
 ne : B1 ≠ X
theorem PR : Ab 5 Ao = .seq elem15n5 (Ab 6 Ao) := rfl
theorem PS : Ab 6 Ao = .seq elem15n6 (Ab 7 Ao) := rfl
theorem PT : Ab 7 Ao = .seq elem15n7 (Ab 8 Ao) := rfl
theorem PU : Ab 8 Ao = .seq elem15n8 Ea := rfl
theorem BI (s : Ls) : s.strip.rnames = s.roles.map Rol.name := rfl
theorem BG (s : Ls) : s.strip.pnames = s.phrases.map Ph.name := by
 unfold Sc.pnames Ls.strip; simp [Ph.strip, Function.comp]
theorem JX {A : List Ph} {ps : List Ph} (h : A.map Ph.strip = ps.map Ph.strip) : A.map Ph.name = ps.map Ph.name := by
 have := congrArg (List.map Phr.name) h; rw [List.map_map, List.map_map] at this; exact this
theorem Dq {w : World} {b : Nat} : ∀ {o : Nat} {ps : List Ph}, AZ w b o ps → ∀ c ∈ AR ps, c < w.heap.size
 | _, [], _, c, h => by cases h
 | o, p :: r, ⟨⟨_, _, h3⟩, h⟩, c, hc => by
  unfold AR at hc; rw [List.flatMap_cons, List.mem_append] at hc; rcases hc with hc | hc
  ·unfold Lt.own at hc
   rw [List.mem_append] at hc; rcases hc with hc | hc
   ·split at hc
    ·cases hc
    ·rename_i hl
     rw [List.mem_singleton.1 hc]; exact h3.2.2.lt hl
   ·exact h3.2.2.blocks_lt c hc
  ·exact Dq h c hc
theorem ButOne.blocks {R : Nat} {W W' : World} (h : ButOne R W W') {b : Nat} {o : Obj} (hb : W.heap[b]? = some o) (hr : b ≠ R) : W'.heap[b]? = some o :=
 (h.block b (qs.1 hb).1 hr).trans hb
theorem Gd (s : Ls) (ns n1 n1' n2 : List Int) (w0 : World) (hA : s.At w0) (hns : ns = n1 ++ n2) (hlims : s.strip.lims = true) (hnamed : s.strip.named = true) (hap : s.strip.apart = true)
  (x : Ls) (hstrip : x.strip = s.strip) (hpf : x.phrases = [] ∨ x.fa = some ⟨blk x.fa, 0, none⟩) (hdf : x.dances = [] ∨ x.da = some ⟨blk x.da, 0, none⟩) (hpl : x.phrases.length ≤ maxLen) (hdl : x.dances.length ≤ maxLen)
  (hrows : x.ra = s.ra ∧ x.rc = s.rc ∧ x.ta = s.ta ∧ x.tc = s.tc ∧ x.ua = s.ua ∧ x.uc = s.uc ∧ x.sa = s.sa ∧ x.sc = s.sc)
  (B1 X E TB MT mR mP : Nat) (W : World) (hW : W.heap[X]? = some (.cells x.cells 30 (0, 0)) ∧ W.heap[E]? = some (.cells #[int i64 0] 35 (0, 0)) ∧ W.heap[TB]? = some (.cells #[.map (some MT)] 98 (0, 0)))
  (hmt : ∃ kvs : List (Int × Value), MapAt kI W MT kvs ∧ Ap kvs 1 = some (.map (some mR)) ∧ Ap kvs 2 = some (.map (some mP))) (hmr : MapAt sv W mR (AL (s.roles.map Rol.name))) (hmp : MapAt sv W mP (AL (s.phrases.map Ph.name)))
  (hbase : Below w0.heap.size w0 W) (hge : w0.heap.size ≤ X ∧ w0.heap.size ≤ E ∧ w0.heap.size ≤ TB)
  (hph : AZ W (blk x.fa) (off x.fa) x.phrases) (hda : B5 W (blk x.da) (off x.da) x.dances) (hN1 : NsAt W (Ay x.phrases) n1) (hN2 : NsAt W (Ak (blk x.da) (off x.da) x.dances) n2) (hsep : x.Sep) (hfree : ∀ r ∈ x.refs, FreeB W r.b) (hown : ∀ r ∈ x.refs, w0.heap.size ≤ r.b ∧ r.b ≠ X ∧ r.b ≠ E ∧ r.b ≠ TB) (hown2 : ∀ c ∈ AR x.phrases, c ≠ X ∧ c ≠ E) (hfX : x.phrases ≠ [] → blk x.fa ≠ X ∧ blk x.fa ≠ E)
  (e0 e5 e6 e7 e8 e9 ea eb ec ed ee ef eg eh ei ej ek el em en eo ep eq er es et eu ev ew ex ey ez eA eB eC eD eE eF eG eH eI eJ eK eL eM eN eO eP eQ eR eS eT eU eV eW eX eY eZ aa ab ac ad ae af ag ah ai aj ak al am an ao ap aq ar au av aw ax ay az aA aB aC aD aE aF aG aH aI aJ aK aL aM : Value) :
  CH 15 Try.prog Ea (bodyPostM Fence.wide 0 Try.prog Try.f15 (Ih s ns w0)) { tmps := #[e0, .pointer (some ⟨B1, 0, none⟩), .pointer (some ⟨X, 0, none⟩), .pointer (some ⟨E, 0, none⟩), .pointer (some ⟨TB, 0, none⟩), e5, e6, e7, e8, e9, ea, eb, ec, ed, ee, ef, eg, eh, ei, ej, ek, el, em, en, eo, ep, eq, er, es, et, eu, ev, ew, ex, ey, ez, eA, eB, eC, eD, eE, eF, eG, eH, eI, eJ, eK, eL, eM, eN, eO, eP, eQ, eR, eS, eT, eU, eV, eW, eX, eY, eZ, aa, ab, ac, ad, ae, af, ag, ah, ai, aj, ak, al, am, an, ao, ap, aq, ar, au, av, aw, ax, ay, az, aA, aB, aC, aD, aE, aF, aG, aH, aI, aJ, aK, aL, aM], defers := [dfr X E] } W := by
 obtain ⟨hX, hE, hT⟩ := hW; have hXE : X ≠ E := fun e => by rw [e, hE] at hX; cases hX
 have hap2 : (s.roles.map Rol.name).Nodup ∧ (s.phrases.map Ph.name).Nodup := by
  unfold Sc.apart at hap; rw [BI, BG] at hap; simpa using hap
 have hkey : x.refs.map RefL.key = s.strip.refs := by rw [Ls.refs_key, hstrip]
 have hEn : Cd s.strip ns = if (s.strip.idx ns).isSome then 0 else 170 := by
  unfold Cd; rw [hlims, hnamed, hap]; rfl
 have hlt : ∀ r ∈ x.refs, r.b < W.heap.size := fun r hr => (hfree r hr).lt
 have hdfr := dfr X E; refine Kb ⟨x, ns, w0, X, E, W.heap.size, TB, MT, mR, mP, s.roles.map Rol.name, s.phrases.map Ph.name, W.heap.size + 1⟩ ⟨hsep, fun r hr => ⟨(hown r hr).2.1, (hown r hr).2.2.1, fun e => by have := hlt r hr; simp only at e; omega, (hown r hr).2.2.2, (hown r hr).1⟩, hap2.1, hap2.2⟩
  (hpf.imp_right fun h => by rw [h]; rfl) hpl (hdf.imp_right fun h => by rw [h]; rfl) hdl hXE ⟨hge.1, hge.2.1⟩ B1 W rfl rfl ?_ _ ?_ ?_ _ _ _ _ _ _ _ _ _ _ _ _ _ _ _ _ _ _ _ _ _ _ _ _ _ _ _ _ _ _ _ _ _ _ _ _ _ _ _ _ _ _ _ _ _ _ _ _ _ _ _ _ _ _ _ _ _ _ _ _ _ _ _ _ _ _ _ _ _ _ _ _ _ _ _ _ _ _ _ _ _ _ _ _ _ _ _ _ _ _ _ _ _ _ _
 ·intro W1 hb hk
  obtain ⟨kvs, m1, m2, m3⟩ := hmt; have ho : ∀ {b : Nat} {o : Obj}, W.heap[b]? = some o → W1.heap[b]? = some o := fun h => (hb.block _ (qs.1 h).1).trans h
  exact ⟨ho hX, ho hE, hk, Ae hb (Aa hT 0 rfl), ⟨kvs, m1.below hb m1.lt, m2, m3⟩, hmr.below hb hmr.lt, hmp.below hb hmp.lt, Bi hb hph, Ca hb hda, ⟨[], x.refs, [], ns, rfl, rfl, rfl, trivial, by rw [hns]; exact (hN1.append hN2).below hb⟩, fun r hr => (hfree r hr).below hb, hbase.trans (hb.mono hbase.size)⟩
 ·intro ks V W' hks hkinds hN hp hd hfr hbV hsz hos htp hout hbl
  have hidx : s.strip.idx ns = some ks := by
   unfold Sc.idx; rw [if_pos (by rw [← hstrip]; exact hkinds), BI, BG, ← hkey]; exact hks
  dsimp only at hbV hbl hN hp hd hfr; have hb' : Below w0.heap.size w0 W' := hbV.trans ⟨hos, htp, hout, hsz, fun b hb => hbl b (Nat.lt_of_lt_of_le hb hbV.size) (by have := hge.1; omega) (by have := hge.2.1; omega)⟩; have kc : ∀ {b q : Nat} {v : Value}, b ≠ X → b ≠ E → V.cell? ⟨b, q, none⟩ = some v → W'.cell? ⟨b, q, none⟩ = some v := fun h1 h2 h => (World.cell?_of_block (hbl _ (BT h) h1 h2)).trans h
  obtain ⟨w1, w2, w3, w4, w5, w6, w7, w8⟩ := hrows; have q1 : x.roles = s.roles := congrArg Sc.roles hstrip; have q2 : x.tempos = s.tempos := congrArg Sc.tempos hstrip; have q3 : x.pauses = s.pauses := congrArg Sc.pauses hstrip; have q4 : x.spans = s.spans := congrArg Sc.spans hstrip
  have hdE : x.dances ≠ [] → blk x.da ≠ X ∧ blk x.da ≠ E := fun hz => by
   obtain ⟨d, r, hdr⟩ : ∃ d r, x.dances = d :: r := by
    cases hx : x.dances with
    | nil => exact absurd hx hz
    | cons d r => exact ⟨d, r, rfl⟩
   have hm : (⟨blk x.da, off x.da, 1, d.rn⟩ : RefL) ∈ x.refs := by unfold Ls.refs; rw [hdr]; simp [Ak]
   exact ⟨(hown _ hm).2.1, (hown _ hm).2.2.1⟩
  refine ⟨Or.inl ⟨by rw [hEn, hidx]; rfl, x, ks, rfl, hstrip, ⟨?_, ?_, ?_, ?_, hpf.imp_right fun h => by rw [h]; rfl, hpl, ?_, hdf.imp_right fun h => by rw [h]; rfl, hdl, ?_⟩, ?_, hidx, hsep, fun r hr => ⟨(hown r hr).1, ?_⟩⟩, hb'⟩
  ·rw [w1, w2, q1]; exact hA.roles.below hb' (qn _)
  ·rw [w3, w4, q2]; exact hA.tempos.below hb' (qn _)
  ·rw [w5, w6, q3]; exact hA.pauses.below hb' (qn _)
  ·rw [w7, w8, q4]; exact hA.spans.below hb' (qn _)
  ·by_cases hz : x.phrases = []
   ·rw [hz]; trivial
   ·exact C8 hp (fun q v _ hc => kc (hfX hz).1 (hfX hz).2 hc) (fun c hc q v h => kc (hown2 c hc).1 (hown2 c hc).2 h)
  ·by_cases hz : x.dances = []
   ·rw [hz]; trivial
   ·exact BA hd (fun q v _ hc => kc (hdE hz).1 (hdE hz).2 hc)
  ·exact hN.kept fun r hr v hc => kc (hown r hr).2.1 (hown r hr).2.2.1 hc
  ·obtain ⟨cur, t, hc⟩ := hfr r hr
   exact ⟨cur, t, (hbl _ (qs.1 hc).1 (hown r hr).2.1 (hown r hr).2.2.1).trans hc⟩
 ·intro W' hf hb
  have hidx : s.strip.idx ns = none := by
   unfold Sc.idx; rw [BI, BG, ← hkey, ← hstrip]; rcases hf with h | h
   ·rw [if_neg (by rw [h]; simp)]
   ·split
    ·exact h
    ·rfl
  refine ⟨Or.inr ?_, hb⟩; rw [hEn, hidx]; exact ⟨by decide, rfl⟩
end
section
open Go Go.RowKit Go.Shelf
theorem MapAt.but {κ : Type} [DecidableEq κ] {f : κ → Value} {R : Nat} {W W' : World} {b : Nat} {kvs : List (κ × Value)} (h : MapAt f W b kvs) (hb : ButOne R W W') (hr : b ≠ R) : MapAt f W' b kvs := h.of_block (hb.block _ h.lt hr)
theorem MapAt.ne {κ : Type} [DecidableEq κ] {f : κ → Value} {W : World} {b X : Nat} {kvs : List (κ × Value)} {cs : Array Value} {t : TypeId} {z : Nat × Nat} (h : MapAt f W b kvs) (hX : W.heap[X]? = some (.cells cs t z)) : b ≠ X := fun e => by
 obtain ⟨es, cl, h1, _⟩ := h; rw [e, hX] at h1; cases h1
theorem RowNew.form {W W' : World} {ao : Option Addr} {n : Nat} (h : RowNew W W' ao n) (hn : n ≠ 0) : ao = some ⟨blk ao, 0, none⟩ ∧ W.heap.size ≤ blk ao ∧ FreeB W' (blk ao) := h.resolve_left hn
theorem FreeB.but {R : Nat} {W W' : World} {c : Nat} (h : FreeB W c) (hb : ButOne R W W') (hr : c ≠ R) : FreeB W' c := by
 obtain ⟨cur, t, h⟩ := h; exact ⟨cur, t, hb.blocks h hr⟩
theorem ButOne.cellk {R : Nat} {W W' : World} (h : ButOne R W W') {b q : Nat} {v : Value} (hr : b ≠ R) (hc : W.cell? ⟨b, q, none⟩ = some v) : W'.cell? ⟨b, q, none⟩ = some v := h.cell hc hr
theorem Kd (s : Ls) (ns n1 n2 : List Int) (w0 : World) (hA : s.At w0) (hns : ns = n1 ++ n2) (hlims : s.strip.lims = true) (hnamed : s.strip.named = true) (hap : s.strip.apart = true)
  (B1 X E TB MT mR mP : Nat) (W6 W7 : World) (hE : W6.heap[E]? = some (.cells #[int i64 0] 35 (0, 0))) (hT : W6.heap[TB]? = some (.cells #[.map (some MT)] 98 (0, 0))) (hXX : W6.heap[X]? = some (.cells s.cells 30 (0, 0)))
  (hmt : ∃ kvs : List (Int × Value), MapAt kI W6 MT kvs ∧ Ap kvs 1 = some (.map (some mR)) ∧ Ap kvs 2 = some (.map (some mP))) (hmr : MapAt sv W6 mR (AL (s.roles.map Rol.name))) (hmp : MapAt sv W6 mP (AL (s.phrases.map Ph.name)))
  (hbase : Below w0.heap.size w0 W6) (hge : w0.heap.size ≤ X ∧ w0.heap.size ≤ E ∧ w0.heap.size ≤ TB) (hN1 : NsAt w0 (Ay s.phrases) n1)
  (fa da : Option Addr) (fc dc : Nat) (h7 : R7 s n2 X W6 fa fc da dc W7)
  (e0 e5 e6 e7 e8 e9 ea eb ec ed ee ef eg eh ei ej ek el em en eo ep eq er es et eu ev ew ex ey ez eA eB eC eD eE eF eG eH eI eJ eK eL eM eN eO eP eQ eR eS eT eU eV eW eX eY eZ aa ab ac ad ae af ag ah ai aj ak al am an ao ap aq ar au av aw ax ay az aA aB aC aD aE aF aG aH aI aJ aK aL aM : Value) :
  CH 15 Try.prog (Ab 8 Ao) (bodyPostM Fence.wide 0 Try.prog Try.f15 (Ih s ns w0)) { tmps := #[e0, .pointer (some ⟨B1, 0, none⟩), .pointer (some ⟨X, 0, none⟩), .pointer (some ⟨E, 0, none⟩), .pointer (some ⟨TB, 0, none⟩), e5, e6, e7, e8, e9, ea, eb, ec, ed, ee, ef, eg, eh, ei, ej, ek, el, em, en, eo, ep, eq, er, es, et, eu, ev, ew, ex, ey, ez, eA, eB, eC, eD, eE, eF, eG, eH, eI, eJ, eK, eL, eM, eN, eO, eP, eQ, eR, eS, eT, eU, eV, eW, eX, eY, eZ, aa, ab, ac, ad, ae, af, ag, ah, ai, aj, ak, al, am, an, ao, ap, aq, ar, au, av, aw, ax, ay, az, aA, aB, aC, aD, aE, aF, aG, aH, aI, aJ, aK, aL, aM], defers := [dfr X E] } W7 := by
 obtain ⟨lp, ld, _, lsm⟩ := DU hlims; have hXl := (qs.1 hXX).1; have hEl := (qs.1 hE).1; have hTl := (qs.1 hT).1; have hXE : X ≠ E := fun e => by rw [e, hE] at hXX; cases hXX
 have hXT : X ≠ TB := fun e => by rw [e, hT] at hXX; simp at hXX
 have hsz := h7.but.size; have hbase7 : Below w0.heap.size w0 W7 := hbase.trans (h7.but.below hge.1 hbase.size)
 have hmt7 : ∃ kvs : List (Int × Value), MapAt kI W7 MT kvs ∧ Ap kvs 1 = some (.map (some mR)) ∧ Ap kvs 2 = some (.map (some mP)) := by
  obtain ⟨kvs, m1, m2, m3⟩ := hmt; exact ⟨kvs, m1.but h7.but (m1.ne hXX), m2, m3⟩
 have hmr7 := hmr.but h7.but (hmr.ne hXX); have hmp7 := hmp.but h7.but (hmp.ne hXX); have hMTl : MT < W6.heap.size := by obtain ⟨kvs, m1, _⟩ := hmt; exact m1.lt
 have hmRl := hmr.lt; have hmPl := hmp.lt; have hE7 := h7.but.blocks hE hXE.symm; have hT7 := h7.but.blocks hT hXT.symm; have hdz : s.dances ≠ [] → da = some ⟨blk da, 0, none⟩ ∧ W6.heap.size ≤ blk da ∧ FreeB W7 (blk da) := fun hz => h7.dnn.form (fun e => hz (List.length_eq_zero_iff.1 e))
 have hoff : s.dances ≠ [] → off da = 0 := fun hz => by rw [(hdz hz).1]; rfl
 have hda7 : B5 W7 (blk da) (off da) s.dances := by
  by_cases hz : s.dances = []
  ·rw [hz]; trivial
  ·rw [hoff hz]; exact h7.dan
 have hdn7 : NsAt W7 (Ak (blk da) (off da) s.dances) n2 := by
  by_cases hz : s.dances = []
  ·have := h7.dn
   rw [hz] at this ⊢; exact this
  ·rw [hoff hz]; exact h7.dn
 have hdm : s.dances.length ≤ maxLen := by unfold maxLen; omega
 have hpm : s.phrases.length ≤ maxLen := by unfold maxLen; omega
 rw [PU]; refine AN (fun K hK => ?_); by_cases hpz : s.phrases = []
 ·have hl0 : s.phrases.length = 0 := by rw [hpz]; rfl
  have hn1 : n1 = [] := by
   rw [hpz] at hN1
   cases n1 with
   | nil => rfl
   | cons => exact hN1.elim
  refine wp_mono (IH B1 X E TB _ fa fc _ W7 h7.x (by show some (Value.slice fa s.phrases.length fc) = _; rw [hl0]) K ?_ _ _ _ _ _ _ _ _ _ _ _ _ _ _ _ _ _ _ _ _ _ _ _ _ _ _ _ _ _ _ _ _ _ _ _ _ _ _ _ _ _ _ _ _ _ _ _ _ _ _ _ _ _ _ _ _ _ _ _ _ _ _ _ _ _ _ _ _ _ _ _ _ _ _ _ _ _ _ _ _ _ _ _ _ _ _ _ _ _ _ _ _ _ _ _) By
  intros
  refine hK _ _ ?_; refine Gd s ns [] [] n2 w0 hA (by rw [hns, hn1]) hlims hnamed hap { s with fa := fa, fc := fc, da := da, dc := dc } rfl (Or.inl hpz) ?_ hpm hdm ⟨rfl, rfl, rfl, rfl, rfl, rfl, rfl, rfl⟩ B1 X E TB MT mR mP W7 ⟨h7.x, hE7, hT7⟩ hmt7 hmr7 hmp7 hbase7 hge ?_ hda7 (by simp only [hpz]; trivial) hdn7 ⟨by simp only [hpz]; exact List.nodup_nil, by simp only [hpz]; exact List.not_mem_nil, fun _ => by simp only [hpz]; exact List.not_mem_nil, fun _ h => absurd hpz h⟩ ?_ ?_ (by simp only [hpz]; intro c hc; cases hc) (fun h => absurd hpz h) _ _ _ _ _ _ _ _ _ _ _ _ _ _ _ _ _ _ _ _ _ _ _ _ _ _ _ _ _ _ _ _ _ _ _ _ _ _ _ _ _ _ _ _ _ _ _ _ _ _ _ _ _ _ _ _ _ _ _ _ _ _ _ _ _ _ _ _ _ _ _ _ _ _ _ _ _ _ _ _ _ _ _ _ _ _ _ _ _ _ _ _ _ _ _
  ·by_cases hz : s.dances = []
   ·exact Or.inl hz
   ·exact Or.inr (hdz hz).1
  ·simp only [hpz]; trivial
  ·intro r hr
   unfold Ls.refs at hr; simp only [hpz, Ay, List.nil_append] at hr; obtain ⟨e1, _, e3, _⟩ := AP hr; rw [e1]; exact (hdz e3).2.2
  ·intro r hr
   unfold Ls.refs at hr; simp only [hpz, Ay, List.nil_append] at hr; obtain ⟨e1, _, e3, _⟩ := AP hr; rw [e1]; have := (hdz e3).2.1; have := hbase.size; omega
 ·have hn0 : s.phrases.length ≠ 0 := fun e => hpz (List.length_eq_zero_iff.1 e)
  obtain ⟨f1, f2, f3⟩ := h7.phn.form hn0; have hg := f3.lt; generalize hgb : blk fa = g at *
  have hS : PhS s.phrases n1 w0.heap.size g 0 W7 [] s.phrases [] n1 W7 := by
   refine ⟨rfl, rfl, rfl, trivial, trivial, ?_, ?_, by simp [AR], (fun b hb => by cases hb), ⟨by have := hbase.size; omega, f3⟩, Dq hA.phrases, lsm, ButOne.refl _ _⟩
   ·have := h7.ph; rw [hgb] at this; exact this
   ·exact hN1.below hbase7
  refine wp_mono (II s.phrases n1 w0.heap.size g s.phrases.length fc B1 X E TB _ _ W7 rfl (by omega) h7.x (by show some (Value.slice fa s.phrases.length fc) = _; rw [f1]) (by omega) hg hS K ?_ _ _ _ _ _ _ _ _ _ _ _ _ _ _ _ _ _ _ _ _ _ _ _ _ _ _ _ _ _ _ _ _ _ _ _ _ _ _ _ _ _ _ _ _ _ _ _ _ _ _ _ _ _ _ _ _ _ _ _ _ _ _ _ _ _ _ _ _ _ _ _ _ _ _ _ _ _ _ _ _ _ _ _ _ _ _ _ _ _ _ _ _ _ _ _) By; intro A n1' W8 hAl h8
  intros
  refine hK _ _ ?_; have hstr : A.map Ph.strip = s.phrases.map Ph.strip := by have := h8.strip; simpa using this
  have hnn : n1' = n1 := by have := h8.nseq; simpa using this
  subst hnn; have hAn : A ≠ [] := fun e => by rw [e] at hAl; exact hn0 hAl.symm
  have hnames := JX hstr; have hsz8 := h8.but.size; have hoA : ∀ b ∈ AR A, W7.heap.size ≤ b ∧ FreeB W8 b := h8.own; have hapA := List.nodup_cons.1 h8.apart; have hdg : s.dances ≠ [] → blk da ≠ g := fun hz e => h7.fd hz hpz (by rw [hgb]; exact e.symm)
  have hdl7 : s.dances ≠ [] → blk da < W7.heap.size := fun hz => (hdz hz).2.2.lt
  refine Gd s ns n1' [] n2 w0 hA hns hlims hnamed hap { s with fa := fa, fc := fc, da := da, dc := dc, phrases := A } ?_ (Or.inr (by rw [hgb]; exact f1)) ?_ (by show A.length ≤ _; rw [hAl]; exact hpm) hdm ⟨rfl, rfl, rfl, rfl, rfl, rfl, rfl, rfl⟩ B1 X E TB MT mR mP W8 ⟨?_, h8.but.blocks hE7 (by omega), h8.but.blocks hT7 (by omega)⟩ ?_ (hmr7.but h8.but (by omega)) (hmp7.but h8.but (by omega)) (hbase7.trans (h8.but.below (by have := hbase.size; omega) hbase7.size)) hge ?_ ?_ h8.nsA ?_ ⟨hapA.2, by rw [hgb]; exact hapA.1, fun hz hm => ?_, fun hz _ e => hdg hz (by rw [← e]; exact hgb)⟩ ?_ ?_ ?_ (fun _ => by rw [hgb]; omega) _ _ _ _ _ _ _ _ _ _ _ _ _ _ _ _ _ _ _ _ _ _ _ _ _ _ _ _ _ _ _ _ _ _ _ _ _ _ _ _ _ _ _ _ _ _ _ _ _ _ _ _ _ _ _ _ _ _ _ _ _ _ _ _ _ _ _ _ _ _ _ _ _ _ _ _ _ _ _ _ _ _ _ _ _ _ _ _ _ _ _ _ _ _ _
  ·show ({ s with fa := fa, fc := fc, da := da, dc := dc, phrases := A } : Ls).strip = s.strip
   unfold Ls.strip; simp only [hstr]
  ·by_cases hz : s.dances = []
   ·exact Or.inl hz
   ·exact Or.inr (hdz hz).1
  ·have := h8.but.blocks h7.x (by omega)
   rw [this]; unfold Il Ls.cells; rw [← hAl]
  ·obtain ⟨kvs, m1, m2, m3⟩ := hmt7
   exact ⟨kvs, m1.but h8.but (by omega), m2, m3⟩
  ·show AZ W8 (blk fa) (off fa) A
   rw [hgb, f1]; exact h8.atA
  ·show B5 W8 (blk da) (off da) s.dances
   by_cases hz : s.dances = []
   ·rw [hz]; trivial
   ·exact BA hda7 (fun q v _ hc => h8.but.cellk (hdg hz) hc)
  ·show NsAt W8 (Ak (blk da) (off da) s.dances) n2
   by_cases hz : s.dances = []
   ·rw [hz] at hdn7 ⊢
    cases n2 with
    | nil => trivial
    | cons => exact hdn7.elim
   ·exact hdn7.kept fun x hx v hc => h8.but.cellk (by rw [(AP hx).1]; exact hdg hz) hc
  ·have := (hoA _ hm).1
   have := hdl7 hz; simp only at *; omega
  ·intro r hr
   rcases List.mem_append.1 hr with hr | hr
   ·exact (hoA _ (Bj hr)).2
   ·obtain ⟨e1, _, e3, _⟩ := AP hr
    rw [e1]; exact (hdz e3).2.2.but h8.but (hdg e3)
  ·intro r hr
   rcases List.mem_append.1 hr with hr | hr
   ·have := (hoA _ (Bj hr)).1
    have := hbase7.size; exact ⟨by omega, by omega, by omega, by omega⟩
   ·obtain ⟨e1, _, e3, _⟩ := AP hr
    rw [e1]; have h1 := (hdz e3).2.1; have h2 := hbase.size; simp only; exact ⟨by omega, by omega, by omega, by omega⟩
  ·intro c hc
   have := (hoA _ hc).1; omega
theorem Kc (s : Ls) (ns : List Int) (w0 : World) (hA : s.At w0) (hN : NsAt w0 s.refs ns) (hlims : s.strip.lims = true) (hnamed : s.strip.named = true)
  (B1 X E TB MT mR mP : Nat) (W : World) (h : R5 s w0 B1 X E TB MT mR mP W)
  (e0 e5 e6 e7 e8 e9 ea eb ec ed ee ef eg eh ei ej ek el em en eo ep eq er es et eu ev ew ex ey ez eA eB eC eD eE eF eG eH eI eJ eK eL eM eN eO eP eQ eR eS eT eU eV eW eX eY eZ aa ab ac ad ae af ag ah ai aj ak al am an ao ap aq ar au av aw ax ay az aA aB aC aD aE aF aG aH aI aJ aK aL aM : Value) :
  CH 15 Try.prog (Ab 5 Ao) (bodyPostM Fence.wide 0 Try.prog Try.f15 (Ih s ns w0)) { tmps := #[e0, .pointer (some ⟨B1, 0, none⟩), .pointer (some ⟨X, 0, none⟩), .pointer (some ⟨E, 0, none⟩), .pointer (some ⟨TB, 0, none⟩), e5, e6, e7, e8, e9, ea, eb, ec, ed, ee, ef, eg, eh, ei, ej, ek, el, em, en, eo, ep, eq, er, es, et, eu, ev, ew, ex, ey, ez, eA, eB, eC, eD, eE, eF, eG, eH, eI, eJ, eK, eL, eM, eN, eO, eP, eQ, eR, eS, eT, eU, eV, eW, eX, eY, eZ, aa, ab, ac, ad, ae, af, ag, ah, ai, aj, ak, al, am, an, ao, ap, aq, ar, au, av, aw, ax, ay, az, aA, aB, aC, aD, aE, aF, aG, aH, aI, aJ, aK, aL, aM], defers := [dfr X E] } W := by
 obtain ⟨n1, n2, hns, hN1, hN2⟩ := NsAt.split (xs := Ay s.phrases) hN; obtain ⟨lp, ld, _, lsm⟩ := DU hlims; have hXE : X ≠ E := fun e => by have := h.x; rw [e, h.e] at this; cases this
 have hXT : TB ≠ X := fun e => by have := h.x; rw [← e, h.tb] at this; simp at this
 have hapI : s.strip.apart = true ↔ (s.roles.map Rol.name).Nodup ∧ (s.phrases.map Ph.name).Nodup := by
  unfold Sc.apart; rw [BI, BG]; simp
 rw [PR]; refine AN (fun K hK => ?_); refine OC s _ _ B1 X E TB MT mR mP _ _ rfl rfl _ W h.b1 h.tb h.mt h.mr h.mp K _ ?_ ?_ _ _ _ _ _ _ _ _ _ _ _ _ _ _ _ _ _ _ _ _ _ _ _ _ _ _ _ _ _ _ _ _ _ _ _ _ _ _ _ _ _ _ _ _ _ _ _ _ _ _ _ _ _ _ _ _ _ _ _ _ _ _ _ _ _ _ _ _ _ _ _ _ _ _ _ _ _ _ _ _ _ _ _ _ _ _ _ _ _ _ _ _ _ _ _
 ·intro lR lP
  have hap : s.strip.apart = true := hapI.2 ⟨DC.1 (by rw [lR]; simp), DC.1 (by rw [lP]; simp)⟩
  intros
  refine hK _ _ ?_; rw [PS]; refine AN (fun K hK => ?_); refine wp_mono (OD s B1 X E TB C5 rfl _ W h.b1 h.x K ?_ _ _ _ _ _ _ _ _ _ _ _ _ _ _ _ _ _ _ _ _ _ _ _ _ _ _ _ _ _ _ _ _ _ _ _ _ _ _ _ _ _ _ _ _ _ _ _ _ _ _ _ _ _ _ _ _ _ _ _ _ _ _ _ _ _ _ _ _ _ _ _ _ _ _ _ _ _ _ _ _ _ _ _ _ _ _ _ _ _ _ _ _ _ _ _) By; intro W6 g6 o6 b6 s6
  intros
  refine hK _ _ ?_; rw [PT]; refine AN (fun K hK => ?_); have hb6 : Below w0.heap.size w0 W6 := b6 _ _ h.base h.ge.1; refine wp_mono (OF s n2 B1 X E TB _ W6 ((o6 _ h.ne).trans h.b1) g6 (fun b hb e => by have := Dq hA.phrases b hb; have := h.ge.1; omega) (hA.below hb6) (hN2.below hb6) (by omega) (by omega) K ?_ _ _ _ _ _ _ _ _ _ _ _ _ _ _ _ _ _ _ _ _ _ _ _ _ _ _ _ _ _ _ _ _ _ _ _ _ _ _ _ _ _ _ _ _ _ _ _ _ _ _ _ _ _ _ _ _ _ _ _ _ _ _ _ _ _ _ _ _ _ _ _ _ _ _ _ _ _ _ _ _ _ _ _ _ _ _ _ _ _ _ _ _ _ _ _) By; intro fa fc da dc W7 h7
  intros
  refine hK _ _ ?_; have hmm : ∀ {κ : Type} [DecidableEq κ] {f : κ → Value} {b : Nat} {kvs : List (κ × Value)}, MapAt f W b kvs → MapAt f W6 b kvs := fun hm => hm.of_block (o6 _ (hm.ne h.x))
  refine Kd s ns n1 n2 w0 hA hns hlims hnamed hap B1 X E TB MT mR mP W6 W7 ((o6 _ hXE.symm).trans h.e) ((o6 _ hXT).trans h.tb) g6 ?_ (hmm h.mr) (hmm h.mp) hb6 h.ge hN1 fa da fc dc h7 _ _ _ _ _ _ _ _ _ _ _ _ _ _ _ _ _ _ _ _ _ _ _ _ _ _ _ _ _ _ _ _ _ _ _ _ _ _ _ _ _ _ _ _ _ _ _ _ _ _ _ _ _ _ _ _ _ _ _ _ _ _ _ _ _ _ _ _ _ _ _ _ _ _ _ _ _ _ _ _ _ _ _ _ _ _ _ _ _ _ _ _ _ _ _; obtain ⟨kvs, m1, m2, m3⟩ := h.mt; exact ⟨kvs, hmm m1, m2, m3⟩
 ·intro hbad
  have hap : s.strip.apart = false := by
   cases hc : s.strip.apart with
   | false => rfl
   | true =>
    obtain ⟨a1, a2⟩ := hapI.1 hc; exact absurd ⟨by simpa using DC.2 a1, by simpa using DC.2 a2⟩ hbad
  have hE : Cd s.strip ns = 171 := by unfold Cd; rw [hlims, hnamed, hap]; rfl
  intros
  refine Es _ X E 171 _ _ _ W rfl rfl h.x rfl h.e hXE fun W' hB => ⟨Or.inr ?_, h.base.trans (hB _ h.ge.1 h.ge.2.1)⟩
  rw [hE]; exact ⟨by decide, rfl⟩
end
section
open Go Go.RowKit Go.Shelf Go.Deep
noncomputable def elem15n4 : Code := match Ab 4 Ao with
 | .seq a _ => a
 | c => c
def Me (s : Ls) (X E : Nat) (ds : List Deferred) (wb : World) : Exit → Act → World → Prop := fun e a W =>
 e = .panic (AC 170) ∧ a.tmps.getD 2 undef = .pointer (some ⟨X, 0, none⟩) ∧ a.tmps.getD 3 undef = .pointer (some ⟨E, 0, none⟩) ∧ a.defers = ds ∧ Below wb.heap.size wb W ∧ ((s.roles.map Rol.name).all Au = false ∨ (s.phrases.map Ph.name).all Au = false)
theorem E5 {s : Ls} {X E : Nat} {ds : List Deferred} {wb : World} {K : Act → World → Prop} {k : Nat} {v : Value} (h2 : k ≠ 2) (h3 : k ≠ 3) (c : List PanicEntry) (a : Act) (w : World) (h : Exit.then K (Me s X E ds wb) (.panic c) (a.put (some k) v) w) : Exit.then K (Me s X E ds wb) (.panic c) a w := by
 obtain ⟨h1, h4, h5, h6, h7, h8⟩ := h; refine ⟨h1, ?_, ?_, h6, h7, h8⟩
 ·rw [← h4]; simp [Act.put, Array.getD_eq_getD_getElem?, Array.getElem?_setIfInBounds_ne h2]
 ·rw [← h5]; simp [Act.put, Array.getD_eq_getD_getElem?, Array.getElem?_setIfInBounds_ne h3]
theorem OB (s : Ls) (B1 X E : Nat) (ds : List Deferred) (Wb : World) (hB : Wb.heap[B1]? = some (.cells s.cells 30 (0, 0))) (hA : s.At Wb) (he : Env Wb) (K : Act → World → Prop)
  (hK : ∀ (MT mR mP TB : Nat) (W : World), Below Wb.heap.size Wb W → Wb.heap.size ≤ TB → (s.roles.map Rol.name).all Au = true → (s.phrases.map Ph.name).all Au = true → W.heap[TB]? = some (.cells #[.map (some MT)] 98 (0, 0)) → (∃ kvs : List (Int × Value), MapAt kI W MT kvs ∧ Ap kvs 1 = some (.map (some mR)) ∧ Ap kvs 2 = some (.map (some mP))) → MapAt sv W mR (AL (s.roles.map Rol.name)) → MapAt sv W mP (AL (s.phrases.map Ph.name)) →
   ∀ (f0 f5 f6 f7 f8 f9 aN aO aP aQ aR aS aT aU aV aW aX aY aZ ba bb bc bd be bf bg bh bi bj bk bl bm bn bo bp bq br bs bt bu bv bw bx bz bA bB bC bD bE bF bG bH bI bJ bK bL bM bN bO bP bQ bR bS bT bU bV bW bX bY bZ ca cb cc cd ce cf cg ch ci cj ck cl cm cn co cp cq cr cs ct cu cv cw cx cy : Value), K { tmps := #[f0, .pointer (some ⟨B1, 0, none⟩), .pointer (some ⟨X, 0, none⟩), .pointer (some ⟨E, 0, none⟩), .pointer (some ⟨TB, 0, none⟩), f5, f6, f7, f8, f9, aN, aO, aP, aQ, aR, aS, aT, aU, aV, aW, aX, aY, aZ, ba, bb, bc, bd, be, bf, bg, bh, bi, bj, bk, bl, bm, bn, bo, bp, bq, br, bs, bt, bu, bv, bw, bx, bz, bA, bB, bC, bD, bE, bF, bG, bH, bI, bJ, bK, bL, bM, bN, bO, bP, bQ, bR, bS, bT, bU, bV, bW, bX, bY, bZ, ca, cb, cc, cd, ce, cf, cg, ch, ci, cj, ck, cl, cm, cn, co, cp, cq, cr, cs, ct, cu, cv, cw, cx, cy], defers := ds } W)
  (e0 e4 e5 e6 e7 e8 e9 ea eb ec ed ee ef eg eh ei ej ek el em en eo ep eq er es et eu ev ew ex ey ez eA eB eC eD eE eF eG eH eI eJ eK eL eM eN eO eP eQ eR eS eT eU eV eW eX eY eZ aa ab ac ad ae af ag ah ai aj ak al am an ao ap aq ar au av aw ax ay az aA aB aC aD aE aF aG aH aI aJ aK aL aM : Value) :
  elem15n4.wp Try.prog (Exit.then K (Me s X E ds Wb)) { tmps := #[e0, .pointer (some ⟨B1, 0, none⟩), .pointer (some ⟨X, 0, none⟩), .pointer (some ⟨E, 0, none⟩), e4, e5, e6, e7, e8, e9, ea, eb, ec, ed, ee, ef, eg, eh, ei, ej, ek, el, em, en, eo, ep, eq, er, es, et, eu, ev, ew, ex, ey, ez, eA, eB, eC, eD, eE, eF, eG, eH, eI, eJ, eK, eL, eM, eN, eO, eP, eQ, eR, eS, eT, eU, eV, eW, eX, eY, eZ, aa, ab, ac, ad, ae, af, ag, ah, ai, aj, ak, al, am, an, ao, ap, aq, ar, au, av, aw, ax, ay, az, aA, aB, aC, aD, aE, aF, aG, aH, aI, aJ, aK, aL, aM], defers := ds } Wb := by
 have hB' := hB; unfold Ls.cells at hB'; have c6 := Aa hB' 6 rfl; have c10 := Aa hB' 10 rfl
 have hG : R4G B1 X E s.ra s.fa s.rc s.fc s.roles s.phrases ds Wb (Exit.then K (Me s X E ds Wb)) := by
  refine ⟨fun hb => ⟨Ae hb c6, Ae hb c10⟩, fun W hb => ?_, fun W hb => ?_, fun t d W hb hbad h2 h3 hd => ⟨rfl, h2, h3, hd, hb, hbad⟩, ?_⟩
  ·exact Nr s.roles s.ra s.rc W (he.below hb) (hA.roles.below hb (qn _))
  ·exact Ns s.phrases s.fa s.fc W (he.below hb) ⟨hA.pform, hA.plen, Bi hb hA.phrases⟩
  ·intro W hb MT mR mP TB kvs _ _ _ gT hM h1 h2 hR hP okR okP hT g0 g5 g6 g7 g8 g9 g10 g11 g12 g13 g14 g15 g16 g25 g26 g27 g28 g29 g30 g31 g32 g33 g34 g35 g36 g37 g38 g39 g40 g41 g42 g43 g44 g45 g46 g47 g48 g49 g50 g51 g52 g53 g54 g55 g56 g57 g58 g59 g60 g61 g62 g63 g64 g65 g66 g67 g68 g69 g70 g71 g72 g73 g74 g75 g76 g77 g78 g79 g80 g81 g82 g83 g84 g85 g86 g87 g88 g89 g90 g91 g92 g93 g94 g95 g96 g97 g98
   exact hK MT mR mP TB W hb gT okR okP hT ⟨kvs, hM, h1, h2⟩ hR hP _ _ _ _ _ _ _ _ _ _ _ _ _ _ _ _ _ _ _ _ _ _ _ _ _ _ _ _ _ _ _ _ _ _ _ _ _ _ _ _ _ _ _ _ _ _ _ _ _ _ _ _ _ _ _ _ _ _ _ _ _ _ _ _ _ _ _ _ _ _ _ _ _ _ _ _ _ _ _ _ _ _ _ _ _ _ _ _ _ _ _ _ _ _ _
 have hS : R4S B1 s.ra s.fa s.rc s.fc s.roles.length s.phrases.length Wb := hG.s (Below.refl _ _); have HN := MQ B1 X E s.ra s.fa s.rc s.fc s.roles s.phrases Wb hG (Wb.drew) (Ar (Below.refl _ _) 1); have HNN := qh HN; clear HN hG hK hB hB' hA he c6 c10; unfold elem15n4 Ao
 conv => arg 2; whnf
 refine wp_region_held (S := R4S B1 s.ra s.fa s.rc s.fc s.roles.length s.phrases.length) (by kernel_rfl) ?_; change wpAnyH _ _ _ _ _ _ _ _ Wb.drew; refine tq 1 _ (.pointer (some ⟨B1, 6, none⟩)) rfl (by kernel_rfl) (E5 (k := 18) (by omega) (by omega)) (Or.inl ⟨by kernel_rfl, fun w hw => by go_simp⟩) hS ?_; simp only [Act.put, qA, qB, qC, qD, qE, qF]; refine tq 2 _ (.slice s.ra s.roles.length s.rc) rfl (by kernel_rfl) (E5 (k := 19) (by omega) (by omega)) (Or.inl ⟨by kernel_rfl, fun w hw => by have h6 := hw.1; go_simp⟩) hS ?_; simp only [Act.put, qA, qB, qC, qD, qE, qF]; refine tq 5 _ (.pointer (some ⟨B1, 10, none⟩)) rfl (by kernel_rfl) (E5 (k := 21) (by omega) (by omega)) (Or.inl ⟨by kernel_rfl, fun w hw => by go_simp⟩) hS ?_; simp only [Act.put, qA, qB, qC, qD, qE, qF]; refine tq 6 _ (.slice s.fa s.phrases.length s.fc) rfl (by kernel_rfl) (E5 (k := 22) (by omega) (by omega)) (Or.inl ⟨by kernel_rfl, fun w hw => by have h10 := hw.2; go_simp⟩) hS ?_; simp only [Act.put, qA, qB, qC, qD, qE, qF]; exact HNN.out _ _ _ _ _ _ _ _ _ _ _ _ _ _ _ _ _ _ _ _ _ _ _ _ _ _ _ _ _ _ _ _ _ _ _ _ _ _ _ _ _ _ _ _ _ _ _ _ _ _ _ _ _ _ _ _ _ _ _ _ _ _ _ _ _ _ _ _ _ _ _ _ _ _ _ _ _ _ _ _ _ _ _ _ _ _ _ _ _ _ _ _
end
section
open Go Go.RowKit Go.Shelf
noncomputable def elem15n0 : Code := match Ab 0 Ao with
 | .seq a _ => a
 | c => c
noncomputable def elem15n1 : Code := match Ab 1 Ao with
 | .seq a _ => a
 | c => c
noncomputable def elem15n2 : Code := match Ab 2 Ao with
 | .seq a _ => a
 | c => c
noncomputable def elem15n3 : Code := match Ab 3 Ao with
 | .seq a _ => a
 | c => c
theorem PK : Ao = .seq elem15n0 (Ab 1 Ao) := rfl
theorem PL : Ab 1 Ao = .seq elem15n1 (Ab 2 Ao) := rfl
theorem PN : Ab 2 Ao = .seq elem15n2 (Ab 3 Ao) := rfl
theorem PO : Ab 3 Ao = .seq elem15n3 (Ab 4 Ao) := rfl
theorem PP : Ab 4 Ao = .seq elem15n4 (Ab 5 Ao) := rfl
theorem Ai (w : World) (xs : Array Value) (t : TypeId) : ∃ w', w.alloc (.cells xs t) = w' ∧ w'.heap[w.heap.size]? = some (.cells xs t (0, 0)) ∧ Below w.heap.size w w' ∧ w'.heap.size = w.heap.size + 1 :=
 ⟨_, rfl, heap_alloc_new w _, (Below.refl w.heap.size w).alloc (qn _) _, by simp⟩
theorem Ox (s : Ls) (W : World) (K : Act → World → Prop)
  (hK : ∀ (W' : World) (B1 X E : Nat), Below W.heap.size W W' → W.heap.size ≤ X → W.heap.size ≤ E → B1 ≠ X → W'.heap[B1]? = some (.cells s.cells 30 (0, 0)) → W'.heap[X]? = some (.cells C5 30 (0, 0)) → W'.heap[E]? = some (.cells #[int i64 0] 35 (0, 0)) →
   ∀ (e0 e4 e5 e6 e7 e8 e9 ea eb ec ed ee ef eg eh ei ej ek el em en eo ep eq er es et eu ev ew ex ey ez eA eB eC eD eE eF eG eH eI eJ eK eL eM eN eO eP eQ eR eS eT eU eV eW eX eY eZ aa ab ac ad ae af ag ah ai aj ak al am an ao ap aq ar au av aw ax ay az aA aB aC aD aE aF aG aH aI aJ aK aL aM : Value), K { tmps := #[e0, .pointer (some ⟨B1, 0, none⟩), .pointer (some ⟨X, 0, none⟩), .pointer (some ⟨E, 0, none⟩), e4, e5, e6, e7, e8, e9, ea, eb, ec, ed, ee, ef, eg, eh, ei, ej, ek, el, em, en, eo, ep, eq, er, es, et, eu, ev, ew, ex, ey, ez, eA, eB, eC, eD, eE, eF, eG, eH, eI, eJ, eK, eL, eM, eN, eO, eP, eQ, eR, eS, eT, eU, eV, eW, eX, eY, eZ, aa, ab, ac, ad, ae, af, ag, ah, ai, aj, ak, al, am, an, ao, ap, aq, ar, au, av, aw, ax, ay, az, aA, aB, aC, aD, aE, aF, aG, aH, aI, aJ, aK, aL, aM], defers := [] } W') :
  elem15n0.wp Try.prog (Exit.then K (fun _ _ _ => False)) { tmps := #[s.val] ++ Array.replicate 98 undef, defers := [] } W := by
 unfold Ls.val; unfold Ls.cells at hK ⊢; obtain ⟨W1, x1, g1, b1, s1⟩ := Ai W #[sv s.name, int i64 s.wd, int i64 s.dp, int i64 s.bars, int i64 s.t0, int i64 s.t1, .slice s.ra s.roles.length s.rc, .slice s.ta s.tempos.length s.tc, .slice s.ua s.pauses.length s.uc, .slice s.sa s.spans.length s.sc, .slice s.fa s.phrases.length s.fc, .slice s.da s.dances.length s.dc] 30; obtain ⟨W2, x2, g2, b2, s2⟩ := Ai W1 C5 30; obtain ⟨W3, x3, g3, b3, s3⟩ := Ai W2 #[int i64 0] 35; unfold C5 at x2; have HF := qh (hK W3 W.heap.size W1.heap.size W2.heap.size (b1.trans ((b2.trans (b3.mono (by omega))).mono (by omega))) (by omega) (by omega) (by omega) (((b2.trans (b3.mono (by omega))).block _ (by omega)).trans g1) ((b3.block _ (by omega)).trans g2) g3); clear hK g1 g2 g3 b1 b2 b3 s1 s2 s3; simp only [Array.replicate]; unfold elem15n0 Ao
 conv => arg 2; whnf
 go_wp2_with fail; exact HF.out _ _ _ _ _ _ _ _ _ _ _ _ _ _ _ _ _ _ _ _ _ _ _ _ _ _ _ _ _ _ _ _ _ _ _ _ _ _ _ _ _ _ _ _ _ _ _ _ _ _ _ _ _ _ _ _ _ _ _ _ _ _ _ _ _ _ _ _ _ _ _ _ _ _ _ _ _ _ _ _ _ _ _ _ _ _ _ _ _ _ _ _ _ _ _ _
theorem Oy (B1 X E : Nat) (W : World) (K : Act → World → Prop) (hK : ∀ (e0 e4 e5 e6 e7 e8 e9 ea eb ec ed ee ef eg eh ei ej ek el em en eo ep eq er es et eu ev ew ex ey ez eA eB eC eD eE eF eG eH eI eJ eK eL eM eN eO eP eQ eR eS eT eU eV eW eX eY eZ aa ab ac ad ae af ag ah ai aj ak al am an ao ap aq ar au av aw ax ay az aA aB aC aD aE aF aG aH aI aJ aK aL aM : Value), K { tmps := #[e0, .pointer (some ⟨B1, 0, none⟩), .pointer (some ⟨X, 0, none⟩), .pointer (some ⟨E, 0, none⟩), e4, e5, e6, e7, e8, e9, ea, eb, ec, ed, ee, ef, eg, eh, ei, ej, ek, el, em, en, eo, ep, eq, er, es, et, eu, ev, ew, ex, ey, ez, eA, eB, eC, eD, eE, eF, eG, eH, eI, eJ, eK, eL, eM, eN, eO, eP, eQ, eR, eS, eT, eU, eV, eW, eX, eY, eZ, aa, ab, ac, ad, ae, af, ag, ah, ai, aj, ak, al, am, an, ao, ap, aq, ar, au, av, aw, ax, ay, az, aA, aB, aC, aD, aE, aF, aG, aH, aI, aJ, aK, aL, aM], defers := [dfr X E] } W) (e0 e4 e5 e6 e7 e8 e9 ea eb ec ed ee ef eg eh ei ej ek el em en eo ep eq er es et eu ev ew ex ey ez eA eB eC eD eE eF eG eH eI eJ eK eL eM eN eO eP eQ eR eS eT eU eV eW eX eY eZ aa ab ac ad ae af ag ah ai aj ak al am an ao ap aq ar au av aw ax ay az aA aB aC aD aE aF aG aH aI aJ aK aL aM : Value) :
  elem15n1.wp Try.prog (Exit.then K (fun _ _ _ => False)) { tmps := #[e0, .pointer (some ⟨B1, 0, none⟩), .pointer (some ⟨X, 0, none⟩), .pointer (some ⟨E, 0, none⟩), e4, e5, e6, e7, e8, e9, ea, eb, ec, ed, ee, ef, eg, eh, ei, ej, ek, el, em, en, eo, ep, eq, er, es, et, eu, ev, ew, ex, ey, ez, eA, eB, eC, eD, eE, eF, eG, eH, eI, eJ, eK, eL, eM, eN, eO, eP, eQ, eR, eS, eT, eU, eV, eW, eX, eY, eZ, aa, ab, ac, ad, ae, af, ag, ah, ai, aj, ak, al, am, an, ao, ap, aq, ar, au, av, aw, ax, ay, az, aA, aB, aC, aD, aE, aF, aG, aH, aI, aJ, aK, aL, aM], defers := [] } W := by
 have HF := qh hK; clear hK; dsimp only; unfold elem15n1 Ao
 conv => arg 2; whnf
 go_wp2_with fail; exact HF.out _ _ _ _ _ _ _ _ _ _ _ _ _ _ _ _ _ _ _ _ _ _ _ _ _ _ _ _ _ _ _ _ _ _ _ _ _ _ _ _ _ _ _ _ _ _ _ _ _ _ _ _ _ _ _ _ _ _ _ _ _ _ _ _ _ _ _ _ _ _ _ _ _ _ _ _ _ _ _ _ _ _ _ _ _ _ _ _ _ _ _ _ _ _ _ _
theorem Oz (s : Ls) (ks : List Int) (B1 X E : Nat) (ds : List Deferred) (W : World) (hB : W.heap[B1]? = some (.cells s.cells 30 (0, 0))) (hA : s.At W) (hN : NsAt W s.refs ks) (K : Act → World → Prop) (Q : Exit → Act → World → Prop)
  (hK : s.strip.lims = true → ∀ W', Below W.heap.size W W' → ∀ (e0 e4 e5 e6 e7 e8 e9 ea eb ec ed ee ef eg eh ei ej ek el em en eo ep eq er es et eu ev ew ex ey ez eA eB eC eD eE eF eG eH eI eJ eK eL eM eN eO eP eQ eR eS eT eU eV eW eX eY eZ aa ab ac ad ae af ag ah ai aj ak al am an ao ap aq ar au av aw ax ay az aA aB aC aD aE aF aG aH aI aJ aK aL aM : Value), K { tmps := #[e0, .pointer (some ⟨B1, 0, none⟩), .pointer (some ⟨X, 0, none⟩), .pointer (some ⟨E, 0, none⟩), e4, e5, e6, e7, e8, e9, ea, eb, ec, ed, ee, ef, eg, eh, ei, ej, ek, el, em, en, eo, ep, eq, er, es, et, eu, ev, ew, ex, ey, ez, eA, eB, eC, eD, eE, eF, eG, eH, eI, eJ, eK, eL, eM, eN, eO, eP, eQ, eR, eS, eT, eU, eV, eW, eX, eY, eZ, aa, ab, ac, ad, ae, af, ag, ah, ai, aj, ak, al, am, an, ao, ap, aq, ar, au, av, aw, ax, ay, az, aA, aB, aC, aD, aE, aF, aG, aH, aI, aJ, aK, aL, aM], defers := ds } W')
  (hbad : s.strip.lims = false → ∀ W', Below W.heap.size W W' → ∀ (e0 e4 e5 e6 e7 e8 e9 ea eb ec ed ee ef eg eh ei ej ek el em en eo ep eq er es et eu ev ew ex ey ez eA eB eC eD eE eF eG eH eI eJ eK eL eM eN eO eP eQ eR eS eT eU eV eW eX eY eZ aa ab ac ad ae af ag ah ai aj ak al am an ao ap aq ar au av aw ax ay az aA aB aC aD aE aF aG aH aI aJ aK aL aM : Value), Q (.panic (AC 2)) { tmps := #[e0, .pointer (some ⟨B1, 0, none⟩), .pointer (some ⟨X, 0, none⟩), .pointer (some ⟨E, 0, none⟩), e4, e5, e6, e7, e8, e9, ea, eb, ec, ed, ee, ef, eg, eh, ei, ej, ek, el, em, en, eo, ep, eq, er, es, et, eu, ev, ew, ex, ey, ez, eA, eB, eC, eD, eE, eF, eG, eH, eI, eJ, eK, eL, eM, eN, eO, eP, eQ, eR, eS, eT, eU, eV, eW, eX, eY, eZ, aa, ab, ac, ad, ae, af, ag, ah, ai, aj, ak, al, am, an, ao, ap, aq, ar, au, av, aw, ax, ay, az, aA, aB, aC, aD, aE, aF, aG, aH, aI, aJ, aK, aL, aM], defers := ds } W')
  (e0 e4 e5 e6 e7 e8 e9 ea eb ec ed ee ef eg eh ei ej ek el em en eo ep eq er es et eu ev ew ex ey ez eA eB eC eD eE eF eG eH eI eJ eK eL eM eN eO eP eQ eR eS eT eU eV eW eX eY eZ aa ab ac ad ae af ag ah ai aj ak al am an ao ap aq ar au av aw ax ay az aA aB aC aD aE aF aG aH aI aJ aK aL aM : Value) :
  elem15n2.wp Try.prog (Exit.then K Q) { tmps := #[e0, .pointer (some ⟨B1, 0, none⟩), .pointer (some ⟨X, 0, none⟩), .pointer (some ⟨E, 0, none⟩), e4, e5, e6, e7, e8, e9, ea, eb, ec, ed, ee, ef, eg, eh, ei, ej, ek, el, em, en, eo, ep, eq, er, es, et, eu, ev, ew, ex, ey, ez, eA, eB, eC, eD, eE, eF, eG, eH, eI, eJ, eK, eL, eM, eN, eO, eP, eQ, eR, eS, eT, eU, eV, eW, eX, eY, eZ, aa, ab, ac, ad, ae, af, ag, ah, ai, aj, ak, al, am, an, ao, ap, aq, ar, au, av, aw, ax, ay, az, aA, aB, aC, aD, aE, aF, aG, aH, aI, aJ, aK, aL, aM], defers := ds } W := by
 have C := Mz s ks W hA hN; unfold Ls.val at C; unfold Ls.cells at hB C; have y0 := Aa hB 0 rfl; have y1 := Aa hB 1 rfl; have y2 := Aa hB 2 rfl; have y3 := Aa hB 3 rfl; have y4 := Aa hB 4 rfl; have y5 := Aa hB 5 rfl; have y6 := Aa hB 6 rfl; have y7 := Aa hB 7 rfl; have y8 := Aa hB 8 rfl; have y9 := Aa hB 9 rfl; have y10 := Aa hB 10 rfl; have y11 := Aa hB 11 rfl; have HK := qh hK; have HBAD := qh hbad; have HC := qh C; clear hK hbad C hB hA hN; dsimp only; unfold elem15n2 Ao
 conv => arg 2; whnf
 go_wp2_with (go_at_call 38; refine HC.out.mono ?_; unfold Nx Af; rintro e w' ⟨(⟨hl, rfl⟩ | ⟨hl, rfl⟩), hb⟩)
 ·exact HK.out hl _ hb _ _ _ _ _ _ _ _ _ _ _ _ _ _ _ _ _ _ _ _ _ _ _ _ _ _ _ _ _ _ _ _ _ _ _ _ _ _ _ _ _ _ _ _ _ _ _ _ _ _ _ _ _ _ _ _ _ _ _ _ _ _ _ _ _ _ _ _ _ _ _ _ _ _ _ _ _ _ _ _ _ _ _ _ _ _ _ _ _ _ _ _ _ _ _ _
 ·exact HBAD.out hl _ hb _ _ _ _ _ _ _ _ _ _ _ _ _ _ _ _ _ _ _ _ _ _ _ _ _ _ _ _ _ _ _ _ _ _ _ _ _ _ _ _ _ _ _ _ _ _ _ _ _ _ _ _ _ _ _ _ _ _ _ _ _ _ _ _ _ _ _ _ _ _ _ _ _ _ _ _ _ _ _ _ _ _ _ _ _ _ _ _ _ _ _ _ _ _ _ _
theorem OA (s : Ls) (B1 X E : Nat) (ds : List Deferred) (W : World) (hB : W.heap[B1]? = some (.cells s.cells 30 (0, 0))) (he : Env W) (K : Act → World → Prop) (Q : Exit → Act → World → Prop)
  (hK : Au s.name = true → ∀ W', Below W.heap.size W W' → ∀ (e0 e4 e5 e6 e7 e8 e9 ea eb ec ed ee ef eg eh ei ej ek el em en eo ep eq er es et eu ev ew ex ey ez eA eB eC eD eE eF eG eH eI eJ eK eL eM eN eO eP eQ eR eS eT eU eV eW eX eY eZ aa ab ac ad ae af ag ah ai aj ak al am an ao ap aq ar au av aw ax ay az aA aB aC aD aE aF aG aH aI aJ aK aL aM : Value), K { tmps := #[e0, .pointer (some ⟨B1, 0, none⟩), .pointer (some ⟨X, 0, none⟩), .pointer (some ⟨E, 0, none⟩), e4, e5, e6, e7, e8, e9, ea, eb, ec, ed, ee, ef, eg, eh, ei, ej, ek, el, em, en, eo, ep, eq, er, es, et, eu, ev, ew, ex, ey, ez, eA, eB, eC, eD, eE, eF, eG, eH, eI, eJ, eK, eL, eM, eN, eO, eP, eQ, eR, eS, eT, eU, eV, eW, eX, eY, eZ, aa, ab, ac, ad, ae, af, ag, ah, ai, aj, ak, al, am, an, ao, ap, aq, ar, au, av, aw, ax, ay, az, aA, aB, aC, aD, aE, aF, aG, aH, aI, aJ, aK, aL, aM], defers := ds } W')
  (hbad : Au s.name = false → ∀ W', Below W.heap.size W W' → ∀ (e0 e4 e5 e6 e7 e8 e9 ea eb ec ed ee ef eg eh ei ej ek el em en eo ep eq er es et eu ev ew ex ey ez eA eB eC eD eE eF eG eH eI eJ eK eL eM eN eO eP eQ eR eS eT eU eV eW eX eY eZ aa ab ac ad ae af ag ah ai aj ak al am an ao ap aq ar au av aw ax ay az aA aB aC aD aE aF aG aH aI aJ aK aL aM : Value), Q (.panic (AC 170)) { tmps := #[e0, .pointer (some ⟨B1, 0, none⟩), .pointer (some ⟨X, 0, none⟩), .pointer (some ⟨E, 0, none⟩), e4, e5, e6, e7, e8, e9, ea, eb, ec, ed, ee, ef, eg, eh, ei, ej, ek, el, em, en, eo, ep, eq, er, es, et, eu, ev, ew, ex, ey, ez, eA, eB, eC, eD, eE, eF, eG, eH, eI, eJ, eK, eL, eM, eN, eO, eP, eQ, eR, eS, eT, eU, eV, eW, eX, eY, eZ, aa, ab, ac, ad, ae, af, ag, ah, ai, aj, ak, al, am, an, ao, ap, aq, ar, au, av, aw, ax, ay, az, aA, aB, aC, aD, aE, aF, aG, aH, aI, aJ, aK, aL, aM], defers := ds } W')
  (e0 e4 e5 e6 e7 e8 e9 ea eb ec ed ee ef eg eh ei ej ek el em en eo ep eq er es et eu ev ew ex ey ez eA eB eC eD eE eF eG eH eI eJ eK eL eM eN eO eP eQ eR eS eT eU eV eW eX eY eZ aa ab ac ad ae af ag ah ai aj ak al am an ao ap aq ar au av aw ax ay az aA aB aC aD aE aF aG aH aI aJ aK aL aM : Value) :
  elem15n3.wp Try.prog (Exit.then K Q) { tmps := #[e0, .pointer (some ⟨B1, 0, none⟩), .pointer (some ⟨X, 0, none⟩), .pointer (some ⟨E, 0, none⟩), e4, e5, e6, e7, e8, e9, ea, eb, ec, ed, ee, ef, eg, eh, ei, ej, ek, el, em, en, eo, ep, eq, er, es, et, eu, ev, ew, ex, ey, ez, eA, eB, eC, eD, eE, eF, eG, eH, eI, eJ, eK, eL, eM, eN, eO, eP, eQ, eR, eS, eT, eU, eV, eW, eX, eY, eZ, aa, ab, ac, ad, ae, af, ag, ah, ai, aj, ak, al, am, an, ao, ap, aq, ar, au, av, aw, ax, ay, az, aA, aB, aC, aD, aE, aF, aG, aH, aI, aJ, aK, aL, aM], defers := ds } W := by
 unfold Ls.cells at hB; have y0 := Aa hB 0 rfl; obtain ⟨W1, x1, g1, b1, s1⟩ := Ai W #[sv s.name] 9
 have C := Nq [s.name] (some ⟨W.heap.size, 0, none⟩) 1 W1 (he.below b1) ⟨W.heap.size, 0, rfl, by simp [maxLen], fun i x hi => by
  match i, hi with
  | 0, hi => simp at hi; subst hi; exact Aa g1 0 rfl⟩
 have C2 : Calls Try.prog 39 #[.slice (some ⟨W.heap.size, 0, none⟩) 1 1, .func (.func 40) #[] #[]] W1 fun e w' => ((Au s.name = true ∧ ∃ b, e = .returned (.map (some b))) ∨ (Au s.name = false ∧ e = Af 170)) ∧ Below W.heap.size W w' := by
  refine C.mono ?_; rintro e w' ⟨h, hb⟩; refine ⟨?_, b1.trans (hb.mono b1.size)⟩; rcases h with ⟨h1, b, _, h2, _⟩ | ⟨h1, h2⟩
  ·exact Or.inl ⟨by simpa using h1, b, h2⟩
  ·exact Or.inr ⟨by simpa using h1, h2⟩
 have HK := qh hK; have HBAD := qh hbad; have HC := qh C2; clear hK hbad C C2 hB he g1 b1 s1; dsimp only; unfold elem15n3 Ao
 conv => arg 2; whnf
 go_wp2_with (go_at_call 39; refine HC.out.mono ?_; unfold Af; rintro e w' ⟨(⟨hl, b, rfl⟩ | ⟨hl, rfl⟩), hb⟩)
 ·exact HK.out hl _ hb _ _ _ _ _ _ _ _ _ _ _ _ _ _ _ _ _ _ _ _ _ _ _ _ _ _ _ _ _ _ _ _ _ _ _ _ _ _ _ _ _ _ _ _ _ _ _ _ _ _ _ _ _ _ _ _ _ _ _ _ _ _ _ _ _ _ _ _ _ _ _ _ _ _ _ _ _ _ _ _ _ _ _ _ _ _ _ _ _ _ _ _ _ _ _ _
 ·exact HBAD.out hl _ hb _ _ _ _ _ _ _ _ _ _ _ _ _ _ _ _ _ _ _ _ _ _ _ _ _ _ _ _ _ _ _ _ _ _ _ _ _ _ _ _ _ _ _ _ _ _ _ _ _ _ _ _ _ _ _ _ _ _ _ _ _ _ _ _ _ _ _ _ _ _ _ _ _ _ _ _ _ _ _ _ _ _ _ _ _ _ _ _ _ _ _ _ _ _ _ _
theorem MV (s : Ls) (ns : List Int) (w : World) (hA : s.At w) (hN : NsAt w s.refs ns) (he : Env w) : Calls Try.prog 15 #[s.val] w (Ih s ns w) := by
 refine DI Try.func15 (c := Ao) rfl ?_; have fit1 : ∀ c : Int, Cd s.strip ns = c → c ≠ 0 → ∀ (B1 X E : Nat) (W : World) (v : Value) (t : Array Value) (xs : Array Value), t.getD 2 undef = .pointer (some ⟨X, 0, none⟩) → t.getD 3 undef = .pointer (some ⟨E, 0, none⟩) → W.heap[X]? = some (.cells xs 30 (0, 0)) → xs.size = 12 → W.heap[E]? = some (.cells #[v] 35 (0, 0)) → w.heap.size ≤ X → w.heap.size ≤ E → Below w.heap.size w W →
   bodyPostM Fence.wide 0 Try.prog Try.f15 (Ih s ns w) (.panic (AC c)) { tmps := t, defers := [dfr X E] } W := by
  intro c hc h0 B1 X E W v t xs h2 h3 hX hs hE gX gE hb
  refine Es t X E c v xs _ W h2 h3 hX hs hE (fun e => by rw [e, hE] at hX; simp at hX) fun W' hB => ⟨Or.inr ?_, hb.trans (hB _ gX gE)⟩
  rw [hc]; exact ⟨h0, rfl⟩
 rw [PK]; refine AN (fun K hK => ?_); refine wp_mono (Ox s w K ?_) By; intro W0 B1 X E hb0 gX gE hne hB hX hE
 intros
 refine hK _ _ ?_; rw [PL]; refine AN (fun K hK => ?_); refine wp_mono (Oy B1 X E W0 K ?_ _ _ _ _ _ _ _ _ _ _ _ _ _ _ _ _ _ _ _ _ _ _ _ _ _ _ _ _ _ _ _ _ _ _ _ _ _ _ _ _ _ _ _ _ _ _ _ _ _ _ _ _ _ _ _ _ _ _ _ _ _ _ _ _ _ _ _ _ _ _ _ _ _ _ _ _ _ _ _ _ _ _ _ _ _ _ _ _ _ _ _ _ _ _ _ _) By
 intros
 refine hK _ _ ?_; rw [PN]; refine AN (fun K hK => ?_); refine Oz s ns B1 X E _ W0 hB (hA.below hb0) (hN.below hb0) K _ ?_ ?_ _ _ _ _ _ _ _ _ _ _ _ _ _ _ _ _ _ _ _ _ _ _ _ _ _ _ _ _ _ _ _ _ _ _ _ _ _ _ _ _ _ _ _ _ _ _ _ _ _ _ _ _ _ _ _ _ _ _ _ _ _ _ _ _ _ _ _ _ _ _ _ _ _ _ _ _ _ _ _ _ _ _ _ _ _ _ _ _ _ _ _ _ _ _ _ _
 ·intro hlims W2 hb2
  intros
  refine hK _ _ ?_; have o2 : ∀ {b : Nat} {o : Obj}, W0.heap[b]? = some o → W2.heap[b]? = some o := fun h => (hb2.block _ (qs.1 h).1).trans h
  have hb02 := hb0.trans (hb2.mono hb0.size); rw [PO]; refine AN (fun K hK => ?_); refine OA s B1 X E _ W2 (o2 hB) (he.below hb02) K _ ?_ ?_ _ _ _ _ _ _ _ _ _ _ _ _ _ _ _ _ _ _ _ _ _ _ _ _ _ _ _ _ _ _ _ _ _ _ _ _ _ _ _ _ _ _ _ _ _ _ _ _ _ _ _ _ _ _ _ _ _ _ _ _ _ _ _ _ _ _ _ _ _ _ _ _ _ _ _ _ _ _ _ _ _ _ _ _ _ _ _ _ _ _ _ _ _ _ _ _
  ·intro hnm W3 hb3
   intros
   refine hK _ _ ?_; have o3 : ∀ {b : Nat} {o : Obj}, W2.heap[b]? = some o → W3.heap[b]? = some o := fun h => (hb3.block _ (qs.1 h).1).trans h
   have hb03 := hb02.trans (hb3.mono hb02.size); rw [PP]; refine AN (fun K hK => ?_); refine wp_mono (OB s B1 X E _ W3 (o3 (o2 hB)) (hA.below hb03) (he.below hb03) K ?_ _ _ _ _ _ _ _ _ _ _ _ _ _ _ _ _ _ _ _ _ _ _ _ _ _ _ _ _ _ _ _ _ _ _ _ _ _ _ _ _ _ _ _ _ _ _ _ _ _ _ _ _ _ _ _ _ _ _ _ _ _ _ _ _ _ _ _ _ _ _ _ _ _ _ _ _ _ _ _ _ _ _ _ _ _ _ _ _ _ _ _ _ _ _ _ _) ?_
   ·intro MT mR mP TB W4 hb4 gT okR okP hT hmt hmr hmp
    intros
    refine hK _ _ ?_; have o4 : ∀ {b : Nat} {o : Obj}, W3.heap[b]? = some o → W4.heap[b]? = some o := fun h => (hb4.block _ (qs.1 h).1).trans h
    have hnamed : s.strip.named = true := by
     unfold Sc.named; rw [BI, BG, okR, okP]
     show (Au s.name && (true && true)) = true
     rw [hnm]; rfl
    exact Kc s ns w hA hN hlims hnamed B1 X E TB MT mR mP W4 ⟨o4 (o3 (o2 hB)), o4 (o3 (o2 hX)), o4 (o3 (o2 hE)), hT, hmt, hmr, hmp, hb03.trans (hb4.mono hb03.size), ⟨gX, gE, Nat.le_trans hb03.size gT⟩, hne⟩ _ _ _ _ _ _ _ _ _ _ _ _ _ _ _ _ _ _ _ _ _ _ _ _ _ _ _ _ _ _ _ _ _ _ _ _ _ _ _ _ _ _ _ _ _ _ _ _ _ _ _ _ _ _ _ _ _ _ _ _ _ _ _ _ _ _ _ _ _ _ _ _ _ _ _ _ _ _ _ _ _ _ _ _ _ _ _ _ _ _ _ _ _ _ _
   ·intro e a W h
    cases e with
    | normal => exact h
    | panic c =>
     obtain ⟨h1, h2, h3, h4, h5, h6⟩ := h; cases h1; obtain ⟨t, d⟩ := a; dsimp only at h4 h2 h3; subst h4; have o5 : ∀ {b : Nat} {o : Obj}, W3.heap[b]? = some o → W.heap[b]? = some o := fun h => (h5.block _ (qs.1 h).1).trans h
     refine fit1 170 ?_ (by decide) B1 X E W _ t _ h2 h3 (o5 (o3 (o2 hX))) rfl (o5 (o3 (o2 hE))) gX gE (hb03.trans (h5.mono hb03.size))
     have hnamed : s.strip.named = false := by
      unfold Sc.named; rw [BI, BG]; rcases h6 with h | h <;> rw [h] <;> simp
     unfold Cd; rw [hlims, hnamed]; rfl
    | ret => exact absurd h.1 (by simp)
    | outgrown => exact absurd h.1 (by simp)
    | exit _ => exact absurd h.1 (by simp)
    | goto _ => exact absurd h.1 (by simp)
  ·intro hnm W3 hb3
   intros
   have o3 : ∀ {b : Nat} {o : Obj}, W2.heap[b]? = some o → W3.heap[b]? = some o := fun h => (hb3.block _ (qs.1 h).1).trans h
   refine fit1 170 ?_ (by decide) B1 X E W3 _ _ _ rfl rfl (o3 (o2 hX)) rfl (o3 (o2 hE)) gX gE (hb02.trans (hb3.mono hb02.size))
   have hnamed : s.strip.named = false := by
    unfold Sc.named
    show (Au s.name && _) = false
    rw [hnm]; rfl
   unfold Cd; rw [hlims, hnamed]; rfl
 ·intro hlims W2 hb2
  intros
  have o2 : ∀ {b : Nat} {o : Obj}, W0.heap[b]? = some o → W2.heap[b]? = some o := fun h => (hb2.block _ (qs.1 h).1).trans h
  refine fit1 2 ?_ (by decide) B1 X E W2 _ _ _ rfl rfl (o2 hX) rfl (o2 hE) gX gE (hb0.trans (hb2.mono hb0.size)); unfold Cd; rw [hlims]; rfl
end
section
open Go Go.RowKit Go.Shelf Go.Deep
theorem NA : ∃ i, Try.prog.info? 3 = some i ∧ i.zero = some (int i64 0) ∧ i.size = 1 ∧ i.bytes = 8 := by
 have h1 : (Try.prog.info? 3).map (·.zero) = some (some (int i64 0)) := by kernel_rfl
 have h2 : (Try.prog.info? 3).map (·.size) = some 1 := by kernel_rfl
 have h3 : (Try.prog.info? 3).map (·.bytes) = some 8 := by kernel_rfl
 obtain ⟨i, hi⟩ : ∃ i, Try.prog.info? 3 = some i := by
  cases h : Try.prog.info? 3 with
  | none => rw [h] at h1; cases h1
  | some i => exact ⟨i, rfl⟩
 rw [hi] at h1 h2 h3; simp only [Option.map_some, Option.some.injEq] at h1 h2 h3; exact ⟨i, hi, h1, h2, h3⟩
noncomputable def AO : Code := (Try.f16.body).getD .skip
noncomputable def body16a : Code := match Ab 4 AO with
 | .seq (.seq _ (.block _ (.rangeFunc _ _ _ b))) _ => b
 | _ => .skip
def Fi (ns : List Int) : List Value := ns.map fun n => int i64 n
structure Chk1 (TB : Nat) (W1 : World) (ns : List Int) (pre : List RefL) (W : World) : Prop where
 but : ButOne TB W1 W
 row : ∃ ao c, W.heap[TB]? = some (.cells #[.slice ao pre.length c] 63 (0, 0)) ∧ W.ownsRow W1.heap.size 3 1 (.slice ao pre.length c) pre.length (Fi (ns.take pre.length))
theorem ButOne.grown {R : Nat} {A B C : World} {row : Option Nat} (h : ButOne R A B) (hg : B.grownBy C row) (hr : ∀ k, row = some k → A.heap.size ≤ k) : ButOne R A C :=
 ⟨hg.os.trans h.os, hg.tape.trans h.tape, hg.output.trans h.output, Nat.le_trans h.size hg.size, fun b hb hR => (hg.block b (Nat.lt_of_lt_of_le hb h.size) (fun e => by have := hr b e.symm; omega)).trans (h.block b hb hR)⟩
theorem CE {W : World} {B e k n : Nat} {v : Value} {xs : List Value} (h : W.ownsRow B e k v n xs) : ∃ ao c, v = .slice ao n c := by
 rcases h.2 with ⟨rfl, rfl⟩ | ⟨g, c, _, rfl, _⟩
 ·exact ⟨_, _, rfl⟩
 ·exact ⟨_, _, rfl⟩
theorem Bq {W : World} {B k n : Nat} {v : Value} {xs : List Value} (h : W.ownsRow B 3 k v n xs) {b : Nat} (hb : v.ownBlock = some b) : RowInt W b ∧ B ≤ b := by
 rcases h.2 with ⟨rfl, _⟩ | ⟨g, c, cur, rfl, h1, h2, _⟩
 ·cases hb
 ·cases hb; exact ⟨⟨cur, _, h2⟩, h1⟩
theorem EV (W : World) (p : Addr) (v : Value) : W.grownBy (W.setCell p v) (some p.block) :=
 ⟨rfl, rfl, rfl, by simp [World.setCell], fun k _ hr => Below.heap_setCell _ _ _ _ (fun e => hr (by rw [e]))⟩
theorem Chk1.step {TB : Nat} {W1 : World} {ns n1 js : List Int} {n : Int} {pre : List RefL} {r : RefL} {W W2 : World} {v' : Value} {ao : Option Addr} {c : Nat} (h : Chk1 TB W1 ns pre W) (hTl : TB < W1.heap.size)
  (ht : W.heap[TB]? = some (.cells #[.slice ao pre.length c] 63 (0, 0))) (hown : W.ownsRow W1.heap.size 3 1 (.slice ao pre.length c) pre.length (Fi (ns.take pre.length))) (hns : ns = n1 ++ n :: js) (hl : n1.length = pre.length)
  (ho : W2.ownsRow W1.heap.size 3 1 v' (pre.length + 1) (Fi (ns.take pre.length) ++ [int i64 n])) (hg : (W.drew.alloc (.cells #[int i64 n] 3)).grownBy W2 (Value.slice ao pre.length c).ownBlock) :
  Beyond W1.heap.size W (W2.setCell ⟨TB, 0, none⟩ v') ∧ Chk1 TB W1 ns (pre ++ [r]) (W2.setCell ⟨TB, 0, none⟩ v') := by
 have hsz : (W.drew.alloc (.cells #[int i64 n] 3)).heap.size = W.heap.size + 1 := by simp
 have hs2 := hg.size; have hTW := (qs.1 ht).1; have hTn : some TB ≠ (Value.slice ao pre.length c).ownBlock := fun e => by have := (Bq hown e.symm).2; omega
 have ht2 : W2.heap[TB]? = some (.cells #[.slice ao pre.length c] 63 (0, 0)) := (hg.block TB (by omega) hTn).trans ((Below.heap_alloc _ _ _ (by show TB < W.drew.heap.size; exact hTW)).trans ht); obtain ⟨W3, x3, g3, o3, b3, s3⟩ := C1 ht2 v'; rw [x3]; have hb1 : ButOne TB W1 (W.drew.alloc (.cells #[int i64 n] 3)) := h.but.trans (ButOne.of_below ((Below.refl W.heap.size W).drew.alloc (qn _) _)); have hb2 : ButOne TB W1 W2 := hb1.grown hg (fun k e => (Bq hown e).2); obtain ⟨ao', c', rfl⟩ := CE ho
 have ho3 : W3.ownsRow W1.heap.size 3 1 (.slice ao' (pre.length + 1) c') (pre.length + 1) (Fi (ns.take pre.length) ++ [int i64 n]) := by
  rw [← x3]; exact ho.kept (EV W2 ⟨TB, 0, none⟩ _) (Or.inr fun e => by have := (Bq ho e).2; simp only at this; omega)
 refine ⟨⟨by omega, fun b h1 h2 h3 => ?_⟩, by rw [← x3]; exact hb2.trans (ButOne.setCell (p := ⟨TB, 0, none⟩) _), ao', c', by simpa using g3, ?_⟩
 ·rw [o3 b (by omega), hg.block b (by omega) (fun e => h3 (Bq hown e.symm).1)]
  exact Below.heap_alloc _ _ _ h2
 ·have e : ns.take (pre ++ [r]).length = ns.take pre.length ++ [n] := by
   rw [hns, List.length_append, ← hl]; simp [List.take_append, List.take_succ_cons, List.take_of_length_le (show n1.length ≤ n1.length + 1 by omega)]
  rw [e]; unfold Fi at ho3 ⊢; rw [List.map_append]; simpa using ho3
theorem Js (l : Nat) (B1 E X TB : Nat) (W1 : World) (ns : List Int) (rs : List RefL) (hN : NsAt W1 rs ns) (hrT : ∀ r ∈ rs, r.b ≠ TB) (hTl : TB < W1.heap.size) (hlen : rs.length ≤ 1000000)
  (pre rest : List RefL) (r : RefL) (W : World) (hs : rs = pre ++ r :: rest) (hI : Chk1 TB W1 ns pre W) (e0 e6 e7 e8 e9 ea eb ec ed ee ef eg eh ei ej ek el em en eo ep eq er es et eu ev ew ex ey ez eA eB : Value) :
  body16a.wpIn (Fence.wide.inRound l) 10 Try.prog (BE W1.heap.size (Chk1 TB W1 ns) (fun _ => False) (fun _ => False) (AC 170) (pre ++ [r]) W) { tmps := #[e0, .pointer (some ⟨B1, 0, none⟩), .pointer (some ⟨E, 0, none⟩), .pointer (some ⟨X, 0, none⟩), .pointer (some ⟨TB, 0, none⟩), .pointer (some ⟨r.b, r.o, none⟩), e6, e7, e8, e9, ea, eb, ec, ed, ee, ef, eg, eh, ei, ej, ek, el, em, en, eo, ep, eq, er, es, et, eu, ev, ew, ex, ey, ez, eA, eB], defers := [] } W := by
 obtain ⟨ao, c, ht, hown⟩ := hI.row; subst hs; obtain ⟨n1, n2, rfl, k1, k2⟩ := NsAt.split (xs := pre) hN
 obtain ⟨n, js, rfl⟩ : ∃ n js, n2 = n :: js := by
  cases n2 with
  | nil => exact k2.elim
  | cons n js => exact ⟨n, js, rfl⟩
 have hl := k1.len; have hrb : r.b ≠ TB := hrT r (by simp); have hcn : W.cell? ⟨r.b, r.o + 1, none⟩ = some (int i64 n) := hI.but.cell k2.1 hrb; have hcT : W.cell? ⟨TB, 0, none⟩ = some (.slice ao pre.length c) := Aa ht 0 rfl; have hpl : pre.length ≤ 1000000 := by simp at hlen; omega
 have hstep := fun v' W2 ho hg => Chk1.step (r := r) (v' := v') (W2 := W2) hI hTl ht hown rfl hl ho hg
 have hTn : some TB ≠ (Value.slice ao pre.length c).ownBlock := fun e => by have := (Bq hown e.symm).2; omega
 have hTW := (qs.1 ht).1; have hsz := hI.but.size; have mixed : Try.prog.follows .mixedOrders = true := by kernel_rfl
 obtain ⟨i3, hi3, hz3, hs3, hb3⟩ := NA; have HST := qh hstep; have HT := qh ht; have hSk : ∀ V, ButOne TB W1 V → V.cell? ⟨r.b, r.o + 1, none⟩ = some (int i64 n) := fun V hb => hb.cell k2.1 hrb
 have HSK := qh hSk; have HBS := qh hI.but; generalize hxs : Fi ((n1 ++ n :: js).take pre.length) = xs at *; generalize hP : Exit.inBlock 1 (BE W1.heap.size (Chk1 TB W1 (n1 ++ n :: js)) (fun _ => False) (fun _ => False) (AC 170) (pre ++ [r]) W) = PQ; have hQn : ∀ (a : Act) (W' : World), (Beyond W1.heap.size W W' ∧ Chk1 TB W1 (n1 ++ n :: js) (pre ++ [r]) W') → PQ .normal a W' := fun a W' h => by rw [← hP]; exact h
 have hQl : ¬ LetsOut PQ := by rw [← hP]; exact fun ⟨_, _, h⟩ => h
 have hQp : ∀ (ch : List PanicEntry) (a : Act) (d : Option Go.Tmp) (v : Value) (W' : World), PQ (.panic ch) (a.put d v) W' → PQ (.panic ch) a W' := fun ch a d v W' h => by rw [← hP] at h ⊢; cases d <;> exact h
 generalize pre.length = m at *; have HQN := qh hQn; clear hQn hN hI k1 k2 hstep ht hxs hSk; dsimp only; unfold body16a AO
 conv => arg 4; whnf
 refine wpIn_block ?_; rw [hP]; clear hP; refine Eg (S := fun V => V.cell? ⟨r.b, r.o + 1, none⟩ = some (int i64 n)) mixed (by kernel_rfl) hQl ?_; change wpAnyH _ _ _ _ _ _ _ _ W.drew; have hS : W.drew.cell? ⟨r.b, r.o + 1, none⟩ = some (int i64 n) := hcn; refine tq 1 _ (.pointer (some ⟨r.b, r.o, none⟩)) rfl (by kernel_rfl) (fun _ _ _ h => hQp _ _ _ _ _ h) (Or.inl ⟨by kernel_rfl, fun w hw => by go_simp⟩) hS ?_
 try simp only [Act.put, qA, qB, qC, qD, qE, qF]
 refine tq 2 _ (.pointer (some ⟨r.b, r.o, none⟩)) rfl (by kernel_rfl) (fun _ _ _ h => hQp _ _ _ _ _ h) (Or.inl ⟨by kernel_rfl, fun w hw => by go_simp⟩) hS ?_
 try simp only [Act.put, qA, qB, qC, qD, qE, qF]
 refine tq 3 _ (.pointer (some ⟨r.b, r.o + 1, none⟩)) rfl (by kernel_rfl) (fun _ _ _ h => hQp _ _ _ _ _ h) (Or.inl ⟨by kernel_rfl, fun w hw => by go_simp⟩) hS ?_
 try simp only [Act.put, qA, qB, qC, qD, qE, qF]
 refine tq 4 _ (int i64 n) rfl (by kernel_rfl) (fun _ _ _ h => hQp _ _ _ _ _ h) (Or.inl ⟨by kernel_rfl, fun w hw => by go_simp⟩) hS ?_
 try simp only [Act.put, qA, qB, qC, qD, qE, qF]
 have bA : ButOne TB W1 (W.drew.alloc (.cells #[int i64 n] 3)) := HBS.out.trans (ButOne.of_below ((Below.refl W.heap.size W).drew.alloc (qn _) _)); have cTA : (W.drew.alloc (.cells #[int i64 n] 3)).cell? ⟨TB, 0, none⟩ = some (.slice ao m c) := Ae ((Below.refl W.drew.heap.size W.drew).alloc (qn _) _) hcT; have hSA := HSK.out _ bA; refine wpAnyH_ready (rs := [0, 5]) (by kernel_rfl) (by simp) ?_; refine AllReadyH.cons (o := _) rfl (fun K1 hK => ?_) (AllReadyH.cons (o := _) rfl (fun K1 hK => ?_) AllReadyH.nil)
 ·have HK := qh hK
  clear hK; go_simp; refine HK.out _ _ hS (fun _ => ?_)
  try simp only [Act.put, qA, qB, qC, qD, qE, qF]
  clear HK K1; refine tr 5 _ (by kernel_rfl) rfl fun K1 hK => ?_
  have HK := qh hK; clear hK; go_simp; refine HK.out _ _ hSA (fun _ => ?_)
  try simp only [Act.put, qA, qB, qC, qD, qE, qF]
  clear HK K1; refine tr 6 _ (by kernel_rfl) rfl fun K1 hK => ?_
  rw [if_pos (by kernel_rfl)]; have hownA : (W.drew.alloc (.cells #[int i64 n] 3)).ownsRow W1.heap.size 3 1 (.slice ao m c) m xs := World.ownsRow.alloc (w := W.drew) hown _; refine wp_append_own _ _ _ 63 rfl W1.heap.size 3 i3 (int i64 0) 1 8 Try.underlying63 hi3 hz3 hs3 hb3 rfl (by decide) (.slice ao m c) m xs rfl hownA ⟨W.drew.heap.size, 0, none⟩ 1 1 [int i64 n] rfl rfl (cell_one_new _ _ _) (by intro u hu; simp at hu; subst hu; rfl) (by simp only [maxLen]; omega) (by omega) (by simp; omega) ?_; intro v' W2 ho hg _; have hT2 : W2.heap[TB]? = some (.cells #[.slice ao m c] 63 (0, 0)) := (hg.block TB (by simp; omega) hTn).trans ((Below.heap_alloc _ _ _ (by show TB < W.drew.heap.size; exact hTW)).trans HT.out); have hb2 : ButOne TB W1 W2 := bA.grown hg (fun k e => (Bq hownA e).2); have hfin := HST.out v' W2 ho hg; have hf2 : W2.frozen? ⟨TB, 0, none⟩ = false := (show FreeB W2 TB from ⟨_, _, hT2⟩).free 0; have hc2 : W2.cell? ⟨TB, 0, none⟩ = some (.slice ao m c) := Aa hT2 0 rfl; obtain ⟨ao', c', rfl⟩ := CE ho; refine hK _ _ (HSK.out _ hb2) (fun _ => ?_); clear hK K1
  try simp only [Act.put, qA, qB, qC, qD, qE, qF]
  refine tr 7 _ (by kernel_rfl) rfl fun K1 hK => ?_
  have HK := qh hK; clear hK; go_simp; refine HK.out _ _ (HSK.out _ hfin.2.but) (fun _ => ?_); refine wpAnyH_done (by kernel_rfl) ?_ _; exact HQN.out _ _ hfin
 ·have HK := qh hK
  clear hK; go_simp; refine HK.out _ _ hSA (fun _ => ?_)
  try simp only [Act.put, qA, qB, qC, qD, qE, qF]
  clear HK K1; refine tr 0 _ (by kernel_rfl) rfl fun K1 hK => ?_
  have HK := qh hK; clear hK; go_simp; refine HK.out _ _ hSA (fun _ => ?_)
  try simp only [Act.put, qA, qB, qC, qD, qE, qF]
  clear HK K1; refine tr 6 _ (by kernel_rfl) rfl fun K1 hK => ?_
  rw [if_pos (by kernel_rfl)]; have hownA : (W.drew.alloc (.cells #[int i64 n] 3)).ownsRow W1.heap.size 3 1 (.slice ao m c) m xs := World.ownsRow.alloc (w := W.drew) hown _; refine wp_append_own _ _ _ 63 rfl W1.heap.size 3 i3 (int i64 0) 1 8 Try.underlying63 hi3 hz3 hs3 hb3 rfl (by decide) (.slice ao m c) m xs rfl hownA ⟨W.drew.heap.size, 0, none⟩ 1 1 [int i64 n] rfl rfl (cell_one_new _ _ _) (by intro u hu; simp at hu; subst hu; rfl) (by simp only [maxLen]; omega) (by omega) (by simp; omega) ?_; intro v' W2 ho hg _; have hT2 : W2.heap[TB]? = some (.cells #[.slice ao m c] 63 (0, 0)) := (hg.block TB (by simp; omega) hTn).trans ((Below.heap_alloc _ _ _ (by show TB < W.drew.heap.size; exact hTW)).trans HT.out); have hb2 : ButOne TB W1 W2 := bA.grown hg (fun k e => (Bq hownA e).2); have hfin := HST.out v' W2 ho hg; have hf2 : W2.frozen? ⟨TB, 0, none⟩ = false := (show FreeB W2 TB from ⟨_, _, hT2⟩).free 0; have hc2 : W2.cell? ⟨TB, 0, none⟩ = some (.slice ao m c) := Aa hT2 0 rfl; obtain ⟨ao', c', rfl⟩ := CE ho; refine hK _ _ (HSK.out _ hb2) (fun _ => ?_); clear hK K1
  try simp only [Act.put, qA, qB, qC, qD, qE, qF]
  refine tr 7 _ (by kernel_rfl) rfl fun K1 hK => ?_
  have HK := qh hK; clear hK; go_simp; refine HK.out _ _ (HSK.out _ hfin.2.but) (fun _ => ?_); refine wpAnyH_done (by kernel_rfl) ?_ _; exact HQN.out _ _ hfin
end
section
open Go Go.RowKit Go.Shelf
noncomputable def body16b : Code := match Ab 5 AO with
 | .seq (.seq _ (.block _ (.rangeFunc _ _ _ b))) _ => b
 | _ => .skip
theorem O4 : Try.prog.underlying 63 = some (.slice (Try.prog.elem 63)) := by kernel_rfl
theorem Kn (aC : Option Addr) (n cC : Nat) (hn : 1 ≤ n) (hc : n ≤ cC) : ∃ ao' : Option Addr, (0 < n - 1 → ∀ b o, aC = some ⟨b, o, none⟩ → ao' = some ⟨b, o + 1, none⟩) ∧ ∀ W, (Instr.slice 63 (.slice aC n cC) (some (int i64 1)) none none).run Try.prog W = .ok (.slice ao' (n - 1) (cC - 1)) W := by
 have hsz : ∀ W, (sizeOf (Try.prog.elem 63)).run Try.prog W = .ok 1 W := by
  intro W; have h1 : Try.prog.elem 63 = 3 := by kernel_rfl
  obtain ⟨i3, hi3, hz3, hs3, hb3⟩ := NA; rw [h1]; simp [sizeOf, typeInfo, hi3, hs3]
 refine ⟨if cC = 1 then aC else aC.map (·.add (1 * 1)), fun h1 b o h3 => ?_, fun W => ?_⟩
 ·rw [if_neg (by omega), h3]
  simp [AX]
 ·rw [run_slice_l W 63 aC n cC O4 .i64 1 (by omega) (by omega), hsz]
  simp only [Result.andThen, sliced]
  rfl
structure Chk2 (TB : Nat) (W1 : World) (g m : Nat) (ks ns : List Int) (pre : List RefL) (W : World) : Prop where
 but : ButOne TB W1 W
 row : ∃ ao c, W.heap[TB]? = some (.cells #[.slice ao (m - pre.length) c] 63 (0, 0)) ∧ (0 < m - pre.length → ao = some ⟨g, pre.length, none⟩) ∧ m - pre.length ≤ c
 same : ks.take pre.length = ns.take pre.length
structure Chk2X (TB E : Nat) (w0 W1 : World) (ks ns : List Int) (W : World) : Prop where
 size : W1.heap.size ≤ W.heap.size
 rest : ∀ b, b < W1.heap.size → b ≠ TB → b ≠ E → W.heap[b]? = W1.heap[b]?
 err : W.heap[E]? = some (.cells #[int i64 170] 35 (0, 0))
 base : Below w0.heap.size w0 W
 ne : ks ≠ ns
theorem Gi {l : List Int} {i : Nat} {x : Int} (h : l[i]? = some x) : l.take (i + 1) = l.take i ++ [x] := by
 rw [List.take_add_one, h]; rfl
section
attribute [local go_sem] Oper.semAt_some
theorem Jt (l : Nat) (B1 E X TB g : Nat) (w0 W1 : World) (ks ns : List Int) (rs : List RefL) (hN : NsAt W1 rs ks) (hrT : ∀ r ∈ rs, r.b ≠ TB) (hge : w0.heap.size ≤ TB ∧ w0.heap.size ≤ E) (hl1 : TB < W1.heap.size ∧ E < W1.heap.size) (hET : E ≠ TB) (hgT : g ≠ TB)
  (hE : W1.heap[E]? = some (.cells #[int i64 0] 35 (0, 0))) (hns : ns.length = rs.length) (hG : ∀ (i : Nat) (n : Int), ns[i]? = some n → W1.cell? ⟨g, i, none⟩ = some (int i64 n)) (hw0 : Below w0.heap.size w0 W1)
  (pre rest : List RefL) (r : RefL) (W : World) (hs : rs = pre ++ r :: rest) (hI : Chk2 TB W1 g rs.length ks ns pre W) (e0 e5 e7 e8 e9 ea eb ec ed ee ef eg eh ei ej ek el em en eo ep eq er es et eu ev ew ex ey ez eA eB : Value) :
  body16b.wpIn (Fence.wide.inRound l) 10 Try.prog (BE W1.heap.size (Chk2 TB W1 g rs.length ks ns) (Chk2X TB E w0 W1 ks ns) (fun _ => False) (AC 170) (pre ++ [r]) W) { tmps := #[e0, .pointer (some ⟨B1, 0, none⟩), .pointer (some ⟨E, 0, none⟩), .pointer (some ⟨X, 0, none⟩), .pointer (some ⟨TB, 0, none⟩), e5, .pointer (some ⟨r.b, r.o, none⟩), e7, e8, e9, ea, eb, ec, ed, ee, ef, eg, eh, ei, ej, ek, el, em, en, eo, ep, eq, er, es, et, eu, ev, ew, ex, ey, ez, eA, eB], defers := [] } W := by
 obtain ⟨ao, c, ht, hao, hc⟩ := hI.row; have hml : rs.length = pre.length + (rest.length + 1) := by rw [hs]; simp
 obtain ⟨k1, k2, hks, q1, q2⟩ := NsAt.split (xs := pre) (hs ▸ hN)
 obtain ⟨k, js, rfl⟩ : ∃ k js, k2 = k :: js := by
  cases k2 with
  | nil => exact q2.elim
  | cons k js => exact ⟨k, js, rfl⟩
 have hkl := q1.len; have hki : ks[pre.length]? = some k := by rw [hks, ← hkl]; simp
 obtain ⟨n, hni⟩ : ∃ n, ns[pre.length]? = some n := ⟨_, qg (by omega)⟩; have hao' := hao (by omega); subst hao'; have hr : r ∈ rs := by rw [hs]; simp
 have d1 : W.cell? ⟨r.b, r.o + 1, none⟩ = some (int i64 k) := hI.but.cell q2.1 (hrT r hr); have d2 : W.cell? ⟨g, pre.length, none⟩ = some (int i64 n) := hI.but.cell (hG _ _ hni) hgT; have d3 : W.cell? ⟨TB, 0, none⟩ = some (.slice (some ⟨g, pre.length, none⟩) (rs.length - pre.length) c) := Aa ht 0 rfl; have fT : W.frozen? ⟨TB, 0, none⟩ = false := (show FreeB W TB from ⟨_, _, ht⟩).free 0; have hEW : W.heap[E]? = some (.cells #[int i64 0] 35 (0, 0)) := hI.but.blocks hE hET; have fE : W.frozen? ⟨E, 0, none⟩ = false := (show FreeB W E from ⟨_, _, hEW⟩).free 0; have dE : W.cell? ⟨E, 0, none⟩ = some (int i64 0) := Aa hEW 0 rfl; have mixed : Try.prog.follows .mixedOrders = true := by kernel_rfl
 have hmp : 1 ≤ rs.length - pre.length := by omega
 obtain ⟨ao2, ha2, hsl⟩ := Kn (some ⟨g, pre.length, none⟩) (rs.length - pre.length) c hmp hc; have hA2 := fun h => ha2 h _ _ rfl
 have hidn : 0 < rs.length - pre.length := by omega
 have hidx : (0 : Int) < ((rs.length - pre.length : Nat) : Int) := by omega
 by_cases hkn : k = n
 ·subst hkn
  have hp : ∀ q, BE W1.heap.size (Chk2 TB W1 g rs.length ks ns) (Chk2X TB E w0 W1 ks ns) (fun _ => False) (AC 170) (pre ++ [r]) W .normal { tmps := #[], defers := [] } ((W.drewN q).setCell ⟨TB, 0, none⟩ (.slice ao2 (rs.length - pre.length - 1) (c - 1))) := fun q => by
   obtain ⟨W3, x3, g3, o3, b3, s3⟩ := C1 (w := W.drewN q) ht (.slice ao2 (rs.length - pre.length - 1) (c - 1)); rw [x3]; have hpl : (pre ++ [r]).length = pre.length + 1 := by simp
   refine ⟨⟨by rw [s3]; exact qn _, fun b h1 h2 _ => o3 b (by omega)⟩, ⟨?_, ⟨ao2, c - 1, ?_, ?_, ?_⟩, ?_⟩⟩
   ·rw [← x3]
    exact (hI.but.trans (ButOne.of_below (Ar (Below.refl _ _) _))).trans (ButOne.setCell (W := W.drewN q) (p := ⟨TB, 0, none⟩) _)
   ·rw [hpl, ← Nat.sub_sub]; exact g3
   ·rw [hpl, ← Nat.sub_sub]; exact hA2
   ·rw [hpl]; omega
   ·rw [hpl, Gi hki, Gi hni, hI.same]
  have hP2 : ∀ (a : Act) q, BE W1.heap.size (Chk2 TB W1 g rs.length ks ns) (Chk2X TB E w0 W1 ks ns) (fun _ => False) (AC 170) (pre ++ [r]) W .normal a ((W.drewN q).setCell ⟨TB, 0, none⟩ (.slice ao2 (rs.length - pre.length - 1) (c - 1))) := fun a q => hp q
  have HP := qh hP2; generalize hPQ : BE W1.heap.size (Chk2 TB W1 g rs.length ks ns) (Chk2X TB E w0 W1 ks ns) (fun _ => False) (AC 170) (pre ++ [r]) W = PQ at *; generalize rs.length - pre.length = mm at *; generalize pre.length = pl at *; clear hp hP2 ht hao hml hks q1 q2 hkl hki hni hI hE hEW hG hN hrT ha2 hA2 hs hge hl1 hns hw0 fE dE hr hPQ; dsimp only; unfold body16b AO
  conv => arg 4; whnf
  gi_wp2_with fail; refine Cj mixed (by kernel_rfl) (by kernel_rfl) ?_
  repeat (quiet_step_in (fail))
  refine wpQuietIn_nil ?_; rintro W2 ⟨nq, rfl⟩; gi_wp2_with fail; exact HP.out _ _
 ·have hp : ∀ q, BE W1.heap.size (Chk2 TB W1 g rs.length ks ns) (Chk2X TB E w0 W1 ks ns) (fun _ => False) (AC 170) (pre ++ [r]) W .ret { tmps := #[], defers := [] } ((W.drewN q).setCell ⟨E, 0, none⟩ (int i64 170)) := fun q => by
   obtain ⟨W3, x3, g3, o3, b3, s3⟩ := C1 (w := W.drewN q) hEW (int i64 170); rw [x3]; refine ⟨⟨by rw [s3]; exact qn _, fun b h1 h2 _ => o3 b (by omega)⟩, by rw [s3]; exact hI.but.size, fun b h1 h2 h3 => (o3 b h3).trans (hI.but.block b h1 h2), g3, b3 _ _ (hw0.trans ((hI.but.below (B := w0.heap.size) hge.1 hw0.size).trans (Ar (Below.refl _ _) _))) hge.2, fun e => hkn ?_⟩; rw [e, hni] at hki; injection hki with h; exact h.symm
  have hP2 : ∀ (a : Act) q, BE W1.heap.size (Chk2 TB W1 g rs.length ks ns) (Chk2X TB E w0 W1 ks ns) (fun _ => False) (AC 170) (pre ++ [r]) W .ret a ((W.drewN q).setCell ⟨E, 0, none⟩ (int i64 170)) := fun a q => hp q
  have HP := qh hP2; have hkb : (k == n) = false := by simpa using hkn
  have hkb2 : (k != n) = true := by simpa using hkn
  generalize hPQ : BE W1.heap.size (Chk2 TB W1 g rs.length ks ns) (Chk2X TB E w0 W1 ks ns) (fun _ => False) (AC 170) (pre ++ [r]) W = PQ at *; generalize rs.length - pre.length = mm at *; generalize pre.length = pl at *; clear hp hP2 ht hao hml hks q1 q2 hkl hki hni hI hE hEW hG hN hrT ha2 hA2 hs hge hl1 hns hw0 hr hPQ fT hsl; dsimp only; unfold body16b AO
  conv => arg 4; whnf
  gi_wp2_with fail; refine Cj mixed (by kernel_rfl) (by kernel_rfl) ?_
  repeat (quiet_step_in (fail))
  refine wpQuietIn_nil ?_; rintro W2 ⟨nq, rfl⟩; gi_wp2_with fail; exact HP.out _ _
end
end
section
open Go Go.RowKit Go.Shelf
theorem DO : ∀ (T : Lt) (d : Nat) (left l : Int) (b o : Nat), 0 ≤ left → T.strip.count d left = some l → 0 ≤ l ∧ ((T.refsL b o).length : Int) ≤ 65 * (T.len + (left - l))
 | .nil, d, left, l, b, o, h0, e => by
  simp only [Lt.strip, Its.count, Option.some.injEq] at e; subst e; simp [Lt.refsL, Lt.len]; exact h0
 | .cons k n un ia ic its ma mc ms r, d, left, l, b, o, h0, e => by
  simp only [Lt.strip, Its.count] at e
  split at e
  ·rename_i hc
   obtain ⟨c0, c1, _⟩ := hc; rw [Lt.strip_len] at c1
   split at e
   ·cases e
   ·rename_i l1 e1
    rw [Lt.strip_len] at e1; obtain ⟨z1, a1⟩ := DO its _ _ _ (blk ia) (off ia) (by omega) e1; obtain ⟨z2, b1⟩ := DO r _ _ _ b (o + 6) z1 e
    have hm : ∀ (o : Nat) (ms : List Mov), (Aw (blk ma) o ms).length = ms.length := by
     intro o ms
     induction ms generalizing o with
     | nil => rfl
     | cons m ms ih => simp [Aw, ih]
    refine ⟨z2, ?_⟩; simp only [Lt.refsL, List.length_cons, List.length_append, hm, Lt.len]
    push_cast
    omega
  ·cases e
theorem ED : ∀ (ps : List Ph) (left l : Int), 0 ≤ left → countP (ps.map Ph.strip) left = some l → 0 ≤ l ∧ ((Ay ps).length : Int) ≤ 65 * (left - l)
 | [], left, l, h, e => by simp only [List.map_nil, countP, Option.some.injEq] at e; subst e; simp [Ay]; exact h
 | q :: r, left, l, h, e => by
  simp only [List.map_cons, countP] at e
  split at e
  ·cases e
  ·rename_i l1 e1
   unfold Its.countL at e1
   split at e1
   ·rename_i hc
    obtain ⟨c1, _⟩ := hc; simp only [Ph.strip, Lt.strip_len] at c1 e1; obtain ⟨z1, a1⟩ := DO q.its _ _ _ (blk q.ia) (off q.ia) (by omega) e1; obtain ⟨z2, b1⟩ := ED r _ _ z1 e; refine ⟨z2, ?_⟩; simp only [Ay, Ph.refsL, List.length_append]
    push_cast
    omega
   ·cases e1
theorem LT {s : Ls} (h : s.strip.lims = true) : s.refs.length ≤ 1000000 := by
 have hd := (DU h).2.1; unfold Sc.lims at h; simp only [Bool.and_eq_true] at h; obtain ⟨l, hl⟩ := Option.isSome_iff_exists.1 h.2; obtain ⟨z, a⟩ := ED s.phrases 4096 l (by omega) hl
 have hdl : ∀ (b o : Nat) (ds : List Dan), (Ak b o ds).length = 2 * ds.length := by
  intro b o ds
  induction ds generalizing o with
  | nil => rfl
  | cons d ds ih => simp only [Ak, List.length_cons, ih]; omega
 unfold Ls.refs; rw [List.length_append, hdl]; omega
noncomputable def elem16n0 : Code := match Ab 0 AO with
 | .seq a _ => a
 | c => c
noncomputable def elem16n1 : Code := match Ab 1 AO with
 | .seq a _ => a
 | c => c
noncomputable def elem16n2 : Code := match Ab 2 AO with
 | .seq a _ => a
 | c => c
noncomputable def elem16n3 : Code := match Ab 3 AO with
 | .seq a _ => a
 | c => c
theorem NY : AO = .seq elem16n0 (Ab 1 AO) := rfl
theorem NZ : Ab 1 AO = .seq elem16n1 (Ab 2 AO) := rfl
theorem O0 : Ab 2 AO = .seq elem16n2 (Ab 3 AO) := rfl
theorem O1 : Ab 3 AO = .seq elem16n3 (Ab 4 AO) := rfl
theorem NM (s : Ls) (W : World) (K : Act → World → Prop)
  (hK : ∀ (W' : World) (B1 E : Nat), Below W.heap.size W W' → W.heap.size ≤ B1 → W.heap.size ≤ E → B1 ≠ E → W'.heap[B1]? = some (.cells s.cells 30 (0, 0)) → W'.heap[E]? = some (.cells #[int i64 0] 35 (0, 0)) →
   ∀ (e0 e3 e4 e5 e6 e7 e8 e9 ea eb ec ed ee ef eg eh ei ej ek el em en eo ep eq er es et eu ev ew ex ey ez eA eB : Value), K { tmps := #[e0, .pointer (some ⟨B1, 0, none⟩), .pointer (some ⟨E, 0, none⟩), e3, e4, e5, e6, e7, e8, e9, ea, eb, ec, ed, ee, ef, eg, eh, ei, ej, ek, el, em, en, eo, ep, eq, er, es, et, eu, ev, ew, ex, ey, ez, eA, eB], defers := [] } W') :
  elem16n0.wp Try.prog (Exit.then K (fun _ _ _ => False)) { tmps := #[s.val] ++ Array.replicate 37 undef, defers := [] } W := by
 unfold Ls.val; unfold Ls.cells at hK ⊢; obtain ⟨W1, x1, g1, b1, s1⟩ := Ai W #[sv s.name, int i64 s.wd, int i64 s.dp, int i64 s.bars, int i64 s.t0, int i64 s.t1, .slice s.ra s.roles.length s.rc, .slice s.ta s.tempos.length s.tc, .slice s.ua s.pauses.length s.uc, .slice s.sa s.spans.length s.sc, .slice s.fa s.phrases.length s.fc, .slice s.da s.dances.length s.dc] 30; obtain ⟨W3, x3, g3, b3, s3⟩ := Ai W1 #[int i64 0] 35; have HF := qh (hK W3 W.heap.size W1.heap.size (b1.trans (b3.mono (by omega))) (qn _) (by omega) (by omega) ((b3.block _ (by omega)).trans g1) g3); clear hK g1 g3 b1 b3 s1 s3; simp only [Array.replicate]; unfold elem16n0 AO
 conv => arg 2; whnf
 go_wp2_with fail; exact HF.out _ _ _ _ _ _ _ _ _ _ _ _ _ _ _ _ _ _ _ _ _ _ _ _ _ _ _ _ _ _ _ _ _ _ _ _
theorem LL {V : World} {E : Nat} {x : Value} (hE : V.heap[E]? = some (.cells #[x] 35 (0, 0))) (xs : Array Value) (v : Value) : ∃ W', (V.alloc (.cells xs 30)).setCell ⟨E, 0, none⟩ v = W' ∧
   W'.heap[V.heap.size]? = some (.cells xs 30 (0, 0)) ∧ W'.heap[E]? = some (.cells #[v] 35 (0, 0)) ∧ ButOne E V W' := by
 have hEl := (qs.1 hE).1; obtain ⟨W1, x1, g1, b1, s1⟩ := Ai V xs 30; have hE2 : W1.heap[E]? = some (.cells #[x] 35 (0, 0)) := (b1.block _ hEl).trans hE; obtain ⟨W3, x3, g3, o3, b3, s3⟩ := C1 hE2 v; refine ⟨W3, by rw [x1, x3], (o3 _ (by omega)).trans g1, g3, ?_⟩; rw [← x3]; exact (ButOne.of_below b1).trans (ButOne.setCell (p := ⟨E, 0, none⟩) _)
theorem NN (s : Ls) (ns : List Int) (B1 E : Nat) (W : World) (hB : W.heap[B1]? = some (.cells s.cells 30 (0, 0))) (hE : W.heap[E]? = some (.cells #[int i64 0] 35 (0, 0))) (hA : s.At W) (hN : NsAt W s.refs ns) (he : Env W) (K : Act → World → Prop)
  (hK : ∀ (V W' : World) (xv : Array Value) (X : Nat), Ih s ns W (.returned (.tuple #[.agg xv, int i64 (Cd s.strip ns)])) V → V.heap.size ≤ X → X < W'.heap.size → W'.heap[X]? = some (.cells xv 30 (0, 0)) → W'.heap[E]? = some (.cells #[int i64 (Cd s.strip ns)] 35 (0, 0)) → ButOne E V W' →
   ∀ (e0 e4 e5 e6 e7 e8 e9 ea eb ec ed ee ef eg eh ei ej ek el em en eo ep eq er es et eu ev ew ex ey ez eA eB : Value), K { tmps := #[e0, .pointer (some ⟨B1, 0, none⟩), .pointer (some ⟨E, 0, none⟩), .pointer (some ⟨X, 0, none⟩), e4, e5, e6, e7, e8, e9, ea, eb, ec, ed, ee, ef, eg, eh, ei, ej, ek, el, em, en, eo, ep, eq, er, es, et, eu, ev, ew, ex, ey, ez, eA, eB], defers := [] } W')
  (e0 e3 e4 e5 e6 e7 e8 e9 ea eb ec ed ee ef eg eh ei ej ek el em en eo ep eq er es et eu ev ew ex ey ez eA eB : Value) :
  elem16n1.wp Try.prog (Exit.then K (fun _ _ _ => False)) { tmps := #[e0, .pointer (some ⟨B1, 0, none⟩), .pointer (some ⟨E, 0, none⟩), e3, e4, e5, e6, e7, e8, e9, ea, eb, ec, ed, ee, ef, eg, eh, ei, ej, ek, el, em, en, eo, ep, eq, er, es, et, eu, ev, ew, ex, ey, ez, eA, eB], defers := [] } W := by
 have hEl := (qs.1 hE).1
 have C : Calls Try.prog 15 #[.agg s.cells] W fun e V => ∃ (nm : Nm) (i1 i2 i3 i4 i5 : Int) (a6 a7 a8 a9 a10 a11 : Option Addr) (n6 n7 n8 n9 n10 n11 k6 k7 k8 k9 k10 k11 : Nat), e = .returned (.tuple #[.agg #[sv nm, int i64 i1, int i64 i2, int i64 i3, int i64 i4, int i64 i5, .slice a6 n6 k6, .slice a7 n7 k7, .slice a8 n8 k8, .slice a9 n9 k9, .slice a10 n10 k10, .slice a11 n11 k11], int i64 (Cd s.strip ns)]) ∧ V.heap[E]? = some (.cells #[int i64 0] 35 (0, 0)) ∧ Hid (Ih s ns W (.returned (.tuple #[.agg #[sv nm, int i64 i1, int i64 i2, int i64 i3, int i64 i4, int i64 i5, .slice a6 n6 k6, .slice a7 n7 k7, .slice a8 n8 k8, .slice a9 n9 k9, .slice a10 n10 k10, .slice a11 n11 k11], int i64 (Cd s.strip ns)])) V) := by
  refine (MV s ns W hA hN he).mono ?_; intro e V h; have hEV := (h.2.block E hEl).trans hE
  rcases id h with ⟨⟨h0, x, ks, rfl, _⟩ | ⟨h0, rfl⟩, _⟩
  ·rw [h0]
   refine ⟨_, _, _, _, _, _, _, _, _, _, _, _, _, _, _, _, _, _, _, _, _, _, _, _, rfl, hEV, qh ?_⟩; rw [h0] at *; exact h
  ·exact ⟨[], 0, 0, 0, 0, 0, none, none, none, none, none, none, 0, 0, 0, 0, 0, 0, 0, 0, 0, 0, 0, 0, rfl, hEV, qh h⟩
 unfold Ls.cells at hB C; have y0 := Aa hB 0 rfl; have y1 := Aa hB 1 rfl; have y2 := Aa hB 2 rfl; have y3 := Aa hB 3 rfl; have y4 := Aa hB 4 rfl; have y5 := Aa hB 5 rfl; have y6 := Aa hB 6 rfl; have y7 := Aa hB 7 rfl; have y8 := Aa hB 8 rfl; have y9 := Aa hB 9 rfl; have y10 := Aa hB 10 rfl; have y11 := Aa hB 11 rfl; have HC := qh C; have HK := qh hK; clear C hK hB hE hA hN he hEl; dsimp only; unfold elem16n1 AO
 conv => arg 2; whnf
 go_wp2_with (go_at_call 15; refine HC.out.mono ?_; rintro e V ⟨nm, i1, i2, i3, i4, i5, a6, a7, a8, a9, a10, a11, n6, n7, n8, n9, n10, n11, k6, k7, k8, k9, k10, k11, rfl, hEV, hR⟩; obtain ⟨W', xW, gX, gE, hbut⟩ := LL hEV #[sv nm, int i64 i1, int i64 i2, int i64 i3, int i64 i4, int i64 i5, .slice a6 n6 k6, .slice a7 n7 k7, .slice a8 n8 k8, .slice a9 n9 k9, .slice a10 n10 k10, .slice a11 n11 k11] (int i64 (Cd s.strip ns)); have HF := qh (HK.out V W' _ _ hR.out (qn _) (qs.1 gX).1 gX gE hbut); have hEl2 := (qs.1 hEV).1; have eV : V.cell? ⟨E, 0, none⟩ = some (int i64 0) := Aa hEV 0 rfl; have fV := (show FreeB V E from ⟨_, _, hEV⟩).free 0; clear gX gE hbut hEV); exact HF.out _ _ _ _ _ _ _ _ _ _ _ _ _ _ _ _ _ _ _ _ _ _ _ _ _ _ _ _ _ _ _ _ _ _ _
end
end Go.Proofs.Ytpnbpepkoekkoaa
