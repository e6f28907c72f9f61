/- The walk of the statement: part 1. -/
import Derived.Test.YtpnbpepkoekkoaaZ37
import Derived.Test.YtpnbpepkoekkoaaZ28
import Derived.Test.YtpnbpepkoekkoaaZ31
import Derived.Test.YtpnbpepkoekkoaaZ3
set_option linter.unusedVariables false
set_option linter.unusedSimpArgs false
set_option maxRecDepth 100000
set_option maxHeartbeats 16000000
namespace Go.Proofs.Ytpnbpepkoekkoaa
open Go.Value (int)
open Go.IntKind (i64)
section
open Go Go.RowKit Go.Deep
noncomputable def Qq : Code := (Try.f10.body).getD .skip
noncomputable def Re : Code := match Ab 0 Qq with
 | .seq a _ => a
 | c => c
noncomputable def Rf : Code := match Ab 1 Qq with
 | .seq a _ => a
 | c => c
noncomputable def Rg : Code := match Ab 2 Qq with
 | .seq a _ => a
 | c => c
noncomputable def elem10n3 : Code := match Ab 3 Qq with
 | .seq a _ => a
 | c => c
noncomputable def elem10n4 : Code := match Ab 4 Qq with
 | .seq a _ => a
 | c => c
noncomputable def elem10n5 : Code := match Ab 5 Qq with
 | .seq a _ => a
 | c => c
theorem Rk : Ab 1 Qq = .seq Rf (Ab 2 Qq) := rfl
theorem Rl : Ab 2 Qq = .seq Rg (Ab 3 Qq) := rfl
theorem Rm : Ab 3 Qq = .seq elem10n3 (Ab 4 Qq) := rfl
theorem Rn : Ab 4 Qq = .seq elem10n4 (Ab 5 Qq) := rfl
theorem Ro : Ab 5 Qq = .seq elem10n5 (Ab 6 Qq) := rfl
theorem RC (s : Ls) (ns : List Int) (w W : World) (n1 : Nat) (n2 : Nat) (h : LawIn s ns w) (hW : LawW s w W) (hrest : ∀ (V : World) (e0 e4 e5 e6 e7 e8 e9 ea eb ec ed ee ef eg eh ei ej ek el em en eo ep eq er es et eu ev ew ex ey ez eA eB eC eD eE eF eG eH eI eJ eK eL eM eN eO eP eQ eR eS eT eU eV eW eX eY eZ aa ab ac ad ae af ag ah ai aj ak al am an ao ap aq ar au av aw ax ay az aA aB aC aD aE aF aG aH aI aJ aK aL aM aN aO aP aQ aR aS aT aU aV aW aX aY aZ ba bb bc bd be bf bg bh bi bj bk bl bm bn bo bp bq br : Value), LawW s w V → AE s ns = 0 → s.phrases.length ≤ 12 ∧ s.roles.length ≤ 70 ∧ s.dances.length ≤ 300 → (Ab 3 Qq).wp Try.prog (bodyPost Try.prog Try.f10 (fun e w' => e = .returned (.bool true) ∧ Below w.heap.size w w')) { tmps := #[e0, .int .u8 (n1 : Nat), .int .u8 (n2 : Nat), .pointer (some ⟨w.heap.size, 0, none⟩), e4, e5, e6, e7, e8, e9, ea, eb, ec, ed, ee, ef, eg, eh, ei, ej, ek, el, em, en, eo, ep, eq, er, es, et, eu, ev, ew, ex, ey, ez, eA, eB, eC, eD, eE, eF, eG, eH, eI, eJ, eK, eL, eM, eN, eO, eP, eQ, eR, eS, eT, eU, eV, eW, eX, eY, eZ, aa, ab, ac, ad, ae, af, ag, ah, ai, aj, ak, al, am, an, ao, ap, aq, ar, au, av, aw, ax, ay, az, aA, aB, aC, aD, aE, aF, aG, aH, aI, aJ, aK, aL, aM, aN, aO, aP, aQ, aR, aS, aT, aU, aV, aW, aX, aY, aZ, ba, bb, bc, bd, be, bf, bg, bh, bi, bj, bk, bl, bm, bn, bo, bp, bq, br], defers := [] } V) (e0 e4 e5 e6 e7 e8 e9 ea eb ec ed ee ef eg eh ei ej ek el em en eo ep eq er es et eu ev ew ex ey ez eA eB eC eD eE eF eG eH eI eJ eK eL eM eN eO eP eQ eR eS eT eU eV eW eX eY eZ aa ab ac ad ae af ag ah ai aj ak al am an ao ap aq ar au av aw ax ay az aA aB aC aD aE aF aG aH aI aJ aK aL aM aN aO aP aQ aR aS aT aU aV aW aX aY aZ ba bb bc bd be bf bg bh bi bj bk bl bm bn bo bp bq br : Value) :
  (Ab 2 Qq).wp Try.prog (bodyPost Try.prog Try.f10 (fun e w' => e = .returned (.bool true) ∧ Below w.heap.size w w')) { tmps := #[e0, .int .u8 (n1 : Nat), .int .u8 (n2 : Nat), .pointer (some ⟨w.heap.size, 0, none⟩), e4, e5, e6, e7, e8, e9, ea, eb, ec, ed, ee, ef, eg, eh, ei, ej, ek, el, em, en, eo, ep, eq, er, es, et, eu, ev, ew, ex, ey, ez, eA, eB, eC, eD, eE, eF, eG, eH, eI, eJ, eK, eL, eM, eN, eO, eP, eQ, eR, eS, eT, eU, eV, eW, eX, eY, eZ, aa, ab, ac, ad, ae, af, ag, ah, ai, aj, ak, al, am, an, ao, ap, aq, ar, au, av, aw, ax, ay, az, aA, aB, aC, aD, aE, aF, aG, aH, aI, aJ, aK, aL, aM, aN, aO, aP, aQ, aR, aS, aT, aU, aV, aW, aX, aY, aZ, ba, bb, bc, bd, be, bf, bg, bh, bi, bj, bk, bl, bm, bn, bo, bp, bq, br], defers := [] } W := by
 have C := OU s W (h.at_.below hW.below) h.fit; unfold Ls.val at C; have HC := qh C; have HL := qh hW.box; have HW := qh hW; have HH := qh h; have HR := qh hrest; clear C h hW hrest; rw [Rl]; refine Ac (fun K hK => ?_); have HK := qh hK; clear hK
 conv => arg 2; whnf
 go_wp2_with (refine wpList_load_row rfl 30 _ rfl w.heap.size rfl 30 s.cells (0, 0) _ HL.out Try.underlying30 rfl (by kernel_rfl) ?_; simp only [Act.put, qD, qE, qF]); refine HC.out.mono ?_; rintro e V ⟨b, rfl, hf, hv⟩; have H3 := qh (HW.out.next hv); have HF := qh hf; clear HC HL hv hf HW
 cases b with
 | false =>
  go_wp2_with fail
  try simp only [Exit.then]
  go_ret; exact ⟨rfl, H3.out.below⟩
 | true =>
 have C := Ck s ns V (HH.out.at_.below H3.out.below) (HH.out.ns.below H3.out.below) (HH.out.env _ H3.out.below); obtain ⟨c, hc⟩ : ∃ c, AE s ns = c := ⟨_, rfl⟩; unfold DD at C; rw [hc] at C; unfold Ls.val at C; have HC := qh C; have HL := qh H3.out.box; have HCE := qh hc; clear C hc
 go_wp2_with (refine BP (by kernel_rfl) 30 _ rfl w.heap.size rfl 30 s.cells (0, 0) _ HL.out Try.underlying30 rfl (by kernel_rfl) ?_; simp only [Act.put, qD, qE, qF]); refine HC.out.mono ?_; rintro e V2 ⟨rfl, hv⟩; have H4 := qh (H3.out.next hv); clear HC HL hv H3; by_cases hz : c = 0
 ·subst hz
  go_wp2_with fail; refine HK.out _ _ ?_; exact HR.out _ _ _ _ _ _ _ _ _ _ _ _ _ _ _ _ _ _ _ _ _ _ _ _ _ _ _ _ _ _ _ _ _ _ _ _ _ _ _ _ _ _ _ _ _ _ _ _ _ _ _ _ _ _ _ _ _ _ _ _ _ _ _ _ _ _ _ _ _ _ _ _ _ _ _ _ _ _ _ _ _ _ _ _ _ _ _ _ _ _ _ _ _ _ _ _ _ _ _ _ _ _ _ _ _ _ _ _ _ _ _ _ _ _ _ _ _ _ _ _ _ _ _ _ _ _ _ _ H4.out HCE.out (HF.out trivial)
 ·have hne : (c != 0) = true := by simpa using hz
  have hne2 : (c == 0) = false := by simpa using hz
  go_wp2_with fail
  try simp only [Exit.then]
  go_ret; exact ⟨rfl, H4.out.below⟩
theorem Rj (s : Ls) (ns : List Int) (w : World) (n1 : Nat) (n2 : Nat) (h : LawIn s ns w) (hrest : ∀ (V : World) (e0 e4 e5 e6 e7 e8 e9 ea eb ec ed ee ef eg eh ei ej ek el em en eo ep eq er es et eu ev ew ex ey ez eA eB eC eD eE eF eG eH eI eJ eK eL eM eN eO eP eQ eR eS eT eU eV eW eX eY eZ aa ab ac ad ae af ag ah ai aj ak al am an ao ap aq ar au av aw ax ay az aA aB aC aD aE aF aG aH aI aJ aK aL aM aN aO aP aQ aR aS aT aU aV aW aX aY aZ ba bb bc bd be bf bg bh bi bj bk bl bm bn bo bp bq br : Value), LawW s w V → AE s ns = 0 → s.phrases.length ≤ 12 ∧ s.roles.length ≤ 70 ∧ s.dances.length ≤ 300 → (Ab 3 Qq).wp Try.prog (bodyPost Try.prog Try.f10 (fun e w' => e = .returned (.bool true) ∧ Below w.heap.size w w')) { tmps := #[e0, .int .u8 (n1 : Nat), .int .u8 (n2 : Nat), .pointer (some ⟨w.heap.size, 0, none⟩), e4, e5, e6, e7, e8, e9, ea, eb, ec, ed, ee, ef, eg, eh, ei, ej, ek, el, em, en, eo, ep, eq, er, es, et, eu, ev, ew, ex, ey, ez, eA, eB, eC, eD, eE, eF, eG, eH, eI, eJ, eK, eL, eM, eN, eO, eP, eQ, eR, eS, eT, eU, eV, eW, eX, eY, eZ, aa, ab, ac, ad, ae, af, ag, ah, ai, aj, ak, al, am, an, ao, ap, aq, ar, au, av, aw, ax, ay, az, aA, aB, aC, aD, aE, aF, aG, aH, aI, aJ, aK, aL, aM, aN, aO, aP, aQ, aR, aS, aT, aU, aV, aW, aX, aY, aZ, ba, bb, bc, bd, be, bf, bg, bh, bi, bj, bk, bl, bm, bn, bo, bp, bq, br], defers := [] } V) : Calls Try.prog 10 #[s.val, .int .u8 (n1 : Nat), .int .u8 (n2 : Nat)] w (fun e w' => e = .returned (.bool true) ∧ Below w.heap.size w w') := by
 obtain ⟨W1, hW1, h1⟩ : ∃ W1, w.alloc (.cells s.cells 30) = W1 ∧ LawW s w W1 := ⟨_, rfl, (Below.refl _ w).alloc (qn _) _, heap_alloc_new w _⟩; obtain ⟨cs, hcs⟩ : ∃ cs, s.cells = cs := ⟨_, rfl⟩; have hsv : s.val = .agg cs := by rw [← hcs]; rfl
 have hW1' : w.alloc (.cells cs 30) = W1 := by rw [← hcs]; exact hW1
 rw [hsv]; have HW1 := qh hW1'; have HCS := qh hcs; have HH := qh h; have HR := qh hrest; have H1 := qh h1; clear hcs hW1 hW1' hsv h1 h hrest; go_enter Try.func10, Try.ntmps10; change Code.wp Try.prog (.seq Re (Ab 1 Qq)) _ _ _; refine Ac (fun K hK => ?_); have HK := qh hK; clear hK
 conv => arg 2; whnf
 go_wp2_with fail; refine HK.out _ _ ?_; clear HK K; rw [HW1.out]; rw [Rk]; refine Ac (fun K hK => ?_); have HK := qh hK; clear hK
 conv => arg 2; whnf
 have C := OK W1 (fun V hV => HH.out.env _ (Ag H1.out.below hV)); have HC := qh C; clear C
 go_wp2_with (go_at_call 25; refine HC.out.mono ?_; rintro e V ⟨rfl, hv⟩); refine HK.out _ _ ?_; have H2 := qh (H1.out.next hv); clear HK K HC H1 HW1 hv; exact RC s ns w V n1 n2 HH.out H2.out HR.out _ _ _ _ _ _ _ _ _ _ _ _ _ _ _ _ _ _ _ _ _ _ _ _ _ _ _ _ _ _ _ _ _ _ _ _ _ _ _ _ _ _ _ _ _ _ _ _ _ _ _ _ _ _ _ _ _ _ _ _ _ _ _ _ _ _ _ _ _ _ _ _ _ _ _ _ _ _ _ _ _ _ _ _ _ _ _ _ _ _ _ _ _ _ _ _ _ _ _ _ _ _ _ _ _ _ _ _ _ _ _ _ _ _ _ _ _ _ _ _ _ _ _ _ _ _ _
end
section
open Go Go.RowKit Go.Deep
noncomputable def Qr : Code := Qn (Qp (Qp elem10n3))
noncomputable def Qw : Code := Qn (Qp (Qp elem10n4))
noncomputable def Qx : Code := Qn (Qp (Qp elem10n5))
theorem Qz {T : TypeId} {k : Nat} (hT : Try.prog.underlying T = some (.slice (Try.prog.elem T))) (hz : ∀ W, (sizeOf (Try.prog.elem T)).run Try.prog W = .ok k W) (b o n c i : Nat) (hi : i + 1 ≤ n) : ∃ ad : Addr, (0 < n - (i + 1) → n ≤ c → ad = ⟨b, o + (i + 1) * k, none⟩) ∧ ∀ W, (Instr.slice T (.slice (some ⟨b, o, none⟩) n c) (some (int i64 ((i : Int) + 1))) none none).run Try.prog W = .ok (.slice (some ad) (n - (i + 1)) (c - (i + 1))) W := by
  have e : ((i : Int) + 1).toNat = i + 1 := by omega
  refine ⟨if c = i + 1 then ⟨b, o, none⟩ else (⟨b, o, none⟩ : Addr).add ((i + 1) * k), fun h1 h2 => ?_, fun W => ?_⟩
  · rw [if_neg (by omega), AX]
  · rw [run_slice_l W T (some ⟨b, o, none⟩) n c hT .i64 ((i : Int) + 1) (by omega) (by omega), hz]
    simp only [Result.andThen, sliced, e]; by_cases h : c = i + 1
    · rw [if_pos h, if_pos h]
    · rw [if_neg h, if_neg h]; rfl
theorem Qy {T : TypeId} {k : Nat} (hT : Try.prog.underlying T = some (.slice (Try.prog.elem T))) (hz : ∀ W, (sizeOf (Try.prog.elem T)).run Try.prog W = .ok k W) (b o n c i : Nat) (hi : i ≤ c) (h0 : 0 < c) (W : World) : (Instr.slice T (.slice (some ⟨b, o, none⟩) n c) none (some (int i64 (i : Int))) none).run Try.prog W = .ok (.slice (some ⟨b, o, none⟩) i c) W := by
  rw [run_slice_h W T (some ⟨b, o, none⟩) n c hT .i64 (i : Int) (by omega) (by omega), hz]; have e : ((i : Int)).toNat = i := by omega
  simp only [Result.andThen, sliced, e]; by_cases h : c = 0
  · omega
  · rw [if_neg (by omega), Nat.sub_zero, Nat.sub_zero]
    simp [Addr.add]
theorem Qt {w : World} {B e k n : Nat} {v : Value} {xs : List Value} (h : w.ownsRow B e k v n xs) (hv : ∃ g, v.ownBlock = some g) : ∃ g c, v = .slice (some ⟨g, 0, none⟩) n c ∧ B ≤ g ∧ FreeB w g ∧ ∀ j u, xs[j]? = some u → w.cell? ⟨g, j, none⟩ = some u := by
  rcases h.2 with ⟨rfl, rfl⟩ | ⟨g, cap, cur, rfl, hg, hh, _⟩
  · obtain ⟨g, hg⟩ := hv; cases hg
  · refine ⟨g, cap, rfl, hg, ⟨cur, _, hh⟩, fun j u hj => ?_⟩
    have := h.cells (g := g) rfl j u hj; rw [AX, Nat.zero_add] at this; exact this
theorem Qs {w w' : World} {a : Addr} {v : Value} {m : Nat} (h : w.cell? a = some v) (hg : w.grownBy w' (some m)) (hne : a.block ≠ m) : w'.cell? a = some v :=
  (World.cell?_of_block (hg.block a.block (BT h) (fun e => hne (by cases e; rfl)))).trans h
theorem QS : Try.prog.underlying 28 = some (.slice (Try.prog.elem 28)) := by kernel_rfl
theorem QX (W : World) : (sizeOf (Try.prog.elem 28)).run Try.prog W = .ok 6 W := by
  have h1 : Try.prog.elem 28 = 73 := by kernel_rfl
  obtain ⟨i0, hi, _, hz1, _⟩ := info_parts Od; rw [h1]; simp [sizeOf, typeInfo, hi, hz1]
theorem QQ : Try.prog.underlying 25 = some (.slice (Try.prog.elem 25)) := by kernel_rfl
theorem QT : (Try.prog.info? 147).map (fun i => (i.zero, i.size, i.bytes)) = some (some (.agg #[int i64 0, int i64 0, int i64 0, int i64 0]), 4, 32) := by kernel_rfl
theorem QV (W : World) : (sizeOf (Try.prog.elem 25)).run Try.prog W = .ok 4 W := by
  have h1 : Try.prog.elem 25 = 147 := by kernel_rfl
  obtain ⟨i0, hi, _, hz1, _⟩ := info_parts QT; rw [h1]; simp [sizeOf, typeInfo, hi, hz1]
theorem QR : Try.prog.underlying 26 = some (.slice (Try.prog.elem 26)) := by kernel_rfl
theorem QU : (Try.prog.info? 149).map (fun i => (i.zero, i.size, i.bytes)) = some (some (.agg #[int i64 0, int i64 0, int i64 0, int i64 0]), 4, 32) := by kernel_rfl
theorem QW (W : World) : (sizeOf (Try.prog.elem 26)).run Try.prog W = .ok 4 W := by
  have h1 : Try.prog.elem 26 = 149 := by kernel_rfl
  obtain ⟨i0, hi, _, hz1, _⟩ := info_parts QU; rw [h1]; simp [sizeOf, typeInfo, hi, hz1]
theorem RI {α : Type} (enc : α → List Value) (hek : ∀ x, (enc x).length = 6) (hone : ∀ (xs : List α), ∀ u ∈ xs.flatMap enc, u.oneCell' = true) (A X b o n c i : Nat) (ss cs : Array Value) (v0 : Value) (xs : List α) (W : World) (hA : W.heap[A]? = some (.cells ss 30 (0, 0))) (h11 : ss[11]? = some (.slice (some ⟨b, o, none⟩) n c)) (hX : W.heap[X]? = some (.cells cs 30 (0, 0))) (hc0 : cs[11]? = some v0) (hAX : A ≠ X) (hn : xs.length = n) (hn1 : n ≤ 100000) (hnc : n ≤ c) (hi : i < n) (hrow : ∀ j u, (xs.flatMap enc)[j]? = some u → W.cell? ⟨b, o + j, none⟩ = some u) (e0 e1 e2 e4 e5 e6 e7 ea eb ec ed ee ef eg eh ei ej ek el em en eo ep eq er es et eu ev ew ex ey ez eA eB eC eD eE eF eG eH eI eJ eK eL eM eN eO eP eQ eR eS eT eU eV eW eX eY eZ aa ab ac ae af ag ah ai aj ak al am an ao ap aq ar au av aw ax ay az aA aB aC aD aE aF aG aH aI aJ aK aL aM aN aO aP aQ aR aS aT aU aV aW aX aY aZ ba bb bc bd be bf bg bh bi bj bk bl bm bn bo bp bq br bs : Value) (K : Act → World → Prop)
    (hK : ∀ (g c1 : Nat) (W' : World), W.heap.size ≤ g → g < W'.heap.size → RowV enc W' g (xs.eraseIdx i) → W'.heap[X]? = some (.cells (cs.setIfInBounds 11 (.slice (some ⟨g, 0, none⟩) (n - 1) c1)) 30 (0, 0)) → ButOne X W W' → ∀ (bt bu bv bw bx bz bA bB bC bD bE bF bG : Value), K { tmps := #[e0, e1, e2, .pointer (some ⟨A, 0, none⟩), e4, e5, e6, e7, int i64 (i : Nat), .pointer (some ⟨X, 0, none⟩), ea, eb, ec, ed, ee, ef, eg, eh, ei, ej, ek, el, em, en, eo, ep, eq, er, es, et, eu, ev, ew, ex, ey, ez, eA, eB, bt, bu, bv, bw, bx, bz, bA, bB, bC, bD, bE, bF, bG, eP, eQ, eR, eS, eT, eU, eV, eW, eX, eY, eZ, aa, ab, ac, ae, af, ag, ah, ai, aj, ak, al, am, an, ao, ap, aq, ar, au, av, aw, ax, ay, az, aA, aB, aC, aD, aE, aF, aG, aH, aI, aJ, aK, aL, aM, aN, aO, aP, aQ, aR, aS, aT, aU, aV, aW, aX, aY, aZ, ba, bb, bc, bd, be, bf, bg, bh, bi, bj, bk, bl, bm, bn, bo, bp, bq, br, bs], defers := [] } W') :
    (Qo (Qp (Qp Qr))).wp Try.prog (Exit.then K (fun _ _ _ => False)) { tmps := #[e0, e1, e2, .pointer (some ⟨A, 0, none⟩), e4, e5, e6, e7, int i64 (i : Nat), .pointer (some ⟨X, 0, none⟩), ea, eb, ec, ed, ee, ef, eg, eh, ei, ej, ek, el, em, en, eo, ep, eq, er, es, et, eu, ev, ew, ex, ey, ez, eA, eB, eC, eD, eE, eF, eG, eH, eI, eJ, eK, eL, eM, eN, eO, eP, eQ, eR, eS, eT, eU, eV, eW, eX, eY, eZ, aa, ab, ac, ae, af, ag, ah, ai, aj, ak, al, am, an, ao, ap, aq, ar, au, av, aw, ax, ay, az, aA, aB, aC, aD, aE, aF, aG, aH, aI, aJ, aK, aL, aM, aN, aO, aP, aQ, aR, aS, aT, aU, aV, aW, aX, aY, aZ, ba, bb, bc, bd, be, bf, bg, bh, bi, bj, bk, bl, bm, bn, bo, bp, bq, br, bs], defers := [] } W := by
  obtain ⟨i0, hi0, hz0, hz1, hz2⟩ := info_parts Od; have hXl : X < W.heap.size := (qs.1 hX).1; have hA2 : W.drew.heap[A]? = some (.cells ss 30 (0, 0)) := hA; have c6 := Aa hA2 11 h11; have HC6 : Hid (W.cell? ⟨A, 11, none⟩ = some (.slice (some ⟨b, o, none⟩) n c)) := qh (Aa hA 11 h11); have HBD : Hid (Below W.heap.size W W.drew) := qh (Below.refl _ W).drew; have HSD : Hid (W.drew.heap.size = W.heap.size) := qh rfl; have hAl : A < W.drew.heap.size := BT c6; obtain ⟨ad, had, hsl2⟩ := Qz QS QX b o n c i (by omega); have hsl1 := Qy QS QX b o n c i (by omega) (by omega); have hwi : IntKind.i64.wrap ((i : Int) + 1) = (i : Int) + 1 := IntWalk.i64_in _ (by omega); have hl1 : ((xs.take i).flatMap enc).length = i * 6 := by rw [Ll hek, List.length_take, hn]; congr 1; omega
  have hl2 : ((xs.drop (i + 1)).flatMap enc).length = (n - (i + 1)) * 6 := by rw [Ll hek, List.length_drop, hn]
  have hs1 : ∀ j u, ((xs.take i).flatMap enc)[j]? = some u → W.drew.cell? ((⟨b, o, none⟩ : Addr).add j) = some u := fun j u hj => by
    rw [JI hek] at hj; rw [AX]
    exact hrow j u (by rw [List.getElem?_take] at hj; split at hj; · exact hj
                       · cases hj)
  have hs2 : ∀ j u, ((xs.drop (i + 1)).flatMap enc)[j]? = some u → W.drew.cell? (ad.add j) = some u := fun j u hj => by
    have hjl := (ql.1 hj).1; rw [hl2] at hjl
    rw [had (by rcases Nat.eq_zero_or_pos (n - (i + 1)) with h | h
                · rw [h] at hjl; omega
                · exact h) hnc, AX]
    rw [JH hek, List.getElem?_drop] at hj; have := hrow _ u hj; rw [← Nat.add_assoc] at this; exact this
  have herase : (xs.take i).flatMap enc ++ (xs.drop (i + 1)).flatMap enc = (xs.eraseIdx i).flatMap enc := by rw [List.eraseIdx_eq_take_drop_succ, List.flatMap_append]
  obtain ⟨W1, hW1, b1, z1⟩ : ∃ W1, W.drew.alloc (.cells #[] 73) = W1 ∧ Below W.drew.heap.size W.drew W1 ∧ W1.heap.size = W.drew.heap.size + 1 := ⟨_, rfl, (Below.refl _ _).alloc (qn _) _, by simp⟩; have hEmp : W1.ownsRow W.heap.size 73 6 (.slice (some ⟨W.drew.heap.size, 0, none⟩) 0 0) 0 [] := by rw [← hW1]; exact OV W.drew _ 73 6 (qn _)
  have HI0 := qh hi0; have HZ0 := qh hz0; have HZ1 := qh hz1; have HZ2 := qh hz2; have HEMP := qh hEmp; have HL1 := qh hl1; have HS1 := qh hs1; have HL2 := qh hl2; have HS2 := qh hs2; have HERA := qh herase; have HK := qh hK; have HX := qh hX; have HONE := qh hone; have HB1 := qh b1; have HSZ := qh z1; have HC0 := qh hc0; have HAX := qh hAX; have HW1 := qh hW1; clear hK hX hA hA2 h11 hn hrow hs1 hs2 herase hl1 hl2 had hz0 hz1 hz2 hi0 hek hone hEmp hW1 b1 z1 hnc hc0 hAX; unfold Qr elem10n3 Qq
  conv => arg 2; whnf
  refine wp_region_held (S := fun V => V.cell? ⟨A, 11, none⟩ = some (.slice (some ⟨b, o, none⟩) n c)) (by kernel_rfl) ?_; change wpAnyH _ _ _ _ _ _ _ _ W.drew; generalize W.drew = Wd at *; refine tq 1 _ (.pointer (some ⟨A, 11, none⟩)) rfl (by kernel_rfl) (fun _ _ _ h => h) (Or.inl ⟨by kernel_rfl, fun V hb => by go_simp⟩) c6 ?_
  try simp only [Act.put, qA, qB, qC, qD, qE, qF]
  refine tq 2 _ (.slice (some ⟨b, o, none⟩) n c) rfl (by kernel_rfl) (fun _ _ _ h => h) (Or.inl ⟨by kernel_rfl, fun V hb => by have q0 := hb; go_simp⟩) c6 ?_
  try simp only [Act.put, qA, qB, qC, qD, qE, qF]
  refine tq 3 _ (int i64 (i : Nat)) rfl (by kernel_rfl) (fun _ _ _ h => h) (Or.inl ⟨by kernel_rfl, fun V hb => by go_simp⟩) c6 ?_
  try simp only [Act.put, qA, qB, qC, qD, qE, qF]
  refine tq 4 _ (.slice (some ⟨b, o, none⟩) i c) rfl (by kernel_rfl) (fun _ _ _ h => h) (Or.inl ⟨by kernel_rfl, fun V hb => by have q0 := hsl1; go_simp⟩) c6 ?_
  try simp only [Act.put, qA, qB, qC, qD, qE, qF]
  refine tq 6 _ (.pointer (some ⟨A, 11, none⟩)) rfl (by kernel_rfl) (fun _ _ _ h => h) (Or.inl ⟨by kernel_rfl, fun V hb => by go_simp⟩) c6 ?_
  try simp only [Act.put, qA, qB, qC, qD, qE, qF]
  refine tq 7 _ (.slice (some ⟨b, o, none⟩) n c) rfl (by kernel_rfl) (fun _ _ _ h => h) (Or.inl ⟨by kernel_rfl, fun V hb => by have q0 := hb; go_simp⟩) c6 ?_
  try simp only [Act.put, qA, qB, qC, qD, qE, qF]
  refine tq 8 _ (int i64 (i : Nat)) rfl (by kernel_rfl) (fun _ _ _ h => h) (Or.inl ⟨by kernel_rfl, fun V hb => by go_simp⟩) c6 ?_
  try simp only [Act.put, qA, qB, qC, qD, qE, qF]
  refine tq 9 _ (int i64 ((i : Int) + 1)) rfl (by kernel_rfl) (fun _ _ _ h => h) (Or.inl ⟨by kernel_rfl, fun V hb => by have q0 := hwi; go_simp⟩) c6 ?_
  try simp only [Act.put, qA, qB, qC, qD, qE, qF]
  refine tq 10 _ (.slice (some ad) (n - (i + 1)) (c - (i + 1))) rfl (by kernel_rfl) (fun _ _ _ h => h) (Or.inl ⟨by kernel_rfl, fun V hb => by have q0 := hsl2; go_simp⟩) c6 ?_
  try simp only [Act.put, qA, qB, qC, qD, qE, qF]
  refine tr 0 _ (by kernel_rfl) rfl fun K1 hK => ?_
  go_simp; rw [HW1.out]; have c7 := Ae HB1.out c6; refine hK.out _ _ c7 (fun _ => ?_); clear hK K1
  try simp only [Act.put, qA, qB, qC, qD, qE, qF]
  refine tr 5 _ (by kernel_rfl) rfl fun K1 hK => ?_
  rw [if_pos (by rfl)]; refine Nv _ _ 28 rfl W.heap.size 73 i0 _ 6 64 Try.underlying28 HI0.out HZ0.out HZ1.out HZ2.out rfl (by decide) (.slice (some ⟨Wd.heap.size, 0, none⟩) 0 0) 0 [] rfl HEMP.out ⟨b, o, none⟩ i c _ rfl HL1.out (fun j u hj => Ae HB1.out (HS1.out j u hj)) (HONE.out _) (by unfold maxLen; omega) (by omega) (by rw [HSZ.out, HSD.out]; exact Nat.le_succ _) ?_; intro v1 W2 ho1 hg1 ha1; rw [Nat.zero_add, List.nil_append] at ho1; obtain ⟨g1, c1, rfl, q1, q2, q3⟩ := Qt ho1 (by rcases ha1 with h | h <;> exact ⟨_, h⟩); have c8 := Qs c7 hg1 (Nat.ne_of_lt hAl); refine hK.out _ _ c8 (fun _ => ?_); clear hK K1
  try simp only [Act.put, qA, qB, qC, qD, qE, qF]
  refine tr 11 _ (by kernel_rfl) rfl fun K1 hK => ?_
  rw [if_pos (by rfl)]; refine Nv _ _ 28 rfl W.heap.size 73 i0 _ 6 64 Try.underlying28 HI0.out HZ0.out HZ1.out HZ2.out rfl (by decide) (.slice (some ⟨g1, 0, none⟩) i c1) i _ rfl ho1 ad (n - (i + 1)) (c - (i + 1)) _ rfl HL2.out (fun j u hj => Qs (Ae HB1.out (HS2.out j u hj)) hg1 (Nat.ne_of_lt (BT (HS2.out j u hj)))) (HONE.out _) (by unfold maxLen; omega) (by omega) (Nat.le_trans (by rw [HSZ.out, HSD.out]; exact Nat.le_succ _) hg1.size) ?_; intro v2 W3 ho2 hg2 ha2; rw [HERA.out, show i + (n - (i + 1)) = n - 1 by omega] at ho2; obtain ⟨g2, c2, rfl, t1, t2, t3⟩ := Qt ho2 (by rcases ha2 with h | h <;> exact ⟨_, h⟩); have hbw : Below W.heap.size W W3 := ((Ag HBD.out HB1.out).grown hg1 (by rw [HSZ.out, HSD.out]; exact Nat.le_succ _) (fun k hk => by cases hk; exact Nat.le_of_eq HSD.out.symm)).grown hg2 (Nat.le_trans (by rw [HSZ.out, HSD.out]; exact Nat.le_succ _) hg1.size) (fun k hk => by cases hk; exact q1); have hX3 := Am hbw HX.out; have c9 : W3.cell? ⟨A, 11, none⟩ = some (.slice (some ⟨b, o, none⟩) n c) := Ae hbw HC6.out; have xq := Aa hX3 11 HC0.out; have xz := (show FreeB W3 X from ⟨_, _, hX3⟩).free 11; refine hK.out _ _ c9 (fun _ => ?_); clear hK K1
  try simp only [Act.put, qA, qB, qC, qD, qE, qF]
  refine tr 12 _ (by kernel_rfl) rfl fun K1 hK => ?_
  go_simp; refine hK.out _ _ c9 (fun _ => ?_); clear hK K1
  try simp only [Act.put, qA, qB, qC, qD, qE, qF]
  refine tr 13 _ (by kernel_rfl) rfl fun K1 hK => ?_
  go_simp; refine hK.out _ _ (Ad c9 (Av (Or.inl fun e => HAX.out e.symm))) (fun _ => ?_); clear hK K1; refine wpAnyH_done (by kernel_rfl) ?_ _; refine HK.out g2 c2 _ t1 (by simpa [World.setCell] using t2.lt) (fun j u hj => Ad (t3 j u hj) (Av (Or.inl (by omega)))) (PZ hX3 11 _) ((ButOne.of_below hbw).trans (ButOne.setCell (p := ⟨X, 11, none⟩) _)) _ _ _ _ _ _ _ _ _ _ _ _ _
theorem Rv {α : Type} (enc : α → List Value) (hek : ∀ x, (enc x).length = 4) (hone : ∀ (xs : List α), ∀ u ∈ xs.flatMap enc, u.oneCell' = true) (A X b o n c i : Nat) (ss cs : Array Value) (v0 : Value) (xs : List α) (W : World) (hA : W.heap[A]? = some (.cells ss 30 (0, 0))) (h11 : ss[8]? = some (.slice (some ⟨b, o, none⟩) n c)) (hX : W.heap[X]? = some (.cells cs 30 (0, 0))) (hc0 : cs[8]? = some v0) (hAX : A ≠ X) (hn : xs.length = n) (hn1 : n ≤ 100000) (hnc : n ≤ c) (hi : i < n) (hrow : ∀ j u, (xs.flatMap enc)[j]? = some u → W.cell? ⟨b, o + j, none⟩ = some u) (e0 e1 e2 e4 e5 e6 e7 e8 e9 ea eb ec ed ee ef eg eh ei ej ek el em en eo ep eq er es et eu ev ew ex ey ez eA eB eC eD eE eF eG eH eI eJ eK eL eM eN eO eP eQ eR eS eT eU eV eW eX eY eZ aa ab ac ae af ag ah ai aj ak al am an ao ap aq ar au av aw ax ay az aA aB aC aD aE aF aG aH aI aJ aK aL aM aN aO aP aQ aR aS aT aU aV aW aX aY aZ ba bb bc bd be bf bg bh bi bj bk bl bm bn bo bp bq : Value) (K : Act → World → Prop)
    (hK : ∀ (g c1 : Nat) (W' : World), W.heap.size ≤ g → g < W'.heap.size → RowV enc W' g (xs.eraseIdx i) → W'.heap[X]? = some (.cells (cs.setIfInBounds 8 (.slice (some ⟨g, 0, none⟩) (n - 1) c1)) 30 (0, 0)) → ButOne X W W' → ∀ (br bs bt bu bv bw bx bz bA bB bC bD bE : Value), K { tmps := #[e0, e1, e2, .pointer (some ⟨A, 0, none⟩), e4, e5, e6, e7, e8, e9, ea, eb, int i64 (i : Nat), .pointer (some ⟨X, 0, none⟩), ec, ed, ee, ef, eg, eh, ei, ej, ek, el, em, en, eo, ep, eq, er, es, et, eu, ev, ew, ex, ey, ez, eA, eB, eC, eD, eE, eF, eG, eH, eI, eJ, eK, eL, eM, eN, eO, eP, eQ, eR, eS, eT, eU, eV, eW, eX, eY, eZ, aa, ab, ac, ae, af, ag, ah, ai, aj, ak, al, am, an, ao, ap, aq, ar, au, av, aw, ax, ay, az, aA, br, bs, bt, bu, bv, bw, bx, bz, bA, bB, bC, bD, bE, aO, aP, aQ, aR, aS, aT, aU, aV, aW, aX, aY, aZ, ba, bb, bc, bd, be, bf, bg, bh, bi, bj, bk, bl, bm, bn, bo, bp, bq], defers := [] } W') :
    (Qo (Qp Qw)).wp Try.prog (Exit.then K (fun _ _ _ => False)) { tmps := #[e0, e1, e2, .pointer (some ⟨A, 0, none⟩), e4, e5, e6, e7, e8, e9, ea, eb, int i64 (i : Nat), .pointer (some ⟨X, 0, none⟩), ec, ed, ee, ef, eg, eh, ei, ej, ek, el, em, en, eo, ep, eq, er, es, et, eu, ev, ew, ex, ey, ez, eA, eB, eC, eD, eE, eF, eG, eH, eI, eJ, eK, eL, eM, eN, eO, eP, eQ, eR, eS, eT, eU, eV, eW, eX, eY, eZ, aa, ab, ac, ae, af, ag, ah, ai, aj, ak, al, am, an, ao, ap, aq, ar, au, av, aw, ax, ay, az, aA, aB, aC, aD, aE, aF, aG, aH, aI, aJ, aK, aL, aM, aN, aO, aP, aQ, aR, aS, aT, aU, aV, aW, aX, aY, aZ, ba, bb, bc, bd, be, bf, bg, bh, bi, bj, bk, bl, bm, bn, bo, bp, bq], defers := [] } W := by
  obtain ⟨i0, hi0, hz0, hz1, hz2⟩ := info_parts QT; have hXl : X < W.heap.size := (qs.1 hX).1; have hA2 : W.drew.heap[A]? = some (.cells ss 30 (0, 0)) := hA; have c6 := Aa hA2 8 h11; have HC6 : Hid (W.cell? ⟨A, 8, none⟩ = some (.slice (some ⟨b, o, none⟩) n c)) := qh (Aa hA 8 h11); have HBD : Hid (Below W.heap.size W W.drew) := qh (Below.refl _ W).drew; have HSD : Hid (W.drew.heap.size = W.heap.size) := qh rfl; have hAl : A < W.drew.heap.size := BT c6; obtain ⟨ad, had, hsl2⟩ := Qz QQ QV b o n c i (by omega); have hsl1 := Qy QQ QV b o n c i (by omega) (by omega); have hwi : IntKind.i64.wrap ((i : Int) + 1) = (i : Int) + 1 := IntWalk.i64_in _ (by omega); have hl1 : ((xs.take i).flatMap enc).length = i * 4 := by rw [Ll hek, List.length_take, hn]; congr 1; omega
  have hl2 : ((xs.drop (i + 1)).flatMap enc).length = (n - (i + 1)) * 4 := by rw [Ll hek, List.length_drop, hn]
  have hs1 : ∀ j u, ((xs.take i).flatMap enc)[j]? = some u → W.drew.cell? ((⟨b, o, none⟩ : Addr).add j) = some u := fun j u hj => by
    rw [JI hek] at hj; rw [AX]
    exact hrow j u (by rw [List.getElem?_take] at hj; split at hj; · exact hj
                       · cases hj)
  have hs2 : ∀ j u, ((xs.drop (i + 1)).flatMap enc)[j]? = some u → W.drew.cell? (ad.add j) = some u := fun j u hj => by
    have hjl := (ql.1 hj).1; rw [hl2] at hjl
    rw [had (by rcases Nat.eq_zero_or_pos (n - (i + 1)) with h | h
                · rw [h] at hjl; omega
                · exact h) hnc, AX]
    rw [JH hek, List.getElem?_drop] at hj; have := hrow _ u hj; rw [← Nat.add_assoc] at this; exact this
  have herase : (xs.take i).flatMap enc ++ (xs.drop (i + 1)).flatMap enc = (xs.eraseIdx i).flatMap enc := by rw [List.eraseIdx_eq_take_drop_succ, List.flatMap_append]
  obtain ⟨W1, hW1, b1, z1⟩ : ∃ W1, W.drew.alloc (.cells #[] 147) = W1 ∧ Below W.drew.heap.size W.drew W1 ∧ W1.heap.size = W.drew.heap.size + 1 := ⟨_, rfl, (Below.refl _ _).alloc (qn _) _, by simp⟩; have hEmp : W1.ownsRow W.heap.size 147 4 (.slice (some ⟨W.drew.heap.size, 0, none⟩) 0 0) 0 [] := by rw [← hW1]; exact OV W.drew _ 147 4 (qn _)
  have HI0 := qh hi0; have HZ0 := qh hz0; have HZ1 := qh hz1; have HZ2 := qh hz2; have HEMP := qh hEmp; have HL1 := qh hl1; have HS1 := qh hs1; have HL2 := qh hl2; have HS2 := qh hs2; have HERA := qh herase; have HK := qh hK; have HX := qh hX; have HONE := qh hone; have HB1 := qh b1; have HSZ := qh z1; have HC0 := qh hc0; have HAX := qh hAX; have HW1 := qh hW1; clear hK hX hA hA2 h11 hn hrow hs1 hs2 herase hl1 hl2 had hz0 hz1 hz2 hi0 hek hone hEmp hW1 b1 z1 hnc hc0 hAX; unfold Qw elem10n4 Qq
  conv => arg 2; whnf
  refine wp_region_held (S := fun V => V.cell? ⟨A, 8, none⟩ = some (.slice (some ⟨b, o, none⟩) n c)) (by kernel_rfl) ?_; change wpAnyH _ _ _ _ _ _ _ _ W.drew; generalize W.drew = Wd at *; refine tq 1 _ (.pointer (some ⟨A, 8, none⟩)) rfl (by kernel_rfl) (fun _ _ _ h => h) (Or.inl ⟨by kernel_rfl, fun V hb => by go_simp⟩) c6 ?_
  try simp only [Act.put, qA, qB, qC, qD, qE, qF]
  refine tq 2 _ (.slice (some ⟨b, o, none⟩) n c) rfl (by kernel_rfl) (fun _ _ _ h => h) (Or.inl ⟨by kernel_rfl, fun V hb => by have q0 := hb; go_simp⟩) c6 ?_
  try simp only [Act.put, qA, qB, qC, qD, qE, qF]
  refine tq 3 _ (int i64 (i : Nat)) rfl (by kernel_rfl) (fun _ _ _ h => h) (Or.inl ⟨by kernel_rfl, fun V hb => by go_simp⟩) c6 ?_
  try simp only [Act.put, qA, qB, qC, qD, qE, qF]
  refine tq 4 _ (.slice (some ⟨b, o, none⟩) i c) rfl (by kernel_rfl) (fun _ _ _ h => h) (Or.inl ⟨by kernel_rfl, fun V hb => by have q0 := hsl1; go_simp⟩) c6 ?_
  try simp only [Act.put, qA, qB, qC, qD, qE, qF]
  refine tq 6 _ (.pointer (some ⟨A, 8, none⟩)) rfl (by kernel_rfl) (fun _ _ _ h => h) (Or.inl ⟨by kernel_rfl, fun V hb => by go_simp⟩) c6 ?_
  try simp only [Act.put, qA, qB, qC, qD, qE, qF]
  refine tq 7 _ (.slice (some ⟨b, o, none⟩) n c) rfl (by kernel_rfl) (fun _ _ _ h => h) (Or.inl ⟨by kernel_rfl, fun V hb => by have q0 := hb; go_simp⟩) c6 ?_
  try simp only [Act.put, qA, qB, qC, qD, qE, qF]
  refine tq 8 _ (int i64 (i : Nat)) rfl (by kernel_rfl) (fun _ _ _ h => h) (Or.inl ⟨by kernel_rfl, fun V hb => by go_simp⟩) c6 ?_
  try simp only [Act.put, qA, qB, qC, qD, qE, qF]
  refine tq 9 _ (int i64 ((i : Int) + 1)) rfl (by kernel_rfl) (fun _ _ _ h => h) (Or.inl ⟨by kernel_rfl, fun V hb => by have q0 := hwi; go_simp⟩) c6 ?_
  try simp only [Act.put, qA, qB, qC, qD, qE, qF]
  refine tq 10 _ (.slice (some ad) (n - (i + 1)) (c - (i + 1))) rfl (by kernel_rfl) (fun _ _ _ h => h) (Or.inl ⟨by kernel_rfl, fun V hb => by have q0 := hsl2; go_simp⟩) c6 ?_
  try simp only [Act.put, qA, qB, qC, qD, qE, qF]
  refine tr 0 _ (by kernel_rfl) rfl fun K1 hK => ?_
  go_simp; rw [HW1.out]; have c7 := Ae HB1.out c6; refine hK.out _ _ c7 (fun _ => ?_); clear hK K1
  try simp only [Act.put, qA, qB, qC, qD, qE, qF]
  refine tr 5 _ (by kernel_rfl) rfl fun K1 hK => ?_
  rw [if_pos (by rfl)]; refine Nv _ _ 25 rfl W.heap.size 147 i0 _ 4 32 Try.underlying25 HI0.out HZ0.out HZ1.out HZ2.out rfl (by decide) (.slice (some ⟨Wd.heap.size, 0, none⟩) 0 0) 0 [] rfl HEMP.out ⟨b, o, none⟩ i c _ rfl HL1.out (fun j u hj => Ae HB1.out (HS1.out j u hj)) (HONE.out _) (by unfold maxLen; omega) (by omega) (by rw [HSZ.out, HSD.out]; exact Nat.le_succ _) ?_; intro v1 W2 ho1 hg1 ha1; rw [Nat.zero_add, List.nil_append] at ho1; obtain ⟨g1, c1, rfl, q1, q2, q3⟩ := Qt ho1 (by rcases ha1 with h | h <;> exact ⟨_, h⟩); have c8 := Qs c7 hg1 (Nat.ne_of_lt hAl); refine hK.out _ _ c8 (fun _ => ?_); clear hK K1
  try simp only [Act.put, qA, qB, qC, qD, qE, qF]
  refine tr 11 _ (by kernel_rfl) rfl fun K1 hK => ?_
  rw [if_pos (by rfl)]; refine Nv _ _ 25 rfl W.heap.size 147 i0 _ 4 32 Try.underlying25 HI0.out HZ0.out HZ1.out HZ2.out rfl (by decide) (.slice (some ⟨g1, 0, none⟩) i c1) i _ rfl ho1 ad (n - (i + 1)) (c - (i + 1)) _ rfl HL2.out (fun j u hj => Qs (Ae HB1.out (HS2.out j u hj)) hg1 (Nat.ne_of_lt (BT (HS2.out j u hj)))) (HONE.out _) (by unfold maxLen; omega) (by omega) (Nat.le_trans (by rw [HSZ.out, HSD.out]; exact Nat.le_succ _) hg1.size) ?_; intro v2 W3 ho2 hg2 ha2; rw [HERA.out, show i + (n - (i + 1)) = n - 1 by omega] at ho2; obtain ⟨g2, c2, rfl, t1, t2, t3⟩ := Qt ho2 (by rcases ha2 with h | h <;> exact ⟨_, h⟩); have hbw : Below W.heap.size W W3 := ((Ag HBD.out HB1.out).grown hg1 (by rw [HSZ.out, HSD.out]; exact Nat.le_succ _) (fun k hk => by cases hk; exact Nat.le_of_eq HSD.out.symm)).grown hg2 (Nat.le_trans (by rw [HSZ.out, HSD.out]; exact Nat.le_succ _) hg1.size) (fun k hk => by cases hk; exact q1); have hX3 := Am hbw HX.out; have c9 : W3.cell? ⟨A, 8, none⟩ = some (.slice (some ⟨b, o, none⟩) n c) := Ae hbw HC6.out; have xq := Aa hX3 8 HC0.out; have xz := (show FreeB W3 X from ⟨_, _, hX3⟩).free 8; refine hK.out _ _ c9 (fun _ => ?_); clear hK K1
  try simp only [Act.put, qA, qB, qC, qD, qE, qF]
  refine tr 12 _ (by kernel_rfl) rfl fun K1 hK => ?_
  go_simp; refine hK.out _ _ c9 (fun _ => ?_); clear hK K1
  try simp only [Act.put, qA, qB, qC, qD, qE, qF]
  refine tr 13 _ (by kernel_rfl) rfl fun K1 hK => ?_
  go_simp; refine hK.out _ _ (Ad c9 (Av (Or.inl fun e => HAX.out e.symm))) (fun _ => ?_); clear hK K1; refine wpAnyH_done (by kernel_rfl) ?_ _; refine HK.out g2 c2 _ t1 (by simpa [World.setCell] using t2.lt) (fun j u hj => Ad (t3 j u hj) (Av (Or.inl (by omega)))) (PZ hX3 8 _) ((ButOne.of_below hbw).trans (ButOne.setCell (p := ⟨X, 8, none⟩) _)) _ _ _ _ _ _ _ _ _ _ _ _ _
theorem Ry {α : Type} (enc : α → List Value) (hek : ∀ x, (enc x).length = 4) (hone : ∀ (xs : List α), ∀ u ∈ xs.flatMap enc, u.oneCell' = true) (A X b o n c i : Nat) (ss cs : Array Value) (v0 : Value) (xs : List α) (W : World) (hA : W.heap[A]? = some (.cells ss 30 (0, 0))) (h11 : ss[9]? = some (.slice (some ⟨b, o, none⟩) n c)) (hX : W.heap[X]? = some (.cells cs 30 (0, 0))) (hc0 : cs[9]? = some v0) (hAX : A ≠ X) (hn : xs.length = n) (hn1 : n ≤ 100000) (hnc : n ≤ c) (hi : i < n) (hrow : ∀ j u, (xs.flatMap enc)[j]? = some u → W.cell? ⟨b, o + j, none⟩ = some u) (e0 e1 e2 e4 e5 e6 e7 e8 e9 ea eb ec ed ee ef eg eh ei ej ek el em en eo ep eq er es et eu ev ew ex ey ez eA eB eC eD eE eF eG eH eI eJ eK eL eM eN eO eP eQ eR eS eT eU eV eW eX eY eZ aa ab ac ae af ag ah ai aj ak al am an ao ap aq ar au av aw ax ay az aA aB aC aD aE aF aG aH aI aJ aK aL aM aN aO aP aQ aR aS aT aU aV aW aX aY aZ ba bb bc bd be bf bg bh bi bj bk bl bm bn bo bp bq : Value) (K : Act → World → Prop)
    (hK : ∀ (g c1 : Nat) (W' : World), W.heap.size ≤ g → g < W'.heap.size → RowV enc W' g (xs.eraseIdx i) → W'.heap[X]? = some (.cells (cs.setIfInBounds 9 (.slice (some ⟨g, 0, none⟩) (n - 1) c1)) 30 (0, 0)) → ButOne X W W' → ∀ (br bs bt bu bv bw bx bz bA bB bC bD bE : Value), K { tmps := #[e0, e1, e2, .pointer (some ⟨A, 0, none⟩), e4, e5, e6, e7, e8, e9, ea, eb, ec, ed, ee, int i64 (i : Nat), .pointer (some ⟨X, 0, none⟩), ef, eg, eh, ei, ej, ek, el, em, en, eo, ep, eq, er, es, et, eu, ev, ew, ex, ey, ez, eA, eB, eC, eD, eE, eF, eG, eH, eI, eJ, eK, eL, eM, eN, eO, eP, eQ, eR, eS, eT, eU, eV, eW, eX, eY, eZ, aa, ab, ac, ae, af, ag, ah, ai, aj, ak, al, am, an, ao, ap, aq, ar, au, av, aw, ax, ay, az, aA, aB, aC, aD, aE, aF, aG, aH, aI, aJ, aK, aL, aM, aN, aO, aP, aQ, aR, aS, aT, aU, aV, aW, aX, aY, aZ, ba, br, bs, bt, bu, bv, bw, bx, bz, bA, bB, bC, bD, bE, bo, bp, bq], defers := [] } W') :
    (Qo (Qp Qx)).wp Try.prog (Exit.then K (fun _ _ _ => False)) { tmps := #[e0, e1, e2, .pointer (some ⟨A, 0, none⟩), e4, e5, e6, e7, e8, e9, ea, eb, ec, ed, ee, int i64 (i : Nat), .pointer (some ⟨X, 0, none⟩), ef, eg, eh, ei, ej, ek, el, em, en, eo, ep, eq, er, es, et, eu, ev, ew, ex, ey, ez, eA, eB, eC, eD, eE, eF, eG, eH, eI, eJ, eK, eL, eM, eN, eO, eP, eQ, eR, eS, eT, eU, eV, eW, eX, eY, eZ, aa, ab, ac, ae, af, ag, ah, ai, aj, ak, al, am, an, ao, ap, aq, ar, au, av, aw, ax, ay, az, aA, aB, aC, aD, aE, aF, aG, aH, aI, aJ, aK, aL, aM, aN, aO, aP, aQ, aR, aS, aT, aU, aV, aW, aX, aY, aZ, ba, bb, bc, bd, be, bf, bg, bh, bi, bj, bk, bl, bm, bn, bo, bp, bq], defers := [] } W := by
  obtain ⟨i0, hi0, hz0, hz1, hz2⟩ := info_parts QU; have hXl : X < W.heap.size := (qs.1 hX).1; have hA2 : W.drew.heap[A]? = some (.cells ss 30 (0, 0)) := hA; have c6 := Aa hA2 9 h11; have HC6 : Hid (W.cell? ⟨A, 9, none⟩ = some (.slice (some ⟨b, o, none⟩) n c)) := qh (Aa hA 9 h11); have HBD : Hid (Below W.heap.size W W.drew) := qh (Below.refl _ W).drew; have HSD : Hid (W.drew.heap.size = W.heap.size) := qh rfl; have hAl : A < W.drew.heap.size := BT c6; obtain ⟨ad, had, hsl2⟩ := Qz QR QW b o n c i (by omega); have hsl1 := Qy QR QW b o n c i (by omega) (by omega); have hwi : IntKind.i64.wrap ((i : Int) + 1) = (i : Int) + 1 := IntWalk.i64_in _ (by omega); have hl1 : ((xs.take i).flatMap enc).length = i * 4 := by rw [Ll hek, List.length_take, hn]; congr 1; omega
  have hl2 : ((xs.drop (i + 1)).flatMap enc).length = (n - (i + 1)) * 4 := by rw [Ll hek, List.length_drop, hn]
  have hs1 : ∀ j u, ((xs.take i).flatMap enc)[j]? = some u → W.drew.cell? ((⟨b, o, none⟩ : Addr).add j) = some u := fun j u hj => by
    rw [JI hek] at hj; rw [AX]
    exact hrow j u (by rw [List.getElem?_take] at hj; split at hj; · exact hj
                       · cases hj)
  have hs2 : ∀ j u, ((xs.drop (i + 1)).flatMap enc)[j]? = some u → W.drew.cell? (ad.add j) = some u := fun j u hj => by
    have hjl := (ql.1 hj).1; rw [hl2] at hjl
    rw [had (by rcases Nat.eq_zero_or_pos (n - (i + 1)) with h | h
                · rw [h] at hjl; omega
                · exact h) hnc, AX]
    rw [JH hek, List.getElem?_drop] at hj; have := hrow _ u hj; rw [← Nat.add_assoc] at this; exact this
  have herase : (xs.take i).flatMap enc ++ (xs.drop (i + 1)).flatMap enc = (xs.eraseIdx i).flatMap enc := by rw [List.eraseIdx_eq_take_drop_succ, List.flatMap_append]
  obtain ⟨W1, hW1, b1, z1⟩ : ∃ W1, W.drew.alloc (.cells #[] 149) = W1 ∧ Below W.drew.heap.size W.drew W1 ∧ W1.heap.size = W.drew.heap.size + 1 := ⟨_, rfl, (Below.refl _ _).alloc (qn _) _, by simp⟩; have hEmp : W1.ownsRow W.heap.size 149 4 (.slice (some ⟨W.drew.heap.size, 0, none⟩) 0 0) 0 [] := by rw [← hW1]; exact OV W.drew _ 149 4 (qn _)
  have HI0 := qh hi0; have HZ0 := qh hz0; have HZ1 := qh hz1; have HZ2 := qh hz2; have HEMP := qh hEmp; have HL1 := qh hl1; have HS1 := qh hs1; have HL2 := qh hl2; have HS2 := qh hs2; have HERA := qh herase; have HK := qh hK; have HX := qh hX; have HONE := qh hone; have HB1 := qh b1; have HSZ := qh z1; have HC0 := qh hc0; have HAX := qh hAX; have HW1 := qh hW1; clear hK hX hA hA2 h11 hn hrow hs1 hs2 herase hl1 hl2 had hz0 hz1 hz2 hi0 hek hone hEmp hW1 b1 z1 hnc hc0 hAX; unfold Qx elem10n5 Qq
  conv => arg 2; whnf
  refine wp_region_held (S := fun V => V.cell? ⟨A, 9, none⟩ = some (.slice (some ⟨b, o, none⟩) n c)) (by kernel_rfl) ?_; change wpAnyH _ _ _ _ _ _ _ _ W.drew; generalize W.drew = Wd at *; refine tq 1 _ (.pointer (some ⟨A, 9, none⟩)) rfl (by kernel_rfl) (fun _ _ _ h => h) (Or.inl ⟨by kernel_rfl, fun V hb => by go_simp⟩) c6 ?_
  try simp only [Act.put, qA, qB, qC, qD, qE, qF]
  refine tq 2 _ (.slice (some ⟨b, o, none⟩) n c) rfl (by kernel_rfl) (fun _ _ _ h => h) (Or.inl ⟨by kernel_rfl, fun V hb => by have q0 := hb; go_simp⟩) c6 ?_
  try simp only [Act.put, qA, qB, qC, qD, qE, qF]
  refine tq 3 _ (int i64 (i : Nat)) rfl (by kernel_rfl) (fun _ _ _ h => h) (Or.inl ⟨by kernel_rfl, fun V hb => by go_simp⟩) c6 ?_
  try simp only [Act.put, qA, qB, qC, qD, qE, qF]
  refine tq 4 _ (.slice (some ⟨b, o, none⟩) i c) rfl (by kernel_rfl) (fun _ _ _ h => h) (Or.inl ⟨by kernel_rfl, fun V hb => by have q0 := hsl1; go_simp⟩) c6 ?_
  try simp only [Act.put, qA, qB, qC, qD, qE, qF]
  refine tq 6 _ (.pointer (some ⟨A, 9, none⟩)) rfl (by kernel_rfl) (fun _ _ _ h => h) (Or.inl ⟨by kernel_rfl, fun V hb => by go_simp⟩) c6 ?_
  try simp only [Act.put, qA, qB, qC, qD, qE, qF]
  refine tq 7 _ (.slice (some ⟨b, o, none⟩) n c) rfl (by kernel_rfl) (fun _ _ _ h => h) (Or.inl ⟨by kernel_rfl, fun V hb => by have q0 := hb; go_simp⟩) c6 ?_
  try simp only [Act.put, qA, qB, qC, qD, qE, qF]
  refine tq 8 _ (int i64 (i : Nat)) rfl (by kernel_rfl) (fun _ _ _ h => h) (Or.inl ⟨by kernel_rfl, fun V hb => by go_simp⟩) c6 ?_
  try simp only [Act.put, qA, qB, qC, qD, qE, qF]
  refine tq 9 _ (int i64 ((i : Int) + 1)) rfl (by kernel_rfl) (fun _ _ _ h => h) (Or.inl ⟨by kernel_rfl, fun V hb => by have q0 := hwi; go_simp⟩) c6 ?_
  try simp only [Act.put, qA, qB, qC, qD, qE, qF]
  refine tq 10 _ (.slice (some ad) (n - (i + 1)) (c - (i + 1))) rfl (by kernel_rfl) (fun _ _ _ h => h) (Or.inl ⟨by kernel_rfl, fun V hb => by have q0 := hsl2; go_simp⟩) c6 ?_
  try simp only [Act.put, qA, qB, qC, qD, qE, qF]
  refine tr 0 _ (by kernel_rfl) rfl fun K1 hK => ?_
  go_simp; rw [HW1.out]; have c7 := Ae HB1.out c6; refine hK.out _ _ c7 (fun _ => ?_); clear hK K1
  try simp only [Act.put, qA, qB, qC, qD, qE, qF]
  refine tr 5 _ (by kernel_rfl) rfl fun K1 hK => ?_
  rw [if_pos (by rfl)]; refine Nv _ _ 26 rfl W.heap.size 149 i0 _ 4 32 Try.underlying26 HI0.out HZ0.out HZ1.out HZ2.out rfl (by decide) (.slice (some ⟨Wd.heap.size, 0, none⟩) 0 0) 0 [] rfl HEMP.out ⟨b, o, none⟩ i c _ rfl HL1.out (fun j u hj => Ae HB1.out (HS1.out j u hj)) (HONE.out _) (by unfold maxLen; omega) (by omega) (by rw [HSZ.out, HSD.out]; exact Nat.le_succ _) ?_; intro v1 W2 ho1 hg1 ha1; rw [Nat.zero_add, List.nil_append] at ho1; obtain ⟨g1, c1, rfl, q1, q2, q3⟩ := Qt ho1 (by rcases ha1 with h | h <;> exact ⟨_, h⟩); have c8 := Qs c7 hg1 (Nat.ne_of_lt hAl); refine hK.out _ _ c8 (fun _ => ?_); clear hK K1
  try simp only [Act.put, qA, qB, qC, qD, qE, qF]
  refine tr 11 _ (by kernel_rfl) rfl fun K1 hK => ?_
  rw [if_pos (by rfl)]; refine Nv _ _ 26 rfl W.heap.size 149 i0 _ 4 32 Try.underlying26 HI0.out HZ0.out HZ1.out HZ2.out rfl (by decide) (.slice (some ⟨g1, 0, none⟩) i c1) i _ rfl ho1 ad (n - (i + 1)) (c - (i + 1)) _ rfl HL2.out (fun j u hj => Qs (Ae HB1.out (HS2.out j u hj)) hg1 (Nat.ne_of_lt (BT (HS2.out j u hj)))) (HONE.out _) (by unfold maxLen; omega) (by omega) (Nat.le_trans (by rw [HSZ.out, HSD.out]; exact Nat.le_succ _) hg1.size) ?_; intro v2 W3 ho2 hg2 ha2; rw [HERA.out, show i + (n - (i + 1)) = n - 1 by omega] at ho2; obtain ⟨g2, c2, rfl, t1, t2, t3⟩ := Qt ho2 (by rcases ha2 with h | h <;> exact ⟨_, h⟩); have hbw : Below W.heap.size W W3 := ((Ag HBD.out HB1.out).grown hg1 (by rw [HSZ.out, HSD.out]; exact Nat.le_succ _) (fun k hk => by cases hk; exact Nat.le_of_eq HSD.out.symm)).grown hg2 (Nat.le_trans (by rw [HSZ.out, HSD.out]; exact Nat.le_succ _) hg1.size) (fun k hk => by cases hk; exact q1); have hX3 := Am hbw HX.out; have c9 : W3.cell? ⟨A, 9, none⟩ = some (.slice (some ⟨b, o, none⟩) n c) := Ae hbw HC6.out; have xq := Aa hX3 9 HC0.out; have xz := (show FreeB W3 X from ⟨_, _, hX3⟩).free 9; refine hK.out _ _ c9 (fun _ => ?_); clear hK K1
  try simp only [Act.put, qA, qB, qC, qD, qE, qF]
  refine tr 12 _ (by kernel_rfl) rfl fun K1 hK => ?_
  go_simp; refine hK.out _ _ c9 (fun _ => ?_); clear hK K1
  try simp only [Act.put, qA, qB, qC, qD, qE, qF]
  refine tr 13 _ (by kernel_rfl) rfl fun K1 hK => ?_
  go_simp; refine hK.out _ _ (Ad c9 (Av (Or.inl fun e => HAX.out e.symm))) (fun _ => ?_); clear hK K1; refine wpAnyH_done (by kernel_rfl) ?_ _; refine HK.out g2 c2 _ t1 (by simpa [World.setCell] using t2.lt) (fun j u hj => Ad (t3 j u hj) (Av (Or.inl (by omega)))) (PZ hX3 9 _) ((ButOne.of_below hbw).trans (ButOne.setCell (p := ⟨X, 9, none⟩) _)) _ _ _ _ _ _ _ _ _ _ _ _ _
end
end Go.Proofs.Ytpnbpepkoekkoaa
