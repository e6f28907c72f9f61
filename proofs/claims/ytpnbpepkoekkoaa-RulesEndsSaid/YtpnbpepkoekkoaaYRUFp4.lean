/- The walk of the statement: part 4. -/
import Derived.Test.YtpnbpepkoekkoaaZ37
import Derived.Test.YtpnbpepkoekkoaaZ28
import Derived.Test.YtpnbpepkoekkoaaZ31
import Derived.Test.YtpnbpepkoekkoaaYRUFp1
import Derived.Test.YtpnbpepkoekkoaaYRUFp2
import Derived.Test.YtpnbpepkoekkoaaYRUFp3
import Derived.Test.YtpnbpepkoekkoaaZ35
import Derived.Test.YtpnbpepkoekkoaaZ36
import Derived.BigQuiet
import Derived.BigCall
import Derived.BigGuard
import Derived.Test.YtpnbpepkoekkoaaZ3
set_option linter.unusedVariables false
set_option linter.unusedSimpArgs false
set_option maxRecDepth 100000
set_option maxHeartbeats 16000000
namespace Go.Proofs.Ytpnbpepkoekkoaa
open Go.Value (int)
open Go.IntKind (i64)
section
open Go Go.RowKit Go.Deep
noncomputable def Qq : Code := (Try.f8.body).getD .skip
noncomputable def Rp : Code := match Ab 0 Qq with
 | .seq a _ => a
 | c => c
noncomputable def Rq : Code := match Ab 1 Qq with
 | .seq a _ => a
 | c => c
noncomputable def Rr : Code := match Ab 2 Qq with
 | .seq a _ => a
 | c => c
noncomputable def Rs : Code := match Ab 3 Qq with
 | .seq a _ => a
 | c => c
noncomputable def Rt : Code := match Ab 4 Qq with
 | .seq a _ => a
 | c => c
noncomputable def Ru : Code := match Ab 5 Qq with
 | .seq a _ => a
 | c => c
noncomputable def Rv : Code := match Ab 6 Qq with
 | .seq a _ => a
 | c => c
noncomputable def QK : Code := match Ab 7 Qq with
 | .seq a _ => a
 | c => c
noncomputable def Rw : Code := match Ab 8 Qq with
 | .seq a _ => a
 | c => c
noncomputable def Rx : Code := match Ab 9 Qq with
 | .seq a _ => a
 | c => c
noncomputable def QE : Code := match Ab 10 Qq with
 | .seq a _ => a
 | c => c
theorem RA : Ab 1 Qq = .seq Rq (Ab 2 Qq) := rfl
theorem RB : Ab 2 Qq = .seq Rr (Ab 3 Qq) := rfl
theorem RC : Ab 3 Qq = .seq Rs (Ab 4 Qq) := rfl
theorem RD : Ab 4 Qq = .seq Rt (Ab 5 Qq) := rfl
theorem RE : Ab 5 Qq = .seq Ru (Ab 6 Qq) := rfl
theorem RF : Ab 6 Qq = .seq Rv (Ab 7 Qq) := rfl
theorem RG : Ab 7 Qq = .seq QK (Ab 8 Qq) := rfl
theorem QY : Ab 8 Qq = .seq Rw (Ab 9 Qq) := rfl
theorem RH : Ab 9 Qq = .seq Rx (Ab 10 Qq) := rfl
theorem Rl : Ab 10 Qq = .seq QE (Ab 11 Qq) := rfl
theorem RR (s : Ls) (ns : List Int) (w W : World) (h : LawIn s ns w) (hW : LawW s w W) (hrest : ∀ (V : World) (e0 e2 e3 e4 e5 e6 e7 e8 e9 ea eb ec ed ee ef eg eh ei ej ek el em en eo ep eq er es et eu ev ew ex ey ez eA eB eC eD eE eF eG eH eI eJ eK eL eM eN eO eP eQ eR eS eT eU eV eW eX eY eZ aa ab ac ad ae af ag ah ai aj ak al am an ao ap aq ar au av aw ax ay az aA aB aC aD aE aF aG aH aI aJ aK aL aM aN aO aP aQ aR aS aT aU aV aW aX aY aZ ba bb bc bd be bf bg bh bi bj bk bl bm bn bo bp bq br bs bt bu bv bw bx bz bA bB bC bD bE bF bG bH bI bJ bK bL bM bN bO bP bQ bR bS bT bU bV bW bX bY bZ ca cb cc cd ce cf cg ch ci cj ck cl cm cn co cp cq cr cs ct cu cv cw cx cy cz cA cB cC cD cE cF cG cH cI cJ cK cL cM : Value), LawW s w V → Bp s.strip ns = 0 → s.phrases.length ≤ 12 ∧ s.roles.length ≤ 70 ∧ s.dances.length ≤ 300 → (Ab 3 Qq).wp Try.prog (bodyPost Try.prog Try.f8 (fun e w' => e = .returned (.bool true) ∧ Below w.heap.size w w')) { tmps := #[e0, .pointer (some ⟨w.heap.size, 0, none⟩), e2, e3, e4, e5, e6, e7, e8, e9, ea, eb, ec, ed, ee, ef, eg, eh, ei, ej, ek, el, em, en, eo, ep, eq, er, es, et, eu, ev, ew, ex, ey, ez, eA, eB, eC, eD, eE, eF, eG, eH, eI, eJ, eK, eL, eM, eN, eO, eP, eQ, eR, eS, eT, eU, eV, eW, eX, eY, eZ, aa, ab, ac, ad, ae, af, ag, ah, ai, aj, ak, al, am, an, ao, ap, aq, ar, au, av, aw, ax, ay, az, aA, aB, aC, aD, aE, aF, aG, aH, aI, aJ, aK, aL, aM, aN, aO, aP, aQ, aR, aS, aT, aU, aV, aW, aX, aY, aZ, ba, bb, bc, bd, be, bf, bg, bh, bi, bj, bk, bl, bm, bn, bo, bp, bq, br, bs, bt, bu, bv, bw, bx, bz, bA, bB, bC, bD, bE, bF, bG, bH, bI, bJ, bK, bL, bM, bN, bO, bP, bQ, bR, bS, bT, bU, bV, bW, bX, bY, bZ, ca, cb, cc, cd, ce, cf, cg, ch, ci, cj, ck, cl, cm, cn, co, cp, cq, cr, cs, ct, cu, cv, cw, cx, cy, cz, cA, cB, cC, cD, cE, cF, cG, cH, cI, cJ, cK, cL, cM], defers := [] } V) (e0 e2 e3 e4 e5 e6 e7 e8 e9 ea eb ec ed ee ef eg eh ei ej ek el em en eo ep eq er es et eu ev ew ex ey ez eA eB eC eD eE eF eG eH eI eJ eK eL eM eN eO eP eQ eR eS eT eU eV eW eX eY eZ aa ab ac ad ae af ag ah ai aj ak al am an ao ap aq ar au av aw ax ay az aA aB aC aD aE aF aG aH aI aJ aK aL aM aN aO aP aQ aR aS aT aU aV aW aX aY aZ ba bb bc bd be bf bg bh bi bj bk bl bm bn bo bp bq br bs bt bu bv bw bx bz bA bB bC bD bE bF bG bH bI bJ bK bL bM bN bO bP bQ bR bS bT bU bV bW bX bY bZ ca cb cc cd ce cf cg ch ci cj ck cl cm cn co cp cq cr cs ct cu cv cw cx cy cz cA cB cC cD cE cF cG cH cI cJ cK cL cM : Value) :
  (Ab 2 Qq).wp Try.prog (bodyPost Try.prog Try.f8 (fun e w' => e = .returned (.bool true) ∧ Below w.heap.size w w')) { tmps := #[e0, .pointer (some ⟨w.heap.size, 0, none⟩), e2, e3, e4, e5, e6, e7, e8, e9, ea, eb, ec, ed, ee, ef, eg, eh, ei, ej, ek, el, em, en, eo, ep, eq, er, es, et, eu, ev, ew, ex, ey, ez, eA, eB, eC, eD, eE, eF, eG, eH, eI, eJ, eK, eL, eM, eN, eO, eP, eQ, eR, eS, eT, eU, eV, eW, eX, eY, eZ, aa, ab, ac, ad, ae, af, ag, ah, ai, aj, ak, al, am, an, ao, ap, aq, ar, au, av, aw, ax, ay, az, aA, aB, aC, aD, aE, aF, aG, aH, aI, aJ, aK, aL, aM, aN, aO, aP, aQ, aR, aS, aT, aU, aV, aW, aX, aY, aZ, ba, bb, bc, bd, be, bf, bg, bh, bi, bj, bk, bl, bm, bn, bo, bp, bq, br, bs, bt, bu, bv, bw, bx, bz, bA, bB, bC, bD, bE, bF, bG, bH, bI, bJ, bK, bL, bM, bN, bO, bP, bQ, bR, bS, bT, bU, bV, bW, bX, bY, bZ, ca, cb, cc, cd, ce, cf, cg, ch, ci, cj, ck, cl, cm, cn, co, cp, cq, cr, cs, ct, cu, cv, cw, cx, cy, cz, cA, cB, cC, cD, cE, cF, cG, cH, cI, cJ, cK, cL, cM], defers := [] } W := by
 have C := OU s W (h.at_.below hW.below) h.fit; unfold Ls.val at C; have HC := qh C; have HL := qh hW.box; have HW := qh hW; have HH := qh h; have HR := qh hrest; clear C h hW hrest; rw [RB]; refine Ac (fun K hK => ?_); have HK := qh hK; clear hK
 conv => arg 2; whnf
 go_wp2_with (refine wpList_load_row rfl 30 _ rfl w.heap.size rfl 30 s.cells (0, 0) _ HL.out Try.underlying30 rfl (by kernel_rfl) ?_; simp only [Act.put, qD, qE, qF]); refine HC.out.mono ?_; rintro e V ⟨b, rfl, hf, hv⟩; have H3 := qh (HW.out.next hv); have HF := qh hf; clear HC HL hv hf HW
 cases b with
 | false =>
  go_wp2_with fail
  try simp only [Exit.then]
  go_ret; exact ⟨rfl, H3.out.below⟩
 | true =>
 have C := F1 s ns V (HH.out.at_.below H3.out.below) (HH.out.ns.below H3.out.below) (HH.out.env _ H3.out.below); obtain ⟨c, hc⟩ : ∃ c, Bp s.strip ns = c := ⟨_, rfl⟩; unfold Gp at C; rw [hc] at C; unfold Ls.val at C; have HC := qh C; have HL := qh H3.out.box; have HCE := qh hc; clear C hc
 go_wp2_with (refine BP (by kernel_rfl) 30 _ rfl w.heap.size rfl 30 s.cells (0, 0) _ HL.out Try.underlying30 rfl (by kernel_rfl) ?_; simp only [Act.put, qD, qE, qF]); refine HC.out.mono ?_; rintro e V2 ⟨rfl, hv⟩; have H4 := qh (H3.out.next hv); clear HC HL hv H3; by_cases hz : c = 0
 ·subst hz
  go_wp2_with fail; refine HK.out _ _ ?_; exact HR.out _ _ _ _ _ _ _ _ _ _ _ _ _ _ _ _ _ _ _ _ _ _ _ _ _ _ _ _ _ _ _ _ _ _ _ _ _ _ _ _ _ _ _ _ _ _ _ _ _ _ _ _ _ _ _ _ _ _ _ _ _ _ _ _ _ _ _ _ _ _ _ _ _ _ _ _ _ _ _ _ _ _ _ _ _ _ _ _ _ _ _ _ _ _ _ _ _ _ _ _ _ _ _ _ _ _ _ _ _ _ _ _ _ _ _ _ _ _ _ _ _ _ _ _ _ _ _ _ _ _ _ _ _ _ _ _ _ _ _ _ _ _ _ _ _ _ _ _ _ _ _ _ _ _ _ _ _ _ _ _ _ _ _ _ _ _ _ _ _ _ _ _ _ _ _ _ _ _ _ _ _ _ _ _ _ _ _ _ _ _ _ _ _ _ _ _ _ _ _ _ _ _ H4.out HCE.out (HF.out trivial)
 ·have hne : (c != 0) = true := by simpa using hz
  have hne2 : (c == 0) = false := by simpa using hz
  go_wp2_with fail
  try simp only [Exit.then]
  go_ret; exact ⟨rfl, H4.out.below⟩
theorem Rz (s : Ls) (ns : List Int) (w : World) (h : LawIn s ns w) (hrest : ∀ (V : World) (e0 e2 e3 e4 e5 e6 e7 e8 e9 ea eb ec ed ee ef eg eh ei ej ek el em en eo ep eq er es et eu ev ew ex ey ez eA eB eC eD eE eF eG eH eI eJ eK eL eM eN eO eP eQ eR eS eT eU eV eW eX eY eZ aa ab ac ad ae af ag ah ai aj ak al am an ao ap aq ar au av aw ax ay az aA aB aC aD aE aF aG aH aI aJ aK aL aM aN aO aP aQ aR aS aT aU aV aW aX aY aZ ba bb bc bd be bf bg bh bi bj bk bl bm bn bo bp bq br bs bt bu bv bw bx bz bA bB bC bD bE bF bG bH bI bJ bK bL bM bN bO bP bQ bR bS bT bU bV bW bX bY bZ ca cb cc cd ce cf cg ch ci cj ck cl cm cn co cp cq cr ct cu cv cw cx cy cz cA cB cC cD cE cF cG cH cI cJ cK cL cM cN : Value), LawW s w V → Bp s.strip ns = 0 → s.phrases.length ≤ 12 ∧ s.roles.length ≤ 70 ∧ s.dances.length ≤ 300 → (Ab 3 Qq).wp Try.prog (bodyPost Try.prog Try.f8 (fun e w' => e = .returned (.bool true) ∧ Below w.heap.size w w')) { tmps := #[e0, .pointer (some ⟨w.heap.size, 0, none⟩), e2, e3, e4, e5, e6, e7, e8, e9, ea, eb, ec, ed, ee, ef, eg, eh, ei, ej, ek, el, em, en, eo, ep, eq, er, es, et, eu, ev, ew, ex, ey, ez, eA, eB, eC, eD, eE, eF, eG, eH, eI, eJ, eK, eL, eM, eN, eO, eP, eQ, eR, eS, eT, eU, eV, eW, eX, eY, eZ, aa, ab, ac, ad, ae, af, ag, ah, ai, aj, ak, al, am, an, ao, ap, aq, ar, au, av, aw, ax, ay, az, aA, aB, aC, aD, aE, aF, aG, aH, aI, aJ, aK, aL, aM, aN, aO, aP, aQ, aR, aS, aT, aU, aV, aW, aX, aY, aZ, ba, bb, bc, bd, be, bf, bg, bh, bi, bj, bk, bl, bm, bn, bo, bp, bq, br, bs, bt, bu, bv, bw, bx, bz, bA, bB, bC, bD, bE, bF, bG, bH, bI, bJ, bK, bL, bM, bN, bO, bP, bQ, bR, bS, bT, bU, bV, bW, bX, bY, bZ, ca, cb, cc, cd, ce, cf, cg, ch, ci, cj, ck, cl, cm, cn, co, cp, cq, cr, ct, cu, cv, cw, cx, cy, cz, cA, cB, cC, cD, cE, cF, cG, cH, cI, cJ, cK, cL, cM, cN], defers := [] } V) : Calls Try.prog 8 #[s.val] w (fun e w' => e = .returned (.bool true) ∧ Below w.heap.size w w') := by
 obtain ⟨W1, hW1, h1⟩ : ∃ W1, w.alloc (.cells s.cells 30) = W1 ∧ LawW s w W1 := ⟨_, rfl, (Below.refl _ w).alloc (qn _) _, heap_alloc_new w _⟩; obtain ⟨cs, hcs⟩ : ∃ cs, s.cells = cs := ⟨_, rfl⟩; have hsv : s.val = .agg cs := by rw [← hcs]; rfl
 have hW1' : w.alloc (.cells cs 30) = W1 := by rw [← hcs]; exact hW1
 rw [hsv]; have HW1 := qh hW1'; have HCS := qh hcs; have HH := qh h; have HR := qh hrest; have H1 := qh h1; clear hcs hW1 hW1' hsv h1 h hrest; go_enter Try.func8, Try.ntmps8; change Code.wp Try.prog (.seq Rp (Ab 1 Qq)) _ _ _; refine Ac (fun K hK => ?_); have HK := qh hK; clear hK
 conv => arg 2; whnf
 go_wp2_with fail; refine HK.out _ _ ?_; clear HK K; rw [HW1.out]; rw [RA]; refine Ac (fun K hK => ?_); have HK := qh hK; clear hK
 conv => arg 2; whnf
 have C := OK W1 (fun V hV => HH.out.env _ (Ag H1.out.below hV)); have HC := qh C; clear C
 go_wp2_with (go_at_call 25; refine HC.out.mono ?_; rintro e V ⟨rfl, hv⟩); refine HK.out _ _ ?_; have H2 := qh (H1.out.next hv); clear HK K HC H1 HW1 hv; exact RR s ns w V HH.out H2.out HR.out _ _ _ _ _ _ _ _ _ _ _ _ _ _ _ _ _ _ _ _ _ _ _ _ _ _ _ _ _ _ _ _ _ _ _ _ _ _ _ _ _ _ _ _ _ _ _ _ _ _ _ _ _ _ _ _ _ _ _ _ _ _ _ _ _ _ _ _ _ _ _ _ _ _ _ _ _ _ _ _ _ _ _ _ _ _ _ _ _ _ _ _ _ _ _ _ _ _ _ _ _ _ _ _ _ _ _ _ _ _ _ _ _ _ _ _ _ _ _ _ _ _ _ _ _ _ _ _ _ _ _ _ _ _ _ _ _ _ _ _ _ _ _ _ _ _ _ _ _ _ _ _ _ _ _ _ _ _ _ _ _ _ _ _ _ _ _ _ _ _ _ _ _ _ _ _ _ _ _ _ _ _ _ _ _ _ _ _ _ _ _ _ _ _ _ _ _ _ _ _ _
end
section
open Go
section
variable {kss : List (List Int)} {i : Int}
theorem QB {u : Int} {d : Nat} : ∀ {k : Nat}, AS kss i k u = some (d : Int) → d ≤ k → AS kss i d u = some (d : Int)
 | 0, h, _ => by cases h
 | k + 1, h, hk => by
  rcases Nat.lt_or_ge d (k + 1) with h3 | h3
  ·rcases E6 h with h4 | ⟨_, h4, _⟩
   ·exact QB h4 (by omega)
   ·omega
  ·rw [show d = k + 1 by omega] at h ⊢; exact h
theorem QX {x u : Int} {d : Nat} (h0 : 0 ≤ x) (h1 : x < kss.length) (hu : u ∈ kss.getD x.toNat []) (h : u = i ∧ d = 0 ∨ AS kss i kss.length u = some (d : Int)) : ∃ v : Int, AS kss i kss.length x = some v ∧ v ≤ d + 1 := by
 have key : ∀ m : Nat, m ≤ kss.length → Cm (kss.getD x.toNat []) i (m + 1 : Nat) (AS kss i m) = true → ∃ v : Int, AS kss i kss.length x = some v ∧ v ≤ m + 1 := by
  intro m hm hh; have h2 := Lj h0 h1 hh
  cases hg : AS kss i (m + 1) x with
  | none => rw [hg] at h2; cases h2
  | some v =>
   refine ⟨v, ?_, by have := (Dl hg).2; omega⟩; rw [← Lk]; exact Iy (by omega) hg
 rcases h with ⟨rfl, rfl⟩ | h
 ·refine key 0 (Nat.zero_le _) ?_
  unfold Cm; rw [List.any_eq_true]; exact ⟨u, hu, by unfold De; simp⟩
 ·obtain ⟨hv1, hv2⟩ := Dl h
  have hd := QB h (by omega); refine key d (by omega) ?_; unfold Cm; rw [List.any_eq_true]; refine ⟨u, hu, ?_⟩; unfold De; rw [hd]; have e1 : decide (1 < ((d + 1 : Nat) : Int)) = true := decide_eq_true (by omega); have e2 : decide ((some (d : Int)) = some (((d + 1 : Nat) : Int) - 1)) = true := decide_eq_true (by congr 1; omega); rw [e1, e2]; simp
theorem QN {x : Int} {m : Nat} (h : AS kss i kss.length x = some ((m + 1 : Nat) : Int)) : (0 ≤ x ∧ x < kss.length) ∧ ∃ u ∈ kss.getD x.toNat [], (m = 0 ∧ u = i) ∨ (1 ≤ m ∧ AS kss i kss.length u = some (m : Int)) := by
 have hin := Mu h; refine ⟨hin, ?_⟩; obtain ⟨hv1, hv2⟩ := Dl h; have hl := QB h (by omega); rcases E6 hl with h2 | ⟨_, _, _, _, h2⟩
 ·have := Dl h2; omega
 ·unfold Cm at h2
  rw [List.any_eq_true] at h2; obtain ⟨u, hu, h3⟩ := h2; refine ⟨u, hu, ?_⟩; unfold De at h3; rw [Bool.or_eq_true, Bool.and_eq_true, Bool.and_eq_true] at h3; rcases h3 with ⟨h4, h5⟩ | ⟨h4, h5⟩
  ·have := of_decide_eq_true h4
   exact Or.inl ⟨by omega, of_decide_eq_true h5⟩
  ·have := of_decide_eq_true h4
   have h6 := of_decide_eq_true h5
   right
   refine ⟨by omega, ?_⟩; have : AS kss i m u = some (m : Int) := by rw [h6]; congr 1; omega
   exact Iy (by omega) this
end
theorem QV {kss : List (List Int)} {i : Int} : ∀ (left : Nat) (x : Int), AS kss i kss.length x = some ((left + 1 : Nat) : Int) →
  (D9 kss (AS kss i kss.length) kss.length left x).length = left ∧ ∀ (a : Nat) (p : Int), (x :: D9 kss (AS kss i kss.length) kss.length left x)[a]? = some p → AS kss i kss.length p = some ((left + 1 - a : Nat) : Int) ∧ ∀ q, (x :: D9 kss (AS kss i kss.length) kss.length left x)[a + 1]? = some q → q ∈ kss.getD p.toNat []
 | 0, x, h => by
  refine ⟨rfl, fun a p hp => ?_⟩
  cases a with
  | zero => simp at hp; subst hp; exact ⟨h, fun q hq => by simp [D9] at hq⟩
  | succ a => simp [D9] at hp
 | left + 1, x, h => by
  obtain ⟨⟨hx0, hx1⟩, u, hu, h2⟩ := QN h
  have hfu : AS kss i kss.length u = some ((left + 1 : Nat) : Int) := by
   rcases h2 with ⟨h3, _⟩ | ⟨_, h3⟩
   ·omega
   ·exact h3
  obtain ⟨hu0, hu1⟩ := Mu hfu
  have hon : onB kss (AS kss i kss.length) x (left + 1 : Nat) u.toNat = true := by
   unfold onB; rw [show ((u.toNat : Nat) : Int) = u by omega, hfu, decide_eq_true hu]; simp
  obtain ⟨k, hk⟩ : ∃ k, CS kss (AS kss i kss.length) x (left + 1 : Nat) kss.length = some k := by
   cases hp : CS kss (AS kss i kss.length) x (left + 1 : Nat) kss.length with
   | some k => exact ⟨k, rfl⟩
   | none =>
    unfold CS at hp; rw [List.find?_eq_none] at hp; exact absurd hon (hp u.toNat (by simp; omega))
  have hk1 : (k : Int) ∈ kss.getD x.toNat [] ∧ AS kss i kss.length k = some ((left + 1 : Nat) : Int) := by
   have := hk; unfold CS at this; have h3 := List.find?_some this; unfold onB at h3; rw [Bool.and_eq_true] at h3; refine ⟨of_decide_eq_true h3.1, ?_⟩; have h4 := of_decide_eq_true h3.2
   cases hg : AS kss i kss.length k with
   | none => rw [hg] at h4; simp at h4; omega
   | some v => rw [hg] at h4; simp at h4; rw [h4]; rfl
  have ih := QV left (k : Int) hk1.2
  have e : D9 kss (AS kss i kss.length) kss.length (left + 1) x = (k : Int) :: D9 kss (AS kss i kss.length) kss.length left k := by
   conv => lhs; unfold D9
   rw [hk]
  rw [e]; refine ⟨by rw [List.length_cons, ih.1], fun a p hp => ?_⟩
  cases a with
  | zero =>
   simp at hp; subst hp; exact ⟨h, fun q hq => by simp at hq; subst hq; exact hk1.1⟩
  | succ a =>
   rw [List.getElem?_cons_succ] at hp; obtain ⟨h5, h6⟩ := ih.2 a p hp; refine ⟨by rw [h5]; congr 2; omega, fun q hq => h6 q (by rwa [List.getElem?_cons_succ] at hq)⟩
theorem Qw {kss : List (List Int)} (hne : Bf kss ≠ []) : ∃ i : Nat, i < kss.length ∧ (Bf kss)[0]? = some (i : Int) ∧ 1 ≤ (Bf kss).length ∧
  (∀ (a : Nat) (p : Int), (Bf kss)[a]? = some p → (i : Int) ≤ p ∧ p < kss.length ∧ (0 < a → p ≠ i)) ∧
  ∀ (a b : Nat) (p q : Int), (Bf kss)[a]? = some p → (Bf kss)[b]? = some q → (b = (a + 1) % (Bf kss).length → q ∈ kss.getD p.toNat []) ∧ (q ∈ kss.getD p.toNat [] → b ≤ a + 1 ∧ (b = 0 → a + 1 = (Bf kss).length)) := by
 cases hf : (List.range kss.length).find? (CG kss) with
 | none => exact absurd (by unfold Bf; rw [hf]) hne
 | some i =>
 have hi : i < kss.length := by
  have := List.mem_of_find?_eq_some hf; simpa using this
 have hra := List.find?_some hf
 have hmin : ∀ j, j < i → CG kss j = false := fun j hj => by
  have := (List.find?_range_eq_some.1 hf).2.2 j hj; simpa using this
 obtain ⟨L, hL⟩ : ∃ L : Nat, AS kss i kss.length i = some ((L + 1 : Nat) : Int) := by
  unfold CG at hra
  cases hg : AS kss i kss.length i with
  | none => rw [hg] at hra; cases hra
  | some v =>
   have := Dl hg; exact ⟨(v - 1).toNat, by congr 1; omega⟩
 have hr := IL hi hmin hL; obtain ⟨hw1, hw2⟩ := QV L (i : Int) hL; rw [← hr] at hw2; have hlen : (Bf kss).length = L + 1 := by rw [hr, List.length_cons, hw1]
 have hlt : ∀ (a : Nat) (p : Int), (Bf kss)[a]? = some p → a < L + 1 := fun a p hp => by
  have := (ql.1 hp).1; rw [hlen] at this; exact this
 have h0 : (Bf kss)[0]? = some (i : Int) := by rw [hr]; rfl
 have hget : ∀ a, a < L + 1 → ∃ p, (Bf kss)[a]? = some p := fun a ha => ⟨_, qg (by rw [hlen]; exact ha)⟩
 have hrange : ∀ (a : Nat) (p : Int), (Bf kss)[a]? = some p → 0 ≤ p ∧ p < kss.length := fun a p hp => Mu (hw2 a p hp).1
 have hlast : ∀ p, (Bf kss)[L]? = some p → (i : Int) ∈ kss.getD p.toNat [] := fun p hp => by
  have h1 := (hw2 L p hp).1; rw [show L + 1 - L = 0 + 1 by omega] at h1; obtain ⟨_, u, hu, h2⟩ := QN h1; rcases h2 with ⟨_, rfl⟩ | ⟨h3, _⟩
  ·exact hu
  ·omega
 have huse : ∀ (a : Nat) (p q : Int), (Bf kss)[a]? = some p → (Bf kss)[a + 1]? = some q → q ∈ kss.getD p.toNat [] := fun a p q hp hq => (hw2 a p hp).2 q hq
 -- each of them lies on a ring
 have hon : ∀ (a : Nat) (p : Int), (Bf kss)[a]? = some p → (AS kss p kss.length p).isSome = true := fun a p hp => by
  have step : ∀ (b : Nat) (x y : Int), (Bf kss)[b]? = some x → (Bf kss)[b + 1]? = some y → (y = p ∨ (AS kss p kss.length y).isSome = true) → (AS kss p kss.length x).isSome = true := fun b x y hx hy h => by
   obtain ⟨x0, x1⟩ := hrange b x hx; exact Ha x0 x1 (huse b x y hx hy) h
  -- down from p to the first one
  have hdown : ∀ (c b : Nat), b + c = a → ∀ x, (Bf kss)[b]? = some x → (x = p ∨ (AS kss p kss.length x).isSome = true) := by
   intro c
   induction c with
   | zero =>
    intro b hb x hx; rw [show b = a by omega, hp] at hx; cases hx; exact Or.inl rfl
   | succ c ih =>
    intro b hb x hx; obtain ⟨y, hy⟩ := hget (b + 1) (by have := hlt a p hp; omega); exact Or.inr (step b x y hx hy (ih (b + 1) (by omega) y hy))
  have hfirst := hdown a 0 (by omega) i h0
  -- the last one uses the first
  obtain ⟨z, hz⟩ := hget L (by omega)
  have hzz : (AS kss p kss.length z).isSome = true := by
   obtain ⟨z0, z1⟩ := hrange L z hz; exact Ha z0 z1 (hlast z hz) hfirst
  have hup : ∀ (c b : Nat), b + c = L → ∀ x, (Bf kss)[b]? = some x → (AS kss p kss.length x).isSome = true := by
   intro c
   induction c with
   | zero =>
    intro b hb x hx; rw [show b = L by omega, hz] at hx; cases hx; exact hzz
   | succ c ih =>
    intro b hb x hx; obtain ⟨y, hy⟩ := hget (b + 1) (by omega); exact step b x y hx hy (Or.inr (ih (b + 1) (by omega) y hy))
  exact hup (L - a) a (by have := hlt a p hp; omega) p hp
 refine ⟨i, hi, h0, by rw [hlen]; omega, fun a p hp => ?_, fun a b p q hp hq => ?_⟩
 ·obtain ⟨p0, p1⟩ := hrange a p hp
  refine ⟨?_, p1, fun ha e => ?_⟩
  ·rcases Int.lt_or_le p i with h | h
   ·obtain ⟨j, rfl⟩ : ∃ j : Nat, p = j := ⟨p.toNat, by omega⟩
    have h1 := hmin j (by omega); unfold CG at h1; have h2 := hon a j hp; rw [h1] at h2; cases h2
   ·exact h
  ·subst e
   have h1 := (hw2 a i hp).1; rw [hL] at h1; have := hlt a _ hp; simp only [Option.some.injEq] at h1; omega
 ·have ha := hlt a p hp
  have hb := hlt b q hq; obtain ⟨p0, p1⟩ := hrange a p hp; refine ⟨fun e => ?_, fun hm => ?_⟩
  ·rw [hlen] at e
   rcases Nat.lt_or_ge (a + 1) (L + 1) with h | h
   ·rw [Nat.mod_eq_of_lt h] at e
    subst e; exact huse a p q hp hq
   ·have e2 : a = L := by omega
    subst e2; rw [Nat.mod_self] at e; subst e; rw [h0] at hq; cases hq; exact hlast p hp
  ·have h1 := (hw2 a p hp).1
   have h2 := (hw2 b q hq).1; obtain ⟨v, hv, hvl⟩ := QX p0 p1 hm (Or.inr h2); rw [h1] at hv; simp only [Option.some.injEq] at hv; refine ⟨by omega, fun e => ?_⟩; subst e; rw [h0] at hq; cases hq; obtain ⟨v2, hv2, hvl2⟩ := QX p0 p1 hm (Or.inl ⟨rfl, rfl⟩); rw [h1] at hv2; simp only [Option.some.injEq] at hv2; rw [hlen]; omega
theorem Rn {kss : List (List Int)} (hne : Bf kss ≠ []) {b : Nat} (hb : kss.length ≤ b) : (Bf kss).length ≤ b := by
 cases hf : (List.range kss.length).find? (CG kss) with
 | none => exact absurd (by unfold Bf; rw [hf]) hne
 | some i =>
 have hi : i < kss.length := by
  have := List.mem_of_find?_eq_some hf; simpa using this
 have hra := List.find?_some hf
 have hmin : ∀ j, j < i → CG kss j = false := fun j hj => by
  have := (List.find?_range_eq_some.1 hf).2.2 j hj; simpa using this
 obtain ⟨L, hL⟩ : ∃ L : Nat, AS kss i kss.length i = some ((L + 1 : Nat) : Int) := by
  unfold CG at hra
  cases hg : AS kss i kss.length i with
  | none => rw [hg] at hra; cases hra
  | some v =>
   have := Dl hg; exact ⟨(v - 1).toNat, by congr 1; omega⟩
 rw [IL hi hmin hL, List.length_cons, (QV L (i : Int) hL).1]; have := Dl hL; omega
end
section
open Go Go.RowKit Go.Deep
def R1 (xs : List Int) (w : World) (e : Ending) (w' : World) : Prop := ∃ v, e = .returned v ∧ w'.ownsRow w.heap.size 3 1 v xs.length (G7 xs) ∧ Below w.heap.size w w'
theorem Its.uses_len (f : Nm → Int) : ∀ t : Its, (t.uses f).length ≤ t.size
 | .nil => qn _
 | .cons k n un its ms r => by
  have h1 := its.uses_len f; have h2 := r.uses_len f; simp only [Its.uses, Its.size, List.length_append]
  split <;> simp <;> omega
theorem Lt.size_strip : ∀ T : Lt, T.strip.size = T.size
 | .nil => rfl
 | .cons _ _ _ _ _ its _ _ _ r => by simp [Lt.strip, Its.size, Lt.size, its.size_strip, r.size_strip]
theorem Ry (w : World) (B : Nat) : w.ownsRow B 3 1 (.slice none 0 0) 0 (G7 []) := ⟨rfl, Or.inl ⟨rfl, rfl⟩⟩
theorem QG (a b : List Int) : G7 (a ++ b) = G7 a ++ G7 b := by simp [G7]
theorem QC (l : List Int) : ∀ u ∈ G7 l, u.oneCell' = true := fun u hu => by
 obtain ⟨x, _, rfl⟩ := List.mem_map.1 hu
 rfl
structure UsdRow (xs : List Int) (W V2 : World) (v : Value) (us : List Int) (ao : Option Addr) (m : Nat) : Prop where
 len : m = xs.length
 own : V2.ownsRow W.heap.size 3 1 v us.length (G7 us)
 none_ : ao = none → m = 0
 cells : ∀ ad, ao = some ad → ∀ j u, (G7 xs)[j]? = some u → V2.cell? (ad.add j) = some u
 below : Below W.heap.size W V2
theorem R0 {xs us : List Int} {W V V2 : World} {v v2 : Value} (hB : Below W.heap.size W V) (ho : V.ownsRow W.heap.size 3 1 v us.length (G7 us)) (ho2 : V2.ownsRow V.heap.size 3 1 v2 xs.length (G7 xs)) (hv2 : Below V.heap.size V V2) : ∃ ao m c, v2 = .slice ao m c ∧ UsdRow xs W V2 v us ao m := by
 obtain ⟨ao, c, rfl, hform, hnone, hform2, _, hcl⟩ := QM (by omega) ho2; refine ⟨ao, _, c, rfl, rfl, JU ho hv2, hnone, fun ad ha j u hj => ?_, Ag hB hv2⟩; rcases hform2 with h2 | h2
 ·rw [h2] at ha; cases ha
 ·rw [h2] at ha
  cases ha; have := hcl j u hj; rw [AX]; exact this
theorem UsdRow.app {xs us : List Int} {W V2 V3 : World} {v v3 : Value} {ao : Option Addr} {m : Nat} (h : UsdRow xs W V2 v us ao m) (ho : V3.ownsRow W.heap.size 3 1 v3 (us.length + m) (G7 us ++ G7 xs)) (hg : V2.grownBy V3 v.ownBlock) : V3.ownsRow W.heap.size 3 1 v3 (us ++ xs).length (G7 (us ++ xs)) ∧ Below W.heap.size W V3 :=
 ⟨by rw [List.length_append, QG, ← h.len]; exact ho, h.below.grown hg h.below.size fun k hk => ML h.own hk⟩
theorem Rk {W : World} {b : Nat} {u : Int} (h : W.cell? ⟨b, 0, none⟩ = some (int i64 u)) : ∀ ad, (some ⟨b, 0, none⟩ : Option Addr) = some ad → ∀ j v, (G7 [u])[j]? = some v → W.cell? (ad.add j) = some v := by
 rintro ad e j v hj; cases e
 cases j with
 | zero => simp [G7] at hj; subst hj; simpa [Addr.add] using h
 | succ j => simp [G7] at hj
theorem Rh {w w' : World} {a : Addr} {v : Value} {o : Option Nat} (h : w.cell? a = some v) (hg : w.grownBy w' o) (hne : ∀ k, o = some k → a.block ≠ k) : w'.cell? a = some v :=
 (World.cell?_of_block (hg.block a.block (BT h) (fun e => hne _ e.symm rfl))).trans h
theorem QI (f : Nm → Int) (T : Lt) (hsz0 : T.size ≤ 100000)
  (hI : ∀ T' : Lt, T'.size < T.size → ∀ (ia : Option Addr) (ic : Nat) (W : World), (T'.len = 0 ∨ ia = some ⟨blk ia, off ia, none⟩) → T'.len ≤ maxLen → T'.At W (blk ia) (off ia) → NumAt f W (T'.refsL (blk ia) (off ia)) → Calls Try.prog 28 #[.slice ia T'.len ic] W (R1 (T'.strip.uses f) W))
  (ia : Option Addr) (ic : Nat) (W : World) (hf : T.len = 0 ∨ ia = some ⟨blk ia, off ia, none⟩) (hl : T.len ≤ maxLen) (hT : T.At W (blk ia) (off ia)) (hU : NumAt f W (T.refsL (blk ia) (off ia))) : Calls Try.prog 28 #[.slice ia T.len ic] W (R1 (T.strip.uses f) W) := by
 obtain ⟨i0, hi3, hz0, hz1, hz2⟩ := info_parts Ob; have I3 := qh (And.intro hi3 (And.intro hz0 (And.intro hz1 hz2))); have HI := qh hI; have HT := qh hT; have HF := qh hf; have HU := qh hU; have HUL : Hid ((T.strip.uses f).length ≤ 100000) := qh (Nat.le_trans (T.strip.uses_len f) (by rw [T.size_strip]; exact hsz0)); clear hI hT hf hU hi3 hz0 hz1 hz2 hsz0; generalize hm : T.len = q at *; have HM := qh hm; clear hm; unfold maxLen at hl; go_enter Try.func28, Try.ntmps28; go_wp2_with fail; go_loopw [2, 7] (fun ov iv wr => ∃ (j : Nat) (R : Lt) (us : List Int) (v : Value), ov = v ∧ iv = int i64 j ∧ j + R.len = q ∧ Hid (R.size ≤ T.size) ∧ Hid (T.strip.uses f = us ++ R.strip.uses f) ∧ Hid (R.At W (blk ia) (off ia + j * 6)) ∧ Hid (NumAt f W (R.refsL (blk ia) (off ia + j * 6))) ∧ Hid (Below W.heap.size W wr) ∧ Hid (wr.ownsRow W.heap.size 3 1 v us.length (G7 us))) (fun _ iv _ => q + 1 - (intOf iv).toNat)
 case atStart => exact ⟨0, T, [], _, rfl, rfl, by rw [HM.out]; omega, qh (qn _), qh rfl, by simpa [Hid] using HT.out, by simpa [Hid] using HU.out, qh (Below.refl _ _), qh (Ry _ _)⟩
 case round =>
  obtain ⟨j, R, us, v, rfl, rfl, hin, hsz, hus, hR, hN, hB, hO⟩ := hrel
  cases R with
  | nil =>
   simp only [Lt.len, Nat.add_zero] at hin; subst hin; go_wp2_with fail; go_ret; refine ⟨_, rfl, ?_, hB.out⟩; have e : T.strip.uses f = us := by rw [hus.out]; simp [Lt.strip, Its.uses]
   rw [e]; exact hO.out
  | cons kk nn un ja jc its ma mc ms r =>
   simp only [Lt.len] at hin; have hi : (j : Int) < (q : Int) := by omega
   have e := HF.out.resolve_left (by omega); obtain ⟨⟨u, g3', hu⟩, _, k2, k3⟩ := hN.out.mov; obtain ⟨⟨g0', g1', g2', g4', g5'⟩, _, ⟨i1, i2, i3⟩, hr⟩ := hR.out; have g0 := Ae hB.out g0'; have g1 := Ae hB.out g1'; have g2 := Ae hB.out g2'; have g3 := Ae hB.out g3'; have g4 := Ae hB.out g4'; have g5 := Ae hB.out g5'; have hlt : its.size < T.size := by have := hsz.out; simp only [Lt.size] at this; omega
   have hszr : r.size ≤ T.size := by have := hsz.out; simp only [Lt.size] at this; omega
   obtain ⟨W2, hW2, gW2, bW2, sW2⟩ := Ai wr #[int i64 kk, int i64 nn, sv un, int i64 u, .slice ja its.len jc, .slice ma ms.length mc] 78; have C := fun (V : World) (hv : Below W.heap.size W V) => HI.out its hlt ja jc V i1 i2 (i3.below hv) (k2.below hv)
   have hsplit : T.strip.uses f = us ++ ((if kk = 4 then [f un] else []) ++ (its.strip.uses f ++ r.strip.uses f)) := hus.out; have hbw := Ag hB.out bW2; have HC := qh C
   have HR : Hid (r.At W (blk ia) (off ia + (j + 1) * 6) ∧ NumAt f W (r.refsL (blk ia) (off ia + (j + 1) * 6))) := qh (by
    rw [show off ia + (j + 1) * 6 = off ia + j * 6 + 6 by omega]
    exact ⟨hr, k3⟩)
   have HSZ := qh hszr; have HUU := qh hu; have HSP := qh hsplit; have HBW := qh hbw; have HOW := qh (JU hO.out bW2); have HLT := qh (fun k hk => (IE hO.out (g := k) hk).2); have hsw := hbw.size; have y0 := Aa gW2 0 rfl; have y3 := Aa gW2 3 rfl; have y4 := Aa gW2 4 rfl; clear C gW2 sW2 bW2 hbw i1 i2 i3 hr hlt k2 k3 hR hN hus hsz hszr hsplit hu g0' g1' g2' g3' g4' g5' hO hB; generalize hbb : blk ia = bb at *; generalize hoo : off ia = oo at *; subst e; clear hbb hoo HF
   have hlen : ∀ us1 : List Int, T.strip.uses f = us1 ++ (its.strip.uses f ++ r.strip.uses f) → us1.length + (its.strip.uses f).length ≤ 100000 := fun us1 h1 => by
    have h3 := HUL.out; have := congrArg List.length h1; rw [List.length_append, List.length_append] at this; omega
   have HLEN := qh hlen; clear hlen
   have fin : ∀ (us1 : List Int) (v3 : Value) (V3 : World), T.strip.uses f = us1 ++ (its.strip.uses f ++ r.strip.uses f) → V3.ownsRow W.heap.size 3 1 v3 (us1 ++ its.strip.uses f).length (G7 (us1 ++ its.strip.uses f)) ∧ Below W.heap.size W V3 → ∃ (j' : Nat) (R : Lt) (us' : List Int) (v' : Value), v3 = v' ∧ Value.int .i64 ((j : Int) + 1) = int i64 j' ∧ j' + R.len = q ∧ Hid (R.size ≤ T.size) ∧ Hid (T.strip.uses f = us' ++ R.strip.uses f) ∧ Hid (R.At W bb (oo + j' * 6)) ∧ Hid (NumAt f W (R.refsL bb (oo + j' * 6))) ∧ Hid (Below W.heap.size W V3) ∧ Hid (V3.ownsRow W.heap.size 3 1 v' us'.length (G7 us')) := fun us1 v3 V3 h1 h2 =>
    ⟨j + 1, r, us1 ++ its.strip.uses f, v3, rfl, rfl, by omega, HSZ, qh (by rw [h1, List.append_assoc]), qh HR.out.1, qh HR.out.2, qh h2.2, qh h2.1⟩
   have FIN := qh fin; clear fin HR HSZ; by_cases h4 : kk = 4
   ·subst h4
    obtain ⟨W3, hW3, b3, z3, k3⟩ : ∃ W3, W2.alloc (.cells #[int i64 u] 3) = W3 ∧ Below W2.heap.size W2 W3 ∧ W2.heap.size < W3.heap.size ∧ W3.cell? ⟨W2.heap.size, 0, none⟩ = some (int i64 u) := ⟨_, rfl, (Below.refl _ _).alloc (qn _) _, by simp, Aa (heap_alloc_new W2 _) 0 rfl⟩; have hso : T.strip.uses f = (us ++ [u]) ++ (its.strip.uses f ++ r.strip.uses f) := by rw [HSP.out, if_pos rfl, ← HUU.out rfl, List.append_assoc]
    have hl4 : us.length + 1 ≤ 100000 := by
     have := HLEN.out _ hso; simp at this; omega
    have HW3 := qh hW3; have HB3 := qh (Ag HBW.out b3); have HO3 := qh (JU HOW.out b3); have HK3 := qh k3; have HSO := qh hso; have HY4 := qh (Ae b3 y4); have hs3 := (Ag HBW.out b3).size; clear hW3 b3 z3 k3 hso; have hl5 := HLEN.out _ HSO.out; have HLE : Hid ((us ++ [u]).length = us.length + 1) := qh (by simp)
    go_wp2_with (first | (at_builtin; rw [HW3.out]; refine Jq rfl _ _ 63 rfl W.heap.size 3 i0 _ 1 8 Try.underlying63 I3.out.1 I3.out.2.1 I3.out.2.2.1 I3.out.2.2.2 rfl (by decide) _ us.length (G7 us) rfl HO3.out (some ⟨W2.heap.size, 0, none⟩) 1 1 (G7 [u]) rfl rfl (fun h => by cases h) (Rk HK3.out) (QC _) (by unfold maxLen; omega) (by omega) hs3 ?_; intro v3 V3 ho3 hg3 _; have HO4 : Hid (V3.ownsRow W.heap.size 3 1 v3 (us ++ [u]).length (G7 (us ++ [u]))) := qh (by rw [HLE.out, QG]; exact ho3); have HB4 := qh (HB3.out.grown hg3 hs3 (fun k hk => ML HO3.out hk)); have y5 := Rh HY4.out hg3 (fun k hk => Nat.ne_of_gt (HLT.out k hk)); clear ho3 hg3) | (go_at_call 28; go_loud (refine (HC.out _ HB4.out).mono ?_; rintro e V2 ⟨v2, rfl, ho2, hv2⟩; obtain ⟨ao, m, c, rfl, hrow⟩ := R0 HB4.out HO4.out ho2 hv2; have HROW := qh hrow; have hsz2 := hrow.below.size; clear hrow ho2 hv2)) | (refine Jq rfl _ _ 63 rfl W.heap.size 3 i0 _ 1 8 Try.underlying63 I3.out.1 I3.out.2.1 I3.out.2.2.1 I3.out.2.2.2 rfl (by decide) _ (us ++ [u]).length (G7 (us ++ [u])) rfl HROW.out.own ao m c (G7 (its.strip.uses f)) rfl (by rw [HROW.out.len]; simp [G7]) HROW.out.none_ HROW.out.cells (QC _) (by rw [HROW.out.len]; unfold maxLen; omega) (by rw [HROW.out.len]; omega) hsz2 ?_; intro v3 V3 ho3 hg3 _; have HO5 := qh (HROW.out.app ho3 hg3); clear ho3 hg3)); go_roundw
    case rel => exact FIN.out (us ++ [u]) _ _ HSO.out HO5.out
    case measure => simp [intOf]; omega
   ·have HSO : Hid (T.strip.uses f = us ++ (its.strip.uses f ++ r.strip.uses f)) := qh (by rw [HSP.out, if_neg h4]; rfl)
    have hl5 := HLEN.out _ HSO.out
    go_wp2_with (first | (go_at_call 28; go_loud (refine (HC.out _ HBW.out).mono ?_; rintro e V2 ⟨v2, rfl, ho2, hv2⟩; obtain ⟨ao, m, c, rfl, hrow⟩ := R0 HBW.out HOW.out ho2 hv2; have HROW := qh hrow; have hsz2 := hrow.below.size; clear hrow ho2 hv2)) | (refine Jq rfl _ _ 63 rfl W.heap.size 3 i0 _ 1 8 Try.underlying63 I3.out.1 I3.out.2.1 I3.out.2.2.1 I3.out.2.2.2 rfl (by decide) _ us.length (G7 us) rfl HROW.out.own ao m c (G7 (its.strip.uses f)) rfl (by rw [HROW.out.len]; simp [G7]) HROW.out.none_ HROW.out.cells (QC _) (by rw [HROW.out.len]; unfold maxLen; omega) (by rw [HROW.out.len]; omega) hsz2 ?_; intro v3 V3 ho3 hg3 _; have HO3 := qh (HROW.out.app ho3 hg3); clear ho3 hg3)); go_roundw
    case rel => exact FIN.out us v3 _ HSO.out HO3.out
    case measure => simp [intOf]; omega
theorem QO (f : Nm → Int) : ∀ (z : Nat) (T : Lt), T.size ≤ z → z ≤ 100000 → ∀ (ia : Option Addr) (ic : Nat) (W : World), (T.len = 0 ∨ ia = some ⟨blk ia, off ia, none⟩) → T.len ≤ maxLen → T.At W (blk ia) (off ia) → NumAt f W (T.refsL (blk ia) (off ia)) → Calls Try.prog 28 #[.slice ia T.len ic] W (R1 (T.strip.uses f) W) := by
 intro z
 induction z with
 | zero => intro T hs hz; exact QI f T (by omega) (fun T' hlt => absurd hlt (by omega))
 | succ z ih => intro T hs hz; exact QI f T (by omega) (fun T' hlt => ih T' (by omega) (by omega))
end
section
open Go Go.RowKit Go.Deep
def gb (l : List Bool) (j : Nat) : Bool := l.getD j false
def Qt (D : List Bool) : Nat := (D.filter (fun b => !b)).length
def Qs (D : List Bool) (us : List Int) : Bool := us.all fun k => gb D k.toNat
theorem QD : ∀ {D : List Bool} {i : Nat}, D[i]? = some false → Qt (D.set i true) + 1 = Qt D
 | [], i, h => by simp at h
 | b :: D, 0, h => by simp at h; subst h; simp [Qt]
 | b :: D, i + 1, h => by
  have := QD (D := D) (i := i) (by simpa using h); unfold Qt at this ⊢; rw [List.set_cons_succ]; cases b <;> simp at this ⊢ <;> omega
theorem R2 {D : List Bool} (h : ∀ j, j < D.length → gb D j = true) : Qt D = 0 := by
 unfold Qt; rw [List.length_eq_zero_iff, List.filter_eq_nil_iff]; intro b hb; obtain ⟨j, hj, rfl⟩ := List.getElem_of_mem hb; have := h j hj; unfold gb at this; rw [List.getD_eq_getElem?_getD, qg hj, Option.getD_some] at this; rw [this]; decide
theorem Rf {D : List Bool} {j : Nat} (hj : j < D.length) (h : gb D j = false) : 0 < Qt D := by
 unfold Qt; refine List.length_pos_of_mem (a := false) ?_; rw [List.mem_filter]; unfold gb at h; rw [List.getD_eq_getElem?_getD, qg hj, Option.getD_some] at h; exact ⟨h ▸ List.getElem_mem hj, by decide⟩
theorem QW (D : List Bool) : Qt D ≤ D.length := List.length_filter_le _ _
theorem QS {D : List Bool} {j : Nat} (hj : j < D.length) : D[j]? = some (gb D j) := by
 unfold gb; rw [List.getD_eq_getElem?_getD, qg hj, Option.getD_some]
theorem QL {D : List Bool} {i j : Nat} (h : i ≠ j) : gb (D.set i true) j = gb D j := by
 unfold gb; rw [List.getD_eq_getElem?_getD, List.getElem?_set, if_neg h, ← List.getD_eq_getElem?_getD]
def Ls.useL (s : Ls) (f : Nm → Int) : List (List Int) := s.phrases.map fun p => p.its.strip.uses f
theorem QA {s : Ls} {f : Nm → Int} {j : Nat} {p : Ph} (hp : s.phrases[j]? = some p) (u : Int) : u ∈ (s.nexts f).getD j [] ↔ u ∈ p.its.strip.uses f := by
 rw [JT hp, Hj]; simp
theorem QQ {s : Ls} {f : Nm → Int} {D : List Bool} (hr : Bf (s.nexts f) = []) (hu : KD s.itsL f) (hb : ∀ (j : Nat) (p : Ph), s.phrases[j]? = some p → gb D j = true ∨ Qs D (p.its.strip.uses f) = false) : ∀ j, j < s.phrases.length → gb D j = true := by
 have hk : (s.nexts f).length = s.phrases.length := by simp [Ls.nexts]
 have hl : s.itsL.length = s.phrases.length := by simp [Ls.itsL]
 have key : ∀ (z j : Nat), D7 (s.nexts f) j ≤ z → j < s.phrases.length → gb D j = true := by
  intro z
  induction z with
  | zero =>
   intro j hz hj; obtain ⟨p, hp⟩ : ∃ p, s.phrases[j]? = some p := ⟨_, qg hj⟩; rcases hb j p hp with h | h
   ·exact h
   ·unfold Qs at h
    rw [List.all_eq_false] at h; obtain ⟨u, hum, hun⟩ := h; obtain ⟨k, rfl, hk2⟩ := hu p.its.strip (List.mem_map.2 ⟨p, List.mem_of_getElem? hp, rfl⟩) u hum; have := K6 hr (j := j) (u := k) (by rw [hk]; exact hj) (by rw [hk, ← hl]; exact hk2) ((QA hp _).2 hum); omega
  | succ z ih =>
   intro j hz hj; obtain ⟨p, hp⟩ : ∃ p, s.phrases[j]? = some p := ⟨_, qg hj⟩; rcases hb j p hp with h | h
   ·exact h
   ·unfold Qs at h
    rw [List.all_eq_false] at h; obtain ⟨u, hum, hun⟩ := h; obtain ⟨k, rfl, hk2⟩ := hu p.its.strip (List.mem_map.2 ⟨p, List.mem_of_getElem? hp, rfl⟩) u hum; have h1 := K6 hr (j := j) (u := k) (by rw [hk]; exact hj) (by rw [hk, ← hl]; exact hk2) ((QA hp _).2 hum); rw [Int.toNat_natCast, ih k (by omega) (by rw [← hl]; exact hk2)] at hun; exact absurd rfl hun
 exact fun j hj => key _ j (qn _) hj
theorem QU {s : Ls} {f : Nm → Int} {D : List Bool} (hD : ∀ p ∈ Bf (s.nexts f), gb D p.toNat = false) {j : Nat} {p : Ph} (hp : s.phrases[j]? = some p) (hj : (j : Int) ∈ Bf (s.nexts f)) : Qs D (p.its.strip.uses f) = false := by
 obtain ⟨i, hi, h0, hL, h1, h2⟩ := Qw (kss := s.nexts f) (fun e => by rw [e] at hj; cases hj); obtain ⟨a, ha⟩ := List.getElem?_of_mem hj; have hal := (ql.1 ha).1; obtain ⟨q, hq⟩ : ∃ q, (Bf (s.nexts f))[(a + 1) % (Bf (s.nexts f)).length]? = some q := ⟨_, qg (Nat.mod_lt _ (by omega))⟩; have hm := (h2 a _ j q ha hq).1 rfl; rw [Int.toNat_natCast, QA hp] at hm; unfold Qs; rw [List.all_eq_false]; exact ⟨q, hm, by rw [hD q (List.mem_of_getElem? hq)]; decide⟩
def QJ (l : List Bool) : List Value := l.map Value.bool
def RS (w : World) (g : Nat) (l : List Bool) : Prop := w.heap[g]? = some (.cells (QJ l).toArray 4 (0, 0))
theorem RQ : (Try.prog.info? 4).map (fun i => (i.zero, i.size, i.bytes)) = some (some (.bool false), 1, 1) := by kernel_rfl
theorem QT (m : Nat) (hm : m ≤ 1000) (w : World) : (Instr.makeSlice 66 (int i64 m) (int i64 m)).run Try.prog w = .ok (.slice (some ⟨w.heap.size, 0, none⟩) m m) (w.alloc (.cells (Array.replicate m (.bool false)) 4)) := by
 obtain ⟨i, h1, h2, h3, h4⟩ := info_parts RQ; have h := run_make (P := Try.prog) w 66 4 i (.bool false) Try.underlying66 h1 h2 .i64 .i64 m m (by omega) (Int.le_refl _) (by rw [h4]; omega) (by omega); rw [h, h3]; simp [Value.cells, Oh]
section
variable {w : World} {g : Nat} {bl : List Bool}
theorem RS.lt (h : RS w g bl) : g < w.heap.size := (qs.1 h).1
theorem RS.cell (h : RS w g bl) {j : Nat} (hj : j < bl.length) : w.cell? ⟨g, j, none⟩ = some (.bool (gb bl j)) := by
 refine Aa h j ?_; rw [List.getElem?_toArray]; unfold QJ; rw [List.getElem?_map, QS hj]; rfl
theorem RS.free (h : RS w g bl) (j : Nat) : w.frozen? ⟨g, j, none⟩ = false := by unfold RS at *; simp [World.frozen?, h]
theorem RS.below {w' : World} {B : Nat} (h : RS w g bl) (hb : Below B w w') (hB : g < B) : RS w' g bl := (hb.block _ hB).trans h
theorem RS.set (h : RS w g bl) (j : Nat) (x : Bool) : RS (w.setCell ⟨g, j, none⟩ (.bool x)) g (bl.set j x) := by
 unfold RS at h ⊢; rw [PZ h j _]; simp [QJ]
theorem RS.new (w : World) (m : Nat) : RS (w.alloc (.cells (Array.replicate m (.bool false)) 4)) w.heap.size (List.replicate m false) := by
 unfold RS; rw [heap_alloc_new w _]; simp [QJ]
end
theorem RP (m j : Nat) : gb (List.replicate m false) j = false := by
 unfold gb; rw [List.getD_eq_getElem?_getD, List.getElem?_replicate]
 split <;> rfl
end
section
open Go Go.RowKit Go.Deep
noncomputable def Qz : Code := match QK with
 | .seq _ (.block _ (.loop (.seq _ (.block _ c)))) => c
 | c => c
noncomputable def Qy : Code := match Qz with
 | .seq _ (.seq _ (.block _ (.loop (.seq _ (.seq _ (.seq (.block _ c) _)))))) => c
 | c => c
noncomputable def Rg : Code := match Qy with
 | .seq _ (.seq _ (.seq x _)) => x
 | c => c
theorem R3 : Qy = .seq (Qo Qy) (.seq (Qo (Qr Qy)) (.seq Rg (Qr (Qr (Qr Qy))))) := rfl
theorem QR {D : List Bool} {us : List Int} {j : Nat} {k : Nat} (h : us[j]? = some (k : Int)) : Qs D (us.take (j + 1)) = (Qs D (us.take j) && gb D k) := by
 unfold Qs; rw [List.take_add_one, h, List.all_append]; simp
theorem RO (p : Ph) (us : List Int) (G n B : Nat) (D : List Bool) (b0 : Bool) (W : World) (hB : W.cell? ⟨B, 1, none⟩ = some (.slice p.ia p.its.len p.ic)) (hD : RS W G D) (hl : D.length = n) (hus : ∀ u ∈ us, ∃ k : Nat, u = k ∧ k < n) (hC : Calls Try.prog 28 #[.slice p.ia p.its.len p.ic] W (R1 us W)) (hul : us.length ≤ 100000) (hn : n ≤ 100) (e0 e1 e2 e3 e4 e5 e7 e8 e9 ea eb ec ed ee ef eg eh ei ej ek el em en eo ep eq er es et eu ev ew ex ey ez eA eB eC eD eE eF eG eH eI eJ eK eL eM eN eO eP eQ eR eS eT eU eV eW eX eY eZ aa ab ac ad ae af ag ah ai aj ak al am an ap aq ar au av aw ax ay az aA aB aC aD aE aF aG aH aI aJ aK aL aM aN aO aP aQ aR aS aT aU aV aW aX aY aZ ba bc bd be bf bg bh bi bj bk bl bm bn bo bp bq br bs bt bu bv bw bx bz bA bB bC bD bE bF bG bH bI bJ bK bL bM bN bO bP bQ bR bS bT bU bV bW bX bY bZ ca cb cc cd ce cf cg ch ci cj ck cl cm cn co cp cq cr cs ct cu cv cw cx cy cz cA cB cC cD cE cF cG cH cI cJ cK cL cM : Value) (Q : Exit → Act → World → Prop)
  (hN : ∀ (V : World), Below W.heap.size W V → ∀ (cN cO cP cQ cR cS cT cU cV cW cX cY cZ da db dc dd de df dg dh di dj dk dl dm dn : Value), Q .normal { tmps := #[e0, e1, e2, e3, e4, e5, .slice (some ⟨G, 0, none⟩) n n, e7, e8, e9, .pointer (some ⟨B, 0, none⟩), .bool (b0 && Qs D us), ea, cN, ec, ed, ee, ef, eg, eh, ei, ej, ek, el, em, en, eo, ep, eq, er, es, et, eu, ev, ew, ex, ey, ez, eA, eB, eC, eD, eE, eF, eG, eH, eI, eJ, eK, eL, eM, eN, eO, eP, eQ, eR, eS, eT, eU, eV, cO, cP, cQ, cR, cS, cT, cU, cV, cW, cX, cY, cZ, da, db, dc, dd, de, df, dg, dh, di, dj, dk, dl, dm, dn, az, aA, aB, aC, aD, aE, aF, aG, aH, aI, aJ, aK, aL, aM, aN, aO, aP, aQ, aR, aS, aT, aU, aV, aW, aX, aY, aZ, ba, bc, bd, be, bf, bg, bh, bi, bj, bk, bl, bm, bn, bo, bp, bq, br, bs, bt, bu, bv, bw, bx, bz, bA, bB, bC, bD, bE, bF, bG, bH, bI, bJ, bK, bL, bM, bN, bO, bP, bQ, bR, bS, bT, bU, bV, bW, bX, bY, bZ, ca, cb, cc, cd, ce, cf, cg, ch, ci, cj, ck, cl, cm, cn, co, cp, cq, cr, cs, ct, cu, cv, cw, cx, cy, cz, cA, cB, cC, cD, cE, cF, cG, cH, cI, cJ, cK, cL, cM], defers := [] } V) :
  (Rg).wp Try.prog Q { tmps := #[e0, e1, e2, e3, e4, e5, .slice (some ⟨G, 0, none⟩) n n, e7, e8, e9, .pointer (some ⟨B, 0, none⟩), .bool b0, ea, eb, ec, ed, ee, ef, eg, eh, ei, ej, ek, el, em, en, eo, ep, eq, er, es, et, eu, ev, ew, ex, ey, ez, eA, eB, eC, eD, eE, eF, eG, eH, eI, eJ, eK, eL, eM, eN, eO, eP, eQ, eR, eS, eT, eU, eV, eW, eX, eY, eZ, aa, ab, ac, ad, ae, af, ag, ah, ai, aj, ak, al, am, an, ap, aq, ar, au, av, aw, ax, ay, az, aA, aB, aC, aD, aE, aF, aG, aH, aI, aJ, aK, aL, aM, aN, aO, aP, aQ, aR, aS, aT, aU, aV, aW, aX, aY, aZ, ba, bc, bd, be, bf, bg, bh, bi, bj, bk, bl, bm, bn, bo, bp, bq, br, bs, bt, bu, bv, bw, bx, bz, bA, bB, bC, bD, bE, bF, bG, bH, bI, bJ, bK, bL, bM, bN, bO, bP, bQ, bR, bS, bT, bU, bV, bW, bX, bY, bZ, ca, cb, cc, cd, ce, cf, cg, ch, ci, cj, ck, cl, cm, cn, co, cp, cq, cr, cs, ct, cu, cv, cw, cx, cy, cz, cA, cB, cC, cD, cE, cF, cG, cH, cI, cJ, cK, cL, cM], defers := [] } W := by
 have HD := qh hD; have HL := qh hl; have HUS := qh hus; have HC := qh hC; have HN := qh hN; obtain ⟨m, hm⟩ : ∃ m, us.length = m := ⟨_, rfl⟩; have HM := qh hm; rw [hm] at hul; clear hD hl hus hC hN hm
 conv => arg 2; whnf
 go_wp2_with (go_at_call 28; refine HC.out.mono ?_; rintro e V ⟨v, rfl, ho, hv⟩; rw [HM.out] at ho; obtain ⟨ao, c, rfl, hform, _, _, _, hcl⟩ := QM (by omega) ho; have HF := qh hform; have HCL := qh hcl; have HV := qh hv; clear ho hform hcl hv); go_loopw [11, 13, 64] (fun fv uv iv wr => ∃ j : Nat, iv = int i64 j ∧ fv = .bool (b0 && Qs D (us.take j)) ∧ j ≤ m ∧ wr = V) (fun _ _ iv _ => m + 1 - (intOf iv).toNat)
 case atStart => exact ⟨0, rfl, by simp [Qs], Nat.zero_le _, rfl⟩
 case round =>
  obtain ⟨j, rfl, rfl, hjm, rfl⟩ := hrel; by_cases hlt : j < m
  ·have hj : (j : Int) < (m : Int) := by omega
   obtain ⟨u, hu⟩ : ∃ u, us[j]? = some u := ⟨_, qg (by rw [HM.out]; exact hlt)⟩; obtain ⟨k, rfl, hkn⟩ := HUS.out u (List.mem_of_getElem? hu); obtain ⟨hao, _, _⟩ := HF.out.resolve_left (by omega); have hcu := HCL.out j (int i64 k) (by unfold G7; rw [List.getElem?_map, hu]; rfl); rw [Nat.zero_add] at hcu; have hcd := (HD.out.below HV.out HD.out.lt).cell (j := k) (by rw [HL.out]; exact hkn); have htk := QR (D := D) hu; have HTK := qh htk; generalize hbb : blk ao = bb at *; subst hao; have hk0 : (0 : Int) ≤ (k : Int) := by omega
   have hk1 : (k : Int) < (n : Int) := by omega
   clear hu htk hbb; obtain ⟨fv, hfv⟩ : ∃ fv, (b0 && Qs D (us.take j)) = fv := ⟨_, rfl⟩; obtain ⟨gk, hgk⟩ : ∃ gk, gb D k = gk := ⟨_, rfl⟩; have HR : Hid ((b0 && Qs D (us.take (j + 1))) = (fv && gk)) := qh (by rw [HTK.out, ← Bool.and_assoc, hfv, hgk]); rw [hfv]; rw [hgk] at hcd; clear hfv hgk; cases fv
   all_goals cases gk
   all_goals
    go_wp2_with fail; go_roundw
    case rel => exact ⟨j + 1, by go_num, by rw [HR.out]; rfl, by omega, trivial⟩
    case measure => simp [intOf]; omega
  ·have : j = m := by omega
   subst this; have hz : ¬ (j : Int) < (j : Int) := by omega
   have htl : us.take j = us := List.take_of_length_le (by rw [HM.out]; exact qn _); rw [htl]; clear htl; obtain ⟨fv, hfv⟩ : ∃ fv, (b0 && Qs D us) = fv := ⟨_, rfl⟩; rw [hfv] at HN ⊢; clear hfv; go_wp2_with fail; exact HN.out _ HV.out _ _ _ _ _ _ _ _ _ _ _ _ _ _ _ _ _ _ _ _ _ _ _ _ _ _ _
theorem RJ (s : Ls) (p : Ph) (us : List Int) (G n fb fo fc i : Nat) (D : List Bool) (ag : Bool) (w w1 W : World) (hW : LawW s w W) (hB1 : Below w1.heap.size w1 W) (hG1 : w1.heap.size ≤ G) (hp0 : W.cell? ⟨fb, fo + i * 2, none⟩ = some (sv p.name)) (hp1 : W.cell? ⟨fb, fo + i * 2 + 1, none⟩ = some (.slice p.ia p.its.len p.ic)) (hD : RS W G D) (hl : D.length = n) (hG : w.heap.size < G) (hi : i < n) (hus : ∀ u ∈ us, ∃ k : Nat, u = k ∧ k < n) (hC : ∀ V, Below W.heap.size W V → Calls Try.prog 28 #[.slice p.ia p.its.len p.ic] V (R1 us V)) (hul : us.length ≤ 100000) (hn : n ≤ 100) (e0 e2 e3 e4 e5 e9 ea eb ec ed ee ef eg eh ei ej ek el em en eo ep eq er es et eu ev ew ex ey ez eA eB eC eD eE eF eG eH eI eJ eK eL eM eN eO eP eQ eR eS eT eU eV eW eX eY eZ aa ab ac ad ae af ah ai aj ak al am an ao ap aq ar au av aw ax ay az aA aB aC aD aE aF aG aH aI aJ aK aL aM aN aO aP aQ aR aS aT aU aV aW aX aY aZ ba bb bc bd be bf bg bh bj bk bl bm bn bo bp bq br bs bt bu bv bw bx bz bA bB bC bD bE bF bG bH bI bJ bK bL bM bN bO bP bQ bR bS bT bU bV bW bX bY bZ ca cb cc cd ce cf cg ch ci cj ck cl cm cn co cp cq cr cs ct cu cv cw cx cy cz cA cB cC cD cE cF cG cH cI cJ cK cL cM : Value) (Q : Exit → Act → World → Prop)
  (hN : ∀ (V : World) (D' : List Bool) (ag' : Bool), LawW s w V → Below w1.heap.size w1 V → RS V G D' → D'.length = n → (((D' = D.set i true ∧ ag' = true ∧ gb D i = false ∧ Qs D us = true) ∨ (D' = D ∧ ag' = ag ∧ (gb D i = true ∨ Qs D us = false)))) → ∀ (x9 cN cO cP cQ cR cS cT cU cV cW cX cY cZ da db dc dd de df dg dh di dj dk dl dm dn dp dq dr ds dt du dv dw dx dy dz dA dB dC dD dE : Value), Q .normal { tmps := #[e0, .pointer (some ⟨w.heap.size, 0, none⟩), e2, e3, e4, e5, .slice (some ⟨G, 0, none⟩) n n, int i64 ((Qt D' : Nat) : Int), .bool ag', x9, cN, cO, ec, cP, ee, ef, eg, eh, ei, ej, ek, el, em, en, eo, ep, eq, er, es, et, eu, ev, ew, ex, ey, ez, eA, eB, eC, eD, eE, eF, eG, eH, eI, eJ, eK, eL, .slice (some ⟨fb, fo, none⟩) n fc, eM, int i64 (i : Nat), eN, cQ, cR, cS, cT, cU, cV, cW, cX, cY, cZ, da, db, dc, dd, de, df, dg, dh, di, dj, dk, dl, dm, dn, dp, dq, dr, ds, dt, du, dv, dw, dx, dy, dz, dA, dB, dC, dD, dE, aF, aG, aH, aI, aJ, aK, aL, aM, aN, aO, aP, aQ, aR, aS, aT, aU, aV, aW, aX, aY, aZ, ba, bb, bc, bd, be, bf, bg, bh, bj, bk, bl, bm, bn, bo, bp, bq, br, bs, bt, bu, bv, bw, bx, bz, bA, bB, bC, bD, bE, bF, bG, bH, bI, bJ, bK, bL, bM, bN, bO, bP, bQ, bR, bS, bT, bU, bV, bW, bX, bY, bZ, ca, cb, cc, cd, ce, cf, cg, ch, ci, cj, ck, cl, cm, cn, co, cp, cq, cr, cs, ct, cu, cv, cw, cx, cy, cz, cA, cB, cC, cD, cE, cF, cG, cH, cI, cJ, cK, cL, cM], defers := [] } V) :
  (Qy).wp Try.prog Q { tmps := #[e0, .pointer (some ⟨w.heap.size, 0, none⟩), e2, e3, e4, e5, .slice (some ⟨G, 0, none⟩) n n, int i64 ((Qt D : Nat) : Int), .bool ag, e9, ea, eb, ec, ed, ee, ef, eg, eh, ei, ej, ek, el, em, en, eo, ep, eq, er, es, et, eu, ev, ew, ex, ey, ez, eA, eB, eC, eD, eE, eF, eG, eH, eI, eJ, eK, eL, .slice (some ⟨fb, fo, none⟩) n fc, eM, int i64 (i : Nat), eN, eO, eP, eQ, eR, eS, eT, eU, eV, eW, eX, eY, eZ, aa, ab, ac, ad, ae, af, ah, ai, aj, ak, al, am, an, ao, ap, aq, ar, au, av, aw, ax, ay, az, aA, aB, aC, aD, aE, aF, aG, aH, aI, aJ, aK, aL, aM, aN, aO, aP, aQ, aR, aS, aT, aU, aV, aW, aX, aY, aZ, ba, bb, bc, bd, be, bf, bg, bh, bj, bk, bl, bm, bn, bo, bp, bq, br, bs, bt, bu, bv, bw, bx, bz, bA, bB, bC, bD, bE, bF, bG, bH, bI, bJ, bK, bL, bM, bN, bO, bP, bQ, bR, bS, bT, bU, bV, bW, bX, bY, bZ, ca, cb, cc, cd, ce, cf, cg, ch, ci, cj, ck, cl, cm, cn, co, cp, cq, cr, cs, ct, cu, cv, cw, cx, cy, cz, cA, cB, cC, cD, cE, cF, cG, cH, cI, cJ, cK, cL, cM], defers := [] } W := by
 obtain ⟨W2, hW2, gW2, bW2, sW2⟩ := Ai W #[sv p.name, .slice p.ia p.its.len p.ic] 57; have z1 := Aa gW2 1 rfl; have hD2 := hD.below bW2 hD.lt; have hcd := hD2.cell (j := i) (by rw [hl]; exact hi); have hii : (i : Int) < (n : Int) := by omega
 have HB12 := qh (Ag hB1 bW2); have HW2 := qh (hW.next bW2); have HC := qh (hC _ bW2); have HN := qh hN; have HD2 := qh hD2; have HL := qh hl; have HUS := qh hus; have HZ1 := qh z1; obtain ⟨bi, hbi⟩ : ∃ bi, gb D i = bi := ⟨_, rfl⟩; have HBI := qh hbi; rw [hbi] at hcd; clear hW hB1 hC hN hD hD2 hl hus gW2 bW2 sW2 hbi z1; obtain ⟨lf, hlf⟩ : ∃ lf, Qt D = lf := ⟨_, rfl⟩; have HLF := qh hlf; have hlfn : lf ≤ 100 := by rw [← hlf]; have := QW D; have := HL.out; omega
 rw [hlf]; clear hlf; rw [R3]; refine Ac (fun K1 hK1 => ?_); have HK1 := qh hK1; clear hK1
 conv => arg 2; whnf
 go_wp2_with fail; refine HK1.out _ _ ?_; clear HK1 K1; refine Ac (fun K1 hK1 => ?_); have HK1 := qh hK1; clear hK1
 conv => arg 2; whnf
 go_wp2_with fail; refine HK1.out _ _ ?_; clear HK1 K1 hcd; refine Ac (fun K1 hK1 => ?_); have HK1 := qh hK1; clear hK1; refine RO p us G n W.heap.size D (!bi) W2 HZ1.out HD2.out HL.out HUS.out HC.out hul hn _ _ _ _ _ _ _ _ _ _ _ _ _ _ _ _ _ _ _ _ _ _ _ _ _ _ _ _ _ _ _ _ _ _ _ _ _ _ _ _ _ _ _ _ _ _ _ _ _ _ _ _ _ _ _ _ _ _ _ _ _ _ _ _ _ _ _ _ _ _ _ _ _ _ _ _ _ _ _ _ _ _ _ _ _ _ _ _ _ _ _ _ _ _ _ _ _ _ _ _ _ _ _ _ _ _ _ _ _ _ _ _ _ _ _ _ _ _ _ _ _ _ _ _ _ _ _ _ _ _ _ _ _ _ _ _ _ _ _ _ _ _ _ _ _ _ _ _ _ _ _ _ _ _ _ _ _ _ _ _ _ _ _ _ _ _ _ _ _ _ _ _ _ _ _ _ _ _ _ _ _ _ _ _ _ _ _ _ _ _ _ _ _ _ _ _ _ _ _ _ ?_; intro V hV cP cY cZ da db dc dd de df dg dh di dj dk dl dm dn dp dq dr ds dt du dv dw dx dy; refine HK1.out _ _ ?_; clear HK1 K1; have HV := qh (HW2.out.next hV); have HB1V := qh (Ag HB12.out hV); have HDV := qh (HD2.out.below hV HD2.out.lt); have hcd := HDV.out.cell (j := i) (by rw [HL.out]; exact hi); have hzd := HDV.out.free i; rw [HBI.out] at hcd; obtain ⟨fr, hfr⟩ : ∃ fr, Qs D us = fr := ⟨_, rfl⟩; have HFR := qh hfr; rw [hfr]; clear hfr
 cases bi with
 | true =>
  conv => arg 2; whnf
  go_wp2_with fail; have := HN.out _ D ag HV.out HB1V.out HDV.out HL.out (Or.inr ⟨rfl, rfl, Or.inl HBI.out⟩); rw [HLF.out] at this; exact this _ _ _ _ _ _ _ _ _ _ _ _ _ _ _ _ _ _ _ _ _ _ _ _ _ _ _ _ _ _ _ _ _ _ _ _ _ _ _ _ _ _ _ _
 | false =>
  cases fr with
  | false =>
   conv => arg 2; whnf
   go_wp2_with fail; have := HN.out _ D ag HV.out HB1V.out HDV.out HL.out (Or.inr ⟨rfl, rfl, Or.inr HFR.out⟩); rw [HLF.out] at this; exact this _ _ _ _ _ _ _ _ _ _ _ _ _ _ _ _ _ _ _ _ _ _ _ _ _ _ _ _ _ _ _ _ _ _ _ _ _ _ _ _ _ _ _ _
  | true =>
   have hil : i < D.length := by rw [HL.out]; exact hi
   have hgt : D[i]? = some false := by rw [QS hil, HBI.out]
   have hcs := QD hgt; rw [HLF.out] at hcs; have hws : IntKind.i64.wrap ((lf : Int) - 1) = ((Qt (D.set i true) : Nat) : Int) := by rw [IntWalk.i64_in _ (by omega)]; omega
   have HWS := qh hcs; clear hcs hgt; have hGne : G ≠ w.heap.size := by omega
   conv => arg 2; whnf
   go_wp2_with fail; exact HN.out _ (D.set i true) true ⟨HV.out.below.setCell (p := ⟨G, i, none⟩) (Nat.le_of_lt hG) _, (Below.heap_setCell _ _ _ _ hGne.symm).trans HV.out.box⟩ (HB1V.out.setCell (p := ⟨G, i, none⟩) hG1 _) (HDV.out.set i true) (by rw [List.length_set]; exact HL.out) (Or.inl ⟨rfl, rfl, HBI.out, HFR.out⟩) _ _ _ _ _ _ _ _ _ _ _ _ _ _ _ _ _ _ _ _ _ _ _ _ _ _ _ _ _ _ _ _ _ _ _ _ _ _ _ _ _ _ _ _
end
section
open Go Go.RowKit Go.Deep
theorem R4 : Qz = .seq (Qo Qz) (.seq (Qo (Qr Qz)) (Qr (Qr Qz))) := rfl
def QP : Value → Nat
 | .bool true => 1
 | _ => 0
structure PassR (s : Ls) (f : Nm → Int) (n : Nat) (D D' : List Bool) (ag' : Bool) (i : Nat) : Prop where
 len : D'.length = n
 ring : (∀ q ∈ Bf (s.nexts f), gb D q.toNat = false) → ∀ q ∈ Bf (s.nexts f), gb D' q.toNat = false
 less : ag' = true → Qt D' < Qt D
 le : Qt D' ≤ Qt D
 same : ag' = false → ∀ (j : Nat) (p : Ph), j < i → s.phrases[j]? = some p → gb D' j = true ∨ Qs D' (p.its.strip.uses f) = false
theorem PassR.start {s : Ls} {f : Nm → Int} {n : Nat} {D : List Bool} (h : D.length = n) : PassR s f n D D false 0 := ⟨h, fun h => h, fun h => (by cases h), qn _, fun _ j _ hj => absurd hj (Nat.not_lt_zero _)⟩
theorem PassR.next {s : Ls} {f : Nm → Int} {n i : Nat} {D D1 D' : List Bool} {ag ag' : Bool} {p : Ph} (h : PassR s f n D D1 ag i) (hp : s.phrases[i]? = some p) (hi : i < n) (hl : D'.length = n)
  (hx : (D' = D1.set i true ∧ ag' = true ∧ gb D1 i = false ∧ Qs D1 (p.its.strip.uses f) = true) ∨ (D' = D1 ∧ ag' = ag ∧ (gb D1 i = true ∨ Qs D1 (p.its.strip.uses f) = false))) (hr0 : ∀ q ∈ Bf (s.nexts f), ∃ k : Nat, q = k) : PassR s f n D D' ag' (i + 1) := by
 rcases hx with ⟨rfl, rfl, h1, h2⟩ | ⟨rfl, rfl, h1⟩
 ·have hc := QD (D := D1) (i := i) (by rw [QS (by rw [h.len]; exact hi), h1])
  refine ⟨hl, fun hD q hq => ?_, fun _ => by have := h.le; omega, by have := h.le; omega, fun h => (by cases h)⟩; obtain ⟨k, rfl⟩ := hr0 q hq; have hk := h.ring hD _ hq; rw [Int.toNat_natCast] at hk ⊢; by_cases e : i = k
  ·subst e
   have := QU (h.ring hD) hp hq; rw [this] at h2; cases h2
  ·rw [QL e]; exact hk
 ·refine ⟨hl, h.ring, h.less, h.le, fun ha j p' hj hp' => ?_⟩
  rcases Nat.lt_or_ge j i with h3 | h3
  ·exact h.same ha j p' h3 hp'
  ·obtain rfl : j = i := by omega
   rw [hp] at hp'; cases hp'; exact h1
theorem Ro (kss : List (List Int)) : ∀ q ∈ Bf kss, ∃ k : Nat, q = k := fun q hq => by
 obtain ⟨i, _, _, _, h1, _⟩ := Qw (kss := kss) (fun e => by rw [e] at hq; cases hq); obtain ⟨a, ha⟩ := List.getElem?_of_mem hq; obtain ⟨h2, h3, _⟩ := h1 a q ha; exact ⟨q.toNat, by omega⟩
theorem RL (s : Ls) (ns : List Int) (G n : Nat) (D : List Bool) (w w1 W : World) (h : LawIn s ns w) (hc : Bp s.strip ns = 0) (hW : LawW s w W) (hB1 : Below w1.heap.size w1 W) (hG1 : w1.heap.size ≤ G) (hn : s.phrases.length = n) (hn1 : n ≤ 64) (hD : RS W G D) (hl : D.length = n) (hG : w.heap.size < G) (hsz : ∀ p ∈ s.phrases, p.its.size ≤ 100000) (e0 e2 e3 e4 e5 e8 e9 ea eb ec ed ee ef eg eh ei ej ek el em en eo ep eq er es et eu ev ew ex ey ez eA eB eC eD eE eF eG eH eI eJ eK eL eM eN eO eP eQ eR eS eT eU eV eW eX eY eZ aa ab ac ad ae af ah ai aj ak al am an ao ap aq ar au aw ax ay az aA aB aC aD aE aF aG aH aI aJ aK aL aM aN aO aP aQ aR aS aT aU aV aW aX aY aZ ba bb bc bd be bf bg bh bi bj bk bl bm bn bo bp bq br bs bt bu bv bw bx bz bA bB bC bD bE bF bG bH bI bJ bK bL bM bN bO bP bQ bR bS bT bU bV bW bX bY bZ ca cb cc cd ce cf cg ch ci cj ck cl cm cn co cp cq cr cs ct cu cv cw cx cy cz cA cB cC cD cE cF cG cH cI cJ cK cL cM cN cO : Value) (Q : Exit → Act → World → Prop)
  (hN : ∀ (V : World) (D' : List Bool) (ag' : Bool), LawW s w V → Below w1.heap.size w1 V → RS V G D' → PassR s (AG s.strip) n D D' ag' n → ∀ (x9 cP cQ cR cS cT cU cV cW cX cY cZ da db dc dd de df dg dh di dj dk dl dm dn dp dq dr ds dt du dv dw dx dy dz dA dB dC dD dE dF dG dH dI dJ dK dL dM : Value), Q .normal { tmps := #[e0, .pointer (some ⟨w.heap.size, 0, none⟩), e2, e3, e4, e5, .slice (some ⟨G, 0, none⟩) n n, int i64 ((Qt D' : Nat) : Int), .bool ag', x9, cP, cQ, ec, cR, ee, ef, eg, eh, ei, ej, ek, el, em, en, eo, ep, eq, er, es, et, eu, ev, ew, ex, ey, ez, eA, eB, eC, eD, eE, eF, eG, eH, eI, eJ, eK, cS, cT, cU, cV, cW, cX, cY, cZ, da, db, dc, dd, de, df, dg, dh, di, dj, dk, dl, dm, dn, dp, dq, dr, ds, dt, du, dv, dw, dx, dy, dz, dA, dB, dC, dD, dE, dF, dG, dH, dI, dJ, dK, dL, dM, aJ, aK, aL, aM, aN, aO, aP, aQ, aR, aS, aT, aU, aV, aW, aX, aY, aZ, ba, bb, bc, bd, be, bf, bg, bh, bi, bj, bk, bl, bm, bn, bo, bp, bq, br, bs, bt, bu, bv, bw, bx, bz, bA, bB, bC, bD, bE, bF, bG, bH, bI, bJ, bK, bL, bM, bN, bO, bP, bQ, bR, bS, bT, bU, bV, bW, bX, bY, bZ, ca, cb, cc, cd, ce, cf, cg, ch, ci, cj, ck, cl, cm, cn, co, cp, cq, cr, cs, ct, cu, cv, cw, cx, cy, cz, cA, cB, cC, cD, cE, cF, cG, cH, cI, cJ, cK, cL, cM, cN, cO], defers := [] } V) :
  (Qz).wp Try.prog Q { tmps := #[e0, .pointer (some ⟨w.heap.size, 0, none⟩), e2, e3, e4, e5, .slice (some ⟨G, 0, none⟩) n n, int i64 ((Qt D : Nat) : Int), e8, e9, ea, eb, ec, ed, ee, ef, eg, eh, ei, ej, ek, el, em, en, eo, ep, eq, er, es, et, eu, ev, ew, ex, ey, ez, eA, eB, eC, eD, eE, eF, eG, eH, eI, eJ, eK, eL, eM, eN, eO, eP, eQ, eR, eS, eT, eU, eV, eW, eX, eY, eZ, aa, ab, ac, ad, ae, af, ah, ai, aj, ak, al, am, an, ao, ap, aq, ar, au, aw, ax, ay, az, aA, aB, aC, aD, aE, aF, aG, aH, aI, aJ, aK, aL, aM, aN, aO, aP, aQ, aR, aS, aT, aU, aV, aW, aX, aY, aZ, ba, bb, bc, bd, be, bf, bg, bh, bi, bj, bk, bl, bm, bn, bo, bp, bq, br, bs, bt, bu, bv, bw, bx, bz, bA, bB, bC, bD, bE, bF, bG, bH, bI, bJ, bK, bL, bM, bN, bO, bP, bQ, bR, bS, bT, bU, bV, bW, bX, bY, bZ, ca, cb, cc, cd, ce, cf, cg, ch, ci, cj, ck, cl, cm, cn, co, cp, cq, cr, cs, ct, cu, cv, cw, cx, cy, cz, cA, cB, cC, cD, cE, cF, cG, cH, cI, cJ, cK, cL, cM, cN, cO], defers := [] } W := by
 have HH := qh h; have HCH := qh hc; have HN := qh hN; have HD := qh hD; have HL := qh hl; have HS := qh hsz; have HW := qh hW; have HNN := qh hn; have HB1 := qh hB1; have y10 : W.cell? ⟨w.heap.size, 10, none⟩ = some (.slice s.fa n s.fc) := by rw [← hn]; exact Aa hW.box 10 rfl
 clear h hc hN hD hl hsz hW hn hB1; rw [R4]; refine Ac (fun K1 hK1 => ?_); have HK1 := qh hK1; clear hK1
 conv => arg 2; whnf
 go_wp2_with fail; refine HK1.out _ _ ?_; clear HK1 K1; refine Ac (fun K1 hK1 => ?_); have HK1 := qh hK1; clear hK1
 conv => arg 2; whnf
 go_wp2_with fail; refine HK1.out _ _ ?_; clear HK1 K1
 conv => arg 2; whnf
 go_wp2_with fail; go_loopw [7, 8, 50] (fun lv av iv wr => ∃ (i : Nat) (D1 : List Bool) (ag : Bool), iv = int i64 i ∧ lv = int i64 ((Qt D1 : Nat) : Int) ∧ av = .bool ag ∧ i ≤ n ∧ Hid (LawW s w wr) ∧ Hid (Below w1.heap.size w1 wr) ∧ Hid (RS wr G D1) ∧ Hid (PassR s (AG s.strip) n D D1 ag i)) (fun _ _ iv _ => n + 1 - (intOf iv).toNat)
 case atStart => exact ⟨0, D, false, rfl, rfl, rfl, Nat.zero_le _, HW, HB1, HD, qh (PassR.start HL.out)⟩
 case round =>
  obtain ⟨i, D1, ag, rfl, rfl, rfl, hin, hW, hB1, hB, hP⟩ := hrel; by_cases hlt : i < n
  ·have hi : (i : Int) < (n : Int) := by omega
   obtain ⟨p, hp⟩ : ∃ p, s.phrases[i]? = some p := ⟨_, qg (by rw [HNN.out]; exact hlt)⟩; have hAr := HH.out.at_.below hW.out.below; obtain ⟨c0, c1⟩ := CO hAr.phrases hp; have hfa := hAr.pform.resolve_left (fun e => by rw [e] at hp; cases hp)
   have hus : ∀ u ∈ p.its.strip.uses (AG s.strip), ∃ k : Nat, u = k ∧ k < n := fun u hu => by
    obtain ⟨k, h1, h2⟩ := Jo HCH.out p.its.strip (List.mem_map.2 ⟨p, List.mem_of_getElem? hp, rfl⟩) u hu; exact ⟨k, h1, by simpa [Ls.itsL, HNN.out] using h2⟩
   have hpm := List.mem_of_getElem? hp
   have C : ∀ V, Below wr.heap.size wr V → Calls Try.prog 28 #[.slice p.ia p.its.len p.ic] V (R1 (p.its.strip.uses (AG s.strip)) V) := fun V hV => by
    have hb := Ag hW.out.below hV; have hAV := HH.out.at_.below hb; obtain ⟨i1, i2, i3⟩ := CQ hAV.phrases hp; exact QO (AG s.strip) _ p.its (qn _) (HS.out p hpm) p.ia p.ic V i1 i2 i3 (fun x hx => Je HCH.out (HH.out.ns.below hb) x (CR hp hx))
   have hul : (p.its.strip.uses (AG s.strip)).length ≤ 100000 := Nat.le_trans (p.its.strip.uses_len _) (by rw [p.its.size_strip]; exact HS.out p hpm); unfold Ph.val at c1; have HC := qh C; have HUS := qh hus; have HP := qh hp; have HUL := qh hul; have HC0 := qh c0; have HC1 := qh c1; generalize hga : s.fa = fa at *; have HGA := qh hga; clear hga; generalize hbb : blk fa = fb at *; generalize hoo : off fa = fo at *; subst hfa; clear hbb hoo hp hAr C hus hul hpm c0 c1; obtain ⟨lf, hlf⟩ : ∃ lf, Qt D1 = lf := ⟨_, rfl⟩; have HLF := qh hlf; refine Ac (fun K1 hK => ?_); have HK1 := qh hK; clear hK; rw [hlf]; clear hlf; go_wp2_with fail; refine HK1.out _ _ ?_; clear HK1 K1; refine Ac (fun K1 hK => ?_); have HK1 := qh hK; clear hK; go_wp2_with fail; refine HK1.out _ _ ?_; clear HK1 K1; refine Ac (fun K3 hK => ?_); have HK3 := qh hK; clear hK; refine wp_block ?_; change Code.wp Try.prog Qy _ _ _; rw [← HLF.out]; refine RJ s p (p.its.strip.uses (AG s.strip)) G n fb fo s.fc i D1 ag w w1 wr hW.out hB1.out hG1 HC0.out HC1.out hB.out hP.out.len hG hlt HUS.out HC.out HUL.out (by omega) _ _ _ _ _ _ _ _ _ _ _ _ _ _ _ _ _ _ _ _ _ _ _ _ _ _ _ _ _ _ _ _ _ _ _ _ _ _ _ _ _ _ _ _ _ _ _ _ _ _ _ _ _ _ _ _ _ _ _ _ _ _ _ _ _ _ _ _ _ _ _ _ _ _ _ _ _ _ _ _ _ _ _ _ _ _ _ _ _ _ _ _ _ _ _ _ _ _ _ _ _ _ _ _ _ _ _ _ _ _ _ _ _ _ _ _ _ _ _ _ _ _ _ _ _ _ _ _ _ _ _ _ _ _ _ _ _ _ _ _ _ _ _ _ _ _ _ _ _ _ _ _ _ _ _ _ _ _ _ _ _ _ _ _ _ _ _ _ _ _ _ _ _ _ _ _ _ _ _ _ _ _ _ _ _ _ _ _ _ _ _ _ _ _ _ _ _ ?_; intro V D2 ag2 hV hb1 hBV hlV hx x9 cP cQ cR cX cY cZ da db dc dd de df dg dh di dj dk dl dm dn dp dq dr ds dt du dv dw dx dy dz dA dB dC dD dE dF dG dH dI dJ dK dL; refine HK3.out _ _ ?_; have HV := qh hV; have HBV := qh hBV; have HB1V := qh hb1; have HPV := qh (hP.out.next HP.out hlt hlV hx (Ro _)); clear HK3 K3 hV hBV hlV hx hb1; obtain ⟨l2, hl2⟩ : ∃ l2, Qt D2 = l2 := ⟨_, rfl⟩; have HL2 := qh hl2; rw [hl2]; clear hl2; go_wp2_with fail; go_roundw
   case rel => exact ⟨i + 1, D2, ag2, by go_num, by rw [HL2.out], rfl, by omega, HV, HB1V, HBV, HPV⟩
   case measure => simp [intOf]; omega
  ·have : i = n := by omega
   subst this; have hz : ¬ (i : Int) < (i : Int) := by omega
   have HE := HN.out _ D1 ag hW.out hB1.out hB.out hP.out; obtain ⟨l2, hl2⟩ : ∃ l2, Qt D1 = l2 := ⟨_, rfl⟩; rw [hl2] at HE ⊢; have HEE := qh HE; clear hl2 HE; go_wp2_with fail; exact HEE.out _ _ _ _ _ _ _ _ _ _ _ _ _ _ _ _ _ _ _ _ _ _ _ _ _ _ _ _ _ _ _ _ _ _ _ _ _ _ _ _ _ _ _ _ _ _ _ _ _ _
theorem Rm (s : Ls) (ns : List Int) (G n : Nat) (w w1 W : World) (h : LawIn s ns w) (hc : Bp s.strip ns = 0) (hW : LawW s w W) (hB1 : Below w1.heap.size w1 W) (hG1 : w1.heap.size ≤ G) (hn : s.phrases.length = n) (hn1 : n ≤ 64) (hD : RS W G (List.replicate n false)) (hG : w.heap.size < G) (hsz : ∀ p ∈ s.phrases, p.its.size ≤ 100000) (e0 e2 e3 e4 e5 e8 e9 ea eb ec ed ee ef eg eh ei ej ek el em en eo ep eq er es et eu ev ew ex ey ez eA eB eC eD eE eF eG eH eI eJ eK eL eM eN eO eP eQ eR eS eT eU eV eW eX eY eZ aa ab ac ad ae af ah ai aj ak al am an ao ap aq ar au aw ax ay az aA aB aC aD aE aF aG aH aI aJ aK aL aM aN aO aP aQ aR aS aT aU aV aW aX aY aZ ba bb bc bd be bf bg bh bi bj bk bl bm bn bo bp bq br bs bt bu bv bw bx bz bA bB bC bD bE bF bG bH bI bJ bK bL bM bN bO bP bQ bR bS bT bU bV bW bX bY bZ ca cb cc cd ce cf cg ch ci cj ck cl cm cn co cp cq cr cs ct cu cv cw cx cy cz cA cB cC cD cE cF cG cH cI cJ cK cL cM cN cO : Value) (Q : Exit → Act → World → Prop)
  (hN : ∀ (V : World) (lf : Nat), lf ≤ 64 → LawW s w V → Below w1.heap.size w1 V → (Bf (s.nexts (AG s.strip)) = [] → lf = 0) → (Bf (s.nexts (AG s.strip)) ≠ [] → 0 < lf) → ∀ (x9 cP cQ cR cS cT cU cV cW cX cY cZ da db dc dd de df dg dh di dj dk dl dm dn dp dq dr ds dt du dv dw dx dy dz dA dB dC dD dE dF dG dH dI dJ dK dL dM dN : Value), Q .normal { tmps := #[e0, .pointer (some ⟨w.heap.size, 0, none⟩), e2, e3, e4, e5, .slice (some ⟨G, 0, none⟩) n n, int i64 (lf : Nat), .bool false, x9, cP, cQ, ec, cR, ee, ef, eg, eh, ei, ej, ek, el, em, en, eo, ep, eq, er, es, et, eu, ev, ew, ex, ey, ez, eA, eB, eC, eD, eE, eF, eG, eH, eI, eJ, cS, cT, cU, cV, cW, cX, cY, cZ, da, db, dc, dd, de, df, dg, dh, di, dj, dk, dl, dm, dn, dp, dq, dr, ds, dt, du, dv, dw, dx, dy, dz, dA, dB, dC, dD, dE, dF, dG, dH, dI, dJ, dK, dL, dM, dN, aJ, aK, aL, aM, aN, aO, aP, aQ, aR, aS, aT, aU, aV, aW, aX, aY, aZ, ba, bb, bc, bd, be, bf, bg, bh, bi, bj, bk, bl, bm, bn, bo, bp, bq, br, bs, bt, bu, bv, bw, bx, bz, bA, bB, bC, bD, bE, bF, bG, bH, bI, bJ, bK, bL, bM, bN, bO, bP, bQ, bR, bS, bT, bU, bV, bW, bX, bY, bZ, ca, cb, cc, cd, ce, cf, cg, ch, ci, cj, ck, cl, cm, cn, co, cp, cq, cr, cs, ct, cu, cv, cw, cx, cy, cz, cA, cB, cC, cD, cE, cF, cG, cH, cI, cJ, cK, cL, cM, cN, cO], defers := [] } V) :
  (QK).wp Try.prog Q { tmps := #[e0, .pointer (some ⟨w.heap.size, 0, none⟩), e2, e3, e4, e5, .slice (some ⟨G, 0, none⟩) n n, int i64 (n : Nat), e8, e9, ea, eb, ec, ed, ee, ef, eg, eh, ei, ej, ek, el, em, en, eo, ep, eq, er, es, et, eu, ev, ew, ex, ey, ez, eA, eB, eC, eD, eE, eF, eG, eH, eI, eJ, eK, eL, eM, eN, eO, eP, eQ, eR, eS, eT, eU, eV, eW, eX, eY, eZ, aa, ab, ac, ad, ae, af, ah, ai, aj, ak, al, am, an, ao, ap, aq, ar, au, aw, ax, ay, az, aA, aB, aC, aD, aE, aF, aG, aH, aI, aJ, aK, aL, aM, aN, aO, aP, aQ, aR, aS, aT, aU, aV, aW, aX, aY, aZ, ba, bb, bc, bd, be, bf, bg, bh, bi, bj, bk, bl, bm, bn, bo, bp, bq, br, bs, bt, bu, bv, bw, bx, bz, bA, bB, bC, bD, bE, bF, bG, bH, bI, bJ, bK, bL, bM, bN, bO, bP, bQ, bR, bS, bT, bU, bV, bW, bX, bY, bZ, ca, cb, cc, cd, ce, cf, cg, ch, ci, cj, ck, cl, cm, cn, co, cp, cq, cr, cs, ct, cu, cv, cw, cx, cy, cz, cA, cB, cC, cD, cE, cF, cG, cH, cI, cJ, cK, cL, cM, cN, cO], defers := [] } W := by
 have HH := qh h; have HCH := qh hc; have HN := qh hN; have HD := qh hD; have HS := qh hsz; have HW := qh hW; have HNN := qh hn; have HB1 := qh hB1; have hcn : Qt (List.replicate n false) = n := by simp [Qt]
 have HCN := qh hcn; clear h hc hN hD hsz hW hn hcn hB1
 conv => arg 2; whnf
 go_wp2_with fail; go_loopw [7, 8] (fun lv av wr => ∃ (D : List Bool) (ag : Bool), lv = int i64 ((Qt D : Nat) : Int) ∧ av = .bool ag ∧ Hid (LawW s w wr) ∧ Hid (Below w1.heap.size w1 wr) ∧ Hid (RS wr G D) ∧ Hid (D.length = n) ∧ Hid (∀ q ∈ Bf (s.nexts (AG s.strip)), gb D q.toNat = false) ∧ Hid (ag = false → ∀ (j : Nat) (p : Ph), s.phrases[j]? = some p → gb D j = true ∨ Qs D (p.its.strip.uses (AG s.strip)) = false)) (fun lv av _ => (intOf lv).toNat + QP av)
 case atStart => exact ⟨_, true, by rw [HCN.out], rfl, HW, HB1, HD, qh (by simp), qh (fun q _ => RP _ _), qh (fun h => by cases h)⟩
 case round =>
  obtain ⟨D, ag, rfl, rfl, hW, hB1, hB, hL, hR, hS⟩ := hrel
  cases ag with
  | true =>
   refine Ac (fun K1 hK => ?_); have HK1 := qh hK; clear hK; obtain ⟨lf, hlf⟩ : ∃ lf, Qt D = lf := ⟨_, rfl⟩; have HLF := qh hlf; rw [hlf]; clear hlf; go_wp2_with fail; refine HK1.out _ _ ?_; clear HK1 K1; refine wp_block ?_; change Code.wp Try.prog Qz _ _ _; rw [← HLF.out]; refine RL s ns G n D w w1 wr HH.out HCH.out hW.out hB1.out hG1 HNN.out hn1 hB.out hL.out hG HS.out _ _ _ _ _ _ _ _ _ _ _ _ _ _ _ _ _ _ _ _ _ _ _ _ _ _ _ _ _ _ _ _ _ _ _ _ _ _ _ _ _ _ _ _ _ _ _ _ _ _ _ _ _ _ _ _ _ _ _ _ _ _ _ _ _ _ _ _ _ _ _ _ _ _ _ _ _ _ _ _ _ _ _ _ _ _ _ _ _ _ _ _ _ _ _ _ _ _ _ _ _ _ _ _ _ _ _ _ _ _ _ _ _ _ _ _ _ _ _ _ _ _ _ _ _ _ _ _ _ _ _ _ _ _ _ _ _ _ _ _ _ _ _ _ _ _ _ _ _ _ _ _ _ _ _ _ _ _ _ _ _ _ _ _ _ _ _ _ _ _ _ _ _ _ _ _ _ _ _ _ _ _ _ _ _ _ _ _ _ _ _ _ _ _ _ _ _ _ _ _ ?_; intro V D2 ag2 hV hb1 hBV hx x9 cP cQ cR cT cU cV cW cX cY cZ da db dc dd de df dg dh di dj dk dl dm dn dp dq dr ds dt du dv dw dx dy dz dA dB dC dD dE dF dG dH dI dJ dK dL dM dN; have HB1V := qh hb1; have HV := qh hV; have HBV := qh hBV; have HX := qh hx; clear hV hBV hx hb1; go_wp2_with fail; go_roundw
   case rel => exact ⟨D2, ag2, rfl, rfl, HV, HB1V, HBV, qh HX.out.len, qh (HX.out.ring hR.out), qh (fun ha j p hp => HX.out.same ha j p (by rw [← HNN.out]; exact (ql.1 hp).1) hp)⟩
   case measure =>
    have h1 := HX.out.le; have h2 := HX.out.less
    cases ag2 with
    | true =>
     have := h2 rfl; simp [intOf, QP]; omega
    | false => simp [intOf, QP]; omega
  | false =>
   have HE : Hid (Bf (s.nexts (AG s.strip)) = [] → Qt D = 0) := qh (fun hr => R2 fun j hj => QQ hr (Jo HCH.out) (hS.out rfl) j (by rw [HNN.out, ← hL.out]; exact hj))
   have HE2 : Hid (Bf (s.nexts (AG s.strip)) ≠ [] → 0 < Qt D) := qh (fun hr => by
    obtain ⟨i, hi, h0, _, _⟩ := Qw hr; have := hR.out _ (List.mem_of_getElem? h0)
    exact Rf (j := i) (by rw [hL.out, ← HNN.out]; simpa [Ls.nexts] using hi) (by simpa using this))
   have HLE : Hid (Qt D ≤ 64) := qh (Nat.le_trans (QW D) (by rw [hL.out]; exact hn1)); obtain ⟨lf, hlf⟩ : ∃ lf, Qt D = lf := ⟨_, rfl⟩; rw [hlf] at HE HE2 HLE ⊢; clear hlf; go_wp2_with fail; exact HN.out _ lf HLE.out hW.out hB1.out HE.out HE2.out _ _ _ _ _ _ _ _ _ _ _ _ _ _ _ _ _ _ _ _ _ _ _ _ _ _ _ _ _ _ _ _ _ _ _ _ _ _ _ _ _ _ _ _ _ _ _ _ _ _ _
end
section
open Go Go.RowKit Go.Deep
noncomputable def Qu : Code := match QE with
 | .seq _ (.block _ (.loop (.seq _ (.seq _ (.seq (.block _ c) _))))) => c
 | c => c
noncomputable def Qv : Code := match Qu with
 | .seq _ (.seq _ (.seq _ (.seq _ (.block _ (.loop (.seq _ (.seq _ (.seq (.block _ c) _)))))))) => c
 | c => c
theorem R8 : Qu = .seq (Qo Qu) (.seq (Qo (Qr Qu)) (.seq (Qo (Qr (Qr Qu))) (.seq (Qo (Qr (Qr (Qr Qu)))) (Qr (Qr (Qr (Qr Qu))))))) := rfl
theorem R6 : Qv = .seq (Qo Qv) (.seq (Qo (Qr Qv)) (.seq (Qo (Qr (Qr Qv))) (Qr (Qr (Qr Qv))))) := rfl
def NumRow (W : World) (ao : Option Addr) (us : List Int) : Prop := (us = [] ∨ ao = some ⟨blk ao, 0, none⟩) ∧ ∀ j u, us[j]? = some u → W.cell? ⟨blk ao, j, none⟩ = some (int i64 u)
theorem NumRow.below {W V : World} {ao : Option Addr} {us : List Int} (h : NumRow W ao us) (hb : Below W.heap.size W V) : NumRow V ao us := ⟨h.1, fun j u hj => Ae hb (h.2 j u hj)⟩
theorem RI (us : List Int) (ao : Option Addr) (m c : Nat) (q : Int) (W : World) (hm : us.length = m) (hul : m ≤ 100000) (hr : NumRow W ao us) (e0 e1 e2 e3 e4 e5 e6 e7 e8 e9 ea eb ec ed ee ef eg eh ei ej ek el em en eo ep eq er es et eu ev ew ex ey ez eA eB eC eD eE eF eG eH eI eJ eK eL eM eN eO eP eQ eR eS eT eU eV eW eX eY eZ aa ab ac ad ae af ag ah ai aj ak al am an ap aq ar au av aw ax ay az aA aB aC aD aE aF aG aH aI aJ aK aL aM aN aO aP aQ aR aS aT aU aV aW aX aY aZ ba bc bd be bf bg bh bi bj bk bl bm bn bo bp bq br bs bt bu bv bw bx bz bA bB bC bD bE bF bG bH bI bJ bK bL bM bN bO bP bQ bR bS bT bU bV bW bX bY bZ ca cb cc cd ce cf cg ch ci cj ck cl cm cn co cp cq cr cs ct cu cv cw cx cy cz cA cB cC cD cE cF cG cH cI cJ cK cL : Value) (Q : Exit → Act → World → Prop)
  (hN : ∀ (cM cN cO cP cQ cR cS cT cU cV cW cX cY cZ : Value), Q .normal { tmps := #[e0, e1, e2, e3, e4, e5, e6, e7, e8, e9, ea, eb, ec, ed, ee, ef, .slice ao m c, eg, int i64 q, .bool (decide (q ∈ us)), eh, cM, ej, ek, el, em, en, eo, ep, eq, er, es, et, eu, ev, ew, ex, ey, ez, eA, eB, eC, eD, eE, eF, eG, eH, eI, eJ, eK, eL, eM, eN, eO, eP, eQ, eR, eS, eT, eU, eV, eW, eX, eY, eZ, aa, ab, ac, ad, ae, af, ag, ah, ai, aj, ak, al, am, an, ap, aq, ar, au, av, aw, ax, ay, az, aA, aB, aC, aD, aE, aF, aG, aH, aI, aJ, aK, aL, aM, aN, aO, aP, aQ, aR, aS, aT, aU, aV, aW, aX, aY, aZ, ba, bc, bd, be, bf, bg, bh, bi, bj, bk, bl, bm, bn, bo, bp, bq, br, bs, bt, bu, bv, bw, bx, bz, bA, bB, bC, bD, bE, bF, bG, bH, bI, bJ, bK, bL, bM, bN, bO, cN, cO, cP, cQ, cR, cS, cT, cU, cV, cW, cX, cY, cZ, cc, cd, ce, cf, cg, ch, ci, cj, ck, cl, cm, cn, co, cp, cq, cr, cs, ct, cu, cv, cw, cx, cy, cz, cA, cB, cC, cD, cE, cF, cG, cH, cI, cJ, cK, cL], defers := [] } W) :
  (Qo (Qr (Qr Qv))).wp Try.prog Q { tmps := #[e0, e1, e2, e3, e4, e5, e6, e7, e8, e9, ea, eb, ec, ed, ee, ef, .slice ao m c, eg, int i64 q, .bool false, eh, ei, ej, ek, el, em, en, eo, ep, eq, er, es, et, eu, ev, ew, ex, ey, ez, eA, eB, eC, eD, eE, eF, eG, eH, eI, eJ, eK, eL, eM, eN, eO, eP, eQ, eR, eS, eT, eU, eV, eW, eX, eY, eZ, aa, ab, ac, ad, ae, af, ag, ah, ai, aj, ak, al, am, an, ap, aq, ar, au, av, aw, ax, ay, az, aA, aB, aC, aD, aE, aF, aG, aH, aI, aJ, aK, aL, aM, aN, aO, aP, aQ, aR, aS, aT, aU, aV, aW, aX, aY, aZ, ba, bc, bd, be, bf, bg, bh, bi, bj, bk, bl, bm, bn, bo, bp, bq, br, bs, bt, bu, bv, bw, bx, bz, bA, bB, bC, bD, bE, bF, bG, bH, bI, bJ, bK, bL, bM, bN, bO, bP, bQ, bR, bS, bT, bU, bV, bW, bX, bY, bZ, ca, cb, cc, cd, ce, cf, cg, ch, ci, cj, ck, cl, cm, cn, co, cp, cq, cr, cs, ct, cu, cv, cw, cx, cy, cz, cA, cB, cC, cD, cE, cF, cG, cH, cI, cJ, cK, cL], defers := [] } W := by
 have HM := qh hm; have HR := qh hr; have HN := qh hN; clear hm hr hN
 conv => arg 2; whnf
 go_wp2_with fail; go_loopw [19, 21, 155] (fun hv uv iv wr => ∃ j : Nat, iv = int i64 j ∧ hv = .bool (decide (q ∈ us.take j)) ∧ j ≤ m ∧ wr = W) (fun _ _ iv _ => m + 1 - (intOf iv).toNat)
 case atStart => exact ⟨0, rfl, by simp, Nat.zero_le _, rfl⟩
 case round =>
  obtain ⟨j, rfl, rfl, hjm, rfl⟩ := hrel; by_cases hlt : j < m
  ·have hj : (j : Int) < (m : Int) := by omega
   obtain ⟨u, hu⟩ : ∃ u, us[j]? = some u := ⟨_, qg (by rw [HM.out]; exact hlt)⟩; have hao := HR.out.1.resolve_left (fun e => by rw [e] at hu; cases hu); have hcu := HR.out.2 j u hu
   have htk : decide (q ∈ us.take (j + 1)) = (decide (q ∈ us.take j) || decide (u = q)) := by
    rw [List.take_add_one, hu]; simp only [Option.toList_some, List.mem_append, List.mem_singleton, Bool.decide_or]
    congr 1
    exact decide_eq_decide.2 ⟨fun e => e.symm, fun e => e.symm⟩
   have HTK := qh htk; generalize hbb : blk ao = bb at *; subst hao; clear hu htk hbb; obtain ⟨fv, hfv⟩ : ∃ fv, decide (q ∈ us.take j) = fv := ⟨_, rfl⟩; have HTK2 : Hid (decide (q ∈ us.take (j + 1)) = (fv || decide (u = q))) := qh (by rw [HTK.out, hfv]); rw [hfv]; clear hfv; cases fv
   ·by_cases he : u = q
    ·subst he
     go_wp2_with fail; go_roundw
     case rel => exact ⟨j + 1, by go_num, by rw [HTK2.out]; simp, by omega, trivial⟩
     case measure => simp [intOf]; omega
    ·have hb : (u == q) = false := by simpa using he
     go_wp2_with fail; go_roundw
     case rel => exact ⟨j + 1, by go_num, by rw [HTK2.out]; simp [he], by omega, trivial⟩
     case measure => simp [intOf]; omega
   ·go_wp2_with fail
    go_roundw
    case rel => exact ⟨j + 1, by go_num, by rw [HTK2.out]; simp, by omega, trivial⟩
    case measure => simp [intOf]; omega
  ·have : j = m := by omega
   subst this; have hz : ¬ (j : Int) < (j : Int) := by omega
   have htl : us.take j = us := List.take_of_length_le (by rw [HM.out]; exact qn _); rw [htl]; obtain ⟨fv, hfv⟩ : ∃ fv, decide (q ∈ us) = fv := ⟨_, rfl⟩; rw [hfv] at HN ⊢; clear hfv htl; go_wp2_with fail; exact HN.out _ _ _ _ _ _ _ _ _ _ _ _ _ _
theorem RM (us : List Int) (ao : Option Addr) (g n lc m c i k : Nat) (q : Int) (W : World) (hm : us.length = m) (hul : m ≤ 100000) (hr : NumRow W ao us) (hq : W.cell? ⟨g, k, none⟩ = some (int i64 q)) (hk : k < n) (hi : i < n) (hn : n ≤ 1000) (h1 : k = (i + 1) % n → q ∈ us) (h2 : q ∈ us → k ≤ i + 1 ∧ (k = 0 → i + 1 = n)) (e0 e1 e2 e4 e5 e6 e7 e8 e9 ea eb ec ed ee ef eg eh ei ej ek el em en eo ep eq er es et eu ev ew ex ey ez eA eB eC eD eE eF eG eH eI eJ eK eL eM eN eO eP eQ eR eS eT eU eV eW eX eY eZ aa ab ac ad ae af ag ah ai aj ak al am an ap aq ar au av aw ax ay az aA aB aC aD aE aF aG aH aI aJ aK aL aM aN aO aP aQ aR aS aT aU aV aW aX aY aZ ba bb bc bd be bf bg bh bi bj bk bl bm bn bo bp bq br bs bt bu bv bw bx bz bA bB bC bD bE bF bG bH bI bJ bK bL bM bN bO bP bQ bR bS bT bU bV bW bX bY bZ ca cb cc cd ce cf cg ch ci cj ck cl cm cn co cp cq cr cs ct cu cv cw cx cy cz cA cB cC cD cE cF cG cH cI cJ : Value) (Q : Exit → Act → World → Prop)
  (hN : ∀ (cK cL cM cN cO cP cQ cR cS cT cU cV cW cX cY cZ da db dc dd de df dg dh di dj dk dl dm dn dp dq dr ds dt du dv dw dx dy dz dA dB dC dD dE dF dG dH dI dJ dK dL dM : Value), Q .normal { tmps := #[e0, e1, e2, .slice (some ⟨g, 0, none⟩) n lc, e4, e5, e6, e7, e8, e9, ea, eb, ec, ed, int i64 (i : Nat), ee, .slice ao m c, cK, cL, cM, ei, cN, ek, el, em, en, eo, ep, eq, er, es, et, eu, ev, ew, ex, ey, ez, eA, eB, eC, eD, eE, eF, eG, eH, eI, eJ, eK, eL, eM, eN, eO, eP, eQ, eR, eS, eT, eU, eV, eW, eX, eY, eZ, aa, ab, ac, ad, ae, af, ag, ah, ai, aj, ak, al, am, an, ap, aq, ar, au, av, aw, ax, ay, az, aA, aB, aC, aD, aE, aF, aG, aH, aI, aJ, aK, aL, aM, aN, aO, aP, aQ, aR, aS, aT, aU, aV, aW, aX, aY, aZ, ba, bb, bc, bd, be, bf, bg, bh, bi, bj, bk, bl, bm, bn, bo, bp, bq, br, bs, bt, bu, bv, bw, bx, bz, bA, bB, bC, bD, bE, bF, bG, bH, .slice (some ⟨g, 0, none⟩) n lc, bI, int i64 (k : Nat), bJ, cO, cP, cQ, cR, cS, cT, cU, cV, cW, cX, cY, cZ, da, db, dc, dd, de, df, dg, dh, di, dj, dk, dl, dm, dn, dp, dq, dr, ds, dt, du, dv, dw, dx, dy, dz, dA, dB, dC, dD, dE, dF, dG, dH, dI, dJ, dK, dL, dM, cI, cJ], defers := [] } W) :
  (Qv).wp Try.prog Q { tmps := #[e0, e1, e2, .slice (some ⟨g, 0, none⟩) n lc, e4, e5, e6, e7, e8, e9, ea, eb, ec, ed, int i64 (i : Nat), ee, .slice ao m c, ef, eg, eh, ei, ej, ek, el, em, en, eo, ep, eq, er, es, et, eu, ev, ew, ex, ey, ez, eA, eB, eC, eD, eE, eF, eG, eH, eI, eJ, eK, eL, eM, eN, eO, eP, eQ, eR, eS, eT, eU, eV, eW, eX, eY, eZ, aa, ab, ac, ad, ae, af, ag, ah, ai, aj, ak, al, am, an, ap, aq, ar, au, av, aw, ax, ay, az, aA, aB, aC, aD, aE, aF, aG, aH, aI, aJ, aK, aL, aM, aN, aO, aP, aQ, aR, aS, aT, aU, aV, aW, aX, aY, aZ, ba, bb, bc, bd, be, bf, bg, bh, bi, bj, bk, bl, bm, bn, bo, bp, bq, br, bs, bt, bu, bv, bw, bx, bz, bA, bB, bC, bD, bE, bF, bG, bH, .slice (some ⟨g, 0, none⟩) n lc, bI, int i64 (k : Nat), bJ, bK, bL, bM, bN, bO, bP, bQ, bR, bS, bT, bU, bV, bW, bX, bY, bZ, ca, cb, cc, cd, ce, cf, cg, ch, ci, cj, ck, cl, cm, cn, co, cp, cq, cr, cs, ct, cu, cv, cw, cx, cy, cz, cA, cB, cC, cD, cE, cF, cG, cH, cI, cJ], defers := [] } W := by
 have HM := qh hm; have HR := qh hr; have HN := qh hN; have H1 := qh h1; have H2 := qh h2; have hkn : (k : Int) < (n : Int) := by omega
 clear hm hr hN h1 h2; rw [R6]; refine Ac (fun K1 hK1 => ?_); have HK1 := qh hK1; clear hK1
 conv => arg 2; whnf
 go_wp2_with fail; refine HK1.out _ _ ?_; clear HK1 K1; refine Ac (fun K1 hK1 => ?_); have HK1 := qh hK1; clear hK1
 conv => arg 2; whnf
 go_wp2_with fail; refine HK1.out _ _ ?_; clear HK1 K1; refine Ac (fun K1 hK1 => ?_); have HK1 := qh hK1; clear hK1; refine RI us ao m c q W HM.out hul HR.out _ _ _ _ _ _ _ _ _ _ _ _ _ _ _ _ _ _ _ _ _ _ _ _ _ _ _ _ _ _ _ _ _ _ _ _ _ _ _ _ _ _ _ _ _ _ _ _ _ _ _ _ _ _ _ _ _ _ _ _ _ _ _ _ _ _ _ _ _ _ _ _ _ _ _ _ _ _ _ _ _ _ _ _ _ _ _ _ _ _ _ _ _ _ _ _ _ _ _ _ _ _ _ _ _ _ _ _ _ _ _ _ _ _ _ _ _ _ _ _ _ _ _ _ _ _ _ _ _ _ _ _ _ _ _ _ _ _ _ _ _ _ _ _ _ _ _ _ _ _ _ _ _ _ _ _ _ _ _ _ _ _ _ _ _ _ _ _ _ _ _ _ _ _ _ _ _ _ _ _ _ _ _ _ _ _ _ _ _ _ _ _ _ _ _ _ _ _ _ _ ?_; intro cN cR cS cT cU cV cW cX cY cZ da db dc dd; refine HK1.out _ _ ?_; clear HK1 K1; obtain ⟨e, he⟩ : ∃ e, (i + 1) % n = e := ⟨_, rfl⟩
 have hmod : ((i : Int) + 1).tmod (n : Int) = (e : Int) := by
  rw [← he]; exact Int.ofNat_tmod (i + 1) n
 have hw1 : IntKind.i64.wrap ((i : Int) + 1) = (i : Int) + 1 := IntWalk.i64_in _ (by omega); have hw2 : IntKind.i64.wrap ((n : Int) - 1) = (n : Int) - 1 := IntWalk.i64_in _ (by omega); have hmz : ¬ (n : Int) = 0 := by omega
 have hmz2 : ¬ n = 0 := by omega
 rw [he] at H1; clear he; by_cases hin : q ∈ us
 ·rw [decide_eq_true hin]
  obtain ⟨a1, a2⟩ := H2.out hin; have b1 : ¬ (i : Int) + 1 < (k : Int) := by omega
  clear hin; by_cases hke : k = e
  ·subst hke
   by_cases hk0 : k = 0
   ·have := a2 hk0
    subst hk0; have b2 : ¬ (i : Int) < (n : Int) - 1 := by omega
    clear a1 a2 this
    conv => arg 2; whnf
    go_wp2_with fail; exact HN.out _ _ _ _ _ _ _ _ _ _ _ _ _ _ _ _ _ _ _ _ _ _ _ _ _ _ _ _ _ _ _ _ _ _ _ _ _ _ _ _ _ _ _ _ _ _ _ _ _ _ _ _ _ _
   ·have b2 : ¬ (k : Int) = 0 := by omega
    have b3 : ((k : Int) == 0) = false := by simpa using b2
    clear a1 a2
    conv => arg 2; whnf
    go_wp2_with fail; exact HN.out _ _ _ _ _ _ _ _ _ _ _ _ _ _ _ _ _ _ _ _ _ _ _ _ _ _ _ _ _ _ _ _ _ _ _ _ _ _ _ _ _ _ _ _ _ _ _ _ _ _ _ _ _ _
  ·have c1 : ¬ (k : Int) = (e : Int) := by omega
   have c2 : ((k : Int) == (e : Int)) = false := by simpa using c1
   by_cases hk0 : k = 0
   ·have := a2 hk0
    subst hk0; have b2 : ¬ (i : Int) < (n : Int) - 1 := by omega
    clear a1 a2 this
    conv => arg 2; whnf
    go_wp2_with fail; exact HN.out _ _ _ _ _ _ _ _ _ _ _ _ _ _ _ _ _ _ _ _ _ _ _ _ _ _ _ _ _ _ _ _ _ _ _ _ _ _ _ _ _ _ _ _ _ _ _ _ _ _ _ _ _ _
   ·have b2 : ¬ (k : Int) = 0 := by omega
    have b3 : ((k : Int) == 0) = false := by simpa using b2
    clear a1 a2
    conv => arg 2; whnf
    go_wp2_with fail; exact HN.out _ _ _ _ _ _ _ _ _ _ _ _ _ _ _ _ _ _ _ _ _ _ _ _ _ _ _ _ _ _ _ _ _ _ _ _ _ _ _ _ _ _ _ _ _ _ _ _ _ _ _ _ _ _
 ·rw [decide_eq_false hin]
  have c1 : ¬ (k : Int) = (e : Int) := fun e2 => hin (H1.out (by omega))
  have c2 : ((k : Int) == (e : Int)) = false := by simpa using c1
  clear hin
  conv => arg 2; whnf
  go_wp2_with fail; exact HN.out _ _ _ _ _ _ _ _ _ _ _ _ _ _ _ _ _ _ _ _ _ _ _ _ _ _ _ _ _ _ _ _ _ _ _ _ _ _ _ _ _ _ _ _ _ _ _ _ _ _ _ _ _ _
theorem RN (s : Ls) (ns : List Int) (g n lc G nd i : Nat) (l : List Int) (w W : World) (h : LawIn s ns w) (hc : Bp s.strip ns = 0) (hW : LawW s w W) (hnd : s.phrases.length = nd) (hnd1 : nd ≤ 64) (hl : l.length = n) (hn : n ≤ 1000) (hrow : ∀ j u, l[j]? = some u → W.cell? ⟨g, j, none⟩ = some (int i64 u)) (hi : i < n) (hring : l = Bf (s.nexts (AG s.strip))) (hsz : ∀ p ∈ s.phrases, p.its.size ≤ 100000) (e0 e2 e4 e5 e7 e8 e9 ea eb ec ed ee ef eg eh ei ej ek el em en eo ep eq er es et eu ev ew ex ey ez eA eB eC eD eE eF eG eH eI eJ eK eL eM eN eO eP eQ eR eS eT eU eV eW eX eY eZ aa ab ac ad ae af ag ah ai aj ak al am an ap aq ar au av aw ax ay az aA aB aC aD aE aF aG aH aI aJ aK aL aM aN aO aP aQ aR aS aT aU aV aW aX aY aZ ba bb bc bd be bf bg bh bi bj bk bl bm bn bo bp bq br bs bt bu bv bw bx bz bA bB bC bD bE bF bG bH bI bJ bK bL bM bN bO bP bQ bR bS bT bU bV bW bX bY bZ ca cb cc cd ce cf cg ch ci cj ck cl cm cn co cp cq cr cs ct cu cv cw cx cy cz cA cB cC cD cE cF cG cH cI cJ cK cL : Value) (Q : Exit → Act → World → Prop)
  (hN : ∀ (V : World), LawW s w V → Below W.heap.size W V → ∀ (x2 cM cN cO cP cQ cR cS cT cU cV cW cX cY cZ da db dc dd de df dg dh di dj dk dl dm dn dp dq dr ds dt du dv dw dx dy dz dA dB dC dD dE dF dG dH dI dJ dK dL dM dN dO dP dQ dR dS dT dU dV dW dX dY dZ fd fe ff fg fh fi fj fk fl fm fn fp fq fr fs ft fu fv fw fx fy fz fA fB fC fD fE fF fG fH : Value), Q .normal { tmps := #[e0, .pointer (some ⟨w.heap.size, 0, none⟩), x2, .slice (some ⟨g, 0, none⟩) n lc, e4, e5, .slice (some ⟨G, 0, none⟩) nd nd, e7, e8, e9, ea, eb, ec, ed, cM, cN, cO, cP, cQ, cR, ek, cS, em, en, eo, ep, eq, er, es, et, eu, ev, ew, ex, ey, ez, eA, eB, eC, eD, eE, eF, eG, eH, eI, eJ, eK, eL, eM, eN, eO, eP, eQ, eR, eS, eT, eU, eV, eW, eX, eY, eZ, aa, ab, ac, ad, ae, af, ag, ah, ai, aj, ak, al, am, an, ap, aq, ar, au, av, aw, ax, ay, az, aA, aB, aC, aD, aE, aF, aG, aH, aI, aJ, aK, aL, aM, aN, aO, aP, aQ, aR, aS, aT, aU, aV, aW, aX, .slice (some ⟨g, 0, none⟩) n lc, aY, int i64 (i : Nat), aZ, cT, cU, cV, cW, cX, cY, cZ, da, db, dc, dd, de, df, dg, dh, di, dj, dk, dl, dm, dn, dp, dq, dr, ds, dt, du, dv, dw, dx, dy, dz, dA, dB, dC, dD, dE, dF, dG, dH, dI, dJ, dK, dL, dM, dN, dO, dP, dQ, dR, dS, dT, dU, dV, dW, dX, dY, dZ, fd, fe, ff, fg, fh, fi, fj, fk, fl, fm, fn, fp, fq, fr, fs, ft, fu, fv, fw, fx, fy, fz, fA, fB, fC, fD, fE, fF, fG, fH, cL], defers := [] } V) :
  (Qu).wp Try.prog Q { tmps := #[e0, .pointer (some ⟨w.heap.size, 0, none⟩), e2, .slice (some ⟨g, 0, none⟩) n lc, e4, e5, .slice (some ⟨G, 0, none⟩) nd nd, e7, e8, e9, ea, eb, ec, ed, ee, ef, eg, eh, ei, ej, ek, el, em, en, eo, ep, eq, er, es, et, eu, ev, ew, ex, ey, ez, eA, eB, eC, eD, eE, eF, eG, eH, eI, eJ, eK, eL, eM, eN, eO, eP, eQ, eR, eS, eT, eU, eV, eW, eX, eY, eZ, aa, ab, ac, ad, ae, af, ag, ah, ai, aj, ak, al, am, an, ap, aq, ar, au, av, aw, ax, ay, az, aA, aB, aC, aD, aE, aF, aG, aH, aI, aJ, aK, aL, aM, aN, aO, aP, aQ, aR, aS, aT, aU, aV, aW, aX, .slice (some ⟨g, 0, none⟩) n lc, aY, int i64 (i : Nat), aZ, ba, bb, bc, bd, be, bf, bg, bh, bi, bj, bk, bl, bm, bn, bo, bp, bq, br, bs, bt, bu, bv, bw, bx, bz, bA, bB, bC, bD, bE, bF, bG, bH, bI, bJ, bK, bL, bM, bN, bO, bP, bQ, bR, bS, bT, bU, bV, bW, bX, bY, bZ, ca, cb, cc, cd, ce, cf, cg, ch, ci, cj, ck, cl, cm, cn, co, cp, cq, cr, cs, ct, cu, cv, cw, cx, cy, cz, cA, cB, cC, cD, cE, cF, cG, cH, cI, cJ, cK, cL], defers := [] } W := by
 have hne : Bf (s.nexts (AG s.strip)) ≠ [] := fun e => by rw [hring, e] at hl; simp at hl; omega
 obtain ⟨i0, hi0, h0, hL, hA, hB⟩ := Qw hne; rw [← hring] at h0 hL hA hB; have hkl : (s.nexts (AG s.strip)).length = nd := by simp [Ls.nexts, hnd]
 rw [hkl] at hA; obtain ⟨pi, hpi⟩ : ∃ pi, l[i]? = some pi := ⟨_, qg (by rw [hl]; exact hi)⟩; obtain ⟨a1, a2, a3⟩ := hA i pi hpi; obtain ⟨x, rfl⟩ : ∃ x : Nat, pi = x := ⟨pi.toNat, by omega⟩; have hx : x < nd := by omega
 obtain ⟨p, hp⟩ : ∃ p, s.phrases[x]? = some p := ⟨_, qg (by rw [hnd]; exact hx)⟩; have hAW := h.at_.below hW.below; obtain ⟨c0, c1⟩ := CO hAW.phrases hp; have hfa := hAW.pform.resolve_left (fun e => by rw [e] at hp; cases hp); have y10 : W.cell? ⟨w.heap.size, 10, none⟩ = some (.slice s.fa nd s.fc) := by rw [← hnd]; exact Aa hW.box 10 rfl
 have r0 := hrow 0 _ h0; have ri := hrow i _ hpi; obtain ⟨j1, j2, j3⟩ := CQ hAW.phrases hp; have C := QO (AG s.strip) _ p.its (qn _) (hsz p (List.mem_of_getElem? hp)) p.ia p.ic W j1 j2 j3 (fun x hx => Je hc (h.ns.below hW.below) x (CR hp hx)); have hul : (p.its.strip.uses (AG s.strip)).length ≤ 100000 := Nat.le_trans (p.its.strip.uses_len _) (by rw [p.its.size_strip]; exact hsz p (List.mem_of_getElem? hp))
 have hBB : ∀ (k : Nat) (q : Int), l[k]? = some q → (k = (i + 1) % n → q ∈ p.its.strip.uses (AG s.strip)) ∧ (q ∈ p.its.strip.uses (AG s.strip) → k ≤ i + 1 ∧ (k = 0 → i + 1 = n)) := fun k q hq => by
  have := hB i k x q hpi hq; rw [hl, Int.toNat_natCast, QA hp] at this; exact this
 unfold Ph.val at c1; have HH := qh h; have HW := qh hW; have HL := qh hl; have HROW := qh hrow; have HC := qh C; have HBB := qh hBB; have HN := qh hN; have HUL := qh hul; have q1 : (i0 : Int) ≤ (x : Int) := a1; have q2 : (x : Int) < (nd : Int) := by omega
 have q3 : max (i0 : Int) 0 = (i0 : Int) := by omega
 have q4 : ¬ (x : Int) < (i0 : Int) := by omega
 have q5 : ¬ (nd : Int) ≤ (x : Int) := by omega
 have hin : (i : Int) < (n : Int) := by omega
 have hn0 : (0 : Int) < (n : Int) := by omega
 have HA3 := qh a3; have hHI0 : (0 : Int) ≤ (i0 : Int) := by omega
 generalize hga : s.fa = fa at *; have HGA := qh hga; clear hga; generalize hbb : blk fa = fb at *; generalize hoo : off fa = fo at *; subst hfa; clear hbb hoo h hW hl hrow C hBB hN hul hring hne hA hB hp hpi h0 hL hAW j1 j2 j3 c0 a1 a2 a3 hc hkl hi0 hsz hnd; obtain ⟨us, hus⟩ : ∃ us, p.its.strip.uses (AG s.strip) = us := ⟨_, rfl⟩; rw [hus] at HC HBB HUL; clear hus; obtain ⟨m, hm⟩ : ∃ m, us.length = m := ⟨_, rfl⟩; have HM := qh hm; rw [hm] at HUL; clear hm; rw [R8]; refine Ac (fun K1 hK1 => ?_); have HK1 := qh hK1; clear hK1
 conv => arg 2; whnf
 go_wp2_with fail; refine HK1.out _ _ ?_; clear HK1 K1; refine Ac (fun K1 hK1 => ?_); have HK1 := qh hK1; clear hK1
 have rest : Hid (∀ (cT cU cV cW cX cY cZ da db dc dd de df dg dh di dj dk dl dm dn dp dq dr ds dt : Value), (Code.seq (Qo (Qr (Qr Qu))) (.seq (Qo (Qr (Qr (Qr Qu)))) (Qr (Qr (Qr (Qr Qu)))))).wp Try.prog Q { tmps := #[e0, .pointer (some ⟨w.heap.size, 0, none⟩), e2, .slice (some ⟨g, 0, none⟩) n lc, e4, e5, .slice (some ⟨G, 0, none⟩) nd nd, e7, e8, e9, ea, eb, ec, ed, int i64 (i : Nat), int i64 (x : Nat), eg, eh, ei, ej, ek, el, em, en, eo, ep, eq, er, es, et, eu, ev, ew, ex, ey, ez, eA, eB, eC, eD, eE, eF, eG, eH, eI, eJ, eK, eL, eM, eN, eO, eP, eQ, eR, eS, eT, eU, eV, eW, eX, eY, eZ, aa, ab, ac, ad, ae, af, ag, ah, ai, aj, ak, al, am, an, ap, aq, ar, au, av, aw, ax, ay, az, aA, aB, aC, aD, aE, aF, aG, aH, aI, aJ, aK, aL, aM, aN, aO, aP, aQ, aR, aS, aT, aU, aV, aW, aX, .slice (some ⟨g, 0, none⟩) n lc, aY, int i64 (i : Nat), aZ, cT, cU, cV, cW, cX, cY, cZ, da, db, dc, dd, de, df, dg, dh, di, dj, dk, dl, dm, dn, dp, dq, dr, ds, dt, bB, bC, bD, bE, bF, bG, bH, bI, bJ, bK, bL, bM, bN, bO, bP, bQ, bR, bS, bT, bU, bV, bW, bX, bY, bZ, ca, cb, cc, cd, ce, cf, cg, ch, ci, cj, ck, cl, cm, cn, co, cp, cq, cr, cs, ct, cu, cv, cw, cx, cy, cz, cA, cB, cC, cD, cE, cF, cG, cH, cI, cJ, cK, cL], defers := [] } W) := qh (by
  clear HK1 K1 r0 ri; intro cT cU cV cW cX cY cZ da db dc dd de df dg dh di dj dk dl dm dn dp dq dr ds dt; refine Ac (fun K1 hK1 => ?_); have HK1 := qh hK1; clear hK1
  conv => arg 2; whnf
  go_wp2_with (go_at_call 28; refine HC.out.mono ?_; rintro e V ⟨v, rfl, ho, hv⟩; rw [HM.out] at ho; obtain ⟨ao, c, rfl, hform, _, _, _, hcl⟩ := QM (by omega) ho; have HNR : Hid (NumRow V ao us) := qh ⟨hform.elim (fun e => Or.inl (List.length_eq_zero_iff.1 (by rw [HM.out]; exact e))) (fun e => Or.inr e.1), fun j u hj => by have := hcl j (int i64 u) (by unfold G7; rw [List.getElem?_map, hj]; rfl); rw [Nat.zero_add] at this; exact this⟩; have HV := qh hv; clear ho hform hcl hv); refine HK1.out _ _ ?_; clear HK1 K1 y10 c1; refine Ac (fun K1 hK1 => ?_); have HK1 := qh hK1; clear hK1
  conv => arg 2; whnf
  go_wp2_with fail; refine HK1.out _ _ ?_; clear HK1 K1
  conv => arg 2; whnf
  go_wp2_with fail; go_loopw [148] (fun iv wr => ∃ k : Nat, iv = int i64 k ∧ k ≤ n ∧ wr = V) (fun iv _ => n + 1 - (intOf iv).toNat)
  case atStart => exact ⟨0, rfl, Nat.zero_le _, rfl⟩
  case round =>
   obtain ⟨k, rfl, hkn, rfl⟩ := hrel; by_cases hlt : k < n
   ·have hk : (k : Int) < (n : Int) := by omega
    obtain ⟨q, hq⟩ : ∃ q, l[k]? = some q := ⟨_, qg (by rw [HL.out]; exact hlt)⟩; have hcq := Ae HV.out (HROW.out k q hq); obtain ⟨b1, b2⟩ := HBB.out k q hq; have HB1 := qh b1; have HB2 := qh b2; have HCQ := qh hcq; clear hq b1 b2 hcq; refine Ac (fun K1 hK => ?_); have HK1 := qh hK; clear hK; go_wp2_with fail; refine HK1.out _ _ ?_; clear HK1 K1; refine Ac (fun K1 hK => ?_); have HK1 := qh hK; clear hK; go_wp2_with fail; refine HK1.out _ _ ?_; clear HK1 K1; refine Ac (fun K3 hK => ?_); have HK3 := qh hK; clear hK; refine wp_block ?_; change Code.wp Try.prog Qv _ _ _; refine RM us ao g n lc m c i k q wr HM.out HUL.out HNR.out HCQ.out hlt (by omega) hn HB1.out HB2.out _ _ _ _ _ _ _ _ _ _ _ _ _ _ _ _ _ _ _ _ _ _ _ _ _ _ _ _ _ _ _ _ _ _ _ _ _ _ _ _ _ _ _ _ _ _ _ _ _ _ _ _ _ _ _ _ _ _ _ _ _ _ _ _ _ _ _ _ _ _ _ _ _ _ _ _ _ _ _ _ _ _ _ _ _ _ _ _ _ _ _ _ _ _ _ _ _ _ _ _ _ _ _ _ _ _ _ _ _ _ _ _ _ _ _ _ _ _ _ _ _ _ _ _ _ _ _ _ _ _ _ _ _ _ _ _ _ _ _ _ _ _ _ _ _ _ _ _ _ _ _ _ _ _ _ _ _ _ _ _ _ _ _ _ _ _ _ _ _ _ _ _ _ _ _ _ _ _ _ _ _ _ _ _ _ _ _ _ _ _ _ _ _ _ _ _ _ _ ?_; intro cP cQ cR cS dF dG dH dI dJ dK dL dM dN dO dP dQ dR dS dT dU dV dW dX dY dZ fd fe ff fg fh fi fj fk fl fm fn fp fq fr fs ft fu fv fw fx fy fz fA fB fC fD fE fF fG; refine HK3.out _ _ ?_; clear HK3 K3; go_wp2_with fail; go_roundw
    case rel => exact ⟨k + 1, by go_num, by omega, trivial⟩
    case measure => simp [intOf]; omega
   ·have : k = n := by omega
    subst this; have hz : ¬ (k : Int) < (k : Int) := by omega
    go_wp2_with fail
    exact HN.out _ (HW.out.next HV.out) HV.out _ _ _ _ _ _ _ _ _ _ _ _ _ _ _ _ _ _ _ _ _ _ _ _ _ _ _ _ _ _ _ _ _ _ _ _ _ _ _ _ _ _ _ _ _ _ _ _ _ _ _ _ _ _ _ _ _ _ _ _ _ _ _ _ _ _ _ _ _ _ _ _ _ _ _ _ _ _ _ _ _ _ _ _ _ _ _ _ _ _ _ _ _ _ _ _)
 by_cases hi1 : i = 0
 ·subst hi1
  conv => arg 2; whnf
  go_wp2_with fail; exact HK1.out _ _ (rest.out _ _ _ _ _ _ _ _ _ _ _ _ _ _ _ _ _ _ _ _ _ _ _ _ _ _)
 ·have d1 : (0 : Int) < (i : Int) := by omega
  have d2 : ¬ (x : Int) = (i0 : Int) := HA3.out (by omega); have d3 : ((x : Int) == (i0 : Int)) = false := by simpa using d2
  conv => arg 2; whnf
  go_wp2_with fail; exact HK1.out _ _ (rest.out _ _ _ _ _ _ _ _ _ _ _ _ _ _ _ _ _ _ _ _ _ _ _ _ _ _)
end
section
open Go Go.RowKit Go.Deep
theorem Ri : ∀ {l : List Nat} {x : Nat}, x ∈ l → x ≤ l.sum
 | [], _, h => by cases h
 | y :: l, x, h => by
  rw [List.sum_cons]; rcases List.mem_cons.1 h with rfl | h
  ·omega
  ·have := Ri h; omega
theorem QH {s : Ls} {ns : List Int} (h : Bp s.strip ns = 0) : ∀ p ∈ s.phrases, p.its.size ≤ 100000 := fun p hp => by
 obtain ⟨h1, _⟩ := Dh h; obtain ⟨_, _, h3⟩ := (Rj _).1 h1
 have : p.its.strip.size ≤ Qx s.strip.phrases := by
  unfold Qx; exact Ri (List.mem_map.2 ⟨p.strip, List.mem_map.2 ⟨p, hp, rfl⟩, rfl⟩)
 rw [p.its.size_strip] at this; omega
theorem Re (s : Ls) (ns : List Int) (g n lc G nd : Nat) (l : List Int) (w W : World) (h : LawIn s ns w) (hc : Bp s.strip ns = 0) (hW : LawW s w W) (hnd : s.phrases.length = nd) (hnd1 : nd ≤ 64) (hl : l.length = n) (hn : n ≤ 1000) (hrow : ∀ j u, l[j]? = some u → W.cell? ⟨g, j, none⟩ = some (int i64 u)) (hring : l = Bf (s.nexts (AG s.strip))) (e0 e2 e4 e5 e7 e8 e9 ea eb ec ed ee ef eg eh ei ej ek el em en eo ep eq er es et eu ev ew ex ey ez eA eB eC eD eE eF eG eH eI eJ eK eL eM eN eO eP eQ eR eS eT eU eV eW eX eY eZ aa ab ac ad ae af ag ah ai aj ak al am an ao ap aq ar au av aw ax ay az aA aB aC aD aE aF aG aH aI aJ aK aL aM aN aO aP aQ aR aS aT aU aV aW aX aY aZ ba bb bc bd be bf bg bh bi bj bk bl bm bn bo bp bq br bs bt bu bv bw bx bz bA bB bC bD bE bF bG bH bI bJ bK bL bM bN bO bP bQ bR bS bT bU bV bW bX bY bZ ca cb cc cd ce cf cg ch ci cj ck cl cm cn co cp cq cr cs ct cu cv cw cx cy cz cA cB cC cD cE cF cG cH cI cJ cK cL cM : Value) (Q : Exit → Act → World → Prop)
  (hN : ∀ (V : World), LawW s w V → ∀ (x2 cN cO cP cQ cR cS cT cU cV cW cX cY cZ da db dc dd de df dg dh di dj dk dl dm dn dp dq dr ds dt du dv dw dx dy dz dA dB dC dD dE dF dG dH dI dJ dK dL dM dN dO dP dQ dR dS dT dU dV dW dX dY dZ fa fb fc fd fe ff fg fh fi fj fk fl fm fn fo fp fq fr fs ft fu fv fw fx fy fz fA fB fC fD fE fF fG fH fI fJ : Value), Q .normal { tmps := #[e0, .pointer (some ⟨w.heap.size, 0, none⟩), x2, .slice (some ⟨g, 0, none⟩) n lc, e4, e5, .slice (some ⟨G, 0, none⟩) nd nd, e7, e8, e9, ea, eb, ec, ed, cN, cO, cP, cQ, cR, cS, ek, cT, em, en, eo, ep, eq, er, es, et, eu, ev, ew, ex, ey, ez, eA, eB, eC, eD, eE, eF, eG, eH, eI, eJ, eK, eL, eM, eN, eO, eP, eQ, eR, eS, eT, eU, eV, eW, eX, eY, eZ, aa, ab, ac, ad, ae, af, ag, ah, ai, aj, ak, al, am, an, ao, ap, aq, ar, au, av, aw, ax, ay, az, aA, aB, aC, aD, aE, aF, aG, aH, aI, aJ, aK, aL, aM, aN, aO, aP, aQ, aR, aS, aT, aU, aV, aW, cU, cV, cW, cX, cY, cZ, da, db, dc, dd, de, df, dg, dh, di, dj, dk, dl, dm, dn, dp, dq, dr, ds, dt, du, dv, dw, dx, dy, dz, dA, dB, dC, dD, dE, dF, dG, dH, dI, dJ, dK, dL, dM, dN, dO, dP, dQ, dR, dS, dT, dU, dV, dW, dX, dY, dZ, fa, fb, fc, fd, fe, ff, fg, fh, fi, fj, fk, fl, fm, fn, fo, fp, fq, fr, fs, ft, fu, fv, fw, fx, fy, fz, fA, fB, fC, fD, fE, fF, fG, fH, fI, fJ], defers := [] } V) :
  (QE).wp Try.prog Q { tmps := #[e0, .pointer (some ⟨w.heap.size, 0, none⟩), e2, .slice (some ⟨g, 0, none⟩) n lc, e4, e5, .slice (some ⟨G, 0, none⟩) nd nd, e7, e8, e9, ea, eb, ec, ed, ee, ef, eg, eh, ei, ej, ek, el, em, en, eo, ep, eq, er, es, et, eu, ev, ew, ex, ey, ez, eA, eB, eC, eD, eE, eF, eG, eH, eI, eJ, eK, eL, eM, eN, eO, eP, eQ, eR, eS, eT, eU, eV, eW, eX, eY, eZ, aa, ab, ac, ad, ae, af, ag, ah, ai, aj, ak, al, am, an, ao, ap, aq, ar, au, av, aw, ax, ay, az, aA, aB, aC, aD, aE, aF, aG, aH, aI, aJ, aK, aL, aM, aN, aO, aP, aQ, aR, aS, aT, aU, aV, aW, aX, aY, aZ, ba, bb, bc, bd, be, bf, bg, bh, bi, bj, bk, bl, bm, bn, bo, bp, bq, br, bs, bt, bu, bv, bw, bx, bz, bA, bB, bC, bD, bE, bF, bG, bH, bI, bJ, bK, bL, bM, bN, bO, bP, bQ, bR, bS, bT, bU, bV, bW, bX, bY, bZ, ca, cb, cc, cd, ce, cf, cg, ch, ci, cj, ck, cl, cm, cn, co, cp, cq, cr, cs, ct, cu, cv, cw, cx, cy, cz, cA, cB, cC, cD, cE, cF, cG, cH, cI, cJ, cK, cL, cM], defers := [] } W := by
 have hsz := QH hc; have HH := qh h; have HC := qh hc; have HW := qh hW; have HND := qh hnd; have HL := qh hl; have HROW := qh hrow; have HRI := qh hring; have HN := qh hN; have HS := qh hsz; clear h hc hW hnd hl hrow hring hN hsz
 conv => arg 2; whnf
 go_wp2_with fail; go_loopw [2, 111] (fun rv iv wr => ∃ i : Nat, iv = int i64 i ∧ i ≤ n ∧ Hid (LawW s w wr) ∧ Hid (∀ j u, l[j]? = some u → wr.cell? ⟨g, j, none⟩ = some (int i64 u))) (fun _ iv _ => n + 1 - (intOf iv).toNat)
 case atStart => exact ⟨0, rfl, Nat.zero_le _, HW, HROW⟩
 case round =>
  obtain ⟨i, rfl, hin, hW, hrow⟩ := hrel; by_cases hlt : i < n
  ·have hi : (i : Int) < (n : Int) := by omega
   refine Ac (fun K1 hK => ?_); have HK1 := qh hK; clear hK; go_wp2_with fail; refine HK1.out _ _ ?_; clear HK1 K1; refine Ac (fun K1 hK => ?_); have HK1 := qh hK; clear hK; go_wp2_with fail; refine HK1.out _ _ ?_; clear HK1 K1; refine Ac (fun K3 hK => ?_); have HK3 := qh hK; clear hK; refine wp_block ?_; change Code.wp Try.prog Qu _ _ _; refine RN s ns g n lc G nd i l w wr HH.out HC.out hW.out HND.out hnd1 HL.out hn hrow.out hlt HRI.out HS.out _ _ _ _ _ _ _ _ _ _ _ _ _ _ _ _ _ _ _ _ _ _ _ _ _ _ _ _ _ _ _ _ _ _ _ _ _ _ _ _ _ _ _ _ _ _ _ _ _ _ _ _ _ _ _ _ _ _ _ _ _ _ _ _ _ _ _ _ _ _ _ _ _ _ _ _ _ _ _ _ _ _ _ _ _ _ _ _ _ _ _ _ _ _ _ _ _ _ _ _ _ _ _ _ _ _ _ _ _ _ _ _ _ _ _ _ _ _ _ _ _ _ _ _ _ _ _ _ _ _ _ _ _ _ _ _ _ _ _ _ _ _ _ _ _ _ _ _ _ _ _ _ _ _ _ _ _ _ _ _ _ _ _ _ _ _ _ _ _ _ _ _ _ _ _ _ _ _ _ _ _ _ _ _ _ _ _ _ _ _ _ _ _ _ _ _ _ _ ?_; intro V hV hbv x2 cN cO cP cQ cR cS cT cY cZ da db dc dd de df dg dh di dj dk dl dm dn dp dq dr ds dt du dv dw dx dy dz dA dB dC dD dE dF dG dH dI dJ dK dL dM dN dO dP dQ dR dS dT dU dV dW dX dY dZ fa fb fc fd fe ff fg fh fi fj fk fl fm fn fo fp fq fr fs ft fu fv fw fx fy fz fA fB fC fD fE fF fG fH fI; refine HK3.out _ _ ?_; have HV := qh hV; have HRV : Hid (∀ j u, l[j]? = some u → V.cell? ⟨g, j, none⟩ = some (int i64 u)) := qh (fun j u hj => Ae hbv (hrow.out j u hj)); clear HK3 K3 hV hbv; go_wp2_with fail; go_roundw
   case rel => exact ⟨i + 1, by go_num, by omega, HV, HRV⟩
   case measure => simp [intOf]; omega
  ·have : i = n := by omega
   subst this; have hz : ¬ (i : Int) < (i : Int) := by omega
   go_wp2_with fail; exact HN.out _ hW.out _ _ _ _ _ _ _ _ _ _ _ _ _ _ _ _ _ _ _ _ _ _ _ _ _ _ _ _ _ _ _ _ _ _ _ _ _ _ _ _ _ _ _ _ _ _ _ _ _ _ _ _ _ _ _ _ _ _ _ _ _ _ _ _ _ _ _ _ _ _ _ _ _ _ _ _ _ _ _ _ _ _ _ _ _ _ _ _ _ _ _ _ _ _ _ _ _ _ _ _ _
theorem QZ (s : Ls) (ns : List Int) (n : Nat) (vl : Value) (bl : Bool) (w W : World) (h : LawIn s ns w) (hc : Bp s.strip ns = 0) (hW : LawW s w W) (hn : s.phrases.length = n) (hn1 : n ≤ 64) (e0 e2 e6 e7 e8 e9 ea eb ec ed ee ef eg eh ei ej ek el em en eo ep eq er es et eu ev ew ex ey ez eA eB eC eD eE eF eG eH eI eJ eK eL eM eN eO eP eQ eR eS eT eU eV eW eX eY eZ aa ab ac ad ae af ag ah ai aj ak al am an ao ap aq ar au av aw ax ay az aA aB aC aD aE aF aG aH aI aJ aK aL aM aN aO aP aQ aR aS aT aU aV aW aX aY aZ ba bb bc bd be bf bg bh bi bj bk bm bn bo bp bq br bs bt bu bv bw bx bz bA bB bC bD bE bF bG bH bI bJ bK bL bM bN bO bP bQ bR bS bT bU bV bW bX bY bZ ca cb cc cd ce cf cg ch ci cj ck cl cm cn co cp cq cr cs ct cu cv cw cx cy cz cA cB cC cD cE cF cG cH cI cJ cK cL cM cN : Value) (R : Exit → Act → World → Prop)
  (hrest : ∀ (V : World) (lf : Nat), lf ≤ 64 → LawW s w V → Below W.heap.size W V → (Bf (s.nexts (AG s.strip)) = [] → lf = 0) → (Bf (s.nexts (AG s.strip)) ≠ [] → 0 < lf) → ∀ (x0 x2 x5 x8 x9 cO cP cQ cR cS cT cU cV cW cX cY cZ da db dc dd de df dg dh di dj dk dl dm dn dp dq dr ds dt du dv dw dx dy dz dA dB dC dD dE dF dG dH dI dJ dK dL dM dN dO dP dQ dR dS dT dU dV dW dX dY dZ fb fd fe ff fg fh fi fj fk fl fm fn fo fp fq fr fs ft fu fv fw fx fy fz fA fB fC fD fE fF fG fH fI fJ fK fL fM fN fO fP fQ fR fS fT fU fV fW fX fY fZ ga gb gc gd ge gf gg gh gi gj gk gl gm gn go gp gq gr gs gt gu gv gw gx gy gz gA gB gC gD gE gF gG gH gI gJ gK gL gM gN gO gP gQ gR gS gT gU gV gW gX gY gZ ha hd he hf hg hh hi hj hk hl hm ho hp hq hr hs ht hu hv hw hx hy hz hA hB hC hD : Value), (Ab 8 Qq).wp Try.prog R { tmps := #[x0, .pointer (some ⟨w.heap.size, 0, none⟩), x2, vl, .bool bl, x5, .slice (some ⟨W.heap.size, 0, none⟩) n n, int i64 (lf : Nat), x8, x9, cO, cP, cQ, cR, cS, cT, cU, cV, cW, cX, cY, cZ, da, db, dc, dd, de, df, dg, dh, di, dj, dk, dl, dm, dn, dp, dq, dr, ds, dt, du, dv, dw, dx, dy, dz, dA, dB, dC, dD, dE, dF, dG, dH, dI, dJ, dK, dL, dM, dN, dO, dP, dQ, dR, dS, dT, dU, dV, dW, dX, dY, dZ, fb, fd, fe, ff, fg, fh, fi, fj, fk, fl, fm, fn, fo, fp, fq, fr, fs, ft, fu, fv, fw, fx, fy, fz, fA, fB, fC, fD, fE, fF, fG, fH, fI, fJ, fK, fL, fM, fN, fO, fP, fQ, fR, fS, fT, fU, fV, fW, fX, fY, fZ, ga, gb, gc, gd, ge, gf, gg, gh, gi, gj, gk, gl, gm, gn, go, gp, gq, gr, gs, gt, gu, gv, gw, gx, gy, gz, gA, gB, gC, gD, gE, gF, gG, gH, gI, gJ, gK, gL, gM, gN, gO, gP, gQ, gR, gS, gT, gU, gV, gW, gX, gY, gZ, ha, hd, he, hf, hg, hh, hi, hj, hk, hl, hm, ho, hp, hq, hr, hs, ht, hu, hv, hw, hx, hy, hz, hA, hB, hC, hD], defers := [] } V) :
  (Ab 4 Qq).wp Try.prog R { tmps := #[e0, .pointer (some ⟨w.heap.size, 0, none⟩), e2, vl, .bool bl, int i64 0, e6, e7, e8, e9, ea, eb, ec, ed, ee, ef, eg, eh, ei, ej, ek, el, em, en, eo, ep, eq, er, es, et, eu, ev, ew, ex, ey, ez, eA, eB, eC, eD, eE, eF, eG, eH, eI, eJ, eK, eL, eM, eN, eO, eP, eQ, eR, eS, eT, eU, eV, eW, eX, eY, eZ, aa, ab, ac, ad, ae, af, ag, ah, ai, aj, ak, al, am, an, ao, ap, aq, ar, au, av, aw, ax, ay, az, aA, aB, aC, aD, aE, aF, aG, aH, aI, aJ, aK, aL, aM, aN, aO, aP, aQ, aR, aS, aT, aU, aV, aW, aX, aY, aZ, ba, bb, bc, bd, be, bf, bg, bh, bi, bj, bk, bm, bn, bo, bp, bq, br, bs, bt, bu, bv, bw, bx, bz, bA, bB, bC, bD, bE, bF, bG, bH, bI, bJ, bK, bL, bM, bN, bO, bP, bQ, bR, bS, bT, bU, bV, bW, bX, bY, bZ, ca, cb, cc, cd, ce, cf, cg, ch, ci, cj, ck, cl, cm, cn, co, cp, cq, cr, cs, ct, cu, cv, cw, cx, cy, cz, cA, cB, cC, cD, cE, cF, cG, cH, cI, cJ, cK, cL, cM, cN], defers := [] } W := by
 have y10 : W.cell? ⟨w.heap.size, 10, none⟩ = some (.slice s.fa n s.fc) := by rw [← hn]; exact Aa hW.box 10 rfl
 have hmk := QT n (by omega) W; have hb : Below W.heap.size W (W.alloc (.cells (Array.replicate n (.bool false)) 4)) := (Below.refl _ W).alloc (qn _) _; have hbb := RS.new W n; have hWb := hW.next hb
 have HH := qh h; have HC := qh hc; have HN := qh hn; have HR := qh hrest; have HB := qh hb; have HBB := qh hbb; have HWB := qh hWb; have hlt : w.heap.size < W.heap.size := (qs.1 hW.box).1; clear h hc hn hrest hb hbb hWb hW; obtain ⟨W2, hW2⟩ : ∃ W2, W.alloc (.cells (Array.replicate n (.bool false)) 4) = W2 := ⟨_, rfl⟩; rw [hW2] at hmk HB HBB HWB; clear hW2; rw [RD]; refine Ac (fun K1 hK1 => ?_); have HK1 := qh hK1; clear hK1
 conv => arg 2; whnf
 go_wp2_with fail; refine HK1.out _ _ ?_; clear HK1 K1; rw [RE]; refine Ac (fun K1 hK1 => ?_); have HK1 := qh hK1; clear hK1
 conv => arg 2; whnf
 go_wp2_with fail; refine HK1.out _ _ ?_; clear HK1 K1 hmk y10; rw [RF]; refine Ac (fun K1 hK1 => ?_); have HK1 := qh hK1; clear hK1
 conv => arg 2; whnf
 go_wp2_with fail; refine HK1.out _ _ ?_; clear HK1 K1; rw [RG]; refine Ac (fun K1 hK1 => ?_); refine Rm s ns W.heap.size n w W W2 HH.out HC.out HWB.out HB.out (qn _) HN.out hn1 HBB.out hlt (QH HC.out) _ _ _ _ _ _ _ _ _ _ _ _ _ _ _ _ _ _ _ _ _ _ _ _ _ _ _ _ _ _ _ _ _ _ _ _ _ _ _ _ _ _ _ _ _ _ _ _ _ _ _ _ _ _ _ _ _ _ _ _ _ _ _ _ _ _ _ _ _ _ _ _ _ _ _ _ _ _ _ _ _ _ _ _ _ _ _ _ _ _ _ _ _ _ _ _ _ _ _ _ _ _ _ _ _ _ _ _ _ _ _ _ _ _ _ _ _ _ _ _ _ _ _ _ _ _ _ _ _ _ _ _ _ _ _ _ _ _ _ _ _ _ _ _ _ _ _ _ _ _ _ _ _ _ _ _ _ _ _ _ _ _ _ _ _ _ _ _ _ _ _ _ _ _ _ _ _ _ _ _ _ _ _ _ _ _ _ _ _ _ _ _ _ _ _ _ _ _ _ _ ?_; intro V lf hlf hV hbV r1 r2 x9 cO cP cR dz dA dB dC dD dE dF dG dH dI dJ dK dL dM dN dO dP dQ dR dS dT dU dV dW dX dY dZ fb fd fe ff fg fh fi fj fk fl fm fn fo fp fq fr fs ft fu fv; exact hK1 _ _ (HR.out V lf hlf hV hbV r1 r2 _ _ _ _ _ _ _ _ _ _ _ _ _ _ _ _ _ _ _ _ _ _ _ _ _ _ _ _ _ _ _ _ _ _ _ _ _ _ _ _ _ _ _ _ _ _ _ _ _ _ _ _ _ _ _ _ _ _ _ _ _ _ _ _ _ _ _ _ _ _ _ _ _ _ _ _ _ _ _ _ _ _ _ _ _ _ _ _ _ _ _ _ _ _ _ _ _ _ _ _ _ _ _ _ _ _ _ _ _ _ _ _ _ _ _ _ _ _ _ _ _ _ _ _ _ _ _ _ _ _ _ _ _ _ _ _ _ _ _ _ _ _ _ _ _ _ _ _ _ _ _ _ _ _ _ _ _ _ _ _ _ _ _ _ _ _ _ _ _ _ _ _ _ _ _ _ _ _ _ _ _ _ _ _ _ _ _ _ _ _ _ _ _ _ _ _ _)
theorem R9 (s : Ls) (ns : List Int) (w : World) (h : LawIn s ns w) : Calls Try.prog 8 #[s.val] w (fun e w' => e = .returned (.bool true) ∧ Below w.heap.size w w') := by
 refine Rz s ns w h fun W e0 e2 e3 e4 e5 e6 e7 e8 e9 e10 e11 e12 e13 e14 e15 e16 e17 e18 e19 e20 e21 e22 e23 e24 e25 e26 e27 e28 e29 e30 e31 e32 e33 e34 e35 e36 e37 e38 e39 e40 e41 e42 e43 e44 e45 e46 e47 e48 e49 e50 e51 e52 e53 e54 e55 e56 e57 e58 e59 e60 e61 e62 e63 e64 e65 e66 e67 e68 e69 e70 e71 e72 e73 e74 e75 e76 e77 e78 e79 e80 e81 e82 e83 e84 e85 e86 e87 e88 e89 e90 e91 e92 e93 e94 e95 e96 e97 e98 e99 e100 e101 e102 e103 e104 e105 e106 e107 e108 e109 e110 e111 e112 e113 e114 e115 e116 e117 e118 e119 e120 e121 e122 e123 e124 e125 e126 e127 e128 e129 e130 e131 e132 e133 e134 e135 e136 e137 e138 e139 e140 e141 e142 e143 e144 e145 e146 e147 e148 e149 e150 e151 e152 e153 e154 e155 e156 e157 e158 e159 e160 e161 e162 e163 e164 e165 e166 e167 e168 e169 e170 e171 e172 e173 e174 e175 e176 e177 e178 e179 e180 e181 e182 e183 e184 e185 e186 e187 e188 e189 e190 e191 e192 e193 e194 e195 e196 e197 e198 e199 e200 e201 hW hc hf => ?_
 obtain ⟨n, hn⟩ : ∃ n, s.phrases.length = n := ⟨_, rfl⟩; have hn1 : n ≤ 64 := by omega
 have C := Hi s ns W (h.at_.below hW.below) (h.ns.below hW.below) (h.env _ hW.below); have hl : DK s ns = Bf (s.nexts (AG s.strip)) := by unfold DK; rw [if_pos hc]
 unfold NJ at C; rw [hl, hc] at C; unfold Ls.val at C; have HC := qh C; have HL := qh hW.box; have HW := qh hW; have HH := qh h; have HCC := qh hc; have HN := qh hn; clear C hl h hW hf hc hn; rw [RC]; refine Ac (fun K hK => ?_); have HK := qh hK; clear hK
 conv => arg 2; whnf
 by_cases hr : Bf (s.nexts (AG s.strip)) = []
 ·have HRR := qh hr
  rw [hr] at HC; clear hr
  go_wp2_with (refine wpList_load_row rfl 30 _ rfl w.heap.size rfl 30 s.cells (0, 0) _ HL.out Try.underlying30 rfl (by kernel_rfl) ?_; simp only [Act.put, qD, qE, qF]); refine HC.out.mono ?_; rintro e V ⟨v, rfl, hrow, hv⟩; rcases hrow with ⟨_, rfl⟩ | ⟨g, cap, rfl, hne, _⟩
  rotate_left
  ·exact absurd rfl hne
  have HV := qh (HW.out.next hv); clear HC hv; go_wp2_with fail; refine HK.out _ _ ?_; refine QZ s ns n (.slice none 0 0) (decide (([] : List Int) ≠ [])) w V HH.out HCC.out HV.out HN.out hn1 _ _ _ _ _ _ _ _ _ _ _ _ _ _ _ _ _ _ _ _ _ _ _ _ _ _ _ _ _ _ _ _ _ _ _ _ _ _ _ _ _ _ _ _ _ _ _ _ _ _ _ _ _ _ _ _ _ _ _ _ _ _ _ _ _ _ _ _ _ _ _ _ _ _ _ _ _ _ _ _ _ _ _ _ _ _ _ _ _ _ _ _ _ _ _ _ _ _ _ _ _ _ _ _ _ _ _ _ _ _ _ _ _ _ _ _ _ _ _ _ _ _ _ _ _ _ _ _ _ _ _ _ _ _ _ _ _ _ _ _ _ _ _ _ _ _ _ _ _ _ _ _ _ _ _ _ _ _ _ _ _ _ _ _ _ _ _ _ _ _ _ _ _ _ _ _ _ _ _ _ _ _ _ _ _ _ _ _ _ _ _ _ _ _ _ _ _ _ _ ?_; intro V2 lf hlf hV2 hbV r1 r2 x0 x2 x5 x8 x9 ea eb ec ed ee ef eg eh ei ej ek el em en eo ep eq er es et eu ev ew ex ey ez eA eB eC eD eE eF eG eH eI eJ eK eL eM eN eO eP eQ eR eS eT eU eV eW eX eY eZ aa ab ac ad ae af ag ah ai aj ak al am an ao ap aq ar au av aw ax ay az aA aB aC aD aE aF aG aH aI aJ aK aL aM aN aO aP aQ aR aS aT aU aV aW aX aY aZ ba bb bc bd be bf bg bh bi bj bk bl bm bn bo bp bq br bs bt bu bv bw bx bz bA bB bC bD bE bF bG bH bI bJ bK bL bM bN bO bP bQ bR bS bT bU bV bW bX bY bZ ca cb cc cd ce cf cg ch ci cj ck cl cm cn co cp cq cr cs ct cu cv cw cx cy cz cA cB cC cD cE cF cG cH cI cJ cK cL cM; obtain rfl : lf = 0 := r1 HRR.out; have HV2 := qh hV2; clear HK K r1 r2 hV2 hbV hlf; rw [show decide (([] : List Int) ≠ []) = false from rfl]; rw [QY]; refine Ac (fun K hK => ?_); clear hK
  conv => arg 2; whnf
  go_wp2_with fail
  try simp only [Exit.then]
  go_ret; exact ⟨rfl, HV2.out.below⟩
 ·have HRR := qh hr
  go_wp2_with (refine wpList_load_row rfl 30 _ rfl w.heap.size rfl 30 s.cells (0, 0) _ HL.out Try.underlying30 rfl (by kernel_rfl) ?_; simp only [Act.put, qD, qE, qF]); refine HC.out.mono ?_; rintro e V ⟨v, rfl, hrow, hv⟩; rcases hrow with ⟨he, _⟩ | ⟨g, lc, rfl, hne, hcl⟩
  ·exact absurd he hr
  have HV := qh (HW.out.next hv); have hd : decide (Bf (s.nexts (AG s.strip)) ≠ []) = true := decide_eq_true hr; rw [hd]; obtain ⟨l, hl⟩ : ∃ l, Bf (s.nexts (AG s.strip)) = l := ⟨_, rfl⟩; obtain ⟨m, hm⟩ : ∃ m, l.length = m := ⟨_, rfl⟩; rw [hl] at hcl ⊢; rw [hm]
  have hm0 : 0 < m := by
   rcases Nat.eq_zero_or_pos m with e | e
   ·rw [e] at hm; exact absurd (hl.trans (List.length_eq_zero_iff.1 hm)) hr
   ·exact e
  have hmb : m ≤ 1000 := by
   rw [← hm, ← hl]; obtain ⟨i, hi, h0, h1, _⟩ := Qw hr; exact Rn hr (by have := HN.out; simp [Ls.nexts]; omega)
  have HLL := qh hl; have HM := qh hm; have HCL := qh hcl; clear HC hv hcl hl hm hd hr; go_wp2_with fail; refine HK.out _ _ ?_; refine QZ s ns n (.slice (some ⟨g, 0, none⟩) m lc) true w V HH.out HCC.out HV.out HN.out hn1 _ _ _ _ _ _ _ _ _ _ _ _ _ _ _ _ _ _ _ _ _ _ _ _ _ _ _ _ _ _ _ _ _ _ _ _ _ _ _ _ _ _ _ _ _ _ _ _ _ _ _ _ _ _ _ _ _ _ _ _ _ _ _ _ _ _ _ _ _ _ _ _ _ _ _ _ _ _ _ _ _ _ _ _ _ _ _ _ _ _ _ _ _ _ _ _ _ _ _ _ _ _ _ _ _ _ _ _ _ _ _ _ _ _ _ _ _ _ _ _ _ _ _ _ _ _ _ _ _ _ _ _ _ _ _ _ _ _ _ _ _ _ _ _ _ _ _ _ _ _ _ _ _ _ _ _ _ _ _ _ _ _ _ _ _ _ _ _ _ _ _ _ _ _ _ _ _ _ _ _ _ _ _ _ _ _ _ _ _ _ _ _ _ _ _ _ _ _ _ ?_; intro V2 lf hlf hV2 hbV r1 r2 x0 x2 x5 x8 x9 ea eb ec ed ee ef eg eh ei ej ek el em en eo ep eq er es et eu ev ew ex ey ez eA eB eC eD eE eF eG eH eI eJ eK eL eM eN eO eP eQ eR eS eT eU eV eW eX eY eZ aa ab ac ad ae af ag ah ai aj ak al am an ao ap aq ar au av aw ax ay az aA aB aC aD aE aF aG aH aI aJ aK aL aM aN aO aP aQ aR aS aT aU aV aW aX aY aZ ba bb bc bd be bf bg bh bi bj bk bl bm bn bo bp bq br bs bt bu bv bw bx bz bA bB bC bD bE bF bG bH bI bJ bK bL bM bN bO bP bQ bR bS bT bU bV bW bX bY bZ ca cb cc cd ce cf cg ch ci cj ck cl cm cn co cp cq cr cs ct cu cv cw cx cy cz cA cB cC cD cE cF cG cH cI cJ cK cL cM; have hlf0 : 0 < lf := r2 HRR.out; have HV2 := qh hV2; have HRW : Hid (∀ j u, l[j]? = some u → V2.cell? ⟨g, j, none⟩ = some (int i64 u)) := qh (fun j u hj => Ae hbV (HCL.out.2.2 j u hj)); have z1 : ¬ (lf : Int) = 0 := by omega
  have z2 : ((lf : Int) == 0) = false := by simpa using z1
  have z3 : ¬ (m : Int) = 0 := by omega
  have z4 : ((m : Int) == 0) = false := by simpa using z3
  clear HK K r1 r2 hV2 hbV; rw [QY]; refine Ac (fun K hK => ?_); have HK := qh hK; clear hK
  conv => arg 2; whnf
  go_wp2_with fail; refine HK.out _ _ ?_; clear HK K; rw [RH]; refine Ac (fun K hK => ?_); have HK := qh hK; clear hK
  conv => arg 2; whnf
  go_wp2_with fail; refine HK.out _ _ ?_; clear HK K z1 z2 z3 z4; rw [Rl]; refine Ac (fun K hK => ?_); have HK := qh hK; clear hK; refine Re s ns g m lc V.heap.size n l w V2 HH.out HCC.out HV2.out HN.out hn1 HM.out hmb HRW.out HLL.out.symm _ _ _ _ _ _ _ _ _ _ _ _ _ _ _ _ _ _ _ _ _ _ _ _ _ _ _ _ _ _ _ _ _ _ _ _ _ _ _ _ _ _ _ _ _ _ _ _ _ _ _ _ _ _ _ _ _ _ _ _ _ _ _ _ _ _ _ _ _ _ _ _ _ _ _ _ _ _ _ _ _ _ _ _ _ _ _ _ _ _ _ _ _ _ _ _ _ _ _ _ _ _ _ _ _ _ _ _ _ _ _ _ _ _ _ _ _ _ _ _ _ _ _ _ _ _ _ _ _ _ _ _ _ _ _ _ _ _ _ _ _ _ _ _ _ _ _ _ _ _ _ _ _ _ _ _ _ _ _ _ _ _ _ _ _ _ _ _ _ _ _ _ _ _ _ _ _ _ _ _ _ _ _ _ _ _ _ _ _ _ _ _ _ _ _ _ _ _ _ _ ?_; intro V3 hV3 x2 ee ef eg eh ei ej el aX aY aZ ba bb bc bd be bf bg bh bi bj bk bl bm bn bo bp bq br bs bt bu bv bw bx bz bA bB bC bD bE bF bG bH bI bJ bK bL bM bN bO bP bQ bR bS bT bU bV bW bX bY bZ ca cb cc cd ce cf cg ch ci cj ck cl cm cn co cp cq cr cs ct cu cv cw cx cy cz cA cB cC cD cE cF cG cH cI cJ cK cL cM; refine HK.out _ _ ?_; have HV3 := qh hV3; clear HK K hV3
  conv => arg 2; whnf
  go_wp2_with fail; go_ret; exact ⟨rfl, HV3.out.below⟩
end
end Go.Proofs.Ytpnbpepkoekkoaa
