/- The walk of the statement: part 5. -/
import Derived.Test.YtggcbblikgankaaGreatDoorYEg4p4
import Derived.Test.YtggcbblikgankaaGreatDoorZ30
import Derived.Test.YtggcbblikgankaaGreatDoorZ3
set_option linter.unusedVariables false
set_option linter.unusedSimpArgs false
set_option maxRecDepth 100000
set_option maxHeartbeats 16000000
namespace Go.Proofs.YtggcbblikgankaaGreatDoor
open Go.Value (int)
open Go.IntKind (i64)
section
open Go Go.RowKit Go.Deep Go.Sort
theorem P0 {k : Wrk} {x : Sgn} {b : Bod} (hk : Ao k = 0) (hx : x ∈ k.signs) (hb : AG b = true) (role : Int) (r : List Sgn) (s : Int) (hr : x.role = role) : Av k b role (x :: r) s = match Di k x b with | [] => -1 | o :: _ => Av k b role r (s + Aj x o) := by
 rw [Em, if_pos hr, (RL hk hx hb).2]
 cases h : Di k x b with
 | nil => rfl
 | cons o l =>
  have hf := (OW hk hx hb).form 0 o (by rw [h]; rfl)
  show Av k b role r (s + CA k x.id o) = _
  rw [(Q9 hk hx hf.2.1 hf.1).2]
theorem ME {k : Wrk} {x : Sgn} {b : Bod} (role : Int) (r : List Sgn) (s : Int) (hr : ¬ x.role = role) : Av k b role (x :: r) s = Av k b role r s := by
 rw [Em, if_neg hr]
structure PrcW (w : World) (ws : Array Value) (b : Bod) (wr : World) : Prop where
 trn : wr.heap[w.heap.size]? = some (.cells ws 32 (0, 0))
 bod : wr.heap[w.heap.size + 1]? = some (.cells #[.string ⟨b.name.toArray⟩, int i64 b.weight, int i64 b.lift, int i64 b.girth, int i64 b.step, int i64 b.jump, int i64 b.r0, int i64 b.r1, int i64 b.r2, int i64 b.s0, int i64 b.s1, int i64 b.s2, int i64 b.t0, int i64 b.t1, int i64 b.t2, int i64 b.effort, int i64 b.recover] 35 (0, 0))
 below : Below w.heap.size w wr
theorem PrcW.next {w : World} {ws : Array Value} {b : Bod} {wr w2 : World} (h : PrcW w ws b wr) (hb : Below wr.heap.size wr w2) : PrcW w ws b w2 :=
 ⟨(hb.block _ (qs.1 h.trn).1).trans h.trn, (hb.block _ (qs.1 h.bod).1).trans h.bod, h.below.trans (hb.mono h.below.size)⟩
theorem Kg (k : Wrk) (b : Bod) (role : Int) (hk : Ao k = 0) (hb : AG b = true) (hsg : k.signs.length ≤ 4096) (ws : Array Value) (w : World) (hWk : WkAt k ws w) : Calls Tryz.prog 44 #[.agg ws, Bh b, int i64 role] w fun e w' => e = .returned (int i64 (Av k b role k.signs 0)) ∧ Below w.heap.size w w' := by
 obtain ⟨aR, aT, aP, aX, aS, cR, cT, cP, cX, cS, rfl, hR, hT, hP, hX, hS⟩ := hWk
 obtain ⟨ans, hans⟩ : ∃ ans, Av k b role k.signs 0 = ans := ⟨_, rfl⟩
 rw [hans]
 have hof := fun (x : Sgn) (hx : x ∈ k.signs) (W : World) => RR hk hx hb W
 have hpr := fun (x : Sgn) (o : Rea) (W : World) => MT x o W
 have hp1 := fun (x : Sgn) (hx : x ∈ k.signs) (r : List Sgn) (s : Int) (hr : x.role = role) => P0 hk hx hb role r s hr
 have hbd := fun (x : Sgn) (hx : x ∈ k.signs) (o : Rea) => (⟨P7 (Da hk hx), Jl x o⟩ : FX x o = Aj x o ∧ (0 ≤ Aj x o ∧ Aj x o ≤ 64))
 have hrow := fun (i : Nat) (x : Sgn) (h : k.signs[i]? = some x) => RT hS h
 unfold AR Bh at hof
 unfold AR IM at hpr
 have hps := fun (x : Sgn) (r : List Sgn) (s : Int) (hr : ¬ x.role = role) => ME (k := k) (b := b) role r s hr
 have HOF := qh hof; have HPR := qh hpr; have HP1 := qh hp1; have HPS := qh hps; have HBD := qh hbd; have HROW := qh hrow; have HANS := qh hans
 clear hof hpr hp1 hps hbd hrow hR hT hP hX hS hans hb hk
 generalize hss : k.signs = ss at *
 have HSS := qh hss
 clear hss
 generalize hnS : ss.length = nS at *
 have HNS := qh hnS
 clear hnS
 generalize k.width = wd at *
 generalize k.depth = dp at *
 generalize k.ta = ta at *
 generalize k.tb = tb at *
 generalize k.tc = tc at *
 generalize k.clock.bars = bars at *
 generalize Value.slice aR k.roles.length cR = vR at *
 generalize Value.slice aT k.clock.tempos.length cT = vT at *
 generalize Value.slice aP k.clock.pauses.length cP = vP at *
 generalize Value.slice aX k.clock.spans.length cX = vX at *
 obtain ⟨k0, k1, kz, kb⟩ := Bn w (.cells #[int i64 wd, int i64 dp, int i64 ta, int i64 tb, int i64 tc, vR, int i64 bars, vT, vP, vX, .slice aS nS cS] 32) (.cells #[.string ⟨b.name.toArray⟩, int i64 b.weight, int i64 b.lift, int i64 b.girth, int i64 b.step, int i64 b.jump, int i64 b.r0, int i64 b.r1, int i64 b.r2, int i64 b.s0, int i64 b.s1, int i64 b.s2, int i64 b.t0, int i64 b.t1, int i64 b.t2, int i64 b.effort, int i64 b.recover] 35)
 have hw0 : PrcW w #[int i64 wd, int i64 dp, int i64 ta, int i64 tb, int i64 tc, vR, int i64 bars, vT, vP, vX, .slice aS nS cS] b ((w.alloc (.cells #[int i64 wd, int i64 dp, int i64 ta, int i64 tb, int i64 tc, vR, int i64 bars, vT, vP, vX, .slice aS nS cS] 32)).alloc (.cells #[.string ⟨b.name.toArray⟩, int i64 b.weight, int i64 b.lift, int i64 b.girth, int i64 b.step, int i64 b.jump, int i64 b.r0, int i64 b.r1, int i64 b.r2, int i64 b.s0, int i64 b.s1, int i64 b.s2, int i64 b.t0, int i64 b.t1, int i64 b.t2, int i64 b.effort, int i64 b.recover] 35)) := ⟨k0, k1, kb⟩
 have HW0 := qh hw0
 clear hw0 k0 k1 kz kb
 unfold Bh
 go_enter Tryz.func44, Tryz.ntmps44
 go_wp2_with fail
 generalize (w.alloc (.cells #[int i64 wd, int i64 dp, int i64 ta, int i64 tb, int i64 tc, vR, int i64 bars, vT, vP, vX, .slice aS nS cS] 32)).alloc (.cells #[.string ⟨b.name.toArray⟩, int i64 b.weight, int i64 b.lift, int i64 b.girth, int i64 b.step, int i64 b.jump, int i64 b.r0, int i64 b.r1, int i64 b.r2, int i64 b.s0, int i64 b.s1, int i64 b.s2, int i64 b.t0, int i64 b.t1, int i64 b.t2, int i64 b.effort, int i64 b.recover] 35) = w0 at *
 have HA0 : Hid (ans = Av k b role (ss.drop 0) 0) := qh HANS.out.symm
 go_loopw [7, 8] (fun sv iv wr => ∃ (i : Nat) (s : Int), i ≤ nS ∧ iv = int i64 i ∧ sv = int i64 s ∧ 0 ≤ s ∧ s ≤ 64 * (i : Int) ∧ Hid (ans = Av k b role (ss.drop i) s) ∧ Hid (PrcW w #[int i64 wd, int i64 dp, int i64 ta, int i64 tb, int i64 tc, vR, int i64 bars, vT, vP, vX, .slice aS nS cS] b wr)) (fun _ iv _ => nS - (intOf iv).toNat)
 case atStart => exact ⟨0, 0, Nat.zero_le _, rfl, rfl, by omega, by omega, HA0, HW0⟩
 case round =>
  clear HA0 HW0
  obtain ⟨i, s, hi, rfl, rfl, hs0, hs1, hA, hW⟩ := hrel
  have c10 := A0 hW.out.trn 10 rfl
  by_cases hin : i < nS
  ·have hin' : (i : Int) < (nS : Int) := by omega
   obtain ⟨x, hx⟩ : ∃ x, ss[i]? = some x := ⟨_, qg (by rw [HNS.out]; exact hin)⟩
   obtain ⟨bs, os, hao, hlt, hcells⟩ := HROW.out i x hx
   subst hao
   have hxm := List.mem_of_getElem? hx
   have hAx := hA.out
   rw [Ab hx] at hAx
   obtain ⟨p0, p1, p2, p3, p4, p5, p6, p7, p8, p9, p10, p11, p12, p13⟩ := hcells wr hW.out.below
   have hW5 := hW.out.next ((Below.refl wr.heap.size wr).alloc (qn _) (.cells #[int i64 x.id, int i64 x.role, int i64 x.bar, int i64 x.mark, int i64 x.kind, int i64 x.side, int i64 x.dir, int i64 x.level, int i64 x.size, int i64 x.wth, int i64 x.fn, int i64 x.fd, int i64 x.tn, int i64 x.td] 72))
   have hrw := heap_alloc_new wr (.cells #[int i64 x.id, int i64 x.role, int i64 x.bar, int i64 x.mark, int i64 x.kind, int i64 x.side, int i64 x.dir, int i64 x.level, int i64 x.size, int i64 x.wth, int i64 x.fn, int i64 x.fd, int i64 x.tn, int i64 x.td] 72)
   have HAX := qh hAx; have HXM := qh hxm; have HW5 := qh hW5; have HRW := qh hrw
   clear hx hlt hcells hxm hAx hW5 hrw hA
   by_cases hro : x.role = role
   case neg =>
    have f1 : (x.role != role) = true := by simpa using hro
    have HA2 : Hid (ans = Av k b role (ss.drop (i + 1)) s) := qh (by rw [HAX.out, HPS.out x _ _ hro])
    clear hro HAX
    go_wp2_with fail
    go_roundw
    case rel => exact ⟨i + 1, s, by omega, by go_num, rfl, hs0, by omega, HA2, HW5⟩
    case measure => simp [intOf]; omega
   have f1 : (x.role != role) = false := by simpa using hro
   have HA2 := qh (HAX.out.trans (HP1.out x HXM.out _ _ hro))
   have HO := qh (HOF.out x HXM.out)
   have u2 := A0 HW5.out.trn 2 rfl; have u3 := A0 HW5.out.trn 3 rfl; have u4 := A0 HW5.out.trn 4 rfl
   clear hro HAX hW
   go_wp2_with (first | (refine wpList_load_row rfl 72 _ rfl wr.heap.size rfl 72 _ (0, 0) _ HRW.out Tryz.underlying72 rfl (by kernel_rfl) ?_; simp only [Act.put, qD, qE, qF]) | (refine wpList_load_row rfl 35 _ rfl (w.heap.size + 1) rfl 35 _ (0, 0) _ HW5.out.bod Tryz.underlying35 rfl (by kernel_rfl) ?_; simp only [Act.put, qD, qE, qF]))
   clear p0 p1 p2 p3 p4 p5 p6 p7 p8 p9 p10 p11 p12 p13 c10
   generalize wr.alloc (.cells #[int i64 x.id, int i64 x.role, int i64 x.bar, int i64 x.mark, int i64 x.kind, int i64 x.side, int i64 x.dir, int i64 x.level, int i64 x.size, int i64 x.wth, int i64 x.fn, int i64 x.fd, int i64 x.tn, int i64 x.td] 72) = w5 at *
   generalize wr.heap.size = gx at *
   refine (HO.out _).mono ?_
   rintro e w6 ⟨v, rfl, ho, hb6⟩
   have HW6 := qh (HW5.out.next hb6)
   have HR6 := qh ((hb6.block gx (qs.1 HRW.out).1).trans HRW.out)
   clear hb6 u2 u3 u4 f1
   cases hL : Di k x b with
   | nil =>
    rw [hL] at ho HA2
    obtain rfl : ans = -1 := HA2.out
    have hv : v = .slice none 0 0 ∨ ∃ g c, v = .slice (some ⟨g, 0, none⟩) 0 c := by
     rcases ho.2 with ⟨e, _⟩ | ⟨g, c, _, e, _⟩
     ·exact Or.inl e
     ·exact Or.inr ⟨g, c, e⟩
    clear ho hL
    rcases hv with rfl | ⟨g, c, rfl⟩
    all_goals
     go_wp2_with fail
     go_ret
     exact ⟨rfl, HW6.out.below⟩
   | cons o l =>
    rw [hL] at ho HA2
    have HA3 : Hid (ans = Av k b role (ss.drop (i + 1)) (s + Aj x o)) := qh HA2.out
    obtain ⟨hpe, hp0, hp64⟩ := HBD.out x HXM.out o
    obtain ⟨ao, c, hve, hml, hrw2⟩ := CI ER ho rfl
    have hrow2 : IsRow Ai 4 w6 (.slice ao (o :: l).length c) (o :: l) := ⟨ao, c, rfl, hml, hrw2⟩
    obtain ⟨bo, oo, hao, hat, hlt2⟩ := hrow2.block (i := 0) (x := o) rfl
    subst hao
    subst hve
    have r0 : w6.cell? ⟨bo, oo, none⟩ = some (int i64 o.sign) := by have := hat 0 o rfl 0 _ rfl; simpa using this
    have r1 : w6.cell? ⟨bo, oo + 1, none⟩ = some (int i64 o.dir) := by have := hat 0 o rfl 1 _ rfl; simpa using this
    have r2 : w6.cell? ⟨bo, oo + 2, none⟩ = some (int i64 o.level) := by have := hat 0 o rfl 2 _ rfl; simpa using this
    have r3 : w6.cell? ⟨bo, oo + 3, none⟩ = some (.bool o.drop) := by have := hat 0 o rfl 3 _ rfl; simpa using this
    have HPX := qh (HPR.out x o)
    rw [hpe] at HPX
    have hpos : 0 < (o :: l).length := by simp
    have hne : (((o :: l).length : Int) == 0) = false := by simp only [List.length_cons, beq_eq_false_iff_ne, ne_eq]; omega
    simp only [maxLen] at hml
    have hgx : gx < w6.heap.size := (qs.1 HR6.out).1
    have hbo : bo < w6.heap.size := hlt2
    clear ho hL hpe hrow2 hat hlt2 hrw2 HA2
    generalize (o :: l).length = nL at *
    generalize Aj x o = q at *
    have hwq : IntKind.i64.wrap (s + q) = s + q := IntWalk.i64_in _ (by omega)
    have x0 : w6.cell? ⟨gx, 0, none⟩ = some (int i64 x.id) := A0 HR6.out 0 rfl
    have x1 : w6.cell? ⟨gx, 1, none⟩ = some (int i64 x.role) := A0 HR6.out 1 rfl
    have x2 : w6.cell? ⟨gx, 2, none⟩ = some (int i64 x.bar) := A0 HR6.out 2 rfl
    have x3 : w6.cell? ⟨gx, 3, none⟩ = some (int i64 x.mark) := A0 HR6.out 3 rfl
    have x4 : w6.cell? ⟨gx, 4, none⟩ = some (int i64 x.kind) := A0 HR6.out 4 rfl
    have x5 : w6.cell? ⟨gx, 5, none⟩ = some (int i64 x.side) := A0 HR6.out 5 rfl
    have x6 : w6.cell? ⟨gx, 6, none⟩ = some (int i64 x.dir) := A0 HR6.out 6 rfl
    have x7 : w6.cell? ⟨gx, 7, none⟩ = some (int i64 x.level) := A0 HR6.out 7 rfl
    have x8 : w6.cell? ⟨gx, 8, none⟩ = some (int i64 x.size) := A0 HR6.out 8 rfl
    have x9 : w6.cell? ⟨gx, 9, none⟩ = some (int i64 x.wth) := A0 HR6.out 9 rfl
    have x10 : w6.cell? ⟨gx, 10, none⟩ = some (int i64 x.fn) := A0 HR6.out 10 rfl
    have x11 : w6.cell? ⟨gx, 11, none⟩ = some (int i64 x.fd) := A0 HR6.out 11 rfl
    have x12 : w6.cell? ⟨gx, 12, none⟩ = some (int i64 x.tn) := A0 HR6.out 12 rfl
    have x13 : w6.cell? ⟨gx, 13, none⟩ = some (int i64 x.td) := A0 HR6.out 13 rfl
    go_wp2_with fail
    have KS : Hid (∀ w2, Below w6.heap.size w6 w2 → w2.cell? ⟨gx, 0, none⟩ = some (int i64 x.id) ∧ w2.cell? ⟨gx, 1, none⟩ = some (int i64 x.role) ∧ w2.cell? ⟨gx, 2, none⟩ = some (int i64 x.bar) ∧ w2.cell? ⟨gx, 3, none⟩ = some (int i64 x.mark) ∧ w2.cell? ⟨gx, 4, none⟩ = some (int i64 x.kind) ∧ w2.cell? ⟨gx, 5, none⟩ = some (int i64 x.side) ∧ w2.cell? ⟨gx, 6, none⟩ = some (int i64 x.dir) ∧ w2.cell? ⟨gx, 7, none⟩ = some (int i64 x.level) ∧ w2.cell? ⟨gx, 8, none⟩ = some (int i64 x.size) ∧ w2.cell? ⟨gx, 9, none⟩ = some (int i64 x.wth) ∧ w2.cell? ⟨gx, 10, none⟩ = some (int i64 x.fn) ∧ w2.cell? ⟨gx, 11, none⟩ = some (int i64 x.fd) ∧ w2.cell? ⟨gx, 12, none⟩ = some (int i64 x.tn) ∧ w2.cell? ⟨gx, 13, none⟩ = some (int i64 x.td) ∧ w2.cell? ⟨bo, oo, none⟩ = some (int i64 o.sign) ∧ w2.cell? ⟨bo, oo + 1, none⟩ = some (int i64 o.dir) ∧ w2.cell? ⟨bo, oo + 2, none⟩ = some (int i64 o.level) ∧ w2.cell? ⟨bo, oo + 3, none⟩ = some (.bool o.drop)) := qh fun w2 h => ⟨(h.cell (p := ⟨gx, 0, none⟩) hgx).trans x0, (h.cell (p := ⟨gx, 1, none⟩) hgx).trans x1, (h.cell (p := ⟨gx, 2, none⟩) hgx).trans x2, (h.cell (p := ⟨gx, 3, none⟩) hgx).trans x3, (h.cell (p := ⟨gx, 4, none⟩) hgx).trans x4, (h.cell (p := ⟨gx, 5, none⟩) hgx).trans x5, (h.cell (p := ⟨gx, 6, none⟩) hgx).trans x6, (h.cell (p := ⟨gx, 7, none⟩) hgx).trans x7, (h.cell (p := ⟨gx, 8, none⟩) hgx).trans x8, (h.cell (p := ⟨gx, 9, none⟩) hgx).trans x9, (h.cell (p := ⟨gx, 10, none⟩) hgx).trans x10, (h.cell (p := ⟨gx, 11, none⟩) hgx).trans x11, (h.cell (p := ⟨gx, 12, none⟩) hgx).trans x12, (h.cell (p := ⟨gx, 13, none⟩) hgx).trans x13, (h.cell (p := ⟨bo, oo, none⟩) hbo).trans r0, (h.cell (p := ⟨bo, oo + 1, none⟩) hbo).trans r1, (h.cell (p := ⟨bo, oo + 2, none⟩) hbo).trans r2, (h.cell (p := ⟨bo, oo + 3, none⟩) hbo).trans r3⟩
    clear x0 x1 x2 x3 x4 x5 x6 x7 x8 x9 x10 x11 x12 x13 r0 r1 r2 r3
    refine wp_region_noPanic ?_
    refine wp_region_held (S := fun w2 => w2.cell? ⟨gx, 0, none⟩ = some (int i64 x.id) ∧ w2.cell? ⟨gx, 1, none⟩ = some (int i64 x.role) ∧ w2.cell? ⟨gx, 2, none⟩ = some (int i64 x.bar) ∧ w2.cell? ⟨gx, 3, none⟩ = some (int i64 x.mark) ∧ w2.cell? ⟨gx, 4, none⟩ = some (int i64 x.kind) ∧ w2.cell? ⟨gx, 5, none⟩ = some (int i64 x.side) ∧ w2.cell? ⟨gx, 6, none⟩ = some (int i64 x.dir) ∧ w2.cell? ⟨gx, 7, none⟩ = some (int i64 x.level) ∧ w2.cell? ⟨gx, 8, none⟩ = some (int i64 x.size) ∧ w2.cell? ⟨gx, 9, none⟩ = some (int i64 x.wth) ∧ w2.cell? ⟨gx, 10, none⟩ = some (int i64 x.fn) ∧ w2.cell? ⟨gx, 11, none⟩ = some (int i64 x.fd) ∧ w2.cell? ⟨gx, 12, none⟩ = some (int i64 x.tn) ∧ w2.cell? ⟨gx, 13, none⟩ = some (int i64 x.td) ∧ w2.cell? ⟨bo, oo, none⟩ = some (int i64 o.sign) ∧ w2.cell? ⟨bo, oo + 1, none⟩ = some (int i64 o.dir) ∧ w2.cell? ⟨bo, oo + 2, none⟩ = some (int i64 o.level) ∧ w2.cell? ⟨bo, oo + 3, none⟩ = some (.bool o.drop)) (by kernel_rfl) ?_
    change wpAnyH _ _ _ _ _ _ _ _ w6.drew
    have hS := KS.out _ (Below.refl w6.heap.size w6).drew
    refine tq 0 _ (int i64 s) rfl (by kernel_rfl) (fun _ _ _ h => h) (Or.inl ⟨by kernel_rfl, fun w hw => by obtain ⟨h0, h1, h2, h3, h4, h5, h6, h7, h8, h9, h10, h11, h12, h13, h14, h15, h16, h17⟩ := hw; go_simp⟩) hS ?_
    simp only [qA, qB, qC, Act.put, qD, qE, qF]
    refine tq 1 _ (.agg #[int i64 x.id, int i64 x.role, int i64 x.bar, int i64 x.mark, int i64 x.kind, int i64 x.side, int i64 x.dir, int i64 x.level, int i64 x.size, int i64 x.wth, int i64 x.fn, int i64 x.fd, int i64 x.tn, int i64 x.td]) rfl (by kernel_rfl) (fun _ _ _ h => h) (Or.inl ⟨by kernel_rfl, fun w hw => by obtain ⟨h0, h1, h2, h3, h4, h5, h6, h7, h8, h9, h10, h11, h12, h13, h14, h15, h16, h17⟩ := hw; go_simp⟩) hS ?_
    simp only [qA, qB, qC, Act.put, qD, qE, qF]
    refine tq 2 _ (.slice (some ⟨bo, oo, none⟩) nL c) rfl (by kernel_rfl) (fun _ _ _ h => h) (Or.inl ⟨by kernel_rfl, fun w hw => by obtain ⟨h0, h1, h2, h3, h4, h5, h6, h7, h8, h9, h10, h11, h12, h13, h14, h15, h16, h17⟩ := hw; go_simp⟩) hS ?_
    simp only [qA, qB, qC, Act.put, qD, qE, qF]
    refine tq 3 _ (.pointer (some ⟨bo, oo, none⟩)) rfl (by kernel_rfl) (fun _ _ _ h => h) (Or.inl ⟨by kernel_rfl, fun w hw => by obtain ⟨h0, h1, h2, h3, h4, h5, h6, h7, h8, h9, h10, h11, h12, h13, h14, h15, h16, h17⟩ := hw; go_simp⟩) hS ?_
    simp only [qA, qB, qC, Act.put, qD, qE, qF]
    refine tq 4 _ (.agg #[int i64 o.sign, int i64 o.dir, int i64 o.level, .bool o.drop]) rfl (by kernel_rfl) (fun _ _ _ h => h) (Or.inl ⟨by kernel_rfl, fun w hw => by obtain ⟨h0, h1, h2, h3, h4, h5, h6, h7, h8, h9, h10, h11, h12, h13, h14, h15, h16, h17⟩ := hw; go_simp⟩) hS ?_
    simp only [qA, qB, qC, Act.put, qD, qE, qF]
    refine tr 5 _ (by kernel_rfl) rfl fun K1 hK => ?_
    go_simp
    refine (HPX.out _).mono ?_
    rintro e w7 ⟨rfl, hb7⟩
    have hbX : Below w6.heap.size w6 w7 := (Below.refl w6.heap.size w6).drew.trans hb7
    have HW7 := qh (HW6.out.next hbX)
    have hS2 := KS.out _ hbX
    refine hK.out _ _ hS2 (fun _ => ?_)
    clear hK K1 hS hb7 hbX
    try simp only [qA, qB, qC, Act.put, qD, qE, qF]
    refine tq 6 _ (int i64 (s + q)) rfl (by kernel_rfl) (fun _ _ _ h => h) (Or.inl ⟨by kernel_rfl, fun w hw => by obtain ⟨h0, h1, h2, h3, h4, h5, h6, h7, h8, h9, h10, h11, h12, h13, h14, h15, h16, h17⟩ := hw; go_simp⟩) hS2 ?_
    simp only [qA, qB, qC, Act.put, qD, qE, qF]
    refine tq 7 _ (int i64 (s + q)) rfl (by kernel_rfl) (fun _ _ _ h => h) (Or.inl ⟨by kernel_rfl, fun w hw => by obtain ⟨h0, h1, h2, h3, h4, h5, h6, h7, h8, h9, h10, h11, h12, h13, h14, h15, h16, h17⟩ := hw; go_simp⟩) hS2 ?_
    simp only [qA, qB, qC, Act.put, qD, qE, qF]
    refine wpAnyH_done (by kernel_rfl) ?_ _
    refine NoPanic.normal ?_
    clear hS2
    go_wp2_with fail
    go_roundw
    case rel => exact ⟨i + 1, s + q, by omega, by go_num, by first | rfl | (rw [hwq]), by omega, by omega, HA3, HW7⟩
    case measure => simp [intOf]; omega
  ·obtain rfl : i = nS := by omega
   have hin' : ¬ (i : Int) < (i : Int) := by omega
   have HF : Hid (ans = s) := qh (by
    have := hA.out
    rw [List.drop_of_length_le (by rw [HNS.out]; exact qn _)] at this
    rw [this]; rfl)
   clear hA
   go_wp2_with fail
   go_ret
   exact ⟨by rw [HF.out]; rfl, hW.out.below⟩
end
end Go.Proofs.YtggcbblikgankaaGreatDoor
