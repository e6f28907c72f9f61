/- Contracts and plain laws on the way to the statement: part 36. -/
import Derived.Test.YtggcbblikgankaaGreatDoorZ35
import Derived.Test.YtggcbblikgankaaGreatDoorZ34
import Derived.Test.YtggcbblikgankaaGreatDoorZ7
set_option linter.unusedVariables false
set_option linter.unusedSimpArgs false
section
namespace Go.Proofs.YtggcbblikgankaaGreatDoor
open Go Go.RowKit
def armS : Sgn := ⟨3, 0, 0, 1, 4, 1, 1, 2, 0, 0, 0, 1, 1, 1⟩
def legS : Sgn := ⟨5, 0, 0, 3, 3, 1, 1, 3, 0, 0, 0, 1, 1, 1⟩
structure SmallAt (w' : World) (R T S : Nat) : Prop where
 r : w'.heap[R]? = some (.cells #[.string ⟨#[97]⟩, .int .i64 0, .int .i64 0, .int .i64 0] 86 (0, 0))
 t : w'.heap[T]? = some (.cells #[.int .i64 0, .int .i64 100, .int .i64 0] 88 (0, 0))
 s : w'.heap[S]? = some (.cells (sgnA armS ++ sgnA legS) 72 (0, 0))
end Go.Proofs.YtggcbblikgankaaGreatDoor
end
section
namespace Go.Proofs.YtggcbblikgankaaGreatDoor
open Go Go.RowKit
end Go.Proofs.YtggcbblikgankaaGreatDoor
end
section
namespace Go.Proofs.YtggcbblikgankaaGreatDoor
open Go Go.RowKit
theorem atRea {w : World} {b o i : Nat} {xs : List Rea} {t : Rea} (h : AtRow encRea 4 w b o xs) (ht : xs[i]? = some t) :
  w.cell? ⟨b, o + i * 4, none⟩ = some (.int .i64 t.sign) ∧ w.cell? ⟨b, o + i * 4 + 1, none⟩ = some (.int .i64 t.dir) ∧ w.cell? ⟨b, o + i * 4 + 2, none⟩ = some (.int .i64 t.level) ∧ w.cell? ⟨b, o + i * 4 + 3, none⟩ = some (.bool t.drop) :=
 ⟨h i t ht 0 _ rfl, h i t ht 1 _ rfl, h i t ht 2 _ rfl, h i t ht 3 _ rfl⟩
end Go.Proofs.YtggcbblikgankaaGreatDoor
end
section
namespace Go.Proofs.YtggcbblikgankaaGreatDoor
open Go Go.RowKit
end Go.Proofs.YtggcbblikgankaaGreatDoor
end
section
namespace Go.Proofs.YtggcbblikgankaaGreatDoor
open Go Go.RowKit
end Go.Proofs.YtggcbblikgankaaGreatDoor
end
section
namespace Go.Proofs.YtggcbblikgankaaGreatDoor
open Go Go.RowKit
def WkAt (k : Wrk) (ws : Array Value) (w : World) : Prop :=
 ∃ (aR aT aP aX aS : Option Addr) (cR cT cP cX cS : Nat),
  ws = #[.int .i64 k.width, .int .i64 k.depth, .int .i64 k.ta, .int .i64 k.tb, .int .i64 k.tc, .slice aR k.roles.length cR, .int .i64 k.clock.bars, .slice aT k.clock.tempos.length cT, .slice aP k.clock.pauses.length cP, .slice aX k.clock.spans.length cX, .slice aS k.signs.length cS] ∧
  IsRow encR 4 w (.slice aR k.roles.length cR) k.roles ∧ IsRow encT 3 w (.slice aT k.clock.tempos.length cT) k.clock.tempos ∧ IsRow encP 4 w (.slice aP k.clock.pauses.length cP) k.clock.pauses ∧ IsRow encC 4 w (.slice aX k.clock.spans.length cX) k.clock.spans ∧ IsRow encS 14 w (.slice aS k.signs.length cS) k.signs
section
variable {k : Wrk} {ws : Array Value} {w : World}
theorem WkAt.below {w' : World} {B : Nat} (h : WkAt k ws w) (hb : Below B w w') (hB : w.heap.size ≤ B) : WkAt k ws w' := by
 obtain ⟨aR, aT, aP, aX, aS, cR, cT, cP, cX, cS, e, hR, hT, hP, hX, hS⟩ := h
 exact ⟨aR, aT, aP, aX, aS, cR, cT, cP, cX, cS, e, hR.below hb hB, hT.below hb hB, hP.below hb hB, hX.below hb hB, hS.below hb hB⟩
theorem WkAt.size (h : WkAt k ws w) : (Tryz.prog.info? 32).map (·.size) = some ws.size := by
 obtain ⟨aR, aT, aP, aX, aS, cR, cT, cP, cX, cS, rfl, _⟩ := h
 kernel_rfl
theorem WkAt.check (h : WkAt k ws w) (hE : Env w) : Calls Tryz.prog 42 #[.agg ws] w fun e w' => e = .returned (.int .i64 (wrkE k)) ∧ Below w.heap.size w w' := by
 obtain ⟨aR, aT, aP, aX, aS, cR, cT, cP, cX, cS, rfl, hR, hT, hP, hX, hS⟩ := h
 exact echeck_any _ _ _ _ _ _ _ _ _ _ _ _ _ _ _ _ _ _ _ _ _ w hE hR hT hP hX hS
theorem WkAt.options (h : WkAt k ws w) (hE : Env w) (hz : 2 ≤ w.heap.size) (n : Int) (b : Bod) (hbn : b.name.length ≤ maxLen) :
  Calls Tryz.prog 9 #[.agg ws, .int .i64 n, bodV b] w fun e w' => ∃ v, e = .returned (.tuple #[v, .int .i64 (optE k n b)]) ∧ w'.ownsRow w.heap.size 37 4 v (optR k n b).length ((optR k n b).flatMap encRea) ∧ Below w.heap.size w w' := by
 obtain ⟨aR, aT, aP, aX, aS, cR, cT, cP, cX, cS, rfl, hR, hT, hP, hX, hS⟩ := h
 exact options_any n b hbn _ _ _ _ _ _ _ _ _ _ _ _ _ _ _ _ _ _ _ _ _ w hE hz hR hT hP hX hS
theorem WkAt.cost (h : WkAt k ws w) (hE : Env w) (n : Int) (r : Rea) : Calls Tryz.prog 11 #[.agg ws, .int .i64 n, reaV r] w (costR (costI k n r) (costE k n r) w) := by
 obtain ⟨aR, aT, aP, aX, aS, cR, cT, cP, cX, cS, rfl, hR, hT, hP, hX, hS⟩ := h
 exact cost_any n r _ _ _ _ _ _ _ _ _ _ _ _ _ _ _ _ _ _ _ _ _ w hE hR hT hP hX hS
end
end Go.Proofs.YtggcbblikgankaaGreatDoor
end
section
namespace Go.Proofs.YtggcbblikgankaaGreatDoor
open Go Go.RowKit Go.Deep
def priceM (k : Wrk) (b : Bod) (role : Int) : List Sgn → Int → Int
 | [], s => s
 | x :: r, s => if x.role = role then (match optR k x.id b with | [] => -1 | o :: _ => priceM k b role r (s + costI k x.id o)) else priceM k b role r s
theorem priceM_cons (k : Wrk) (b : Bod) (role : Int) (x : Sgn) (r : List Sgn) (s : Int) : priceM k b role (x :: r) s = if x.role = role then (match optR k x.id b with | [] => -1 | o :: _ => priceM k b role r (s + costI k x.id o)) else priceM k b role r s := rfl
theorem priceI_bd (s : Sgn) (r : Rea) : 0 ≤ priceI s r ∧ priceI s r ≤ 64 := by
 unfold priceI
 repeat' split
 all_goals omega
theorem costI_bd (k : Wrk) (n : Int) (r : Rea) : 0 ≤ costI k n r ∧ costI k n r ≤ 64 := by
 unfold costI
 split
 ·exact priceI_bd _ _
 ·omega
theorem yieldsIf_rowH {P : Program} {ops : Array Oper} {S : World → Prop} {op : Oper} {a : Act} (hw : Region.wanted op (yielded ops a.tmps) = true) (ty : TypeId) (x : Operand) (ho : op.op = .load ty x)
  (g : Nat) (hx : a.eval x = .pointer (some ⟨g, 0, none⟩)) (t : TypeId) (cs : Array Value) (fr : Nat × Nat) (d : TypeDesc) (hS : ∀ w, S w → w.heap[g]? = some (.cells cs t fr))
  (hu : P.underlying ty = some d) (hd : (match d with | .struct _ | .array _ _ => true | _ => false) = true) (hi : (P.info? ty).map (·.size) = some cs.size) : YieldsIf P ops S op (.agg cs) a :=
 .inl ⟨hw, fun w hw' => by
  unfold execOp
  simp only [ho, hx, Instr.loadAt, Instr.sureAddr, Sem.run_bind, Sem.run_pure, Result.andThen_ok, run_loadVar_row w g t ty cs fr d (hS w hw') hu hd hi]⟩
set_option maxRecDepth 100000 in
set_option maxHeartbeats 8000000 in
theorem price_any (k : Wrk) (b : Bod) (role : Int) (hbn : b.name.length ≤ maxLen) (hsg : k.signs.length ≤ 1048576) (ws : Array Value) (A Bb : Nat) (w : World) (hE : Env w) (hz : 2 ≤ w.heap.size) (hWk : WkAt k ws w) (hA : w.heap[A]? = some (.cells ws 32 (0, 0))) (hB : w.heap[Bb]? = some (.cells (bodCells b) 35 (0, 0))) :
  Calls Tryz.prog 43 #[.int .i64 role, .pointer (some ⟨A, 0, none⟩), .pointer (some ⟨Bb, 0, none⟩)] w fun e w' => e = .returned (.int .i64 (priceM k b role k.signs 0)) ∧ Below w.heap.size w w' := by
 have hOPT := fun (n : Int) (W : World) (hb : Below w.heap.size w W) => (hWk.below hb (Nat.le_refl _)).options (Env.two hE hz hb) (Nat.le_trans hz hb.size) n b hbn
 have hCOST := fun (n : Int) (r : Rea) (W : World) (hb : Below w.heap.size w W) => (hWk.below hb (Nat.le_refl _)).cost (Env.two hE hz hb) n r
 have hsz := hWk.size
 have hAl := (Array.getElem?_eq_some_iff.1 hA).1
 have hBl := (Array.getElem?_eq_some_iff.1 hB).1
 obtain ⟨cS, n, aS, hcS, hrow, hn⟩ : ∃ (cS n : Nat) (aS : Option Addr), w.cell? ⟨A, 10, none⟩ = some (.slice aS n cS) ∧ IsRow encS 14 w (.slice aS n cS) k.signs ∧ k.signs.length = n := by
  obtain ⟨aR, aT, aP, aX, aS, cR, cT, cP, cX, cS, rfl, _, _, _, _, hS⟩ := hWk
  exact ⟨cS, k.signs.length, aS, cell_at hA 10 rfl, hS, rfl⟩
 have HOPT := Lib.hid hOPT; have HCOST := Lib.hid hCOST; have HSZ := Lib.hid hsz; have HA := Lib.hid hA; have HB := Lib.hid hB; have HROW := Lib.hid hrow; have HN := Lib.hid hn
 have hnm : n ≤ 1048576 := by have := HN.out; omega
 clear hOPT hCOST hsz hA hB hrow hn hWk hE
 go_enter Tryz.func43, Tryz.ntmps43
 go_wp2_with fail
 go_loopw [4, 14] (fun sv iv wr => ∃ (i : Nat) (s : Int), i ≤ n ∧ iv = .int .i64 i ∧ sv = .int .i64 s ∧ 0 ≤ s ∧ s ≤ 64 * i ∧ Hid (priceM k b role (k.signs.drop i) s = priceM k b role k.signs 0) ∧ Hid (Below w.heap.size w wr)) (fun _ iv _ => n - (intOf iv).toNat)
 case atStart => exact ⟨0, 0, Nat.zero_le _, rfl, rfl, Int.le_refl _, by omega, Lib.hid rfl, Lib.hid (Below.refl _ _)⟩
 case round =>
  obtain ⟨i, s, hin, rfl, rfl, hs0, hs1, hP, hW⟩ := hrel
  by_cases hi : i < n
  ·obtain ⟨x, hx⟩ : ∃ x, k.signs[i]? = some x := ⟨_, List.getElem?_eq_getElem (by rw [HN.out]; exact hi)⟩
   have hd : k.signs.drop i = x :: k.signs.drop (i + 1) := by
    obtain ⟨h1, h2⟩ := List.getElem?_eq_some_iff.1 hx
    rw [List.drop_eq_getElem_cons h1, h2]
   have hp2 := hP.out
   rw [hd, priceM_cons] at hp2
   obtain ⟨b1, o1, hp1, hat, hb1⟩ := (HROW.out.below hW.out (Nat.le_refl _)).block hx
   subst hp1
   have p0 : wr.cell? ⟨b1, o1 + i * 14, none⟩ = some (.int .i64 x.id) := hat i x hx 0 _ rfl
   have p1 : wr.cell? ⟨b1, o1 + i * 14 + 1, none⟩ = some (.int .i64 x.role) := hat i x hx 1 _ rfl
   have p2 : wr.cell? ⟨b1, o1 + i * 14 + 2, none⟩ = some (.int .i64 x.bar) := hat i x hx 2 _ rfl
   have p3 : wr.cell? ⟨b1, o1 + i * 14 + 3, none⟩ = some (.int .i64 x.mark) := hat i x hx 3 _ rfl
   have p4 : wr.cell? ⟨b1, o1 + i * 14 + 4, none⟩ = some (.int .i64 x.kind) := hat i x hx 4 _ rfl
   have p5 : wr.cell? ⟨b1, o1 + i * 14 + 5, none⟩ = some (.int .i64 x.side) := hat i x hx 5 _ rfl
   have p6 : wr.cell? ⟨b1, o1 + i * 14 + 6, none⟩ = some (.int .i64 x.dir) := hat i x hx 6 _ rfl
   have p7 : wr.cell? ⟨b1, o1 + i * 14 + 7, none⟩ = some (.int .i64 x.level) := hat i x hx 7 _ rfl
   have p8 : wr.cell? ⟨b1, o1 + i * 14 + 8, none⟩ = some (.int .i64 x.size) := hat i x hx 8 _ rfl
   have p9 : wr.cell? ⟨b1, o1 + i * 14 + 9, none⟩ = some (.int .i64 x.wth) := hat i x hx 9 _ rfl
   have p10 : wr.cell? ⟨b1, o1 + i * 14 + 10, none⟩ = some (.int .i64 x.fn) := hat i x hx 10 _ rfl
   have p11 : wr.cell? ⟨b1, o1 + i * 14 + 11, none⟩ = some (.int .i64 x.fd) := hat i x hx 11 _ rfl
   have p12 : wr.cell? ⟨b1, o1 + i * 14 + 12, none⟩ = some (.int .i64 x.tn) := hat i x hx 12 _ rfl
   have p13 : wr.cell? ⟨b1, o1 + i * 14 + 13, none⟩ = some (.int .i64 x.td) := hat i x hx 13 _ rfl
   have hi' : (i : Int) < (n : Int) := by omega
   have hW1 : Below w.heap.size w (wr.alloc (.cells (sgnA x) 72)) := hW.out.alloc hW.out.size _
   have x0 : (wr.alloc (.cells (sgnA x) 72)).cell? ⟨wr.heap.size, 0, none⟩ = some (.int .i64 x.id) := cell_at (heap_alloc_new wr _) 0 rfl
   have x1 : (wr.alloc (.cells (sgnA x) 72)).cell? ⟨wr.heap.size, 1, none⟩ = some (.int .i64 x.role) := cell_at (heap_alloc_new wr _) 1 rfl
   have HSA : Hid ((sgnA x).all (·.oneCell') = true) := Lib.hid (by simp [sgnA, Value.oneCell'])
   have HX := Lib.hid hx; have HP2 := Lib.hid hp2; have HW1 := Lib.hid hW1
   have X0 := Lib.hid (heap_alloc_new wr (.cells (sgnA x) 72))
   clear hx hp2 hW1 hat hb1 hd hP
   have hA1 := (Below.heap_alloc wr (.cells (sgnA x) 72) A (Nat.lt_of_lt_of_le hAl hW.out.size)).trans ((hW.out.block A hAl).trans HA.out)
   have hB1 := (Below.heap_alloc wr (.cells (sgnA x) 72) Bb (Nat.lt_of_lt_of_le hBl hW.out.size)).trans ((hW.out.block Bb hBl).trans HB.out)
   have GA := Lib.hid hA1; have GB := Lib.hid hB1
   clear hA1 hB1
   by_cases hr : x.role = role
   ·have hne : (x.role != role) = false := by simp [hr]
    have HR := Lib.hid hr
    have hP3 := HP2.out
    rw [if_pos hr] at hP3
    have HP3 := Lib.hid hP3
    clear hr hP3 HP2
    go_wp2_with (first | (refine wpList_store_row rfl 72 _ _ rfl wr.heap.size (sgnA x) rfl rfl 72 _ (heap_alloc_new wr _) (by kernel_rfl) rfl HSA.out ?_; rw [World.setRow_alloc_new]) | (refine wpList_load_row rfl 32 _ rfl A rfl 32 _ (0, 0) _ GA.out Tryz.underlying32 rfl HSZ.out ?_; simp only [Act.put, List.setIfInBounds_toArray, List.set_cons_zero, List.set_cons_succ]) | (refine wpList_load_row rfl 35 _ rfl Bb rfl 35 (bodCells b) (0, 0) _ GB.out Tryz.underlying35 rfl (by kernel_rfl) ?_; simp only [Act.put, List.setIfInBounds_toArray, List.set_cons_zero, List.set_cons_succ]))
    refine (HOPT.out x.id _ HW1.out).mono ?_
    rintro e w2 ⟨v, rfl, ho, hb2⟩
    obtain ⟨ao, c, rfl, hlm, _⟩ := owns_isRow encRea_len ho rfl
    have hW2 := HW1.out.trans (hb2.mono HW1.out.size)
    have hs2 : (wr.alloc (.cells (sgnA x) 72)).heap.size = wr.heap.size + 1 := by simp
    have y0 : w2.cell? ⟨wr.heap.size, 0, none⟩ = some (.int .i64 x.id) := (hb2.cell (p := ⟨wr.heap.size, 0, none⟩) (by rw [hs2]; exact Nat.lt_succ_self _)).trans x0
    have hwl : wr.heap.size < w2.heap.size := by have := hb2.size; omega
    have yA := (hb2.block A (by rw [hs2]; have := hW.out.size; omega)).trans GA.out
    have HO := Lib.hid ho; have HW2 := Lib.hid hW2; have YA := Lib.hid yA
    clear ho hb2 hW2 GA GB x0 x1 X0 HW1 HSA p0 p1 p2 p3 p4 p5 p6 p7 p8 p9 p10 p11 p12 p13 hs2 yA
    by_cases he : optE k x.id b = 0
    ·have hee : (optE k x.id b != 0) = false := by simp [he]
     rcases hl : optR k x.id b with _ | ⟨o, l⟩
     ·have HP4 := HP3.out
      rw [hl] at HP4 HO
      have HP5 := Lib.hid HP4
      clear HP4 hl he
      go_wp2_with fail
      go_ret
      exact ⟨by rw [← HP5.out]; rfl, HW2.out⟩
     ·have HP4 := HP3.out
      have hrow := owns_isRow encRea_len HO.out rfl
      rw [hl] at HP4 hrow
      have HP5 : Hid (priceM k b role (k.signs.drop (i + 1)) (s + costI k x.id o) = priceM k b role k.signs 0) := Lib.hid HP4
      have hll : (o :: l).length = l.length + 1 := rfl
      rw [hll] at hrow
      have hr0 : (o :: l)[0]? = some o := rfl
      obtain ⟨g, og, eg, hat, hgl⟩ := hrow.block hr0
      subst eg
      obtain ⟨q0, q1, q2, q3⟩ := atRea hat hr0
      rw [hll]
      have hln : ((l.length + 1 : Nat) : Int) ≠ 0 := by omega
      have hln2 : (((l.length : Int) + 1) == 0) = false := by simp; omega
      clear HP4 hl he hrow hr0 hat hll HO
      generalize l.length = ll at *
      go_wp2_with fail
      have hcost := HCOST.out x.id o
      have hcb := costI_bd k x.id o
      have HCC := Lib.hid hcost
      clear hcost
      generalize costI k x.id o = ci at *
      generalize costE k x.id o = ce at *
      refine wp_region_noPanic ?_
      refine wp_region_held (S := fun w3 => w3.heap[A]? = some (.cells ws 32 (0, 0)) ∧ w3.cell? ⟨wr.heap.size, 0, none⟩ = some (.int .i64 x.id) ∧ w3.cell? ⟨g, og, none⟩ = some (.int .i64 o.sign) ∧ w3.cell? ⟨g, og + 1, none⟩ = some (.int .i64 o.dir) ∧ w3.cell? ⟨g, og + 2, none⟩ = some (.int .i64 o.level) ∧ w3.cell? ⟨g, og + 3, none⟩ = some (.bool o.drop)) (by kernel_rfl) ?_
      change wpAnyH _ _ _ _ _ _ _ _ w2.drew
      have hS0 : w2.drew.heap[A]? = some (.cells ws 32 (0, 0)) ∧ w2.drew.cell? ⟨wr.heap.size, 0, none⟩ = some (.int .i64 x.id) ∧ w2.drew.cell? ⟨g, og, none⟩ = some (.int .i64 o.sign) ∧ w2.drew.cell? ⟨g, og + 1, none⟩ = some (.int .i64 o.dir) ∧ w2.drew.cell? ⟨g, og + 2, none⟩ = some (.int .i64 o.level) ∧ w2.drew.cell? ⟨g, og + 3, none⟩ = some (.bool o.drop) := ⟨YA.out, y0, q0, q1, q2, q3⟩
      refine wpAnyH_take (i := 0) (oi := _) (v := .agg ws) rfl (by kernel_rfl) (by kernel_rfl) (by kernel_rfl) (fun _ _ _ h => h) (yieldsIf_rowH rfl 32 _ rfl A rfl 32 ws (0, 0) _ (fun _ h => h.1) Tryz.underlying32 rfl HSZ.out) hS0 ?_
      simp only [Act.put, List.setIfInBounds_toArray, List.set_cons_zero, List.set_cons_succ]
      refine wpAnyH_take (i := 1) (oi := _) (v := .pointer (some ⟨wr.heap.size, 0, none⟩)) rfl (by kernel_rfl) (by kernel_rfl) (by kernel_rfl) (fun _ _ _ h => h) (Or.inl ⟨by rfl, fun w hw => by obtain ⟨h1, h2, h3, h4, h5, h6⟩ := hw; go_simp⟩) hS0 ?_
      simp only [Act.put, List.setIfInBounds_toArray, List.set_cons_zero, List.set_cons_succ]
      refine wpAnyH_take (i := 2) (oi := _) (v := .int .i64 x.id) rfl (by kernel_rfl) (by kernel_rfl) (by kernel_rfl) (fun _ _ _ h => h) (Or.inl ⟨by rfl, fun w hw => by obtain ⟨h1, h2, h3, h4, h5, h6⟩ := hw; go_simp⟩) hS0 ?_
      simp only [Act.put, List.setIfInBounds_toArray, List.set_cons_zero, List.set_cons_succ]
      refine wpAnyH_take (i := 3) (oi := _) (v := .slice (some ⟨g, og, none⟩) (ll + 1) c) rfl (by kernel_rfl) (by kernel_rfl) (by kernel_rfl) (fun _ _ _ h => h) (Or.inl ⟨by rfl, fun w hw => by obtain ⟨h1, h2, h3, h4, h5, h6⟩ := hw; go_simp⟩) hS0 ?_
      simp only [Act.put, List.setIfInBounds_toArray, List.set_cons_zero, List.set_cons_succ]
      refine wpAnyH_take (i := 4) (oi := _) (v := .pointer (some ⟨g, og, none⟩)) rfl (by kernel_rfl) (by kernel_rfl) (by kernel_rfl) (fun _ _ _ h => h) (Or.inl ⟨by rfl, fun w hw => by obtain ⟨h1, h2, h3, h4, h5, h6⟩ := hw; go_simp⟩) hS0 ?_
      simp only [Act.put, List.setIfInBounds_toArray, List.set_cons_zero, List.set_cons_succ]
      refine wpAnyH_take (i := 5) (oi := _) (v := .agg #[.int .i64 o.sign, .int .i64 o.dir, .int .i64 o.level, .bool o.drop]) rfl (by kernel_rfl) (by kernel_rfl) (by kernel_rfl) (fun _ _ _ h => h) (Or.inl ⟨by rfl, fun w hw => by obtain ⟨h1, h2, h3, h4, h5, h6⟩ := hw; go_simp⟩) hS0 ?_
      simp only [Act.put, List.setIfInBounds_toArray, List.set_cons_zero, List.set_cons_succ]
      refine wpAnyH_ready (rs := [6]) (by kernel_rfl) (by simp) ?_
      refine AllReadyH.cons (o := _) rfl (fun K1 hK => ?_) AllReadyH.nil
      go_simp
      refine (HCC.out w2.drew HW2.out.drew).mono ?_
      rintro e w7 ⟨rfl, hb7⟩
      have hS1 : w7.heap[A]? = some (.cells ws 32 (0, 0)) ∧ w7.cell? ⟨wr.heap.size, 0, none⟩ = some (.int .i64 x.id) ∧ w7.cell? ⟨g, og, none⟩ = some (.int .i64 o.sign) ∧ w7.cell? ⟨g, og + 1, none⟩ = some (.int .i64 o.dir) ∧ w7.cell? ⟨g, og + 2, none⟩ = some (.int .i64 o.level) ∧ w7.cell? ⟨g, og + 3, none⟩ = some (.bool o.drop) :=
       ⟨(hb7.block A (Array.getElem?_eq_some_iff.1 YA.out).1).trans YA.out, (hb7.cell (p := ⟨wr.heap.size, 0, none⟩) hwl).trans y0, (hb7.cell (p := ⟨g, og, none⟩) hgl).trans q0, (hb7.cell (p := ⟨g, og + 1, none⟩) hgl).trans q1, (hb7.cell (p := ⟨g, og + 2, none⟩) hgl).trans q2, (hb7.cell (p := ⟨g, og + 3, none⟩) hgl).trans q3⟩
      have HW7 := Lib.hid (HW2.out.drew.trans (hb7.mono HW2.out.drew.size))
      refine hK.out _ _ hS1 (fun _ => ?_)
      clear hK K1 hS0 hb7
      refine wpAnyH_take (i := 7) (oi := _) (v := .tuple #[.int .i64 ci, .int .i64 ce]) rfl (by kernel_rfl) (by kernel_rfl) (by kernel_rfl) (fun _ _ _ h => h) (Or.inl ⟨by rfl, fun w hw => by go_simp⟩) hS1 ?_
      simp only [Act.put, List.setIfInBounds_toArray, List.set_cons_zero, List.set_cons_succ]
      refine wpAnyH_take (i := 8) (oi := _) (v := .int .i64 ci) rfl (by kernel_rfl) (by kernel_rfl) (by kernel_rfl) (fun _ _ _ h => h) (Or.inl ⟨by rfl, fun w hw => by go_simp⟩) hS1 ?_
      simp only [Act.put, List.setIfInBounds_toArray, List.set_cons_zero, List.set_cons_succ]
      refine wpAnyH_take (i := 9) (oi := _) (v := .int .i64 ce) rfl (by kernel_rfl) (by kernel_rfl) (by kernel_rfl) (fun _ _ _ h => h) (Or.inl ⟨by rfl, fun w hw => by go_simp⟩) hS1 ?_
      simp only [Act.put, List.setIfInBounds_toArray, List.set_cons_zero, List.set_cons_succ]
      refine wpAnyH_take (i := 10) (oi := _) (v := .int .i64 ci) rfl (by kernel_rfl) (by kernel_rfl) (by kernel_rfl) (fun _ _ _ h => h) (Or.inl ⟨by rfl, fun w hw => by go_simp⟩) hS1 ?_
      simp only [Act.put, List.setIfInBounds_toArray, List.set_cons_zero, List.set_cons_succ]
      refine wpAnyH_take (i := 11) (oi := _) (v := .int .i64 ce) rfl (by kernel_rfl) (by kernel_rfl) (by kernel_rfl) (fun _ _ _ h => h) (Or.inl ⟨by rfl, fun w hw => by go_simp⟩) hS1 ?_
      simp only [Act.put, List.setIfInBounds_toArray, List.set_cons_zero, List.set_cons_succ]
      refine wpAnyH_done (by kernel_rfl) ?_ _
      refine NoPanic.normal ?_
      clear hS1 q0 q1 q2 q3 y0 YA
      go_wp2_with fail
      go_roundw
      case rel => exact ⟨i + 1, s + ci, by omega, by go_num, rfl, by omega, by omega, HP5, HW7⟩
      case measure => simp [intOf]; omega
    ·have hee : (optE k x.id b != 0) = true := by simpa using he
     have hl : optR k x.id b = [] := by unfold optR; rw [if_neg he]
     have HP4 := HP3.out
     rw [hl] at HP4 HO
     have HP5 := Lib.hid HP4
     clear HP4 hl he
     go_wp2_with fail
     go_ret
     exact ⟨by rw [← HP5.out]; rfl, HW2.out⟩
   ·have hne : (x.role != role) = true := by simpa using hr
    have hP3 := HP2.out
    rw [if_neg hr] at hP3
    have HP3 := Lib.hid hP3
    clear hr hP3 HP2 GA GB
    go_wp2_with (refine wpList_store_row rfl 72 _ _ rfl wr.heap.size (sgnA x) rfl rfl 72 _ (heap_alloc_new wr _) (by kernel_rfl) rfl HSA.out ?_; rw [World.setRow_alloc_new])
    go_roundw
    case rel => exact ⟨i + 1, s, by omega, by go_num, rfl, hs0, by omega, HP3, HW1⟩
    case measure => simp [intOf]; omega
  ·obtain rfl : i = n := by omega
   have hi' : ¬ (i : Int) < (i : Int) := by omega
   have hp := hP.out
   rw [List.drop_eq_nil_of_le (by rw [HN.out]; exact Nat.le_refl _)] at hp
   have HP := Lib.hid (show s = priceM k b role k.signs 0 from hp)
   clear hp hP
   go_wp2_with fail
   go_ret
   exact ⟨by rw [← HP.out]; rfl, hW.out⟩
end Go.Proofs.YtggcbblikgankaaGreatDoor
end
section
namespace Go.Proofs.YtggcbblikgankaaGreatDoor
open Go Go.RowKit
theorem isRow_block {α : Type} {enc : α → List Value} {k : Nat} (hk : ∀ x, (enc x).length = k) {w : World} {g n : Nat} {cs : Array Value} {t : TypeId} {xs : List α} (hg : w.heap[g]? = some (.cells cs t (0, 0))) (hn : xs.length = n) (hm : n ≤ maxLen) (hc : cs.toList = xs.flatMap enc) : IsRow enc k w (.slice (some ⟨g, 0, none⟩) n n) xs := by
 subst hn
 have : w.ownsRow 0 t k (.slice (some ⟨g, 0, none⟩) xs.length xs.length) xs.length (xs.flatMap enc) :=
  ⟨flat_len hk xs, Or.inr ⟨g, xs.length, cs, rfl, Nat.zero_le _, hg, Nat.le_refl _, hm, by rw [← Array.length_toList, hc, flat_len hk], by rw [hc, ← flat_len hk xs, List.take_length]⟩⟩
 exact owns_isRow hk this rfl
theorem encR_len (r : Rol) : (encR r).length = 4 := rfl
theorem encT_len (r : Tmp) : (encT r).length = 3 := rfl
theorem encS_len (r : Sgn) : (encS r).length = 14 := rfl
theorem SmallAt.roles {w : World} {R T S : Nat} (h : SmallAt w R T S) : IsRow encR 4 w (.slice (some ⟨R, 0, none⟩) 1 1) [⟨[97], 0, 0, 0⟩] := isRow_block encR_len h.r rfl (by decide) rfl
theorem SmallAt.tempos {w : World} {R T S : Nat} (h : SmallAt w R T S) : IsRow encT 3 w (.slice (some ⟨T, 0, none⟩) 1 1) [⟨0, 100, 0⟩] := isRow_block encT_len h.t rfl (by decide) rfl
theorem SmallAt.signs {w : World} {R T S : Nat} (h : SmallAt w R T S) : IsRow encS 14 w (.slice (some ⟨S, 0, none⟩) 2 2) [armS, legS] := isRow_block encS_len h.s rfl (by decide) (by simp [sgnA, encS])
theorem SmallAt.below {w w' : World} {R T S : Nat} (h : SmallAt w R T S) (hb : Below w.heap.size w w') : SmallAt w' R T S :=
 ⟨(hb.block _ (Array.getElem?_eq_some_iff.1 h.r).1).trans h.r, (hb.block _ (Array.getElem?_eq_some_iff.1 h.t).1).trans h.t, (hb.block _ (Array.getElem?_eq_some_iff.1 h.s).1).trans h.s⟩
def smallA (ta tb tc : Int) (R T S : Nat) : Array Value := #[.int .i64 20, .int .i64 20, .int .i64 ta, .int .i64 tb, .int .i64 tc, .slice (some ⟨R, 0, none⟩) 1 1, .int .i64 1, .slice (some ⟨T, 0, none⟩) 1 1, .slice none 0 0, .slice none 0 0, .slice (some ⟨S, 0, none⟩) 2 2]
structure SaneAt (w W : World) (K1 K2 R1 T1 S1 R2 T2 S2 : Nat) : Prop where
 k1 : W.heap[K1]? = some (.cells (smallA 1 0 1 R1 T1 S1) 32 (0, 0))
 k2 : W.heap[K2]? = some (.cells (smallA 3 4 5 R2 T2 S2) 32 (0, 0))
 s1 : SmallAt W R1 T1 S1
 s2 : SmallAt W R2 T2 S2
 below0 : Below w.heap.size w W
theorem SaneAt.below {w W W' : World} {K1 K2 R1 T1 S1 R2 T2 S2 : Nat} (h : SaneAt w W K1 K2 R1 T1 S1 R2 T2 S2) (hb : Below W.heap.size W W') : SaneAt w W' K1 K2 R1 T1 S1 R2 T2 S2 :=
 ⟨(hb.block _ (Array.getElem?_eq_some_iff.1 h.k1).1).trans h.k1, (hb.block _ (Array.getElem?_eq_some_iff.1 h.k2).1).trans h.k2, h.s1.below hb, h.s2.below hb, h.below0.trans (hb.mono h.below0.size)⟩
theorem SaneAt.drew {w W : World} {K1 K2 R1 T1 S1 R2 T2 S2 : Nat} (h : SaneAt w W K1 K2 R1 T1 S1 R2 T2 S2) : SaneAt w W.drew K1 K2 R1 T1 S1 R2 T2 S2 := h.below (Below.refl _ _).drew
end Go.Proofs.YtggcbblikgankaaGreatDoor
end
