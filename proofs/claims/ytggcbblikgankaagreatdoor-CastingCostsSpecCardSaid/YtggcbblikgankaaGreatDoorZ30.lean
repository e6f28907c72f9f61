/- Contracts and plain laws on the way to the statement: part 30. -/
import Derived.Test.YtggcbblikgankaaGreatDoorZ29
import Derived.Test.YtggcbblikgankaaGreatDoorZ8
import Derived.Test.YtggcbblikgankaaGreatDoorZ3
set_option linter.unusedVariables false
set_option linter.unusedSimpArgs false
set_option maxRecDepth 100000
set_option maxHeartbeats 16000000
namespace Go.Proofs.YtggcbblikgankaaGreatDoor
open Go.Value (int)
open Go.IntKind (i64)
section
open Go Go.RowKit Go.Deep
def Av (k : Wrk) (b : Bod) (role : Int) : List Sgn → Int → Int
 | [], s => s
 | x :: r, s => if x.role = role then (match Fb k x.id b with | [] => -1 | o :: _ => Av k b role r (s + CA k x.id o)) else Av k b role r s
theorem Em (k : Wrk) (b : Bod) (role : Int) (x : Sgn) (r : List Sgn) (s : Int) : Av k b role (x :: r) s = if x.role = role then (match Fb k x.id b with | [] => -1 | o :: _ => Av k b role r (s + CA k x.id o)) else Av k b role r s := rfl
theorem Jl (s : Sgn) (r : Rea) : 0 ≤ Aj s r ∧ Aj s r ≤ 64 := by
 unfold Aj
 repeat' split
 all_goals omega
theorem PX (k : Wrk) (n : Int) (r : Rea) : 0 ≤ CA k n r ∧ CA k n r ≤ 64 := by
 unfold CA
 split
 ·exact Jl _ _
 ·omega
theorem IS {P : Program} {ops : Array Oper} {S : World → Prop} {op : Oper} {a : Act} (hw : Region.wanted op (yielded ops a.tmps) = true) (ty : TypeId) (x : Operand) (ho : op.op = .load ty x)
  (g : Nat) (hx : a.eval x = .pointer (some ⟨g, 0, none⟩)) (t : TypeId) (cs : Array Value) (fr : Nat × Nat) (d : TypeDesc) (hS : ∀ w, S w → w.heap[g]? = some (.cells cs t fr))
  (hu : P.underlying ty = some d) (hd : (match d with | .struct _ | .array _ _ => true | _ => false) = true) (hi : (P.info? ty).map (·.size) = some cs.size) : YieldsIf P ops S op (.agg cs) a :=
 .inl ⟨hw, fun w hw' => by
  unfold execOp
  simp only [ho, hx, Instr.loadAt, Instr.sureAddr, Sem.run_bind, Sem.run_pure, Result.andThen_ok, run_loadVar_row w g t ty cs fr d (hS w hw') hu hd hi]⟩
theorem OY (k : Wrk) (b : Bod) (role : Int) (hbn : b.name.length ≤ maxLen) (hsg : k.signs.length ≤ 1048576) (ws : Array Value) (A Bb : Nat) (w : World) (hE : Env w) (hz : 2 ≤ w.heap.size) (hWk : WkAt k ws w) (hA : w.heap[A]? = some (.cells ws 32 (0, 0))) (hB : w.heap[Bb]? = some (.cells (A1 b) 35 (0, 0))) :
  Calls Tryz.prog 43 #[int i64 role, .pointer (some ⟨A, 0, none⟩), .pointer (some ⟨Bb, 0, none⟩)] w fun e w' => e = .returned (int i64 (Av k b role k.signs 0)) ∧ Below w.heap.size w w' := by
 have hOPT := fun (n : Int) (W : World) (hb : Below w.heap.size w W) => (hWk.below hb (qn _)).options (Env.two hE hz hb) (Nat.le_trans hz hb.size) n b hbn
 have hCOST := fun (n : Int) (r : Rea) (W : World) (hb : Below w.heap.size w W) => (hWk.below hb (qn _)).cost (Env.two hE hz hb) n r
 have hsz := hWk.size
 have hAl := (qs.1 hA).1
 have hBl := (qs.1 hB).1
 obtain ⟨cS, n, aS, hcS, hrow, hn⟩ : ∃ (cS n : Nat) (aS : Option Addr), w.cell? ⟨A, 10, none⟩ = some (.slice aS n cS) ∧ IsRow CF 14 w (.slice aS n cS) k.signs ∧ k.signs.length = n := by
  obtain ⟨aR, aT, aP, aX, aS, cR, cT, cP, cX, cS, rfl, _, _, _, _, hS⟩ := hWk
  exact ⟨cS, k.signs.length, aS, A0 hA 10 rfl, hS, rfl⟩
 have HOPT := qh hOPT; have HCOST := qh hCOST; have HSZ := qh hsz; have HA := qh hA; have HB := qh hB; have HROW := qh hrow; have HN := qh hn
 have hnm : n ≤ 1048576 := by have := HN.out; omega
 clear hOPT hCOST hsz hA hB hrow hn hWk hE
 go_enter Tryz.func43, Tryz.ntmps43
 go_wp2_with fail
 go_loopw [4, 14] (fun sv iv wr => ∃ (i : Nat) (s : Int), i ≤ n ∧ iv = int i64 i ∧ sv = int i64 s ∧ 0 ≤ s ∧ s ≤ 64 * i ∧ Hid (Av k b role (k.signs.drop i) s = Av k b role k.signs 0) ∧ Hid (Below w.heap.size w wr)) (fun _ iv _ => n - (intOf iv).toNat)
 case atStart => exact ⟨0, 0, Nat.zero_le _, rfl, rfl, Int.le_refl _, by omega, qh rfl, qh (Below.refl _ _)⟩
 case round =>
  obtain ⟨i, s, hin, rfl, rfl, hs0, hs1, hP, hW⟩ := hrel
  by_cases hi : i < n
  ·obtain ⟨x, hx⟩ : ∃ x, k.signs[i]? = some x := ⟨_, qg (by rw [HN.out]; exact hi)⟩
   have hd : k.signs.drop i = x :: k.signs.drop (i + 1) := by
    obtain ⟨h1, h2⟩ := ql.1 hx
    rw [List.drop_eq_getElem_cons h1, h2]
   have hp2 := hP.out
   rw [hd, Em] at hp2
   obtain ⟨b1, o1, hp1, hat, hb1⟩ := (HROW.out.below hW.out (qn _)).block hx
   subst hp1
   have p0 : wr.cell? ⟨b1, o1 + i * 14, none⟩ = some (int i64 x.id) := hat i x hx 0 _ rfl
   have p1 : wr.cell? ⟨b1, o1 + i * 14 + 1, none⟩ = some (int i64 x.role) := hat i x hx 1 _ rfl
   have p2 : wr.cell? ⟨b1, o1 + i * 14 + 2, none⟩ = some (int i64 x.bar) := hat i x hx 2 _ rfl
   have p3 : wr.cell? ⟨b1, o1 + i * 14 + 3, none⟩ = some (int i64 x.mark) := hat i x hx 3 _ rfl
   have p4 : wr.cell? ⟨b1, o1 + i * 14 + 4, none⟩ = some (int i64 x.kind) := hat i x hx 4 _ rfl
   have p5 : wr.cell? ⟨b1, o1 + i * 14 + 5, none⟩ = some (int i64 x.side) := hat i x hx 5 _ rfl
   have p6 : wr.cell? ⟨b1, o1 + i * 14 + 6, none⟩ = some (int i64 x.dir) := hat i x hx 6 _ rfl
   have p7 : wr.cell? ⟨b1, o1 + i * 14 + 7, none⟩ = some (int i64 x.level) := hat i x hx 7 _ rfl
   have p8 : wr.cell? ⟨b1, o1 + i * 14 + 8, none⟩ = some (int i64 x.size) := hat i x hx 8 _ rfl
   have p9 : wr.cell? ⟨b1, o1 + i * 14 + 9, none⟩ = some (int i64 x.wth) := hat i x hx 9 _ rfl
   have p10 : wr.cell? ⟨b1, o1 + i * 14 + 10, none⟩ = some (int i64 x.fn) := hat i x hx 10 _ rfl
   have p11 : wr.cell? ⟨b1, o1 + i * 14 + 11, none⟩ = some (int i64 x.fd) := hat i x hx 11 _ rfl
   have p12 : wr.cell? ⟨b1, o1 + i * 14 + 12, none⟩ = some (int i64 x.tn) := hat i x hx 12 _ rfl
   have p13 : wr.cell? ⟨b1, o1 + i * 14 + 13, none⟩ = some (int i64 x.td) := hat i x hx 13 _ rfl
   have hi' : (i : Int) < (n : Int) := by omega
   have hW1 : Below w.heap.size w (wr.alloc (.cells (Ar x) 72)) := hW.out.alloc hW.out.size _
   have x0 : (wr.alloc (.cells (Ar x) 72)).cell? ⟨wr.heap.size, 0, none⟩ = some (int i64 x.id) := A0 (heap_alloc_new wr _) 0 rfl
   have x1 : (wr.alloc (.cells (Ar x) 72)).cell? ⟨wr.heap.size, 1, none⟩ = some (int i64 x.role) := A0 (heap_alloc_new wr _) 1 rfl
   have HSA : Hid ((Ar x).all (·.oneCell') = true) := qh (by simp [Ar, Value.oneCell'])
   have HX := qh hx; have HP2 := qh hp2; have HW1 := qh hW1
   have X0 := qh (heap_alloc_new wr (.cells (Ar x) 72))
   clear hx hp2 hW1 hat hb1 hd hP
   have hA1 := (Below.heap_alloc wr (.cells (Ar x) 72) A (Nat.lt_of_lt_of_le hAl hW.out.size)).trans ((hW.out.block A hAl).trans HA.out)
   have hB1 := (Below.heap_alloc wr (.cells (Ar x) 72) Bb (Nat.lt_of_lt_of_le hBl hW.out.size)).trans ((hW.out.block Bb hBl).trans HB.out)
   have GA := qh hA1; have GB := qh hB1
   clear hA1 hB1
   by_cases hr : x.role = role
   ·have hne : (x.role != role) = false := by simp [hr]
    have HR := qh hr
    have hP3 := HP2.out
    rw [if_pos hr] at hP3
    have HP3 := qh hP3
    clear hr hP3 HP2
    go_wp2_with (first | (refine wpList_store_row rfl 72 _ _ rfl wr.heap.size (Ar x) rfl rfl 72 _ (heap_alloc_new wr _) (by kernel_rfl) rfl HSA.out ?_; rw [World.setRow_alloc_new]) | (refine wpList_load_row rfl 32 _ rfl A rfl 32 _ (0, 0) _ GA.out Tryz.underlying32 rfl HSZ.out ?_; simp only [Act.put, qD, qE, qF]) | (refine wpList_load_row rfl 35 _ rfl Bb rfl 35 (A1 b) (0, 0) _ GB.out Tryz.underlying35 rfl (by kernel_rfl) ?_; simp only [Act.put, qD, qE, qF]))
    refine (HOPT.out x.id _ HW1.out).mono ?_
    rintro e w2 ⟨v, rfl, ho, hb2⟩
    obtain ⟨ao, c, rfl, hlm, _⟩ := CI ER ho rfl
    have hW2 := HW1.out.trans (hb2.mono HW1.out.size)
    have hs2 : (wr.alloc (.cells (Ar x) 72)).heap.size = wr.heap.size + 1 := by simp
    have y0 : w2.cell? ⟨wr.heap.size, 0, none⟩ = some (int i64 x.id) := (hb2.cell (p := ⟨wr.heap.size, 0, none⟩) (by rw [hs2]; exact Nat.lt_succ_self _)).trans x0
    have hwl : wr.heap.size < w2.heap.size := by have := hb2.size; omega
    have yA := (hb2.block A (by rw [hs2]; have := hW.out.size; omega)).trans GA.out
    have HO := qh ho; have HW2 := qh hW2; have YA := qh yA
    clear ho hb2 hW2 GA GB x0 x1 X0 HW1 HSA p0 p1 p2 p3 p4 p5 p6 p7 p8 p9 p10 p11 p12 p13 hs2 yA
    by_cases he : E9 k x.id b = 0
    ·have hee : (E9 k x.id b != 0) = false := by simp [he]
     rcases hl : Fb k x.id b with _ | ⟨o, l⟩
     ·have HP4 := HP3.out
      rw [hl] at HP4 HO
      have HP5 := qh HP4
      clear HP4 hl he
      go_wp2_with fail
      go_ret
      exact ⟨by rw [← HP5.out]; rfl, HW2.out⟩
     ·have HP4 := HP3.out
      have hrow := CI ER HO.out rfl
      rw [hl] at HP4 hrow
      have HP5 : Hid (Av k b role (k.signs.drop (i + 1)) (s + CA k x.id o) = Av k b role k.signs 0) := qh HP4
      have hll : (o :: l).length = l.length + 1 := rfl
      rw [hll] at hrow
      have hr0 : (o :: l)[0]? = some o := rfl
      obtain ⟨g, og, eg, hat, hgl⟩ := hrow.block hr0
      subst eg
      obtain ⟨q0, q1, q2, q3⟩ := SK hat hr0
      rw [hll]
      have hln : ((l.length + 1 : Nat) : Int) ≠ 0 := by omega
      have hln2 : (((l.length : Int) + 1) == 0) = false := by simp; omega
      clear HP4 hl he hrow hr0 hat hll HO
      generalize l.length = ll at *
      go_wp2_with fail
      have hcost := HCOST.out x.id o
      have hcb := PX k x.id o
      have HCC := qh hcost
      clear hcost
      generalize CA k x.id o = ci at *
      generalize Dx k x.id o = ce at *
      refine wp_region_noPanic ?_
      refine wp_region_held (S := fun w3 => w3.heap[A]? = some (.cells ws 32 (0, 0)) ∧ w3.cell? ⟨wr.heap.size, 0, none⟩ = some (int i64 x.id) ∧ w3.cell? ⟨g, og, none⟩ = some (int i64 o.sign) ∧ w3.cell? ⟨g, og + 1, none⟩ = some (int i64 o.dir) ∧ w3.cell? ⟨g, og + 2, none⟩ = some (int i64 o.level) ∧ w3.cell? ⟨g, og + 3, none⟩ = some (.bool o.drop)) (by kernel_rfl) ?_
      change wpAnyH _ _ _ _ _ _ _ _ w2.drew
      have hS0 : w2.drew.heap[A]? = some (.cells ws 32 (0, 0)) ∧ w2.drew.cell? ⟨wr.heap.size, 0, none⟩ = some (int i64 x.id) ∧ w2.drew.cell? ⟨g, og, none⟩ = some (int i64 o.sign) ∧ w2.drew.cell? ⟨g, og + 1, none⟩ = some (int i64 o.dir) ∧ w2.drew.cell? ⟨g, og + 2, none⟩ = some (int i64 o.level) ∧ w2.drew.cell? ⟨g, og + 3, none⟩ = some (.bool o.drop) := ⟨YA.out, y0, q0, q1, q2, q3⟩
      refine tq 0 _ (.agg ws) rfl (by kernel_rfl) (fun _ _ _ h => h) (IS rfl 32 _ rfl A rfl 32 ws (0, 0) _ (fun _ h => h.1) Tryz.underlying32 rfl HSZ.out) hS0 ?_
      simp only [Act.put, qD, qE, qF]
      refine tq 1 _ (.pointer (some ⟨wr.heap.size, 0, none⟩)) rfl (by kernel_rfl) (fun _ _ _ h => h) (Or.inl ⟨by rfl, fun w hw => by obtain ⟨h1, h2, h3, h4, h5, h6⟩ := hw; go_simp⟩) hS0 ?_
      simp only [Act.put, qD, qE, qF]
      refine tq 2 _ (int i64 x.id) rfl (by kernel_rfl) (fun _ _ _ h => h) (Or.inl ⟨by rfl, fun w hw => by obtain ⟨h1, h2, h3, h4, h5, h6⟩ := hw; go_simp⟩) hS0 ?_
      simp only [Act.put, qD, qE, qF]
      refine tq 3 _ (.slice (some ⟨g, og, none⟩) (ll + 1) c) rfl (by kernel_rfl) (fun _ _ _ h => h) (Or.inl ⟨by rfl, fun w hw => by obtain ⟨h1, h2, h3, h4, h5, h6⟩ := hw; go_simp⟩) hS0 ?_
      simp only [Act.put, qD, qE, qF]
      refine tq 4 _ (.pointer (some ⟨g, og, none⟩)) rfl (by kernel_rfl) (fun _ _ _ h => h) (Or.inl ⟨by rfl, fun w hw => by obtain ⟨h1, h2, h3, h4, h5, h6⟩ := hw; go_simp⟩) hS0 ?_
      simp only [Act.put, qD, qE, qF]
      refine tq 5 _ (.agg #[int i64 o.sign, int i64 o.dir, int i64 o.level, .bool o.drop]) rfl (by kernel_rfl) (fun _ _ _ h => h) (Or.inl ⟨by rfl, fun w hw => by obtain ⟨h1, h2, h3, h4, h5, h6⟩ := hw; go_simp⟩) hS0 ?_
      simp only [Act.put, qD, qE, qF]
      refine tr 6 _ (by kernel_rfl) rfl fun K1 hK => ?_
      go_simp
      refine (HCC.out w2.drew HW2.out.drew).mono ?_
      rintro e w7 ⟨rfl, hb7⟩
      have hS1 : w7.heap[A]? = some (.cells ws 32 (0, 0)) ∧ w7.cell? ⟨wr.heap.size, 0, none⟩ = some (int i64 x.id) ∧ w7.cell? ⟨g, og, none⟩ = some (int i64 o.sign) ∧ w7.cell? ⟨g, og + 1, none⟩ = some (int i64 o.dir) ∧ w7.cell? ⟨g, og + 2, none⟩ = some (int i64 o.level) ∧ w7.cell? ⟨g, og + 3, none⟩ = some (.bool o.drop) :=
       ⟨(hb7.block A (qs.1 YA.out).1).trans YA.out, (hb7.cell (p := ⟨wr.heap.size, 0, none⟩) hwl).trans y0, (hb7.cell (p := ⟨g, og, none⟩) hgl).trans q0, (hb7.cell (p := ⟨g, og + 1, none⟩) hgl).trans q1, (hb7.cell (p := ⟨g, og + 2, none⟩) hgl).trans q2, (hb7.cell (p := ⟨g, og + 3, none⟩) hgl).trans q3⟩
      have HW7 := qh (HW2.out.drew.trans (hb7.mono HW2.out.drew.size))
      refine hK.out _ _ hS1 (fun _ => ?_)
      clear hK K1 hS0 hb7
      refine tq 7 _ (.tuple #[int i64 ci, int i64 ce]) rfl (by kernel_rfl) (fun _ _ _ h => h) (Or.inl ⟨by rfl, fun w hw => by go_simp⟩) hS1 ?_
      simp only [Act.put, qD, qE, qF]
      refine tq 8 _ (int i64 ci) rfl (by kernel_rfl) (fun _ _ _ h => h) (Or.inl ⟨by rfl, fun w hw => by go_simp⟩) hS1 ?_
      simp only [Act.put, qD, qE, qF]
      refine tq 9 _ (int i64 ce) rfl (by kernel_rfl) (fun _ _ _ h => h) (Or.inl ⟨by rfl, fun w hw => by go_simp⟩) hS1 ?_
      simp only [Act.put, qD, qE, qF]
      refine tq 10 _ (int i64 ci) rfl (by kernel_rfl) (fun _ _ _ h => h) (Or.inl ⟨by rfl, fun w hw => by go_simp⟩) hS1 ?_
      simp only [Act.put, qD, qE, qF]
      refine tq 11 _ (int i64 ce) rfl (by kernel_rfl) (fun _ _ _ h => h) (Or.inl ⟨by rfl, fun w hw => by go_simp⟩) hS1 ?_
      simp only [Act.put, qD, qE, qF]
      refine wpAnyH_done (by kernel_rfl) ?_ _
      refine NoPanic.normal ?_
      clear hS1 q0 q1 q2 q3 y0 YA
      go_wp2_with fail
      go_roundw
      case rel => exact ⟨i + 1, s + ci, by omega, by go_num, rfl, by omega, by omega, HP5, HW7⟩
      case measure => simp [intOf]; omega
    ·have hee : (E9 k x.id b != 0) = true := by simpa using he
     have hl : Fb k x.id b = [] := by unfold Fb; rw [if_neg he]
     have HP4 := HP3.out
     rw [hl] at HP4 HO
     have HP5 := qh HP4
     clear HP4 hl he
     go_wp2_with fail
     go_ret
     exact ⟨by rw [← HP5.out]; rfl, HW2.out⟩
   ·have hne : (x.role != role) = true := by simpa using hr
    have hP3 := HP2.out
    rw [if_neg hr] at hP3
    have HP3 := qh hP3
    clear hr hP3 HP2 GA GB
    go_wp2_with (refine wpList_store_row rfl 72 _ _ rfl wr.heap.size (Ar x) rfl rfl 72 _ (heap_alloc_new wr _) (by kernel_rfl) rfl HSA.out ?_; rw [World.setRow_alloc_new])
    go_roundw
    case rel => exact ⟨i + 1, s, by omega, by go_num, rfl, hs0, by omega, HP3, HW1⟩
    case measure => simp [intOf]; omega
  ·obtain rfl : i = n := by omega
   have hi' : ¬ (i : Int) < (i : Int) := by omega
   have hp := hP.out
   rw [List.drop_eq_nil_of_le (by rw [HN.out]; exact qn _)] at hp
   have HP := qh (show s = Av k b role k.signs 0 from hp)
   clear hp hP
   go_wp2_with fail
   go_ret
   exact ⟨by rw [← HP.out]; rfl, hW.out⟩
end
section
open Go Go.RowKit
theorem AQ {α : Type} {enc : α → List Value} {k : Nat} (hk : ∀ x, (enc x).length = k) {w : World} {g n : Nat} {cs : Array Value} {t : TypeId} {xs : List α} (hg : w.heap[g]? = some (.cells cs t (0, 0))) (hn : xs.length = n) (hm : n ≤ maxLen) (hc : cs.toList = xs.flatMap enc) : IsRow enc k w (.slice (some ⟨g, 0, none⟩) n n) xs := by
 subst hn
 have : w.ownsRow 0 t k (.slice (some ⟨g, 0, none⟩) xs.length xs.length) xs.length (xs.flatMap enc) :=
  ⟨Hg hk xs, Or.inr ⟨g, xs.length, cs, rfl, Nat.zero_le _, hg, qn _, hm, by rw [← Array.length_toList, hc, Hg hk], by rw [hc, ← Hg hk xs, List.take_length]⟩⟩
 exact CI hk this rfl
theorem KY (r : Rol) : (De r).length = 4 := rfl
theorem L0 (r : Tmp) : (Bq r).length = 3 := rfl
theorem KZ (r : Sgn) : (CF r).length = 14 := rfl
theorem SmallAt.roles {w : World} {R T S : Nat} (h : SmallAt w R T S) : IsRow De 4 w (.slice (some ⟨R, 0, none⟩) 1 1) [⟨[97], 0, 0, 0⟩] := AQ KY h.r rfl (by decide) rfl
theorem SmallAt.tempos {w : World} {R T S : Nat} (h : SmallAt w R T S) : IsRow Bq 3 w (.slice (some ⟨T, 0, none⟩) 1 1) [⟨0, 100, 0⟩] := AQ L0 h.t rfl (by decide) rfl
theorem SmallAt.signs {w : World} {R T S : Nat} (h : SmallAt w R T S) : IsRow CF 14 w (.slice (some ⟨S, 0, none⟩) 2 2) [SJ, SN] := AQ KZ h.s rfl (by decide) (by simp [Ar, CF])
theorem SmallAt.below {w w' : World} {R T S : Nat} (h : SmallAt w R T S) (hb : Below w.heap.size w w') : SmallAt w' R T S :=
 ⟨(hb.block _ (qs.1 h.r).1).trans h.r, (hb.block _ (qs.1 h.t).1).trans h.t, (hb.block _ (qs.1 h.s).1).trans h.s⟩
def R0 (ta tb tc : Int) (R T S : Nat) : Array Value := #[int i64 20, int i64 20, int i64 ta, int i64 tb, int i64 tc, .slice (some ⟨R, 0, none⟩) 1 1, int i64 1, .slice (some ⟨T, 0, none⟩) 1 1, .slice none 0 0, .slice none 0 0, .slice (some ⟨S, 0, none⟩) 2 2]
structure SaneAt (w W : World) (K1 K2 R1 T1 S1 R2 T2 S2 : Nat) : Prop where
 k1 : W.heap[K1]? = some (.cells (R0 1 0 1 R1 T1 S1) 32 (0, 0))
 k2 : W.heap[K2]? = some (.cells (R0 3 4 5 R2 T2 S2) 32 (0, 0))
 s1 : SmallAt W R1 T1 S1
 s2 : SmallAt W R2 T2 S2
 below0 : Below w.heap.size w W
theorem SaneAt.below {w W W' : World} {K1 K2 R1 T1 S1 R2 T2 S2 : Nat} (h : SaneAt w W K1 K2 R1 T1 S1 R2 T2 S2) (hb : Below W.heap.size W W') : SaneAt w W' K1 K2 R1 T1 S1 R2 T2 S2 :=
 ⟨(hb.block _ (qs.1 h.k1).1).trans h.k1, (hb.block _ (qs.1 h.k2).1).trans h.k2, h.s1.below hb, h.s2.below hb, h.below0.trans (hb.mono h.below0.size)⟩
theorem SaneAt.drew {w W : World} {K1 K2 R1 T1 S1 R2 T2 S2 : Nat} (h : SaneAt w W K1 K2 R1 T1 S1 R2 T2 S2) : SaneAt w W.drew K1 K2 R1 T1 S1 R2 T2 S2 := h.below (Below.refl _ _).drew
end
end Go.Proofs.YtggcbblikgankaaGreatDoor
