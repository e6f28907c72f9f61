/- The walk of the statement: part 1. -/
import Derived.Test.YtggcbblikgankaaDoorZ44
import Derived.Test.YtggcbblikgankaaDoorZ34
import Derived.Test.YtggcbblikgankaaDoorZ48
set_option linter.unusedVariables false
set_option linter.unusedSimpArgs false
section
/- The law's sum: the cost of a cast, and whether it is one. -/
namespace Go.Proofs.YtggcbblikgankaaDoor
open Go Go.RowKit Go.Deep

def stepOk (m : Nat) (c : Nat → Nat → Int) (to : List Int) (i : Nat) : Bool := decide (0 ≤ gi to i ∧ gi to i < m ∧ 0 ≤ c i (gi to i).toNat ∧ gi to i ∉ to.take i)
/-- Is this list a cast? -/
def castB (n m : Nat) (c : Nat → Nat → Int) (to : List Int) : Bool := decide (to.length = n) && (List.range n).all (stepOk m c to)
def sumV (n m : Nat) (c : Nat → Nat → Int) (to : List Int) : Int := if castB n m c to = true then sumT (fun r => c r (gi to r).toNat) n else 0
section
variable {n m : Nat} {c : Nat → Nat → Int} {to : List Int}
theorem castB_step (h : castB n m c to = true) : to.length = n ∧ ∀ i, i < n → 0 ≤ gi to i ∧ gi to i < m ∧ 0 ≤ c i (gi to i).toNat ∧ gi to i ∉ to.take i := by
  unfold castB at h
  rw [Bool.and_eq_true, List.all_eq_true] at h
  exact ⟨of_decide_eq_true h.1, fun i hi => of_decide_eq_true (h.2 i (List.mem_range.2 hi))⟩
theorem castB_cast (h : castB n m c to = true) : CastN n m c (fun r => (gi to r).toNat) := by
  obtain ⟨hl, hs⟩ := castB_step h
  have key : ∀ r r', r < n → r' < r → gi to r' ≠ gi to r := fun r r' hr hr' e => by
    refine (hs r hr).2.2.2 ?_
    rw [← e]
    refine List.mem_of_getElem? (i := r') ?_
    rw [List.getElem?_take, if_pos hr']
    exact gi_some (by omega)
  refine ⟨fun r hr => ?_, fun r hr => (hs r hr).2.2.1, fun r r' hr hr' e => ?_⟩
  · have := hs r hr; omega
  · have h1 := hs r hr; have h2 := hs r' hr'
    have e2 : gi to r = gi to r' := by omega
    rcases Nat.lt_trichotomy r r' with h | h | h
    · exact absurd e2 (key r' r hr' h)
    · exact h
    · exact absurd e2.symm (key r r' hr h)
theorem castB_false {i : Nat} (hi : i < n) (h : ¬ (0 ≤ gi to i ∧ gi to i < m ∧ 0 ≤ c i (gi to i).toNat ∧ gi to i ∉ to.take i)) : castB n m c to = false := by
  unfold castB
  rw [Bool.and_eq_false_iff]
  right
  rw [List.all_eq_false]
  exact ⟨i, List.mem_range.2 hi, by unfold stepOk; simpa using h⟩
theorem castB_true (hl : to.length = n) (h : ∀ i, i < n → 0 ≤ gi to i ∧ gi to i < m ∧ 0 ≤ c i (gi to i).toNat ∧ gi to i ∉ to.take i) : castB n m c to = true := by
  unfold castB
  rw [decide_eq_true hl, Bool.true_and, List.all_eq_true]
  exact fun i hi => decide_eq_true (h i (List.mem_range.1 hi))
end
def takenKV (l : List Int) : List (Int × Value) := l.map fun x => (x, .bool true)
theorem takenKV_get (l : List Int) (x : Int) : (kvGet (takenKV l) x).getD (.bool false) = .bool (decide (x ∈ l)) := by
  unfold kvGet takenKV
  induction l with
  | nil => rfl
  | cons a l ih =>
    rw [List.map_cons, List.find?_cons]
    by_cases h : a = x
    · subst h; simp
    · have h1 : (((a, Value.bool true) : Int × Value).1 == x) = false := by simpa using h
      rw [h1]
      rw [ih]
      congr 1
      have : x ≠ a := fun e => h e.symm
      simp [this]
theorem takenKV_put (l : List Int) (x : Int) (h : x ∉ l) : kvPut (takenKV l) x (.bool true) = takenKV (l ++ [x]) := by
  have hn : (kvGet (takenKV l) x).isSome = false := by
    unfold kvGet takenKV
    simp only [Option.isSome_map]
    rw [Option.isSome_eq_false_iff, Option.isNone_iff_eq_none, List.find?_eq_none]
    intro p hp
    obtain ⟨y, hy, rfl⟩ := List.mem_map.1 hp
    simp only [beq_iff_eq]
    rintro rfl
    exact h hy
  unfold kvPut
  rw [hn]
  unfold takenKV
  simp
theorem takenKV_apart (l : List Int) (h : l.Nodup) : KeysApart (takenKV l) := by
  unfold KeysApart takenKV
  rw [List.map_map]
  have : (Prod.fst ∘ fun x : Int => (x, Value.bool true)) = id := rfl
  rw [this, List.map_id]
  exact h
set_option maxRecDepth 100000 in
set_option maxHeartbeats 8000000 in
theorem sum47_any (cost : List (List Int)) (n m : Nat) (hl : cost.length = n) (hrl : ∀ r ∈ cost, r.length = m) (hn : n ≤ 16) (hm : m ≤ 16) (hc : ∀ r j, cI cost r j ≤ topC) (aoC : Option Addr) (ccC : Nat) (to : List Int) (nt : Nat) (hnt : to.length = nt) (aoT : Option Addr) (ccT : Nat) (w : World) (hC : IsMat w (.slice aoC n ccC) cost) (hT : IsRow encI 1 w (.slice aoT nt ccT) to) :
    Calls Tryd.prog 35 #[.slice aoC n ccC, .slice aoT nt ccT] w fun e w' => e = .returned (.tuple #[.int .i64 (sumV n m (cI cost) to), .bool (castB n m (cI cost) to)]) ∧ Below w.heap.size w w' := by
  have hmx : nt ≤ maxLen := by obtain ⟨_, _, _, h, _⟩ := hT; omega
  simp only [maxLen] at hmx
  by_cases hln : nt = n
  · subst hln
    have hno : ∀ i, i < nt → ¬ (0 ≤ gi to i ∧ gi to i < m ∧ 0 ≤ cI cost i (gi to i).toNat ∧ gi to i ∉ to.take i) → castB nt m (cI cost) to = false ∧ sumV nt m (cI cost) to = 0 := fun i hi h => by
      have h1 := castB_false hi h
      exact ⟨h1, by unfold sumV; rw [h1]; rfl⟩
    have hyes : (∀ i, i < nt → 0 ≤ gi to i ∧ gi to i < m ∧ 0 ≤ cI cost i (gi to i).toNat ∧ gi to i ∉ to.take i) → castB nt m (cI cost) to = true ∧ sumV nt m (cI cost) to = sumT (fun r => cI cost r (gi to r).toNat) nt := fun h => by
      have h1 := castB_true hnt h
      exact ⟨h1, by unfold sumV; rw [h1]; rfl⟩
    have HNO := Lib.hid hno; have HYES := Lib.hid hyes; have HC := Lib.hid hC; have HT := Lib.hid hT; have HL := Lib.hid hl; have HRL := Lib.hid hrl; have HTOP := Lib.hid hc; have HNT := Lib.hid hnt
    clear hno hyes hC hT hl hrl hc hnt
    generalize castB nt m (cI cost) to = cb at *
    generalize sumV nt m (cI cost) to = sv at *
    have hmm := @run_makeMap Tryd.prog
    have hm0 := MapAt.new w
    have HM0 := Lib.hid hm0
    clear hm0
    go_enter Tryd.func35, Tryd.ntmps35
    go_wp2_with fail
    go_loopw [4, 17] (fun sv iv wr => ∃ (i : Nat) (s : Int), i ≤ nt ∧ iv = .int .i64 i ∧ sv = .int .i64 s ∧ 0 ≤ s ∧ s ≤ 1048576 * i ∧ Hid (s = sumT (fun r => cI cost r (gi to r).toNat) i) ∧ Hid (MapAt wr w.heap.size (takenKV (to.take i))) ∧ Hid (∀ q, q < i → 0 ≤ gi to q ∧ gi to q < m ∧ 0 ≤ cI cost q (gi to q).toNat ∧ gi to q ∉ to.take q) ∧ Hid (Below w.heap.size w wr)) (fun _ iv _ => nt - (intOf iv).toNat)
    case atStart => exact ⟨0, 0, Nat.zero_le _, rfl, rfl, Int.le_refl _, by omega, Lib.hid rfl, HM0, Lib.hid (fun q hq => by omega), Lib.hid ((Below.refl _ _).alloc (Nat.le_refl _) _)⟩
    case round =>
      obtain ⟨i, s, hin, rfl, rfl, hs0, hs1, hS, hMp, hall, hW⟩ := hrel
      by_cases hi : i < nt
      · obtain ⟨b1, o1, e1, p1, _⟩ := (HT.out.below hW.out (Nat.le_refl _)).int (j := i) (by rw [HNT.out]; exact hi)
        subst e1
        have hi' : (i : Int) < (nt : Int) := by omega
        obtain ⟨b2, o2, e2, aR, cR, p2w, r2, l2⟩ := HC.out.at_ (i := i) (by rw [HL.out]; exact hi)
        subst e2
        have hr2 : (cost[i]?.getD []).length = m := HRL.out _ (by rw [List.getElem?_eq_getElem (by rw [HL.out]; exact hi)]; exact List.getElem_mem _)
        rw [hr2] at p2w r2
        have p2 := (hW.out.cell (p := ⟨b2, o2 + i, none⟩) l2).trans p2w
        have hlk := run_lookup_kv (P := Tryd.prog) (T := 154) Tryd.underlying154 Tryd.underlying3 hMp.out (gi to i) (Tryd.zeroValue4 _) false
        rw [if_neg (by decide), takenKV_get] at hlk
        have htk : to.take (i + 1) = to.take i ++ [gi to i] := by rw [List.take_add_one, gi_some (by rw [HNT.out]; exact hi)]; rfl
        have hf := HNO.out i hi
        have htop := fun j => HTOP.out i j
        have HF := Lib.hid hf; have HTK := Lib.hid htk
        have hsum : s + cI cost i (gi to i).toNat = sumT (fun r => cI cost r (gi to r).toNat) (i + 1) := by
          show _ = sumT _ i + _
          rw [hS.out]
        have hstep : (0 ≤ gi to i ∧ gi to i < m ∧ 0 ≤ cI cost i (gi to i).toNat ∧ gi to i ∉ to.take i) → ∀ q, q < i + 1 → 0 ≤ gi to q ∧ gi to q < m ∧ 0 ≤ cI cost q (gi to q).toNat ∧ gi to q ∉ to.take q := fun h q hq => by
          by_cases e : q = i
          · subst e; exact h
          · exact hall.out q (by omega)
        have hnd : (to.take i).Nodup := by
          rw [List.nodup_iff_pairwise_ne, List.pairwise_iff_getElem]
          intro a b ha hb hab
          have hbi : b < i := Nat.lt_of_lt_of_le hb (by rw [List.length_take]; exact Nat.min_le_left _ _)
          rw [List.getElem_take, List.getElem_take]
          intro e
          have hbn : b < to.length := by rw [HNT.out]; omega
          refine (hall.out b hbi).2.2.2 ?_
          have hg : gi to b = to[b] := by unfold gi; rw [List.getElem?_eq_getElem hbn]; rfl
          rw [hg, ← e]
          exact List.mem_of_getElem? (i := a) (by rw [List.getElem?_take, if_pos hab]; exact List.getElem?_eq_getElem _)
        have HSUM := Lib.hid hsum; have HST := Lib.hid hstep; have HR2 := Lib.hid r2; have HND := Lib.hid hnd
        clear hf htk hsum hstep r2 hr2 hnd hall hS
        generalize hx : gi to i = x at *
        have HX := Lib.hid hx
        clear hx
        by_cases hx0 : x < 0
        · obtain ⟨hcb, hsv⟩ := HF.out (fun h => by omega)
          have H1 := Lib.hid hcb; have H2 := Lib.hid hsv
          clear hcb hsv hlk htop
          go_wp2_with fail
          refine bodyPost_ret (results_tmp2 rfl _ _ _) rfl ?_
          exact ⟨by rw [H1.out, H2.out]; rfl, hW.out⟩
        · obtain ⟨q, rfl⟩ := Int.eq_ofNat_of_zero_le (show 0 ≤ x by omega)
          rw [Int.toNat_natCast] at HF HSUM HST
          by_cases hqm : q < m
          · have hqm' : ¬ (m : Int) ≤ (q : Int) := by omega
            obtain ⟨b3, o3, e3, p3w, l3⟩ := HR2.out.int (j := q) (by have := HR2.out; obtain ⟨_, _, e, _⟩ := this; injection e with _ e5; omega)
            subst e3
            have p3x : w.cell? ⟨b3, o3 + q, none⟩ = some (.int .i64 (cI cost i q)) := p3w
            have p3' := (hW.out.cell (p := ⟨b3, o3 + q, none⟩) l3).trans p3x
            have ht := htop q
            have hq' : (q : Int) < (m : Int) := by omega
            clear p3w htop HR2
            generalize cI cost i q = ci at *
            have hci : ci ≤ 1048576 := ht
            by_cases hc0 : ci < 0
            · obtain ⟨hcb, hsv⟩ := HF.out (fun h => by omega)
              have H1 := Lib.hid hcb; have H2 := Lib.hid hsv
              clear hcb hsv hlk ht
              go_wp2_with fail
              refine bodyPost_ret (results_tmp2 rfl _ _ _) rfl ?_
              exact ⟨by rw [H1.out, H2.out]; rfl, hW.out⟩
            · by_cases htk : (q : Int) ∈ to.take i
              · obtain ⟨hcb, hsv⟩ := HF.out (fun h => h.2.2.2 htk)
                have H1 := Lib.hid hcb; have H2 := Lib.hid hsv
                rw [decide_eq_true htk] at hlk
                clear hcb hsv ht
                go_wp2_with fail
                refine bodyPost_ret (results_tmp2 rfl _ _ _) rfl ?_
                exact ⟨by rw [H1.out, H2.out]; rfl, hW.out⟩
              · rw [decide_eq_false htk] at hlk
                obtain ⟨w', hrun, hmap, hbel, hgr, hsz⟩ := update_kv (P := Tryd.prog) (T := 154) Tryd.underlying154 Tryd.underlying3 hMp.out (takenKV_apart _ HND.out) (q : Int) (.bool true)
                rw [takenKV_put _ _ htk, ← HTK.out] at hmap
                have hW' : Below w.heap.size w w' := hW.out.trans hbel
                have HMP := Lib.hid hmap; have HW' := Lib.hid hW'
                have H3 := Lib.hid (HST.out ⟨by omega, by omega, by omega, htk⟩)
                have hMl := hMp.out.lt
                have hp2' := (hW'.cell (p := ⟨b2, o2 + i, none⟩) l2).trans p2w
                have hp3' := (hW'.cell (p := ⟨b3, o3 + q, none⟩) l3).trans p3x
                clear hmap hW' hbel hgr hsz hMp ht htk
                go_wp2_with fail
                go_roundw
                case rel => exact ⟨i + 1, s + ci, by omega, by go_num, rfl, by omega, by omega, HSUM, HMP, H3, HW'⟩
                case measure => simp [intOf]; omega
          · have hqm' : (m : Int) ≤ (q : Int) := by omega
            obtain ⟨hcb, hsv⟩ := HF.out (fun h => by omega)
            have H1 := Lib.hid hcb; have H2 := Lib.hid hsv
            clear hcb hsv hlk htop
            go_wp2_with fail
            refine bodyPost_ret (results_tmp2 rfl _ _ _) rfl ?_
            exact ⟨by rw [H1.out, H2.out]; rfl, hW.out⟩
      · obtain rfl : i = nt := by omega
        have hi' : ¬ (i : Int) < (i : Int) := by omega
        obtain ⟨hcb, hsv⟩ := HYES.out hall.out
        have H1 := Lib.hid hcb; have H2 := Lib.hid (hsv.trans hS.out.symm)
        clear hcb hsv
        go_wp2_with fail
        refine bodyPost_ret (results_tmp2 rfl _ _ _) rfl ?_
        exact ⟨by rw [H1.out, H2.out]; rfl, hW.out⟩
  · have hne : ((nt : Int) != (n : Int)) = true := by simp; omega
    have h1 : castB n m (cI cost) to = false := by unfold castB; rw [decide_eq_false (by omega)]; rfl
    have h2 : sumV n m (cI cost) to = 0 := by unfold sumV; rw [h1]; rfl
    have H1 := Lib.hid h1; have H2 := Lib.hid h2
    clear h1 h2 hC hT
    go_enter Tryd.func35, Tryd.ntmps35
    go_wp2_with fail
    refine bodyPost_ret (results_tmp2 rfl _ _ _) rfl ?_
    exact ⟨by rw [H1.out, H2.out]; rfl, Below.refl _ _⟩
end Go.Proofs.YtggcbblikgankaaDoor
end
section
/- CastingBound: the law's walk. -/
namespace Go.Proofs.YtggcbblikgankaaDoor
open Go Go.RowKit Go.Deep

theorem provB_facts {cost : List (List Int)} {u v : List Int} (h : provB cost u v = true) : u.length = cost.length ∧ v.length = widN cost ∧ (∀ j, j < widN cost → -1099511627776 ≤ gi v j ∧ gi v j ≤ 0) ∧ (∀ i, i < cost.length → -1099511627776 ≤ gi u i ∧ gi u i ≤ 1099511627776) ∧ ∀ i j, i < cost.length → j < widN cost → 0 ≤ cI cost i j → gi u i + gi v j ≤ cI cost i j := by
  unfold provB at h
  simp only [Bool.and_eq_true, decide_eq_true_eq, Bool.not_eq_true'] at h
  obtain ⟨⟨⟨h1, h2⟩, h3⟩, h4⟩ := h
  unfold fitU at h4
  rw [List.all_eq_true] at h4
  refine ⟨h1, h2, fun j hj => ?_, fun i hi => ?_, fun i j hi hj h0 => ?_⟩
  · have := List.any_eq_false.1 h3 (gi v j) (List.mem_of_getElem? (gi_some (by omega)))
    unfold oddV at this
    simp at this
    omega
  · have := h4 i (List.mem_range.2 hi)
    rw [Bool.and_eq_true] at this
    have h5 := this.1
    unfold numB at h5
    simp at h5
    exact h5
  · have := h4 i (List.mem_range.2 hi)
    rw [Bool.and_eq_true] at this
    have h5 := this.2
    unfold fitR at h5
    rw [List.all_eq_true] at h5
    have h6 := h5 j (List.mem_range.2 hj)
    have h7 : 0 ≤ gi (cost[i]?.getD []) j := h0
    have h8 : cI cost i j = gi (cost[i]?.getD []) j := rfl
    rw [h8]
    simp at h6
    rcases h6 with h6 | h6
    · omega
    · exact h6
theorem sumT_bd {f : Nat → Int} {B : Int} : ∀ {n : Nat}, (∀ r, r < n → -B ≤ f r ∧ f r ≤ B) → -(B * n) ≤ sumT f n ∧ sumT f n ≤ B * n
  | 0, _ => by simp [sumT]
  | k + 1, h => by
    have ih := sumT_bd (n := k) (fun r hr => h r (by omega))
    have h1 := h k (by omega)
    unfold sumT
    have e : B * ((k + 1 : Nat) : Int) = B * (k : Int) + B := by rw [Int.natCast_add, Int.mul_add]; simp
    rw [e]
    omega
/-- What the law's walk wants of prices that fit. -/
structure BoundW (cost : List (List Int)) (u v : List Int) (n m : Nat) : Prop where
  vneg : ∀ j, j < m → -1099511627776 ≤ gi v j ∧ gi v j ≤ 0
  ubd : ∀ i, i < n → -1099511627776 ≤ gi u i ∧ gi u i ≤ 1099511627776
  fit : ∀ i j, i < n → j < m → 0 ≤ cI cost i j → gi u i + gi v j ≤ cI cost i j
  vsum : ∀ j, j ≤ m → -(1099511627776 * 16) ≤ sumT (gi v) j ∧ sumT (gi v) j ≤ 1099511627776 * 16
  usum : ∀ i, i ≤ n → -(1099511627776 * 16) ≤ sumT (gi u) i ∧ sumT (gi u) i ≤ 1099511627776 * 16
theorem boundW {cost : List (List Int)} {u v : List Int} (h : provB cost u v = true) (hn : cost.length ≤ 16) (hm : widN cost ≤ 16) : BoundW cost u v cost.length (widN cost) := by
  obtain ⟨_, _, h3, h4, h5⟩ := provB_facts h
  refine ⟨h3, h4, h5, fun j hj => ?_, fun i hi => ?_⟩
  · have := sumT_bd (f := gi v) (B := 1099511627776) (n := j) (fun r hr => by have := h3 r (by omega); omega)
    omega
  · have := sumT_bd (f := gi u) (B := 1099511627776) (n := i) (fun r hr => by have := h4 r (by omega); omega)
    omega
end Go.Proofs.YtggcbblikgankaaDoor
end
section
/- CastingEither, plain: what is found is a cast, and its prices prove it. No program in sight. -/
namespace Go.Proofs.YtggcbblikgankaaDoor
open Go Go.RowKit Go.Deep

theorem toL_len (t : Nat → Nat) (n : Nat) : (toL t n).length = n := by unfold toL; simp
theorem toL_gi {t : Nat → Nat} {n i : Nat} (h : i < n) : gi (toL t n) i = (t i : Int) := by
  unfold gi toL
  rw [List.getElem?_map, List.getElem?_range h]; rfl
section
variable {n m : Nat} {c : Nat → Nat → Int} {best : Int} {t : Nat → Nat} {taken : List Bool}
theorem found_cast (h : FirstOk n m c best n t taken) : CastN n m c t ∧ sumT (fun r => c r (t r)) n = best := by
  obtain ⟨s, h1, h2, h3⟩ := h.ex
  refine ⟨⟨h.pre.lt, h.pre.ok, h.pre.inj⟩, ?_⟩
  rw [← h3]
  exact sumT_congr fun r hr => by rw [h2 r hr]
theorem found_castB (h : FirstOk n m c best n t taken) : castB n m c (toL t n) = true ∧ sumV n m c (toL t n) = best := by
  obtain ⟨h1, h2⟩ := found_cast h
  have hb : castB n m c (toL t n) = true := castB_true (toL_len t n) fun i hi => by
    rw [toL_gi hi]
    have := h1.lt i hi
    refine ⟨by omega, by omega, by rw [Int.toNat_natCast]; exact h1.ok i hi, fun hm => ?_⟩
    obtain ⟨q, hq⟩ := List.getElem?_of_mem hm
    rw [List.getElem?_take] at hq
    split at hq
    · rename_i hqi
      rw [gi_some (by rw [toL_len]; omega), toL_gi (by omega)] at hq
      have e : t q = t i := by have := Option.some.inj hq; omega
      have := h1.inj q i (by omega) hi e
      omega
    · cases hq
  refine ⟨hb, ?_⟩
  unfold sumV
  rw [if_pos hb, ← h2]
  exact sumT_congr fun r hr => by rw [toL_gi hr, Int.toNat_natCast]
end
theorem sol_proves {cost : List (List Int)} {s : SolS} (hrl : ∀ r ∈ cost, r.length = widN cost) (hc : ∀ r j, cI cost r j ≤ topC) (hce : castE cost = 0) (h : SolOk cost.length (widN cost) (cI cost) s) :
    provB cost s.u s.v = true ∧ provN cost s.u s.v = sumT (fun r => cI cost r (gi s.to r).toNat) cost.length := by
  have hub : ∀ i, i < cost.length → 0 ≤ gi s.u i ∧ gi s.u i ≤ 1048576 + 285212672 := fun i hi => by
    obtain ⟨j, h1, _, _, h4⟩ := h.cast i hi
    have h5 := h.vb j h1
    have h6 : cI cost i j ≤ 1048576 := hc i j
    exact ⟨h.upos i, by omega⟩
  have hp : provB cost s.u s.v = true := by
    unfold provB
    rw [decide_eq_true h.lu, decide_eq_true h.lv, Bool.true_and, Bool.true_and, Bool.and_eq_true]
    constructor
    · rw [Bool.not_eq_true', List.any_eq_false]
      intro x hx
      obtain ⟨j, hj⟩ := List.getElem?_of_mem hx
      have hjl := (List.getElem?_eq_some_iff.1 hj).1
      rw [gi_some hjl] at hj
      have e := Option.some.inj hj
      rw [h.lv] at hjl
      have h1 := h.neg j hjl
      have h2 := h.vb j hjl
      unfold oddV
      simp
      omega
    · unfold fitU
      rw [List.all_eq_true]
      intro i hi
      rw [List.mem_range] at hi
      have h1 := hub i hi
      rw [Bool.and_eq_true]
      constructor
      · unfold numB; simp; omega
      · unfold fitR
        rw [List.all_eq_true]
        intro j hj
        rw [List.mem_range] at hj
        have h2 := h.fit i j hi hj
        have e : cI cost i j = gi (cost[i]?.getD []) j := rfl
        rw [e] at h2
        simp
        by_cases h3 : 0 ≤ gi (cost[i]?.getD []) j
        · have := h2 h3; right; omega
        · left; omega
  refine ⟨hp, ?_⟩
  unfold provN
  rw [if_pos ⟨hce, hp⟩, h.sum]
  omega
end Go.Proofs.YtggcbblikgankaaDoor
end
section
/- The law's crowded: rows with too few columns. -/
namespace Go.Proofs.YtggcbblikgankaaDoor
open Go Go.RowKit Go.Deep

/-- The map's keys are these columns. -/
def KeysAre (kvs : List (Int × Value)) (S : Nat → Prop) : Prop := KeysApart kvs ∧ ∀ x, x ∈ kvs.map (·.1) ↔ ∃ j : Nat, x = (j : Int) ∧ S j
theorem put_mem (kvs : List (Int × Value)) (k : Int) (v : Value) (x : Int) : x ∈ (kvPut kvs k v).map (·.1) ↔ x ∈ kvs.map (·.1) ∨ x = k := by
  unfold kvPut
  cases hg : kvGet kvs k with
  | some v0 =>
    simp only [Option.isSome_some, if_true, List.map_map]
    have e1 : (kvs.map ((fun p => p.1) ∘ fun p => if (p.1 == k) = true then (p.1, v) else p)) = kvs.map (·.1) := by
      apply List.map_congr_left; intro p _; simp only [Function.comp]; split <;> rfl
    rw [e1]
    constructor
    · exact Or.inl
    · rintro (h | rfl)
      · exact h
      · unfold kvGet at hg
        obtain ⟨p, hp, _⟩ := Option.map_eq_some_iff.1 hg
        have h1 := List.find?_some hp
        have h2 := List.mem_of_find?_eq_some hp
        simp only [beq_iff_eq] at h1
        exact List.mem_map.2 ⟨p, h2, h1⟩
  | none =>
    simp only [Option.isSome_none, Bool.false_eq_true, if_false, List.map_append, List.map_cons, List.map_nil, List.mem_append, List.mem_singleton]
theorem KeysAre.put {kvs : List (Int × Value)} {S : Nat → Prop} (h : KeysAre kvs S) (j : Nat) (v : Value) : KeysAre (kvPut kvs (j : Int) v) (fun q => S q ∨ q = j) := by
  refine ⟨keysApart_put h.1 _ _, fun x => ?_⟩
  rw [put_mem, h.2 x]
  constructor
  · rintro (⟨q, e, hq⟩ | rfl)
    · exact ⟨q, e, Or.inl hq⟩
    · exact ⟨j, rfl, Or.inr rfl⟩
  · rintro ⟨q, e, hq | rfl⟩
    · exact Or.inl ⟨q, e, hq⟩
    · exact Or.inr e
theorem KeysAre.congr {kvs : List (Int × Value)} {S T : Nat → Prop} (h : KeysAre kvs S) (hs : ∀ j, S j ↔ T j) : KeysAre kvs T :=
  ⟨h.1, fun x => by rw [h.2 x]; exact ⟨fun ⟨j, e, hj⟩ => ⟨j, e, (hs j).1 hj⟩, fun ⟨j, e, hj⟩ => ⟨j, e, (hs j).2 hj⟩⟩⟩
theorem KeysAre.count {kvs : List (Int × Value)} {c : Nat → Nat → Int} {m : Nat} {l : List Nat} (h : KeysAre kvs (fun j => j < m ∧ ∃ i ∈ l, 0 ≤ c i j)) : kvs.length = colsN c m l := by
  have hnd : ((kvs.map (·.1)).map Int.toNat).Nodup := nodup_map h.1 fun a ha b hb e => by
    obtain ⟨i, rfl, _⟩ := (h.2 a).1 ha
    obtain ⟨j, rfl, _⟩ := (h.2 b).1 hb
    have e2 : i = j := by simpa using e
    rw [e2]
  have hf : ((List.range m).filter fun j => l.any fun i => decide (0 ≤ c i j)).Nodup := List.nodup_range.filter _
  have hmem : ∀ j, j ∈ ((kvs.map (·.1)).map Int.toNat) ↔ j ∈ ((List.range m).filter fun j => l.any fun i => decide (0 ≤ c i j)) := fun j => by
    rw [List.mem_filter, List.mem_range]
    constructor
    · intro hj
      obtain ⟨x, hx, rfl⟩ := List.mem_map.1 hj
      obtain ⟨q, rfl, h1, i, hi, h2⟩ := (h.2 x).1 hx
      rw [Int.toNat_natCast]
      exact ⟨h1, List.any_eq_true.2 ⟨i, hi, by simpa using h2⟩⟩
    · rintro ⟨h1, h2⟩
      obtain ⟨i, hi, h3⟩ := List.any_eq_true.1 h2
      exact List.mem_map.2 ⟨(j : Int), (h.2 _).2 ⟨j, rfl, h1, i, hi, of_decide_eq_true h3⟩, by simp⟩
  have h1 := nodup_sub_len _ _ hnd fun x hx => (hmem x).1 hx
  have h2 := nodup_sub_len _ _ hf fun x hx => (hmem x).2 hx
  rw [List.length_map, List.length_map] at h1 h2
  unfold colsN
  omega
theorem run_len_kv {P : Program} {T K E : TypeId} (hT : P.underlying T = some (.map K E)) {w : World} {b : Nat} {kvs : List (Int × Value)} (h : MapAt w b kvs) (ty : TypeId) : (Builtin.len_ #[T] ty #[.map (some b)]).run P w = .ok (.int .i64 kvs.length) w := by
  obtain ⟨es, c, hb, he⟩ := h
  have hl : es.size = kvs.length := by simpa using congrArg List.length he
  simp [Builtin.len_, run_underlying hT, MapKept.run_getObj_map hb, goInt, Result.andThen, hl]
set_option maxRecDepth 100000 in
set_option maxHeartbeats 8000000 in
/-- Increasing rows: whether they have fewer columns than there are of them. -/
theorem crowded_any (cost : List (List Int)) (n m : Nat) (hl : cost.length = n) (hrl : ∀ r ∈ cost, r.length = m) (hn : n ≤ 16) (hm : m ≤ 16) (aoC : Option Addr) (ccC : Nat) (l : List Nat) (k : Nat) (hk : l.length = k) (hinc : Inc n l) (aoT : Option Addr) (ccT : Nat) (w : World) (hC : IsMat w (.slice aoC n ccC) cost) (hT : IsRow encI 1 w (.slice aoT k ccT) (intsN l)) :
    Calls Tryd.prog 36 #[.slice aoC n ccC, .slice aoT k ccT] w fun e w' => e = .returned (.bool (fewC (cI cost) m l)) ∧ Below w.heap.size w w' := by
  have hmx : k ≤ maxLen := by obtain ⟨_, _, _, h, _⟩ := hT; rw [intsN_len, hk] at h; exact h
  simp only [maxLen] at hmx
  have hfew : fewC (cI cost) m l = decide (colsN (cI cost) m l < k) := by unfold fewC; rw [hk]
  have hg : ∀ i, i < k → gi (intsN l) i = ((l[i]?.getD 0 : Nat) : Int) := fun i hi => by
    unfold gi intsN
    rw [List.getElem?_map, List.getElem?_eq_getElem (by omega)]; rfl
  have hlt : ∀ i, i < k → l[i]?.getD 0 < n := fun i hi => by
    rw [List.getElem?_eq_getElem (by omega)]
    exact hinc.2 _ (List.getElem_mem _)
  have hord : ∀ i j, i < j → j < k → l[i]?.getD 0 < l[j]?.getD 0 := fun i j hij hj => by
    rw [List.getElem?_eq_getElem (by omega), List.getElem?_eq_getElem (by omega)]
    exact List.pairwise_iff_getElem.1 hinc.1 i j (by omega) (by omega) hij
  have htk : ∀ i, i < k → l.take (i + 1) = l.take i ++ [l[i]?.getD 0] := fun i hi => by
    rw [List.take_add_one, List.getElem?_eq_getElem (by omega)]; rfl
  have HF := Lib.hid hfew; have HG := Lib.hid hg; have HLT := Lib.hid hlt; have HORD := Lib.hid hord; have HTK := Lib.hid htk; have HC := Lib.hid hC; have HT := Lib.hid hT; have HL := Lib.hid hl; have HRL := Lib.hid hrl; have HK := Lib.hid hk
  clear hfew hg hlt hord htk hC hT hl hrl hk hinc
  have hmm := @run_makeMap Tryd.prog
  have hm0 := MapAt.new w
  have HM0 := Lib.hid hm0
  clear hm0
  go_enter Tryd.func36, Tryd.ntmps36
  go_wp2_with fail
  go_loopw [13] (fun iv wr => ∃ (i : Nat) (kvs : List (Int × Value)), i ≤ k ∧ iv = .int .i64 i ∧ Hid (MapAt wr w.heap.size kvs) ∧ Hid (KeysAre kvs (fun j => j < m ∧ ∃ r ∈ l.take i, 0 ≤ cI cost r j)) ∧ Hid (Below w.heap.size w wr)) (fun iv _ => k - (intOf iv).toNat)
  case atStart => exact ⟨0, [], Nat.zero_le _, rfl, HM0, Lib.hid ⟨List.nodup_nil, fun x => by simp⟩, Lib.hid ((Below.refl _ _).alloc (Nat.le_refl _) _)⟩
  case round =>
    obtain ⟨i, kvs, hik, rfl, hM, hK, hW⟩ := hrel
    by_cases hi : i < k
    · have hi' : (i : Int) < (k : Int) := by omega
      obtain ⟨b1, o1, e1, p1, _⟩ := (HT.out.below hW.out (Nat.le_refl _)).int (j := i) (by rw [intsN_len, HK.out]; exact hi)
      subst e1
      rw [HG.out i hi] at p1
      have hrn := HLT.out i hi
      have hprev : 0 < i → ∃ x : Nat, wr.cell? ⟨b1, o1 + (i - 1), none⟩ = some (.int .i64 x) ∧ x < l[i]?.getD 0 := fun h0 => by
        obtain ⟨b2, o2, e2, p2, _⟩ := (HT.out.below hW.out (Nat.le_refl _)).int (j := i - 1) (by rw [intsN_len, HK.out]; omega)
        have e3 := Option.some.inj e2
        injection e3 with e4 e5
        subst e4 e5
        rw [HG.out (i - 1) (by omega)] at p2
        exact ⟨_, p2, HORD.out (i - 1) i (by omega) hi⟩
      obtain ⟨b3, o3, e3, aR, cR, p3w, r3, l3⟩ := HC.out.at_ (i := l[i]?.getD 0) (by rw [HL.out]; exact hrn)
      subst e3
      have hr2 : (cost[l[i]?.getD 0]?.getD []).length = m := HRL.out _ (by rw [List.getElem?_eq_getElem (by rw [HL.out]; exact hrn)]; exact List.getElem_mem _)
      rw [hr2] at p3w r3
      have p3 := (hW.out.cell (p := ⟨b3, o3 + l[i]?.getD 0, none⟩) l3).trans p3w
      have hstep : ∀ kv, KeysAre kv (fun j => (j < m ∧ ∃ r ∈ l.take i, 0 ≤ cI cost r j) ∨ (j < m ∧ 0 ≤ cI cost (l[i]?.getD 0) j)) → KeysAre kv (fun j => j < m ∧ ∃ r ∈ l.take (i + 1), 0 ≤ cI cost r j) := fun kv h => h.congr fun j => by
        rw [HTK.out i hi]
        constructor
        · rintro (⟨h1, r, hr, h2⟩ | ⟨h1, h2⟩)
          · exact ⟨h1, r, List.mem_append_left _ hr, h2⟩
          · exact ⟨h1, _, List.mem_append_right _ (List.mem_singleton.2 rfl), h2⟩
        · rintro ⟨h1, r, hr, h2⟩
          rcases List.mem_append.1 hr with hr | hr
          · exact Or.inl ⟨h1, r, hr, h2⟩
          · rw [List.mem_singleton.1 hr] at h2
            exact Or.inr ⟨h1, h2⟩
      have HST := Lib.hid hstep; have HR3 := Lib.hid r3; have HR2 := Lib.hid hr2; have HPV := Lib.hid hprev
      clear hstep r3 hr2 hprev
      generalize hx : l[i]?.getD 0 = x at *
      clear hx
      have hx0 : ¬ (x : Int) < 0 := by omega
      have hxn : ¬ (n : Int) ≤ (x : Int) := by omega
      have hxn' : (x : Int) < (n : Int) := by omega
      by_cases h0 : i = 0
      · subst h0
        rw [Nat.add_zero] at p1
        go_wp2_with fail
        go_loopw [44] (fun qv wq => ∃ (q : Nat) (kv : List (Int × Value)), q ≤ m ∧ qv = .int .i64 q ∧ Hid (MapAt wq w.heap.size kv) ∧ Hid (KeysAre kv (fun j => (j < m ∧ ∃ r ∈ l.take 0, 0 ≤ cI cost r j) ∨ (j < q ∧ 0 ≤ cI cost x j))) ∧ Hid (Below w.heap.size w wq)) (fun qv _ => m - (intOf qv).toNat)
        case atStart => exact ⟨0, kvs, Nat.zero_le _, rfl, hM, Lib.hid (hK.out.congr fun j => ⟨Or.inl, fun h => h.elim id fun h => by omega⟩), hW⟩
        case round =>
          clear hM hK hW p1 p3
          obtain ⟨q, kv, hqm, rfl, hM, hK, hW⟩ := hrel
          by_cases hq : q < m
          · obtain ⟨b5, o5, e5, p5w, l5⟩ := HR3.out.int (j := q) (by rw [HR2.out]; exact hq)
            subst e5
            have p5x : w.cell? ⟨b5, o5 + q, none⟩ = some (.int .i64 (cI cost x q)) := p5w
            have p5 := (hW.out.cell (p := ⟨b5, o5 + q, none⟩) l5).trans p5x
            have hq' : (q : Int) < (m : Int) := by omega
            obtain ⟨w', hrun, hmap, hbel, hgr, hsz⟩ := update_kv (P := Tryd.prog) (T := 154) Tryd.underlying154 Tryd.underlying3 hM.out hK.out.1 (q : Int) (.bool true)
            have HMP := Lib.hid hmap; have HW' := Lib.hid (hW.out.trans hbel)
            have hyes : 0 ≤ cI cost x q → KeysAre (kvPut kv (q : Int) (.bool true)) (fun j => (j < m ∧ ∃ r ∈ l.take 0, 0 ≤ cI cost r j) ∨ (j < q + 1 ∧ 0 ≤ cI cost x j)) := fun h => (hK.out.put q (.bool true)).congr fun j => by
              constructor
              · rintro ((h1 | ⟨h1, h2⟩) | rfl)
                · exact Or.inl h1
                · exact Or.inr ⟨by omega, h2⟩
                · exact Or.inr ⟨by omega, h⟩
              · rintro (h1 | ⟨h1, h2⟩)
                · exact Or.inl (Or.inl h1)
                · by_cases e : j = q
                  · exact Or.inr e
                  · exact Or.inl (Or.inr ⟨by omega, h2⟩)
            have hno : cI cost x q < 0 → KeysAre kv (fun j => (j < m ∧ ∃ r ∈ l.take 0, 0 ≤ cI cost r j) ∨ (j < q + 1 ∧ 0 ≤ cI cost x j)) := fun h => hK.out.congr fun j => by
              constructor
              · rintro (h1 | ⟨h1, h2⟩)
                · exact Or.inl h1
                · exact Or.inr ⟨by omega, h2⟩
              · rintro (h1 | ⟨h1, h2⟩)
                · exact Or.inl h1
                · by_cases e : j = q
                  · subst e; omega
                  · exact Or.inr ⟨by omega, h2⟩
            have HY := Lib.hid hyes; have HN := Lib.hid hno
            clear hyes hno hmap hbel hgr hsz p5x p5w
            generalize cI cost x q = ci at *
            by_cases hc : 0 ≤ ci
            · have H2 := Lib.hid (HY.out hc)
              go_wp2_with fail
              go_roundw
              case rel => exact ⟨q + 1, kvPut kv (q : Int) (.bool true), by omega, by go_num, HMP, H2, HW'⟩
              case measure => simp [intOf]; omega
            · have H2 := Lib.hid (HN.out (by omega))
              clear hrun
              go_wp2_with fail
              go_roundw
              case rel => exact ⟨q + 1, kv, by omega, by go_num, hM, H2, hW⟩
              case measure => simp [intOf]; omega
          · obtain rfl : q = m := by omega
            have hq' : ¬ (q : Int) < (q : Int) := by omega
            have H2 := Lib.hid (HST.out kv hK.out)
            go_wp2_with fail
            go_roundw
            case rel => exact ⟨0 + 1, kv, by omega, by go_num, hM, H2, hW⟩
            case measure => simp [intOf]; omega
      · obtain ⟨y, py, hyx⟩ := HPV.out (by omega)
        have hi0 : (0 : Int) < (i : Int) := by omega
        have hyx' : ¬ (x : Int) ≤ (y : Int) := by omega
        go_wp2_with fail
        go_loopw [44] (fun qv wq => ∃ (q : Nat) (kv : List (Int × Value)), q ≤ m ∧ qv = .int .i64 q ∧ Hid (MapAt wq w.heap.size kv) ∧ Hid (KeysAre kv (fun j => (j < m ∧ ∃ r ∈ l.take i, 0 ≤ cI cost r j) ∨ (j < q ∧ 0 ≤ cI cost x j))) ∧ Hid (Below w.heap.size w wq)) (fun qv _ => m - (intOf qv).toNat)
        case atStart => exact ⟨0, kvs, Nat.zero_le _, rfl, hM, Lib.hid (hK.out.congr fun j => ⟨Or.inl, fun h => h.elim id fun h => by omega⟩), hW⟩
        case round =>
          clear hM hK hW p1 p3 py
          obtain ⟨q, kv, hqm, rfl, hM, hK, hW⟩ := hrel
          by_cases hq : q < m
          · obtain ⟨b5, o5, e5, p5w, l5⟩ := HR3.out.int (j := q) (by rw [HR2.out]; exact hq)
            subst e5
            have p5x : w.cell? ⟨b5, o5 + q, none⟩ = some (.int .i64 (cI cost x q)) := p5w
            have p5 := (hW.out.cell (p := ⟨b5, o5 + q, none⟩) l5).trans p5x
            have hq' : (q : Int) < (m : Int) := by omega
            obtain ⟨w', hrun, hmap, hbel, hgr, hsz⟩ := update_kv (P := Tryd.prog) (T := 154) Tryd.underlying154 Tryd.underlying3 hM.out hK.out.1 (q : Int) (.bool true)
            have HMP := Lib.hid hmap; have HW' := Lib.hid (hW.out.trans hbel)
            have hyes : 0 ≤ cI cost x q → KeysAre (kvPut kv (q : Int) (.bool true)) (fun j => (j < m ∧ ∃ r ∈ l.take i, 0 ≤ cI cost r j) ∨ (j < q + 1 ∧ 0 ≤ cI cost x j)) := fun h => (hK.out.put q (.bool true)).congr fun j => by
              constructor
              · rintro ((h1 | ⟨h1, h2⟩) | rfl)
                · exact Or.inl h1
                · exact Or.inr ⟨by omega, h2⟩
                · exact Or.inr ⟨by omega, h⟩
              · rintro (h1 | ⟨h1, h2⟩)
                · exact Or.inl (Or.inl h1)
                · by_cases e : j = q
                  · exact Or.inr e
                  · exact Or.inl (Or.inr ⟨by omega, h2⟩)
            have hno : cI cost x q < 0 → KeysAre kv (fun j => (j < m ∧ ∃ r ∈ l.take i, 0 ≤ cI cost r j) ∨ (j < q + 1 ∧ 0 ≤ cI cost x j)) := fun h => hK.out.congr fun j => by
              constructor
              · rintro (h1 | ⟨h1, h2⟩)
                · exact Or.inl h1
                · exact Or.inr ⟨by omega, h2⟩
              · rintro (h1 | ⟨h1, h2⟩)
                · exact Or.inl h1
                · by_cases e : j = q
                  · subst e; omega
                  · exact Or.inr ⟨by omega, h2⟩
            have HY := Lib.hid hyes; have HN := Lib.hid hno
            clear hyes hno hmap hbel hgr hsz p5x p5w
            generalize cI cost x q = ci at *
            by_cases hc : 0 ≤ ci
            · have H2 := Lib.hid (HY.out hc)
              go_wp2_with fail
              go_roundw
              case rel => exact ⟨q + 1, kvPut kv (q : Int) (.bool true), by omega, by go_num, HMP, H2, HW'⟩
              case measure => simp [intOf]; omega
            · have H2 := Lib.hid (HN.out (by omega))
              clear hrun
              go_wp2_with fail
              go_roundw
              case rel => exact ⟨q + 1, kv, by omega, by go_num, hM, H2, hW⟩
              case measure => simp [intOf]; omega
          · obtain rfl : q = m := by omega
            have hq' : ¬ (q : Int) < (q : Int) := by omega
            have H2 := Lib.hid (HST.out kv hK.out)
            go_wp2_with fail
            go_roundw
            case rel => exact ⟨i + 1, kv, by omega, by go_num, hM, H2, hW⟩
            case measure => simp [intOf]; omega
    · obtain rfl : i = k := by omega
      have hi' : ¬ (i : Int) < (i : Int) := by omega
      have htake : l.take i = l := List.take_of_length_le (by rw [HK.out]; exact Nat.le_refl _)
      have hkk := hK.out
      rw [htake] at hkk
      have hcount := hkk.count
      have hlen := fun ty => run_len_kv (P := Tryd.prog) (T := 154) Tryd.underlying154 hM.out ty
      rw [hcount] at hlen
      generalize colsN (cI cost) m l = q at *
      clear hcount hkk htake
      go_wp2_with fail
      go_ret
      refine ⟨?_, hW.out⟩
      rw [HF.out]
      rfl
end Go.Proofs.YtggcbblikgankaaDoor
end
section
/- CastingEither: the law's walk. -/
namespace Go.Proofs.YtggcbblikgankaaDoor
open Go Go.RowKit Go.Deep

set_option maxRecDepth 100000 in
set_option maxHeartbeats 16000000 in
theorem either_any (cost : List (List Int)) (n : Nat) (hl : cost.length = n) (aC : Option Addr) (cC : Nat) (hcap : n ≤ cC) (hcc : cC ≤ maxLen) (to : List Int) (nt : Nat) (hnt : to.length = nt) (aT : Option Addr) (cT : Nat) (w : World) (hE : Env w) (hz : 2 ≤ w.heap.size) (hC : IsMat w (.slice aC n cC) cost) (hT : IsRow encI 1 w (.slice aT nt cT) to) :
    Calls Tryd.prog 8 #[.slice aC n cC, .slice aT nt cT] w (trueP w) := by
  have hmt : nt ≤ maxLen := by obtain ⟨_, _, _, h, _⟩ := hT; omega
  simp only [maxLen] at hmt
  have HSA := Lib.hid (sane47_any w hE hz); have HC := Lib.hid hC; have HT := Lib.hid hT; have HL := Lib.hid hl; have HNT := Lib.hid hnt
  clear hE hC hT hl hnt
  go_enter Tryd.func8, Tryd.ntmps8
  go_wp2_with fail
  refine HSA.out.mono ?_
  rintro e W1 ⟨rfl, hb1⟩
  have HB1 := Lib.hid hb1
  have HRI := Lib.hid (right47_any aC n cC cost HL.out W1 (HC.out.below hb1 (Nat.le_refl _)))
  clear hb1 HSA
  go_wp2_with fail
  refine HRI.out.mono ?_
  rintro e W2 ⟨rfl, hb2⟩
  have HB2 := Lib.hid (HB1.out.trans (hb2.mono HB1.out.size))
  clear hb2 HRI HB1
  cases hr : costB cost with
  | false =>
    go_wp2_with fail
    go_ret
    exact ⟨rfl, HB2.out⟩
  | true =>
    have hce : castE cost = 0 := by
      unfold costB at hr
      rw [Bool.and_eq_true] at hr
      exact of_decide_eq_true hr.2
    obtain ⟨r1, r2, r3, r4, r5⟩ := right_of hce
    rw [HL.out] at r1
    have HCE := Lib.hid hce; have R1 := Lib.hid r1; have R2 := Lib.hid r2; have R3 := Lib.hid r3; have R4 := Lib.hid r4
    clear hr hce r1 r2 r3 r4 r5
    by_cases ht : 20 < nt
    · have ht' : (20 : Int) < (nt : Int) := by omega
      go_wp2_with fail
      go_ret
      exact ⟨rfl, HB2.out⟩
    have ht' : ¬ (20 : Int) < (nt : Int) := by omega
    have HBE := Lib.hid (best_any cost aC n cC HL.out hcap hcc W2 (HC.out.below HB2.out (Nat.le_refl _)))
    go_wp2_with fail
    refine HBE.out.mono ?_
    rintro e W3 ⟨hb3, ⟨h, _⟩ | ⟨_, hno, rfl⟩ | ⟨_, v, t, taken, best, rfl, hmin, hF, hown⟩⟩
    · exact absurd HCE.out h
    · have HB3 := Lib.hid (HB2.out.trans (hb3.mono HB2.out.size)); have HNO := Lib.hid hno
      have HDE := Lib.hid (deny_any W3 (HC.out.below HB3.out (Nat.le_refl _)))
      clear hb3 hno HBE HB2
      go_wp2_with fail
      refine HDE.out.mono ?_
      rintro e W4 ⟨hb4, ⟨h, _⟩ | ⟨_, hd, rfl⟩ | ⟨_, v, l, hd, rfl, hrow⟩⟩
      · exact absurd HCE.out h
      · have HB4 := Lib.hid (HB3.out.trans (hb4.mono HB3.out.size))
        have HND := Lib.hid (denyF_none hd)
        have HPR := Lib.hid (prices_any W4 (HC.out.below HB4.out (Nat.le_refl _)))
        clear hb4 HDE HB3 hd
        go_wp2_with fail
        refine HPR.out.mono ?_
        rintro e W5 (⟨h, _⟩ | ⟨_, res, _, h⟩)
        · exact absurd HCE.out h
        · cases res with
          | none => exact absurd h.1 HND.out
          | some s => exact absurd h.1.castN (HNO.out _)
      · have HB4 := Lib.hid (HB3.out.trans (hb4.mono HB3.out.size))
        obtain ⟨hi, hf, _, hh⟩ := denyF_some hd
        obtain ⟨ao, c, e3, _⟩ := id hrow
        subst e3
        rw [intsN_len] at hrow ⊢
        have HPR := Lib.hid (prices_any W4 (HC.out.below HB4.out (Nat.le_refl _)))
        have HROW := Lib.hid hrow; have HI := Lib.hid hi; have HF := Lib.hid hf
        clear hb4 HDE HB3 hd hh hrow hi hf
        go_wp2_with fail
        refine HPR.out.mono ?_
        rintro e W5 (⟨h, _⟩ | ⟨_, res, _, h⟩)
        · exact absurd HCE.out h
        · cases res with
          | some s => exact absurd h.1.castN (HNO.out _)
          | none =>
            obtain ⟨_, rfl, hb5⟩ := h
            have HB5 := Lib.hid (HB4.out.trans (hb5.mono HB4.out.size))
            have HC5 := Lib.hid (HC.out.below HB5.out (Nat.le_refl _))
            have hsum := sum47_any cost n (widN cost) HL.out R3.out R1.out R2.out R4.out aC cC to nt HNT.out aT cT W5 HC5.out (HT.out.below HB5.out (Nat.le_refl _))
            have hcf : castB n (widN cost) (cI cost) to = false := by
              cases h : castB n (widN cost) (cI cost) to with
              | false => rfl
              | true => exact absurd (by rw [HL.out]; exact castB_cast h) (HNO.out _)
            rw [hcf] at hsum
            have HSUM := Lib.hid hsum
            have HROW5 := Lib.hid (HROW.out.below hb5 (Nat.le_refl _))
            clear hcf hsum hb5 HB4 HPR HROW HNO
            generalize sumV n (widN cost) (cI cost) to = sv at *
            go_wp2_with fail
            refine HSUM.out.mono ?_
            rintro e W6 ⟨rfl, hb6⟩
            have HB6 := Lib.hid (HB5.out.trans (hb6.mono HB5.out.size))
            have hcr := crowded_any cost n (widN cost) HL.out R3.out R1.out R2.out aC cC l l.length rfl (by rw [← HL.out]; exact HI.out) ao c W6 (HC.out.below HB6.out (Nat.le_refl _)) (HROW5.out.below hb6 (Nat.le_refl _))
            have hf := HF.out
            rw [hf] at hcr
            have HCR := Lib.hid hcr
            clear hb6 HSUM HB5 hf hcr
            go_wp2_with fail
            refine HCR.out.mono ?_
            rintro e W7 ⟨rfl, hb7⟩
            have HB7 := Lib.hid (HB6.out.trans (hb7.mono HB6.out.size))
            clear hb7 HCR HB6
            go_wp2_with fail
            go_ret
            exact ⟨rfl, HB7.out⟩
    · have HB3 := Lib.hid (HB2.out.trans (hb3.mono HB2.out.size))
      have hcast := found_cast hF
      have hrow := own_ints hown (toL_len t _)
      have hr2 := hrow
      obtain ⟨ao, c, e3, _⟩ := id hr2
      subst e3
      rw [toL_len, HL.out] at hrow ⊢
      rw [HL.out] at hcast hmin hF
      have HDE := Lib.hid (deny_any W3 (HC.out.below HB3.out (Nat.le_refl _)))
      have HCA := Lib.hid hcast.1; have HFO := Lib.hid hF; have HSU := Lib.hid hcast.2; have HMIN := Lib.hid hmin; have HROW := Lib.hid hrow
      clear hb3 hcast hF hmin hrow hr2 hown HBE HB2
      go_wp2_with fail
      refine HDE.out.mono ?_
      rintro e W4 ⟨hb4, ⟨h, _⟩ | ⟨_, hd, rfl⟩ | ⟨_, v, l, hd, rfl, hrow⟩⟩
      · exact absurd HCE.out h
      · have HB4 := Lib.hid (HB3.out.trans (hb4.mono HB3.out.size))
        have HROW4 := Lib.hid (HROW.out.below hb4 (Nat.le_refl _))
        have HPR := Lib.hid (prices_any W4 (HC.out.below HB4.out (Nat.le_refl _)))
        clear hb4 HDE HB3 hd HROW
        go_wp2_with fail
        refine HPR.out.mono ?_
        rintro e W5 (⟨h, _⟩ | ⟨_, res, _, h⟩)
        · exact absurd HCE.out h
        · cases res with
          | none => exact absurd (by rw [HL.out]; exact HCA.out) (hall_none h.1 t)
          | some s =>
            obtain ⟨hso, U, V, rfl, hU, hV, hb5⟩ := h
            have HB5 := Lib.hid (HB4.out.trans (hb5.mono HB4.out.size))
            have HC5 := Lib.hid (HC.out.below HB5.out (Nat.le_refl _))
            have hsum := sum47_any cost n (widN cost) HL.out R3.out R1.out R2.out R4.out aC cC to nt HNT.out aT cT W5 HC5.out (HT.out.below HB5.out (Nat.le_refl _))
            obtain ⟨hp1, hp2⟩ := sol_proves R3.out R4.out HCE.out hso
            have hso2 := hso
            rw [HL.out] at hso2 hp2
            have hlu := hso2.lu
            have hlv := hso2.lv
            have hbest : provN cost s.u s.v = best := by
              rw [hp2]
              have h1 := HMIN.out _ hso2.castN
              have h2 := hso2.opt HCA.out
              have h3 := HSU.out
              omega
            have hup : castB n (widN cost) (cI cost) to = true → best ≤ sumV n (widN cost) (cI cost) to := fun h => by
              unfold sumV
              rw [if_pos h]
              exact HMIN.out _ (castB_cast h)
            have hUR := ints_at hU (by simp) hlu (by have := R1.out; omega)
            have hVR := ints_at hV (by simp) hlv (by have := R2.out; omega)
            have HSUM := Lib.hid hsum; have HUP := Lib.hid hup; have HUR := Lib.hid hUR; have HVR := Lib.hid hVR; have HBEST := Lib.hid hbest; have HP1 := Lib.hid hp1; have HLU := Lib.hid hlu; have HLV := Lib.hid hlv
            have HROW5 := Lib.hid (HROW4.out.below hb5 (Nat.le_refl _))
            clear hsum hup hUR hVR hbest hp1 hp2 hlu hlv hso2 hso hb5 HB4 HPR HROW4 hU hV
            generalize sumV n (widN cost) (cI cost) to = sv at *
            generalize castB n (widN cost) (cI cost) to = cb at *
            rw [HL.out]
            generalize hw : widN cost = m at *
            have HWM := Lib.hid hw
            clear hw
            go_wp2_with fail
            refine HSUM.out.mono ?_
            rintro e W6 ⟨rfl, hb6⟩
            have HB6 := Lib.hid (HB5.out.trans (hb6.mono HB5.out.size))
            have hs2 := sum47_any cost n m HL.out R3.out R1.out R2.out R4.out aC cC (toL t n) n (toL_len t n) ao c W6 (HC.out.below HB6.out (Nat.le_refl _)) (HROW5.out.below hb6 (Nat.le_refl _))
            obtain ⟨f1, f2⟩ := found_castB HFO.out
            rw [f1, f2] at hs2
            have HS2 := Lib.hid hs2
            have HUR6 := Lib.hid (HUR.out.below hb6 (Nat.le_refl _)); have HVR6 := Lib.hid (HVR.out.below hb6 (Nat.le_refl _))
            clear hb6 HSUM HB5 f1 f2 hs2 HUR HVR
            go_wp2_with fail
            refine HS2.out.mono ?_
            rintro e W7 ⟨rfl, hb7⟩
            have HB7 := Lib.hid (HB6.out.trans (hb7.mono HB6.out.size))
            have hpv := proves_any s.u s.v n m HLU.out HLV.out _ _ _ _ W7 (HC.out.below HB7.out (Nat.le_refl _)) (HUR6.out.below hb7 (Nat.le_refl _)) (HVR6.out.below hb7 (Nat.le_refl _))
            unfold ProvesP at hpv
            rw [HCE.out, HP1.out, HBEST.out] at hpv
            have hd0 : (decide ((0 : Int) = 0) && true) = true := by decide
            rw [hd0] at hpv
            have HPV := Lib.hid hpv
            clear hb7 HS2 HB6 hd0 hpv
            go_wp2_with fail
            refine HPV.out.mono ?_
            rintro e W8 ⟨rfl, hb8⟩
            have HB8 := Lib.hid (HB7.out.trans (hb8.mono HB7.out.size))
            clear hb8 HPV HB7
            cases cb with
            | false =>
              go_wp2_with fail
              go_ret
              exact ⟨rfl, HB8.out⟩
            | true =>
              have hle := HUP.out rfl
              go_wp2_with fail
              go_ret
              exact ⟨rfl, HB8.out⟩
      · obtain ⟨_, _, _, hh⟩ := denyF_some hd
        exact absurd (by rw [HL.out]; exact HCA.out) (hall_none hh t)
end Go.Proofs.YtggcbblikgankaaDoor
end
