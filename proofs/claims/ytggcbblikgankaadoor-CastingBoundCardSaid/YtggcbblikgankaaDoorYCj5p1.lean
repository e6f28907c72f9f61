/- The walk of the statement: part 1. -/
import Derived.Test.YtggcbblikgankaaDoorZ44
import Derived.Test.YtggcbblikgankaaDoorZ34
import Derived.Test.YtggcbblikgankaaDoorZ48
set_option linter.unusedVariables false
set_option linter.unusedSimpArgs false
section
/- The law's sum: the cost of a cast, and whether it is one. -/
namespace Go.Proofs.YtggcbblikgankaaDoor
open Go Go.RowKit Go.Deep

def stepOk (m : Nat) (c : Nat → Nat → Int) (to : List Int) (i : Nat) : Bool := decide (0 ≤ gi to i ∧ gi to i < m ∧ 0 ≤ c i (gi to i).toNat ∧ gi to i ∉ to.take i)
/-- Is this list a cast? -/
def castB (n m : Nat) (c : Nat → Nat → Int) (to : List Int) : Bool := decide (to.length = n) && (List.range n).all (stepOk m c to)
def sumV (n m : Nat) (c : Nat → Nat → Int) (to : List Int) : Int := if castB n m c to = true then sumT (fun r => c r (gi to r).toNat) n else 0
section
variable {n m : Nat} {c : Nat → Nat → Int} {to : List Int}
theorem castB_step (h : castB n m c to = true) : to.length = n ∧ ∀ i, i < n → 0 ≤ gi to i ∧ gi to i < m ∧ 0 ≤ c i (gi to i).toNat ∧ gi to i ∉ to.take i := by
  unfold castB at h
  rw [Bool.and_eq_true, List.all_eq_true] at h
  exact ⟨of_decide_eq_true h.1, fun i hi => of_decide_eq_true (h.2 i (List.mem_range.2 hi))⟩
theorem castB_cast (h : castB n m c to = true) : CastN n m c (fun r => (gi to r).toNat) := by
  obtain ⟨hl, hs⟩ := castB_step h
  have key : ∀ r r', r < n → r' < r → gi to r' ≠ gi to r := fun r r' hr hr' e => by
    refine (hs r hr).2.2.2 ?_
    rw [← e]
    refine List.mem_of_getElem? (i := r') ?_
    rw [List.getElem?_take, if_pos hr']
    exact gi_some (by omega)
  refine ⟨fun r hr => ?_, fun r hr => (hs r hr).2.2.1, fun r r' hr hr' e => ?_⟩
  · have := hs r hr; omega
  · have h1 := hs r hr; have h2 := hs r' hr'
    have e2 : gi to r = gi to r' := by omega
    rcases Nat.lt_trichotomy r r' with h | h | h
    · exact absurd e2 (key r' r hr' h)
    · exact h
    · exact absurd e2.symm (key r r' hr h)
theorem castB_false {i : Nat} (hi : i < n) (h : ¬ (0 ≤ gi to i ∧ gi to i < m ∧ 0 ≤ c i (gi to i).toNat ∧ gi to i ∉ to.take i)) : castB n m c to = false := by
  unfold castB
  rw [Bool.and_eq_false_iff]
  right
  rw [List.all_eq_false]
  exact ⟨i, List.mem_range.2 hi, by unfold stepOk; simpa using h⟩
theorem castB_true (hl : to.length = n) (h : ∀ i, i < n → 0 ≤ gi to i ∧ gi to i < m ∧ 0 ≤ c i (gi to i).toNat ∧ gi to i ∉ to.take i) : castB n m c to = true := by
  unfold castB
  rw [decide_eq_true hl, Bool.true_and, List.all_eq_true]
  exact fun i hi => decide_eq_true (h i (List.mem_range.1 hi))
end
def takenKV (l : List Int) : List (Int × Value) := l.map fun x => (x, .bool true)
theorem takenKV_get (l : List Int) (x : Int) : (kvGet (takenKV l) x).getD (.bool false) = .bool (decide (x ∈ l)) := by
  unfold kvGet takenKV
  induction l with
  | nil => rfl
  | cons a l ih =>
    rw [List.map_cons, List.find?_cons]
    by_cases h : a = x
    · subst h; simp
    · have h1 : (((a, Value.bool true) : Int × Value).1 == x) = false := by simpa using h
      rw [h1]
      rw [ih]
      congr 1
      have : x ≠ a := fun e => h e.symm
      simp [this]
theorem takenKV_put (l : List Int) (x : Int) (h : x ∉ l) : kvPut (takenKV l) x (.bool true) = takenKV (l ++ [x]) := by
  have hn : (kvGet (takenKV l) x).isSome = false := by
    unfold kvGet takenKV
    simp only [Option.isSome_map]
    rw [Option.isSome_eq_false_iff, Option.isNone_iff_eq_none, List.find?_eq_none]
    intro p hp
    obtain ⟨y, hy, rfl⟩ := List.mem_map.1 hp
    simp only [beq_iff_eq]
    rintro rfl
    exact h hy
  unfold kvPut
  rw [hn]
  unfold takenKV
  simp
theorem takenKV_apart (l : List Int) (h : l.Nodup) : KeysApart (takenKV l) := by
  unfold KeysApart takenKV
  rw [List.map_map]
  have : (Prod.fst ∘ fun x : Int => (x, Value.bool true)) = id := rfl
  rw [this, List.map_id]
  exact h
set_option maxRecDepth 100000 in
set_option maxHeartbeats 8000000 in
theorem sum47_any (cost : List (List Int)) (n m : Nat) (hl : cost.length = n) (hrl : ∀ r ∈ cost, r.length = m) (hn : n ≤ 16) (hm : m ≤ 16) (hc : ∀ r j, cI cost r j ≤ topC) (aoC : Option Addr) (ccC : Nat) (to : List Int) (nt : Nat) (hnt : to.length = nt) (aoT : Option Addr) (ccT : Nat) (w : World) (hC : IsMat w (.slice aoC n ccC) cost) (hT : IsRow encI 1 w (.slice aoT nt ccT) to) :
    Calls Tryd.prog 35 #[.slice aoC n ccC, .slice aoT nt ccT] w fun e w' => e = .returned (.tuple #[.int .i64 (sumV n m (cI cost) to), .bool (castB n m (cI cost) to)]) ∧ Below w.heap.size w w' := by
  have hmx : nt ≤ maxLen := by obtain ⟨_, _, _, h, _⟩ := hT; omega
  simp only [maxLen] at hmx
  by_cases hln : nt = n
  · subst hln
    have hno : ∀ i, i < nt → ¬ (0 ≤ gi to i ∧ gi to i < m ∧ 0 ≤ cI cost i (gi to i).toNat ∧ gi to i ∉ to.take i) → castB nt m (cI cost) to = false ∧ sumV nt m (cI cost) to = 0 := fun i hi h => by
      have h1 := castB_false hi h
      exact ⟨h1, by unfold sumV; rw [h1]; rfl⟩
    have hyes : (∀ i, i < nt → 0 ≤ gi to i ∧ gi to i < m ∧ 0 ≤ cI cost i (gi to i).toNat ∧ gi to i ∉ to.take i) → castB nt m (cI cost) to = true ∧ sumV nt m (cI cost) to = sumT (fun r => cI cost r (gi to r).toNat) nt := fun h => by
      have h1 := castB_true hnt h
      exact ⟨h1, by unfold sumV; rw [h1]; rfl⟩
    have HNO := Lib.hid hno; have HYES := Lib.hid hyes; have HC := Lib.hid hC; have HT := Lib.hid hT; have HL := Lib.hid hl; have HRL := Lib.hid hrl; have HTOP := Lib.hid hc; have HNT := Lib.hid hnt
    clear hno hyes hC hT hl hrl hc hnt
    generalize castB nt m (cI cost) to = cb at *
    generalize sumV nt m (cI cost) to = sv at *
    have hmm := @run_makeMap Tryd.prog
    have hm0 := MapAt.new w
    have HM0 := Lib.hid hm0
    clear hm0
    go_enter Tryd.func35, Tryd.ntmps35
    go_wp2_with fail
    go_loopw [4, 17] (fun sv iv wr => ∃ (i : Nat) (s : Int), i ≤ nt ∧ iv = .int .i64 i ∧ sv = .int .i64 s ∧ 0 ≤ s ∧ s ≤ 1048576 * i ∧ Hid (s = sumT (fun r => cI cost r (gi to r).toNat) i) ∧ Hid (MapAt wr w.heap.size (takenKV (to.take i))) ∧ Hid (∀ q, q < i → 0 ≤ gi to q ∧ gi to q < m ∧ 0 ≤ cI cost q (gi to q).toNat ∧ gi to q ∉ to.take q) ∧ Hid (Below w.heap.size w wr)) (fun _ iv _ => nt - (intOf iv).toNat)
    case atStart => exact ⟨0, 0, Nat.zero_le _, rfl, rfl, Int.le_refl _, by omega, Lib.hid rfl, HM0, Lib.hid (fun q hq => by omega), Lib.hid ((Below.refl _ _).alloc (Nat.le_refl _) _)⟩
    case round =>
      obtain ⟨i, s, hin, rfl, rfl, hs0, hs1, hS, hMp, hall, hW⟩ := hrel
      by_cases hi : i < nt
      · obtain ⟨b1, o1, e1, p1, _⟩ := (HT.out.below hW.out (Nat.le_refl _)).int (j := i) (by rw [HNT.out]; exact hi)
        subst e1
        have hi' : (i : Int) < (nt : Int) := by omega
        obtain ⟨b2, o2, e2, aR, cR, p2w, r2, l2⟩ := HC.out.at_ (i := i) (by rw [HL.out]; exact hi)
        subst e2
        have hr2 : (cost[i]?.getD []).length = m := HRL.out _ (by rw [List.getElem?_eq_getElem (by rw [HL.out]; exact hi)]; exact List.getElem_mem _)
        rw [hr2] at p2w r2
        have p2 := (hW.out.cell (p := ⟨b2, o2 + i, none⟩) l2).trans p2w
        have hlk := run_lookup_kv (P := Tryd.prog) (T := 154) Tryd.underlying154 Tryd.underlying3 hMp.out (gi to i) (Tryd.zeroValue4 _) false
        rw [if_neg (by decide), takenKV_get] at hlk
        have htk : to.take (i + 1) = to.take i ++ [gi to i] := by rw [List.take_add_one, gi_some (by rw [HNT.out]; exact hi)]; rfl
        have hf := HNO.out i hi
        have htop := fun j => HTOP.out i j
        have HF := Lib.hid hf; have HTK := Lib.hid htk
        have hsum : s + cI cost i (gi to i).toNat = sumT (fun r => cI cost r (gi to r).toNat) (i + 1) := by
          show _ = sumT _ i + _
          rw [hS.out]
        have hstep : (0 ≤ gi to i ∧ gi to i < m ∧ 0 ≤ cI cost i (gi to i).toNat ∧ gi to i ∉ to.take i) → ∀ q, q < i + 1 → 0 ≤ gi to q ∧ gi to q < m ∧ 0 ≤ cI cost q (gi to q).toNat ∧ gi to q ∉ to.take q := fun h q hq => by
          by_cases e : q = i
          · subst e; exact h
          · exact hall.out q (by omega)
        have hnd : (to.take i).Nodup := by
          rw [List.nodup_iff_pairwise_ne, List.pairwise_iff_getElem]
          intro a b ha hb hab
          have hbi : b < i := Nat.lt_of_lt_of_le hb (by rw [List.length_take]; exact Nat.min_le_left _ _)
          rw [List.getElem_take, List.getElem_take]
          intro e
          have hbn : b < to.length := by rw [HNT.out]; omega
          refine (hall.out b hbi).2.2.2 ?_
          have hg : gi to b = to[b] := by unfold gi; rw [List.getElem?_eq_getElem hbn]; rfl
          rw [hg, ← e]
          exact List.mem_of_getElem? (i := a) (by rw [List.getElem?_take, if_pos hab]; exact List.getElem?_eq_getElem _)
        have HSUM := Lib.hid hsum; have HST := Lib.hid hstep; have HR2 := Lib.hid r2; have HND := Lib.hid hnd
        clear hf htk hsum hstep r2 hr2 hnd hall hS
        generalize hx : gi to i = x at *
        have HX := Lib.hid hx
        clear hx
        by_cases hx0 : x < 0
        · obtain ⟨hcb, hsv⟩ := HF.out (fun h => by omega)
          have H1 := Lib.hid hcb; have H2 := Lib.hid hsv
          clear hcb hsv hlk htop
          go_wp2_with fail
          refine bodyPost_ret (results_tmp2 rfl _ _ _) rfl ?_
          exact ⟨by rw [H1.out, H2.out]; rfl, hW.out⟩
        · obtain ⟨q, rfl⟩ := Int.eq_ofNat_of_zero_le (show 0 ≤ x by omega)
          rw [Int.toNat_natCast] at HF HSUM HST
          by_cases hqm : q < m
          · have hqm' : ¬ (m : Int) ≤ (q : Int) := by omega
            obtain ⟨b3, o3, e3, p3w, l3⟩ := HR2.out.int (j := q) (by have := HR2.out; obtain ⟨_, _, e, _⟩ := this; injection e with _ e5; omega)
            subst e3
            have p3x : w.cell? ⟨b3, o3 + q, none⟩ = some (.int .i64 (cI cost i q)) := p3w
            have p3' := (hW.out.cell (p := ⟨b3, o3 + q, none⟩) l3).trans p3x
            have ht := htop q
            have hq' : (q : Int) < (m : Int) := by omega
            clear p3w htop HR2
            generalize cI cost i q = ci at *
            have hci : ci ≤ 1048576 := ht
            by_cases hc0 : ci < 0
            · obtain ⟨hcb, hsv⟩ := HF.out (fun h => by omega)
              have H1 := Lib.hid hcb; have H2 := Lib.hid hsv
              clear hcb hsv hlk ht
              go_wp2_with fail
              refine bodyPost_ret (results_tmp2 rfl _ _ _) rfl ?_
              exact ⟨by rw [H1.out, H2.out]; rfl, hW.out⟩
            · by_cases htk : (q : Int) ∈ to.take i
              · obtain ⟨hcb, hsv⟩ := HF.out (fun h => h.2.2.2 htk)
                have H1 := Lib.hid hcb; have H2 := Lib.hid hsv
                rw [decide_eq_true htk] at hlk
                clear hcb hsv ht
                go_wp2_with fail
                refine bodyPost_ret (results_tmp2 rfl _ _ _) rfl ?_
                exact ⟨by rw [H1.out, H2.out]; rfl, hW.out⟩
              · rw [decide_eq_false htk] at hlk
                obtain ⟨w', hrun, hmap, hbel, hgr, hsz⟩ := update_kv (P := Tryd.prog) (T := 154) Tryd.underlying154 Tryd.underlying3 hMp.out (takenKV_apart _ HND.out) (q : Int) (.bool true)
                rw [takenKV_put _ _ htk, ← HTK.out] at hmap
                have hW' : Below w.heap.size w w' := hW.out.trans hbel
                have HMP := Lib.hid hmap; have HW' := Lib.hid hW'
                have H3 := Lib.hid (HST.out ⟨by omega, by omega, by omega, htk⟩)
                have hMl := hMp.out.lt
                have hp2' := (hW'.cell (p := ⟨b2, o2 + i, none⟩) l2).trans p2w
                have hp3' := (hW'.cell (p := ⟨b3, o3 + q, none⟩) l3).trans p3x
                clear hmap hW' hbel hgr hsz hMp ht htk
                go_wp2_with fail
                go_roundw
                case rel => exact ⟨i + 1, s + ci, by omega, by go_num, rfl, by omega, by omega, HSUM, HMP, H3, HW'⟩
                case measure => simp [intOf]; omega
          · have hqm' : (m : Int) ≤ (q : Int) := by omega
            obtain ⟨hcb, hsv⟩ := HF.out (fun h => by omega)
            have H1 := Lib.hid hcb; have H2 := Lib.hid hsv
            clear hcb hsv hlk htop
            go_wp2_with fail
            refine bodyPost_ret (results_tmp2 rfl _ _ _) rfl ?_
            exact ⟨by rw [H1.out, H2.out]; rfl, hW.out⟩
      · obtain rfl : i = nt := by omega
        have hi' : ¬ (i : Int) < (i : Int) := by omega
        obtain ⟨hcb, hsv⟩ := HYES.out hall.out
        have H1 := Lib.hid hcb; have H2 := Lib.hid (hsv.trans hS.out.symm)
        clear hcb hsv
        go_wp2_with fail
        refine bodyPost_ret (results_tmp2 rfl _ _ _) rfl ?_
        exact ⟨by rw [H1.out, H2.out]; rfl, hW.out⟩
  · have hne : ((nt : Int) != (n : Int)) = true := by simp; omega
    have h1 : castB n m (cI cost) to = false := by unfold castB; rw [decide_eq_false (by omega)]; rfl
    have h2 : sumV n m (cI cost) to = 0 := by unfold sumV; rw [h1]; rfl
    have H1 := Lib.hid h1; have H2 := Lib.hid h2
    clear h1 h2 hC hT
    go_enter Tryd.func35, Tryd.ntmps35
    go_wp2_with fail
    refine bodyPost_ret (results_tmp2 rfl _ _ _) rfl ?_
    exact ⟨by rw [H1.out, H2.out]; rfl, Below.refl _ _⟩
end Go.Proofs.YtggcbblikgankaaDoor
end
section
/- CastingBound: the law's walk. -/
namespace Go.Proofs.YtggcbblikgankaaDoor
open Go Go.RowKit Go.Deep

theorem provB_facts {cost : List (List Int)} {u v : List Int} (h : provB cost u v = true) : u.length = cost.length ∧ v.length = widN cost ∧ (∀ j, j < widN cost → -1099511627776 ≤ gi v j ∧ gi v j ≤ 0) ∧ (∀ i, i < cost.length → -1099511627776 ≤ gi u i ∧ gi u i ≤ 1099511627776) ∧ ∀ i j, i < cost.length → j < widN cost → 0 ≤ cI cost i j → gi u i + gi v j ≤ cI cost i j := by
  unfold provB at h
  simp only [Bool.and_eq_true, decide_eq_true_eq, Bool.not_eq_true'] at h
  obtain ⟨⟨⟨h1, h2⟩, h3⟩, h4⟩ := h
  unfold fitU at h4
  rw [List.all_eq_true] at h4
  refine ⟨h1, h2, fun j hj => ?_, fun i hi => ?_, fun i j hi hj h0 => ?_⟩
  · have := List.any_eq_false.1 h3 (gi v j) (List.mem_of_getElem? (gi_some (by omega)))
    unfold oddV at this
    simp at this
    omega
  · have := h4 i (List.mem_range.2 hi)
    rw [Bool.and_eq_true] at this
    have h5 := this.1
    unfold numB at h5
    simp at h5
    exact h5
  · have := h4 i (List.mem_range.2 hi)
    rw [Bool.and_eq_true] at this
    have h5 := this.2
    unfold fitR at h5
    rw [List.all_eq_true] at h5
    have h6 := h5 j (List.mem_range.2 hj)
    have h7 : 0 ≤ gi (cost[i]?.getD []) j := h0
    have h8 : cI cost i j = gi (cost[i]?.getD []) j := rfl
    rw [h8]
    simp at h6
    rcases h6 with h6 | h6
    · omega
    · exact h6
theorem sumT_bd {f : Nat → Int} {B : Int} : ∀ {n : Nat}, (∀ r, r < n → -B ≤ f r ∧ f r ≤ B) → -(B * n) ≤ sumT f n ∧ sumT f n ≤ B * n
  | 0, _ => by simp [sumT]
  | k + 1, h => by
    have ih := sumT_bd (n := k) (fun r hr => h r (by omega))
    have h1 := h k (by omega)
    unfold sumT
    have e : B * ((k + 1 : Nat) : Int) = B * (k : Int) + B := by rw [Int.natCast_add, Int.mul_add]; simp
    rw [e]
    omega
/-- What the law's walk wants of prices that fit. -/
structure BoundW (cost : List (List Int)) (u v : List Int) (n m : Nat) : Prop where
  vneg : ∀ j, j < m → -1099511627776 ≤ gi v j ∧ gi v j ≤ 0
  ubd : ∀ i, i < n → -1099511627776 ≤ gi u i ∧ gi u i ≤ 1099511627776
  fit : ∀ i j, i < n → j < m → 0 ≤ cI cost i j → gi u i + gi v j ≤ cI cost i j
  vsum : ∀ j, j ≤ m → -(1099511627776 * 16) ≤ sumT (gi v) j ∧ sumT (gi v) j ≤ 1099511627776 * 16
  usum : ∀ i, i ≤ n → -(1099511627776 * 16) ≤ sumT (gi u) i ∧ sumT (gi u) i ≤ 1099511627776 * 16
theorem boundW {cost : List (List Int)} {u v : List Int} (h : provB cost u v = true) (hn : cost.length ≤ 16) (hm : widN cost ≤ 16) : BoundW cost u v cost.length (widN cost) := by
  obtain ⟨_, _, h3, h4, h5⟩ := provB_facts h
  refine ⟨h3, h4, h5, fun j hj => ?_, fun i hi => ?_⟩
  · have := sumT_bd (f := gi v) (B := 1099511627776) (n := j) (fun r hr => by have := h3 r (by omega); omega)
    omega
  · have := sumT_bd (f := gi u) (B := 1099511627776) (n := i) (fun r hr => by have := h4 r (by omega); omega)
    omega
end Go.Proofs.YtggcbblikgankaaDoor
end
section
/- CastingBound: the law's loops and its end. Printed by a program of ours. -/
namespace Go.Proofs.YtggcbblikgankaaDoor
open Go Go.RowKit Go.Deep

noncomputable def code9 : Code := (Tryd.f9.body).getD .skip
noncomputable def part9n7 : Code := lastPart 7 code9
set_option maxRecDepth 100000 in
set_option maxHeartbeats 16000000 in
theorem bound_rest (w0 w : World) (hw : Below w0.heap.size w0 w) (cost : List (List Int)) (to u v : List Int) (n m nt : Nat) (hl : cost.length = n) (hmw : widN cost = m) (hnu : u.length = n) (hnv : v.length = m) (hrl : ∀ r ∈ cost, r.length = m) (r1 : n ≤ 16) (r2 : m ≤ 16) (hbw : BoundW cost u v n m) (hce : castE cost = 0) (bd : Int) (hbd : bd = sumT (gi v) m + sumT (gi u) n) (aC : Option Addr) (cC : Nat) (hcap : n ≤ cC) (hcc : cC ≤ maxLen) (aT aU aV : Option Addr) (cT cU cV : Nat)
    (hC : IsMat w (.slice aC n cC) cost) (hU : IsRow encI 1 w (.slice aU n cU) u) (hV : IsRow encI 1 w (.slice aV m cV) v) (hS : Calls Tryd.prog 35 #[.slice aC n cC, .slice aT nt cT] w fun e w' => e = .returned (.tuple #[.int .i64 (sumV n m (cI cost) to), .bool (castB n m (cI cost) to)]) ∧ Below w.heap.size w w') (e4 e5 e6 e7 e12 e13 e14 e15 e16 e17 e18 e19 e20 e21 e22 e23 e24 e25 e26 e27 e28 e29 e30 e31 e32 e33 e34 e35 e36 e37 e38 e39 e40 e41 e42 e43 e44 e45 e46 e47 e48 e49 e50 e51 e52 e53 e54 e55 e56 e57 e58 e59 e60 e61 e62 e63 e64 e65 e66 e67 e68 e69 e70 e71 e72 e73 e74 e75 e76 e77 e78 e79 e80 e81 e82 e83 e84 e85 e86 e87 e88 e89 e90 e91 e92 e93 e94 e95 e96 e97 e98 e99 e100 e101 e102 e103 e104 e105 e106 e107 e108 e109 e110 e111 e112 e113 e114 e115 e116 e117 e118 e119 e120 e121 e122 e123 e124 e125 e126 e127 e128 e129 e130 e131 e132 e133 e134 e135 e136 e137 e138 e139 e140 e141 e142 e143 e144 e145 e146 e147 e148 e149 e150 e151 e152 e153 e154 e155 e156 e157 e158 e159 e160 e161 : Value) :
    Code.wp Tryd.prog part9n7 (bodyPost Tryd.prog Tryd.f9 (trueP w0)) { tmps := #[.slice aC n cC, .slice aT nt cT, .slice aU n cU, .slice aV m cV, e4, e5, e6, e7, .bool false, .int .i64 bd, .bool true, .int .i64 0, e12, e13, e14, e15, e16, e17, e18, e19, e20, e21, e22, e23, e24, e25, e26, e27, e28, e29, e30, e31, e32, e33, e34, e35, e36, e37, e38, e39, e40, e41, e42, e43, e44, e45, e46, e47, e48, e49, e50, e51, e52, e53, e54, e55, e56, e57, e58, e59, e60, e61, e62, e63, e64, e65, e66, e67, e68, e69, e70, e71, e72, e73, e74, e75, e76, e77, e78, e79, e80, e81, e82, e83, e84, e85, e86, e87, e88, e89, e90, e91, e92, e93, e94, e95, e96, e97, e98, e99, e100, e101, e102, e103, e104, e105, e106, e107, e108, e109, e110, e111, e112, e113, e114, e115, e116, e117, e118, e119, e120, e121, e122, e123, e124, e125, e126, e127, e128, e129, e130, e131, e132, e133, e134, e135, e136, e137, e138, e139, e140, e141, e142, e143, e144, e145, e146, e147, e148, e149, e150, e151, e152, e153, e154, e155, e156, e157, e158, e159, e160, e161], defers := [] } w := by
  have hvm := hbw.vsum m (Nat.le_refl _)
  have hun := hbw.usum n (Nat.le_refl _)
  have hsv : castB n m (cI cost) to = true → bd ≤ sumV n m (cI cost) to := fun h => by
    unfold sumV
    rw [if_pos h, hbd]
    have := fit_bound (c := cI cost) (u := gi u) (v := gi v) hbw.fit (fun j hj => (hbw.vneg j hj).2) (castB_cast h)
    omega
  have hbest : ∀ t, CastN n m (cI cost) t → bd ≤ sumT (fun r => cI cost r (t r)) n := fun t ht => by
    rw [hbd]
    have := fit_bound (c := cI cost) (u := gi u) (v := gi v) hbw.fit (fun j hj => (hbw.vneg j hj).2) ht
    omega
  have HW := Lib.hid hw; have HL := Lib.hid hl; have HMW := Lib.hid hmw; have HNU := Lib.hid hnu; have HNV := Lib.hid hnv; have HRL := Lib.hid hrl; have HBW := Lib.hid hbw; have HCE := Lib.hid hce; have HBD := Lib.hid hbd; have HC := Lib.hid hC; have HU := Lib.hid hU; have HV := Lib.hid hV; have HS := Lib.hid hS; have HSV := Lib.hid hsv; have HBE := Lib.hid hbest
  clear hw hl hmw hnu hnv hrl hbw hce hbd hC hU hV hS hsv hbest
  unfold part9n7 code9
  conv => arg 2; whnf
  go_wp2_with fail
  go_loop [12, 80] (fun av iv => ∃ j : Nat, j ≤ m ∧ iv = .int .i64 j ∧ av = .int .i64 (sumT (gi v) j)) (fun _ iv => m - (intOf iv).toNat)
  case atStart => exact ⟨0, Nat.zero_le _, rfl, rfl⟩
  case round =>
    obtain ⟨j, hjm, rfl, rfl⟩ := hrel
    by_cases hj : j < m
    · have hj' : (j : Int) < (m : Int) := by omega
      obtain ⟨b1, o1, e1, p1, _⟩ := HV.out.int (j := j) (by rw [HNV.out]; exact hj)
      subst e1
      have h1 := HBW.out.vneg j hj
      have h2 := HBW.out.vsum j hjm
      have h3 : sumT (gi v) (j + 1) = sumT (gi v) j + gi v j := rfl
      have h4 : ¬ (0 : Int) < gi v j := by omega
      have H3 := Lib.hid h3
      clear h3
      generalize gi v j = x at *
      generalize sumT (gi v) j = sv at *
      go_wp2_with fail
      go_round
      case rel => exact ⟨j + 1, by omega, by go_num, by rw [H3.out]⟩
      case measure => simp [intOf]; omega
    · obtain rfl : j = m := by omega
      have hj' : ¬ (j : Int) < (j : Int) := by omega
      go_wp2_with fail
      go_loop [12, 92] (fun av iv => ∃ i : Nat, i ≤ n ∧ iv = .int .i64 i ∧ av = .int .i64 (sumT (gi v) j + sumT (gi u) i)) (fun _ iv => n - (intOf iv).toNat)
      case atStart => exact ⟨0, Nat.zero_le _, rfl, by simp [sumT]⟩
      case round =>
        obtain ⟨i, hin, rfl, rfl⟩ := hrel
        by_cases hi : i < n
        · have hi' : (i : Int) < (n : Int) := by omega
          obtain ⟨b1, o1, e1, p1, _⟩ := HU.out.int (j := i) (by rw [HNU.out]; exact hi)
          subst e1
          obtain ⟨b2, o2, e2, aR, cR, p2, r3, _⟩ := HC.out.at_ (i := i) (by rw [HL.out]; exact hi)
          subst e2
          have hr2 : (cost[i]?.getD []).length = j := HRL.out _ (by rw [List.getElem?_eq_getElem (by rw [HL.out]; exact hi)]; exact List.getElem_mem _)
          rw [hr2] at p2 r3
          have h1 := HBW.out.ubd i hi
          have h2 := HBW.out.usum i hin
          have h3 : sumT (gi v) j + sumT (gi u) (i + 1) = sumT (gi v) j + sumT (gi u) i + gi u i := by
            show _ + (_ + _) = _
            omega
          have hft := fun q => HBW.out.fit i q hi
          have HFT := Lib.hid hft; have H3 := Lib.hid h3; have HR3 := Lib.hid r3; have HR2 := Lib.hid hr2
          clear h3 hft r3 hr2
          generalize gi u i = x at *
          generalize sumT (gi v) j = sv at *
          generalize sumT (gi u) i = su at *
          go_wp2_with fail
          go_loop [105] (fun qv => ∃ q : Nat, q ≤ j ∧ qv = .int .i64 q) (fun qv => j - (intOf qv).toNat)
          case atStart => exact ⟨0, Nat.zero_le _, rfl⟩
          case round =>
            obtain ⟨q, hqj, rfl⟩ := hrel
            by_cases hq : q < j
            · have hq' : (q : Int) < (j : Int) := by omega
              obtain ⟨b3, o3, e3, p3w, _⟩ := HR3.out.int (j := q) (by rw [HR2.out]; exact hq)
              subst e3
              obtain ⟨b4, o4, e4, p4, _⟩ := HV.out.int (j := q) (by rw [HNV.out]; exact hq)
              subst e4
              have p3 : w.cell? ⟨b3, o3 + q, none⟩ = some (.int .i64 (cI cost i q)) := p3w
              have hvn := HBW.out.vneg q hq
              have hf := HFT.out q hq
              clear p3w
              generalize cI cost i q = ci at *
              generalize gi v q = y at *
              by_cases hc0 : 0 ≤ ci
              · have hno : ¬ ci < x + y := by have := hf hc0; omega
                clear hf
                go_wp2_with fail
                go_round
                case rel => exact ⟨q + 1, by omega, by go_num⟩
                case measure => simp [intOf]; omega
              · clear hf
                go_wp2_with fail
                go_round
                case rel => exact ⟨q + 1, by omega, by go_num⟩
                case measure => simp [intOf]; omega
            · obtain rfl : q = j := by omega
              have hq' : ¬ (q : Int) < (q : Int) := by omega
              go_wp2_with fail
              go_round
              case rel => exact ⟨i + 1, by omega, by go_num, by rw [H3.out]⟩
              case measure => simp [intOf]; omega
        · obtain rfl : i = n := by omega
          have hi' : ¬ (i : Int) < (i : Int) := by omega
          rw [← HBD.out]
          go_wp2_with fail
          refine HS.out.mono ?_
          rintro e w2 ⟨rfl, hb2⟩
          have hBE := best_any cost aC i cC HL.out hcap hcc w2 (HC.out.below hb2 (Nat.le_refl _))
          have HB2 := Lib.hid (HW.out.trans (hb2.mono HW.out.size)); have HBA := Lib.hid hBE
          have hsv := HSV.out
          clear hb2 hBE HS
          generalize sumV i j (cI cost) to = sm at *
          generalize castB i j (cI cost) to = cb at *
          have HSM := Lib.hid hsv
          clear hsv
          go_wp2_with fail
          refine HBA.out.mono ?_
          rintro e w3 ⟨hb3, ⟨h1, _⟩ | ⟨_, _, rfl⟩ | ⟨_, bv, t, taken, best, rfl, _, hF, _⟩⟩
          · exact absurd HCE.out h1
          · have HB3 := Lib.hid (HB2.out.trans (hb3.mono HB2.out.size))
            clear hb3 HBA
            have hbb : (bd == bd) = true := by simp
            cases cb with
            | true =>
              have hge : bd ≤ sm := HSM.out rfl
              go_wp2_with fail
              go_ret
              exact ⟨rfl, HB3.out⟩
            | false =>
              go_wp2_with fail
              go_ret
              exact ⟨rfl, HB3.out⟩
          · obtain ⟨s, h1, _, h3⟩ := hF.ex
            rw [HMW.out, HL.out] at h1
            rw [HL.out] at h3
            have hge2 : bd ≤ best := by rw [← h3]; exact HBE.out s h1
            have HB3 := Lib.hid (HB2.out.trans (hb3.mono HB2.out.size))
            clear hb3 HBA hF h1 h3
            have hbb : (bd == bd) = true := by simp
            cases cb with
            | true =>
              have hge : bd ≤ sm := HSM.out rfl
              go_wp2_with fail
              go_ret
              exact ⟨rfl, HB3.out⟩
            | false =>
              go_wp2_with fail
              go_ret
              exact ⟨rfl, HB3.out⟩
end Go.Proofs.YtggcbblikgankaaDoor
end
section
/- CastingBound: the law's contract. -/
namespace Go.Proofs.YtggcbblikgankaaDoor
open Go Go.RowKit Go.Deep

set_option maxRecDepth 100000 in
set_option maxHeartbeats 16000000 in
theorem bound_any (cost : List (List Int)) (n : Nat) (hl : cost.length = n) (aC : Option Addr) (cC : Nat) (hcap : n ≤ cC) (hcc : cC ≤ maxLen) (to u v : List Int) (nt nu nv : Nat) (hnt : to.length = nt) (hnu : u.length = nu) (hnv : v.length = nv) (aT aU aV : Option Addr) (cT cU cV : Nat) (w : World) (hE : Env w) (hz : 2 ≤ w.heap.size) (hC : IsMat w (.slice aC n cC) cost) (hT : IsRow encI 1 w (.slice aT nt cT) to) (hU : IsRow encI 1 w (.slice aU nu cU) u) (hV : IsRow encI 1 w (.slice aV nv cV) v) :
    Calls Tryd.prog 9 #[.slice aC n cC, .slice aT nt cT, .slice aU nu cU, .slice aV nv cV] w (trueP w) := by
  have hmt : nt ≤ maxLen := by obtain ⟨_, _, _, h, _⟩ := hT; omega
  have hmu : nu ≤ maxLen := by obtain ⟨_, _, _, h, _⟩ := hU; omega
  have hmv : nv ≤ maxLen := by obtain ⟨_, _, _, h, _⟩ := hV; omega
  simp only [maxLen] at hmt hmu hmv
  have HSA := Lib.hid (sane47_any w hE hz); have HC := Lib.hid hC; have HT := Lib.hid hT; have HU := Lib.hid hU; have HV := Lib.hid hV; have HL := Lib.hid hl; have HNT := Lib.hid hnt; have HNU := Lib.hid hnu; have HNV := Lib.hid hnv
  clear hE hC hT hU hV hl hnt hnu hnv
  go_enter Tryd.func9, Tryd.ntmps9
  change Code.wp Tryd.prog (withLast 7 code9 part9n7) _ _ _
  conv => arg 2; whnf
  go_wp2_with fail
  conv => arg 2; whnf
  go_wp2_with fail
  refine HSA.out.mono ?_
  rintro e W1 ⟨rfl, hb1⟩
  have HB1 := Lib.hid hb1
  have HRI := Lib.hid (right47_any aC n cC cost HL.out W1 (HC.out.below hb1 (Nat.le_refl _)))
  clear hb1 HSA
  go_wp2_with fail
  conv => arg 2; whnf
  go_wp2_with fail
  refine HRI.out.mono ?_
  rintro e W2 ⟨rfl, hb2⟩
  have HB2 := Lib.hid (HB1.out.trans (hb2.mono HB1.out.size))
  clear hb2 HRI HB1
  cases hr : costB cost with
  | false =>
    go_wp2_with fail
    go_ret
    exact ⟨rfl, HB2.out⟩
  | true =>
    have hce : castE cost = 0 := by
      unfold costB at hr
      rw [Bool.and_eq_true] at hr
      exact of_decide_eq_true hr.2
    obtain ⟨r1, r2, r3, r4, r5⟩ := right_of hce
    rw [HL.out] at r1
    have HCE := Lib.hid hce; have R3 := Lib.hid r3; have R4 := Lib.hid r4
    clear hr hce r3 r4 r5
    by_cases ht : 20 < nt
    · have ht' : (20 : Int) < (nt : Int) := by omega
      go_wp2_with fail
      go_ret
      exact ⟨rfl, HB2.out⟩
    have ht' : ¬ (20 : Int) < (nt : Int) := by omega
    by_cases hu : 20 < nu
    · have hu' : (20 : Int) < (nu : Int) := by omega
      go_wp2_with fail
      go_ret
      exact ⟨rfl, HB2.out⟩
    have hu' : ¬ (20 : Int) < (nu : Int) := by omega
    by_cases hv : 20 < nv
    · have hv' : (20 : Int) < (nv : Int) := by omega
      go_wp2_with fail
      go_ret
      exact ⟨rfl, HB2.out⟩
    have hv' : ¬ (20 : Int) < (nv : Int) := by omega
    have hpr := proves_any u v nu nv HNU.out HNV.out aU aV cU cV W2 (HC.out.below HB2.out (Nat.le_refl _)) (HU.out.below HB2.out (Nat.le_refl _)) (HV.out.below HB2.out (Nat.le_refl _))
    unfold ProvesP at hpr
    rw [HCE.out] at hpr
    have hd0 : (decide ((0 : Int) = 0)) = true := by decide
    rw [hd0, Bool.true_and] at hpr
    have HPR := Lib.hid hpr
    clear hpr hd0
    go_wp2_with fail
    conv => arg 2; whnf
    go_wp2_with fail
    refine HPR.out.mono ?_
    rintro e W3 ⟨rfl, hb3⟩
    have HB3 := Lib.hid (HB2.out.trans (hb3.mono HB2.out.size))
    clear hb3 HPR HB2
    cases hpb : provB cost u v with
    | false =>
      have hp0 : provN cost u v = 0 := by unfold provN; rw [hpb]; simp
      rw [hp0]
      clear hp0 hpb
      go_wp2_with fail
      conv => arg 2; whnf
      go_wp2_with fail
      conv => arg 2; whnf
      go_wp2_with fail
      go_ret
      exact ⟨rfl, HB3.out⟩
    | true =>
      obtain ⟨e1, e2, _⟩ := provB_facts hpb
      have hbw := boundW hpb (by rw [HL.out]; exact r1) r2
      have hpn : provN cost u v = sumT (gi v) (widN cost) + sumT (gi u) cost.length := by unfold provN; rw [if_pos ⟨HCE.out, hpb⟩]
      rw [HL.out] at hbw hpn e1
      rw [HNU.out] at e1
      rw [HNV.out] at e2
      have hwc : widN cost = (cost[0]?.getD []).length := rfl
      rw [hpn]
      have HBW := Lib.hid hbw; have HWC := Lib.hid hwc
      have hC3 := HC.out.below HB3.out (Nat.le_refl _)
      have hU3 := HU.out.below HB3.out (Nat.le_refl _)
      have hV3 := HV.out.below HB3.out (Nat.le_refl _)
      have HC3 := Lib.hid hC3; have HU3 := Lib.hid hU3; have HV3 := Lib.hid hV3
      have hvm := hbw.vsum (widN cost) (Nat.le_refl _)
      have hun := hbw.usum n (Nat.le_refl _)
      have hsum := sum47_any cost n (widN cost) HL.out R3.out r1 r2 R4.out aC cC to nt HNT.out aT cT W3 hC3 (HT.out.below HB3.out (Nat.le_refl _))
      subst e1
      subst e2
      have hrest := bound_rest w W3 HB3.out cost to u v nu (widN cost) nt HL.out rfl HNU.out HNV.out R3.out r1 r2 hbw HCE.out _ rfl aC cC hcap hcc aT aU aV cT cU cV hC3 hU3 hV3 hsum
      have HREST := Lib.hid hrest
      clear hpb hpn hbw hwc hC3 hU3 hV3 hsum hrest HC HU HV HT hvm hun HU3 HV3
      go_wp2_with fail
      conv => arg 2; whnf
      go_wp2_with fail
      conv => arg 2; whnf
      go_wp2_with fail
      conv => arg 2; whnf
      by_cases h0 : nu = 0
      · subst h0
        go_wp2_with fail
        exact HREST.out _ _ _ _ _ _ _ _ _ _ _ _ _ _ _ _ _ _ _ _ _ _ _ _ _ _ _ _ _ _ _ _ _ _ _ _ _ _ _ _ _ _ _ _ _ _ _ _ _ _ _ _ _ _ _ _ _ _ _ _ _ _ _ _ _ _ _ _ _ _ _ _ _ _ _ _ _ _ _ _ _ _ _ _ _ _ _ _ _ _ _ _ _ _ _ _ _ _ _ _ _ _ _ _ _ _ _ _ _ _ _ _ _ _ _ _ _ _ _ _ _ _ _ _ _ _ _ _ _ _ _ _ _ _ _ _ _ _ _ _ _ _ _ _ _ _ _ _ _ _ _ _ _ _ 
      · have h0' : (0 : Int) < (nu : Int) := by omega
        obtain ⟨b0, o0, e0, a0, c0, p0, _, _⟩ := HC3.out.at_ (i := 0) (by rw [HL.out]; omega)
        subst e0
        rw [← HWC.out, Nat.add_zero] at p0
        go_wp2_with fail
        exact HREST.out _ _ _ _ _ _ _ _ _ _ _ _ _ _ _ _ _ _ _ _ _ _ _ _ _ _ _ _ _ _ _ _ _ _ _ _ _ _ _ _ _ _ _ _ _ _ _ _ _ _ _ _ _ _ _ _ _ _ _ _ _ _ _ _ _ _ _ _ _ _ _ _ _ _ _ _ _ _ _ _ _ _ _ _ _ _ _ _ _ _ _ _ _ _ _ _ _ _ _ _ _ _ _ _ _ _ _ _ _ _ _ _ _ _ _ _ _ _ _ _ _ _ _ _ _ _ _ _ _ _ _ _ _ _ _ _ _ _ _ _ _ _ _ _ _ _ _ _ _ _ _ _ _ _ 
end Go.Proofs.YtggcbblikgankaaDoor
end
