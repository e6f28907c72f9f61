/- The walk of the statement: part 1. -/
import Derived.Test.YtggcbblikgankaaDoorZ46
import Derived.Test.YtggcbblikgankaaDoorZ48
set_option linter.unusedVariables false
set_option linter.unusedSimpArgs false
section
namespace Go.Proofs.YtggcbblikgankaaDoor
open Go Go.RowKit Go.Deep

structure RowsX (Z : Nat) (rows : List (List Int)) (v : Value) (hs : List Value) (W : World) : Prop where
  rw : RowsW Z rows v hs W
  apart : ∀ (i j : Nat) (x y : Value) (k : Nat), hs[i]? = some x → hs[j]? = some y → x.ownBlock = some k → y.ownBlock = some k → i = j
  nn : v ≠ .slice none 0 0
  blk : ∀ (i : Nat) (x : Value), hs[i]? = some x → ∃ k, x.ownBlock = some k
theorem own_lt {w : World} {Z e s n : Nat} {v : Value} {xs : List Value} (h : w.ownsRow Z e s v n xs) : ∀ k, v.ownBlock = some k → k < w.heap.size := by
  intro k hk
  rcases h.2 with ⟨q, _⟩ | ⟨g, cap, cur, q, _, hg, _⟩
  · subst q; cases hk
  · subst q; cases hk; exact (Array.getElem?_eq_some_iff.1 hg).1
theorem RowsW.hlen {Z : Nat} {rows : List (List Int)} {v : Value} {hs : List Value} {W : World} (h : RowsW Z rows v hs W) : hs.length = rows.length := by have := h.own.1; omega
theorem RowsX.below {Z : Nat} {rows : List (List Int)} {v : Value} {hs : List Value} {W W' : World} (h : RowsX Z rows v hs W) (hb : Below W.heap.size W W') : RowsX Z rows v hs W' := ⟨h.rw.below hb, h.apart, h.nn, h.blk⟩
theorem RowsX.lt {Z : Nat} {rows : List (List Int)} {v : Value} {hs : List Value} {W : World} (h : RowsX Z rows v hs W) {i : Nat} {y : Value} (hy : hs[i]? = some y) : ∀ k, y.ownBlock = some k → k < W.heap.size := by
  have hl := h.rw.hlen
  have hi : i < rows.length := by have := (List.getElem?_eq_some_iff.1 hy).1; omega
  exact own_lt (h.rw.at_ i y _ hy (List.getElem?_eq_getElem hi))
theorem RowsX.snoc {Z B : Nat} {rows : List (List Int)} {v v' x : Value} {hs : List Value} {row : List Int} {W W' : World} (h : RowsX Z rows v hs W) (hx : W.ownsRow B 3 1 x row.length (intsL row)) (hB : Z ≤ B) (hxb : ∀ (i : Nat) (y : Value) (k : Nat), hs[i]? = some y → y.ownBlock = some k → k < B)
    (hown : W'.ownsRow Z 79 1 v' (rows.length + 1) (hs ++ [x])) (hg : W.grownBy W' v.ownBlock) (hnn : v' ≠ .slice none 0 0) (hk : ∃ k, x.ownBlock = some k) : RowsX Z (rows ++ [row]) v' (hs ++ [x]) W' := by
  have hl := h.rw.hlen
  refine ⟨⟨by rw [List.length_append]; exact hown, fun i y r hy hr => ?_⟩, fun i j y z k hy hz ey ez => ?_, hnn, fun i y hy => ?_⟩
  · by_cases hi : i < rows.length
    · rw [List.getElem?_append_left (by omega)] at hy
      rw [List.getElem?_append_left hi] at hr
      exact own_other (h.rw.at_ i y r hy hr) h.rw.own (by decide) hg
    · have hi2 : i = rows.length := by
        have := (List.getElem?_eq_some_iff.1 hr).1
        rw [List.length_append] at this; simp at this; omega
      subst hi2
      rw [List.getElem?_append_right (by omega), hl, Nat.sub_self] at hy
      rw [List.getElem?_append_right (by omega), Nat.sub_self] at hr
      have e1 : x = y := by simpa using hy
      have e2 : row = r := by simpa using hr
      subst e1 e2
      exact own_other (own_lower' hx hB) h.rw.own (by decide) hg
  · have hil := (List.getElem?_eq_some_iff.1 hy).1
    have hjl := (List.getElem?_eq_some_iff.1 hz).1
    rw [List.length_append] at hil hjl
    simp only [List.length_cons, List.length_nil] at hil hjl
    by_cases hi : i < hs.length
    · rw [List.getElem?_append_left hi] at hy
      by_cases hj : j < hs.length
      · rw [List.getElem?_append_left hj] at hz
        exact h.apart i j y z k hy hz ey ez
      · rw [List.getElem?_append_right (by omega), show j - hs.length = 0 by omega] at hz
        have e1 : x = z := by simpa using hz
        subst e1
        have h1 := hxb i y k hy ey
        have h2 := own_ge' hx k ez
        omega
    · rw [List.getElem?_append_right (by omega), show i - hs.length = 0 by omega] at hy
      have e1 : x = y := by simpa using hy
      subst e1
      by_cases hj : j < hs.length
      · rw [List.getElem?_append_left hj] at hz
        have h1 := hxb j z k hz ez
        have h2 := own_ge' hx k ey
        omega
      · omega
  · by_cases hi : i < hs.length
    · rw [List.getElem?_append_left hi] at hy
      exact h.blk i y hy
    · have hil := (List.getElem?_eq_some_iff.1 hy).1
      rw [List.length_append] at hil
      simp only [List.length_cons, List.length_nil] at hil
      rw [List.getElem?_append_right (by omega), show i - hs.length = 0 by omega] at hy
      have e1 : x = y := by simpa using hy
      rw [← e1]; exact hk
theorem own_blk {w : World} {Z e s n : Nat} {v : Value} {xs : List Value} (h : w.ownsRow Z e s v n xs) (hv : v ≠ .slice none 0 0) : ∃ k, v.ownBlock = some k := by
  rcases h.2 with ⟨q, _⟩ | ⟨g, cap, cur, q, _⟩
  · exact absurd q hv
  · exact ⟨g, by rw [q]; rfl⟩
set_option maxRecDepth 100000 in
theorem run_append_none' {w : World} (base : Nat) (t ty e : TypeId) (i : TypeInfo) (size c : Nat) (ht : Tryd.prog.underlying t = some (.slice e)) (hi : Tryd.prog.info? e = some i)
    (v : Value) (n : Nat) (xs : List Value) (hown : w.ownsRow base e size v n xs) :
    (Builtin.append_ #[t, t] ty #[v, .slice none 0 c]).run Tryd.prog w = .ok v w := by
  rcases hown.2 with ⟨rfl, rfl⟩ | ⟨g, cap, cur, rfl, _, _, hnc, _⟩
  · simp [Builtin.append_, run_underlying ht, sizeOf, typeInfo, hi, Builtin.lenOf, Builtin.firstCells]
  · simp [Builtin.append_, run_underlying ht, sizeOf, typeInfo, hi, Builtin.lenOf, Builtin.firstCells, hnc, storeCells]
set_option maxRecDepth 100000 in
theorem wpList_append_ints {ops : Array Oper} {rest : List Oper} {o : Oper} {a : Act} {Q : Exit → Act → World → Prop} {w : World} (hgd : o.guard = none) (s x : Operand)
    (ho : o.op = .call { callee := .builtin .append, args := #[s, x], argTypes := #[79, 79] })
    (base : Nat) (v : Value) (n : Nat) (xs : List Value) (hs : a.eval s = v) (hown : w.ownsRow base 3 1 v n xs)
    (ao : Option Addr) (m c : Nat) (row : List Int) (hx : a.eval x = .slice ao m c) (hrow : IsRow encI 1 w (.slice ao m c) row) (h63 : n + m ≤ 1000) (hbase : base ≤ w.heap.size)
    (h : ∀ v' w', w'.ownsRow base 3 1 v' (n + m) (xs ++ intsL row) → w.grownBy w' v.ownBlock → (v ≠ .slice none 0 0 → v' ≠ .slice none 0 0) → wpList Tryd.prog ops Q rest (a.put o.dst v') w') : wpList Tryd.prog ops Q (o :: rest) a w := by
  obtain ⟨i3, hi3, hz3, hs3, hb3⟩ := info3
  have hm : row.length = m := by obtain ⟨_, _, e, _⟩ := hrow; injection e with _ e2; exact e2.symm
  cases ao with
  | some ad =>
    refine wpList_append_own _ hgd s x 79 ho base 3 i3 (.int .i64 0) 1 8 Tryd.underlying79 hi3 hz3 hs3 hb3 rfl (by decide) v n xs hs hown ad m c (intsL row) hx (by unfold intsL; rw [List.length_map, hm, Nat.mul_one]) ?_ (by intro u hu; unfold intsL at hu; obtain ⟨q, _, rfl⟩ := List.mem_map.1 hu; rfl) (by simp only [maxLen]; omega) (by omega) hbase fun v' w' h1 h2 h3 => h v' w' h1 h2 fun h4 h5 => h4 (h3.1 h5).1
    intro j u hj
    have hjl : j < row.length := by have := (List.getElem?_eq_some_iff.1 hj).1; unfold intsL at this; simpa using this
    obtain ⟨b, o', e, hc, _⟩ := hrow.int hjl
    cases e
    unfold intsL at hj
    rw [List.getElem?_map, gi_some hjl] at hj
    cases hj
    rw [addr_plain]
    exact hc
  | none =>
    have hm0 : row = [] := by
      cases row with
      | nil => rfl
      | cons y ys =>
        obtain ⟨b, o', e, _⟩ := hrow.int (j := 0) (by simp)
        cases e
    subst hm0
    have hm1 : m = 0 := hm.symm
    subst hm1
    refine wpList_plain hgd fun K hK => ?_
    have hrun := run_append_none' (w := w) base 79 o.type 3 i3 1 c Tryd.underlying79 hi3 v n xs hown
    unfold Oper.wp
    simp [execOp, ho, resolve, invoke, builtin, hs, hx, hrun, Result.andThen]
    refine hK _ _ (h v w (by simpa [intsL] using hown) ⟨rfl, rfl, rfl, Nat.le_refl _, fun _ _ _ => rfl⟩ id)
def CopyP (cost : List (List Int)) (w : World) (e : Ending) (w' : World) : Prop := ∃ v hs, e = .returned v ∧ RowsX w.heap.size cost v hs w' ∧ Below w.heap.size w w'
set_option maxRecDepth 100000 in
set_option maxHeartbeats 8000000 in
theorem copy47_any (cost : List (List Int)) (n : Nat) (hl : cost.length = n) (hn : n ≤ 16) (hrl : ∀ r ∈ cost, r.length ≤ 16) (aC : Option Addr) (cC : Nat) (w : World) (hC : IsMat w (.slice aC n cC) cost) :
    Calls Tryd.prog 41 #[.slice aC n cC] w (CopyP cost w) := by
  have HC := Lib.hid hC; have HL := Lib.hid hl; have HRL := Lib.hid hrl
  obtain ⟨i79, hi79, hz0, hz1, hz2⟩ := info_parts info79b
  clear hC hl hrl
  go_enter Tryd.func41, Tryd.ntmps41
  go_wp2_with fail
  go_loopw [3, 4] (fun ov iv wr => ∃ (i : Nat) (hs : List Value), i ≤ n ∧ iv = .int .i64 i ∧ Hid (RowsX w.heap.size (cost.take i) ov hs wr) ∧ Hid (Below w.heap.size w wr)) (fun _ iv _ => n - (intOf iv).toNat)
  case atStart =>
    refine ⟨0, [], Nat.zero_le _, rfl, Lib.hid ⟨⟨⟨rfl, Or.inr ⟨w.heap.size, 0, #[], rfl, Nat.le_refl _, heap_alloc_new _ _, Nat.le_refl _, Nat.zero_le _, rfl, rfl⟩⟩, fun i h row hh => by simp at hh⟩, fun i j x y k hx => by simp at hx, (fun h => by cases h), fun i x hx => by simp at hx⟩, Lib.hid ((Below.refl _ _).alloc (Nat.le_refl _) _)⟩
  case round =>
    obtain ⟨i, hs, hin, rfl, hR, hW⟩ := hrel
    by_cases hi : i < n
    · have hi' : (i : Int) < (n : Int) := by omega
      obtain ⟨b2, o2, e2, aR, cR, p2w, r2, l2⟩ := HC.out.at_ (i := i) (by rw [HL.out]; exact hi)
      subst e2
      have hr16 : (cost[i]?.getD []).length ≤ 16 := HRL.out _ (by rw [List.getElem?_eq_getElem (by rw [HL.out]; exact hi)]; exact List.getElem_mem _)
      have hrg : cost[i]? = some (cost[i]?.getD []) := by rw [List.getElem?_eq_getElem (by rw [HL.out]; exact hi)]; rfl
      have htk : cost.take (i + 1) = cost.take i ++ [cost[i]?.getD []] := by rw [List.take_add_one, hrg]; rfl
      have htl : (cost.take i).length = i := by rw [List.length_take, HL.out]; omega
      have p2 := (hW.out.cell (p := ⟨b2, o2 + i, none⟩) l2).trans p2w
      have hrow := r2.below hW.out (Nat.le_refl _)
      have HTK := Lib.hid htk; have HTL := Lib.hid htl
      obtain ⟨row, hrow0⟩ : ∃ row, cost[i]?.getD [] = row := ⟨_, rfl⟩
      rw [hrow0] at p2 hrow hr16 HTK
      obtain ⟨m, hm⟩ : ∃ m, row.length = m := ⟨_, rfl⟩
      rw [hm] at p2 hrow hr16
      have HROW := Lib.hid (hrow.below ((Below.refl _ wr).alloc (Nat.le_refl _) (.cells #[] 3)) (Nat.le_refl _)); have HM := Lib.hid hm
      have hlt := hW.out.size
      have p3 := (((Below.refl _ wr).alloc (Nat.le_refl _) (.cells #[] 3)).cell (p := ⟨b2, o2 + i, none⟩) (by show b2 < wr.heap.size; omega)).trans p2
      clear hrg htk htl p2w r2 hrow hrow0 hm
      go_wp2_with first
        | (at_builtin; refine wpList_append_ints rfl _ _ rfl wr.heap.size (.slice (some ⟨wr.heap.size, 0, none⟩) 0 0) 0 [] rfl ⟨rfl, Or.inr ⟨wr.heap.size, 0, #[], rfl, Nat.le_refl _, heap_alloc_new _ _, Nat.le_refl _, Nat.zero_le _, rfl, rfl⟩⟩ aR m cR row rfl HROW.out (by omega) (by simp) ?_
           intro v5 w5 hown hgrow hn5
           rw [Nat.zero_add, List.nil_append] at hown
           obtain ⟨ao5, c5, e5, _⟩ := own_ints hown HM.out
           rw [HM.out] at e5
           have hk5 := own_blk hown (hn5 (by intro h; cases h))
           subst e5
           clear hn5
           have HK5 := Lib.hid hk5
           clear hk5
           have hb5 : Below wr.heap.size wr w5 := ((Below.refl _ wr).alloc (Nat.le_refl _) (.cells #[] 3)).grown hgrow (by simp) (fun k hk => by cases hk; exact Nat.le_refl _)
           have HO5 := Lib.hid hown; have HB5 := Lib.hid hb5
           have HR5 := Lib.hid (hR.out.below hb5)
           have hs5 := hb5.size
           clear hown hgrow hb5)
        | (at_builtin; refine wpList_append_own _ rfl _ _ 78 rfl w.heap.size 79 i79 (.slice none 0 0) 1 24 Tryd.underlying78 hi79 hz0 hz1 hz2 rfl (by decide) _ i hs rfl (by have h9 := HR5.out.rw.own; rw [HTL.out] at h9; exact h9.alloc _) ⟨w5.heap.size, 0, none⟩ 1 1 [.slice ao5 m c5] rfl rfl (cell_one_new _ _ _) (by intro u hu; simp at hu; subst hu; rfl) (by simp only [maxLen]; omega) (by omega) (by simp; omega) ?_
           intro v' w6 hown hgrow hnn)
      have hr5 := HR5.out
      have ho5 := HR5.out.rw.own
      rw [HTL.out] at ho5
      have hb6 : Below w.heap.size w w6 := ((hW.out.trans (HB5.out.mono hlt)).alloc (by omega) (.cells #[.slice ao5 m c5] 79)).grown hgrow (by simp; omega) (own_ge' ho5)
      have hx5 : (w5.alloc (.cells #[.slice ao5 m c5] 79)).ownsRow wr.heap.size 3 1 (.slice ao5 m c5) row.length (intsL row) := by rw [HM.out]; exact HO5.out.alloc _
      have hR6 : RowsX w.heap.size (cost.take (i + 1)) v' (hs ++ [.slice ao5 m c5]) w6 := by
        rw [HTK.out]
        refine RowsX.snoc (B := wr.heap.size) (hr5.below ((Below.refl _ _).alloc (Nat.le_refl _) _)) hx5 hlt (fun q y k hq hy => hR.out.lt hq k hy) (by rw [HTL.out]; exact hown) hgrow (fun h => hr5.nn (hnn.1 h).1) HK5.out
      have HR6 := Lib.hid hR6; have HB6 := Lib.hid hb6
      clear hR6 hb6 hx5 ho5 hr5 hown hgrow hnn HR5 HB5 HO5
      go_roundw
      case rel => exact ⟨i + 1, hs ++ [.slice ao5 m c5], by omega, by go_num, HR6, HB6⟩
      case measure => simp [intOf]; omega
    · obtain rfl : i = n := by omega
      have hi' : ¬ (i : Int) < (i : Int) := by omega
      have hfull : cost.take i = cost := List.take_of_length_le (by rw [HL.out]; exact Nat.le_refl _)
      rw [hfull] at hR
      clear hfull
      go_wp2_with fail
      go_ret
      exact ⟨_, hs, rfl, hR.out, hW.out⟩
end Go.Proofs.YtggcbblikgankaaDoor
end
section
namespace Go.Proofs.YtggcbblikgankaaDoor
open Go Go.RowKit Go.Deep

section
variable {w : World} {ao : Option Addr} {n c : Nat} {cost : List (List Int)}
theorem IsMat.firstR (h : IsMat w (.slice ao n c) cost) {k : Nat} (hk : k ≤ cost.length) : IsMat w (.slice ao k c) (cost.take k) := by
  obtain ⟨hs, ⟨ao', c', e, hm, h1⟩, h2, h3⟩ := h
  injection e with e1 e2 e3
  subst e1 e3
  have hl : (hs.take k).length = k := by rw [List.length_take]; omega
  refine ⟨hs.take k, ⟨ao, c, by rw [hl], by omega, ?_⟩, by rw [hl, List.length_take]; omega, fun i x row hx hr => ?_⟩
  · rcases h1 with h1 | ⟨b, o, e4, hat, hb⟩
    · left; rw [h1]; simp
    · right
      refine ⟨b, o, e4, fun i x hx j v hv => hat i x ?_ j v hv, hb⟩
      rw [List.getElem?_take] at hx
      split at hx
      · exact hx
      · cases hx
  · rw [List.getElem?_take] at hx hr
    split at hx
    · rename_i hik
      rw [if_pos hik] at hr
      exact h3 i x row hx hr
    · cases hx
theorem IsMat.restR {ao' : Option Addr} (h : IsMat w (.slice ao n c) cost) {k r c' : Nat} (hr : cost.length = k + r) (ha : 0 < r → ∀ b o, ao = some ⟨b, o, none⟩ → ao' = some ⟨b, o + k, none⟩) : IsMat w (.slice ao' r c') (cost.drop k) := by
  obtain ⟨hs, ⟨ao2, c2, e, hm, h1⟩, h2, h3⟩ := h
  injection e with e1 e2 e3
  subst e1 e3
  have hl : (hs.drop k).length = r := by rw [List.length_drop]; omega
  refine ⟨hs.drop k, ⟨ao', c', by rw [hl], by omega, ?_⟩, by rw [hl, List.length_drop]; omega, fun i x row hx hrr => ?_⟩
  · by_cases h0 : r = 0
    · left
      exact List.length_eq_zero_iff.1 (by omega)
    · rcases h1 with h1 | ⟨b, o, e4, hat, hb⟩
      · subst h1; simp at h2; omega
      · right
        refine ⟨b, o + k, ha (by omega) b o e4, fun i x hx j v hv => ?_, hb⟩
        rw [List.getElem?_drop] at hx
        have := hat (k + i) x hx j v hv
        rw [show o + k + i * 1 + j = o + (k + i) * 1 + j by omega]
        exact this
  · rw [List.getElem?_drop] at hx hrr
    exact h3 _ x row hx hrr
end
set_option maxRecDepth 100000 in
theorem run_append_one {w : World} {Z g n cap : Nat} {xs : List Value} (hown : w.ownsRow Z 3 1 (.slice (some ⟨g, 0, none⟩) n cap) n xs) (hZ : Z ≤ w.heap.size) (hn : n ≤ 1000) (b : Nat) (x : Int) (hb : w.cell? ⟨b, 0, none⟩ = some (.int .i64 x)) (ty : TypeId) :
    ∃ v' w', (Builtin.append_ #[79, 79] ty #[.slice (some ⟨g, 0, none⟩) n cap, .slice (some ⟨b, 0, none⟩) 1 1]).run Tryd.prog w = .ok v' w' ∧ w'.ownsRow Z 3 1 v' (n + 1) (xs ++ [.int .i64 x]) ∧ w.grownBy w' (some g) ∧ (v'.ownBlock = some g ∨ ∀ k, v'.ownBlock = some k → w.heap.size ≤ k) := by
  obtain ⟨i3, hi3, hz3, hs3, hb3⟩ := info3
  have hnews : ∀ (j : Nat) (u : Value), [Value.int .i64 x][j]? = some u → w.cell? ((⟨b, 0, none⟩ : Addr).add j) = some u := by
    intro j u hj
    cases j with
    | zero => cases hj; rw [addr_plain]; exact hb
    | succ j => simp at hj
  have h1 : ∀ u ∈ [Value.int .i64 x], u.oneCell' = true := by intro u hu; simp at hu; subst hu; rfl
  obtain ⟨v', w', hr, ho, hg, _⟩ := run_append_own (P := Tryd.prog) w Z 79 ty 3 i3 (.int .i64 0) 1 8 Tryd.underlying79 hi3 hz3 hs3 hb3 rfl (by decide) _ n xs hown ⟨b, 0, none⟩ 1 1 [.int .i64 x] rfl hnews h1 (by simp only [maxLen]; omega) (by omega) hZ
  refine ⟨v', w', hr, ho, hg, ?_⟩
  rcases hown.2 with ⟨e, _⟩ | ⟨g', cap', cur, e, _, hgg, hnc, hcm, hcs, _⟩
  · cases e
  · cases e
    by_cases hroom : n + 1 ≤ cap
    · have h2 := run_append_room (P := Tryd.prog) w 79 ty 3 i3 Tryd.underlying79 hi3 g n cap cur hgg ⟨b, 0, none⟩ 1 1 [.int .i64 x] (by rw [hs3]; rfl) hnews h1 hroom (by rw [hs3, hcs]; simp; omega)
      rw [h2] at hr
      injection hr with e1 _
      left
      rw [← e1]; rfl
    · have h2 := run_append_grow (P := Tryd.prog) w 79 ty 3 i3 (.int .i64 0) Tryd.underlying79 hi3 hz3 ⟨g, 0, none⟩ n cap xs (by rw [hs3]; exact hown.1) (hown.cells (g := g) rfl) ⟨b, 0, none⟩ 1 1 [.int .i64 x] (by rw [hs3]; rfl) hnews (by omega) (by omega) (by rw [hb3]; exact growslice_fits (by omega) (by omega))
      rw [h2] at hr
      injection hr with e1 _
      right
      intro k hk
      rw [← e1] at hk
      cases hk
      exact Nat.le_refl _
theorem wpList_append_one {ops : Array Oper} {rest : List Oper} {o : Oper} {a : Act} {Q : Exit → Act → World → Prop} {w : World} (hgd : o.guard = none) (s x : Operand)
    (ho : o.op = .call { callee := .builtin .append, args := #[s, x], argTypes := #[79, 79] })
    {Z g n cap b : Nat} {y : Int} {xs : List Value} (hs : a.eval s = .slice (some ⟨g, 0, none⟩) n cap) (hx : a.eval x = .slice (some ⟨b, 0, none⟩) 1 1)
    (hown : w.ownsRow Z 3 1 (.slice (some ⟨g, 0, none⟩) n cap) n xs) (hZ : Z ≤ w.heap.size) (hn : n ≤ 1000) (hb : w.cell? ⟨b, 0, none⟩ = some (.int .i64 y))
    (h : ∀ v' w', w'.ownsRow Z 3 1 v' (n + 1) (xs ++ [.int .i64 y]) → w.grownBy w' (some g) → (v'.ownBlock = some g ∨ ∀ k, v'.ownBlock = some k → w.heap.size ≤ k) → wpList Tryd.prog ops Q rest (a.put o.dst v') w') : wpList Tryd.prog ops Q (o :: rest) a w := by
  obtain ⟨v', w', hrun, h1, h2, h3⟩ := run_append_one hown hZ hn b y hb o.type
  refine wpList_plain hgd fun K hK => ?_
  unfold Oper.wp
  simp [execOp, ho, resolve, invoke, builtin, hs, hx, hrun, Result.andThen]
  exact hK _ _ (h v' w' h1 h2 h3)
theorem own_ne {w : World} {Z Z' n n' g k : Nat} {v x : Value} {xs ys : List Value} (h : w.ownsRow Z 79 1 v n xs) (h' : w.ownsRow Z' 3 1 x n' ys) (hv : v.ownBlock = some g) (hx : x.ownBlock = some k) : k ≠ g := by
  rintro rfl
  rcases h'.2 with ⟨q, _⟩ | ⟨g1, c1, cur1, q, _, hg1, _⟩
  · subst q; cases hx
  · subst q
    cases hx
    rcases h.2 with ⟨q, _⟩ | ⟨g2, c2, cur2, q, _, hg2, _⟩
    · subst q; cases hv
    · subst q
      cases hv
      rw [hg1] at hg2
      injection hg2 with e3
      injection e3 with _ e4
      cases e4
theorem RowsX.put {Z g cap i : Nat} {rows : List (List Int)} {hs : List Value} {W W' : World} {x x' : Value} {row' : List Int} (h : RowsX Z rows (.slice (some ⟨g, 0, none⟩) rows.length cap) hs W) (hx : hs[i]? = some x) {gx : Nat} (hgx : x.ownBlock = some gx)
    (hown : W'.ownsRow Z 3 1 x' row'.length (intsL row')) (hg : W.grownBy W' (some gx)) (hx' : x'.ownBlock = some gx ∨ ∀ k, x'.ownBlock = some k → W.heap.size ≤ k) (hk' : ∃ k, x'.ownBlock = some k) :
    RowsX Z (rows.set i row') (.slice (some ⟨g, 0, none⟩) rows.length cap) (hs.set i x') (W'.setCell ⟨g, i, none⟩ x') ∧ W'.cell? ⟨g, i, none⟩ = some x ∧ W'.frozen? ⟨g, i, none⟩ = false ∧ Z ≤ g := by
  have hl := h.rw.hlen
  have hil := (List.getElem?_eq_some_iff.1 hx).1
  have hxo : W.ownsRow Z 3 1 x _ _ := h.rw.at_ i x _ hx (List.getElem?_eq_getElem (by omega))
  have hgg : gx ≠ g := own_ne h.rw.own hxo rfl hgx
  have hkeep : W'.ownsRow Z 79 1 (.slice (some ⟨g, 0, none⟩) rows.length cap) rows.length hs := h.rw.own.kept hg (Or.inr fun e => hgg (by simpa [Value.ownBlock] using e.symm))
  rcases hkeep.2 with ⟨q, _⟩ | ⟨g2, c2, cur, q, hZg, hg2, hnc, hcm, hcs, htk⟩
  · cases q
  · cases q
    have hcell : W'.cell? ⟨g, i, none⟩ = some x := by
      have := hkeep.cells (g := g) rfl i x hx
      rw [addr_plain, Nat.zero_add] at this
      exact this
    have hgx' : ∀ k, x'.ownBlock = some k → k ≠ g := fun k hk => own_ne hkeep hown rfl hk
    have hset : ∀ {y : Value} {k : Nat} {l : List Value}, W'.ownsRow Z 3 1 y k l → (∀ q, y.ownBlock = some q → q ≠ g) → (W'.setCell ⟨g, i, none⟩ x').ownsRow Z 3 1 y k l := by
      intro y k l ho hne
      refine ⟨ho.1, ?_⟩
      rcases ho.2 with q | ⟨g4, c4, cur4, q, h1, h2, h3⟩
      · exact Or.inl q
      · exact Or.inr ⟨g4, c4, cur4, q, h1, by rw [heap_setCell (hne g4 (by rw [q]; rfl))]; exact h2, h3⟩
    refine ⟨⟨⟨?_, fun j y r hy hr => ?_⟩, fun p q y z k hy hz ey ez => ?_, (fun e => by cases e), fun p y hy => ?_⟩, hcell, by simp [World.frozen?, hg2], hZg⟩
    · rw [List.length_set]
      refine ⟨by rw [List.length_set]; exact hkeep.1, Or.inr ⟨g, cap, cur.setIfInBounds i x', rfl, hZg, ?_, hnc, hcm, by simpa using hcs, ?_⟩⟩
      · simp only [World.setCell, Array.getElem?_modify, hg2, if_true, Option.map_some]; rfl
      · have hcl : cur.toList.length = cap := by rw [Array.length_toList]; omega
        rw [← htk, Array.toList_setIfInBounds]
        apply List.ext_getElem?
        intro p
        rw [List.getElem?_take, List.getElem?_set, List.getElem?_set, List.length_take, List.getElem?_take, hcl]
        by_cases hp : p < rows.length * 1
        · rw [if_pos hp]
          by_cases hip : i = p
          · subst hip
            rw [if_pos rfl, if_pos rfl, if_pos (by omega), if_pos (by omega)]
          · rw [if_neg hip, if_neg hip, if_pos hp]
        · rw [if_neg hp]
          by_cases hip : i = p
          · omega
          · rw [if_neg hip, if_neg hp]
    · by_cases hij : i = j
      · subst hij
        rw [List.getElem?_set, if_pos rfl, if_pos (by omega)] at hy
        rw [List.getElem?_set, if_pos rfl, if_pos (by omega)] at hr
        cases hy; cases hr
        exact hset hown hgx'
      · rw [List.getElem?_set, if_neg hij] at hy hr
        have h1 := h.rw.at_ j y r hy hr
        exact hset (h1.kept hg (Or.inr fun e => hij (h.apart i j x y gx hx hy hgx e))) fun q hq => own_ne h.rw.own h1 rfl hq
    · rw [List.getElem?_set] at hy hz
      by_cases hip : i = p
      · by_cases hiq : i = q
        · omega
        · exfalso
          rw [if_pos hip, if_pos (by omega)] at hy
          rw [if_neg hiq] at hz
          cases hy
          rcases hx' with e | e
          · rw [e] at ey
            cases ey
            exact hiq (h.apart i q x z gx hx hz hgx ez)
          · have h1 := e k ey
            have h2 := h.lt hz k ez
            omega
      · by_cases hiq : i = q
        · exfalso
          rw [if_neg hip] at hy
          rw [if_pos hiq, if_pos (by omega)] at hz
          cases hz
          rcases hx' with e | e
          · rw [e] at ez
            cases ez
            exact hip (h.apart i p x y gx hx hy hgx ey)
          · have h1 := e k ez
            have h2 := h.lt hy k ey
            omega
        · rw [if_neg hip] at hy
          rw [if_neg hiq] at hz
          exact h.apart p q y z k hy hz ey ez
    · rw [List.getElem?_set] at hy
      by_cases hip : i = p
      · rw [if_pos hip, if_pos (by omega)] at hy
        cases hy
        exact hk'
      · rw [if_neg hip] at hy
        exact h.blk p y hy
end Go.Proofs.YtggcbblikgankaaDoor
end
section
namespace Go.Proofs.YtggcbblikgankaaDoor
open Go Go.RowKit Go.Deep

theorem first_cast {n m : Nat} {c : Nat → Nat → Int} {best : Int} {t : Nat → Nat} {taken : List Bool} (h : FirstOk n m c best n t taken) : CastN n m c t ∧ sumT (fun r => c r (t r)) n = best := by
  obtain ⟨s, h1, h2, h3⟩ := h.ex
  refine ⟨⟨h.pre.lt, h.pre.ok, h.pre.inj⟩, ?_⟩
  rw [← h3]
  exact sumT_congr fun r hr => by rw [h2 r hr]
theorem castE_zero {cost : List (List Int)} (m : Nat) (h1 : cost.length ≤ 16) (hm : m ≤ 16) (hr : ∀ r ∈ cost, r.length = m ∧ ∀ x ∈ r, -1 ≤ x ∧ x ≤ 1048576) : castE cost = 0 := by
  have h2 : longB cost = false := by
    unfold longB
    rw [List.any_eq_false]
    intro r hrm
    have := (hr r hrm).1
    simp
    omega
  have h3 : cost.any (badB (widN cost)) = false := by
    rw [List.any_eq_false]
    intro r hrm
    have hw : widN cost = m := by
      unfold widN
      cases cost with
      | nil => cases hrm
      | cons a l => exact (hr a (by simp)).1
    have h4 := hr r hrm
    unfold badB
    rw [hw, decide_eq_false (by omega : ¬ r.length ≠ m), Bool.false_or]
    rw [Bool.not_eq_true, List.any_eq_false]
    intro x hx
    have := h4.2 x hx
    unfold oddB
    simp
    omega
  unfold castE
  rw [if_neg (by rw [h2]; simp; omega), h3]
  rfl
theorem rows_of {cost : List (List Int)} (h : castE cost = 0) : ∀ r ∈ cost, r.length = widN cost ∧ ∀ x ∈ r, -1 ≤ x ∧ x ≤ 1048576 := by
  obtain ⟨_, _, h3, h4, h5⟩ := right_of h
  intro r hr
  refine ⟨h3 r hr, fun x hx => ?_⟩
  obtain ⟨i, hi⟩ := List.getElem?_of_mem hr
  obtain ⟨j, hj⟩ := List.getElem?_of_mem hx
  have e : cI cost i j = x := by unfold cI gi; rw [hi, Option.getD_some, hj]; rfl
  have h6 : cI cost i j ≤ 1048576 := h4 i j
  have h7 := h5 i j
  omega
def lessL (cost : List (List Int)) (k : Nat) : List (List Int) := cost.take k ++ cost.drop (k + 1)
def upN (k i : Nat) : Nat := if i < k then i else i + 1
section
variable {cost : List (List Int)} {k : Nat}
theorem less_len (hk : k < cost.length) : (lessL cost k).length = cost.length - 1 := by unfold lessL; rw [List.length_append, List.length_take, List.length_drop]; omega
theorem less_mem {r : List Int} (h : r ∈ lessL cost k) : r ∈ cost := by
  rcases List.mem_append.1 h with h | h
  · exact List.mem_of_mem_take h
  · exact List.mem_of_mem_drop h
theorem less_get (hk : k < cost.length) (i : Nat) : (lessL cost k)[i]? = cost[upN k i]? := by
  unfold lessL upN
  have hl : (cost.take k).length = k := by rw [List.length_take]; omega
  by_cases hi : i < k
  · rw [if_pos hi, List.getElem?_append_left (by omega), List.getElem?_take, if_pos hi]
  · rw [if_neg hi, List.getElem?_append_right (by omega), hl, List.getElem?_drop, show k + 1 + (i - k) = i + 1 by omega]
theorem less_castE (hk : k < cost.length) (h : castE cost = 0) : castE (lessL cost k) = 0 := by
  obtain ⟨h1, h2, _⟩ := right_of h
  exact castE_zero (widN cost) (by rw [less_len hk]; omega) h2 fun r hr => rows_of h r (less_mem hr)
theorem less_wid (hk : k < cost.length) (h : castE cost = 0) (h0 : 0 < (lessL cost k).length) : widN (lessL cost k) = widN cost := by
  have hm : (lessL cost k)[0]?.getD [] ∈ lessL cost k := by rw [List.getElem?_eq_getElem h0]; exact List.getElem_mem _
  exact (rows_of h _ (less_mem hm)).1
theorem less_cI (hk : k < cost.length) (i j : Nat) : cI (lessL cost k) i j = cI cost (upN k i) j := by unfold cI; rw [less_get hk]
end
theorem sum_skip (k : Nat) (f : Nat → Int) : ∀ n, k ≤ n → sumT (fun r => f (upN k r)) n + f k = sumT f (n + 1)
  | 0, h => by obtain rfl : k = 0 := by omega
               show 0 + f 0 = 0 + f 0
               rfl
  | n + 1, h => by
    by_cases e : k = n + 1
    · subst e
      show _ = sumT f (n + 1) + f (n + 1)
      rw [sumT_congr (f := fun r => f (upN (n + 1) r)) (g := f) fun r hr => by show f (upN (n + 1) r) = f r; unfold upN; rw [if_pos hr]]
    · have ih := sum_skip k f n (by omega)
      show (sumT (fun r => f (upN k r)) n + f (upN k n)) + f k = sumT f (n + 1) + f (n + 1)
      rw [← ih]
      unfold upN
      rw [if_neg (by omega : ¬ n < k)]
      omega
theorem less_cast {cost : List (List Int)} {k : Nat} {t : Nat → Nat} (hk : k < cost.length) (hce : castE cost = 0) (ht : CastN cost.length (widN cost) (cI cost) t) :
    ∃ t', CastN (lessL cost k).length (widN (lessL cost k)) (cI (lessL cost k)) t' ∧ sumT (fun r => cI (lessL cost k) r (t' r)) (lessL cost k).length ≤ sumT (fun r => cI cost r (t r)) cost.length := by
  have hl := less_len hk
  refine ⟨fun r => t (upN k r), ⟨fun r hr => ?_, fun r hr => ?_, fun r r' hr hr' e => ?_⟩, ?_⟩
  · rw [less_wid hk hce (by omega)]
    exact ht.lt _ (by unfold upN; split <;> omega)
  · show 0 ≤ cI (lessL cost k) r (t (upN k r))
    rw [less_cI hk]
    exact ht.ok _ (by unfold upN; split <;> omega)
  · have := ht.inj (upN k r) (upN k r') (by unfold upN; split <;> omega) (by unfold upN; split <;> omega) e
    unfold upN at this
    split at this <;> split at this <;> omega
  · have h1 := sum_skip k (fun r => cI cost r (t r)) (cost.length - 1) (by omega)
    rw [show cost.length - 1 + 1 = cost.length by omega] at h1
    have h2 : sumT (fun r => cI (lessL cost k) r (t (upN k r))) (cost.length - 1) = sumT (fun r => cI cost (upN k r) (t (upN k r))) (cost.length - 1) := sumT_congr fun r hr => less_cI hk _ _
    have h3 : sumT (fun r => cI cost (upN k r) (t (upN k r))) (cost.length - 1) + cI cost k (t k) = sumT (fun r => cI cost r (t r)) cost.length := h1
    have h4 := ht.ok k hk
    rw [hl]
    show sumT (fun r => cI (lessL cost k) r (t (upN k r))) (cost.length - 1) ≤ _
    omega
def wxI (column : List Int) (i : Nat) : Int := if i < column.length then gi column i else -1
def wideL (cost : List (List Int)) (column : List Int) : List (List Int) := (List.range cost.length).map fun i => cost[i]?.getD [] ++ [wxI column i]
section
variable {cost : List (List Int)} {column : List Int}
theorem wide_len : (wideL cost column).length = cost.length := by unfold wideL; simp
theorem wide_get {i : Nat} (hi : i < cost.length) : (wideL cost column)[i]? = some (cost[i]?.getD [] ++ [wxI column i]) := by
  unfold wideL
  rw [List.getElem?_map, List.getElem?_range hi]; rfl
theorem wide_wid (h0 : 0 < cost.length) : widN (wideL cost column) = widN cost + 1 := by
  unfold widN
  rw [wide_get h0]
  simp
theorem wide_cI {i j : Nat} (h : castE cost = 0) (hi : i < cost.length) (hj : j < widN cost) : cI (wideL cost column) i j = cI cost i j := by
  have hr : (cost[i]?.getD []).length = widN cost := (right_of h).2.2.1 _ (by rw [List.getElem?_eq_getElem hi]; exact List.getElem_mem _)
  unfold cI gi
  rw [wide_get hi, Option.getD_some, List.getElem?_append_left (by omega)]
theorem wide_cast {t : Nat → Nat} (h0 : 0 < cost.length) (h : castE cost = 0) (ht : CastN cost.length (widN cost) (cI cost) t) :
    CastN (wideL cost column).length (widN (wideL cost column)) (cI (wideL cost column)) t ∧ sumT (fun r => cI (wideL cost column) r (t r)) (wideL cost column).length = sumT (fun r => cI cost r (t r)) cost.length := by
  rw [wide_len, wide_wid h0]
  refine ⟨⟨fun r hr => Nat.lt_succ_of_lt (ht.lt r hr), fun r hr => ?_, ht.inj⟩, sumT_congr fun r hr => wide_cI h hr (ht.lt r hr)⟩
  rw [wide_cI h hr (ht.lt r hr)]
  exact ht.ok r hr
end
end Go.Proofs.YtggcbblikgankaaDoor
end
section
namespace Go.Proofs.YtggcbblikgankaaDoor
open Go Go.RowKit Go.Deep

theorem rows_own {Z : Nat} {rows : List (List Int)} {v : Value} {hs : List Value} {W : World} (h : RowsX Z rows v hs W) : ∃ g cap, v = .slice (some ⟨g, 0, none⟩) rows.length cap ∧ Z ≤ g ∧ rows.length ≤ cap ∧ cap ≤ maxLen := by
  rcases h.rw.own.2 with ⟨q, _⟩ | ⟨g, cap, cur, q, h1, _, h2, h3, _⟩
  · exact absurd q h.nn
  · exact ⟨g, cap, q, h1, h2, h3⟩
theorem best_short {cost : List (List Int)} {w w' : World} {e : Ending} (h : BestP cost w e w') (hce : castE cost = 0) : ∃ (v : Value) (b : Int) (k : Bool), e = .returned (.tuple #[v, .int .i64 b, .bool k, .int .i64 0]) ∧ (k = true → ∃ t, CastN cost.length (widN cost) (cI cost) t ∧ sumT (fun r => cI cost r (t r)) cost.length = b) ∧ ∀ s, CastN cost.length (widN cost) (cI cost) s → k = true ∧ b ≤ sumT (fun r => cI cost r (s r)) cost.length := by
  rcases h.2 with ⟨h, _⟩ | ⟨_, hno, rfl⟩ | ⟨_, v, t, taken, best, rfl, hmin, hF, hown⟩
  · exact absurd hce h
  · exact ⟨_, _, _, rfl, (fun h => by cases h), fun s hs => absurd hs (hno s)⟩
  · exact ⟨_, _, _, rfl, fun _ => ⟨t, first_cast hF⟩, fun s hs => ⟨rfl, hmin s hs⟩⟩
theorem RowsX.join {Z Z4 Z5 : Nat} {rows4 rows5 : List (List Int)} {v4 v5 v6 : Value} {hs4 hs5 : List Value} {W5 W6 : World} (h4 : RowsX Z4 rows4 v4 hs4 W5) (h5 : RowsX Z5 rows5 v5 hs5 W5) (hZ4 : Z ≤ Z4) (hZ5 : Z ≤ Z5)
    (hown : W6.ownsRow Z 79 1 v6 (rows4.length + rows5.length) (hs4 ++ hs5)) (hg : W5.grownBy W6 v4.ownBlock) : RowsW Z (rows4 ++ rows5) v6 (hs4 ++ hs5) W6 := by
  have hl4 := h4.rw.hlen
  refine ⟨by rw [List.length_append]; exact hown, fun i x row hx hr => ?_⟩
  by_cases hi : i < rows4.length
  · rw [List.getElem?_append_left (by omega)] at hx
    rw [List.getElem?_append_left hi] at hr
    exact own_other (own_lower' (h4.rw.at_ i x row hx hr) hZ4) h4.rw.own (by decide) hg
  · rw [List.getElem?_append_right (by omega), hl4] at hx
    rw [List.getElem?_append_right (by omega)] at hr
    exact own_other (own_lower' (h5.rw.at_ _ x row hx hr) hZ5) h4.rw.own (by decide) hg
theorem own_cap {w : World} {Z e n : Nat} {v : Value} {xs : List Value} (h : w.ownsRow Z e 1 v n xs) : ∃ ao c, v = .slice ao n c ∧ n ≤ c ∧ c ≤ maxLen := by
  rcases h.2 with ⟨q, h0⟩ | ⟨g, cap, cur, q, _, _, h1, h2, _⟩
  · exact ⟨none, 0, by rw [q, h0], by omega, Nat.zero_le _⟩
  · exact ⟨_, cap, q, h1, h2⟩
theorem RowsX.one {Z : Nat} {rows : List (List Int)} {v : Value} {hs : List Value} {W : World} (h : RowsX Z rows v hs W) : ∀ u ∈ hs, u.oneCell' = true := by
  intro u hu
  obtain ⟨i, hi⟩ := List.getElem?_of_mem hu
  obtain ⟨k, hk⟩ := h.blk i u hi
  have hl := h.rw.hlen
  have hil := (List.getElem?_eq_some_iff.1 hi).1
  rcases (h.rw.at_ i u _ hi (List.getElem?_eq_getElem (by omega))).2 with ⟨q, _⟩ | ⟨g, cap, cur, q, _⟩
  · rw [q]; rfl
  · rw [q]; rfl
theorem wide_step {cost : List (List Int)} {column : List Int} {i : Nat} (hi : i < cost.length) : ((wideL cost column).take i ++ cost.drop i).set i (cost[i]?.getD [] ++ [wxI column i]) = (wideL cost column).take (i + 1) ++ cost.drop (i + 1) := by
  have hl : ((wideL cost column).take i).length = i := by rw [List.length_take, wide_len]; omega
  rw [List.set_append_right _ _ (by omega), hl, Nat.sub_self, List.drop_eq_getElem_cons hi, List.set_cons_zero, List.take_add_one, wide_get hi, List.append_assoc]
  rfl
theorem wide_put {cost : List (List Int)} {column : List Int} {Z i n m gW cap gx cx : Nat} {hs : List Value} {w0 wr w5 : World} {v5 : Value} {y : Int} (hi : i < cost.length) (hR : RowsX Z ((wideL cost column).take i ++ cost.drop i) (.slice (some ⟨gW, 0, none⟩) n cap) hs wr) (hn : ((wideL cost column).take i ++ cost.drop i).length = n) (hx : hs[i]? = some (.slice (some ⟨gx, 0, none⟩) m cx)) (hm : (cost[i]?.getD []).length = m) (hy : wxI column i = y) (hW : Below w0.heap.size w0 wr) (hZ : w0.heap.size ≤ Z)
    (ho : w5.ownsRow Z 3 1 v5 (m + 1) (intsL (cost[i]?.getD []) ++ [.int .i64 y])) (hg : (wr.alloc (.cells #[.int .i64 y] 3)).grownBy w5 (some gx)) (hor : v5.ownBlock = some gx ∨ ∀ k, v5.ownBlock = some k → (wr.alloc (.cells #[.int .i64 y] 3)).heap.size ≤ k) (hgx : Z ≤ gx) :
    RowsX Z ((wideL cost column).take (i + 1) ++ cost.drop (i + 1)) (.slice (some ⟨gW, 0, none⟩) n cap) (hs.set i v5) (w5.setCell ⟨gW, i, none⟩ v5) ∧ w5.cell? ⟨gW, i, none⟩ = some (.slice (some ⟨gx, 0, none⟩) m cx) ∧ w5.frozen? ⟨gW, i, none⟩ = false ∧ Below w0.heap.size w0 (w5.setCell ⟨gW, i, none⟩ v5) ∧ ∃ a c, v5 = .slice a (m + 1) c := by
  have hk5 : ∃ k, v5.ownBlock = some k := by
    rcases ho.2 with ⟨_, h0⟩ | ⟨g, cap, cur, q, _⟩
    · omega
    · exact ⟨g, by rw [q]; rfl⟩
  have h9 := hR.below ((Below.refl _ wr).alloc (Nat.le_refl _) (.cells #[.int .i64 y] 3))
  rw [← hn] at h9 ⊢
  obtain ⟨hput, q1, q2, hZg⟩ := RowsX.put (row' := cost[i]?.getD [] ++ [wxI column i]) h9 hx rfl (by rw [List.length_append, hm, intsL_snoc, hy]; exact ho) hg hor hk5
  rw [wide_step hi] at hput
  have hb5 : Below w0.heap.size w0 w5 := (hW.alloc hW.size _).grown hg (Nat.le_trans hW.size (by simp)) (fun q hq => by cases hq; exact Nat.le_trans hZ hgx)
  obtain ⟨a, c, e, _⟩ := own_cap ho
  exact ⟨hput, q1, q2, hb5.setCell (Nat.le_trans hZ hZg) _, a, c, e⟩
theorem elem78 : Tryd.prog.underlying 78 = some (.slice (Tryd.prog.elem 78)) := by kernel_rfl
theorem size79 (W : World) : (sizeOf (Tryd.prog.elem 78)).run Tryd.prog W = .ok 1 W := by
  have h1 : Tryd.prog.elem 78 = 79 := by kernel_rfl
  obtain ⟨i79, hi79, _, hz1, _⟩ := info_parts info79b
  rw [h1]
  simp [sizeOf, typeInfo, hi79, hz1]
theorem slice_rest (aC : Option Addr) (n cC k : Nat) (hk : k + 1 ≤ n) : ∃ ao' : Option Addr, (0 < n - (k + 1) → n ≤ cC → ∀ b o, aC = some ⟨b, o, none⟩ → ao' = some ⟨b, o + (k + 1), none⟩) ∧ ∀ W, (Instr.slice 78 (.slice aC n cC) (some (.int .i64 ((k : Int) + 1))) none none).run Tryd.prog W = .ok (.slice ao' (n - (k + 1)) (cC - (k + 1))) W := by
  have e : ((k : Int) + 1).toNat = k + 1 := by omega
  refine ⟨if cC = k + 1 then aC else aC.map (·.add ((k + 1) * 1)), fun h1 h2 b o h3 => ?_, fun W => ?_⟩
  · rw [if_neg (by omega), h3, Nat.mul_one]
    simp [addr_plain]
  · rw [run_slice_l W 78 aC n cC elem78 .i64 ((k : Int) + 1) (by omega) (by omega), size79]
    simp only [Result.andThen, sliced, e]
theorem slice_first (aC : Option Addr) (n cC k : Nat) (hk : k ≤ n) (hn : n ≤ cC) (h0 : 0 < n) (W : World) : (Instr.slice 78 (.slice aC n cC) none (some (.int .i64 (k : Int))) none).run Tryd.prog W = .ok (.slice aC k cC) W := by
  rw [run_slice_h W 78 aC n cC elem78 .i64 (k : Int) (by omega) (by omega), size79]
  have e : ((k : Int)).toNat = k := by omega
  simp only [Result.andThen, sliced, e]
  rw [if_neg (by omega), Nat.sub_zero, Nat.sub_zero]
  simp
  cases aC with
  | none => rfl
  | some a => simp [Addr.add]
set_option maxRecDepth 100000 in
set_option maxHeartbeats 16000000 in
theorem more_any (cost : List (List Int)) (n : Nat) (hl : cost.length = n) (aC : Option Addr) (cC : Nat) (hcap : n ≤ cC) (hcc : cC ≤ maxLen) (column : List Int) (nt : Nat) (hnt : column.length = nt) (aT : Option Addr) (cT : Nat) (r : Nat) (hr8 : r < 256) (w : World) (hE : Env w) (hz : 2 ≤ w.heap.size) (hC : IsMat w (.slice aC n cC) cost) (hT : IsRow encI 1 w (.slice aT nt cT) column) :
    Calls Tryd.prog 11 #[.slice aC n cC, .slice aT nt cT, .int .u8 r] w (trueP w) := by
  have hmt : nt ≤ maxLen := by obtain ⟨_, _, _, h, _⟩ := hT; omega
  simp only [maxLen] at hmt
  have hmt2 : cC ≤ 9223372036854775807 := by simp only [maxLen] at hcc; omega
  have HSA := Lib.hid (sane47_any w hE hz); have HC := Lib.hid hC; have HT := Lib.hid hT; have HL := Lib.hid hl; have HNT := Lib.hid hnt
  clear hE hC hT hl hnt
  go_enter Tryd.func11, Tryd.ntmps11
  go_wp2_with fail
  refine HSA.out.mono ?_
  rintro e W1 ⟨rfl, hb1⟩
  have HB1 := Lib.hid hb1
  have HRI := Lib.hid (right47_any aC n cC cost HL.out W1 (HC.out.below hb1 (Nat.le_refl _)))
  clear hb1 HSA
  go_wp2_with fail
  refine HRI.out.mono ?_
  rintro e W2 ⟨rfl, hb2⟩
  have HB2 := Lib.hid (HB1.out.trans (hb2.mono HB1.out.size))
  clear hb2 HRI HB1
  cases hr : costB cost with
  | false =>
    go_wp2_with fail
    go_ret
    exact ⟨rfl, HB2.out⟩
  | true =>
    have hce : castE cost = 0 := by
      unfold costB at hr
      rw [Bool.and_eq_true] at hr
      exact of_decide_eq_true hr.2
    obtain ⟨r1, r2, r3, r4, r5⟩ := right_of hce
    rw [HL.out] at r1
    have HCE := Lib.hid hce; have R1 := Lib.hid r1; have R2 := Lib.hid r2; have R3 := Lib.hid r3; have R4 := Lib.hid r4
    clear hr hce r2 r3 r4 r5
    by_cases hn0 : n = 0
    · subst hn0
      go_wp2_with fail
      go_ret
      exact ⟨rfl, HB2.out⟩
    have hn0' : ((n : Int) == 0) = false := by simp; omega
    by_cases ht : 20 < nt
    · have ht' : (20 : Int) < (nt : Int) := by omega
      go_wp2_with fail
      go_ret
      exact ⟨rfl, HB2.out⟩
    have ht' : ¬ (20 : Int) < (nt : Int) := by omega
    have HBE := Lib.hid (best_any cost aC n cC HL.out hcap hcc W2 (HC.out.below HB2.out (Nat.le_refl _)))
    go_wp2_with fail
    refine HBE.out.mono ?_
    rintro e W3 hbest
    have hb3 := hbest.1
    have HB3 := Lib.hid (HB2.out.trans (hb3.mono HB2.out.size))
    obtain ⟨bv, bi, bk, rfl, hcast, _⟩ := best_short hbest HCE.out
    have HCA := Lib.hid hcast
    clear hb3 hbest HBE HB2 hcast
    obtain ⟨k, hk⟩ : ∃ k : Nat, r % n = k := ⟨_, rfl⟩
    have hkn : k < n := by rw [← hk]; exact Nat.mod_lt _ (by omega)
    have hmod : Int.tmod (r : Int) (n : Int) = (k : Int) := by rw [← hk]; rfl
    clear hk
    have hz1 : ¬ (n : Int) = 0 := by omega
    have htk : (cost.take k).length = k := by rw [List.length_take, HL.out]; omega
    have hdr : (cost.drop (k + 1)).length = n - (k + 1) := by rw [List.length_drop, HL.out]
    have hrl : ∀ r ∈ cost, r.length ≤ 16 := fun r hr => by have h1 := R3.out r hr; have h2 := R2.out; omega
    have hcp1 := copy47_any (cost.take k) k htk (by omega) (fun r hr => hrl r (List.mem_of_mem_take hr)) aC cC W3.drew ((HC.out.below (HB3.out.trans ((Below.refl _ _).drew)) (Nat.le_refl _)).firstR (by rw [HL.out]; omega))
    have hcp2 : ∀ (ao' : Option Addr) (c' : Nat) (W : World), (0 < n - (k + 1) → ∀ b o, aC = some ⟨b, o, none⟩ → ao' = some ⟨b, o + (k + 1), none⟩) → Below w.heap.size w W → Calls Tryd.prog 41 #[.slice ao' (n - (k + 1)) c'] W (CopyP (cost.drop (k + 1)) W) := fun ao' c' W ha hb =>
      copy47_any (cost.drop (k + 1)) (n - (k + 1)) hdr (by omega) (fun r hr => hrl r (List.mem_of_mem_drop hr)) ao' c' W ((HC.out.below hb (Nat.le_refl _)).restR (by rw [HL.out]; omega) ha)
    have HCP1 := Lib.hid hcp1; have HCP2 := Lib.hid hcp2; have HTK := Lib.hid htk; have HDR := Lib.hid hdr; have HRL := Lib.hid hrl
    clear hcp1 hcp2 htk hdr hrl
    obtain ⟨ao', hao, hsl2⟩ := slice_rest aC n cC k hkn
    have hsl1 := slice_first aC n cC k (Nat.le_of_lt hkn) hcap (by omega)
    have HAO := Lib.hid hao
    clear hao
    have hwr : IntKind.i64.wrap ((k : Int) + 1) = (k : Int) + 1 := IntWalk.i64_in _ (by omega)
    have hkC : (k : Int) ≤ (cC : Int) := by omega
    have hkn1 : ((k : Int) + 1) ≤ (n : Int) := by omega
    go_wp2_with fail
    refine wp_region_noPanic ?_
    refine wp_region_held (S := fun _ => True) (by kernel_rfl) ?_
    change wpAnyH _ _ _ _ _ _ _ _ W3.drew
    refine wpAnyH_take (i := 0) (oi := _) (v := .slice aC n cC) rfl (by kernel_rfl) (by kernel_rfl) (by kernel_rfl) (fun _ _ _ h => h) (Or.inl ⟨by rfl, fun w hw => by go_simp⟩) trivial ?_
    refine wpAnyH_take (i := 1) (oi := _) (v := .int .i64 k) rfl (by kernel_rfl) (by kernel_rfl) (by kernel_rfl) (fun _ _ _ h => h) (Or.inl ⟨by rfl, fun w hw => by go_simp⟩) trivial ?_
    refine wpAnyH_take (i := 2) (oi := _) (v := .slice aC k cC) rfl (by kernel_rfl) (by kernel_rfl) (by kernel_rfl) (fun _ _ _ h => h) (Or.inl ⟨by rfl, fun w hw => by go_simp⟩) trivial ?_
    refine wpAnyH_take (i := 4) (oi := _) (v := .slice aC n cC) rfl (by kernel_rfl) (by kernel_rfl) (by kernel_rfl) (fun _ _ _ h => h) (Or.inl ⟨by rfl, fun w hw => by go_simp⟩) trivial ?_
    refine wpAnyH_take (i := 5) (oi := _) (v := .int .i64 k) rfl (by kernel_rfl) (by kernel_rfl) (by kernel_rfl) (fun _ _ _ h => h) (Or.inl ⟨by rfl, fun w hw => by go_simp⟩) trivial ?_
    refine wpAnyH_take (i := 6) (oi := _) (v := .int .i64 ((k : Int) + 1)) rfl (by kernel_rfl) (by kernel_rfl) (by kernel_rfl) (fun _ _ _ h => h) (Or.inl ⟨by rfl, fun w hw => by go_simp⟩) trivial ?_
    refine wpAnyH_take (i := 7) (oi := _) (v := (.slice ao' (n - (k + 1)) (cC - (k + 1)))) rfl (by kernel_rfl) (by kernel_rfl) (by kernel_rfl) (fun _ _ _ h => h) (Or.inl ⟨by rfl, fun w hw => by go_simp⟩) trivial ?_
    simp only [Act.put, List.setIfInBounds_toArray, List.set_cons_zero, List.set_cons_succ]
    refine wpAnyH_ready (rs := [3]) (by kernel_rfl) (by simp) ?_
    refine AllReadyH.cons (o := _) rfl (fun K1 hK => ?_) AllReadyH.nil
    go_simp
    refine HCP1.out.mono ?_
    rintro e W4 ⟨v4, hs4, rfl, hx4, hb4⟩
    refine hK.out _ _ trivial (fun _ => ?_)
    clear hK K1
    refine wpAnyH_ready (rs := [8]) (by kernel_rfl) (by simp) ?_
    refine AllReadyH.cons (o := _) rfl (fun K1 hK => ?_) AllReadyH.nil
    go_simp
    have B4 : Below w.heap.size w W4 := (HB3.out.drew).trans (hb4.mono HB3.out.drew.size)
    refine (HCP2.out _ _ W4 (fun h b o e => HAO.out h hcap b o e) B4).mono ?_
    rintro e W5 ⟨v5, hs5, rfl, hx5, hb5⟩
    have B5 : Below w.heap.size w W5 := B4.trans (hb5.mono B4.size)
    have hx45 := hx4.below hb5
    refine hK.out _ _ trivial (fun _ => ?_)
    clear hK K1
    obtain ⟨g4, c4, rfl, hz4, hn4, hm4⟩ := rows_own hx45
    obtain ⟨g5, c5, rfl, hz5, hn5, hm5⟩ := rows_own hx5
    obtain ⟨i79, hi79, hq0, hq1, hq2⟩ := info_parts info79b
    have hl5 := hx5.rw.hlen
    have hl4 := hx45.rw.hlen
    refine wpAnyH_ready (rs := [9]) (by kernel_rfl) (by simp) ?_
    refine AllReadyH.cons (o := _) rfl (fun K1 hK => ?_) AllReadyH.nil
    rw [if_pos (by rfl)]
    refine wp_append_own _ _ _ 78 rfl W3.drew.heap.size 79 i79 (.slice none 0 0) 1 24 Tryd.underlying78 hi79 hq0 hq1 hq2 rfl (by decide) (.slice (some ⟨g4, 0, none⟩) (cost.take k).length c4) (cost.take k).length hs4 rfl hx45.rw.own ⟨g5, 0, none⟩ (cost.drop (k + 1)).length c5 hs5 rfl (by rw [hl5, Nat.mul_one]) (hx5.rw.own.cells (g := g5) rfl) hx5.one (by rw [HTK.out, HDR.out]; simp only [maxLen]; omega) (by rw [HTK.out, HDR.out]; omega) (Nat.le_trans hb4.size hb5.size) ?_
    intro v6 W6 ho6 hg6 _
    have hless := RowsX.join (Z := W3.drew.heap.size) hx45 hx5 (Nat.le_refl _) hb4.size ho6 hg6
    have B6 : Below w.heap.size w W6 := B5.grown hg6 B5.size (fun q hq => Nat.le_trans HB3.out.drew.size (own_ge' hx45.rw.own q hq))
    refine hK.out _ _ trivial (fun _ => ?_)
    clear hK K1
    have hlen6 : (cost.take k).length + (cost.drop (k + 1)).length = (lessL cost k).length := by unfold lessL; rw [List.length_append]
    rw [hlen6] at ho6
    obtain ⟨a6, c6, rfl, hn6, hm6⟩ := own_cap ho6
    have hk2 : k < cost.length := by rw [HL.out]; exact hkn
    have hM6 : IsMat W6 (.slice a6 (lessL cost k).length c6) (lessL cost k) := hless.mat
    have HBL := Lib.hid (best_any (lessL cost k) a6 _ c6 rfl hn6 hm6 W6 hM6)
    have HB6 := Lib.hid B6; have HK2 := Lib.hid hk2
    clear hx4 hb4 hx5 hb5 hx45 hz4 hn4 hm4 hz5 hn5 hm5 hl4 hl5 ho6 hg6 hless B4 B5 B6 hn6 hm6 hM6 hlen6 hsl1 hsl2 hk2
    refine wpAnyH_take (i := 10) (oi := _) (v := .slice a6 (lessL cost k).length c6) rfl (by kernel_rfl) (by kernel_rfl) (by kernel_rfl) (fun _ _ _ h => h) (Or.inl ⟨by rfl, fun w hw => by go_simp⟩) trivial ?_
    simp only [Act.put, List.setIfInBounds_toArray, List.set_cons_zero, List.set_cons_succ]
    refine wpAnyH_done (by kernel_rfl) ?_ _
    refine NoPanic.normal ?_
    go_wp2_with fail
    refine HBL.out.mono ?_
    rintro e W7 hbest
    have hb7 := hbest.1
    have HB7 := Lib.hid (HB6.out.trans (hb7.mono HB6.out.size))
    obtain ⟨bv2, bi2, bk2, rfl, _, hb2⟩ := best_short hbest (less_castE HK2.out HCE.out)
    have hfork : bk = false ∨ (bk = true ∧ bk2 = true ∧ ¬ bi < bi2) := by
      cases hb : bk with
      | false => exact Or.inl rfl
      | true =>
        obtain ⟨t, ht, hs⟩ := HCA.out hb
        obtain ⟨t', ht', hs'⟩ := less_cast HK2.out HCE.out ht
        obtain ⟨h1, h2⟩ := hb2 t' ht'
        exact Or.inr ⟨rfl, h1, by omega⟩
    have HCPW := Lib.hid (copy47_any cost n HL.out r1 HRL.out aC cC W7 (HC.out.below HB7.out (Nat.le_refl _)))
    clear hb7 hbest HBL HB6 hb2
    have HF3 : Hid (∀ (e : Ending) (W W' : World), castE (wideL cost column) = 0 → BestP (wideL cost column) W e W' → ∃ (bv3 : Value) (bi3 : Int) (bk3 : Bool), e = .returned (.tuple #[bv3, .int .i64 bi3, .bool bk3, .int .i64 0]) ∧ (bk = false ∨ (bk3 = true ∧ bi3 ≤ bi))) := Lib.hid fun e W W' hcw hbest => by
      obtain ⟨bv3, bi3, bk3, rfl, _, hb3⟩ := best_short hbest hcw
      refine ⟨bv3, bi3, bk3, rfl, ?_⟩
      cases hb : bk with
      | false => exact Or.inl rfl
      | true =>
        obtain ⟨t, ht, hs⟩ := HCA.out hb
        obtain ⟨ht', hs'⟩ := wide_cast (column := column) (by have := HK2.out; omega) HCE.out ht
        obtain ⟨h1, h2⟩ := hb3 t ht'
        exact Or.inr ⟨h1, by omega⟩
    clear HCA
    rcases hfork with rfl | ⟨rfl, rfl, hle2⟩
    all_goals
      go_wp2_with fail
      refine HCPW.out.mono ?_
      rintro e W8 ⟨v8, hs8, rfl, hx8, hb8⟩
      have HB8 := Lib.hid (HB7.out.trans (hb8.mono HB7.out.size))
      obtain ⟨gW, cap, rfl, hgW, hcp1, hcp2⟩ := rows_own hx8
      have hZ7 : w.heap.size ≤ W7.heap.size := HB7.out.size
      rw [HL.out] at hx8 hcp1 ⊢
      have HX8 := Lib.hid hx8
      clear hb8 hx8 HCPW
      go_wp2_with fail
      go_loopw [88] (fun iv wr => ∃ (i : Nat) (hs : List Value), i ≤ n ∧ iv = .int .i64 i ∧ Hid (RowsX W7.heap.size ((wideL cost column).take i ++ cost.drop i) (.slice (some ⟨gW, 0, none⟩) n cap) hs wr) ∧ Hid (Below w.heap.size w wr)) (fun iv _ => n - (intOf iv).toNat)
      case atStart => exact ⟨0, hs8, Nat.zero_le _, rfl, Lib.hid (by rw [List.take_zero, List.drop_zero, List.nil_append]; exact HX8.out), HB8⟩
      case round =>
        obtain ⟨i, hs, hin, rfl, hR, hW⟩ := hrel
        clear HX8 HB8
        by_cases hi : i < n
        · have hi' : (i : Int) < (n : Int) := by omega
          have hil : i < cost.length := by rw [HL.out]; exact hi
          have htl : ((wideL cost column).take i).length = i := by rw [List.length_take, wide_len]; omega
          have hrln : ((wideL cost column).take i ++ cost.drop i).length = n := by rw [List.length_append, htl, List.length_drop, HL.out]; omega
          have hrow : ((wideL cost column).take i ++ cost.drop i)[i]? = some (cost[i]?.getD []) := by
            rw [List.getElem?_append_right (by omega), htl, Nat.sub_self, List.getElem?_drop, Nat.add_zero, List.getElem?_eq_getElem hil]; rfl
          have hhl := hR.out.rw.hlen
          obtain ⟨x, hx⟩ : ∃ x, hs[i]? = some x := ⟨_, List.getElem?_eq_getElem (by omega)⟩
          have hxo := hR.out.rw.at_ i x _ hx hrow
          obtain ⟨kx, hkx⟩ := hR.out.blk i x hx
          have hm16 : (cost[i]?.getD []).length ≤ 16 := HRL.out _ (by rw [List.getElem?_eq_getElem hil]; exact List.getElem_mem _)
          obtain ⟨m, hm⟩ : ∃ m, (cost[i]?.getD []).length = m := ⟨_, rfl⟩
          rw [hm] at hxo hm16
          obtain ⟨gx, cx, hxe⟩ : ∃ gx cx, x = .slice (some ⟨gx, 0, none⟩) m cx := by
            rcases hxo.2 with ⟨q, _⟩ | ⟨g, cap, cur, q, _⟩
            · rw [q] at hkx; cases hkx
            · exact ⟨g, cap, q⟩
          subst hxe
          have hpw : wr.cell? ⟨gW, i, none⟩ = some (.slice (some ⟨gx, 0, none⟩) m cx) := by
            have h9 := hR.out.rw.own.cells (g := gW) rfl i _ hx
            rw [addr_plain, Nat.zero_add] at h9
            exact h9
          have hgl : gW < wr.heap.size := hR.out.rw.own.lt gW rfl |>.2
          have hzw : W7.heap.size ≤ wr.heap.size := Nat.le_trans (own_ge' hR.out.rw.own gW rfl) (Nat.le_of_lt hgl)
          have HXO := Lib.hid hxo; have HXI := Lib.hid hx; have P := Lib.hid hpw; have HM := Lib.hid hm; have HRLN := Lib.hid hrln; have HZW := Lib.hid hzw
          clear hil htl hrln hrow hhl hx hxo hkx hm hpw hzw
          have hsplit : (∃ b1 o1 y, aT = some ⟨b1, o1, none⟩ ∧ wr.cell? ⟨b1, o1 + i, none⟩ = some (.int .i64 y) ∧ (i : Int) < (nt : Int) ∧ wxI column i = y) ∨ (¬ (i : Int) < (nt : Int) ∧ wxI column i = -1) := by
            unfold wxI
            rw [HNT.out]
            by_cases hc : i < nt
            · obtain ⟨b1, o1, e1, p1, _⟩ := (HT.out.below hW.out (Nat.le_refl _)).int (j := i) (by rw [HNT.out]; exact hc)
              exact Or.inl ⟨b1, o1, _, e1, p1, by omega, if_pos hc⟩
            · exact Or.inr ⟨by omega, if_neg hc⟩
          rcases hsplit with ⟨b1, o1, y, rfl, p1, hc, hyy⟩ | ⟨hc, hyy⟩
          all_goals
            have HY := Lib.hid hyy
            clear hyy
            have p2 := P.out
            go_wp2_with (at_builtin; refine wpList_append_one rfl _ _ rfl rfl rfl (HXO.out.alloc _) (by have := HZW.out; simp; omega) (by omega) (cell_at (heap_alloc_new wr _) 0 rfl) ?_
                         intro v5 w5 ho hg hor
                         obtain ⟨hput, q1, q2, hb6, ao5, c5, e5⟩ := wide_put (by rw [HL.out]; exact hi) hR.out HRLN.out HXI.out HM.out HY.out hW.out hZ7 ho hg hor (own_ge' HXO.out gx rfl)
                         subst e5
                         have HPUT := Lib.hid hput; have HB6 := Lib.hid hb6
                         clear hput hb6 ho hg hor)
            go_roundw
            case rel => exact ⟨i + 1, hs.set i (.slice ao5 (m + 1) c5), by omega, by go_num, HPUT, HB6⟩
            case measure => simp [intOf]; omega
        · obtain rfl : i = n := by omega
          have hi' : ¬ (i : Int) < (i : Int) := by omega
          have hfull : (wideL cost column).take i ++ cost.drop i = wideL cost column := by
            rw [List.take_of_length_le (by rw [wide_len, HL.out]; exact Nat.le_refl _), List.drop_of_length_le (by rw [HL.out]; exact Nat.le_refl _), List.append_nil]
          rw [hfull] at hR
          have hwl : (wideL cost column).length = i := by rw [wide_len, HL.out]
          have hMW := hR.out.rw.mat
          have HBW := Lib.hid (best_any (wideL cost column) _ i cap hwl hcp1 hcp2 wr hMW)
          have HCW := Lib.hid (fun (W : World) (hb : Below wr.heap.size wr W) => check47_any _ i cap (wideL cost column) hwl W (hMW.below hb (Nat.le_refl _)))
          clear hfull hMW
          go_wp2_with fail
          refine HBW.out.mono ?_
          rintro e W9 hbw
          have hb9 := hbw.1
          have HB9 := Lib.hid (hW.out.trans (hb9.mono hW.out.size))
          have HCK := Lib.hid (HCW.out W9 hb9)
          by_cases hcw : castE (wideL cost column) = 0
          · obtain ⟨bv3, bi3, bk3, rfl, hf3⟩ := HF3.out e wr W9 hcw hbw
            have hck := HCK.out
            rw [hcw] at hck
            have HCK0 := Lib.hid hck
            clear hbw hb9 HBW HCW hck HCK hcw
            go_wp2_with fail
            refine HCK0.out.mono ?_
            rintro e W10 ⟨rfl, kd, rfl⟩
            rcases hf3 with h | ⟨rfl, h3⟩
            · first
                | exact absurd h (by decide)
                | (clear h
                   go_wp2_with fail
                   go_ret
                   exact ⟨rfl, below_drewN HB9.out _⟩)
            · go_wp2_with fail
              go_ret
              exact ⟨rfl, below_drewN HB9.out _⟩
          · have he : e = .returned (.tuple #[.slice none 0 0, .int .i64 0, .bool false, .int .i64 (castE (wideL cost column))]) := by
              rcases hbw.2 with ⟨_, h⟩ | ⟨h, _⟩ | ⟨h, _⟩
              · exact h
              · exact absurd h hcw
              · exact absurd h hcw
            subst he
            have HCK2 := Lib.hid (fun (kd : Nat) => HCW.out (W9.drewN kd) (below_drewN hb9 kd))
            have hcw' : (castE (wideL cost column) != 0) = true := by simp [hcw]
            clear hbw hb9 HBW HCW
            generalize castE (wideL cost column) = ce at *
            go_wp2_with fail
            refine HCK.out.mono ?_
            rintro e W10 ⟨rfl, kd, rfl⟩
            go_wp2_with fail
            refine (HCK2.out kd).mono ?_
            rintro e W11 ⟨rfl, kd2, rfl⟩
            go_wp2_with fail
            go_ret
            exact ⟨by simp, below_drewN HB9.out _⟩
end Go.Proofs.YtggcbblikgankaaDoor
end
