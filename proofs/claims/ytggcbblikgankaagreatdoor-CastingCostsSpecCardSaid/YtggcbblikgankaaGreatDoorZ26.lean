/- Contracts and plain laws on the way to the statement: part 26. -/
import Derived.Test.YtggcbblikgankaaGreatDoorZ20
import Derived.Test.YtggcbblikgankaaGreatDoorZ14
import Derived.Test.YtggcbblikgankaaGreatDoorZ6
import Derived.Test.YtggcbblikgankaaGreatDoorZ5
import Derived.Lib.SlBuf
import Derived.Test.YtggcbblikgankaaGreatDoorZ3
set_option linter.unusedVariables false
set_option linter.unusedSimpArgs false
set_option maxRecDepth 100000
set_option maxHeartbeats 16000000
namespace Go.Proofs.YtggcbblikgankaaGreatDoor
open Go.Value (int)
open Go.IntKind (i64)
section
open Go Go.RowKit Go.Deep
theorem Ng (w : World) (x : Int) (m b : Nat) (hm : m ≤ 1000) (hb : b < w.heap.size) (hc : w.cell? ⟨b, 0, none⟩ = some (int i64 x)) : 
  ∃ k, k = min 1 m ∧ ∃ w', (Builtin.copy_ #[55, 55] 3 #[.slice (some ⟨w.heap.size, 0, none⟩) m m, .slice (some ⟨b, 0, none⟩) 1 1]).run Tryz.prog (w.alloc (.cells (Array.replicate m (int i64 0)) 3)) = .ok (int i64 (k : Nat)) w' ∧ w'.heap[w.heap.size]? = some (.cells (EN x k m).toArray 3 (0, 0)) ∧ Below w.heap.size w w' := by
 refine ⟨_, rfl, ?_⟩
 rw [← List.toArray_replicate]
 have hsz : (Tryz.prog.info? 3).map (·.size) = some 1 := by kernel_rfl
 by_cases h0 : m = 0
 ·subst h0
  exact ⟨_, run_copy_none _ 55 55 3 3 _ _ 0 0 1 1 Tryz.underlying55 hsz (by simp), by rw [heap_alloc_new]; rfl, (Below.refl _ w).alloc (qn _) _⟩
 ·have e : min 1 m = 1 := by omega
  rw [e]
  have h := run_copy_row (P := Tryz.prog) (w.alloc (.cells (List.replicate m (int i64 0)).toArray 3)) 55 55 3 3 w.heap.size 0 m m ⟨b, 0, none⟩ 1 1 (List.replicate m (int i64 0)).toArray 3 [int i64 x] Tryz.underlying55 hsz (heap_alloc_new w _) (by show 1 = min 1 m; omega)
   (fun j v hv => by
    rcases j with _ | j
    ·obtain rfl : _ = v := by simpa using hv
     exact (((Below.refl _ w).alloc (qn _) _).cell (p := ⟨b, 0, none⟩) hb).trans hc
    ·simp at hv) (by simp; omega) (fun v hv => by rw [List.mem_singleton.1 hv]; rfl)
  refine ⟨_, h, ?_, below_setRow ((Below.refl _ w).alloc (qn _) _) (qn _) _⟩
  rw [setRow_heap _ _ _ _ _ _ (heap_alloc_new w _)]
  have el : (List.replicate m (Value.int .i64 0)).toArray.toList.take 0 ++ [Value.int .i64 x] ++ (List.replicate m (Value.int .i64 0)).toArray.toList.drop (0 + [Value.int .i64 x].length) = EN x 1 m := by
   unfold EN
   simp [List.drop_replicate]
  rw [el]
theorem Pa (w : World) (x : Int) (m i : Nat) (hm : m ≤ 1000) (hi : i < m) (g : Nat) (hg : w.heap[g]? = some (.cells (EN x i m).toArray 3 (0, 0))) :
  ∃ w', (Builtin.copy_ #[55, 55] 3 #[.slice (some ⟨g, i, none⟩) (m - i) (m - i), .slice (some ⟨g, 0, none⟩) i m]).run Tryz.prog w = .ok (int i64 ((min i (m - i) : Nat) : Int)) w' ∧ w'.heap[g]? = some (.cells (EN x (i + min i (m - i)) m).toArray 3 (0, 0)) ∧ Below g w w' := by
 have hsz : (Tryz.prog.info? 3).map (·.size) = some 1 := by kernel_rfl
 have h := run_copy_row (P := Tryz.prog) w 55 55 3 3 g i (m - i) (m - i) ⟨g, 0, none⟩ i m (EN x i m).toArray 3 (List.replicate (min i (m - i)) (int i64 x)) Tryz.underlying55 hsz hg (by rw [List.length_replicate])
  (fun j v hv => by
   rw [List.getElem?_replicate] at hv
   split at hv
   ·obtain rfl : _ = v := Option.some.inj hv
    rw [Bj, Nat.zero_add]
    exact A0 hg j (by rw [List.getElem?_toArray]; exact RH (by omega))
   ·cases hv) (by rw [List.length_replicate, List.size_toArray, QT (by omega)]; omega) (fun v hv => by rw [(List.mem_replicate.1 hv).2]; rfl)
 rw [List.length_replicate] at h
 refine ⟨_, h, ?_, below_setRow (Below.refl _ w) (qn _) _⟩
 have hs := Ly (x := x) (k := i) (c := min i (m - i)) (m := m) (by omega)
 unfold splice at hs
 rw [List.length_replicate, ← List.append_assoc] at hs
 rw [setRow_heap _ _ _ _ _ _ hg, ← hs]
theorem IG {P : Program} {ops : Array Oper} {o : Oper} {a : Act} {w : World} {K : Act → World → Prop} {Q : Exit → Act → World → Prop} {E : Prop} (hgd : o.guard = none) (d s : Operand) (t t' : TypeId)
  (ho : o.op = .call { callee := .builtin .copy, args := #[d, s], argTypes := #[t, t'] }) (v u : Value) (hd : a.eval d = v) (hs : a.eval s = u) {v' : Value} {w' : World}
  (hr : (Builtin.copy_ #[t, t'] o.type #[v, u]).run P w = .ok v' w') (h : K (a.put o.dst v') w') : if Region.wanted o (yielded ops a.tmps) = true then Oper.wp P o a w K Q else E := by
 rw [if_pos (by simp [Region.wanted, hgd])]
 exact Lib.wp_copy_run w d s t t' ho v u hd hs hr h
theorem AM (x : Int) (m : Nat) (hm : m ≤ 1000) (b : Nat) (w : World) (hb : b < w.heap.size) (hc : w.cell? ⟨b, 0, none⟩ = some (int i64 x)) :
  Calls Tryz.prog 83 #[.slice (some ⟨b, 0, none⟩) 1 1, int i64 m] w fun e w' => ∃ g, e = .returned (.slice (some ⟨g, 0, none⟩) m m) ∧ w.heap.size ≤ g ∧ BI w' g (List.replicate m x) ∧ Below w.heap.size w w' := by
 have hmul := fun (W : World) => Tryz.bits_Mul 1 m (by omega) (by omega) W
 have e1 : ((1 * m / 18446744073709551616 : Nat) : Int) = 0 := by omega
 have e2 : ((1 * m % 18446744073709551616 : Nat) : Int) = m := by omega
 rw [e1, e2] at hmul
 have c1 : IntKind.u64.wrap (m : Int) = (m : Int) := by rw [IntKind.wrap_u64]; omega
 have c2 : IntKind.i64.wrap (m : Int) = (m : Int) := IntWalk.i64_in _ (by omega)
 have n1 : ¬ (m : Int) < 0 := by omega
 have n2 : ¬ (9223372036854775807 : Int) < (m : Int) := by omega
 have hmk := EF m hm w
 have hcp := Ng w x m b hm hb hc
 have HMUL := qh hmul; have HCP := qh hcp; have HM := qh hm
 clear e1 e2 hmul hcp hc hb
 go_enter Tryz.func83, Tryz.ntmps83
 go_wp2_with fail
 refine (HMUL.out w).mono ?_
 rintro e w1 ⟨rfl, h1⟩
 rw [h1]
 clear h1 w1
 obtain ⟨k, hk, w2, hrun, hg2, hb2⟩ := HCP.out
 have G2 := qh hg2; have B2 := qh hb2; have HK := qh hk
 clear hg2 hb2 HCP HMUL hk
 go_wp2_with (at_builtin; refine Lib.wpList_copy_run _ rfl _ _ 55 55 rfl _ _ rfl rfl hrun ?_; simp only [Act.put, qD, qE, qF])
 clear hrun hmk
 go_loopw [8] (fun iv wr => ∃ k : Nat, k ≤ m ∧ (k = 0 → m = 0) ∧ iv = int i64 k ∧ Hid (wr.heap[w.heap.size]? = some (.cells (EN x k m).toArray 3 (0, 0))) ∧ Hid (Below w.heap.size w wr)) (fun iv _ => m - (intOf iv).toNat)
 case atStart => exact ⟨k, by have := HK.out; omega, by have := HK.out; omega, rfl, G2, B2⟩
 case round =>
  clear G2 B2
  obtain ⟨i, hin, hi0, rfl, hG, hB⟩ := hrel
  by_cases hi : i < m
  ·have hi' : (i : Int) < (m : Int) := by omega
   have hi0' := qh hi0
   clear hi0
   go_wp2_with fail
   have W1 : IntKind.i64.wrap ((i : Int) + ((min i (m - i) : Nat) : Int)) = ((i + min i (m - i) : Nat) : Int) := IntWalk.i64_in _ (by have := HM.out; omega)
   have hsz : (Tryz.prog.info? 3).map (·.size) = some 1 := by kernel_rfl
   have HSZ := qh hsz
   have hmi : ¬ m = i := by omega
   clear hsz
   obtain ⟨w4, hrun, hg4, hb4⟩ := Pa wr.drew x m i hm hi w.heap.size hG.out
   have B4 := qh (hB.out.drew.trans (hb4.mono (by omega)))
   have G4 := qh hg4
   clear hb4 hg4 hG hB
   have hc0 : i + min i (m - i) ≤ m := by omega
   have hc1 : i + min i (m - i) = 0 → m = 0 := by have := hi0'.out; omega
   have hc2 : m - (i + min i (m - i)) < m - i := by have := hi0'.out; omega
   have HC0 := qh hc0; have HC1 := qh hc1; have HC2 := qh hc2
   clear hc0 hc1 hc2
   generalize hc : min i (m - i) = c at *
   clear hc
   go_region_law? (refine IG rfl (.tmp 41) (.tmp 44) 55 55 rfl (.slice (some ⟨w.heap.size, i, none⟩) (m - i) (m - i)) (.slice (some ⟨w.heap.size, 0, none⟩) i m) (by simp [Act.eval, Act.put]) (by simp [Act.eval, Act.put]) hrun ?_)
   simp only [Act.put, qA, qB, qC, qD, qE, qF]
   go_wp2_with fail
   go_roundw
   case rel => exact ⟨i + c, HC0.out, HC1.out, by go_num, G4, B4⟩
   case measure => have := HC2.out; simp [intOf]; omega
  ·obtain rfl : i = m := by omega
   clear hi0
   have hi' : ¬ (i : Int) < (i : Int) := by omega
   go_wp2_with fail
   go_ret
   have hg := hG.out
   rw [Qa] at hg
   exact ⟨_, rfl, qn _, hg, hB.out⟩
end
section
open Go Go.RowKit Go.Deep
def AX (x : Int) : List Value := [int i64 x]
def G9 (h : Value) : List Value := [h]
def IsMat (w : World) (v : Value) (cost : List (List Int)) : Prop :=
 ∃ hs : List Value, IsRow G9 1 w v hs ∧ hs.length = cost.length ∧ ∀ (i : Nat) (h : Value) (row : List Int), hs[i]? = some h → cost[i]? = some row → IsRow AX 1 w h row
section
variable {w : World} {v : Value} {cost : List (List Int)}
theorem IsMat.below {w' : World} {B : Nat} (h : IsMat w v cost) (hb : Below B w w') (hB : w.heap.size ≤ B) : IsMat w' v cost := by
 obtain ⟨hs, h1, h2, h3⟩ := h
 exact ⟨hs, h1.below hb hB, h2, fun i x row hx hr => (h3 i x row hx hr).below hb hB⟩
theorem IsMat.form (h : IsMat w v cost) : ∃ ao c, v = .slice ao cost.length c := by
 obtain ⟨hs, ⟨ao, c, e, _⟩, h2, _⟩ := h
 exact ⟨ao, c, by rw [e, h2]⟩
theorem IsMat.len (h : IsMat w v cost) : cost.length ≤ maxLen := by
 obtain ⟨hs, ⟨ao, c, e, hl, _⟩, h2, _⟩ := h
 rw [← h2]; exact hl
theorem IsMat.at_ {ao : Option Addr} {n c : Nat} (h : IsMat w (.slice ao n c) cost) {i : Nat} (hi : i < cost.length) :
  ∃ b o, ao = some ⟨b, o, none⟩ ∧ ∃ ar cr, w.cell? ⟨b, o + i, none⟩ = some (.slice ar (cost[i]?.getD []).length cr) ∧ IsRow AX 1 w (.slice ar (cost[i]?.getD []).length cr) (cost[i]?.getD []) ∧ b < w.heap.size := by
 obtain ⟨hs, h1, h2, h3⟩ := h
 obtain ⟨x, hx⟩ : ∃ x, hs[i]? = some x := ⟨_, qg (by omega)⟩
 obtain ⟨row, hr⟩ : ∃ r, cost[i]? = some r := ⟨_, qg hi⟩
 obtain ⟨b, o, e, hat, hlt⟩ := h1.block hx
 have h4 := h3 i x row hx hr
 have h5 := h4
 obtain ⟨ar, cr, e2, _⟩ := h5
 refine ⟨b, o, e, ar, cr, ?_, ?_, hlt⟩
 ·have := hat i x hx 0 _ rfl
  rw [Nat.mul_one, Nat.add_zero, e2] at this
  rw [hr]; exact this
 ·rw [hr]; show IsRow AX 1 w (.slice ar row.length cr) row; rw [← e2]; exact h4
end
theorem IsRow.int {w : World} {ar : Option Addr} {n c : Nat} {row : List Int} (h : IsRow AX 1 w (.slice ar n c) row) {j : Nat} (hj : j < row.length) : ∃ b o, ar = some ⟨b, o, none⟩ ∧ w.cell? ⟨b, o + j, none⟩ = some (int i64 (gi row j)) ∧ b < w.heap.size := by
 obtain ⟨b, o, e, hat, hlt⟩ := h.block (qg hj)
 refine ⟨b, o, e, ?_, hlt⟩
 have := hat j _ (qg hj) 0 _ rfl
 rw [Nat.mul_one, Nat.add_zero] at this
 rw [this]
 unfold gi
 rw [qg hj]; rfl
def AS (cost : List (List Int)) : Nat := (cost[0]?.getD []).length
theorem D1 {v : Value} {cost : List (List Int)} (w : World) (h : IsMat w v cost) : Calls Tryz.prog 45 #[v] w fun e w' => e = .returned (int i64 (AS cost)) ∧ w' = w := by
 obtain ⟨ao, c, rfl⟩ := h.form
 by_cases h0 : cost.length = 0
 ·have hw : AS cost = 0 := by unfold AS; rw [List.eq_nil_of_length_eq_zero h0]; rfl
  rw [hw, h0]
  have HH := qh h
  clear h h0 hw
  go_enter Tryz.func45, Tryz.ntmps45
  go_wp2_with fail
  go_ret
  exact ⟨rfl, rfl⟩
 ·obtain ⟨b, o, rfl, ar, cr, hc, _, _⟩ := h.at_ (i := 0) (by omega)
  have hne : ((cost.length : Int) == 0) = false := by simp; intro e; exact h0 (by simp [e])
  have hlt : 0 < cost.length := by omega
  have hw : (cost[0]?.getD []).length = AS cost := rfl
  rw [hw, Nat.add_zero] at hc
  generalize AS cost = m at *
  generalize cost.length = n at *
  clear h hw
  go_enter Tryz.func45, Tryz.ntmps45
  go_wp2_with fail
  go_ret
  exact ⟨rfl, rfl⟩
theorem Mc (p : Int → Bool) (g : Nat) (lb : Array Value) (hcf : ∀ args w, (callFunc g args).run Tryz.prog w = .ok (.enter g args) w) (xs : List Int) (n : Nat) (hn : xs.length = n) (ao : Option Addr) (c : Nat) (w : World) (hx : IsRow AX 1 w (.slice ao n c) xs)
  (hf : ∀ x ∈ xs, ∀ W, Below w.heap.size w W → Calls Tryz.prog g (#[int i64 x] ++ lb) W fun e w' => e = .returned (.bool (p x)) ∧ Below W.heap.size W w') :
  Calls Tryz.prog 85 #[.slice ao n c, .func (.func g) #[] lb] w fun e w' => ∃ r : Int, e = .returned (int i64 r) ∧ decide (0 ≤ r) = xs.any p ∧ Below w.heap.size w w' := by
 have HF := qh hf; have HX := qh hx; have HN := qh hn; have HCF := qh hcf
 have hmax : n ≤ maxLen := by obtain ⟨_, _, _, h, _⟩ := hx; omega
 have hmx : (maxLen : Nat) < 9223372036854775808 := by decide
 clear hf hx hn
 go_enter Tryz.func85, Tryz.ntmps85
 go_wp2_with fail
 go_loopw [4, 8] (fun rv iv wr => rv = int i64 0 ∧ ∃ i : Nat, i ≤ n ∧ iv = int i64 i ∧ Hid (Below w.heap.size w wr) ∧ Hid ((xs.take i).any p = false)) (fun _ iv _ => n - (intOf iv).toNat)
 case atStart => exact ⟨rfl, 0, Nat.zero_le _, rfl, qh (Below.refl _ _), by rw [List.take_zero]; rfl⟩
 case round =>
  obtain ⟨rfl, i, hin, rfl, hB, hT⟩ := hrel
  by_cases hi : i < n
  ·have hil : i < xs.length := by rw [HN.out]; exact hi
   have hr := (HX.out.below hB.out (qn _))
   obtain ⟨b1, o1, hp1, hcell, hb1⟩ := hr.int hil
   subst hp1
   have hi' : (i : Int) < (n : Int) := by omega
   have hmem : gi xs i ∈ xs := by unfold gi; rw [qg hil]; exact List.getElem_mem hil
   have hcall := HF.out (gi xs i) hmem wr hB.out
   have htake : xs.take (i + 1) = xs.take i ++ [gi xs i] := by
    rw [List.take_succ_eq_append_getElem hil]; unfold gi; rw [qg hil]; rfl
   have HT2 := qh htake; have HCALL := qh hcall; have HM := qh hmem
   clear hr hmem hcall htake hb1
   generalize gi xs i = x at *
   go_wp2_with fail
   refine HCALL.out.mono ?_
   rintro e W1 ⟨rfl, hb1⟩
   have HB1 := qh (hB.out.trans (hb1.mono hB.out.size))
   clear hb1 HCALL hcell hB
   cases hp : p x with
   | true =>
    have HP := qh (show xs.any p = true from List.any_eq_true.2 ⟨x, HM.out, hp⟩)
    clear hp
    go_wp2_with fail
    go_ret
    exact ⟨_, rfl, by rw [HP.out]; simp, HB1.out⟩
   | false =>
    have HT3 := qh (show (xs.take (i + 1)).any p = false by rw [HT2.out, List.any_append, hT.out]; simp [hp])
    clear hp HT2 hT
    go_wp2_with fail
    go_roundw
    case rel => exact ⟨rfl, i + 1, by omega, by go_num, HB1, HT3⟩
    case measure => simp [intOf]; omega
  ·obtain rfl : i = n := by omega
   have hi' : ¬ (i : Int) < (i : Int) := by omega
   go_wp2_with fail
   go_ret
   refine ⟨_, rfl, ?_, hB.out⟩
   have := hT.out
   rw [List.take_of_length_le (by rw [HN.out]; exact qn _)] at this
   rw [this]; rfl
theorem Dt (p : Int → Bool) (g : Nat) (lb : Array Value) (hcf : ∀ args w, (callFunc g args).run Tryz.prog w = .ok (.enter g args) w) (xs : List Int) (n : Nat) (hn : xs.length = n) (ao : Option Addr) (c : Nat) (w : World) (hx : IsRow AX 1 w (.slice ao n c) xs)
  (hf : ∀ x ∈ xs, ∀ W, Below w.heap.size w W → Calls Tryz.prog g (#[int i64 x] ++ lb) W fun e w' => e = .returned (.bool (p x)) ∧ Below W.heap.size W w') :
  Calls Tryz.prog 53 #[.slice ao n c, .func (.func g) #[] lb] w fun e w' => e = .returned (.bool (xs.any p)) ∧ Below w.heap.size w w' := by
 have h := qh (Mc p g lb hcf xs n hn ao c w hx hf)
 clear hx hf hn hcf
 go_enter Tryz.func53, Tryz.ntmps53
 go_wp2_with fail
 refine h.out.mono ?_
 rintro e w1 ⟨r, rfl, hr, hb⟩
 have HR := qh hr; have HB := qh hb
 clear hr hb h
 go_wp2_with fail
 go_ret
 exact ⟨by show Ending.returned (.bool (decide (0 ≤ r))) = _; rw [HR.out], HB.out⟩
theorem PK (ar : Option Addr) (n c : Nat) (w : World) : Calls Tryz.prog 51 #[.slice ar n c] w fun e w' => e = .returned (.bool (decide ((16 : Int) < (n : Int)))) ∧ w' = w := by
 go_enter Tryz.func51, Tryz.ntmps51
 go_wp2_with fail
 go_ret
 exact ⟨rfl, rfl⟩
theorem RG (x : Int) (w : World) : Calls Tryz.prog 52 #[int i64 x] w fun e w' => e = .returned (.bool (decide (x < -1 ∨ 1048576 < x))) ∧ Below w.heap.size w w' := by
 by_cases h1 : x < -1
 ·have hd : decide (x < -1 ∨ 1048576 < x) = true := by simp [h1]
  rw [hd]
  clear hd
  go_enter Tryz.func52, Tryz.ntmps52
  go_wp2_with fail
  go_ret
  exact ⟨rfl, Below.refl _ _⟩
 ·have hd : decide (x < -1 ∨ 1048576 < x) = decide (1048576 < x) := decide_eq_decide.2 (by simp [h1])
  rw [hd]
  clear hd
  go_enter Tryz.func52, Tryz.ntmps52
  go_wp2_with fail
  go_ret
  exact ⟨rfl, Below.refl _ _⟩
end
section
open Go Go.RowKit Go.Deep
def Es (cost : List (List Int)) : Bool := cost.any fun r => decide ((16 : Int) < (r.length : Int))
def Qz (x : Int) : Bool := decide (x < -1 ∨ 1048576 < x)
def GE (m : Nat) (r : List Int) : Bool := decide (r.length ≠ m) || r.any Qz
def Ak (cost : List (List Int)) : Int := if 16 < cost.length ∨ Es cost = true then 2 else if cost.any (GE (AS cost)) = true then 470 else 0
theorem L9 {α : Type} (p : α → Bool) (xs : List α) {i : Nat} (hi : i < xs.length) : (xs.take (i + 1)).any p = ((xs.take i).any p || p xs[i]) := by
 rw [List.take_succ_eq_append_getElem hi, List.any_append]; simp
theorem Mr (cost : List (List Int)) (n : Nat) (hn : cost.length = n) (ao : Option Addr) (c : Nat) (w : World) (hx : IsMat w (.slice ao n c) cost) :
  Calls Tryz.prog 84 #[.slice ao n c, .func (.func 51) #[] #[]] w fun e w' => ∃ r : Int, e = .returned (int i64 r) ∧ decide (0 ≤ r) = Es cost ∧ w' = w := by
 have HX := qh hx; have HN := qh hn
 have hmax : n ≤ maxLen := by have := hx.len; omega
 have hmx : (maxLen : Nat) < 9223372036854775808 := by decide
 clear hx hn
 go_enter Tryz.func84, Tryz.ntmps84
 go_wp2_with fail
 go_loopw [4, 8] (fun rv iv wr => rv = int i64 0 ∧ wr = w ∧ ∃ i : Nat, i ≤ n ∧ iv = int i64 i ∧ Hid (Es (cost.take i) = false)) (fun _ iv _ => n - (intOf iv).toNat)
 case atStart => exact ⟨rfl, rfl, 0, Nat.zero_le _, rfl, by rw [List.take_zero]; rfl⟩
 case round =>
  obtain ⟨rfl, rfl, i, hin, rfl, hT⟩ := hrel
  by_cases hi : i < n
  ·have hil : i < cost.length := by rw [HN.out]; exact hi
   obtain ⟨b1, o1, hp1, ar, cr, hcell, _, hb1⟩ := HX.out.at_ hil
   subst hp1
   have hi' : (i : Int) < (n : Int) := by omega
   have htake := L9 (fun r : List Int => decide ((16 : Int) < (r.length : Int))) cost hil
   have hget : cost[i]?.getD [] = cost[i] := by rw [qg hil]; rfl
   rw [hget] at hcell
   have HT2 := qh htake
   clear htake hb1 hget
   generalize hrow : cost[i] = row at *
   have hcall := PK ar row.length cr wr
   have HCALL := qh hcall; have HROW := qh hrow
   clear hcall hrow
   go_wp2_with fail
   refine HCALL.out.mono ?_
   rintro e W1 ⟨rfl, hw⟩
   rw [hw]
   clear HCALL hcell hw W1
   by_cases hp : (16 : Int) < (row.length : Int)
   ·have HP := qh (show Es cost = true from List.any_eq_true.2 ⟨row, HROW.out ▸ List.getElem_mem hil, by simpa using hp⟩)
    have hd : decide ((16 : Int) < (row.length : Int)) = true := decide_eq_true hp
    clear hp
    go_wp2_with fail
    go_ret
    exact ⟨_, rfl, by rw [HP.out]; simp, rfl⟩
   ·have HT3 := qh (show Es (cost.take (i + 1)) = false by unfold Es at hT ⊢; rw [HT2.out, hT.out]; simp [hp])
    have hd : decide ((16 : Int) < (row.length : Int)) = false := decide_eq_false hp
    clear hp HT2 hT
    go_wp2_with fail
    go_roundw
    case rel => exact ⟨by first | rfl | trivial, by first | rfl | trivial, i + 1, by omega, by go_num, HT3⟩
    case measure => simp [intOf]; omega
  ·obtain rfl : i = n := by omega
   have hi' : ¬ (i : Int) < (i : Int) := by omega
   go_wp2_with fail
   go_ret
   refine ⟨_, rfl, ?_, rfl⟩
   have := hT.out
   rw [List.take_of_length_le (by rw [HN.out]; exact qn _)] at this
   rw [this]; rfl
theorem ID (cost : List (List Int)) (n : Nat) (hn : cost.length = n) (ao : Option Addr) (c : Nat) (w : World) (hx : IsMat w (.slice ao n c) cost) :
  Calls Tryz.prog 50 #[.slice ao n c, .func (.func 51) #[] #[]] w fun e w' => e = .returned (.bool (Es cost)) ∧ w' = w := by
 have h := qh (Mr cost n hn ao c w hx)
 clear hx hn
 go_enter Tryz.func50, Tryz.ntmps50
 go_wp2_with fail
 refine h.out.mono ?_
 rintro e w1 ⟨r, rfl, hr, hw⟩
 rw [hw]
 have HR := qh hr
 clear hr h hw w1
 go_wp2_with fail
 go_ret
 exact ⟨by show Ending.returned (.bool (decide (0 ≤ r))) = _; rw [HR.out], rfl⟩
theorem BK {v : Value} {cost : List (List Int)} (w : World) (h : IsMat w v cost) : Calls Tryz.prog 22 #[v] w fun e w' => e = .returned (int i64 (Ak cost)) ∧ Below w.heap.size w w' := by
 obtain ⟨ao, c, rfl⟩ := h.form
 have hl := ID cost cost.length rfl ao c w h
 have hw := D1 w h
 have HL := qh hl; have HH := qh h
 have hwi := fun (W : World) (hb : Below w.heap.size w W) => D1 W (h.below hb (qn _))
 have HW := qh hwi
 have hmax := h.len
 have hmx : (maxLen : Nat) < 9223372036854775808 := by decide
 have HCE := qh (show Ak cost = if 16 < cost.length ∨ Es cost = true then 2 else if cost.any (GE (AS cost)) = true then 470 else 0 from rfl)
 clear hl hw hwi h
 generalize Ak cost = ce at *
 generalize hn : cost.length = n at *
 have HN := qh hn
 clear hn
 by_cases h16 : (16 : Int) < (n : Int)
 ·have hce : ce = 2 := by rw [HCE.out, if_pos (Or.inl (by omega))]
  subst hce
  go_enter Tryz.func22, Tryz.ntmps22
  go_wp2_with fail
  go_ret
  exact ⟨rfl, Below.refl _ _⟩
 ·go_enter Tryz.func22, Tryz.ntmps22
  go_wp2_with fail
  refine HL.out.mono ?_
  rintro e W1 ⟨rfl, hw1⟩
  rw [hw1]
  clear hw1 W1 HL
  cases hlb : Es cost with
  | true =>
   have hce : ce = 2 := by rw [HCE.out, if_pos (Or.inr hlb)]
   subst hce
   clear hlb
   go_wp2_with fail
   go_ret
   exact ⟨rfl, Below.refl _ _⟩
  | false =>
   have HCE2 := qh (show ce = if cost.any (GE (AS cost)) = true then 470 else 0 by rw [HCE.out, if_neg (by rw [hlb]; simp; omega)])
   clear hlb HCE
   go_wp2_with fail
   go_loopw [2, 15] (fun rv iv wr => rv = int i64 0 ∧ ∃ i : Nat, i ≤ n ∧ iv = int i64 i ∧ Hid (Below w.heap.size w wr) ∧ Hid ((cost.take i).any (GE (AS cost)) = false)) (fun _ iv _ => n - (intOf iv).toNat)
   case atStart => exact ⟨rfl, 0, Nat.zero_le _, rfl, qh (Below.refl _ _), by rw [List.take_zero]; rfl⟩
   case round =>
    obtain ⟨rfl, i, hin, rfl, hB, hT⟩ := hrel
    by_cases hi : i < n
    ·have hil : i < cost.length := by rw [HN.out]; exact hi
     obtain ⟨b1, o1, hp1, ar, cr, hcell, hrow0, hb1⟩ := (HH.out.below hB.out (qn _)).at_ hil
     subst hp1
     have hi' : (i : Int) < (n : Int) := by omega
     have htake := L9 (GE (AS cost)) cost hil
     have hget : cost[i]?.getD [] = cost[i] := by rw [qg hil]; rfl
     rw [hget] at hcell hrow0
     have HT2 := qh htake
     clear htake hb1 hget
     generalize hrow : cost[i] = row at *
     have hcw := HW.out wr hB.out
     have hcc := fun (W : World) (hb : Below wr.heap.size wr W) => Dt Qz 52 #[] (enters_of Tryz.func52 (by kernel_rfl) rfl) row row.length rfl ar cr W (hrow0.below hb (qn _)) (fun x _ W2 _ => RG x W2)
     have HCW := qh hcw; have HROW := qh hrow; have HCC := qh hcc
     clear hcw hrow hrow0 hcc
     go_wp2_with fail
     refine HCW.out.mono ?_
     rintro e W1 ⟨rfl, hw⟩
     rw [hw]
     clear HCW hcell hw W1
     by_cases hp : row.length = AS cost
     ·have hd : ((row.length : Int) != (AS cost : Int)) = false := by simp [hp]
      have HPL := qh hp
      clear hp
      go_wp2_with fail
      refine (HCC.out wr (Below.refl _ _)).mono ?_
      rintro e W1 ⟨rfl, hb1⟩
      have HB1 := qh (hB.out.trans (hb1.mono hB.out.size))
      clear HCC hb1 hB
      cases ho : row.any Qz with
      | true =>
       have hce : ce = 470 := by
        rw [HCE2.out, if_pos]
        refine List.any_eq_true.2 ⟨row, HROW.out ▸ List.getElem_mem hil, ?_⟩
        unfold GE; rw [ho]; simp
       subst hce
       clear ho
       go_wp2_with fail
       go_ret
       exact ⟨rfl, HB1.out⟩
      | false =>
       have HT3 := qh (show (cost.take (i + 1)).any (GE (AS cost)) = false by rw [HT2.out, hT.out]; unfold GE; rw [ho]; simp [HPL.out])
       clear ho HT2 hT
       go_wp2_with fail
       go_roundw
       case rel => exact ⟨by first | rfl | trivial, i + 1, by omega, by go_num, HB1, HT3⟩
       case measure => simp [intOf]; omega
     ·have hd : ((row.length : Int) != (AS cost : Int)) = true := by simp; omega
      have hce : ce = 470 := by
       rw [HCE2.out, if_pos]
       refine List.any_eq_true.2 ⟨row, HROW.out ▸ List.getElem_mem hil, ?_⟩
       unfold GE; simp [hp]
      subst hce
      clear hp
      go_wp2_with fail
      go_ret
      exact ⟨rfl, hB.out⟩
    ·obtain rfl : i = n := by omega
     have hi' : ¬ (i : Int) < (i : Int) := by omega
     have hce : ce = 0 := by
      rw [HCE2.out, if_neg]
      have := hT.out
      rw [List.take_of_length_le (by rw [HN.out]; exact qn _)] at this
      rw [this]; simp
     subst hce
     go_wp2_with fail
     go_ret
     exact ⟨rfl, hB.out⟩
end
section
open Go Go.RowKit Go.Deep
theorem JK {F : Fence} (hd : F.depth = none) (k : Nat) : F.room k := fun d h => by rw [hd] at h; cases h
theorem RoundIn.anyDepth {F : Fence} (hd : F.depth = none) {m m' : Nat} {P : Program} {l : Nat} {f : FuncId} {tmps : Array Value} {assign body : Code} {w : World} {R : Ending → World → Prop}
  (h : RoundIn F m P l f tmps assign body w R) : RoundIn F m' P l f tmps assign body w R := ⟨h.1, fun c cs _ => h.2 c cs (JK hd _)⟩
theorem YieldAt.anyDepth {F : Fence} (hd : F.depth = none) {m : Nat} (m' : Nat) {P : Program} {l : Nat} {args : Array Value} {W : World} {R : Ending → World → Prop} (h : YieldAt F m P l args W R) : YieldAt F m' P l args W R := by
 obtain ⟨fn, tmps, assign, body, hy, hR⟩ := h
 exact ⟨fn, tmps, assign, body, hy, RoundIn.anyDepth hd hR⟩
def Bg (l : List Nat) : List Int := l.map Int.ofNat
theorem Ci (l : List Nat) : (Bg l).length = l.length := by unfold Bg; simp
theorem Id : ∀ xs : List Int, As xs = xs.flatMap AX
 | [] => rfl
 | x :: xs => by
  have := Id xs
  unfold As at this ⊢
  rw [List.map_cons, List.flatMap_cons, this]; rfl
theorem Cp {w : World} {B n : Nat} {v : Value} {xs : List Int} (h : w.ownsRow B 3 1 v n (As xs)) (hn : xs.length = n) : IsRow AX 1 w v xs := by
 rcases h.2 with ⟨rfl, h1⟩ | ⟨g, cap, cur, rfl, _, hg, hc, hm, _, ht⟩
 ·subst h1
  obtain rfl : xs = [] := List.length_eq_zero_iff.1 hn
  exact IsRow.nil
 ·refine ⟨_, cap, by rw [hn], by omega, Or.inr ⟨g, 0, rfl, fun i x hx j u hu => ?_, (qs.1 hg).1⟩⟩
  cases j with
  | succ j => simp [AX] at hu
  | zero =>
   simp only [AX, List.getElem?_cons_zero, Option.some.injEq] at hu
   subst hu
   refine A0 hg _ ?_
   have h2 : (As xs)[i]? = some (int i64 x) := by unfold As; rw [List.getElem?_map, hx]; rfl
   rw [← ht, List.getElem?_take] at h2
   split at h2
   ·rw [Nat.zero_add, Nat.mul_one, Nat.add_zero, ← Array.getElem?_toList]; exact h2
   ·cases h2
theorem QE {w w' : World} {B R e s n : Nat} {v : Value} {xs : List Value} (h : w.ownsRow B e s v n xs) (hb : ButOne R w w') (hR : R < B) : w'.ownsRow B e s v n xs := by
 refine ⟨h.1, ?_⟩
 rcases h.2 with q | ⟨g, cap, cur, e1, h1, hg, h2⟩
 ·exact Or.inl q
 ·exact Or.inr ⟨g, cap, cur, e1, h1, (hb.block g (qs.1 hg).1 (by omega)).trans hg, h2⟩
structure ExtW (R kB yB nB eB lp n k : Nat) (W : World) : Prop where
 bk : W.heap[kB]? = some (.cells #[int i64 k] 3 (0, 0))
 by_ : W.heap[yB]? = some (.cells #[.func (.yield lp) #[] #[]] 102 (0, 0))
 bn : W.heap[nB]? = some (.cells #[int i64 n] 3 (0, 0))
 be : W.heap[eB]? = some (.cells #[.func (.func 87) #[] #[.pointer (some ⟨kB, 0, none⟩), .pointer (some ⟨yB, 0, none⟩), .pointer (some ⟨nB, 0, none⟩), .pointer (some ⟨eB, 0, none⟩)]] 102 (0, 0))
 ne : kB ≠ R ∧ yB ≠ R ∧ nB ≠ R ∧ R < eB
theorem ExtW.keep {R kB yB nB eB lp n k : Nat} {W W' : World} (h : ExtW R kB yB nB eB lp n k W) (hb : ButOne R W W') : ExtW R kB yB nB eB lp n k W' :=
 ⟨(hb.block _ (qs.1 h.bk).1 h.ne.1).trans h.bk, (hb.block _ (qs.1 h.by_).1 h.ne.2.1).trans h.by_, (hb.block _ (qs.1 h.bn).1 h.ne.2.2.1).trans h.bn, (hb.block _ (qs.1 h.be).1 (by have := h.ne; omega)).trans h.be, h.ne⟩
def ExtP (n R : Nat) (J Jx : List (Value × List Nat) → World → Prop) (pre : List (Value × List Nat)) (L : List (List Nat)) (W : World) (e : Ending) (W' : World) : Prop :=
 (e = .returned (.bool true) ∧ ∃ xs, xs.map (·.2) = L ∧ J (pre ++ xs) W' ∧ ButOne R W W') ∨ (e = .returned (.bool false) ∧ ∃ xs, xs.map (·.2) <+: L ∧ Jx (pre ++ xs) W' ∧ Mm R W W')
def QA (R : Nat) (J Jx : List (Value × List Nat) → World → Prop) (pre : List (Value × List Nat)) (x : Value × List Nat) (W1 : World) (e : Ending) (W' : World) : Prop :=
 (e = .returned (.bool true) ∧ J (pre ++ [x]) W' ∧ ButOne R W1 W') ∨ (e = .returned (.bool false) ∧ Jx (pre ++ [x]) W' ∧ Mm R W1 W')
def GU (B n k : Nat) (x : Value × List Nat) (W : World) : Prop := IsRow AX 1 W x.1 (Bg x.2) ∧ x.2.length = k ∧ Inc n x.2 ∧ ∀ g, x.1.ownBlock = some g → B ≤ g
section
attribute [local go_sem] Oper.semAt_some
theorem QK (lp R kB yB nB eB n k B : Nat) (hk : k ≤ n) (hn : n ≤ 16) (J Jx : List (Value × List Nat) → World → Prop)
  (hY : ∀ pre (x : Value × List Nat) W1, J pre W1 → GU B n k x W1 → ∀ m, YieldAt Fence.wide m Tryz.prog lp #[x.1] W1 (QA R J Jx pre x W1))
  (ls : List Nat) (v : Value) (pre : List (Value × List Nat)) (W : World) (hls : ls.length = k) (hinc : Inc n ls) (hW : ExtW R kB yB nB eB lp n k W) (hj : J pre W) (ho : W.ownsRow B 3 1 v ls.length (As (Bg ls))) :
  Calls Tryz.prog 87 #[v, .pointer (some ⟨kB, 0, none⟩), .pointer (some ⟨yB, 0, none⟩), .pointer (some ⟨nB, 0, none⟩), .pointer (some ⟨eB, 0, none⟩)] W (ExtP n R J Jx pre (ext n 0 ls) W) := by
 have hrow := Cp ho (Ci ls)
 have hog : ∀ g, v.ownBlock = some g → B ≤ g := by
  intro g hg
  rcases ho.2 with ⟨q, _⟩ | ⟨g', cap, cur, q, h1, _⟩
  ·subst q; cases hg
  ·subst q; cases hg; exact h1
 obtain ⟨fn, tmps, assign, body, hy, hR⟩ := hY pre (v, ls) W hj ⟨hrow, hls, hinc, hog⟩ 8
 have hrow2 := hrow
 obtain ⟨ao, c, e, _⟩ := hrow2
 rw [Ci, hls] at e
 subst e
 have ck := A0 hW.bk 0 rfl
 have cy := A0 hW.by_ 0 rfl
 have HR := qh hR
 clear hrow hog hY ho hW hj hR
 refine (callsIn_wide (n := 10)).1 ?_
 refine callsIn_of_wp Tryz.func87 rfl trivial ?_ rfl
 simp only [Tryz.ntmps87, List.size_toArray, List.length_cons, List.length_nil, Nat.reduceAdd, Nat.reduceSub, Array.replicate_succ, Array.replicate_zero, List.push_toArray, List.append_toArray, List.nil_append, List.cons_append]
 gi_wp2_with fail
 refine RoundIn.mono (RoundIn.anyDepth rfl HR.out) ?_
 rintro e W' (⟨rfl, hJ', hk'⟩ | ⟨rfl, hJx', hP'⟩)
 ·have H1 := qh hJ'; have H2 := qh hk'
  clear hJ' hk' HR
  gi_wp2_with fail
  go_ret
  exact Or.inl ⟨rfl, [(_, ls)], rfl, H1.out, H2.out⟩
 ·have H1 := qh hJx'; have H2 := qh hP'
  clear hJx' hP' HR
  gi_wp2_with fail
  go_ret
  exact Or.inr ⟨rfl, [(_, ls)], ⟨[], rfl⟩, H1.out, H2.out⟩
end
end
section
open Go Go.RowKit Go.Deep
def Kr (cost : List (List Int)) (j : Nat) (i : Int) : Bool := decide (0 ≤ cI cost i.toNat j)
theorem Pn (cost : List (List Int)) (n m i j : Nat) (hl : cost.length = n) (hrl : ∀ r ∈ cost, r.length = m) (hn : n ≤ 16) (hm : m ≤ 16) (hi : i < n) (hj : j < m) (aoC : Option Addr) (ccC kC k8 : Nat) (w : World) (h : IsMat w (.slice aoC n ccC) cost) (hC : w.cell? ⟨kC, 0, none⟩ = some (.slice aoC n ccC)) (h8 : w.cell? ⟨k8, 0, none⟩ = some (int i64 j)) :
  Calls Tryz.prog 57 #[int i64 i, .pointer (some ⟨kC, 0, none⟩), .pointer (some ⟨k8, 0, none⟩)] w fun e w' => e = .returned (.bool (Kr cost j i)) ∧ Below w.heap.size w w' := by
 obtain ⟨b1, o1, rfl, aR, cR, cH, hrow, _⟩ := h.at_ (i := i) (by omega)
 have hr2 : (cost[i]?.getD []).length = m := hrl _ (by rw [qg (by omega)]; exact List.getElem_mem _)
 rw [hr2] at cH hrow
 obtain ⟨b2, o2, rfl, cX, _⟩ := hrow.int (j := j) (by omega)
 have hp : Kr cost j i = decide (0 ≤ gi (cost[i]?.getD []) j) := rfl
 rw [hp]
 clear hp hrow hrl hr2 h hl
 generalize gi (cost[i]?.getD []) j = x at *
 have hi' : (i : Int) < (n : Int) := by omega
 have hj' : (j : Int) < (m : Int) := by omega
 go_enter Tryz.func57, Tryz.ntmps57
 go_wp2_with fail
 go_quiet (fail)
 go_wp2_with fail
 go_ret
 exact ⟨rfl, ⟨rfl, rfl, rfl, qn _, fun _ _ => rfl⟩⟩
end
end Go.Proofs.YtggcbblikgankaaGreatDoor
