/- The walk of the statement: part 4. -/
import Derived.Test.YtggcbblikgankaaDoorYX22p3
import Derived.Test.YtggcbblikgankaaDoorZ29
set_option linter.unusedVariables false
set_option linter.unusedSimpArgs false
section
/- OptionsWeaker: the law's contract. -/
namespace Go.Proofs.YtggcbblikgankaaDoor
open Go Go.RowKit

set_option maxRecDepth 100000 in
set_option maxHeartbeats 8000000 in
theorem weak7_any (k : Wrk) (b : Bod) (hbn : b.name.length ≤ maxLen) (n : Nat) (hn : n < 65536) (cs : List Cap) (ao : Option Addr) (cc : Nat) (ws : Array Value) (w : World) (hE : Env w) (hz2 : 2 ≤ w.heap.size) (hW : WkAt k ws w) (hcs : IsRow encCap 3 w (.slice ao cs.length cc) cs) :
    Calls Tryd.prog 7 #[.agg ws, .int .u16 n, bodV b, .slice ao cs.length cc] w (trueP w) := by
  go_enter Tryd.func7, Tryd.ntmps7
  refine pick_7 k b n hn ws _ w hE hz2 hW _ (withLast 1 part7n3 (withLast 2 part7n4 (withLast 1 part7n6 (withLast 2 part7n7 part7n9)))) ?_
  intro w3 K _ _ _ _ _ _ _ _ _ _ _ _ _ _ _ _ _ _ _ _ _ _ _ _ _ _ _ _ _ _ _ _ _ _ _ _ _ _ _ _ _ _ _ _ _ _ _ _ _ _ _ _ _ _ _ _ _ _ _ _ _ _ _ _ _ _ _ _ _ _ _ _ _ _ _ _ _ _ _ _ _ _ _ _ _ _ _ _ _ _ _ _ _ _ _ _ _ _ _ _ _ _ _ _ _ _ _ _ _ _ _ _ _ _ _ _ _ _ _ _ B3 g0 g1 g2 hKg
  have hA3 : w.heap.size < w3.heap.size := (Array.getElem?_eq_some_iff.1 g0).1
  have hA31 : w.heap.size + 1 < w3.heap.size := (Array.getElem?_eq_some_iff.1 g1).1
  have hK3 : K < w3.heap.size := (Array.getElem?_eq_some_iff.1 g2).1
  refine weak7_guards k _ ws w.heap.size K ao cs.length cc w3 (hE.below B3) (hW.below B3 (Nat.le_refl _)) g0 _ _ _ _ _ _ _ _ _ _ _ _ _ _ _ _ _ _ _ _ _ _ _ _ _ _ _ _ _ _ _ _ _ _ _ _ _ _ _ _ _ _ _ _ _ _ _ _ _ _ _ _ _ _ _ _ _ _ _ _ _ _ _ _ _ _ _ _ _ _ _ _ _ _ _ _ _ _ _ _ _ _ _ _ _ _ _ _ _ _ _ _ _ _ _ _ _ _ _ _ _ _ _ _ _ _ _ _ _ _ _ _ _ _ _ _ _ _ _ _ _ (withLast 2 part7n4 (withLast 1 part7n6 (withLast 2 part7n7 part7n9))) ?_ ?_
  · intro w' hb
    exact ⟨rfl, B3.trans (hb.mono B3.size)⟩
  intro hok hk w4 _ _ _ _ _ _ _ _ _ _ _ _ _ _ _ _ _ _ _ _ _ _ _ _ _ _ _ _ _ _ _ _ _ _ _ _ _ _ _ _ _ _ _ _ _ _ _ _ _ _ _ _ _ _ _ _ _ _ _ _ _ _ _ _ _ _ _ _ _ _ _ _ _ _ _ _ _ _ _ _ _ _ _ _ _ _ _ _ _ _ _ _ _ _ _ _ _ _ _ _ _ _ _ _ _ _ _ _ _ _ _ _ _ _ _ _ _ _ _ _ _ b4
  have hne : k.signs ≠ [] := of_decide_eq_true hok
  have hs := pick_mem hne n
  have g2 : w3.heap[K]? = some (.cells (sgnA (pickS k.signs n)) 41 (0, 0)) := by rw [g2]; unfold pickA; rw [if_neg hne]
  generalize pickS k.signs n = s at *
  have B4 := B3.trans (b4.mono B3.size)
  have g0 := (b4.block _ hA3).trans g0
  have g1 := (b4.block _ hA31).trans g1
  have g2 := (b4.block _ hK3).trans g2
  have hA4 := Nat.lt_of_lt_of_le hA3 b4.size
  have hA41 := Nat.lt_of_lt_of_le hA31 b4.size
  have hK4 := Nat.lt_of_lt_of_le hK3 b4.size
  clear b4 B3 hA3 hA31 hK3 hok hne hKg
  refine weak7_all b hbn cs w.heap.size K ao cs.length cc rfl w4 (hcs.below B4 (Nat.le_refl _)) g1 _ _ _ _ _ _ _ _ _ _ _ _ _ _ _ _ _ _ _ _ _ _ _ _ _ _ _ _ _ _ _ _ _ _ _ _ _ _ _ _ _ _ _ _ _ _ _ _ _ _ _ _ _ _ _ _ _ _ _ _ _ _ _ _ _ _ _ _ _ _ _ _ _ _ _ _ _ _ _ _ _ _ _ _ _ _ _ _ _ _ _ _ _ _ _ _ _ _ _ _ _ _ _ _ _ _ _ _ _ _ _ _ _ _ _ _ _ _ _ _ _ _ (withLast 1 part7n6 (withLast 2 part7n7 part7n9)) ?_ ?_
  · intro w' hb
    exact ⟨rfl, B4.trans (hb.mono B4.size)⟩
  intro a hle ha hbo hnm w5 G _ _ _ _ _ _ _ _ _ _ _ _ _ _ _ _ _ _ _ _ _ _ _ _ _ _ _ _ _ _ _ _ _ _ _ _ _ _ _ _ _ _ _ _ _ _ _ _ _ _ _ _ _ _ _ _ _ _ _ _ _ _ _ _ _ _ _ _ _ _ _ _ _ _ _ _ _ _ _ _ _ _ _ _ _ _ _ _ _ _ _ _ _ _ _ _ _ _ _ _ _ _ _ _ _ _ _ _ _ _ _ _ _ _ _ _ _ _ _ _ b5 gG hG
  have han : a.name.length ≤ maxLen := by rw [hnm]; exact hbn
  have B5 := B4.trans (b5.mono B4.size)
  have g0 := (b5.block _ hA4).trans g0
  have g1 := (b5.block _ hA41).trans g1
  have g2 := (b5.block _ hK4).trans g2
  have hA5 := Nat.lt_of_lt_of_le hA4 b5.size
  have hA51 := Nat.lt_of_lt_of_le hA41 b5.size
  have hK5 := Nat.lt_of_lt_of_le hK4 b5.size
  have hG5 : G < w5.heap.size := (Array.getElem?_eq_some_iff.1 gG).1
  clear b5 B4 hA4 hA41 hK4 hG
  refine weak7_weaker a b han hbn ha hbo hle w.heap.size K G w5 g1 gG _ _ _ _ _ _ _ _ _ _ _ _ _ _ _ _ _ _ _ _ _ _ _ _ _ _ _ _ _ _ _ _ _ _ _ _ _ _ _ _ _ _ _ _ _ _ _ _ _ _ _ _ _ _ _ _ _ _ _ _ _ _ _ _ _ _ _ _ _ _ _ _ _ _ _ _ _ _ _ _ _ _ _ _ _ _ _ _ _ _ _ _ _ _ _ _ _ _ _ _ _ _ _ _ _ _ _ _ _ _ _ _ _ _ _ _ _ _ _ _ _ (withLast 2 part7n7 part7n9) ?_
  intro w6 _ _ _ _ _ _ _ _ _ _ _ _ _ _ _ _ _ _ _ _ _ _ _ _ _ _ _ _ _ _ _ _ _ _ _ _ _ _ _ _ _ _ _ _ _ _ _ _ _ _ _ _ _ _ _ _ _ _ _ _ _ _ _ _ _ _ _ _ _ _ _ _ _ _ _ _ _ _ _ _ _ _ _ _ _ _ _ _ _ _ _ _ _ _ _ _ _ _ _ _ _ _ _ _ _ _ _ _ _ _ _ _ _ _ _ _ _ _ _ b6
  have B6 := B5.trans (b6.mono B5.size)
  have g0 := (b6.block _ hA5).trans g0
  have g1 := (b6.block _ hA51).trans g1
  have g2 := (b6.block _ hK5).trans g2
  have gG := (b6.block _ hG5).trans gG
  have hK6 := Nat.lt_of_lt_of_le hK5 b6.size
  clear b6 B5 hA5 hA51 hK5 hG5
  refine weak7_opts k s a b han hbn ws w.heap.size K G w6 (hE.below B6) (Nat.le_trans hz2 B6.size) (hW.below B6 (Nat.le_refl _)) g0 g1 g2 gG hk hs ha hbo _ _ _ _ _ _ _ _ _ _ _ _ _ _ _ _ _ _ _ _ _ _ _ _ _ _ _ _ _ _ _ _ _ _ _ _ _ _ _ _ _ _ _ _ _ _ _ _ _ _ _ _ _ _ _ _ _ _ _ _ _ _ _ _ _ _ _ _ _ _ _ _ _ _ _ _ _ _ _ _ _ _ _ _ _ _ _ _ _ _ _ _ _ _ _ _ _ _ _ _ _ _ _ _ _ _ _ _ _ _ _ _ _ _ _ _ _ _ _ _ part7n9 ?_
  intro w7 vx vy _ _ _ _ _ _ _ _ _ _ _ _ _ _ _ _ _ _ _ _ _ _ _ _ _ _ _ _ _ _ _ _ _ _ _ _ _ _ _ _ _ _ _ _ _ _ _ _ _ _ _ _ _ _ _ _ _ _ _ _ _ _ _ _ _ _ _ _ _ _ _ _ _ _ _ _ _ _ _ _ _ _ _ _ _ _ _ _ _ _ _ _ _ _ _ _ _ _ _ _ _ _ _ _ _ _ _ _ _ _ _ _ _ _ _ b7 rx ry
  have g2 := (b7.block _ hK6).trans g2
  obtain ⟨f1, f2⟩ := weak_facts (k := k) (s := s) hle
  have hlen : (optL k s b).length ≤ 2000 := by
    have := doL_len k s hbo
    unfold optL dropL
    rw [List.length_append]
    split <;> simp <;> omega
  obtain ⟨ax, cx, rfl, hmx, hx2⟩ := rx
  obtain ⟨ay, cy, rfl, hmy, hy2⟩ := ry
  exact weak7_end s (optL k s a) (optL k s b) _ _ rfl rfl f1 hlen f2 ax ay cx cy K w w7 (B6.trans (b7.mono B6.size)) g2 ⟨ax, cx, rfl, hmx, hx2⟩ ⟨ay, cy, rfl, hmy, hy2⟩ _ _ _ _ _ _ _ _ _ _ _ _ _ _ _ _ _ _ _ _ _ _ _ _ _ _ _ _ _ _ _ _ _ _ _ _ _ _ _ _ _ _ _ _ _ _ _ _ _ _ _ _ _ _ _ _ _ _ _ _ _ _ _ _ _ _ _ _ _ _ _ _ _ _ _ _ _ _ _ _ _ _ _ _ _ _ _ _ _ _ _ _ _ _ _ _ _ _ _ _ _ _ _ _ _ _ _ _ _ _ _ _ _ _ _ _ _ _
end Go.Proofs.YtggcbblikgankaaDoor
end
