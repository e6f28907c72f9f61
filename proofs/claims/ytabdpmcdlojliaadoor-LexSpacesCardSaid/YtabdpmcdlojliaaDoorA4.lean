/- The contract of (*lex.scanner).add. -/
import Derived.Test.YtabdpmcdlojliaaDoorA3
import Derived.Deep.RegionLaw
import Derived.OneCell
namespace Go.Proofs.YtabdpmcdlojliaaDoor
open Go.RowKit

theorem step_append_own {P : Program} {ops : Array Oper} {o : Oper} {a : Act} {w : World} {K : Act → World → Prop} {Q : Exit → Act → World → Prop} {E : Prop} (hgd : o.guard = none) (s x : Operand) (t : TypeId)
    (ho : o.op = .call { callee := .builtin .append, args := #[s, x], argTypes := #[t, t] })
    (base : Nat) (e : TypeId) (i : TypeInfo) (z : Value) (size bytes : Nat) (ht : P.underlying t = some (.slice e)) (hi : P.info? e = some i) (hz : i.zero = some z)
    (hsize : i.size = size) (hby : i.bytes = bytes) (hzs : z.cells.size = size) (hsz : 0 < size)
    (v : Value) (n : Nat) (xs : List Value) (hs : a.eval s = v) (hown : w.ownsRow base e size v n xs)
    (ad : Addr) (m c : Nat) (news : List Value) (hx : a.eval x = .slice (some ad) m c) (hl : news.length = m * size) (hnews : ∀ j u, news[j]? = some u → w.cell? (ad.add j) = some u) (h1 : ∀ u ∈ news, u.oneCell' = true)
    (h63 : n + m ≤ maxLen) (hbytes : (n + m) * bytes ≤ 140737488355328) (hbase : base ≤ w.heap.size)
    (h : ∀ v' w', w'.ownsRow base e size v' (n + m) (xs ++ news) → w.grownBy w' v.ownBlock → K (a.put o.dst v') w') :
    if Region.wanted o (yielded ops a.tmps) = true then Oper.wp P o a w K Q else E := by
  have hw : Region.wanted o (yielded ops a.tmps) = true := by simp [Region.wanted, hgd]
  rw [if_pos hw]
  exact wp_append_own w s x t ho base e i z size bytes ht hi hz hsize hby hzs hsz v n xs hs hown ad m c news hx hl hnews h1 h63 hbytes hbase fun v' w' h2 h3 _ => h v' w' h2 h3

theorem Tryd.info35 : (Tryd.prog.info? 35).map (fun i => (i.zero, i.size, i.bytes)) = some (some (.agg #[.int .i64 0, .string ⟨#[]⟩, .int .i64 0, .int .i64 0]), 4, 40) := by kernel_rfl

theorem cell_of_block {w : World} {S : Nat} {cs : Array Value} {t : TypeId} (h : w.heap[S]? = some (.cells cs t (0, 0))) (i : Nat) (hi : i < cs.size) : w.cell? ⟨S, i, none⟩ = some cs[i] := by
  simp [World.cell?, h, hi]
theorem free_of_block {w : World} {S : Nat} {cs : Array Value} {t : TypeId} (h : w.heap[S]? = some (.cells cs t (0, 0))) (i : Nat) : w.frozen? ⟨S, i, none⟩ = false := by
  simp [World.frozen?, h]

theorem ownsRow_belowAll {w w' : World} {base : Nat} {e : TypeId} {size : Nat} {v : Value} {n : Nat} {xs : List Value} (h : w.ownsRow base e size v n xs) (hb : Below w.heap.size w w') : w'.ownsRow base e size v n xs :=
  h.kept (row := none) ⟨hb.os, hb.tape, hb.output, hb.size, fun k hk _ => hb.block k hk⟩ (by cases hv : v.ownBlock <;> simp)
/-- A store into a block that is not the row's. -/
theorem ownsRow_setCell_ne {w : World} {base : Nat} {e : TypeId} {size : Nat} {v : Value} {n : Nat} {xs : List Value} (h : w.ownsRow base e size v n xs) {a : Addr} (ha : v.ownBlock ≠ some a.block) (u : Value) : (w.setCell a u).ownsRow base e size v n xs :=
  h.kept (row := some a.block) ⟨rfl, rfl, rfl, by simp [World.setCell], fun k _ hk => Below.heap_setCell _ _ _ _ (fun e => hk (by rw [e]))⟩ (Or.inr ha)
theorem heap_setCell_same {w : World} {S : Nat} {cs : Array Value} {t : TypeId} (h : w.heap[S]? = some (.cells cs t (0, 0))) (i : Nat) (u : Value) : (w.setCell ⟨S, i, none⟩ u).heap[S]? = some (.cells (cs.setIfInBounds i u) t (0, 0)) := by
  simp [World.setCell, Array.getElem?_modify, h]

theorem news_cells {w : World} {g : Nat} {cs : Array Value} {t : TypeId} (h : w.heap[g]? = some (.cells cs t (0, 0))) : ∀ j u, cs.toList[j]? = some u → w.cell? ((⟨g, 0, none⟩ : Addr).add j) = some u := by
  intro j u hj
  have hadd : (⟨g, 0, none⟩ : Addr).add j = ⟨g, j, none⟩ := by unfold Addr.add; split <;> simp_all
  rw [hadd]; simp [World.cell?, h]; simpa using hj
theorem own_some {w : World} {base : Nat} {e : TypeId} {size : Nat} {v : Value} {n : Nat} {xs : List Value} (h : w.ownsRow base e size v (n + 1) xs) : ∃ g cap, v = .slice (some ⟨g, 0, none⟩) (n + 1) cap := by
  rcases h.2 with ⟨_, h0⟩ | ⟨g, cap, cur, rfl, _⟩
  · omega
  · exact ⟨g, cap, rfl⟩
theorem four_one (a b c d : Value) (ha : a.oneCell' = true) (hb : b.oneCell' = true) (hc : c.oneCell' = true) (hd : d.oneCell' = true) : ∀ u ∈ [a, b, c, d], u.oneCell' = true := by
  intro u hu; simp at hu; rcases hu with rfl | rfl | rfl | rfl <;> assumption

set_option maxHeartbeats 1000000 in
theorem add_ok (S base a n : Nat) (src text tx : ByteArray) (kd nm ps : Int) (v : Value) (xs : List Value) (w : World) (hS : w.heap[S]? = some (.cells #[.string src, .int .i64 a, v] 49 (0, 0)))
    (hown : w.ownsRow base 35 4 v n xs) (hSb : S < base) (hbase : base ≤ w.heap.size) (hv : validT ⟨kd, tx.data.toList, nm, ps⟩ = true) (hs : tx.size ≤ maxLen) (ha : a + text.size ≤ 65536) (hn : n ≤ 65536) :
    Calls Tryd.prog 44 #[.pointer (some ⟨S, 0, none⟩), .string text, .agg #[.int .i64 kd, .string tx, .int .i64 nm, .int .i64 ps]] w fun e w' =>
      e = .returned (.tuple #[]) ∧ ∃ v', w'.heap[S]? = some (.cells #[.string src, .int .i64 (a + text.size : Nat), v'] 49 (0, 0)) ∧ w'.ownsRow base 35 4 v' (n + 1) (xs ++ [.int .i64 kd, .string tx, .int .i64 nm, .int .i64 a]) ∧ Below S w w' := by
  have hSl : S < w.heap.size := by omega
  have HS := Lib.hid hS; clear hS
  have HV := Lib.hid hv; clear hv
  have HO := Lib.hid hown; clear hown
  go_enter Tryd.func44, Tryd.ntmps44
  go_wp2_with fail
  refine (valid_any _ _ _ _ _ hs).mono ?_
  rintro e w1 ⟨rfl, hb1⟩
  have hz1 : w.heap.size + 1 ≤ w1.heap.size := by have := hb1.size; simpa using this
  have hS1 : w1.heap[S]? = some (.cells #[.string src, .int .i64 a, v] 49 (0, 0)) := (hb1.block S (by simp; omega)).trans ((Below.heap_alloc w _ S hSl).trans HS.out)
  have hT1 : w1.heap[w.heap.size]? = some (.cells #[.int .i64 kd, .string tx, .int .i64 nm, .int .i64 ps] 35 (0, 0)) := (hb1.block w.heap.size (by simp)).trans (heap_alloc_new w _)
  have hO1 : w1.ownsRow base 35 4 v n xs := ownsRow_belowAll (HO.out.alloc _) hb1
  have hv1 : v.ownBlock ≠ some w.heap.size := fun e => by have := (HO.out.lt _ e).2; omega
  have hB1 : Below S w w1 := ((Below.refl S w).alloc (by omega) _).trans (hb1.mono (by simp; omega))
  rw [HV.out]
  have c1 := cell_of_block hS1 1 (by simp)
  have t3 := cell_of_block hT1 3 (by simp)
  have g3 := free_of_block hT1 3
  simp at c1 t3
  have HS1 := Lib.hid hS1; clear hS1
  have HT1 := Lib.hid hT1; clear hT1
  have HO1 := Lib.hid hO1; clear hO1
  have HB1 := Lib.hid hB1; clear hB1
  have HV1 := Lib.hid hv1; clear hv1
  clear hb1
  go_wp2_with fail
  clear c1 t3 g3
  have hS2 := (Below.heap_setCell w1 ⟨w.heap.size, 3, none⟩ (.int .i64 a) S (by show S ≠ w.heap.size; omega)).trans HS1.out
  have hT2 := heap_setCell_same HT1.out 3 (.int .i64 a)
  have hO2 := ownsRow_setCell_ne HO1.out (a := ⟨w.heap.size, 3, none⟩) HV1.out (.int .i64 a)
  have hB2 := HB1.out.setCell (p := ⟨w.heap.size, 3, none⟩) (by show S ≤ w.heap.size; omega) (.int .i64 a)
  have hz2 : w.heap.size + 1 ≤ (w1.setCell ⟨w.heap.size, 3, none⟩ (.int .i64 a)).heap.size := by simpa [World.setCell] using hz1
  generalize w1.setCell ⟨w.heap.size, 3, none⟩ (.int .i64 a) = w2 at *
  clear HS1 HT1 HO1 HB1 hz1
  have c1 := cell_of_block hS2 1 (by simp)
  have c2 := cell_of_block hS2 2 (by simp)
  have f1 := free_of_block hS2 1
  have f2 := free_of_block hS2 2
  have t0 := cell_of_block hT2 0 (by simp)
  have t1 := cell_of_block hT2 1 (by simp)
  have t2 := cell_of_block hT2 2 (by simp)
  have t3 := cell_of_block hT2 3 (by simp)
  simp at c1 c2 t0 t1 t2 t3
  have HS2 := Lib.hid hS2; clear hS2
  have HT2 := Lib.hid hT2; clear hT2
  have HO2 := Lib.hid hO2; clear hO2
  have HB2 := Lib.hid hB2; clear hB2
  obtain ⟨i, hi, hz0, hz1, hz2'⟩ := info_parts Tryd.info35
  have HI := Lib.hid hi; clear hi
  have HZ0 := Lib.hid hz0; clear hz0
  have HZ1 := Lib.hid hz1; clear hz1
  have HZ2 := Lib.hid hz2'; clear hz2'
  have hbw : base ≤ w2.heap.size := by omega
  have hS2l : S < w2.heap.size := by omega
  go_region_law (refine step_append_own rfl (.tmp 23) (.tmp 25) 23 rfl base 35 i _ 4 40 Tryd.underlying23 HI.out HZ0.out HZ1.out HZ2.out rfl (by decide) v n xs (by simp [Act.eval]) (HO2.out.alloc _) ⟨w2.heap.size, 0, none⟩ 1 1 [.int .i64 kd, .string tx, .int .i64 nm, .int .i64 a] (by simp [Act.eval]) rfl (by exact news_cells (heap_alloc_new w2 (.cells #[.int .i64 kd, .string tx, .int .i64 nm, .int .i64 a] 35))) (four_one _ _ _ _ rfl rfl rfl rfl) (by unfold maxLen; omega) (by omega) (by simp; omega) ?_; intro v' w3 hO3 hg3; obtain ⟨g', cap', rfl⟩ := own_some hO3; have hS3 : w3.heap[S]? = some (.cells #[.string src, .int .i64 a, v] 49 (0, 0)) := (hg3.block S (by simp; omega) (fun e => by have := (HO2.out.lt S e.symm).1; omega)).trans ((Below.heap_alloc w2 _ S hS2l).trans HS2.out); have c2' := cell_of_block hS3 2 (by simp); have f2' := free_of_block hS3 2; simp at c2'; have HS3 := Lib.hid hS3; clear hS3; have HO3 := Lib.hid hO3; clear hO3; have HG3 := Lib.hid hg3; clear hg3)
  all_goals
    have hS4 := heap_setCell_same HS3.out 2 (.slice (some ⟨g', 0, none⟩) (n + 1) cap')
    simp at hS4
    have hO4 := ownsRow_setCell_below HO3.out (a := ⟨S, 2, none⟩) hSb (.slice (some ⟨g', 0, none⟩) (n + 1) cap')
    have hB4 := ((((HB2.out.alloc (by omega) _).drew).grown HG3.out (by simp; omega) (fun k hk => by have := (HO2.out.lt k hk).1; omega)).setCell (p := ⟨S, 2, none⟩) (Nat.le_refl _) (.slice (some ⟨g', 0, none⟩) (n + 1) cap'))
    generalize w3.setCell ⟨S, 2, none⟩ (.slice (some ⟨g', 0, none⟩) (n + 1) cap') = w4 at *
    clear c1 c2 f1 f2 t0 t1 t2 t3 c2' f2'
    have c1 := cell_of_block hS4 1 (by simp)
    have f1 := free_of_block hS4 1
    simp at c1
    have HS4 := Lib.hid hS4; clear hS4
    have HO4 := Lib.hid hO4; clear hO4
    have HB4 := Lib.hid hB4; clear hB4
    go_wp2
    go_end0
    refine ⟨rfl, .slice (some ⟨g', 0, none⟩) (n + 1) cap', ?_, ownsRow_setCell_below HO4.out (a := ⟨S, 1, none⟩) hSb _, HB4.out.setCell (p := ⟨S, 1, none⟩) (Nat.le_refl _) _⟩
    rw [heap_setCell_same HS4.out]; simp
end Go.Proofs.YtabdpmcdlojliaaDoor
