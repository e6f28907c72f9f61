/- Contracts and plain laws on the way to the statement: part 11. -/
import Derived.Test.YtpnbpepkoekkoaaZ5
import Derived.Test.YtpnbpepkoekkoaaZ8
import Derived.Test.YtpnbpepkoekkoaaZ10
import Derived.Lib.SliceRun
import Derived.WalkKit
import Derived.WideShapes
set_option linter.unusedVariables false
set_option linter.unusedSimpArgs false
section
namespace Go.Proofs.Ytpnbpepkoekkoaa
open Go Go.RowKit
theorem info57 : (Try.prog.info? 57).map (fun i => (i.zero, i.size, i.bytes)) = some (some (.agg #[.string ⟨#[]⟩, .slice none 0 0]), 2, 40) := by kernel_rfl
set_option maxHeartbeats 2000000 in
set_option maxRecDepth 100000 in
theorem clone46 (ao : Option Addr) (n c : Nat) (news : List Value) (w : World) (hl : news.length = n * 2) (hn : n ≤ 100000) (hnone : ao = none → n = 0) (hc : ∀ a, ao = some a → ∀ j u, news[j]? = some u → w.cell? (a.add j) = some u) (h1 : ∀ u ∈ news, u.oneCell' = true) :
  Calls Try.prog 46 #[.slice ao n c] w fun e w' => ∃ v', e = .returned v' ∧ w'.ownsRow w.heap.size 57 2 v' n news ∧ Below w.heap.size w w' := by
 have q22 : ∀ (w : World) (a : Option Addr) (n c n' c' : Nat), (binOp .eql 27 (.slice a n c) (.slice none n' c')).run Try.prog w = .ok (.bool a.isNone) w := fun w a n c n' c' => Lib.run_eql_slice_nil w _ _ a n c n' c' Try.underlying27
 cases ao with
 | none =>
  obtain rfl := hnone rfl
  obtain rfl : news = [] := List.length_eq_zero_iff.1 (by omega)
  clear hc h1 hnone
  go_enter Try.func46, Try.ntmps46
  go_wp2_with fail
  go_ret
  exact ⟨_, rfl, World.ownsRow_nil _ _ _ _, Below.refl _ _⟩
 | some a =>
  have hc' := hc a rfl
  obtain ⟨i0, hi, hz0, hz1, hz2⟩ := info_parts info57
  have hcA : ∀ o : Obj, ∀ j u, news[j]? = some u → (w.alloc o).cell? (a.add j) = some u := fun o j u h => keep_cell ((Below.refl _ w).alloc (Nat.le_refl _) o) (hc' j u h)
  have HC := Lib.hid hcA; have H1 := Lib.hid h1
  clear hc hc' hcA hnone h1
  go_enter Try.func46, Try.ntmps46
  go_wp2_with (at_builtin; refine wpList_append_own _ rfl _ _ 27 rfl w.heap.size 57 i0 (.agg #[.string ⟨#[]⟩, .slice none 0 0]) 2 40 Try.underlying27 hi hz0 hz1 hz2 rfl (by decide) _ _ _ rfl (World.ownsRow_made w #[] 0 (Nat.le_refl _) (Nat.zero_le _) (by simp)) a n c news rfl hl (HC.out _) H1.out (by unfold maxLen; omega) (by omega) (by simp) ?_)
  intro v' w1 hown hgrow hnil
  go_wp2_with fail
  go_ret
  exact ⟨v', rfl, by simpa using hown, ((Below.refl _ w).alloc (Nat.le_refl _) _).grown hgrow (by simp) (by intro k hk; simp [Value.ownBlock] at hk; omega)⟩
theorem info73 : (Try.prog.info? 73).map (fun i => (i.zero, i.size, i.bytes)) = some (some (.agg #[.string ⟨#[]⟩, .int .i64 0, .string ⟨#[]⟩, .int .i64 0, .int .i64 0, .bool false]), 6, 64) := by kernel_rfl
set_option maxHeartbeats 2000000 in
set_option maxRecDepth 100000 in
theorem clone47 (ao : Option Addr) (n c : Nat) (news : List Value) (w : World) (hl : news.length = n * 6) (hn : n ≤ 100000) (hnone : ao = none → n = 0) (hc : ∀ a, ao = some a → ∀ j u, news[j]? = some u → w.cell? (a.add j) = some u) (h1 : ∀ u ∈ news, u.oneCell' = true) :
  Calls Try.prog 47 #[.slice ao n c] w fun e w' => ∃ v', e = .returned v' ∧ w'.ownsRow w.heap.size 73 6 v' n news ∧ Below w.heap.size w w' := by
 have q22 : ∀ (w : World) (a : Option Addr) (n c n' c' : Nat), (binOp .eql 28 (.slice a n c) (.slice none n' c')).run Try.prog w = .ok (.bool a.isNone) w := fun w a n c n' c' => Lib.run_eql_slice_nil w _ _ a n c n' c' Try.underlying28
 cases ao with
 | none =>
  obtain rfl := hnone rfl
  obtain rfl : news = [] := List.length_eq_zero_iff.1 (by omega)
  clear hc h1 hnone
  go_enter Try.func47, Try.ntmps47
  go_wp2_with fail
  go_ret
  exact ⟨_, rfl, World.ownsRow_nil _ _ _ _, Below.refl _ _⟩
 | some a =>
  have hc' := hc a rfl
  obtain ⟨i0, hi, hz0, hz1, hz2⟩ := info_parts info73
  have hcA : ∀ o : Obj, ∀ j u, news[j]? = some u → (w.alloc o).cell? (a.add j) = some u := fun o j u h => keep_cell ((Below.refl _ w).alloc (Nat.le_refl _) o) (hc' j u h)
  have HC := Lib.hid hcA; have H1 := Lib.hid h1
  clear hc hc' hcA hnone h1
  go_enter Try.func47, Try.ntmps47
  go_wp2_with (at_builtin; refine wpList_append_own _ rfl _ _ 28 rfl w.heap.size 73 i0 (.agg #[.string ⟨#[]⟩, .int .i64 0, .string ⟨#[]⟩, .int .i64 0, .int .i64 0, .bool false]) 6 64 Try.underlying28 hi hz0 hz1 hz2 rfl (by decide) _ _ _ rfl (World.ownsRow_made w #[] 0 (Nat.le_refl _) (Nat.zero_le _) (by simp)) a n c news rfl hl (HC.out _) H1.out (by unfold maxLen; omega) (by omega) (by simp) ?_)
  intro v' w1 hown hgrow hnil
  go_wp2_with fail
  go_ret
  exact ⟨v', rfl, by simpa using hown, ((Below.refl _ w).alloc (Nat.le_refl _) _).grown hgrow (by simp) (by intro k hk; simp [Value.ownBlock] at hk; omega)⟩
theorem info78 : (Try.prog.info? 78).map (fun i => (i.zero, i.size, i.bytes)) = some (some (.agg #[.int .i64 0, .int .i64 0, .string ⟨#[]⟩, .int .i64 0, .slice none 0 0, .slice none 0 0]), 6, 88) := by kernel_rfl
set_option maxHeartbeats 2000000 in
set_option maxRecDepth 100000 in
theorem clone72 (ao : Option Addr) (n c : Nat) (news : List Value) (w : World) (hl : news.length = n * 6) (hn : n ≤ 100000) (hnone : ao = none → n = 0) (hc : ∀ a, ao = some a → ∀ j u, news[j]? = some u → w.cell? (a.add j) = some u) (h1 : ∀ u ∈ news, u.oneCell' = true) :
  Calls Try.prog 72 #[.slice ao n c] w fun e w' => ∃ v', e = .returned v' ∧ w'.ownsRow w.heap.size 78 6 v' n news ∧ Below w.heap.size w w' := by
 have q22 : ∀ (w : World) (a : Option Addr) (n c n' c' : Nat), (binOp .eql 55 (.slice a n c) (.slice none n' c')).run Try.prog w = .ok (.bool a.isNone) w := fun w a n c n' c' => Lib.run_eql_slice_nil w _ _ a n c n' c' Try.underlying55
 cases ao with
 | none =>
  obtain rfl := hnone rfl
  obtain rfl : news = [] := List.length_eq_zero_iff.1 (by omega)
  clear hc h1 hnone
  go_enter Try.func72, Try.ntmps72
  go_wp2_with fail
  go_ret
  exact ⟨_, rfl, World.ownsRow_nil _ _ _ _, Below.refl _ _⟩
 | some a =>
  have hc' := hc a rfl
  obtain ⟨i0, hi, hz0, hz1, hz2⟩ := info_parts info78
  have hcA : ∀ o : Obj, ∀ j u, news[j]? = some u → (w.alloc o).cell? (a.add j) = some u := fun o j u h => keep_cell ((Below.refl _ w).alloc (Nat.le_refl _) o) (hc' j u h)
  have HC := Lib.hid hcA; have H1 := Lib.hid h1
  clear hc hc' hcA hnone h1
  go_enter Try.func72, Try.ntmps72
  go_wp2_with (at_builtin; refine wpList_append_own _ rfl _ _ 55 rfl w.heap.size 78 i0 (.agg #[.int .i64 0, .int .i64 0, .string ⟨#[]⟩, .int .i64 0, .slice none 0 0, .slice none 0 0]) 6 88 Try.underlying55 hi hz0 hz1 hz2 rfl (by decide) _ _ _ rfl (World.ownsRow_made w #[] 0 (Nat.le_refl _) (Nat.zero_le _) (by simp)) a n c news rfl hl (HC.out _) H1.out (by unfold maxLen; omega) (by omega) (by simp) ?_)
  intro v' w1 hown hgrow hnil
  go_wp2_with fail
  go_ret
  exact ⟨v', rfl, by simpa using hown, ((Below.refl _ w).alloc (Nat.le_refl _) _).grown hgrow (by simp) (by intro k hk; simp [Value.ownBlock] at hk; omega)⟩
theorem info85 : (Try.prog.info? 85).map (fun i => (i.zero, i.size, i.bytes)) = some (some (.agg #[.int .i64 0, .int .i64 0, .int .i64 0, .int .i64 0, .int .i64 0, .int .i64 0, .string ⟨#[]⟩, .int .i64 0, .int .i64 0, .int .i64 0, .int .i64 0, .int .i64 0]), 12, 104) := by kernel_rfl
set_option maxHeartbeats 2000000 in
set_option maxRecDepth 100000 in
theorem clone73 (ao : Option Addr) (n c : Nat) (news : List Value) (w : World) (hl : news.length = n * 12) (hn : n ≤ 100000) (hnone : ao = none → n = 0) (hc : ∀ a, ao = some a → ∀ j u, news[j]? = some u → w.cell? (a.add j) = some u) (h1 : ∀ u ∈ news, u.oneCell' = true) :
  Calls Try.prog 73 #[.slice ao n c] w fun e w' => ∃ v', e = .returned v' ∧ w'.ownsRow w.heap.size 85 12 v' n news ∧ Below w.heap.size w w' := by
 have q22 : ∀ (w : World) (a : Option Addr) (n c n' c' : Nat), (binOp .eql 76 (.slice a n c) (.slice none n' c')).run Try.prog w = .ok (.bool a.isNone) w := fun w a n c n' c' => Lib.run_eql_slice_nil w _ _ a n c n' c' Try.underlying76
 cases ao with
 | none =>
  obtain rfl := hnone rfl
  obtain rfl : news = [] := List.length_eq_zero_iff.1 (by omega)
  clear hc h1 hnone
  go_enter Try.func73, Try.ntmps73
  go_wp2_with fail
  go_ret
  exact ⟨_, rfl, World.ownsRow_nil _ _ _ _, Below.refl _ _⟩
 | some a =>
  have hc' := hc a rfl
  obtain ⟨i0, hi, hz0, hz1, hz2⟩ := info_parts info85
  have hcA : ∀ o : Obj, ∀ j u, news[j]? = some u → (w.alloc o).cell? (a.add j) = some u := fun o j u h => keep_cell ((Below.refl _ w).alloc (Nat.le_refl _) o) (hc' j u h)
  have HC := Lib.hid hcA; have H1 := Lib.hid h1
  clear hc hc' hcA hnone h1
  go_enter Try.func73, Try.ntmps73
  go_wp2_with (at_builtin; refine wpList_append_own _ rfl _ _ 76 rfl w.heap.size 85 i0 (.agg #[.int .i64 0, .int .i64 0, .int .i64 0, .int .i64 0, .int .i64 0, .int .i64 0, .string ⟨#[]⟩, .int .i64 0, .int .i64 0, .int .i64 0, .int .i64 0, .int .i64 0]) 12 104 Try.underlying76 hi hz0 hz1 hz2 rfl (by decide) _ _ _ rfl (World.ownsRow_made w #[] 0 (Nat.le_refl _) (Nat.zero_le _) (by simp)) a n c news rfl hl (HC.out _) H1.out (by unfold maxLen; omega) (by omega) (by simp) ?_)
  intro v' w1 hown hgrow hnil
  go_wp2_with fail
  go_ret
  exact ⟨v', rfl, by simpa using hown, ((Below.refl _ w).alloc (Nat.le_refl _) _).grown hgrow (by simp) (by intro k hk; simp [Value.ownBlock] at hk; omega)⟩
end Go.Proofs.Ytpnbpepkoekkoaa
end
section
namespace Go.Proofs.Ytpnbpepkoekkoaa
open Go Go.RowKit
def Cp (w : World) (b o : Nat) (w' : World) (g o' m : Nat) : Prop := ∀ q v, q < m → w.cell? ⟨b, o + q, none⟩ = some v → w'.cell? ⟨g, o' + q, none⟩ = some v
theorem Cp.from {w w' : World} {b o g o' m k : Nat} (h : Cp w b o w' g o' (k + m)) : Cp w b (o + k) w' g (o' + k) m := fun q v hq hc => by
 have := h (k + q) v (by omega) (by rw [← Nat.add_assoc]; exact hc)
 rw [← Nat.add_assoc] at this; exact this
theorem Cp.head {w w' : World} {b o g o' m k : Nat} (h : Cp w b o w' g o' (k + m)) : Cp w b o w' g o' k := fun q v hq => h q v (by omega)
theorem movAt_cp {w w' : World} {b g : Nat} : ∀ {o o' : Nat} {ms : List Mov}, movAt w b o ms → Cp w b o w' g o' (12 * ms.length) → movAt w' g o' ms
 | _, _, [], _, _ => trivial
 | o, o', m :: r, ⟨⟨h0, h1, h2, h3, h4, h5, h6, h8, h9, h10, h11⟩, h⟩, hc => by
  have hc' : Cp w b o w' g o' (12 + 12 * r.length) := by rw [show 12 + 12 * r.length = 12 * (m :: r).length by simp; omega]; exact hc
  exact ⟨⟨hc' 0 _ (by omega) h0, hc' 1 _ (by omega) h1, hc' 2 _ (by omega) h2, hc' 3 _ (by omega) h3, hc' 4 _ (by omega) h4, hc' 5 _ (by omega) h5, hc' 6 _ (by omega) h6, hc' 8 _ (by omega) h8, hc' 9 _ (by omega) h9, hc' 10 _ (by omega) h10, hc' 11 _ (by omega) h11⟩, movAt_cp h hc'.from⟩
theorem movNs_cp {w w' : World} {b g : Nat} : ∀ {o o' : Nat} {ms : List Mov} {ns : List Int}, NsAt w (movRefs b o ms) ns → Cp w b o w' g o' (12 * ms.length) → NsAt w' (movRefs g o' ms) ns
 | _, _, [], [], _, _ => trivial
 | o, o', m :: r, n :: ns, ⟨h1, h⟩, hc => by
  have hc' : Cp w b o w' g o' (12 + 12 * r.length) := by rw [show 12 + 12 * r.length = 12 * (m :: r).length by simp; omega]; exact hc
  exact ⟨hc' 7 _ (by omega) h1, movNs_cp h hc'.from⟩
 | _, _, [], _ :: _, h, _ => h.elim
 | _, _, _ :: _, [], h, _ => h.elim
theorem Lt.At.cp {w w' : World} (hb : Below w.heap.size w w') {b g : Nat} : ∀ {T : Lt} {o o' : Nat}, T.At w b o → Cp w b o w' g o' (6 * T.len) → T.At w' g o'
 | .nil, _, _, _, _ => trivial
 | .cons k n un ia ic its ma mc ms r, o, o', ⟨⟨h0, h1, h2, h4, h5⟩, ⟨m1, m2, m3⟩, ⟨i1, i2, i3⟩, hr⟩, hc => by
  have hc' : Cp w b o w' g o' (6 + 6 * r.len) := by rw [show 6 + 6 * r.len = 6 * (Lt.cons k n un ia ic its ma mc ms r).len by simp [Lt.len]; omega]; exact hc
  exact ⟨⟨hc' 0 _ (by omega) h0, hc' 1 _ (by omega) h1, hc' 2 _ (by omega) h2, hc' 4 _ (by omega) h4, hc' 5 _ (by omega) h5⟩, ⟨m1, m2, movAt_below m3 hb⟩, ⟨i1, i2, i3.below hb⟩, Lt.At.cp hb hr hc'.from⟩
theorem Lt.ns_cp {w w' : World} (hb : Below w.heap.size w w') {b g : Nat} : ∀ {T : Lt} {o o' : Nat} {ns : List Int}, NsAt w (T.refsL b o) ns → Cp w b o w' g o' (6 * T.len) → NsAt w' (T.refsL g o') ns
 | .nil, _, _, [], _, _ => trivial
 | .nil, _, _, _ :: _, h, _ => h.elim
 | .cons .., _, _, [], h, _ => h.elim
 | .cons k n un ia ic its ma mc ms r, o, o', x :: ns, ⟨h1, h⟩, hc => by
  have hc' : Cp w b o w' g o' (6 + 6 * r.len) := by rw [show 6 + 6 * r.len = 6 * (Lt.cons k n un ia ic its ma mc ms r).len by simp [Lt.len]; omega]; exact hc
  obtain ⟨n1, n', rfl, k1, k2⟩ := h.split
  obtain ⟨n2, n3, rfl, k3, k4⟩ := k2.split
  exact ⟨hc' 3 _ (by omega) h1, (k1.below hb).append ((k3.below hb).append (Lt.ns_cp hb k4 hc'.from))⟩
theorem movRow {w : World} {b : Nat} : ∀ {o : Nat} {ms : List Mov} {ns : List Int}, movAt w b o ms → NsAt w (movRefs b o ms) ns → ∀ q, q < 12 * ms.length → ∃ v, w.cell? ⟨b, o + q, none⟩ = some v ∧ v.oneCell' = true
 | _, [], _, _, _, q, hq => by simp at hq
 | _, _ :: _, [], _, h, _, _ => h.elim
 | o, m :: r, n :: ns, ⟨⟨h0, h1, h2, h3, h4, h5, h6, h8, h9, h10, h11⟩, h⟩, ⟨h7, hn⟩, q, hq => by
  rcases Nat.lt_or_ge q 12 with hlt | hge
  ·have : q = 0 ∨ q = 1 ∨ q = 2 ∨ q = 3 ∨ q = 4 ∨ q = 5 ∨ q = 6 ∨ q = 7 ∨ q = 8 ∨ q = 9 ∨ q = 10 ∨ q = 11 := by omega
   rcases this with rfl | rfl | rfl | rfl | rfl | rfl | rfl | rfl | rfl | rfl | rfl | rfl
   ·exact ⟨_, h0, rfl⟩
   ·exact ⟨_, h1, rfl⟩
   ·exact ⟨_, h2, rfl⟩
   ·exact ⟨_, h3, rfl⟩
   ·exact ⟨_, h4, rfl⟩
   ·exact ⟨_, h5, rfl⟩
   ·exact ⟨_, h6, rfl⟩
   ·exact ⟨_, h7, rfl⟩
   ·exact ⟨_, h8, rfl⟩
   ·exact ⟨_, h9, rfl⟩
   ·exact ⟨_, h10, rfl⟩
   ·exact ⟨_, h11, rfl⟩
  ·obtain ⟨v, hv, h1⟩ := movRow h hn (q - 12) (by simp at hq; omega)
   refine ⟨v, ?_, h1⟩
   rw [show o + q = o + 12 + (q - 12) by omega]; exact hv
theorem Lt.row {w : World} {b : Nat} : ∀ {T : Lt} {o : Nat} {ns : List Int}, T.At w b o → NsAt w (T.refsL b o) ns → ∀ q, q < 6 * T.len → ∃ v, w.cell? ⟨b, o + q, none⟩ = some v ∧ v.oneCell' = true
 | .nil, _, _, _, _, q, hq => by simp [Lt.len] at hq
 | .cons k n un ia ic its ma mc ms r, o, ns, hA, hN, q, hq => by
  obtain ⟨u, g0, g1, g2, g3, g4, g5, n1, n2, n3, rfl, k1, k2, k3⟩ := Lt.At.cells hA hN
  rcases Nat.lt_or_ge q 6 with hlt | hge
  ·have : q = 0 ∨ q = 1 ∨ q = 2 ∨ q = 3 ∨ q = 4 ∨ q = 5 := by omega
   rcases this with rfl | rfl | rfl | rfl | rfl | rfl
   ·exact ⟨_, g0, rfl⟩
   ·exact ⟨_, g1, rfl⟩
   ·exact ⟨_, g2, rfl⟩
   ·exact ⟨_, g3, rfl⟩
   ·exact ⟨_, g4, rfl⟩
   ·exact ⟨_, g5, rfl⟩
  ·obtain ⟨v, hv, h1⟩ := Lt.row hA.2.2.2 k3 (q - 6) (by simp [Lt.len] at hq; omega)
   refine ⟨v, ?_, h1⟩
   rw [show o + q = o + 6 + (q - 6) by omega]; exact hv
def FreeB (w : World) (c : Nat) : Prop := ∃ cur t, w.heap[c]? = some (.cells cur t (0, 0))
theorem FreeB.free {w : World} {c : Nat} (h : FreeB w c) (q : Nat) : w.frozen? ⟨c, q, none⟩ = false := by
 obtain ⟨cur, t, h⟩ := h; simp [World.frozen?, h]
theorem FreeB.lt {w : World} {c : Nat} (h : FreeB w c) : c < w.heap.size := by
 obtain ⟨cur, t, h⟩ := h; exact (Array.getElem?_eq_some_iff.1 h).1
theorem FreeB.below {w w' : World} {c : Nat} (h : FreeB w c) (hb : Below w.heap.size w w') : FreeB w' c := by
 have hl := h.lt
 obtain ⟨cur, t, h⟩ := h; exact ⟨cur, t, (hb.block _ hl).trans h⟩
theorem FreeB.set {w : World} {c : Nat} (h : FreeB w c) (p : Addr) (v : Value) : FreeB (w.setCell p v) c := by
 obtain ⟨cur, t, h⟩ := h
 by_cases e : p.block = c
 ·subst e
  have e : (w.setCell p v).heap[p.block]? = some (.cells (if p.spot.isSome = true then cur else cur.setIfInBounds p.off v) t (0, 0)) := by
   simp only [World.setCell, Array.getElem?_modify, h, if_true, Option.map_some]
  exact ⟨_, t, e⟩
 ·exact ⟨cur, t, (Below.heap_setCell _ _ _ _ (fun e2 => e e2.symm)).trans h⟩
def RowNew (w w' : World) (ao : Option Addr) (n : Nat) : Prop := n = 0 ∨ (ao = some ⟨blk ao, 0, none⟩ ∧ w.heap.size ≤ blk ao ∧ FreeB w' (blk ao))
theorem own_rowNew {w w' : World} {e k n : Nat} {v : Value} {news : List Value} (hk : 0 < k) (h : w'.ownsRow w.heap.size e k v n news) :
  ∃ ao c, v = .slice ao n c ∧ RowNew w w' ao n ∧ (ao = none → n = 0) ∧ ∀ j u, news[j]? = some u → w'.cell? ⟨blk ao, 0 + j, none⟩ = some u := by
 rcases h.2 with ⟨rfl, rfl⟩ | ⟨g, cap, cur, rfl, hg, hh, hn, _, hsz, ht⟩
 ·refine ⟨none, 0, rfl, Or.inl rfl, fun _ => rfl, fun j u hj => ?_⟩
  have h1 := h.1
  rw [Nat.zero_mul] at h1
  obtain rfl := List.length_eq_zero_iff.1 h1
  cases hj
 ·refine ⟨_, cap, rfl, Or.inr ⟨rfl, hg, cur, e, hh⟩, by simp, fun j u hj => ?_⟩
  rw [← ht, List.getElem?_take] at hj
  split at hj
  ·rw [Nat.zero_add]; exact cell_at hh j (by rw [← Array.getElem?_toList]; exact hj)
  ·cases hj
theorem read_row {w : World} {b o m : Nat} (h : ∀ q, q < m → ∃ v, w.cell? ⟨b, o + q, none⟩ = some v ∧ v.oneCell' = true) :
  ∃ news : List Value, news.length = m ∧ (∀ j u, news[j]? = some u → w.cell? ⟨b, o + j, none⟩ = some u) ∧ (∀ u ∈ news, u.oneCell' = true) := by
 induction m with
 | zero => exact ⟨[], rfl, fun j u h => (by cases h), fun u h => (by cases h)⟩
 | succ m ih =>
  obtain ⟨news, h1, h2, h3⟩ := ih fun q hq => h q (by omega)
  obtain ⟨v, hv, hv1⟩ := h m (by omega)
  refine ⟨news ++ [v], by simp [h1], fun j u hj => ?_, fun u hu => ?_⟩
  ·rcases Nat.lt_or_ge j m with hl | hl
   ·rw [List.getElem?_append_left (by omega)] at hj; exact h2 j u hj
   ·rw [List.getElem?_append_right (by omega)] at hj
    have : j = m := by
     rcases Nat.lt_or_ge (j - news.length) 1 with h' | h'
     ·omega
     ·rw [List.getElem?_eq_none (by simpa using h')] at hj; cases hj
    subst this
    rw [h1, Nat.sub_self] at hj
    cases hj; exact hv
  ·rcases List.mem_append.1 hu with hu | hu
   ·exact h3 u hu
   ·rw [List.mem_singleton.1 hu]; exact hv1
theorem clone_mov (ma : Option Addr) (mc : Nat) (ms : List Mov) (ns : List Int) (w : World) (hm : ms.length ≤ 100000) (hf : ms = [] ∨ ma = some ⟨blk ma, off ma, none⟩) (hA : movAt w (blk ma) (off ma) ms) (hN : NsAt w (movRefs (blk ma) (off ma) ms) ns) :
  Calls Try.prog 73 #[.slice ma ms.length mc] w fun e w' => ∃ ma' mc', e = .returned (.slice ma' ms.length mc') ∧ RowNew w w' ma' ms.length ∧ movAt w' (blk ma') 0 ms ∧ NsAt w' (movRefs (blk ma') 0 ms) ns ∧ Below w.heap.size w w' := by
 by_cases hz : ms = []
 ·subst hz
  refine (clone73 ma 0 mc [] w rfl (Nat.zero_le _) (fun _ => rfl) (fun a _ j u hj => by cases hj) (fun u hu => by cases hu)).mono ?_
  rintro e w' ⟨v', rfl, ho, hb⟩
  obtain ⟨ao, c, rfl, h1, _, _⟩ := own_rowNew (by omega) ho
  cases ns with
  | nil => exact ⟨ao, c, rfl, h1, trivial, trivial, hb⟩
  | cons => exact hN.elim
 ·have hf' := hf.resolve_left hz
  obtain ⟨news, l1, l2, l3⟩ := read_row (movRow hA hN)
  refine (clone73 ma ms.length mc news w (by rw [l1]; omega) hm (fun e => by rw [e] at hf'; cases hf') (fun a ha j u hj => by
   rw [hf'] at ha; cases ha; rw [addr_plain]; exact l2 j u hj) l3).mono ?_
  rintro e w' ⟨v', rfl, ho, hb⟩
  obtain ⟨ao, c, rfl, h1, _, h3⟩ := own_rowNew (by omega) ho
  have hcp : Cp w (blk ma) (off ma) w' (blk ao) 0 (12 * ms.length) := fun q v hq hc => by
   obtain ⟨u, hu⟩ : ∃ u, news[q]? = some u := ⟨_, List.getElem?_eq_getElem (by omega)⟩
   have := l2 q u hu
   rw [hc] at this; cases this
   exact h3 q v hu
  exact ⟨ao, c, rfl, h1, movAt_cp hA hcp, movNs_cp hN hcp, hb⟩
theorem clone_row (ia : Option Addr) (ic : Nat) (T : Lt) (ns : List Int) (w : World) (hm : T.len ≤ 100000) (hf : T.len = 0 ∨ ia = some ⟨blk ia, off ia, none⟩) (hA : T.At w (blk ia) (off ia)) (hN : NsAt w (T.refsL (blk ia) (off ia)) ns) :
  Calls Try.prog 72 #[.slice ia T.len ic] w fun e w' => ∃ ia' ic', e = .returned (.slice ia' T.len ic') ∧ RowNew w w' ia' T.len ∧ T.At w' (blk ia') 0 ∧ NsAt w' (T.refsL (blk ia') 0) ns ∧ Below w.heap.size w w' := by
 by_cases hz : T.len = 0
 ·obtain rfl := Lt.len_zero hz
  refine (clone72 ia 0 ic [] w rfl (Nat.zero_le _) (fun _ => rfl) (fun a _ j u hj => by cases hj) (fun u hu => by cases hu)).mono ?_
  rintro e w' ⟨v', rfl, ho, hb⟩
  obtain ⟨ao, c, rfl, h1, _, _⟩ := own_rowNew (by omega) ho
  cases ns with
  | nil => exact ⟨ao, c, rfl, h1, trivial, trivial, hb⟩
  | cons => exact hN.elim
 ·have hf' := hf.resolve_left hz
  obtain ⟨news, l1, l2, l3⟩ := read_row (Lt.row hA hN)
  refine (clone72 ia T.len ic news w (by rw [l1]; omega) hm (fun e => by rw [e] at hf'; cases hf') (fun a ha j u hj => by
   rw [hf'] at ha; cases ha; rw [addr_plain]; exact l2 j u hj) l3).mono ?_
  rintro e w' ⟨v', rfl, ho, hb⟩
  obtain ⟨ao, c, rfl, h1, _, h3⟩ := own_rowNew (by omega) ho
  have hcp : Cp w (blk ia) (off ia) w' (blk ao) 0 (6 * T.len) := fun q v hq hc => by
   obtain ⟨u, hu⟩ : ∃ u, news[q]? = some u := ⟨_, List.getElem?_eq_getElem (by omega)⟩
   have := l2 q u hu
   rw [hc] at this; cases this
   exact h3 q v hu
  exact ⟨ao, c, rfl, h1, hA.cp hb hcp, Lt.ns_cp hb hN hcp, hb⟩
def Lt.small : Lt → Prop
 | .nil => True
 | .cons _ _ _ _ _ its _ _ ms r => its.len ≤ 100000 ∧ ms.length ≤ 100000 ∧ its.small ∧ r.small
def Lt.app : Lt → Lt → Lt
 | .nil, B => B
 | .cons k n un ia ic its ma mc ms r, B => .cons k n un ia ic its ma mc ms (r.app B)
def Its.app : Its → Its → Its
 | .nil, B => B
 | .cons k n un its ms r, B => .cons k n un its ms (r.app B)
theorem Lt.app_len : ∀ A B : Lt, (A.app B).len = A.len + B.len
 | .nil, B => by simp [Lt.app, Lt.len]
 | .cons _ _ _ _ _ _ _ _ _ r, B => by simp [Lt.app, Lt.len, app_len r B]; omega
theorem Lt.app_strip : ∀ A B : Lt, (A.app B).strip = A.strip.app B.strip
 | .nil, B => rfl
 | .cons _ _ _ _ _ _ _ _ _ r, B => by simp [Lt.app, Lt.strip, Its.app, app_strip r B]
theorem Lt.app_blocks : ∀ A B : Lt, (A.app B).blocks = A.blocks ++ B.blocks
 | .nil, B => rfl
 | .cons _ _ _ _ _ _ _ _ _ r, B => by simp [Lt.app, Lt.blocks, app_blocks r B]
theorem Lt.app_at (w : World) (b : Nat) : ∀ (A B : Lt) (o : Nat), (A.app B).At w b o ↔ A.At w b o ∧ B.At w b (o + 6 * A.len)
 | .nil, B, o => by simp [Lt.app, Lt.len, Lt.At]
 | .cons _ _ _ _ _ _ _ _ _ r, B, o => by
  simp only [Lt.app, Lt.At, Lt.len, app_at w b r B (o + 6), show o + 6 + 6 * r.len = o + 6 * (r.len + 1) by omega, and_assoc]
theorem Lt.app_refs (b : Nat) : ∀ (A B : Lt) (o : Nat), (A.app B).refsL b o = A.refsL b o ++ B.refsL b (o + 6 * A.len)
 | .nil, B, o => by simp [Lt.app, Lt.len, Lt.refsL]
 | .cons _ _ _ _ _ _ _ _ _ r, B, o => by
  simp only [Lt.app, Lt.refsL, Lt.len, app_refs b r B (o + 6), show o + 6 + 6 * r.len = o + 6 * (r.len + 1) by omega, List.append_assoc, List.cons_append]
theorem Its.app_assoc : ∀ A B C : Its, (A.app B).app C = A.app (B.app C)
 | .nil, _, _ => rfl
 | .cons _ _ _ _ _ r, B, C => by simp [Its.app, app_assoc r B C]
theorem Its.app_nil : ∀ A : Its, A.app .nil = A
 | .nil => rfl
 | .cons _ _ _ _ _ r => by simp [Its.app, app_nil r]
theorem Lt.app_nil : ∀ A : Lt, A.app .nil = A
 | .nil => rfl
 | .cons _ _ _ _ _ _ _ _ _ r => by simp [Lt.app, app_nil r]
end Go.Proofs.Ytpnbpepkoekkoaa
end
section
namespace Go.Proofs.Ytpnbpepkoekkoaa
open Go Go.RowKit
theorem Lt.At.kept2 {w w' : World} : ∀ {T : Lt} {b o : Nat}, T.At w b o → (∀ q v, o ≤ q → q < o + 6 * T.len → w.cell? ⟨b, q, none⟩ = some v → w'.cell? ⟨b, q, none⟩ = some v) → (∀ c ∈ T.blocks, ∀ q v, w.cell? ⟨c, q, none⟩ = some v → w'.cell? ⟨c, q, none⟩ = some v) → T.At w' b o
 | .nil, _, _, _, _, _ => trivial
 | .cons k n un ia ic its ma mc ms r, b, o, ⟨⟨h0, h1, h2, h4, h5⟩, ⟨m1, m2, m3⟩, ⟨i1, i2, i3⟩, hr⟩, hk, hc => by
  have hl : (Lt.cons k n un ia ic its ma mc ms r).len = r.len + 1 := rfl
  rw [hl] at hk
  refine ⟨⟨hk _ _ (Nat.le_refl _) (by omega) h0, hk _ _ (by omega) (by omega) h1, hk _ _ (by omega) (by omega) h2, hk _ _ (by omega) (by omega) h4, hk _ _ (by omega) (by omega) h5⟩, ⟨m1, m2, ?_⟩, ⟨i1, i2, ?_⟩, kept2 hr (fun q v hq hq2 => hk q v (by omega) (by omega)) (fun c hcm => hc c (by simp [Lt.blocks, hcm]))⟩
  ·by_cases hm : ms = []
   ·subst hm; trivial
   ·exact movAt_kept m3 fun q v _ => hc _ (by simp [Lt.blocks, hm]) q v
  ·by_cases hi : its.len = 0
   ·rw [Lt.len_zero hi]; trivial
   ·exact i3.kept (fun q v _ => hc _ (by simp [Lt.blocks, hi]) q v) (fun c hcm => hc c (by simp [Lt.blocks, hcm]))
theorem Lt.refsL_mem2 : ∀ {T : Lt} {b o : Nat} {x : RefL}, x ∈ T.refsL b o → (x.b = b ∧ o + 2 ≤ x.o ∧ x.o + 4 ≤ o + 6 * T.len ∧ (x.o - o) % 6 = 2) ∨ x.b ∈ T.blocks
 | .nil, _, _, _, h => by cases h
 | .cons k n un ia ic its ma mc ms r, b, o, x, h => by
  have hl : (Lt.cons k n un ia ic its ma mc ms r).len = r.len + 1 := rfl
  simp only [Lt.refsL, List.mem_cons, List.mem_append] at h
  rcases h with rfl | h | h | h
  ·exact Or.inl ⟨rfl, Nat.le_refl _, by rw [hl]; simp only; omega, by simp only; omega⟩
  ·obtain ⟨h1, _⟩ := movRefs_mem h
   exact Or.inr (by rw [h1]; simp [Lt.blocks, movRefs_ne h])
  ·have hi : its.len ≠ 0 := fun e => by rw [Lt.len_zero e] at h; cases h
   rcases Lt.refsL_mem h with ⟨h1, _⟩ | h1
   ·exact Or.inr (by rw [h1]; simp [Lt.blocks, hi])
   ·exact Or.inr (by simp [Lt.blocks, h1])
  ·rcases refsL_mem2 h with ⟨h1, h2, h3, h4⟩ | h1
   ·exact Or.inl ⟨h1, by omega, by rw [hl]; omega, by omega⟩
   ·exact Or.inr (by simp [Lt.blocks, h1])
def Lt.own (T : Lt) (ao : Option Addr) : List Nat := (if T.len = 0 then [] else [blk ao]) ++ T.blocks
def ClP (T : Lt) (ns : List Int) (w : World) (e : Ending) (w' : World) : Prop :=
 ∃ (ao : Option Addr) (c : Nat) (T' : Lt), e = .returned (.slice ao T.len c) ∧ T'.strip = T.strip ∧ (T.len = 0 ∨ ao = some ⟨blk ao, 0, none⟩) ∧ T'.At w' (blk ao) 0 ∧ NsAt w' (T'.refsL (blk ao) 0) ns ∧ (∀ b ∈ T'.own ao, w.heap.size ≤ b ∧ FreeB w' b) ∧ (T'.own ao).Nodup ∧ Below w.heap.size w w'
structure ClS (T : Lt) (ns : List Int) (lo g i : Nat) (w : World) (A R : Lt) (n1 n2 : List Int) (W : World) : Prop where
 strip : A.strip.app R.strip = T.strip
 len : A.len = i
 size : R.size ≤ T.size
 nseq : n1 ++ n2 = ns
 atA : A.At W g 0
 nsA : NsAt W (A.refsL g 0) n1
 atR : R.At W g (i * 6)
 nsR : NsAt W (R.refsL g (i * 6)) n2
 apart : (g :: A.blocks).Nodup
 own : ∀ b ∈ g :: A.blocks, lo ≤ b ∧ FreeB W b
 old : ∀ b ∈ R.blocks, b < lo
 small : R.small
 below : Below lo w W
theorem Lt.same_len {A B : Lt} (h : A.strip = B.strip) : A.len = B.len := by rw [← A.strip_len, h, B.strip_len]
theorem cl_step {T : Lt} {ns : List Int} {lo g i : Nat} {w wr W w5 w6 : World} {A : Lt} {n1 n2 m1 m2 m3 : List Int} {k n' u : Int} {un : Nm} {ia : Option Addr} {ic : Nat} {its : Lt} {ma : Option Addr} {mc : Nat} {ms : List Mov} {r : Lt} {ma' ao' : Option Addr} {mc' co' : Nat}
  (h : ClS T ns lo g i w A (.cons k n' un ia ic its ma mc ms r) n1 n2 wr) (hn2 : n2 = u :: (m1 ++ (m2 ++ m3))) (g3 : wr.cell? ⟨g, i * 6 + 3, none⟩ = some (.int .i64 u)) (k3 : NsAt wr (r.refsL g (i * 6 + 6)) m3)
  (hlo : lo ≤ wr.heap.size) (hW : Below wr.heap.size wr W) (h5 : RowNew W w5 ma' ms.length ∧ movAt w5 (blk ma') 0 ms ∧ NsAt w5 (movRefs (blk ma') 0 ms) m1 ∧ Below W.heap.size W w5) (h6 : ClP its m2 w5 (.returned (.slice ao' its.len co')) w6) :
  ∃ A', ClS T ns lo g (i + 1) w A' r (n1 ++ (u :: (m1 ++ m2))) m3 ((w6.setCell ⟨g, i * 6 + 5, none⟩ (.slice ma' ms.length mc')).setCell ⟨g, i * 6 + 4, none⟩ (.slice ao' its.len co')) := by
 obtain ⟨p1, p2, p3, p4⟩ := h5
 obtain ⟨ao, c, its', e, q1, q2, q3, q4, q5, q6, q7⟩ := h6
 injection e with e; injection e with e1 e2 e3
 subst e1 e3
 have hli := Lt.same_len q1
 have b5 : Below wr.heap.size wr w5 := hW.trans (p4.mono hW.size)
 have b6 : Below wr.heap.size wr w6 := b5.trans (q7.mono b5.size)
 have hgf := (h.own g (by simp)).2
 have hg : g < wr.heap.size := hgf.lt
 obtain ⟨⟨r0, r1, r2, r4, r5⟩, ⟨x1, x2, x3⟩, ⟨y1, y2, y3⟩, hr⟩ := h.atR
 generalize hWn : (w6.setCell ⟨g, i * 6 + 5, none⟩ (.slice ma' ms.length mc')).setCell ⟨g, i * 6 + 4, none⟩ (.slice ao' its.len co') = Wn
 -- what is as it was
 have kg : ∀ q v, q ≠ i * 6 + 4 → q ≠ i * 6 + 5 → wr.cell? ⟨g, q, none⟩ = some v → Wn.cell? ⟨g, q, none⟩ = some v := fun q v h4 h5 hc => by
  rw [← hWn]
  exact cell_set_ne (cell_set_ne (keep_cell b6 hc) (addr_ne (Or.inr fun e => h5 e.symm))) (addr_ne (Or.inr fun e => h4 e.symm))
 have ko : ∀ b, b ≠ g → ∀ q v, w6.cell? ⟨b, q, none⟩ = some v → Wn.cell? ⟨b, q, none⟩ = some v := fun b hb q v hc => by
  rw [← hWn]
  exact cell_set_ne (cell_set_ne hc (addr_ne (Or.inl fun e => hb e.symm))) (addr_ne (Or.inl fun e => hb e.symm))
 have c5 : Wn.cell? ⟨g, i * 6 + 5, none⟩ = some (.slice ma' ms.length mc') := by
  rw [← hWn]
  exact cell_set_ne (World.cell?_setCell_same _ _ _ (keep_cell b6 r5)) (addr_ne (Or.inr (by omega)))
 have c4 : Wn.cell? ⟨g, i * 6 + 4, none⟩ = some (.slice ao' its.len co') := by
  rw [← hWn]
  exact World.cell?_setCell_same _ _ _ (cell_set_ne (keep_cell b6 r4) (addr_ne (Or.inr (by omega))))
 have kf : ∀ b, FreeB w6 b → FreeB Wn b := fun b hb => by rw [← hWn]; exact (hb.set _ _).set _ _
 have kb : Below lo w Wn := by
  rw [← hWn]
  have hgl := (h.own g (by simp)).1
  exact ((h.below.trans (b6.mono hlo)).setCell (p := ⟨g, i * 6 + 5, none⟩) hgl _).setCell (p := ⟨g, i * 6 + 4, none⟩) hgl _
 have hgA : g ∉ A.blocks := (List.nodup_cons.1 h.apart).1
 have hAlt : ∀ b ∈ A.blocks, b < wr.heap.size := fun b hb => (h.own b (List.mem_cons_of_mem _ hb)).2.lt
 have hmnew : ms ≠ [] → wr.heap.size ≤ blk ma' ∧ FreeB w5 (blk ma') ∧ ma' = some ⟨blk ma', off ma', none⟩ ∧ off ma' = 0 := fun hm => by
  rcases p1 with p1 | ⟨p1, p1', p1''⟩
  ·exact absurd (List.length_eq_zero_iff.1 p1) hm
  ·have e0 : off ma' = 0 := by rw [p1]; rfl
   exact ⟨Nat.le_trans hW.size p1', p1'', by rw [e0]; exact p1, e0⟩
 have hinew : ∀ b ∈ its'.own ao', w5.heap.size ≤ b ∧ FreeB w6 b := q5
 have hAo : A.At Wn g 0 := h.atA.kept2 (fun q v _ hq => kg q v (by rw [h.len] at hq; omega) (by rw [h.len] at hq; omega)) (fun b hb q v hc => ko b (fun e => hgA (e ▸ hb)) q v (keep_cell b6 hc))
 have hNA : NsAt Wn (A.refsL g 0) n1 := h.nsA.kept fun x hx v hc => by
  rcases Lt.refsL_mem2 hx with ⟨e, _, h2, _⟩ | e
  ·rw [e] at hc ⊢
   rw [h.len] at h2
   exact kg _ _ (by omega) (by omega) hc
  ·exact ko _ (fun e2 => hgA (e2 ▸ e)) _ _ (keep_cell b6 hc)
 have hmo : blk ma' ≠ g ∨ ms = [] := by
  by_cases hm : ms = []
  ·exact Or.inr hm
  ·left; have := (hmnew hm).1; omega
 have hoff0 : ∀ ms0 : List Mov, ms0 = ms → movAt Wn (blk ma') (off ma') ms0 ∧ NsAt Wn (movRefs (blk ma') (off ma') ms0) m1 := fun ms0 e0 => by
  subst e0
  by_cases hm : ms0 = []
  ·subst hm
   cases m1 with
   | nil => exact ⟨trivial, trivial⟩
   | cons => exact p3.elim
  ·obtain ⟨z1, z2, z3, z4⟩ := hmnew hm
   rw [z4]
   exact ⟨movAt_kept p2 fun q v _ hc => ko _ (by omega) _ _ (keep_cell q7 hc), p3.kept fun x hx v hc => by
    have hb := (movRefs_mem hx).1
    exact ko _ (by omega) _ _ (keep_cell q7 hc)⟩
 obtain ⟨hMo, hMN⟩ := hoff0 ms rfl
 have hin : ∀ b ∈ its'.own ao', b ≠ g := fun b hb => by have := (hinew b hb).1; have := b5.size; omega
 have hIo : its'.At Wn (blk ao') (off ao') ∧ NsAt Wn (its'.refsL (blk ao') (off ao')) m2 := by
  by_cases hz : its'.len = 0
  ·have := Lt.len_zero hz
   subst this
   cases m2 with
   | nil => exact ⟨trivial, trivial⟩
   | cons => exact q4.elim
  ·have e0 : off ao' = 0 := by rw [q2.resolve_left (by omega)]; rfl
   have hbm : blk ao' ∈ its'.own ao' := by unfold Lt.own; simp [hz]
   rw [e0]
   refine ⟨q3.kept (fun q v _ hc => ko _ (hin _ hbm) _ _ hc) (fun b hb q v hc => ko _ (hin _ (by unfold Lt.own; simp [hb])) _ _ hc), q4.kept fun x hx v hc => ?_⟩
   rcases Lt.refsL_mem hx with ⟨e, _⟩ | e
   ·exact ko _ (by rw [e]; exact hin _ hbm) _ _ hc
   ·exact ko _ (hin _ (by unfold Lt.own; simp [e])) _ _ hc
 have hro : r.At Wn g (i * 6 + 6) := hr.kept (fun q v hq hc => kg q v (by omega) (by omega) hc) (fun b hb q v hc => ko b (by have := h.old b (by simp [Lt.blocks, hb]); have := (h.own g (by simp)).1; omega) q v (keep_cell b6 hc))
 have hrN : NsAt Wn (r.refsL g (i * 6 + 6)) m3 := k3.kept fun x hx v hc => by
  rcases Lt.refsL_mem hx with ⟨e, h2⟩ | e
  ·rw [e] at hc ⊢
   exact kg _ _ (by omega) (by omega) hc
  ·have := h.old x.b (by simp [Lt.blocks, e])
   exact ko _ (by have := (h.own g (by simp)).1; omega) _ _ (keep_cell b6 hc)
 have hlen : its.len = its'.len := hli.symm
 refine ⟨A.app (.cons k n' un ao' co' its' ma' mc' ms .nil), ?_⟩
 have hoA : 0 + 6 * A.len = i * 6 := by rw [h.len]; omega
 refine ⟨?_, ?_, ?_, ?_, ?_, ?_, ?_, ?_, ?_, ?_, ?_, ?_, kb⟩
 ·rw [Lt.app_strip, Its.app_assoc, ← h.strip]
  simp [Lt.strip, Its.app, q1]
 ·rw [Lt.app_len, h.len]; simp [Lt.len]
 ·have := h.size; simp only [Lt.size] at this; omega
 ·rw [← h.nseq, hn2]; simp
 ·rw [Lt.app_at, hoA]
  refine ⟨hAo, ⟨kg _ _ (by omega) (by omega) r0, kg _ _ (by omega) (by omega) r1, kg _ _ (by omega) (by omega) r2, by rw [← hlen]; exact c4, c5⟩, ⟨?_, x2, hMo⟩, ⟨?_, by rw [← hlen]; exact y2, hIo.1⟩, trivial⟩
  ·by_cases hm : ms = []
   ·exact Or.inl hm
   ·exact Or.inr (hmnew hm).2.2.1
  ·rcases q2 with q2 | q2
   ·left; omega
   ·right
    have e0 : off ao' = 0 := by rw [q2]; rfl
    rw [e0]; exact q2
 ·rw [Lt.app_refs, hoA]
  refine hNA.append ⟨kg _ _ (by simp only; omega) (by simp only; omega) g3, ?_⟩
  simp only [Lt.refsL, List.append_nil]
  exact hMN.append hIo.2
 ·rw [Nat.add_mul, Nat.one_mul]; exact hro
 ·rw [Nat.add_mul, Nat.one_mul]; exact hrN
 ·rw [Lt.app_blocks]
  simp only [Lt.blocks, List.append_nil]
  rw [← List.cons_append]
  refine List.nodup_append.2 ⟨h.apart, List.nodup_append.2 ⟨by split <;> simp, q6, fun a ha b hb e => ?_⟩, fun a ha b hb e => ?_⟩
  ·split at ha
   ·cases ha
   ·rename_i hm
    rw [List.mem_singleton] at ha
    have h1 := (hmnew hm).2.1.lt
    have h2 := (hinew b hb).1
    omega
  ·have ha' : a < wr.heap.size := by
    rcases List.mem_cons.1 ha with rfl | ha
    ·exact hg
    ·exact hAlt a ha
   rcases List.mem_append.1 hb with hb | hb
   ·split at hb
    ·cases hb
    ·rename_i hm
     rw [List.mem_singleton] at hb
     have h1 := (hmnew hm).1
     omega
   ·have h2 := (hinew b hb).1
    have := b5.size
    omega
 ·intro b hb
  rw [Lt.app_blocks, ← List.cons_append] at hb
  rcases List.mem_append.1 hb with hb | hb
  ·obtain ⟨h1, h2⟩ := h.own b hb
   exact ⟨h1, kf _ (h2.below b6)⟩
  ·simp only [Lt.blocks, List.append_nil] at hb
   rcases List.mem_append.1 hb with hb | hb
   ·split at hb
    ·cases hb
    ·rename_i hm
     rw [List.mem_singleton] at hb
     subst hb
     obtain ⟨h1, h2, _⟩ := hmnew hm
     exact ⟨by omega, kf _ (h2.below q7)⟩
   ·obtain ⟨h1, h2⟩ := hinew b hb
    have := b5.size
    exact ⟨by omega, kf _ h2⟩
 ·intro b hb; exact h.old b (by simp [Lt.blocks, hb])
 ·exact h.small.2.2.2
end Go.Proofs.Ytpnbpepkoekkoaa
end
