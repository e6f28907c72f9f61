/- The walk of the statement: part 4. -/
import Derived.Test.YtpnbpepkoekkoaaZ24
import Derived.Test.YtpnbpepkoekkoaaZ36
import Derived.Test.YtpnbpepkoekkoaaYRSCp3
import Derived.Maps.RangeRun
import Derived.Maps.Range
import Derived.ChangeKeysEq
import Derived.BigQuiet
import Derived.BigCall
import Derived.BigGuard
set_option linter.unusedVariables false
set_option linter.unusedSimpArgs false
section
namespace Go.Proofs.Ytpnbpepkoekkoaa
open Go Go.RowKit
def StM (w : World) (b : Nat) : Prop := ∃ es clock, w.heap[b]? = some (.map es clock) ∧ MapKept.Stamped es clock ∧ ∀ x ∈ es.toList, MapKept.IsKey (.int .i64) x.key
theorem StM.of_block {w w' : World} {b : Nat} (h : StM w b) (hb : w'.heap[b]? = w.heap[b]?) : StM w' b := by
 obtain ⟨es, c, h1, h2⟩ := h; exact ⟨es, c, hb.trans h1, h2⟩
def setKv (ks : List Int) : List (Int × Value) := ks.map fun k => (k, .bool true)
def setPut (ks : List Int) (k : Int) : List Int := if k ∈ ks then ks else ks ++ [k]
theorem setKv_keys (ks : List Int) : (setKv ks).map (·.1) = ks := by
 unfold setKv; rw [List.map_map]; simp [Function.comp_def]
theorem setGet (k : Int) : ∀ ks : List Int, kvGet (setKv ks) k = if k ∈ ks then some (.bool true) else none
 | [] => by simp [kvGet, setKv]
 | a :: r => by
  have ih := setGet k r
  unfold kvGet setKv at ih ⊢
  rw [List.map_cons]
  by_cases h : a = k
  ·subst h
   rw [List.find?_cons_of_pos (by simp)]
   simp
  ·rw [List.find?_cons_of_neg (by simpa using h), ih]
   have : (k ∈ a :: r) = (k ∈ r) := by
    simp only [List.mem_cons, eq_iff_iff]
    exact ⟨fun e => e.resolve_left (fun e => h e.symm), Or.inr⟩
   simp only [this]
theorem setPut_kv (ks : List Int) (k : Int) : kvPut (setKv ks) k (.bool true) = setKv (setPut ks k) := by
 unfold kvPut setPut
 rw [setGet]
 by_cases h : k ∈ ks
 ·rw [if_pos h, if_pos h]
  simp only [Option.isSome_some, if_true]
  unfold setKv
  rw [List.map_map]
  apply List.map_congr_left
  intro a _
  simp only [Function.comp]
  split <;> rfl
 ·rw [if_neg h, if_neg h]
  simp [setKv]
theorem setPut_mem (ks : List Int) (k x : Int) : x ∈ setPut ks k ↔ x ∈ ks ∨ x = k := by
 unfold setPut
 split
 ·rename_i h; exact ⟨Or.inl, fun e => e.elim id fun e => e ▸ h⟩
 ·simp
theorem setPut_nodup {ks : List Int} (h : ks.Nodup) (k : Int) : (setPut ks k).Nodup := by
 unfold setPut
 split
 ·exact h
 ·rename_i hk
  rw [List.nodup_append]
  exact ⟨h, by simp, fun a ha b hb => by simp at hb; subst hb; rintro rfl; exact hk ha⟩
structure SetB (w : World) (b : Nat) (ks : List Int) : Prop where
 map_ : MapAt kI w b (setKv ks)
 stamp : StM w b
 apart : ks.Nodup
theorem SetB.of_block {w w' : World} {b : Nat} {ks : List Int} (h : SetB w b ks) (hb : w'.heap[b]? = w.heap[b]?) : SetB w' b ks := ⟨h.map_.of_block hb, h.stamp.of_block hb, h.apart⟩
theorem SetB.lt {w : World} {b : Nat} {ks : List Int} (h : SetB w b ks) : b < w.heap.size := h.map_.lt
theorem SetB.below {w w' : World} {b n : Nat} {ks : List Int} (h : SetB w b ks) (hb : Below n w w') (hn : b < n) : SetB w' b ks := h.of_block (hb.block _ hn)
theorem StM.new (w : World) : StM (w.alloc (.map #[] 0)) w.heap.size := ⟨#[], 0, heap_alloc_new w _, MapKept.stamped_empty 0, by simp⟩
theorem SetB.new (w : World) : SetB (w.alloc (.map #[] 0)) w.heap.size [] := ⟨MapAt.new w, StM.new w, List.nodup_nil⟩
variable {P : Program} {T K E : TypeId}
theorem SetB.put {w : World} {b : Nat} {ks : List Int} (h : SetB w b ks) (hT : P.underlying T = some (.map K E)) (hK : P.underlying K = some (.int .i64)) (k : Int) :
  ∃ W, (Instr.mapUpdate T (.map (some b)) (.int .i64 k) (.bool true)).run P w = .ok () W ∧ SetB W b (setPut ks k) ∧ (∀ c, c ≠ b → W.heap[c]? = w.heap[c]?) ∧ W.heap.size = w.heap.size ∧ ∀ n, n ≤ b → Below n w W := by
 obtain ⟨o, hrun, hM⟩ := run_update_kv (P := P) kI_key hT hK h.map_ (show KeysApart (setKv ks) by unfold KeysApart; rw [setKv_keys]; exact h.apart) k (.bool true)
 rw [setPut_kv] at hM
 obtain ⟨es, c, e1, e2, e3⟩ := h.stamp
 obtain ⟨es', c', f1, f2, f3, _⟩ := MapKept.mapUpdate_keeps hT hK e1 e2 e3 (show MapKept.IsKey (.int .i64) (.int .i64 k) from rfl) hrun
 refine ⟨_, hrun, ⟨hM, ⟨es', c', f1, f2, f3⟩, setPut_nodup h.apart k⟩, fun c hc => ?_, by simp, fun n hn => setBlock_below w b o hn⟩
 simp only [Array.getElem?_setIfInBounds]
 rw [if_neg (fun e => hc e.symm)]
def keyI : Value → Int
 | .int _ n => n
 | _ => 0
def ItB (w : World) (r b : Nat) (ks left : List Int) : Prop := ∃ es clock seen c0, w.heap[r]? = some (.mapIter (some b) clock seen c0) ∧ clock ≤ c0 ∧ w.heap[b]? = some (.map es clock) ∧ MapKept.Stamped es clock ∧ es.toList.map (fun e => (e.key, e.val)) = ks.map (fun k => (kI k, Value.bool true)) ∧ left = (leftOf es seen).toList.map fun e => keyI e.key
theorem entry_shape {es : List MapEntry} {ks : List Int} (h : es.map (fun e => (e.key, e.val)) = ks.map (fun k => (kI k, Value.bool true))) {e : MapEntry} (he : e ∈ es) : e.key = .int .i64 (keyI e.key) ∧ e.val = .bool true ∧ keyI e.key ∈ ks := by
 have : (e.key, e.val) ∈ ks.map (fun k => (kI k, Value.bool true)) := by rw [← h]; exact List.mem_map.2 ⟨e, he, rfl⟩
 obtain ⟨k, hk, h2⟩ := List.mem_map.1 this
 simp only [Prod.mk.injEq] at h2
 rw [← h2.1, ← h2.2]
 exact ⟨rfl, rfl, hk⟩
theorem ItB.ne {w : World} {r b : Nat} {ks left : List Int} (h : ItB w r b ks left) : r ≠ b := by
 obtain ⟨es, clock, seen, c0, h1, _, h2, _⟩ := h
 rintro rfl
 rw [h1] at h2; cases h2
theorem ItB.cnt {w : World} {r b : Nat} {ks left : List Int} (h : ItB w r b ks left) : w.rangeLeft b r = left.length := by
 obtain ⟨es, clock, seen, c0, h1, _, h2, _, _, rfl⟩ := h
 unfold World.rangeLeft
 rw [h1, h2]
 simp
theorem ItB.sub {w : World} {r b : Nat} {ks left : List Int} (h : ItB w r b ks left) : ∀ x ∈ left, x ∈ ks := by
 obtain ⟨es, clock, seen, c0, h1, _, h2, _, h4, rfl⟩ := h
 intro x hx
 obtain ⟨e, he, rfl⟩ := List.mem_map.1 hx
 exact (entry_shape h4 (mem_left he).1).2.2
theorem SetB.range {w : World} {b : Nat} {ks : List Int} (h : SetB w b ks) (hT : P.underlying T = some (.map K E)) :
  ∃ W, (Instr.range T (.map (some b))).run P w = .ok (.pointer (some ⟨w.heap.size, 0, none⟩)) W ∧ ItB W w.heap.size b ks ks ∧ Below w.heap.size w W ∧ W.heap.size = w.heap.size + 1 := by
 obtain ⟨es, c, e1, e2, e3⟩ := h.stamp
 obtain ⟨es', c', f1, f2⟩ := h.map_
 rw [e1] at f1
 cases f1
 refine ⟨_, run_range_map w T K E b es c hT e1, ⟨es, c, #[], c, heap_alloc_new w _, Nat.le_refl _, (((Below.refl w.heap.size w).alloc (Nat.le_refl _) _).block b (SetB.lt h)).trans e1, e2, by rw [f2]; unfold setKv; rw [List.map_map]; rfl, ?_⟩, (Below.refl _ _).alloc (Nat.le_refl _) _, by simp⟩
 have h0 : leftOf es #[] = es := by unfold leftOf; exact Array.filter_eq_self.2 (by simp)
 rw [h0]
 have h3 := congrArg (List.map fun p : Value × Value => keyI p.1) f2
 rw [List.map_map, List.map_map] at h3
 unfold setKv at h3
 rw [List.map_map] at h3
 refine Eq.trans ?_ h3.symm
 induction ks with
 | nil => rfl
 | cons a r ih => simp [Function.comp_def, kI, keyI]
theorem drew_below (w : World) (n : Nat) : Below n w w.drew := (Below.refl n w).drew
theorem setB_below {w W : World} (hw : W = w ∨ W = w.drew) (r : Nat) (o : Obj) {n : Nat} (hn : n ≤ r) : Below n w { W with heap := W.heap.setIfInBounds r o } := by
 have h1 : Below n w W := by rcases hw with rfl | rfl; exact Below.refl _ _; exact drew_below _ _
 exact h1.trans (setBlock_below W r o hn)
theorem ItB.next {w : World} {r b : Nat} {ks left : List Int} (h : ItB w r b ks left) :
  (left = [] ∧ ∀ ty, (Instr.next (.pointer (some ⟨r, 0, none⟩)) false ty).run P w = .ok (.tuple #[.bool false]) w) ∨
  ∃ k W left', k ∈ left ∧ (∃ _ : Unit, ∀ ty, (Instr.next (.pointer (some ⟨r, 0, none⟩)) false ty).run P w = .ok (.tuple #[.bool true, .int .i64 k, .bool true]) W) ∧ (Instr.entry (.pointer (some ⟨r, 0, none⟩))).run P W = .ok (.tuple #[.int .i64 k, .bool true]) W ∧
   ItB W r b ks left' ∧ (∀ x ∈ left, x = k ∨ x ∈ left') ∧ left'.length < left.length ∧ (∀ c, c ≠ r → W.heap[c]? = w.heap[c]?) ∧ W.heap.size = w.heap.size ∧ ∀ n, n ≤ r → Below n w W := by
 have hne := h.ne
 obtain ⟨es, clock, seen, c0, h1, hc, h2, h3, h4, rfl⟩ := h
 rcases run_next_at (P := P) w 0 r b clock c0 seen es clock h1 h2 h3.1 hc with ⟨h0, hrun⟩ | ⟨e, he, w1, hw, hrun⟩
 ·left
  refine ⟨?_, fun _ => hrun⟩
  rw [Array.eq_empty_of_size_eq_zero h0]; rfl
 ·right
  have hm := mem_left he
  obtain ⟨k1, k2, k3⟩ := entry_shape h4 hm.1
  have hh : w1.heap = w.heap := by rcases hw with rfl | rfl <;> rfl
  have hrl : r < w.heap.size := (Array.getElem?_eq_some_iff.1 h1).1
  have gr : (ChangeMaps.setBlock w1 r (.mapIter (some b) clock (seen.push e.born) clock)).heap[r]? = some (.mapIter (some b) clock (seen.push e.born) clock) := by
   unfold ChangeMaps.setBlock
   simp only [Array.getElem?_setIfInBounds, if_true]
   rw [if_pos (by rw [hh]; exact hrl)]
  have go : ∀ c, c ≠ r → (ChangeMaps.setBlock w1 r (.mapIter (some b) clock (seen.push e.born) clock)).heap[c]? = w.heap[c]? := fun c hcr => by
   unfold ChangeMaps.setBlock
   simp only [Array.getElem?_setIfInBounds]
   rw [if_neg (fun e => hcr e.symm), hh]
  have gb := (go b (fun e => hne e.symm)).trans h2
  have hen := run_entry_at (P := P) (ChangeMaps.setBlock w1 r (.mapIter (some b) clock (seen.push e.born) clock)) r b clock seen es clock e gr gb hm.1 h3.2.1
  rw [k1, k2] at hrun hen
  refine ⟨keyI e.key, _, (leftOf es (seen.push e.born)).toList.map fun e => keyI e.key, List.mem_map.2 ⟨e, he, rfl⟩, ⟨(), fun _ => hrun⟩, hen, ⟨es, clock, _, clock, gr, Nat.le_refl _, gb, h3, h4, rfl⟩, fun x hx => ?_, ?_, go, ?_, fun n hn => setB_below hw r _ hn⟩
  ·obtain ⟨y, hy, rfl⟩ := List.mem_map.1 hx
   by_cases hb : y.born = e.born
   ·left
    have hn := h3.2.1
    have hyy := (mem_left hy).1
    have f1 := find_born e es.toList hn hm.1
    have f2 := find_born y es.toList hn hyy
    rw [hb] at f2
    rw [f1] at f2
    injection f2 with f2
    rw [f2]
   ·right
    refine List.mem_map.2 ⟨y, ?_, rfl⟩
    have hy2 := mem_left hy
    unfold leftOf
    rw [Array.mem_toList_iff, Array.mem_filter]
    refine ⟨Array.mem_toList_iff.1 hy2.1, ?_⟩
    rw [contains_push, hy2.2]
    simpa using hb
  ·simpa using left_shrinks es seen e he
  ·unfold ChangeMaps.setBlock
   simp [hh]
end Go.Proofs.Ytpnbpepkoekkoaa
end
section
namespace Go.Proofs.Ytpnbpepkoekkoaa
open Go Go.RowKit Go.Deep
end Go.Proofs.Ytpnbpepkoekkoaa
end
section
namespace Go.Proofs.Ytpnbpepkoekkoaa
open Go Go.RowKit Go.Deep
end Go.Proofs.Ytpnbpepkoekkoaa
end
section
namespace Go.Proofs.Ytpnbpepkoekkoaa
open Go Go.RowKit Go.Deep
theorem wp_seq_thenQ {P : Program} {x y : Code} {Q : Exit → Act → World → Prop} {a : Act} {w : World} (h : ∀ K : Act → World → Prop, (∀ a w, y.wp P Q a w → K a w) → x.wp P (Exit.then K Q) a w) : (Code.seq x y).wp P Q a w := wp_seq (h _ fun _ _ h => h)
end Go.Proofs.Ytpnbpepkoekkoaa
end
section
namespace Go.Proofs.Ytpnbpepkoekkoaa
open Go Go.RowKit Go.Deep
def encQ (r : RefL) : List Value := [.pointer (some ⟨r.b, r.o, none⟩), .bool (decide (r.to = 2))]
def ptrs (rs : List RefL) : List RefL := rs.filter fun r => decide (r.to ≠ 0)
structure PtS (G acc rest : List RefL) (w : World) (v : Value) (W : World) : Prop where
 eq : acc ++ ptrs rest = G
 own : W.ownsRow w.heap.size 48 2 v acc.length (acc.flatMap encQ)
 below : Below w.heap.size w W
theorem PtS.one {G acc rest : List RefL} {r : RefL} {w W W' : World} {v v' : Value} (h : PtS G acc (r :: rest) w v W) (hr : r.to ≠ 0) (hw : Below W.heap.size W W') (hY : W.heap.size ≤ W'.heap.size) {W2 : World} (ho : W2.ownsRow w.heap.size 48 2 v' (acc.length + 1) (acc.flatMap encQ ++ encQ r)) (hg : W'.grownBy W2 v.ownBlock) :
  PtS G (acc ++ [r]) rest w v' W2 := by
 refine ⟨?_, ?_, ?_⟩
 ·rw [← h.eq]
  unfold ptrs
  rw [List.filter_cons, if_pos (by simpa using hr)]
  simp
 ·rw [List.length_append, List.flatMap_append]
  simpa using ho
 ·have hs := h.below.size
  exact (h.below.trans (hw.mono hs)).grown hg (by omega) fun k hk => (h.own.lt k hk).1
theorem PtS.skip {G acc rest : List RefL} {r : RefL} {w W : World} {v : Value} (h : PtS G acc (r :: rest) w v W) (hr : r.to = 0) : PtS G acc rest w v W := by
 refine ⟨?_, h.own, h.below⟩
 rw [← h.eq]
 unfold ptrs
 rw [List.filter_cons, if_neg (by simp [hr])]
theorem PtS.len {G acc rest : List RefL} {w W : World} {v : Value} (h : PtS G acc rest w v W) : acc.length ≤ G.length := by
 rw [← h.eq, List.length_append]; omega
end Go.Proofs.Ytpnbpepkoekkoaa
end
section
namespace Go.Proofs.Ytpnbpepkoekkoaa
open Go Go.RowKit Go.Deep
end Go.Proofs.Ytpnbpepkoekkoaa
end
section
namespace Go.Proofs.Ytpnbpepkoekkoaa
open Go Go.RowKit Go.Deep
end Go.Proofs.Ytpnbpepkoekkoaa
end
section
namespace Go.Proofs.Ytpnbpepkoekkoaa
open Go Go.RowKit Go.Deep
theorem eq_same22 (a b : Int) (w : World) : (Op.equalIn 10000 22 (.agg #[.int .i64 a, .int .i64 b]) (.agg #[.int .i64 a, .int .i64 b])).run Try.prog w = .ok true w := by
 have u3 := Try.underlying3
 have a3 := Try.isAgg3
 have z3 := Try.sizeOf3
 have hc : Try.prog.cellsOf 3 = 1 := by kernel_rfl
 have hq : (Try.prog.info? 3).isSome = true := by kernel_rfl
 obtain ⟨i3, hi3⟩ := Option.isSome_iff_exists.1 hq
 rw [show (10000 : Nat) = 9998 + 1 + 1 from rfl, run_equalIn_array w (9998 + 1) _ _ Try.underlying22 hi3, hc]
 simp only [List.range, List.range.loop, Op.eqItems]
 go_simp
attribute [local go_sem] eq_same22
end Go.Proofs.Ytpnbpepkoekkoaa
end
section
namespace Go.Proofs.Ytpnbpepkoekkoaa
open Go Go.RowKit Go.Deep
end Go.Proofs.Ytpnbpepkoekkoaa
end
section
namespace Go.Proofs.Ytpnbpepkoekkoaa
open Go Go.RowKit Go.Deep
end Go.Proofs.Ytpnbpepkoekkoaa
end
section
namespace Go.Proofs.Ytpnbpepkoekkoaa
open Go Go.RowKit Go.Deep
end Go.Proofs.Ytpnbpepkoekkoaa
end
section
namespace Go.Proofs.Ytpnbpepkoekkoaa
open Go Go.RowKit Go.Deep
end Go.Proofs.Ytpnbpepkoekkoaa
end
section
namespace Go.Proofs.Ytpnbpepkoekkoaa
open Go Go.RowKit Go.Deep
structure LawIn (s : Ls) (ns : List Int) (w : World) : Prop where
 at_ : s.At w
 ns : NsAt w s.refs ns
 env : ∀ V, Below w.heap.size w V → Env V
 fit : s.mfit
structure LawW (s : Ls) (w W : World) : Prop where
 below : Below w.heap.size w W
 box : W.heap[w.heap.size]? = some (.cells s.cells 30 (0, 0))
theorem LawW.next {s : Ls} {w W W' : World} (h : LawW s w W) (hb : Below W.heap.size W W') : LawW s w W' := ⟨thenB h.below hb, keepO hb h.box⟩
end Go.Proofs.Ytpnbpepkoekkoaa
end
