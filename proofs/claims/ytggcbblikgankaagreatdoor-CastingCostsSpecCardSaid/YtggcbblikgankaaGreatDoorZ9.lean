/- Contracts and plain laws on the way to the statement: part 9. -/
import Derived.Test.YtggcbblikgankaaGreatDoorZ8
import Derived.WalkKit
import Derived.Maps.Own
import Derived.Test.YtggcbblikgankaaGreatDoorZ3
set_option linter.unusedVariables false
set_option linter.unusedSimpArgs false
set_option maxRecDepth 100000
set_option maxHeartbeats 16000000
namespace Go.Proofs.YtggcbblikgankaaGreatDoor
open Go.Value (int)
open Go.IntKind (i64)
section
open Go Go.RowKit
def MapAt (w : World) (b : Nat) (kvs : List (Int × Value)) : Prop :=
 ∃ es clock, w.heap[b]? = some (.map es clock) ∧ es.toList.map (fun e => (e.key, e.val)) = kvs.map (fun p => (Value.int .i64 p.1, p.2))
def BX (kvs : List (Int × Value)) (k : Int) : Option Value := (kvs.find? (fun p => p.1 == k)).map (·.2)
def LI (kvs : List (Int × Value)) (k : Int) (v : Value) : List (Int × Value) :=
 if (BX kvs k).isSome then kvs.map (fun p => if p.1 == k then (p.1, v) else p) else kvs ++ [(k, v)]
theorem MapAt.lt {w : World} {b : Nat} {kvs : List (Int × Value)} (h : MapAt w b kvs) : b < w.heap.size := by
 obtain ⟨es, c, h, _⟩ := h; exact (qs.1 h).1
theorem MapAt.of_block {w w' : World} {b : Nat} {kvs : List (Int × Value)} (h : MapAt w b kvs) (hb : w'.heap[b]? = w.heap[b]?) : MapAt w' b kvs := by
 obtain ⟨es, c, h, h2⟩ := h; exact ⟨es, c, hb.trans h, h2⟩
theorem MapAt.below {w w' : World} {b n : Nat} {kvs : List (Int × Value)} (h : MapAt w b kvs) (hb : Below n w w') (hn : b < n) : MapAt w' b kvs := h.of_block (hb.block _ hn)
theorem MapAt.drewN {w : World} {b : Nat} {kvs : List (Int × Value)} (h : MapAt w b kvs) (n : Nat) : MapAt (w.drewN n) b kvs := h
theorem MapAt.new (w : World) : MapAt (w.alloc (.map #[] 0)) w.heap.size [] := ⟨#[], 0, heap_alloc_new w _, rfl⟩
theorem Im (k : Int) : ∀ (es : List MapEntry) (kvs : List (Int × Value)) (i : Nat), es.map (fun e => (e.key, e.val)) = kvs.map (fun p => (Value.int .i64 p.1, p.2)) →
  (BX kvs k = none → Instr.findNow (.int .i64) (int i64 k) es i = some none) ∧
  (∀ v, BX kvs k = some v → ∃ j, Instr.findNow (.int .i64) (int i64 k) es i = some (some (i + j, v)) ∧ ∃ kv, kvs[j]? = some kv ∧ kv.1 = k ∧ ∀ j', j' < j → ∀ p, kvs[j']? = some p → p.1 ≠ k)
 | [], [], i, _ => by simp [BX, Instr.findNow]
 | [], _ :: _, _, h => by simp at h
 | _ :: _, [], _, h => by simp at h
 | e :: es, p :: kvs, i, h => by
  simp only [List.map_cons, List.cons.injEq, Prod.mk.injEq] at h
  obtain ⟨⟨h1, h2⟩, h3⟩ := h
  obtain ⟨i1, i2⟩ := Im k es kvs (i + 1) h3
  unfold BX at i1 i2 ⊢
  by_cases hk : p.1 = k
  ·refine ⟨fun hn => ?_, fun v hv => ⟨0, ?_, p, rfl, hk, fun j' hj' => by omega⟩⟩
   ·rw [List.find?_cons_of_pos (by simpa using hk)] at hn; simp at hn
   ·rw [List.find?_cons_of_pos (by simpa using hk)] at hv
    simp at hv
    simp [Instr.findNow, Instr.sameNow, h1, hk, h2, hv]
  ·have hk2 : (k == p.1) = false := by simpa using fun e => hk e.symm
   have hs : Instr.sameNow (.int .i64) (int i64 k) e.key = some false := by rw [h1]; simp [Instr.sameNow, hk2]
   rw [List.find?_cons_of_neg (by simpa using hk)]
   unfold Instr.findNow
   rw [hs]
   refine ⟨i1, fun v hv => ?_⟩
   obtain ⟨j, e1, kv, e2, e3, e4⟩ := i2 v hv
   refine ⟨j + 1, by simpa [Nat.add_assoc, Nat.add_comm 1] using e1, kv, by simpa using e2, e3, fun j' hj' q hq => ?_⟩
   rcases j' with _ | j'
   ·simp at hq; subst hq; exact hk
   ·exact e4 j' (by omega) q (by simpa using hq)
section
variable {P : Program} {T K E : TypeId}
theorem Dv (hT : P.underlying T = some (.map K E)) (hK : P.underlying K = some (.int .i64)) {w : World} {b : Nat} {kvs : List (Int × Value)} (h : MapAt w b kvs) (k : Int) {z : Value} (hz : (zeroValue E).run P w = .ok z w) (ok : Bool) :
  (Instr.lookup T (.map (some b)) (int i64 k) ok).run P w = .ok (if ok then .tuple #[(BX kvs k).getD z, .bool (BX kvs k).isSome] else (BX kvs k).getD z) w := by
 obtain ⟨es, c, hb, he⟩ := h
 obtain ⟨f1, f2⟩ := Im k es.toList kvs 0 he
 have hc : (Instr.checkKey es.isEmpty 10000 K (int i64 k)).run P w = .ok () w := MapKept.run_checkKey hK (by show IntKind.i64 = .i64; rfl) _ _
 cases hg : BX kvs k with
 | none =>
  have f := MapKept.run_findKey (w := w) hK (f1 hg)
  cases ok <;> simp [Instr.lookup, run_underlying hT, MapKept.run_getObj_map hb, hc, f, hz, Result.andThen]
 | some v =>
  obtain ⟨j, f, _⟩ := f2 v hg
  have f := MapKept.run_findKey (w := w) hK f
  cases ok <;> simp [Instr.lookup, run_underlying hT, MapKept.run_getObj_map hb, hc, f, Result.andThen]
theorem ED (w : World) (b : Nat) (o : Obj) : w.grownBy { w with heap := w.heap.setIfInBounds b o } (some b) :=
 ⟨rfl, rfl, rfl, by simp, fun k _ hk => by
  show (w.heap.setIfInBounds b o)[k]? = w.heap[k]?
  exact Array.getElem?_setIfInBounds_ne (fun e => hk (by rw [e]))⟩
theorem Ef (w : World) (b : Nat) (o : Obj) {n : Nat} (hn : n ≤ b) : Below n w { w with heap := w.heap.setIfInBounds b o } :=
 ⟨rfl, rfl, rfl, by simp, fun k hk => by
  show (w.heap.setIfInBounds b o)[k]? = w.heap[k]?
  exact Array.getElem?_setIfInBounds_ne (by omega)⟩
theorem PZ {kvs : List (Int × Value)} {k : Int} {v : Value} {j : Nat} (es : List MapEntry) (he : es.map (fun e => (e.key, e.val)) = kvs.map (fun p => (Value.int .i64 p.1, p.2))) (hk : ∀ p, kvs[j]? = some p → p.1 = k) (hlt : ∀ j', j' ≠ j → ∀ p, kvs[j']? = some p → p.1 ≠ k) :
  (es.modify j fun e => { e with key := int i64 k, val := v }).map (fun e => (e.key, e.val)) = (kvs.map (fun p => if p.1 == k then (p.1, v) else p)).map (fun p => (Value.int .i64 p.1, p.2)) := by
 apply List.ext_getElem?
 intro i
 have h1 := congrArg (fun l => l[i]?) he
 simp only [List.getElem?_map] at h1
 rw [List.getElem?_map, List.getElem?_modify, List.map_map, List.getElem?_map]
 cases hkv : kvs[i]? with
 | none => rw [hkv] at h1; cases hes : es[i]? with
  | none => simp
  | some e => rw [hes] at h1; simp at h1
 | some p =>
  rw [hkv] at h1
  cases hes : es[i]? with
  | none => rw [hes] at h1; simp at h1
  | some e =>
   rw [hes] at h1
   simp only [Option.map_some, Option.some.injEq, Prod.mk.injEq] at h1
   by_cases hij : j = i
   ·subst hij
    simp [hk p hkv]
   ·have := hlt i (fun e => hij e.symm) p hkv
    simp [hij, this, h1]
def AY (kvs : List (Int × Value)) : Prop := (kvs.map (·.1)).Nodup
theorem B6 (hT : P.underlying T = some (.map K E)) (hK : P.underlying K = some (.int .i64)) {w : World} {b : Nat} {kvs : List (Int × Value)} (h : MapAt w b kvs) (hn : AY kvs) (k : Int) (v : Value) :
  ∃ o, (Instr.mapUpdate T (.map (some b)) (int i64 k) v).run P w = .ok () { w with heap := w.heap.setIfInBounds b o } ∧ MapAt { w with heap := w.heap.setIfInBounds b o } b (LI kvs k v) := by
 obtain ⟨es, c, hb, he⟩ := h
 obtain ⟨f1, f2⟩ := Im k es.toList kvs 0 he
 have hc : (Instr.checkKey false 10000 K (int i64 k)).run P w = .ok () w := MapKept.run_checkKey hK (by show IntKind.i64 = .i64; rfl) _ _
 unfold LI
 cases hg : BX kvs k with
 | none =>
  have f := MapKept.run_findKey (w := w) hK (f1 hg)
  refine ⟨.map (es.push ⟨int i64 k, v, c⟩) (c + 1), ?_, _, _, (MapKept.heap_set hb).1, by simp [he]⟩
  simp [Instr.mapUpdate, run_underlying hT, MapKept.run_getObj_map hb, hc, f, MapKept.run_setObj_map _ hb, Result.andThen]
 | some v0 =>
  obtain ⟨j, f, kv, e1, e2, e3⟩ := f2 v0 hg
  have f := MapKept.run_findKey (w := w) hK f
  have hjl : j < kvs.length := (ql.1 e1).1
  have hel : es.toList.length = kvs.length := by simpa using congrArg List.length he
  obtain ⟨e, hej⟩ : ∃ e, es[j]? = some e := ⟨_, Array.getElem?_eq_getElem (by rw [← Array.length_toList, hel]; exact hjl)⟩
  have hek : e.key = int i64 k := by
   have h1 := congrArg (fun l => l[j]?) he
   simp only [List.getElem?_map, e1, Array.getElem?_toList, hej, Option.map_some, Option.some.injEq, Prod.mk.injEq] at h1
   rw [h1.1, e2]
  have hst : (Instr.keyThatStays (int i64 k) (int i64 k)).run P w = .ok (int i64 k) w := MapKept.run_keyThatStays (d := .int .i64) (by show IntKind.i64 = .i64; rfl)
  refine ⟨.map (es.modify j fun e => { e with key := int i64 k, val := v }) c, ?_, _, _, (MapKept.heap_set hb).1, ?_⟩
  ·simp [Instr.mapUpdate, run_underlying hT, MapKept.run_getObj_map hb, hc, f, hej, hek, hst, MapKept.run_setObj_map _ hb, Result.andThen]
  ·rw [Array.toList_modify]
   simp only [Option.isSome_some, if_true]
   refine PZ es.toList he (fun p hp => by rw [e1] at hp; cases hp; exact e2) (fun j' hne p hp hpk => ?_)
   have hj' : j' < kvs.length := (ql.1 hp).1
   have n1 : (kvs.map (·.1))[j']? = some k := by rw [List.getElem?_map, hp]; simp [hpk]
   have n2 : (kvs.map (·.1))[j]? = some k := by rw [List.getElem?_map, e1]; simp [e2]
   exact hne ((List.getElem?_inj (by simpa using hj') hn).1 (n1.trans n2.symm))
end
end
end Go.Proofs.YtggcbblikgankaaGreatDoor
