/- Contracts and plain laws on the way to the statement: part 5. -/
import Derived.Test.YtggcbblikgankaaGreatDoorZ4
import Derived.RangeFuncFrom
import Derived.Lib.Hide
import Derived.RangeFuncLeaves
import Derived.RangeFuncNested
import Derived.Test.YtggcbblikgankaaGreatDoorZ3
set_option linter.unusedVariables false
set_option linter.unusedSimpArgs false
set_option maxRecDepth 100000
set_option maxHeartbeats 16000000
namespace Go.Proofs.YtggcbblikgankaaGreatDoor
open Go.Value (int)
open Go.IntKind (i64)
section
open Go Go.RowKit
def Er {β : Type} (J : β → World → Prop) : Prop := ∀ s W W', J s W → Below W.heap.size W W' → J s W'
def Rn {α : Type} (n₀ : Nat) (I : List α → World → Prop) (xs : List α) (W : World) : Exit → Act → World → Prop
 | .normal, _, W' => KeepsOthers W W' ∧ Below n₀ W W' ∧ I xs W'
 | _, _, _ => False
variable {F : Fence} {n : Nat} {P : Program}
def QH {α : Type} (F : Fence) (n : Nat) (P : Program) (gf : Nat) (lb : Array Value) (encs : α → Array Value) (n₀ : Nat) (S : List α → Prop) (N : Nat) (w : World) : Prop :=
 ∀ (l : Nat) (J : List α → World → Prop) (W : World), Below w.heap.size w W → Er J →
   (∀ pre x W1, J pre W1 → pre.length < N → YieldAt F (n - 1) P l (encs x) W1 fun e W' => e = .returned (.bool true) ∧ J (pre ++ [x]) W' ∧ Below n₀ W1 W') → J [] W →
   CallsIn F n P gf (#[.func (.yield l) #[] #[]] ++ lb) W fun e W' => (∃ v, e = .returned v) ∧ ∃ xs, S xs ∧ J xs W'
theorem Ep {α : Type} {g : Operand} {ps : Array Go.Tmp} {assign body : Code} {Q : Exit → Act → World → Prop} {a : Act} {w : World}
  (hro : F.round = none) (h1 : 1 ≤ n) {gf : Nat} {lb : Array Value} (hg : a.eval g = .func (.func gf) #[] lb) (hFg : F.fn gf) (eg : ∀ args w, (callFunc gf args).run P w = .ok (.enter gf args) w)
  {encs : α → Array Value} {n₀ : Nat} (hn0 : n₀ ≤ w.heap.size) {S : List α → Prop} {N : Nat} (hseq : QH F (n - 1) P gf lb encs n₀ S N w)
  (hps : ∀ x, (encs x).size = ps.size)
  (I : List α → World → Prop) (hI : OwnFrom w.heap.size I) (hIk : Er I) (h0 : I [] w) (Ax : α → Act → World → Prop) (hAx : ∀ x a', OwnFrom w.heap.size (fun (_ : Unit) W => Ax x a' W))
  (hassign : ∀ (l : Nat) (pre : List α) (x : α) (W : World) (K : Act → World → Prop), I pre W → (∀ a' W', KeepsOthers W W' → Below W.heap.size W W' → Ax x a' W' → K a' W') →
   assign.wpIn (F.inRound l) (n - 1 - 1) P (Exit.then K (fun _ _ _ => False)) { tmps := (ps.zip (encs x)).foldl (fun t (p, v) => t.setIfInBounds p v) a.tmps, defers := [] } W)
  (hbody : ∀ (l : Nat) (pre : List α) (x : α) (a' : Act) (W : World), I pre W → Ax x a' W → pre.length < N → body.wpIn (F.inRound l) (n - 1 - 1) P (Rn n₀ I (pre ++ [x]) W) a' W)
  (hdone : ∀ (D : Nat) (xs : List α) (W : World), w.heap.size ≤ D → S xs → I xs W → W.heap[D]? = some (.deferred (some [])) → Q .normal { a with defers := { target := .collected D, args := #[] } :: a.defers } W) :
  (Code.rangeFunc g ps assign body).wpIn F n P Q a w := by
 refine wpIn_rangeFunc fun fn hfn => ?_
 rw [hro]
 generalize hrec : (fun (st : LoopState) => ({ state := st, pending := none, fn := fn, tmps := a.tmps, params := ps, assign := assign, body := body, defers := w.heap.size } : Loop)) = rec
 have er : ∀ st, ({ state := st, pending := none, fn := fn, tmps := a.tmps, params := ps, assign := assign, body := body, defers := w.heap.size } : Loop) = rec st := fun st => by rw [← hrec]
 generalize hW1 : (w.alloc (.deferred (some []))).alloc (.loop (rec .ready)) = W1
 have hL : W1.heap[w.heap.size + 1]? = some (.loop (rec .ready)) := by
  rw [← hW1]; have := World.alloc_heap_new (w.alloc (.deferred (some []))) (.loop (rec .ready)); rwa [World.size_alloc] at this
 have hD : W1.heap[w.heap.size]? = some (.deferred (some [])) := by
  rw [← hW1]; exact (Below.heap_alloc _ _ _ (by simp)).trans (World.alloc_heap_new w _)
 have hI1 : I [] W1 := by rw [← hW1]; exact hI.alloc _ (hI.alloc _ h0)
 have hB1 : Below w.heap.size w W1 := by rw [← hW1]; exact ((Below.refl _ w).alloc (qn _) _).alloc (by simp) _
 have hput : ∀ (W : World) (o o' : Obj), W.heap[w.heap.size + 1]? = some o → o.isCells = false → o.isWalk = false → Below n₀ W (W.putObj (w.heap.size + 1) o') := fun W o o' h h2 h3 => belowK_b hn0 W (w.heap.size + 1) o o' (by omega) h h2 h3
 refine ⟨w.heap.size + 1, [{ target := .collected w.heap.size, args := #[] }], W1, { target := .fn (.func gf) lb, args := #[.func (.yield (w.heap.size + 1)) #[] #[]] }, W1, gf, #[.func (.yield (w.heap.size + 1)) #[] #[]] ++ lb, W1, ?_, ?_, ?_, ?_, fun _ => h1, ?_⟩
 ·rw [run_enterLoop_outer, er, hW1]
 ·simp only [resolve, hg]
  simp [go_sem]
 ·intro f' hf'; simp [Target.leads] at hf'; subst hf'; exact hFg
 ·simp [invoke, go_sem, eg]
 ·refine (hseq (w.heap.size + 1) (fun pre W => I pre W ∧ W.heap[w.heap.size + 1]? = some (.loop (rec .ready)) ∧ W.heap[w.heap.size]? = some (.deferred (some []))) W1 hB1 ?_ ?_ ⟨hI1, hL, hD⟩).mono ?_
  ·rintro s W W' ⟨i1, i2, i3⟩ hb
   exact ⟨hIk s W W' i1 hb, (hb.block _ (qs.1 i2).1).trans i2, (hb.block _ (qs.1 i3).1).trans i3⟩
  ·rintro pre x W ⟨i1, i2, i3⟩ hlen
   have hy := run_yield (P := P) (args := encs x) i2 (by rw [← hrec]; exact hps x)
   rw [← hrec] at hy
   refine ⟨fn, _, assign, body, hy, roundIn_of_wpIn hfn (hassign _ pre x W _ i1 fun a' W' hko hbw hax => ?_)⟩
   have W0 := qh i2
   have hbn : Below n₀ W W' := hbw.mono (by have := (qs.1 i2).1; omega)
   replace i1 := hIk _ _ _ i1 hbw
   replace i2 := hko.same _ _ i2 rfl
   replace i3 := hko.same _ _ i3 rfl
   refine ⟨_, run_beginRound i2 (by rw [← hrec]), ?_⟩
   have hb : ({ rec .ready with state := .busy } : Loop) = rec .busy := by rw [← hrec]
   rw [hb]
   have hlt : w.heap.size + 1 < W'.heap.size := (qs.1 i2).1
   have j2 : (W'.putObj (w.heap.size + 1) (.loop (rec .busy))).heap[w.heap.size + 1]? = some (.loop (rec .busy)) := World.putObj_heap_same hlt
   have j3 : (W'.putObj (w.heap.size + 1) (.loop (rec .busy))).heap[w.heap.size]? = some (.deferred (some [])) := (World.putObj_heap_other (by omega)).trans i3
   refine wpIn_mono (hbody _ pre x a' _ (hI.putObj _ i1 (by omega) i2 rfl) ((hAx x a').putObj (s := ()) _ hax (by omega) i2 rfl) hlen) ?_
   intro e a3 W3 hp
   cases e with
   | normal =>
    obtain ⟨k1, k2, k3⟩ := hp
    have l2 := k1.same _ _ j2 rfl
    have l3 := k1.same _ _ j3 rfl
    have hr := run_endRound (P := P) none l2
    have hb2 : ({ rec .busy with state := if (none : Option Code).isNone = true then LoopState.ready else LoopState.done, pending := none } : Loop) = rec .ready := by rw [← hrec]; rfl
    rw [hb2] at hr
    refine ⟨_, _, hr, rfl, ⟨hI.putObj _ k3 (by omega) l2 rfl, World.putObj_heap_same (qs.1 l2).1, (World.putObj_heap_other (by omega)).trans l3⟩, ?_⟩
    exact hbn.trans (((hput W' _ _ i2 rfl rfl).trans k2).trans (hput W3 _ _ l2 rfl rfl))
   | _ => exact hp.elim
  ·rintro e W2 ⟨⟨v, rfl⟩, xs, hS, i1, i2, i3⟩
   have he := run_endLoop (P := P) i2 (by rw [← hrec]; simp)
   have hp : (rec .ready).pending = none := by rw [← hrec]
   have hb3 : ({ rec .ready with state := .exhausted } : Loop) = rec .exhausted := by rw [← hrec]
   rw [hb3, hp] at he
   exact ⟨none, _, he, hdone _ xs _ (qn _) hS (hI.putObj _ i1 (by omega) i2 rfl) ((World.putObj_heap_other (by omega)).trans i3)⟩
end
section
open Go Go.RowKit
structure ButOne (R : Nat) (W W' : World) : Prop where
 os : W'.os = W.os
 tape : W'.tape = W.tape
 output : W'.output = W.output
 size : W.heap.size ≤ W'.heap.size
 block : ∀ b, b < W.heap.size → b ≠ R → W'.heap[b]? = W.heap[b]?
theorem ButOne.of_below {R : Nat} {W W' : World} (h : Below W.heap.size W W') : ButOne R W W' := ⟨h.os, h.tape, h.output, h.size, fun b hb _ => h.block b hb⟩
theorem ButOne.trans {R : Nat} {A B C : World} (h : ButOne R A B) (k : ButOne R B C) : ButOne R A C :=
 ⟨k.os.trans h.os, k.tape.trans h.tape, k.output.trans h.output, Nat.le_trans h.size k.size, fun b hb hr => (k.block b (Nat.lt_of_lt_of_le hb h.size) hr).trans (h.block b hb hr)⟩
theorem ButOne.putObj (W : World) (R : Nat) (o : Obj) : ButOne R W (W.putObj R o) :=
 ⟨rfl, rfl, rfl, by simp [World.putObj], fun _ _ hr => World.putObj_heap_other hr⟩
theorem ButOne.below {R : Nat} {W W' : World} (h : ButOne R W W') (hr : R ≤ W.heap.size) : Below R W W' :=
 ⟨h.os, h.tape, h.output, h.size, fun k hk => h.block k (by omega) (by omega)⟩
def Mm (R : Nat) (W W' : World) : Prop := ∀ b, R < b → b < W.heap.size → W'.heap[b]? = W.heap[b]?
theorem ButOne.past {R : Nat} {W W' : World} (h : ButOne R W W') : Mm R W W' := fun b hr hb => h.block b hb (by omega)
theorem ButOne.then_past {R : Nat} {A B C : World} (h : ButOne R A B) (k : Mm R B C) : Mm R A C := fun b hr hb => (k b hr (Nat.lt_of_lt_of_le hb h.size)).trans (h.block b hb (by omega))
def QX {α : Type} (B : Nat) (I Ix : List α → World → Prop) (xs : List α) (W : World) : Exit → Act → World → Prop
 | .normal, _, W' => KeepsOthers W W' ∧ Below W.heap.size W W' ∧ I xs W'
 | .ret, _, W' => KeepsOthers W W' ∧ Ix xs W' ∧ ∀ b, B ≤ b → b < W.heap.size → W'.heap[b]? = W.heap[b]?
 | _, _, _ => False
variable {F : Fence} {n : Nat} {P : Program}
def JD {α : Type} (F : Fence) (n : Nat) (P : Program) (gf : Nat) (lb : Array Value) (encs : α → Array Value) (G : α → World → Prop) (S Sp : List α → Prop) (w : World) : Prop :=
 ∀ (l R : Nat) (J Jx : List α → World → Prop) (W : World), Below w.heap.size w W → w.heap.size ≤ R → R < W.heap.size → Er J →
   (∀ pre x W1, J pre W1 → G x W1 → YieldAt F (n - 1) P l (encs x) W1 fun e W' => (e = .returned (.bool true) ∧ J (pre ++ [x]) W' ∧ ButOne R W1 W') ∨ (e = .returned (.bool false) ∧ Jx (pre ++ [x]) W' ∧ Mm R W1 W')) → J [] W →
   CallsIn F n P gf (#[.func (.yield l) #[] #[]] ++ lb) W fun e W' => (∃ v, e = .returned v) ∧ ((∃ xs, S xs ∧ J xs W') ∨ (∃ xs, Sp xs ∧ Jx xs W'))
theorem Ei {α : Type} {g : Operand} {ps : Array Go.Tmp} {assign body : Code} {Q : Exit → Act → World → Prop} {a : Act} {w : World}
  (hro : F.round = none) (h1 : 1 ≤ n) {gf : Nat} {lb : Array Value} (hg : a.eval g = .func (.func gf) #[] lb) (hFg : F.fn gf) (eg : ∀ args w, (callFunc gf args).run P w = .ok (.enter gf args) w)
  {encs : α → Array Value} {G : α → World → Prop} {S Sp : List α → Prop} (hseq : JD F (n - 1) P gf lb encs G S Sp w)
  (hps : ∀ x, (encs x).size = ps.size)
  (I Ix : List α → World → Prop) (hI : OwnFrom w.heap.size I) (hIx : OwnFrom w.heap.size Ix) (hIk : Er I) (h0 : I [] w) (Ax : α → Act → World → Prop) (hAx : ∀ x a', OwnFrom w.heap.size (fun (_ : Unit) W => Ax x a' W))
  (hassign : ∀ (l : Nat) (pre : List α) (x : α) (W : World) (K : Act → World → Prop), I pre W → G x W → (∀ a' W', KeepsOthers W W' → Below W.heap.size W W' → Ax x a' W' → K a' W') →
   assign.wpIn (F.inRound l) (n - 1 - 1) P (Exit.then K (fun _ _ _ => False)) { tmps := (ps.zip (encs x)).foldl (fun t (p, v) => t.setIfInBounds p v) a.tmps, defers := [] } W)
  (hbody : ∀ (l : Nat) (pre : List α) (x : α) (a' : Act) (W : World), I pre W → Ax x a' W → body.wpIn (F.inRound l) (n - 1 - 1) P (QX w.heap.size I Ix (pre ++ [x]) W) a' W)
  (hdone : ∀ (D : Nat) (xs : List α) (W : World), w.heap.size ≤ D → S xs → I xs W → W.heap[D]? = some (.deferred (some [])) → Q .normal { a with defers := { target := .collected D, args := #[] } :: a.defers } W)
  (hstop : ∀ (D : Nat) (xs : List α) (W : World), w.heap.size ≤ D → Sp xs → Ix xs W → W.heap[D]? = some (.deferred (some [])) → Code.ret.wpIn F n P Q { a with defers := { target := .collected D, args := #[] } :: a.defers } W) :
  (Code.rangeFunc g ps assign body).wpIn F n P Q a w := by
 refine wpIn_rangeFunc fun fn hfn => ?_
 rw [hro]
 obtain ⟨rec, hrec⟩ : ∃ rec : LoopState → Option Code → Loop, rec = fun st pe => { state := st, pending := pe, fn, tmps := a.tmps, params := ps, assign, body, defers := w.heap.size } := ⟨_, rfl⟩
 have er : ∀ st pe, ({ state := st, pending := pe, fn := fn, tmps := a.tmps, params := ps, assign := assign, body := body, defers := w.heap.size } : Loop) = rec st pe := fun st pe => by rw [hrec]
 generalize hW1 : (w.alloc (.deferred (some []))).alloc (.loop (rec .ready none)) = W1
 have hL : W1.heap[w.heap.size + 1]? = some (.loop (rec .ready none)) := by
  rw [← hW1]; have := World.alloc_heap_new (w.alloc (.deferred (some []))) (.loop (rec .ready none)); rwa [World.size_alloc] at this
 have hD : W1.heap[w.heap.size]? = some (.deferred (some [])) := by
  rw [← hW1]; exact (Below.heap_alloc _ _ _ (by simp)).trans (World.alloc_heap_new w _)
 have hI1 : I [] W1 := by rw [← hW1]; exact hI.alloc _ (hI.alloc _ h0)
 have hB1 : Below w.heap.size w W1 := by rw [← hW1]; exact ((Below.refl _ w).alloc (qn _) _).alloc (by simp) _
 have hS1 : w.heap.size + 1 < W1.heap.size := (qs.1 hL).1
 refine ⟨w.heap.size + 1, [{ target := .collected w.heap.size, args := #[] }], W1, { target := .fn (.func gf) lb, args := #[.func (.yield (w.heap.size + 1)) #[] #[]] }, W1, gf, #[.func (.yield (w.heap.size + 1)) #[] #[]] ++ lb, W1, ?_, ?_, ?_, ?_, fun _ => h1, ?_⟩
 ·rw [run_enterLoop_outer, er, hW1]
 ·simp only [resolve, hg]
  simp [go_sem]
 ·intro f' hf'; simp [Target.leads] at hf'; subst hf'; exact hFg
 ·simp [invoke, go_sem, eg]
 ·refine (hseq (w.heap.size + 1) (w.heap.size + 1) (fun pre W => I pre W ∧ W.heap[w.heap.size + 1]? = some (.loop (rec .ready none)) ∧ W.heap[w.heap.size]? = some (.deferred (some [])))
   (fun pre W => Ix pre W ∧ W.heap[w.heap.size + 1]? = some (.loop (rec .done (some .ret))) ∧ W.heap[w.heap.size]? = some (.deferred (some []))) W1 hB1 (by omega) hS1 ?_ ?_ ⟨hI1, hL, hD⟩).mono ?_
  ·rintro s W W' ⟨i1, i2, i3⟩ hb
   exact ⟨hIk s W W' i1 hb, (hb.block _ (qs.1 i2).1).trans i2, (hb.block _ (qs.1 i3).1).trans i3⟩
  ·rintro pre x W ⟨i1, i2, i3⟩ hG
   have hy := run_yield (P := P) (args := encs x) i2 (by rw [hrec]; exact hps x)
   rw [hrec] at hy
   refine ⟨fn, _, assign, body, hy, roundIn_of_wpIn hfn (hassign _ pre x W _ i1 hG fun a' W' hko hbw hax => ?_)⟩
   clear hy
   have hbn : ButOne (w.heap.size + 1) W W' := ButOne.of_below hbw
   replace i1 := hIk _ _ _ i1 hbw
   replace i2 := hko.same _ _ i2 rfl
   replace i3 := hko.same _ _ i3 rfl
   refine ⟨_, run_beginRound i2 (by rw [hrec]), ?_⟩
   have hb : ({ rec .ready none with state := .busy } : Loop) = rec .busy none := by rw [hrec]
   rw [hb]
   have hlt : w.heap.size + 1 < W'.heap.size := (qs.1 i2).1
   have j2 : (W'.putObj (w.heap.size + 1) (.loop (rec .busy none))).heap[w.heap.size + 1]? = some (.loop (rec .busy none)) := World.putObj_heap_same hlt
   have j3 : (W'.putObj (w.heap.size + 1) (.loop (rec .busy none))).heap[w.heap.size]? = some (.deferred (some [])) := (World.putObj_heap_other (by omega)).trans i3
   refine wpIn_mono (hbody _ pre x a' _ (hI.putObj _ i1 (by omega) i2 rfl) ((hAx x a').putObj (s := ()) _ hax (by omega) i2 rfl)) ?_
   intro e a3 W3 hp
   have fin : ∀ (jump : Option Code), KeepsOthers (W'.putObj (w.heap.size + 1) (.loop (rec .busy none))) W3 →
     (Instr.endRound (w.heap.size + 1) jump).run P W3 = .ok (.bool jump.isNone) (W3.putObj (w.heap.size + 1) (.loop (rec (if jump.isNone then .ready else .done) jump))) ∧
     W3.heap[w.heap.size + 1]? = some (.loop (rec .busy none)) ∧
     (W3.putObj (w.heap.size + 1) (.loop (rec (if jump.isNone then .ready else .done) jump))).heap[w.heap.size + 1]? = some (.loop (rec (if jump.isNone then .ready else .done) jump)) ∧
     (W3.putObj (w.heap.size + 1) (.loop (rec (if jump.isNone then .ready else .done) jump))).heap[w.heap.size]? = some (.deferred (some [])) := fun jump hk3 => by
    have hl3 := hk3.same _ _ j2 rfl
    have := run_endRound (P := P) jump hl3
    rw [hrec] at this ⊢
    exact ⟨this, by rw [hrec] at hl3; exact hl3, World.putObj_heap_same (qs.1 hl3).1, (World.putObj_heap_other (by omega)).trans (hk3.same _ _ j3 rfl)⟩
   cases e with
   | normal =>
    obtain ⟨k1, k2, k3⟩ := hp
    obtain ⟨hr, l2, l4, l5⟩ := fin none k1
    refine ⟨_, _, hr, .inl ⟨rfl, ⟨hI.putObj _ k3 (by omega) l2 rfl, l4, l5⟩, ?_⟩⟩
    exact hbn.trans (((ButOne.putObj W' _ _).trans (ButOne.of_below k2)).trans (ButOne.putObj W3 _ _))
   | ret =>
    obtain ⟨k1, k3, k4⟩ := hp
    obtain ⟨hr, l2, l4, l5⟩ := fin (some .ret) k1
    refine ⟨_, _, hr, .inr ⟨rfl, ⟨hIx.putObj _ k3 (by omega) l2 rfl, l4, l5⟩, fun b hb1 hb2 => ?_⟩⟩
    have hs := hbw.size
    rw [World.putObj_heap_other (by omega), k4 b (by omega) (by simp [World.putObj]; omega), World.putObj_heap_other (by omega)]
    exact hbw.block b hb2
   | _ => exact hp.elim
  ·rintro e W2 ⟨⟨v, rfl⟩, (⟨xs, hS, i1, i2, i3⟩ | ⟨xs, hS, i1, i2, i3⟩)⟩
   ·exact ⟨none, _, by have := run_endLoop (P := P) i2 (by rw [hrec]; simp); rw [hrec] at this; exact this, hdone _ xs _ (qn _) hS (hI.putObj _ i1 (by omega) i2 rfl) ((World.putObj_heap_other (by omega)).trans i3)⟩
   ·exact ⟨some .ret, _, by have := run_endLoop (P := P) i2 (by rw [hrec]; simp); rw [hrec] at this; exact this, hstop _ xs _ (qn _) hS (hIx.putObj _ i1 (by omega) i2 rfl) ((World.putObj_heap_other (by omega)).trans i3)⟩
def GL (Ds : List Nat) : List Deferred := Ds.map fun D => { target := .collected D, args := #[] }
def Bo (Ds : List Nat) (W : World) : World := Ds.foldl (fun W D => W.putObj D (.deferred none)) W
def DS (Ds : List Nat) (W : World) : Prop := Ds.Nodup ∧ ∀ D ∈ Ds, W.heap[D]? = some (.deferred (some []))
theorem Fi {fn : Func} {tmps : Array Value} {R : Ending → World → Prop} : ∀ (Ds : List Nat) (W : World), DS Ds W → (∃ v, (results fn tmps).run P (Bo Ds W) = .ok v (Bo Ds W) ∧ R (.returned v) (Bo Ds W)) → LeavesInM F n P fn tmps R (GL Ds) .returning W
 | [], _, _, h => h
 | D :: Ds, W, ⟨h1, h2⟩, h => by
  obtain ⟨h3, h4⟩ := List.nodup_cons.1 h1
  refine ⟨by simp, .inl ⟨D, _, rfl, run_takeDeferred (h2 D (by simp)), ?_⟩⟩
  refine Fi Ds _ ⟨h4, fun E hE => ?_⟩ h
  exact (World.putObj_heap_other (fun e => h3 (by subst e; exact hE))).trans (h2 E (List.mem_cons_of_mem _ hE))
theorem Gh : ∀ (Ds : List Nat) (W : World), (Bo Ds W).heap.size = W.heap.size
 | [], _ => rfl
 | D :: Ds, W => by
  show (Bo Ds (W.putObj D (.deferred none))).heap.size = _
  rw [Gh Ds]; simp [World.putObj]
theorem DR : ∀ (Ds : List Nat) (W : World) (b : Nat), b ∉ Ds → (Bo Ds W).heap[b]? = W.heap[b]?
 | [], _, _, _ => rfl
 | D :: Ds, W, b, h => by
  show (Bo Ds (W.putObj D (.deferred none))).heap[b]? = _
  rw [DR Ds _ b (fun e => h (List.mem_cons_of_mem _ e))]
  exact World.putObj_heap_other (fun e => h (by rw [e]; simp))
theorem GO : ∀ (Ds : List Nat) (W : World), (Bo Ds W).os = W.os ∧ (Bo Ds W).tape = W.tape ∧ (Bo Ds W).output = W.output
 | [], _ => ⟨rfl, rfl, rfl⟩
 | D :: Ds, W => GO Ds (W.putObj D (.deferred none))
theorem Il {B : Nat} {Ds : List Nat} {W : World} (h : ∀ D ∈ Ds, B ≤ D) : Below B W (Bo Ds W) :=
 ⟨(GO Ds W).1, (GO Ds W).2.1, (GO Ds W).2.2, by rw [Gh]; exact qn _, fun k hk => DR Ds W k fun e => by have := h k e; omega⟩
theorem EU {Ds : List Nat} {W : World} (h : DS Ds W) {b : Nat} {o : Obj} (hb : W.heap[b]? = some o) (hc : o.isCells = true) : (Bo Ds W).heap[b]? = some o := by
 rw [DR Ds W b, hb]
 intro e
 have := h.2 b e
 rw [hb] at this; cases this; cases hc
end
end Go.Proofs.YtggcbblikgankaaGreatDoor
