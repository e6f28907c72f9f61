/- Contracts and plain laws on the way to the statement: part 4. -/
import Derived.Test.YtggcbblikgankaaGreatDoorZ3
import Derived.RangeFuncFrom
import Derived.Lib.Hide
set_option linter.unusedVariables false
set_option linter.unusedSimpArgs false
section
namespace Go.Proofs.YtggcbblikgankaaGreatDoor
open Go Go.RowKit
def KeptBy {β : Type} (J : β → World → Prop) : Prop := ∀ s W W', J s W → Below W.heap.size W W' → J s W'
def rowPost {α : Type} (n₀ : Nat) (I : List α → World → Prop) (xs : List α) (W : World) : Exit → Act → World → Prop
 | .normal, _, W' => KeepsOthers W W' ∧ Below n₀ W W' ∧ I xs W'
 | _, _, _ => False
variable {F : Fence} {n : Nat} {P : Program}
def SeqMakes {α : Type} (F : Fence) (n : Nat) (P : Program) (gf : Nat) (lb : Array Value) (encs : α → Array Value) (n₀ : Nat) (S : List α → Prop) (N : Nat) (w : World) : Prop :=
 ∀ (l : Nat) (J : List α → World → Prop) (W : World), Below w.heap.size w W → KeptBy J →
   (∀ pre x W1, J pre W1 → pre.length < N → YieldAt F (n - 1) P l (encs x) W1 fun e W' => e = .returned (.bool true) ∧ J (pre ++ [x]) W' ∧ Below n₀ W1 W') → J [] W →
   CallsIn F n P gf (#[.func (.yield l) #[] #[]] ++ lb) W fun e W' => (∃ v, e = .returned v) ∧ ∃ xs, S xs ∧ J xs W'
theorem wpIn_rangeFunc_makes {α : Type} {g : Operand} {ps : Array Go.Tmp} {assign body : Code} {Q : Exit → Act → World → Prop} {a : Act} {w : World}
  (hro : F.round = none) (h1 : 1 ≤ n) {gf : Nat} {lb : Array Value} (hg : a.eval g = .func (.func gf) #[] lb) (hFg : F.fn gf) (eg : ∀ args w, (callFunc gf args).run P w = .ok (.enter gf args) w)
  {encs : α → Array Value} {n₀ : Nat} (hn0 : n₀ ≤ w.heap.size) {S : List α → Prop} {N : Nat} (hseq : SeqMakes F (n - 1) P gf lb encs n₀ S N w)
  (hps : ∀ x, (encs x).size = ps.size)
  (I : List α → World → Prop) (hI : OwnFrom w.heap.size I) (hIk : KeptBy I) (h0 : I [] w) (Ax : α → Act → World → Prop) (hAx : ∀ x a', OwnFrom w.heap.size (fun (_ : Unit) W => Ax x a' W))
  (hassign : ∀ (l : Nat) (pre : List α) (x : α) (W : World) (K : Act → World → Prop), I pre W → (∀ a' W', KeepsOthers W W' → Below W.heap.size W W' → Ax x a' W' → K a' W') →
   assign.wpIn (F.inRound l) (n - 1 - 1) P (Exit.then K (fun _ _ _ => False)) { tmps := (ps.zip (encs x)).foldl (fun t (p, v) => t.setIfInBounds p v) a.tmps, defers := [] } W)
  (hbody : ∀ (l : Nat) (pre : List α) (x : α) (a' : Act) (W : World), I pre W → Ax x a' W → pre.length < N → body.wpIn (F.inRound l) (n - 1 - 1) P (rowPost n₀ I (pre ++ [x]) W) a' W)
  (hdone : ∀ (D : Nat) (xs : List α) (W : World), w.heap.size ≤ D → S xs → I xs W → W.heap[D]? = some (.deferred (some [])) → Q .normal { a with defers := { target := .collected D, args := #[] } :: a.defers } W) :
  (Code.rangeFunc g ps assign body).wpIn F n P Q a w := by
 refine wpIn_rangeFunc fun fn hfn => ?_
 rw [hro]
 generalize hrec : (fun (st : LoopState) => ({ state := st, pending := none, fn := fn, tmps := a.tmps, params := ps, assign := assign, body := body, defers := w.heap.size } : Loop)) = rec
 have er : ∀ st, ({ state := st, pending := none, fn := fn, tmps := a.tmps, params := ps, assign := assign, body := body, defers := w.heap.size } : Loop) = rec st := fun st => by rw [← hrec]
 generalize hW1 : (w.alloc (.deferred (some []))).alloc (.loop (rec .ready)) = W1
 have hL : W1.heap[w.heap.size + 1]? = some (.loop (rec .ready)) := by
  rw [← hW1]; have := World.alloc_heap_new (w.alloc (.deferred (some []))) (.loop (rec .ready)); rwa [World.size_alloc] at this
 have hD : W1.heap[w.heap.size]? = some (.deferred (some [])) := by
  rw [← hW1]; exact (Below.heap_alloc _ _ _ (by simp)).trans (World.alloc_heap_new w _)
 have hI1 : I [] W1 := by rw [← hW1]; exact hI.alloc _ (hI.alloc _ h0)
 have hB1 : Below w.heap.size w W1 := by rw [← hW1]; exact ((Below.refl _ w).alloc (Nat.le_refl _) _).alloc (by simp) _
 have hput : ∀ (W : World) (o o' : Obj), W.heap[w.heap.size + 1]? = some o → o.isCells = false → o.isWalk = false → Below n₀ W (W.putObj (w.heap.size + 1) o') := fun W o o' h h2 h3 => belowK_b hn0 W (w.heap.size + 1) o o' (by omega) h h2 h3
 refine ⟨w.heap.size + 1, [{ target := .collected w.heap.size, args := #[] }], W1, { target := .fn (.func gf) lb, args := #[.func (.yield (w.heap.size + 1)) #[] #[]] }, W1, gf, #[.func (.yield (w.heap.size + 1)) #[] #[]] ++ lb, W1, ?_, ?_, ?_, ?_, fun _ => h1, ?_⟩
 ·rw [run_enterLoop_outer, er, hW1]
 ·simp only [resolve, hg]
  simp [go_sem]
 ·intro f' hf'; simp [Target.leads] at hf'; subst hf'; exact hFg
 ·simp [invoke, go_sem, eg]
 ·refine (hseq (w.heap.size + 1) (fun pre W => I pre W ∧ W.heap[w.heap.size + 1]? = some (.loop (rec .ready)) ∧ W.heap[w.heap.size]? = some (.deferred (some []))) W1 hB1 ?_ ?_ ⟨hI1, hL, hD⟩).mono ?_
  ·rintro s W W' ⟨i1, i2, i3⟩ hb
   exact ⟨hIk s W W' i1 hb, (hb.block _ (Array.getElem?_eq_some_iff.1 i2).1).trans i2, (hb.block _ (Array.getElem?_eq_some_iff.1 i3).1).trans i3⟩
  ·rintro pre x W ⟨i1, i2, i3⟩ hlen
   have hy := run_yield (P := P) (args := encs x) i2 (by rw [← hrec]; exact hps x)
   rw [← hrec] at hy
   refine ⟨fn, _, assign, body, hy, roundIn_of_wpIn hfn (hassign _ pre x W _ i1 fun a' W' hko hbw hax => ?_)⟩
   have W0 := Lib.hid i2
   have hbn : Below n₀ W W' := hbw.mono (by have := (Array.getElem?_eq_some_iff.1 i2).1; omega)
   replace i1 := hIk _ _ _ i1 hbw
   replace i2 := hko.same _ _ i2 rfl
   replace i3 := hko.same _ _ i3 rfl
   refine ⟨_, run_beginRound i2 (by rw [← hrec]), ?_⟩
   have hb : ({ rec .ready with state := .busy } : Loop) = rec .busy := by rw [← hrec]
   rw [hb]
   have hlt : w.heap.size + 1 < W'.heap.size := (Array.getElem?_eq_some_iff.1 i2).1
   have j2 : (W'.putObj (w.heap.size + 1) (.loop (rec .busy))).heap[w.heap.size + 1]? = some (.loop (rec .busy)) := World.putObj_heap_same hlt
   have j3 : (W'.putObj (w.heap.size + 1) (.loop (rec .busy))).heap[w.heap.size]? = some (.deferred (some [])) := (World.putObj_heap_other (by omega)).trans i3
   refine wpIn_mono (hbody _ pre x a' _ (hI.putObj _ i1 (by omega) i2 rfl) ((hAx x a').putObj (s := ()) _ hax (by omega) i2 rfl) hlen) ?_
   intro e a3 W3 hp
   cases e with
   | normal =>
    obtain ⟨k1, k2, k3⟩ := hp
    have l2 := k1.same _ _ j2 rfl
    have l3 := k1.same _ _ j3 rfl
    have hr := run_endRound (P := P) none l2
    have hb2 : ({ rec .busy with state := if (none : Option Code).isNone = true then LoopState.ready else LoopState.done, pending := none } : Loop) = rec .ready := by rw [← hrec]; rfl
    rw [hb2] at hr
    refine ⟨_, _, hr, rfl, ⟨hI.putObj _ k3 (by omega) l2 rfl, World.putObj_heap_same (Array.getElem?_eq_some_iff.1 l2).1, (World.putObj_heap_other (by omega)).trans l3⟩, ?_⟩
    exact hbn.trans (((hput W' _ _ i2 rfl rfl).trans k2).trans (hput W3 _ _ l2 rfl rfl))
   | _ => exact hp.elim
  ·rintro e W2 ⟨⟨v, rfl⟩, xs, hS, i1, i2, i3⟩
   have he := run_endLoop (P := P) i2 (by rw [← hrec]; simp)
   have hp : (rec .ready).pending = none := by rw [← hrec]
   have hb3 : ({ rec .ready with state := .exhausted } : Loop) = rec .exhausted := by rw [← hrec]
   rw [hb3, hp] at he
   exact ⟨none, _, he, hdone _ xs _ (Nat.le_refl _) hS (hI.putObj _ i1 (by omega) i2 rfl) ((World.putObj_heap_other (by omega)).trans i3)⟩
end Go.Proofs.YtggcbblikgankaaGreatDoor
end
