/- Contracts and plain laws on the way to the statement: part 9. -/
import Derived.RangeFuncNested
import Derived.RangeFuncBound
import Derived.RangeFuncCalls
import Derived.RangeFuncLeaves
import Derived.Lib.Hide
import Derived.WalkKit
import Derived.Test.YtpnbpepkoekkoaaZ3
set_option linter.unusedVariables false
set_option linter.unusedSimpArgs false
set_option maxRecDepth 100000
set_option maxHeartbeats 16000000
namespace Go.Proofs.Ytpnbpepkoekkoaa
open Go.Value (int)
open Go.IntKind (i64)
section
open Go Go.RowKit
variable {P : Program}
theorem Eh {F : Fence} (hd : F.depth = none) (k : Nat) : F.room k := fun d h => by rw [hd] at h; cases h
theorem RoundIn.anyDepth {F : Fence} (hd : F.depth = none) {m m' : Nat} {l : Nat} {f : FuncId} {tmps : Array Value} {assign body : Code} {w : World} {R : Ending → World → Prop}
  (h : RoundIn F m P l f tmps assign body w R) : RoundIn F m' P l f tmps assign body w R := ⟨h.1, fun c cs _ => h.2 c cs (Eh hd _)⟩
theorem YieldAt.anyDepth {F : Fence} (hd : F.depth = none) {m : Nat} (m' : Nat) {l : Nat} {args : Array Value} {W : World} {R : Ending → World → Prop} (h : YieldAt F m P l args W R) : YieldAt F m' P l args W R := by
 obtain ⟨fn, tmps, assign, body, hy, hR⟩ := h; exact ⟨fn, tmps, assign, body, hy, RoundIn.anyDepth hd hR⟩
theorem YieldAt.to {F : Fence} {m l : Nat} {args : Array Value} {W : World} {R R' : Ending → World → Prop} (h : YieldAt F m P l args W R) (hr : ∀ e w, R e w → R' e w) : YieldAt F m P l args W R' := by
 obtain ⟨fn, tmps, assign, body, hy, hR⟩ := h; exact ⟨fn, tmps, assign, body, hy, hR.mono hr⟩
def Kg (P : Program) (l : Nat) (R : Ending → World → Prop) : Exit → Act → World → Prop
 | .normal, _, w => ∃ v w', (Instr.endRound l none).run P w = .ok v w' ∧ R (.returned v) w'
 | .ret, _, w => ∃ v w', (Instr.endRound l (some .ret)).run P w = .ok v w' ∧ R (.returned v) w'
 | .panic c, a, w => a.defers = [] ∧ R (.panicked c) w
 | _, _, _ => False
theorem FR {n l : Nat} {f : FuncId} {tmps : Array Value} {assign body : Code} {w : World} {R : Ending → World → Prop} (hfn : ∃ fn, P.funcs[f]? = some fn)
  (h : assign.wpIn (Fence.wide.inRound l) n P (Exit.then (fun a₁ w₁ => ∃ w₂, (Instr.beginRound l).run P w₁ = .ok () w₂ ∧ body.wpIn (Fence.wide.inRound l) n P (Kg P l R) a₁ w₂) (fun _ _ _ => False)) { tmps := tmps, defers := [] } w) :
  RoundIn Fence.wide n P l f tmps assign body w R := by
 refine ⟨trivial, fun c cs _ => ?_⟩
 let b : Frame := { (default : Frame) with fn := f, kind := .normal, roundOf := some l }
 have hb0 : Frame.round l f tmps assign body .normal = b.atR { tmps := tmps, defers := [] } [.code assign, .beginRound, .code body] := by
  simp [Frame.round, Frame.atR, b]
 obtain ⟨e, a₁, w₁, hq, harr⟩ := h b [.beginRound, .code body] (c :: cs) rfl trivial (room_wide _); rw [← hb0] at harr
 cases e with
 | normal =>
  obtain ⟨w₂, hbr, hbody⟩ := hq; have s1 : StepsIn (Machine.fenced P Fence.wide) P (lone (b.atR a₁ [.beginRound, .code body]) (c :: cs) w₁) (lone (b.atR a₁ [.code body]) (c :: cs) w₂) :=
   .one (fenced_wide P _) (stepR_beginRound rfl hbr)
  obtain ⟨e₂, a₂, w₃, hq₂, harr₂⟩ := hbody b [] (c :: cs) rfl trivial (room_wide _)
  cases e₂ with
  | normal =>
   obtain ⟨v, w₄, hend, hR⟩ := hq₂; exact ⟨.returned v, w₄, hR, (StepsIn.trans harr s1).trans (StepsIn.trans harr₂ (.one (fenced_wide P _) (stepR_round_end rfl rfl hend)))⟩
  | ret =>
   obtain ⟨v, w₄, hend, hR⟩ := hq₂; obtain ⟨k₁, hs⟩ := harr₂.2 rfl; exact ⟨.returned v, w₄, hR, (StepsIn.trans harr s1).trans (StepsIn.trans hs (.one (fenced_wide P _) (stepR_round_ret rfl rfl hend)))⟩
  | panic ch =>
   obtain ⟨hd, hR⟩ := hq₂; obtain ⟨todo, hs⟩ := harr₂; obtain ⟨fn, hf⟩ := hfn; exact ⟨.panicked ch, w₃, hR, (StepsIn.trans harr s1).trans (StepsIn.trans hs (.one (fenced_wide P _) (step_leave_panicked ⟨rfl, hd, fn, hf⟩)))⟩
  | exit id => exact hq₂.elim
  | goto t => exact hq₂.elim
  | outgrown => exact hq₂.elim
 | exit id => exact hq.elim
 | goto t => exact hq.elim
 | ret => exact hq.elim
 | panic ch => exact hq.elim
 | outgrown => exact hq.elim
def CH (f0 : FuncId) (P : Program) (c : Code) (Q : Exit → Act → World → Prop) (a : Act) (w : World) : Prop :=
 ∀ (b : Frame) (k : List Item) (cs : List Frame), b.roundOf = none → b.fn = f0 → ∃ e a' w', Q e a' w' ∧ ArrivesIn (Machine.fenced P Fence.wide) P (lone (b.atR a (.code c :: k)) cs w) b k cs e a' w'
section
variable {f0 : FuncId} {Q : Exit → Act → World → Prop} {a : Act} {w : World}
theorem Nu {n : Nat} {c : Code} (h : c.wpIn Fence.wide n P Q a w) : CH f0 P c Q a w := fun b k cs hr _ => h b k cs hr trivial (room_wide _)
theorem E2 {c : Code} (h : c.wp P Q a w) : CH f0 P c Q a w := Nu (n := 0) (wpIn_wide.2 h)
theorem Em {x y : Code} (h : CH f0 P x (Exit.then (CH f0 P y Q) Q) a w) : CH f0 P (Code.seq x y) Q a w := by
 intro b k cs hro hb; have h0 : (lone (b.atR a (.code (.seq x y) :: k)) cs w).fenced P Fence.wide := fenced_wide P _; obtain ⟨e, a₁, w₁, hq, harr⟩ := h b (.code y :: k) cs hro hb
 cases e with
 | normal =>
  obtain ⟨e₂, a₂, w₂, hq₂, harr₂⟩ := hq b k cs hro hb; exact ⟨e₂, a₂, w₂, hq₂, .of_steps (.head h0 stepR_seq harr) harr₂⟩
 | exit id => exact ⟨_, a₁, w₁, hq, .of_steps (.one h0 stepR_seq) (.pass (x := .code y) rfl (fun _ _ => .inl (by simp)) harr)⟩
 | goto l => exact ⟨_, a₁, w₁, hq, .of_steps (.one h0 stepR_seq) (.pass (x := .code y) rfl (fun _ _ => .inl (by simp)) harr)⟩
 | ret => exact ⟨_, a₁, w₁, hq, .of_steps (.one h0 stepR_seq) (.pass (x := .code y) rfl (fun _ _ => .inl (by simp)) harr)⟩
 | panic ch => exact ⟨_, a₁, w₁, hq, .of_steps (.one h0 stepR_seq) (.pass (x := .code y) rfl (fun _ _ => .inl (by simp)) harr)⟩
 | outgrown => exact ⟨_, a₁, w₁, hq, .of_steps (.one h0 stepR_seq) (.pass (x := .code y) rfl (fun _ _ => .inl (by simp)) harr)⟩
theorem AN {x y : Code} (h : ∀ K : Act → World → Prop, (∀ a w, CH f0 P y Q a w → K a w) → x.wp P (Exit.then K Q) a w) : CH f0 P (Code.seq x y) Q a w :=
 Em (E2 (h _ fun _ _ h => h))
theorem E1 {id : Nat} {c : Code} (h : CH f0 P c (Exit.inBlock id Q) a w) : CH f0 P (Code.block id c) Q a w := by
 intro b k cs hro hb; have h0 : (lone (b.atR a (.code (.block id c) :: k)) cs w).fenced P Fence.wide := fenced_wide P _; obtain ⟨e, a₁, w₁, hq, harr⟩ := h b (.inBlock id :: k) cs hro hb
 cases e with
 | normal => exact ⟨.normal, a₁, w₁, hq, .head h0 stepR_block (StepsIn.trans harr (.one (fenced_wide P _) stepR_inBlock))⟩
 | exit id' =>
  by_cases hid : id' = id
  ·simp only [Exit.inBlock, hid, if_true] at hq
   exact ⟨.normal, a₁, w₁, hq, .head h0 stepR_block (harr.1 k (by simp [exitTo, hid]))⟩
  ·simp only [Exit.inBlock, hid, if_false] at hq
   have this : (id == id') = false := by simp; exact fun h => hid h.symm
   have hx : exitTo id' (.inBlock id :: k) = exitTo id' k := by simp [exitTo, this]
   exact ⟨.exit id', a₁, w₁, hq, fun k' hk => .head h0 stepR_block (harr.1 k' (by rw [hx]; exact hk)),
    fun hr' hk => let ⟨k₁, h1, h2⟩ := harr.2 hr' (by rw [hx]; exact hk); ⟨k₁, h1, .head h0 stepR_block h2⟩⟩
 | goto l =>
  have hx : gotoIn l (.inBlock id :: k) = gotoIn l k := by simp [gotoIn]
  exact ⟨_, a₁, w₁, hq, fun k' hk => .head h0 stepR_block (harr.1 k' (by rw [hx]; exact hk)),
   fun hr' hk => let ⟨k₁, h1, h2⟩ := harr.2 hr' (by rw [hx]; exact hk); ⟨k₁, h1, .head h0 stepR_block h2⟩⟩
 | ret => exact ⟨_, a₁, w₁, hq, .of_steps (.one h0 stepR_block) harr⟩
 | panic ch => exact ⟨_, a₁, w₁, hq, .of_steps (.one h0 stepR_block) harr⟩
 | outgrown => exact ⟨_, a₁, w₁, hq, .of_steps (.one h0 stepR_block) harr⟩
theorem FJ {g : Operand} {ps : Array Go.Tmp} {assign body : Code} {d : Deferred} {f : FuncId} {args : Array Value} {W1 : World}
  (hW1 : (w.alloc (.deferred (some []))).alloc (.loop { state := .ready, pending := none, fn := f0, tmps := a.tmps, params := ps, assign, body, defers := w.heap.size }) = W1)
  (hres : (resolve a.eval (rangeCall g (w.heap.size + 1)) 0).run P W1 = .ok d W1) (hinv : (invoke d.target d.args).run P W1 = .ok (.enter f args) W1)
  (hcall : CallsIn Fence.wide 0 P f args W1 (rangePost Fence.wide 0 P (w.heap.size + 1) Q { a with defers := { target := .collected w.heap.size, args := #[] } :: a.defers })) :
  CH f0 P (Code.rangeFunc g ps assign body) Q a w := by
 intro b k cs hro hb
 have he : (Instr.enterLoop b.fn a.tmps ps assign body b.roundOf).run P w = .ok (w.heap.size + 1, [{ target := .collected w.heap.size, args := #[] }]) W1 := by
  rw [hro, hb, ← hW1]; exact run_enterLoop_outer _ _ _ _ _
 have h0 : (lone (b.atR a (.code (.rangeFunc g ps assign body) :: k)) cs w).fenced P Fence.wide := fenced_wide P _; have henter := stepR_rangeFunc (P := P) (b := b) (a := a) (k := k) (cs := cs) (w := w) he hres hinv; obtain ⟨e, w₃, fr, hR, hsteps, hfn, hleave⟩ := hcall.2 (b.atR { a with defers := [{ target := .collected w.heap.size, args := #[] }] ++ a.defers } (.inRangeFunc (w.heap.size + 1) :: k) :: cs) (room_wide _)
 cases e with
 | outgrown =>
  obtain ⟨a₀, w₀, hq⟩ := hR; exact ⟨.outgrown, a₀, w₀, hq, .inr (Outgrown.of_steps (.one henter) hsteps)⟩
 | returned v =>
  obtain ⟨jump, w₄, hend, hj⟩ := hR
  have sback : StepsIn (Machine.fenced P Fence.wide) P (lone (b.atR a (.code (.rangeFunc g ps assign body) :: k)) cs w) (lone (b.atR { a with defers := [{ target := .collected w.heap.size, args := #[] }] ++ a.defers } ((jump.map Item.code).toList ++ k)) cs w₄) := by
   refine .head h0 henter (StepsIn.trans hsteps (.head (fenced_wide P _) ?_ (.one (fenced_wide P _) (stepR_endRangeFunc hend)))); rw [← finish_atR_inRangeFunc (w.heap.size + 1) v]; exact step_leave_returned hleave
  cases jump with
  | none => exact ⟨.normal, _, w₄, hj, sback⟩
  | some c =>
   obtain ⟨e', a'', w₅, hq, harr⟩ := hj b k cs hro trivial (room_wide _); exact ⟨e', a'', w₅, hq, .of_steps sback harr⟩
 | panicked chain =>
  refine ⟨.panic chain, _, w₃, hR, .inRangeFunc (w.heap.size + 1) :: k, .head h0 henter (StepsIn.trans hsteps (.one (fenced_wide P _) ?_))⟩; rw [← Frame.raise_atR]; exact step_leave_panicked hleave
end
theorem DI {f : FuncId} {fn : Func} {c : Code} {args : Array Value} {w : World} {R : Ending → World → Prop} (hf : P.funcs[f]? = some fn) (hb : fn.body = some c)
  (h : CH f P c (bodyPostM Fence.wide 0 P fn R) { tmps := args ++ Array.replicate (fn.ntmps - args.size) undef, defers := [] } w) : Calls P f args w R := by
 refine (callsIn_wide (n := 0)).1 ⟨trivial, fun cs hr => ?_⟩
 let b : Frame := { (default : Frame) with fn := f, kind := .normal, roundOf := none }
 have henter : Frame.enter P f args .normal =
   b.atR { tmps := args ++ Array.replicate (fn.ntmps - args.size) undef, defers := [] } [.code c] := by
  simp [Frame.enter, Frame.atR, hf, hb, b]
 obtain ⟨e, a', w', hq, harr⟩ := h b [] cs rfl rfl; rw [← henter] at harr
 cases e with
 | normal =>
  obtain ⟨e', w'', fr', hR, hs, hfn, hl⟩ := leaves_stepsInM a'.defers .returning w' { b.atR a' [] with mode := .returning } cs rfl rfl rfl hf rfl trivial hr hq; exact ⟨e', w'', fr', hR, ComesIn.of_steps (StepsIn.trans harr (.one (fenced_wide P _) (stepR_end rfl))) hs, hfn, hl⟩
 | ret =>
  obtain ⟨todo, hs₀⟩ := harr.1 rfl; obtain ⟨e', w'', fr', hR, hs, hfn, hl⟩ := leaves_stepsInM a'.defers .returning w' { b.atR a' todo with mode := .returning } cs rfl rfl rfl hf rfl trivial hr hq; exact ⟨e', w'', fr', hR, ComesIn.of_steps hs₀ hs, hfn, hl⟩
 | panic chain =>
  obtain ⟨todo, hs₀⟩ := harr; obtain ⟨e', w'', fr', hR, hs, hfn, hl⟩ := leaves_stepsInM a'.defers (.panicking chain) w' { b.atR a' todo with mode := .panicking chain } cs rfl rfl rfl hf rfl trivial hr hq; exact ⟨e', w'', fr', hR, ComesIn.of_steps hs₀ hs, hfn, hl⟩
 | exit id => exact hq.elim
 | goto l => exact hq.elim
 | outgrown => exact ⟨.outgrown, w', b, hq, harr.resolve_left (by simp [b]), rfl, trivial⟩
end
section
open Go Go.RowKit
variable {P : Program}
def If {β : Type} (J : β → World → Prop) : Prop := ∀ s W W', J s W → Below W.heap.size W W' → J s W'
def RowInt (W : World) (b : Nat) : Prop := ∃ cur fr, W.heap[b]? = some (.cells cur 3 fr)
def Beyond (B : Nat) (W W' : World) : Prop := W.heap.size ≤ W'.heap.size ∧ ∀ b, B ≤ b → b < W.heap.size → ¬ RowInt W b → W'.heap[b]? = W.heap[b]?
theorem Beyond.refl (B : Nat) (W : World) : Beyond B W W := ⟨qn _, fun _ _ _ _ => rfl⟩
theorem Beyond.trans {B : Nat} {X Y Z : World} (h : Beyond B X Y) (k : Beyond B Y Z) : Beyond B X Z := ⟨Nat.le_trans h.1 k.1, fun b h1 h2 h3 => (k.2 b h1 (Nat.lt_of_lt_of_le h2 h.1) (fun ⟨c, f, e⟩ => h3 ⟨c, f, (h.2 b h1 h2 h3).symm.trans e⟩)).trans (h.2 b h1 h2 h3)⟩
theorem Beyond.mono {B B' : Nat} {X Y : World} (h : Beyond B X Y) (hb : B ≤ B') : Beyond B' X Y := ⟨h.1, fun b h1 h2 => h.2 b (by omega) h2⟩
theorem Beyond.of_below {B : Nat} {X Y : World} (h : Below X.heap.size X Y) : Beyond B X Y := ⟨h.size, fun b _ h2 _ => h.block b h2⟩
theorem RowInt.other {W : World} {b : Nat} {o : Obj} (h : W.heap[b]? = some o) (ho : ∀ cur fr, o ≠ .cells cur 3 fr) : ¬ RowInt W b := fun ⟨c, f, e⟩ => by
 rw [h] at e; exact ho c f (by injection e)
theorem RowInt.put {W : World} {l b : Nat} {o : Obj} (h : RowInt (W.putObj l o) b) (hb : b ≠ l) : RowInt W b := by
 obtain ⟨c, f, e⟩ := h; exact ⟨c, f, (World.putObj_heap_other (by omega)).symm.trans e⟩
def BE {α : Type} (B : Nat) (I : List α → World → Prop) (Ix Ip : World → Prop) (ch : List PanicEntry) (xs : List α) (W : World) : Exit → Act → World → Prop
 | .normal, _, W' => Beyond B W W' ∧ I xs W'
 | .ret, _, W' => Beyond B W W' ∧ Ix W'
 | .panic c, a, W' => a.defers = [] ∧ c = ch ∧ Beyond B W W' ∧ Ip W'
 | _, _, _ => False
def OX {α : Type} (B : Nat) (J : List α → World → Prop) (Jx Jp : World → Prop) (ch : List PanicEntry) (pre : List α) (x : α) (W1 : World) (e : Ending) (W' : World) : Prop :=
 (e = .returned (.bool true) ∧ J (pre ++ [x]) W' ∧ Beyond B W1 W') ∨ (e = .returned (.bool false) ∧ Jx W') ∨ (e = .panicked ch ∧ Jp W')
def KC {α : Type} (P : Program) (gf : Nat) (lb : Array Value) (encs : α → Array Value) (L : List α) (ok : Prop) (ch : List PanicEntry) (Rd : World → Prop) (w : World) : Prop :=
 ∀ (l R : Nat) (J : List α → World → Prop) (Jx Jp : World → Prop) (W : World), Below w.heap.size w W → w.heap.size ≤ R → R < W.heap.size → If J → (∀ pre W1, J pre W1 → Rd W1) →
  (∀ pre x rest W1, L = pre ++ x :: rest → J pre W1 → ∀ m, YieldAt Fence.wide m P l (encs x) W1 (OX W.heap.size J Jx Jp ch pre x W1)) →
  (∀ pre rest W1, L = pre ++ rest → ¬ ok → J pre W1 → Jp W1) → J [] W →
  Calls P gf (#[.func (.yield l) #[] #[]] ++ lb) W fun e W' => (∃ v, e = .returned v ∧ ((ok ∧ J L W') ∨ Jx W')) ∨ (e = .panicked ch ∧ Jp W')
theorem Cr {α : Type} {f0 : FuncId} {fn0 : Func} (hfn : P.funcs[f0]? = some fn0) {g : Operand} {ps : Array Go.Tmp} {assign body : Code} {Q : Exit → Act → World → Prop} {a : Act} {w : World} {gf : Nat} {lb : Array Value}
  (hg : a.eval g = .func (.func gf) #[] lb) (eg : ∀ args w, (callFunc gf args).run P w = .ok (.enter gf args) w)
  {encs : α → Array Value} {L : List α} {ok : Prop} {ch : List PanicEntry} {Rd : World → Prop} (hseq : KC P gf lb encs L ok ch Rd w) (hps : ∀ x, (encs x).size = ps.size)
  (I : List α → World → Prop) (Ix Ip : World → Prop) (hI : OwnFrom w.heap.size I) (hIx : OwnFrom w.heap.size fun (_ : Unit) => Ix) (hIk : If I) (h0 : I [] w) (hRd : ∀ pre W, I pre W → Rd W) (a₁ : α → Act)
  (hassign : ∀ (l : Nat) (x : α) (W : World) (K : Act → World → Prop), K (a₁ x) W → assign.wpIn (Fence.wide.inRound l) 0 P (Exit.then K (fun _ _ _ => False)) { tmps := (ps.zip (encs x)).foldl (fun t (p, v) => t.setIfInBounds p v) a.tmps, defers := [] } W)
  (hbody : ∀ (l : Nat) (pre : List α) (x : α) (rest : List α) (W : World), L = pre ++ x :: rest → I pre W → body.wpIn (Fence.wide.inRound l) 0 P (BE w.heap.size I Ix Ip ch (pre ++ [x]) W) (a₁ x) W)
  (hbad : ∀ pre rest W, L = pre ++ rest → ¬ ok → I pre W → Ip W)
  (hdone : ∀ (D : Nat) (W : World), w.heap.size ≤ D → ok → I L W → W.heap[D]? = some (.deferred (some [])) → Q .normal { a with defers := { target := .collected D, args := #[] } :: a.defers } W)
  (hstop : ∀ (D : Nat) (W : World), w.heap.size ≤ D → Ix W → W.heap[D]? = some (.deferred (some [])) → Code.ret.wpIn Fence.wide 0 P Q { a with defers := { target := .collected D, args := #[] } :: a.defers } W)
  (hpan : ∀ (D : Nat) (W : World), w.heap.size ≤ D → Ip W → W.heap[D]? = some (.deferred (some [])) → Q (.panic ch) { a with defers := { target := .collected D, args := #[] } :: a.defers } W) :
  CH f0 P (Code.rangeFunc g ps assign body) Q a w := by
 obtain ⟨rec, hrec⟩ : ∃ rec : LoopState → Option Code → Loop, rec = fun st pe => { state := st, pending := pe, fn := f0, tmps := a.tmps, params := ps, assign, body, defers := w.heap.size } := ⟨_, rfl⟩
 have er : ∀ st pe, ({ state := st, pending := pe, fn := f0, tmps := a.tmps, params := ps, assign := assign, body := body, defers := w.heap.size } : Loop) = rec st pe := fun st pe => by rw [hrec]
 generalize hW1 : (w.alloc (.deferred (some []))).alloc (.loop (rec .ready none)) = W1
 have hL : W1.heap[w.heap.size + 1]? = some (.loop (rec .ready none)) := by
  rw [← hW1]; have := World.alloc_heap_new (w.alloc (.deferred (some []))) (.loop (rec .ready none)); rwa [World.size_alloc] at this
 have hD : W1.heap[w.heap.size]? = some (.deferred (some [])) := by
  rw [← hW1]; exact (Below.heap_alloc _ _ _ (by simp)).trans (World.alloc_heap_new w _)
 have hI1 : I [] W1 := by rw [← hW1]; exact hI.alloc _ (hI.alloc _ h0)
 have hB1 : Below w.heap.size w W1 := by rw [← hW1]; exact ((Below.refl _ w).alloc (qn _) _).alloc (by simp) _
 have hS1 : w.heap.size + 1 < W1.heap.size := (qs.1 hL).1; refine FJ (d := { target := .fn (.func gf) lb, args := #[.func (.yield (w.heap.size + 1)) #[] #[]] }) (f := gf) (args := #[.func (.yield (w.heap.size + 1)) #[] #[]] ++ lb) (W1 := W1) ?_ ?_ ?_ ?_
 ·rw [er, hW1]
 ·simp only [resolve, hg]
  simp [go_sem]
 ·simp [invoke, go_sem, eg]
 ·refine (callsIn_wide (n := 0)).2 ((hseq (w.heap.size + 1) (w.heap.size + 1) (fun pre W => I pre W ∧ W.heap[w.heap.size + 1]? = some (.loop (rec .ready none)) ∧ W.heap[w.heap.size]? = some (.deferred (some [])))
   (fun W => Ix W ∧ W.heap[w.heap.size + 1]? = some (.loop (rec .done (some .ret))) ∧ W.heap[w.heap.size]? = some (.deferred (some []))) (fun W => Ip W ∧ W.heap[w.heap.size]? = some (.deferred (some []))) W1 hB1 (by omega) hS1 ?_ ?_ ?_ ?_ ⟨hI1, hL, hD⟩).mono ?_)
  ·rintro s W W' ⟨i1, i2, i3⟩ hb
   exact ⟨hIk s W W' i1 hb, (hb.block _ (qs.1 i2).1).trans i2, (hb.block _ (qs.1 i3).1).trans i3⟩
  ·exact fun pre W h => hRd pre W h.1
  ·rintro pre x rest W hsp ⟨i1, i2, i3⟩ m
   refine YieldAt.anyDepth (m := 0) rfl m ?_; have hy := run_yield (P := P) (args := encs x) i2 (by rw [hrec]; exact hps x); rw [hrec] at hy; refine ⟨f0, _, assign, body, hy, FR ⟨fn0, hfn⟩ (hassign _ x W _ ?_)⟩; refine ⟨_, run_beginRound i2 (by rw [hrec]), ?_⟩; have hb : ({ rec .ready none with state := .busy } : Loop) = rec .busy none := by rw [hrec]
   rw [hb]; have hlt : w.heap.size + 1 < W.heap.size := (qs.1 i2).1; have j2 : (W.putObj (w.heap.size + 1) (.loop (rec .busy none))).heap[w.heap.size + 1]? = some (.loop (rec .busy none)) := World.putObj_heap_same hlt; have j3 : (W.putObj (w.heap.size + 1) (.loop (rec .busy none))).heap[w.heap.size]? = some (.deferred (some [])) := (World.putObj_heap_other (by omega)).trans i3; have hsz : (W.putObj (w.heap.size + 1) (.loop (rec .busy none))).heap.size = W.heap.size := by simp [World.putObj]
   refine wpIn_mono (hbody _ pre x rest _ hsp (hI.putObj _ i1 (by omega) i2 rfl)) ?_; intro e a3 W3 hp; have fin : ∀ (jump : Option Code), Beyond w.heap.size (W.putObj (w.heap.size + 1) (.loop (rec .busy none))) W3 →
     (Instr.endRound (w.heap.size + 1) jump).run P W3 = .ok (.bool jump.isNone) (W3.putObj (w.heap.size + 1) (.loop (rec (if jump.isNone then .ready else .done) jump))) ∧
     W3.heap[w.heap.size + 1]? = some (.loop (rec .busy none)) ∧
     (W3.putObj (w.heap.size + 1) (.loop (rec (if jump.isNone then .ready else .done) jump))).heap[w.heap.size + 1]? = some (.loop (rec (if jump.isNone then .ready else .done) jump)) ∧
     (W3.putObj (w.heap.size + 1) (.loop (rec (if jump.isNone then .ready else .done) jump))).heap[w.heap.size]? = some (.deferred (some [])) := fun jump hk3 => by
    have hl3 := (hk3.2 (w.heap.size + 1) (by omega) (by rw [hsz]; exact hlt) (RowInt.other j2 (by simp))).trans j2; have hd3 := (hk3.2 w.heap.size (by omega) (by rw [hsz]; omega) (RowInt.other j3 (by simp))).trans j3; have := run_endRound (P := P) jump hl3; rw [hrec] at this ⊢; exact ⟨this, by rw [hrec] at hl3; exact hl3, World.putObj_heap_same (qs.1 hl3).1, (World.putObj_heap_other (by omega)).trans hd3⟩
   cases e with
   | normal =>
    obtain ⟨k1, k3⟩ := hp; obtain ⟨hr, l2, l4, l5⟩ := fin none k1; have hle : W.heap.size ≤ W.heap.size := qn _; refine ⟨_, _, hr, .inl ⟨rfl, ⟨hI.putObj _ k3 (by omega) l2 rfl, l4, l5⟩, ⟨?_, fun b h1 h2 h3 => ?_⟩⟩⟩
    ·have := k1.1; rw [hsz] at this; simpa [World.putObj] using this
    ·rw [World.putObj_heap_other (by omega), k1.2 b (by omega) (by rw [hsz]; exact h2) (fun h => h3 (h.put (by omega))), World.putObj_heap_other (by omega)]
   | ret =>
    obtain ⟨k1, k3⟩ := hp; obtain ⟨hr, l2, l4, l5⟩ := fin (some .ret) k1; exact ⟨_, _, hr, .inr (.inl ⟨rfl, hIx.putObj (s := ()) _ k3 (by omega) l2 rfl, l4, l5⟩)⟩
   | panic c =>
    obtain ⟨k0, rfl, k1, k3⟩ := hp; exact ⟨k0, .inr (.inr ⟨rfl, k3, (k1.2 w.heap.size (by omega) (by rw [hsz]; omega) (RowInt.other j3 (by simp))).trans j3⟩)⟩
   | _ => exact hp.elim
  ·exact fun pre rest W hsp hok hJ => ⟨hbad pre rest W hsp hok hJ.1, hJ.2.2⟩
  ·rintro e W2 (⟨v, rfl, (⟨hok, i1, i2, i3⟩ | ⟨i1, i2, i3⟩)⟩ | ⟨rfl, i1, i3⟩)
   ·exact ⟨none, _, by have := run_endLoop (P := P) i2 (by rw [hrec]; simp); rw [hrec] at this; exact this, hdone _ _ (qn _) hok (hI.putObj _ i1 (by omega) i2 rfl) ((World.putObj_heap_other (by omega)).trans i3)⟩
   ·exact ⟨some .ret, _, by have := run_endLoop (P := P) i2 (by rw [hrec]; simp); rw [hrec] at this; exact this, hstop _ _ (qn _) (hIx.putObj (s := ()) _ i1 (by omega) i2 rfl) ((World.putObj_heap_other (by omega)).trans i3)⟩
   ·exact hpan _ _ (qn _) i1 i3
end
end Go.Proofs.Ytpnbpepkoekkoaa
