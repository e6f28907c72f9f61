/- Contracts and plain laws on the way to the statement: part 25. -/
import Derived.Test.YtpnbpepkoekkoaaZ23
import Derived.Test.YtpnbpepkoekkoaaZ13
import Derived.Test.YtpnbpepkoekkoaaZ24
import Derived.Test.YtpnbpepkoekkoaaZ15
import Derived.Maps.RangeRun
import Derived.Maps.Range
import Derived.Test.YtpnbpepkoekkoaaZ3
set_option linter.unusedVariables false
set_option linter.unusedSimpArgs false
set_option maxRecDepth 100000
set_option maxHeartbeats 16000000
namespace Go.Proofs.Ytpnbpepkoekkoaa
open Go.Value (int)
open Go.IntKind (i64)
section
open Go Go.RowKit
theorem Dt {rn pn : List Nm} : ∀ {rs : List (Nat × Nm)} {ns ks : List Int}, AA rn pn rs ns = some ks → ns.length = rs.length ∧ ks.length = rs.length
 | [], [], ks, h => by simp [AA] at h; subst h; exact ⟨rfl, rfl⟩
 | [], _ :: _, _, h => by simp [AA] at h
 | _ :: _, [], _, h => by simp [AA] at h
 | r :: rs, n :: ns, ks, h => by
  unfold AA at h
  split at h
  ·rename_i k ks' h1 h2
   obtain ⟨e1, e2⟩ := Dt h2; simp only [Option.some.injEq] at h; subst h; simp [e1, e2]
  ·cases h
theorem Ds {rn pn : List Nm} : ∀ {A : List (Nat × Nm)} {n1 : List Int} (B : List (Nat × Nm)) (n2 : List Int), n1.length = A.length → AA rn pn (A ++ B) (n1 ++ n2) = match AA rn pn A n1, AA rn pn B n2 with | some k1, some k2 => some (k1 ++ k2) | _, _ => none
 | [], [], B, n2, _ => by
  simp only [List.nil_append, AA]; cases AA rn pn B n2 <;> rfl
 | r :: A, n :: n1, B, n2, h => by
  have ih := Ds (rn := rn) (pn := pn) (A := A) (n1 := n1) B n2 (by simpa using h); simp only [List.cons_append, AA, ih]; cases Bk rn pn r n <;> cases AA rn pn A n1 <;> cases AA rn pn B n2 <;> rfl
 | [], _ :: _, _, _, h => by simp at h
 | _ :: _, [], _, _, h => by simp at h
theorem Ef {rn pn : List Nm} {A : List (Nat × Nm)} {n1 ks : List Int} {r : Nat × Nm} {m k : Int} (h : AA rn pn A n1 = some ks) (hk : Bk rn pn r m = some k) : AA rn pn (A ++ [r]) (n1 ++ [m]) = some (ks ++ [k]) := by
 rw [Ds _ _ (Dt h).1, h]; simp [AA, hk]
theorem Hy {rn pn : List Nm} {A B : List (Nat × Nm)} {n1 n2 ks : List Int} {r : Nat × Nm} {m : Int} (h : AA rn pn A n1 = some ks) (hk : Bk rn pn r m = none) : AA rn pn (A ++ r :: B) (n1 ++ m :: n2) = none := by
 rw [Ds _ _ (Dt h).1, h]; simp [AA, hk]
theorem JK (k : Int) : Bh k ≤ 2 := by unfold Bh; split <;> omega
theorem LE (k : Int) : Cw k ≤ 2 := by unfold Cw; split <;> omega
theorem Fp {b : Nat} : ∀ {o : Nat} {ms : List Mov} {r : RefL}, r ∈ Aw b o ms → r.to ≤ 2
 | _, [], _, h => by cases h
 | o, m :: ms, r, h => by
  rcases List.mem_cons.1 h with rfl | h
  ·exact LE _
  ·exact Fp h
theorem Lt.refs_to : ∀ {T : Lt} {b o : Nat} {r : RefL}, r ∈ T.refsL b o → r.to ≤ 2
 | .nil, _, _, _, h => by cases h
 | .cons k n un ia ic its ma mc ms rest, b, o, r, h => by
  simp only [Lt.refsL, List.mem_cons, List.mem_append] at h; rcases h with rfl | h | h | h
  ·exact JK _
  ·exact Fp h
  ·exact Lt.refs_to h
  ·exact Lt.refs_to h
theorem Ls.refs_to {s : Ls} {r : RefL} (h : r ∈ s.refs) : r.to ≤ 2 := by
 rcases List.mem_append.1 h with h | h
 ·generalize s.phrases = ps at h
  induction ps with
  | nil => cases h
  | cons p ps ih =>
   simp only [Ay, List.mem_append] at h; rcases h with h | h
   ·exact Lt.refs_to h
   ·exact ih h
 ·generalize s.dances = ds at h
  generalize off s.da = o at h
  induction ds generalizing o with
  | nil => cases h
  | cons d ds ih =>
   simp only [Ak, List.mem_cons] at h; rcases h with rfl | rfl | h
   ·show 1 ≤ 2; omega
   ·show 2 ≤ 2; omega
   ·exact ih _ h
def kI (k : Int) : Value := int i64 k
theorem AT : KeyOf (.int .i64) kI := ⟨fun _ => rfl, fun a b h => by unfold kI at h; injection h⟩
structure ResC where
 x : Ls
 ns : List Int
 w : World
 X : Nat
 E : Nat
 kB : Nat
 TB : Nat
 MT : Nat
 mR : Nat
 mP : Nat
 rn : List Nm
 pn : List Nm
 Bl : Nat
structure ResQ (c : ResC) (pre : List RefL) (V : World) : Prop where
 bx : V.heap[c.X]? = some (.cells c.x.cells 30 (0, 0))
 be : V.heap[c.E]? = some (.cells #[int i64 0] 35 (0, 0))
 bk : V.cell? ⟨c.kB, 0, none⟩ = some (.pointer (some ⟨c.X, 0, none⟩))
 tb : V.cell? ⟨c.TB, 0, none⟩ = some (.map (some c.MT))
 mt : ∃ kvs : List (Int × Value), MapAt kI V c.MT kvs ∧ Ap kvs 1 = some (.map (some c.mR)) ∧ Ap kvs 2 = some (.map (some c.mP))
 mr : MapAt sv V c.mR (AL c.rn)
 mp : MapAt sv V c.mP (AL c.pn)
 ph : AZ V (blk c.x.fa) (off c.x.fa) c.x.phrases
 da : B5 V (blk c.x.da) (off c.x.da) c.x.dances
 refs : ∃ ks rest n1 js, c.x.refs = pre ++ rest ∧ c.ns = n1 ++ js ∧ AA c.rn c.pn (pre.map RefL.key) n1 = some ks ∧ NsAt V pre ks ∧ NsAt V rest js
 free : ∀ r ∈ c.x.refs, FreeB V r.b
 base : Below c.w.heap.size c.w V
structure ResK (c : ResC) : Prop where
 sep : c.x.Sep
 ne : ∀ r ∈ c.x.refs, r.b ≠ c.X ∧ r.b ≠ c.E ∧ r.b ≠ c.kB ∧ r.b ≠ c.TB ∧ c.w.heap.size ≤ r.b
 rn : c.rn.Nodup
 pn : c.pn.Nodup
def ResI (c : ResC) (pre : List RefL) (W : World) : Prop := ∃ V, V.heap.size = c.Bl ∧ ResQ c pre V ∧ Below c.Bl V W
def Jr (c : ResC) (W : World) : Prop := (c.x.strip.kinds = false ∨ AA c.rn c.pn (c.x.refs.map RefL.key) c.ns = none) ∧ ∃ pre, ResI c pre W
theorem ResI.keep {c : ResC} {pre : List RefL} {W W' : World} (h : ResI c pre W) (hb : Below c.Bl W W') : ResI c pre W' := by
 obtain ⟨V, h1, h2, h3⟩ := h; exact ⟨V, h1, h2, h3.trans hb⟩
theorem Kl {B : Nat} {V W : World} (h : Below B V W) (p : Addr) (v : Value) : Below B (V.setCell p v) (W.setCell p v) := by
 refine ⟨h.os, h.tape, h.output, by simpa [World.setCell] using h.size, fun k hk => ?_⟩; by_cases e : p.block = k
 ·subst e
  simp only [World.setCell, Array.getElem?_modify, if_true]; rw [h.block _ hk]
 ·rw [Below.heap_setCell _ _ _ _ (fun e2 => e e2.symm), Below.heap_setCell _ _ _ _ (fun e2 => e e2.symm)]
  exact h.block _ hk
theorem Ii {B : Nat} (W : World) (p : Addr) (v : Value) (h : p.block < B) : Beyond B W (W.setCell p v) :=
 ⟨by simp [World.setCell], fun b hb _ _ => Below.heap_setCell _ _ _ _ (by omega)⟩
theorem ResQ.next {c : ResC} {pre rest : List RefL} {r : RefL} {V : World} (h : ResQ c pre V) (hs : c.x.refs = pre ++ r :: rest) :
  ∃ m ks n1 js, V.cell? ⟨r.b, r.o + 1, none⟩ = some (int i64 m) ∧ V.cell? ⟨r.b, r.o, none⟩ = some (sv r.nm) ∧ c.ns = n1 ++ m :: js ∧ AA c.rn c.pn (pre.map RefL.key) n1 = some ks ∧ NsAt V pre ks ∧ NsAt V (r :: rest) (m :: js) ∧ r ∈ c.x.refs ∧ FreeB V r.b ∧ r.to ≤ 2 := by
 obtain ⟨ks, rest', n1, js, e1, e2, e3, e4, e5⟩ := h.refs; have hr : rest' = r :: rest := List.append_cancel_left (e1.symm.trans hs); subst hr; have hm : r ∈ c.x.refs := by rw [hs]; simp
 cases js with
 | nil => exact e5.elim
 | cons m js => exact ⟨m, ks, n1, js, e5.1, LX h.ph h.da r hm, e2, e3, e4, e5, hm, h.free r hm, Ls.refs_to hm⟩
theorem ResQ.pass {c : ResC} {pre rest : List RefL} {r : RefL} {V : World} (h : ResQ c pre V) (hs : c.x.refs = pre ++ r :: rest) (h0 : Bk c.rn c.pn r.key 0 = some 0) (hc : V.cell? ⟨r.b, r.o + 1, none⟩ = some (int i64 0)) : ResQ c (pre ++ [r]) V := by
 obtain ⟨m, ks, n1, js, c1, c2, e2, e3, e4, e5, hm, _, _⟩ := h.next hs
 have hm0 : m = 0 := by rw [hc] at c1; cases c1; rfl
 subst hm0; refine ⟨h.bx, h.be, h.bk, h.tb, h.mt, h.mr, h.mp, h.ph, h.da, ⟨ks ++ [0], rest, n1 ++ [0], js, by rw [hs]; simp, by rw [e2]; simp, ?_, e4.append ⟨c1, trivial⟩, e5.2⟩, h.free, h.base⟩; rw [List.map_append]; exact Ef e3 h0
theorem ResQ.put {c : ResC} (hK : ResK c) {pre rest : List RefL} {r : RefL} {V : World} {m k : Int} (h : ResQ c pre V) (hs : c.x.refs = pre ++ r :: rest) (hm : V.cell? ⟨r.b, r.o + 1, none⟩ = some (int i64 m)) (h0 : Bk c.rn c.pn r.key m = some k) : ResQ c (pre ++ [r]) (V.setCell ⟨r.b, r.o + 1, none⟩ (int i64 k)) := by
 obtain ⟨m', ks, n1, js, c1, c2, e2, e3, e4, e5, hmem, hfr, _⟩ := h.next hs
 have hmm : m' = m := by rw [hm] at c1; cases c1; rfl
 subst hmm; obtain ⟨x1, x2, x3, x4, x5⟩ := hK.ne r hmem; have ob : ∀ b, b ≠ r.b → (V.setCell ⟨r.b, r.o + 1, none⟩ (int i64 k)).heap[b]? = V.heap[b]? := fun b hb => Below.heap_setCell _ _ _ _ hb
 have om : ∀ {κ : Type} [DecidableEq κ] {f : κ → Value} {b : Nat} {kvs : List (κ × Value)}, MapAt f V b kvs → MapAt f (V.setCell ⟨r.b, r.o + 1, none⟩ (int i64 k)) b kvs := fun {κ _ f b kvs} hM => hM.of_block (ob b (fun e => by
  obtain ⟨es, cl, hb, _⟩ := hM; obtain ⟨cur, t, hf⟩ := hfr
  rw [e, hf] at hb; cases hb))
 have hap := hK.sep.apart; rw [hs] at hap; obtain ⟨s1, s2⟩ := NsAt.set (n := k) hap e4 e5; obtain ⟨p1, p2⟩ := hK.sep.set (v := int i64 k) hmem h.ph h.da; obtain ⟨kvO, q1, q2, q3⟩ := h.mt; refine ⟨(ob _ (fun e => x1 e.symm)).trans h.bx, (ob _ (fun e => x2 e.symm)).trans h.be, Ad h.bk (Av (Or.inl x3)), Ad h.tb (Av (Or.inl x4)), ⟨kvO, om q1, q2, q3⟩, om h.mr, om h.mp, p1, p2, ⟨ks ++ [k], rest, n1 ++ [m'], js, by rw [hs]; simp, by rw [e2]; simp, ?_, s1.append ⟨s2.1, trivial⟩, s2.2⟩, fun q hq => (h.free q hq).set _ _, h.base.setCell (p := ⟨r.b, r.o + 1, none⟩) x5 _⟩; rw [List.map_append]; exact Ef e3 h0
theorem ResQ.fail {c : ResC} {pre rest : List RefL} {r : RefL} {V : World} {m : Int} (h : ResQ c pre V) (hs : c.x.refs = pre ++ r :: rest) (hm : V.cell? ⟨r.b, r.o + 1, none⟩ = some (int i64 m)) (h0 : Bk c.rn c.pn r.key m = none) : AA c.rn c.pn (c.x.refs.map RefL.key) c.ns = none := by
 obtain ⟨m', ks, n1, js, c1, c2, e2, e3, e4, e5, hmem, hfr, _⟩ := h.next hs
 have hmm : m' = m := by rw [hm] at c1; cases c1; rfl
 subst hmm; rw [hs, e2, List.map_append]; exact Hy e3 h0
end
section
open Go Go.RowKit
def StM (w : World) (b : Nat) : Prop := ∃ es clock, w.heap[b]? = some (.map es clock) ∧ MapKept.Stamped es clock ∧ ∀ x ∈ es.toList, MapKept.IsKey (.int .i64) x.key
theorem StM.of_block {w w' : World} {b : Nat} (h : StM w b) (hb : w'.heap[b]? = w.heap[b]?) : StM w' b := by
 obtain ⟨es, c, h1, h2⟩ := h; exact ⟨es, c, hb.trans h1, h2⟩
def CV (ks : List Int) : List (Int × Value) := ks.map fun k => (k, .bool true)
def AU (ks : List Int) (k : Int) : List Int := if k ∈ ks then ks else ks ++ [k]
theorem IR (ks : List Int) : (CV ks).map (·.1) = ks := by
 unfold CV; rw [List.map_map]; simp [Function.comp_def]
theorem IQ (k : Int) : ∀ ks : List Int, Ap (CV ks) k = if k ∈ ks then some (.bool true) else none
 | [] => by simp [Ap, CV]
 | a :: r => by
  have ih := IQ k r; unfold Ap CV at ih ⊢; rw [List.map_cons]; by_cases h : a = k
  ·subst h
   rw [List.find?_cons_of_pos (by simp)]; simp
  ·rw [List.find?_cons_of_neg (by simpa using h), ih]
   have : (k ∈ a :: r) = (k ∈ r) := by
    simp only [List.mem_cons, eq_iff_iff]; exact ⟨fun e => e.resolve_left (fun e => h e.symm), Or.inr⟩
   simp only [this]
theorem Kk (ks : List Int) (k : Int) : AW (CV ks) k (.bool true) = CV (AU ks k) := by
 unfold AW AU; rw [IQ]; by_cases h : k ∈ ks
 ·rw [if_pos h, if_pos h]
  simp only [Option.isSome_some, if_true]; unfold CV; rw [List.map_map]; apply List.map_congr_left; intro a _; simp only [Function.comp]
  split <;> rfl
 ·rw [if_neg h, if_neg h]
  simp [CV]
theorem IS (ks : List Int) (k x : Int) : x ∈ AU ks k ↔ x ∈ ks ∨ x = k := by
 unfold AU
 split
 ·rename_i h; exact ⟨Or.inl, fun e => e.elim id fun e => e ▸ h⟩
 ·simp
theorem GB {ks : List Int} (h : ks.Nodup) (k : Int) : (AU ks k).Nodup := by
 unfold AU
 split
 ·exact h
 ·rename_i hk
  rw [List.nodup_append]; exact ⟨h, by simp, fun a ha b hb => by simp at hb; subst hb; rintro rfl; exact hk ha⟩
structure SetB (w : World) (b : Nat) (ks : List Int) : Prop where
 map_ : MapAt kI w b (CV ks)
 stamp : StM w b
 apart : ks.Nodup
theorem SetB.of_block {w w' : World} {b : Nat} {ks : List Int} (h : SetB w b ks) (hb : w'.heap[b]? = w.heap[b]?) : SetB w' b ks := ⟨h.map_.of_block hb, h.stamp.of_block hb, h.apart⟩
theorem SetB.lt {w : World} {b : Nat} {ks : List Int} (h : SetB w b ks) : b < w.heap.size := h.map_.lt
theorem SetB.below {w w' : World} {b n : Nat} {ks : List Int} (h : SetB w b ks) (hb : Below n w w') (hn : b < n) : SetB w' b ks := h.of_block (hb.block _ hn)
theorem StM.new (w : World) : StM (w.alloc (.map #[] 0)) w.heap.size := ⟨#[], 0, heap_alloc_new w _, MapKept.stamped_empty 0, by simp⟩
theorem SetB.new (w : World) : SetB (w.alloc (.map #[] 0)) w.heap.size [] := ⟨MapAt.new w, StM.new w, List.nodup_nil⟩
variable {P : Program} {T K E : TypeId}
theorem SetB.put {w : World} {b : Nat} {ks : List Int} (h : SetB w b ks) (hT : P.underlying T = some (.map K E)) (hK : P.underlying K = some (.int .i64)) (k : Int) :
  ∃ W, (Instr.mapUpdate T (.map (some b)) (int i64 k) (.bool true)).run P w = .ok () W ∧ SetB W b (AU ks k) ∧ (∀ c, c ≠ b → W.heap[c]? = w.heap[c]?) ∧ W.heap.size = w.heap.size ∧ ∀ n, n ≤ b → Below n w W := by
 obtain ⟨o, hrun, hM⟩ := AB (P := P) AT hT hK h.map_ (show Az (CV ks) by unfold Az; rw [IR]; exact h.apart) k (.bool true); rw [Kk] at hM; obtain ⟨es, c, e1, e2, e3⟩ := h.stamp; obtain ⟨es', c', f1, f2, f3, _⟩ := MapKept.mapUpdate_keeps hT hK e1 e2 e3 (show MapKept.IsKey (.int .i64) (int i64 k) from rfl) hrun; refine ⟨_, hrun, ⟨hM, ⟨es', c', f1, f2, f3⟩, GB h.apart k⟩, fun c hc => ?_, by simp, fun n hn => An w b o hn⟩; simp only [Array.getElem?_setIfInBounds]; rw [if_neg (fun e => hc e.symm)]
def IA : Value → Int
 | .int _ n => n
 | _ => 0
def ItB (w : World) (r b : Nat) (ks left : List Int) : Prop := ∃ es clock seen c0, w.heap[r]? = some (.mapIter (some b) clock seen c0) ∧ clock ≤ c0 ∧ w.heap[b]? = some (.map es clock) ∧ MapKept.Stamped es clock ∧ es.toList.map (fun e => (e.key, e.val)) = ks.map (fun k => (kI k, Value.bool true)) ∧ left = (leftOf es seen).toList.map fun e => IA e.key
theorem EG {es : List MapEntry} {ks : List Int} (h : es.map (fun e => (e.key, e.val)) = ks.map (fun k => (kI k, Value.bool true))) {e : MapEntry} (he : e ∈ es) : e.key = int i64 (IA e.key) ∧ e.val = .bool true ∧ IA e.key ∈ ks := by
 have : (e.key, e.val) ∈ ks.map (fun k => (kI k, Value.bool true)) := by rw [← h]; exact List.mem_map.2 ⟨e, he, rfl⟩
 obtain ⟨k, hk, h2⟩ := List.mem_map.1 this; simp only [Prod.mk.injEq] at h2; rw [← h2.1, ← h2.2]; exact ⟨rfl, rfl, hk⟩
theorem ItB.ne {w : World} {r b : Nat} {ks left : List Int} (h : ItB w r b ks left) : r ≠ b := by
 obtain ⟨es, clock, seen, c0, h1, _, h2, _⟩ := h; rintro rfl; rw [h1] at h2; cases h2
theorem ItB.cnt {w : World} {r b : Nat} {ks left : List Int} (h : ItB w r b ks left) : w.rangeLeft b r = left.length := by
 obtain ⟨es, clock, seen, c0, h1, _, h2, _, _, rfl⟩ := h; unfold World.rangeLeft; rw [h1, h2]; simp
theorem ItB.sub {w : World} {r b : Nat} {ks left : List Int} (h : ItB w r b ks left) : ∀ x ∈ left, x ∈ ks := by
 obtain ⟨es, clock, seen, c0, h1, _, h2, _, h4, rfl⟩ := h; intro x hx; obtain ⟨e, he, rfl⟩ := List.mem_map.1 hx; exact (EG h4 (mem_left he).1).2.2
theorem SetB.range {w : World} {b : Nat} {ks : List Int} (h : SetB w b ks) (hT : P.underlying T = some (.map K E)) :
  ∃ W, (Instr.range T (.map (some b))).run P w = .ok (.pointer (some ⟨w.heap.size, 0, none⟩)) W ∧ ItB W w.heap.size b ks ks ∧ Below w.heap.size w W ∧ W.heap.size = w.heap.size + 1 := by
 obtain ⟨es, c, e1, e2, e3⟩ := h.stamp; obtain ⟨es', c', f1, f2⟩ := h.map_; rw [e1] at f1; cases f1; refine ⟨_, run_range_map w T K E b es c hT e1, ⟨es, c, #[], c, heap_alloc_new w _, qn _, (((Below.refl w.heap.size w).alloc (qn _) _).block b (SetB.lt h)).trans e1, e2, by rw [f2]; unfold CV; rw [List.map_map]; rfl, ?_⟩, (Below.refl _ _).alloc (qn _) _, by simp⟩; have h0 : leftOf es #[] = es := by unfold leftOf; exact Array.filter_eq_self.2 (by simp)
 rw [h0]; have h3 := congrArg (List.map fun p : Value × Value => IA p.1) f2; rw [List.map_map, List.map_map] at h3; unfold CV at h3; rw [List.map_map] at h3; refine Eq.trans ?_ h3.symm
 induction ks with
 | nil => rfl
 | cons a r ih => simp [Function.comp_def, kI, IA]
theorem BO (w : World) (n : Nat) : Below n w w.drew := (Below.refl n w).drew
theorem IP {w W : World} (hw : W = w ∨ W = w.drew) (r : Nat) (o : Obj) {n : Nat} (hn : n ≤ r) : Below n w { W with heap := W.heap.setIfInBounds r o } := by
 have h1 : Below n w W := by rcases hw with rfl | rfl; exact Below.refl _ _; exact BO _ _
 exact h1.trans (An W r o hn)
theorem ItB.next {w : World} {r b : Nat} {ks left : List Int} (h : ItB w r b ks left) :
  (left = [] ∧ ∀ ty, (Instr.next (.pointer (some ⟨r, 0, none⟩)) false ty).run P w = .ok (.tuple #[.bool false]) w) ∨
  ∃ k W left', k ∈ left ∧ (∃ _ : Unit, ∀ ty, (Instr.next (.pointer (some ⟨r, 0, none⟩)) false ty).run P w = .ok (.tuple #[.bool true, int i64 k, .bool true]) W) ∧ (Instr.entry (.pointer (some ⟨r, 0, none⟩))).run P W = .ok (.tuple #[int i64 k, .bool true]) W ∧
   ItB W r b ks left' ∧ (∀ x ∈ left, x = k ∨ x ∈ left') ∧ left'.length < left.length ∧ (∀ c, c ≠ r → W.heap[c]? = w.heap[c]?) ∧ W.heap.size = w.heap.size ∧ ∀ n, n ≤ r → Below n w W := by
 have hne := h.ne; obtain ⟨es, clock, seen, c0, h1, hc, h2, h3, h4, rfl⟩ := h; rcases run_next_at (P := P) w 0 r b clock c0 seen es clock h1 h2 h3.1 hc with ⟨h0, hrun⟩ | ⟨e, he, w1, hw, hrun⟩
 ·left
  refine ⟨?_, fun _ => hrun⟩; rw [Array.eq_empty_of_size_eq_zero h0]; rfl
 ·right
  have hm := mem_left he; obtain ⟨k1, k2, k3⟩ := EG h4 hm.1; have hh : w1.heap = w.heap := by rcases hw with rfl | rfl <;> rfl
  have hrl : r < w.heap.size := (qs.1 h1).1
  have gr : (ChangeMaps.setBlock w1 r (.mapIter (some b) clock (seen.push e.born) clock)).heap[r]? = some (.mapIter (some b) clock (seen.push e.born) clock) := by
   unfold ChangeMaps.setBlock; simp only [Array.getElem?_setIfInBounds, if_true]; rw [if_pos (by rw [hh]; exact hrl)]
  have go : ∀ c, c ≠ r → (ChangeMaps.setBlock w1 r (.mapIter (some b) clock (seen.push e.born) clock)).heap[c]? = w.heap[c]? := fun c hcr => by
   unfold ChangeMaps.setBlock; simp only [Array.getElem?_setIfInBounds]; rw [if_neg (fun e => hcr e.symm), hh]
  have gb := (go b (fun e => hne e.symm)).trans h2; have hen := run_entry_at (P := P) (ChangeMaps.setBlock w1 r (.mapIter (some b) clock (seen.push e.born) clock)) r b clock seen es clock e gr gb hm.1 h3.2.1; rw [k1, k2] at hrun hen; refine ⟨IA e.key, _, (leftOf es (seen.push e.born)).toList.map fun e => IA e.key, List.mem_map.2 ⟨e, he, rfl⟩, ⟨(), fun _ => hrun⟩, hen, ⟨es, clock, _, clock, gr, qn _, gb, h3, h4, rfl⟩, fun x hx => ?_, ?_, go, ?_, fun n hn => IP hw r _ hn⟩
  ·obtain ⟨y, hy, rfl⟩ := List.mem_map.1 hx
   by_cases hb : y.born = e.born
   ·left
    have hn := h3.2.1; have hyy := (mem_left hy).1; have f1 := find_born e es.toList hn hm.1; have f2 := find_born y es.toList hn hyy; rw [hb] at f2; rw [f1] at f2; injection f2 with f2; rw [f2]
   ·right
    refine List.mem_map.2 ⟨y, ?_, rfl⟩; have hy2 := mem_left hy; unfold leftOf; rw [Array.mem_toList_iff, Array.mem_filter]; refine ⟨Array.mem_toList_iff.1 hy2.1, ?_⟩; rw [contains_push, hy2.2]; simpa using hb
  ·simpa using left_shrinks es seen e he
  ·unfold ChangeMaps.setBlock
   simp [hh]
end
section
open Go Go.RowKit Go.Shelf
noncomputable def Ao : Code := (Try.f15.body).getD .skip
noncomputable def body15 : Code := match Ab 9 Ao with
 | .seq (.seq _ (.block _ (.rangeFunc _ _ _ b))) _ => b
 | _ => .skip
section
attribute [local go_sem] Oper.semAt_some
theorem Ka (l : Nat) (c : ResC) (B1 : Nat) (pre rest : List RefL) (r : RefL) (W : World) (hs : c.x.refs = pre ++ r :: rest) (hI : ResI c pre W) (h0 : r.to = 0)
  (e0 e5 e8 e9 ea eb ec ed ee ef eg eh ei ej ek el em en eo ep eq er es et eu ev ew ex ey ez eA eB eC eD eE eF eG eH eI eJ eK eL eM eN eO eP eQ eR eS eT eU eV eW eX eY eZ aa ab ac ad ae af ag ah ai aj ak al am an ao ap aq ar au av aw ax ay az aA aB aC aD aE aF aG aH aI aJ aK aL aM : Value) :
  body15.wpIn (Fence.wide.inRound l) 10 Try.prog (BE c.Bl (ResI c) (fun _ => False) (Jr c) (AC 170) (pre ++ [r]) W) { tmps := #[e0, .pointer (some ⟨B1, 0, none⟩), .pointer (some ⟨c.X, 0, none⟩), .pointer (some ⟨c.E, 0, none⟩), .pointer (some ⟨c.TB, 0, none⟩), e5, .pointer (some ⟨r.b, r.o, none⟩), int i64 (r.to : Int), e8, e9, ea, eb, ec, ed, ee, ef, eg, eh, ei, ej, ek, el, em, en, eo, ep, eq, er, es, et, eu, ev, ew, ex, ey, ez, eA, eB, eC, eD, eE, eF, eG, eH, eI, eJ, eK, eL, eM, eN, eO, eP, eQ, eR, eS, eT, eU, eV, eW, eX, eY, eZ, aa, ab, ac, ad, ae, af, ag, ah, ai, aj, ak, al, am, an, ao, ap, aq, ar, au, av, aw, ax, ay, az, aA, aB, aC, aD, aE, aF, aG, aH, aI, aJ, aK, aL, aM], defers := [] } W := by
 obtain ⟨V, v1, v2, v3⟩ := id hI; obtain ⟨m, ks, n1, js, c1, c2, e2, e3, e4, e5, hmem, hfr, hto⟩ := v2.next hs
 have d1 := Ae (by rw [← v1] at v3; exact v3) c1; have d2 := Ae (by rw [← v1] at v3; exact v3) c2; have heq := O7 r.nm m; by_cases hz : r.nm = [] ∧ m = 0
 ·have hP : ResI c (pre ++ [r]) W := ⟨V, v1, v2.pass hs (by unfold Bk RefL.key; simp [h0, hz.1]) (by rw [c1, hz.2]), v3⟩
  have HP := qh hP; rw [hz.1, hz.2] at heq; simp only [and_self, decide_true] at heq; obtain ⟨z1, z2⟩ := hz; rw [z1] at d2; rw [z2] at d1; clear hP hI v1 v2 v3 c1 c2 e2 e3 e4 e5 hmem hfr hto; rw [h0]; dsimp only; unfold body15 Ao
  conv => arg 4; whnf
  gi_wp2_with (refine ⟨trivial, ?_⟩; refine (CallsIn.inRound l (callsIn_wide.2 (Bn _ _))).mono ?_; rintro e w' ⟨rfl, rfl⟩); exact ⟨Beyond.refl _ _, HP.out⟩
 ·have hP : Jr c W := ⟨Or.inr (v2.fail hs c1 (by unfold Bk RefL.key; simp only [h0, if_true]; rw [if_neg hz])), pre, hI⟩
  have HP := qh hP; simp only [hz, decide_false] at heq; clear hP hI v1 v2 v3 c1 c2 e2 e3 e4 e5 hmem hfr hto hz; rw [h0]; dsimp only; unfold body15 Ao
  conv => arg 4; whnf
  gi_wp2_with (refine ⟨trivial, ?_⟩; refine (CallsIn.inRound l (callsIn_wide.2 (AK _ _))).mono ?_; unfold Af; rintro e w' ⟨rfl, rfl⟩); exact ⟨rfl, rfl, Beyond.refl _ _, HP.out⟩
theorem Gc (l : Nat) (c : ResC) (hK : ResK c) (B1 : Nat) (pre rest : List RefL) (r : RefL) (W : World) (hs : c.x.refs = pre ++ r :: rest) (hI : ResI c pre W) (nl : List Nm) (mM : Nat) (hto1 : (r.to = 1 ∧ nl = c.rn ∧ mM = c.mR) ∨ (r.to = 2 ∧ nl = c.pn ∧ mM = c.mP))
  (e0 e5 e8 e9 ea eb ec ed ee ef eg eh ei ej ek el em en eo ep eq er es et eu ev ew ex ey ez eA eB eC eD eE eF eG eH eI eJ eK eL eM eN eO eP eQ eR eS eT eU eV eW eX eY eZ aa ab ac ad ae af ag ah ai aj ak al am an ao ap aq ar au av aw ax ay az aA aB aC aD aE aF aG aH aI aJ aK aL aM : Value) :
  body15.wpIn (Fence.wide.inRound l) 10 Try.prog (BE c.Bl (ResI c) (fun _ => False) (Jr c) (AC 170) (pre ++ [r]) W) { tmps := #[e0, .pointer (some ⟨B1, 0, none⟩), .pointer (some ⟨c.X, 0, none⟩), .pointer (some ⟨c.E, 0, none⟩), .pointer (some ⟨c.TB, 0, none⟩), e5, .pointer (some ⟨r.b, r.o, none⟩), int i64 (r.to : Int), e8, e9, ea, eb, ec, ed, ee, ef, eg, eh, ei, ej, ek, el, em, en, eo, ep, eq, er, es, et, eu, ev, ew, ex, ey, ez, eA, eB, eC, eD, eE, eF, eG, eH, eI, eJ, eK, eL, eM, eN, eO, eP, eQ, eR, eS, eT, eU, eV, eW, eX, eY, eZ, aa, ab, ac, ad, ae, af, ag, ah, ai, aj, ak, al, am, an, ao, ap, aq, ar, au, av, aw, ax, ay, az, aA, aB, aC, aD, aE, aF, aG, aH, aI, aJ, aK, aL, aM], defers := [] } W := by
 obtain ⟨V, v1, v2, v3⟩ := id hI; obtain ⟨m, ks, n1, js, c1, c2, e2, e3, e4, e5, hmem, hfr, hto⟩ := v2.next hs
 have v3' : Below V.heap.size V W := by rw [v1]; exact v3
 have d1 := Ae v3' c1; have d2 := Ae v3' c2; have dT := Ae v3' v2.tb
 have hnd : nl.Nodup := by
  rcases hto1 with ⟨_, rfl, _⟩ | ⟨_, rfl, _⟩
  ·exact hK.rn
  ·exact hK.pn
 have hmM : MapAt sv W mM (AL nl) := by
  rcases hto1 with ⟨_, rfl, rfl⟩ | ⟨_, rfl, rfl⟩
  ·exact v2.mr.below v3' v2.mr.lt
  ·exact v2.mp.below v3' v2.mp.lt
 obtain ⟨kvO, qm, q1, q2⟩ := v2.mt; have hmT := qm.below v3' qm.lt
 have hidx : ∀ z : Int, Bk c.rn c.pn r.key z = if r.nm ∈ nl then some ((nl.idxOf r.nm : Nat) : Int) else none := fun z => by
  unfold Bk RefL.key; rcases hto1 with ⟨h1, rfl, _⟩ | ⟨h1, rfl, _⟩ <;> simp [h1]
 have hl1 : ∀ k, (Instr.lookup 98 (.map (some c.MT)) (int i64 (r.to : Int)) false).run Try.prog (W.drewN k) = .ok (.map (some mM)) (W.drewN k) := fun k => by
  have := B6 (P := Try.prog) AT Try.underlying98 Try.underlying93 (hmT.drewN k) (r.to : Int) (Try.zeroValue90 _) false; unfold kI at this; rcases hto1 with ⟨h1, rfl, rfl⟩ | ⟨h1, rfl, rfl⟩ <;> (rw [h1] at this ⊢; simpa [q1, q2] using this)
 have hl2 := fun k => B6 (P := Try.prog) GD Try.underlying90 Try.underlying9 (hmM.drewN k) r.nm (Try.zeroValue3 _) true
 have hne0 : ((r.to : Int) == 0) = false := by
  rcases hto1 with ⟨h1, _⟩ | ⟨h1, _⟩ <;> (rw [h1]; rfl)
 rw [Ku hnd] at hl2; have mixed : Try.prog.follows .mixedOrders = true := by kernel_rfl
 generalize hrt : (r.to : Int) = rt at *; by_cases hin : r.nm ∈ nl
 ·have hP : ResI c (pre ++ [r]) (W.setCell ⟨r.b, r.o + 1, none⟩ (int i64 ((nl.idxOf r.nm : Nat) : Int))) := ⟨V.setCell ⟨r.b, r.o + 1, none⟩ (int i64 ((nl.idxOf r.nm : Nat) : Int)), by rw [← v1]; simp [World.setCell], v2.put hK hs c1 (by rw [hidx, if_pos hin]), Kl v3 _ _⟩
  have hB : Beyond c.Bl W (W.setCell ⟨r.b, r.o + 1, none⟩ (int i64 ((nl.idxOf r.nm : Nat) : Int))) := Ii _ _ _ (by rw [← v1]; exact hfr.lt); have hfz : W.frozen? ⟨r.b, r.o + 1, none⟩ = false := (hfr.below v3').free _; have HP := qh hP; have HB := qh hB; simp only [if_pos hin, Option.getD_some, Option.isSome_some, if_true] at hl2; generalize ((nl.idxOf r.nm : Nat) : Int) = kx at *; clear hP hB hI v1 v2 v3 v3' c1 c2 e2 e3 e4 e5 hmem hfr hto hto1 hnd hmM hmT hidx hin hs qm q1 q2; dsimp only; unfold body15 Ao
  conv => arg 4; whnf
  gi_wp2_with fail; refine Cj mixed (by kernel_rfl) (by kernel_rfl) ?_
  repeat (quiet_step_in (fail))
  refine wpQuietIn_nil ?_; rintro W2 ⟨nq, rfl⟩; have hst : (W.drewN nq).setCell ⟨r.b, r.o + 1, none⟩ (int i64 kx) = (W.setCell ⟨r.b, r.o + 1, none⟩ (int i64 kx)).drewN nq := by unfold World.drewN World.setCell; simp
  gi_wp2_with (refine ⟨trivial, ?_⟩; refine (CallsIn.inRound l (callsIn_wide.2 (Bn _ _))).mono ?_; rintro e w' ⟨rfl, rfl⟩); exact ⟨HB.out.trans (Beyond.of_below (Ar (Below.refl _ _) _)), HP.out.keep (Ar (Below.refl _ _) _)⟩
 ·have hP : ∀ k, Jr c (W.drewN k) := fun k => ⟨Or.inr (v2.fail hs c1 (by rw [hidx, if_neg hin])), pre, hI.keep (Ar (Below.refl _ _) k)⟩
  have HP := qh hP; simp only [if_neg hin, Option.getD_none, Option.isSome_none, if_true] at hl2; clear hP hI v1 v2 v3 v3' c1 c2 e2 e3 e4 e5 hmem hfr hto hto1 hnd hmM hmT hidx hin hs qm q1 q2; dsimp only; unfold body15 Ao
  conv => arg 4; whnf
  gi_wp2_with fail; refine Cj mixed (by kernel_rfl) (by kernel_rfl) ?_
  repeat (quiet_step_in (fail))
  refine wpQuietIn_nil ?_; rintro W2 ⟨nq, rfl⟩
  gi_wp2_with (refine ⟨trivial, ?_⟩; refine (CallsIn.inRound l (callsIn_wide.2 (AK _ _))).mono ?_; unfold Af; rintro e w' ⟨rfl, rfl⟩); exact ⟨rfl, rfl, Beyond.of_below (Ar (Below.refl _ _) _), HP.out _⟩
theorem LU (l : Nat) (c : ResC) (hK : ResK c) (B1 : Nat) (pre rest : List RefL) (r : RefL) (W : World) (hs : c.x.refs = pre ++ r :: rest) (hI : ResI c pre W)
  (e0 e5 e8 e9 ea eb ec ed ee ef eg eh ei ej ek el em en eo ep eq er es et eu ev ew ex ey ez eA eB eC eD eE eF eG eH eI eJ eK eL eM eN eO eP eQ eR eS eT eU eV eW eX eY eZ aa ab ac ad ae af ag ah ai aj ak al am an ao ap aq ar au av aw ax ay az aA aB aC aD aE aF aG aH aI aJ aK aL aM : Value) :
  body15.wpIn (Fence.wide.inRound l) 10 Try.prog (BE c.Bl (ResI c) (fun _ => False) (Jr c) (AC 170) (pre ++ [r]) W) { tmps := #[e0, .pointer (some ⟨B1, 0, none⟩), .pointer (some ⟨c.X, 0, none⟩), .pointer (some ⟨c.E, 0, none⟩), .pointer (some ⟨c.TB, 0, none⟩), e5, .pointer (some ⟨r.b, r.o, none⟩), int i64 (r.to : Int), e8, e9, ea, eb, ec, ed, ee, ef, eg, eh, ei, ej, ek, el, em, en, eo, ep, eq, er, es, et, eu, ev, ew, ex, ey, ez, eA, eB, eC, eD, eE, eF, eG, eH, eI, eJ, eK, eL, eM, eN, eO, eP, eQ, eR, eS, eT, eU, eV, eW, eX, eY, eZ, aa, ab, ac, ad, ae, af, ag, ah, ai, aj, ak, al, am, an, ao, ap, aq, ar, au, av, aw, ax, ay, az, aA, aB, aC, aD, aE, aF, aG, aH, aI, aJ, aK, aL, aM], defers := [] } W := by
 have hto : r.to ≤ 2 := Ls.refs_to (by rw [hs]; simp); by_cases h0 : r.to = 0
 ·exact Ka l c B1 pre rest r W hs hI h0 e0 e5 e8 e9 ea eb ec ed ee ef eg eh ei ej ek el em en eo ep eq er es et eu ev ew ex ey ez eA eB eC eD eE eF eG eH eI eJ eK eL eM eN eO eP eQ eR eS eT eU eV eW eX eY eZ aa ab ac ad ae af ag ah ai aj ak al am an ao ap aq ar au av aw ax ay az aA aB aC aD aE aF aG aH aI aJ aK aL aM
 by_cases h1 : r.to = 1
 ·exact Gc l c hK B1 pre rest r W hs hI c.rn c.mR (Or.inl ⟨h1, rfl, rfl⟩) e0 e5 e8 e9 ea eb ec ed ee ef eg eh ei ej ek el em en eo ep eq er es et eu ev ew ex ey ez eA eB eC eD eE eF eG eH eI eJ eK eL eM eN eO eP eQ eR eS eT eU eV eW eX eY eZ aa ab ac ad ae af ag ah ai aj ak al am an ao ap aq ar au av aw ax ay az aA aB aC aD aE aF aG aH aI aJ aK aL aM
 ·exact Gc l c hK B1 pre rest r W hs hI c.pn c.mP (Or.inr ⟨by omega, rfl, rfl⟩) e0 e5 e8 e9 ea eb ec ed ee ef eg eh ei ej ek el em en eo ep eq er es et eu ev ew ex ey ez eA eB eC eD eE eF eG eH eI eJ eK eL eM eN eO eP eQ eR eS eT eU eV eW eX eY eZ aa ab ac ad ae af ag ah ai aj ak al am an ao ap aq ar au av aw ax ay az aA aB aC aD aE aF aG aH aI aJ aK aL aM
end
end
section
open Go Go.RowKit Go.Shelf
noncomputable def Ea : Code := Ab 9 Ao
theorem IY {F : Fence} {n m : Nat} {P : Program} {c : Code} {Q : Exit → Act → World → Prop} {a : Act} {w : World} (hd : F.depth = none) (h : c.wpIn F n P Q a w) : c.wpIn F m P Q a w := fun b k cs h1 h2 _ => h b k cs h1 h2 (Eh hd _)
theorem ResI.fld {c : ResC} {pre : List RefL} {W : World} (h : ResI c pre W) : FldR c.kB c.X c.x W := by
 obtain ⟨V, v1, v2, v3⟩ := h; have v3' : Below V.heap.size V W := by rw [v1]; exact v3
 exact ⟨Ae v3' v2.bk, Ae v3' (Aa v2.bx 10 rfl), Ae v3' (Aa v2.bx 11 rfl), Bi v3' v2.ph⟩
theorem ResI.size {c : ResC} {pre : List RefL} {W : World} (h : ResI c pre W) : c.Bl ≤ W.heap.size := by
 obtain ⟨V, v1, v2, v3⟩ := h; have := v3.size; omega
section
attribute [local go_sem] Oper.semAt_some
theorem Kb (c : ResC) (hK : ResK c) (hpf : c.x.phrases = [] ∨ c.x.fa = some ⟨blk c.x.fa, off c.x.fa, none⟩) (hpl : c.x.phrases.length ≤ maxLen) (hdf : c.x.dances = [] ∨ c.x.da = some ⟨blk c.x.da, off c.x.da, none⟩) (hdl : c.x.dances.length ≤ maxLen) (hXE : c.X ≠ c.E) (hge : c.w.heap.size ≤ c.X ∧ c.w.heap.size ≤ c.E)
  (B1 : Nat) (W : World) (hkB : c.kB = W.heap.size) (hBl : c.Bl = W.heap.size + 1)
  (hQ : ∀ W1, Below W.heap.size W W1 → W1.cell? ⟨c.kB, 0, none⟩ = some (.pointer (some ⟨c.X, 0, none⟩)) → ResQ c [] W1) (R : Ending → World → Prop)
  (hok : ∀ ks V W', AA c.rn c.pn (c.x.refs.map RefL.key) c.ns = some ks → c.x.strip.kinds = true → NsAt V c.x.refs ks → AZ V (blk c.x.fa) (off c.x.fa) c.x.phrases → B5 V (blk c.x.da) (off c.x.da) c.x.dances → (∀ r ∈ c.x.refs, FreeB V r.b) → Below c.w.heap.size c.w V → V.heap.size ≤ W'.heap.size → W'.os = V.os → W'.tape = V.tape → W'.output = V.output → (∀ b, b < V.heap.size → b ≠ c.X → b ≠ c.E → W'.heap[b]? = V.heap[b]?) → R (.returned (.tuple #[.agg c.x.cells, int i64 0])) W')
  (herr : ∀ W', (c.x.strip.kinds = false ∨ AA c.rn c.pn (c.x.refs.map RefL.key) c.ns = none) → Below c.w.heap.size c.w W' → R (.returned (.tuple #[.agg C5, int i64 170])) W')
  (e0 e5 e6 e7 e8 e9 ea eb ec ed ee ef eg eh ei ej ek el em en eo ep eq er es et eu ev ew ex ey ez eA eB eC eD eE eF eG eH eI eJ eK eL eM eN eO eP eQ eR eS eT eU eV eW eX eY eZ aa ab ac ad ae af ag ah ai aj ak al am an ao ap aq ar au av aw ax ay az aA aB aC aD aE aF aG aH aI aJ aK aL aM : Value) :
  CH 15 Try.prog Ea (bodyPostM Fence.wide 0 Try.prog Try.f15 R) { tmps := #[e0, .pointer (some ⟨B1, 0, none⟩), .pointer (some ⟨c.X, 0, none⟩), .pointer (some ⟨c.E, 0, none⟩), .pointer (some ⟨c.TB, 0, none⟩), e5, e6, e7, e8, e9, ea, eb, ec, ed, ee, ef, eg, eh, ei, ej, ek, el, em, en, eo, ep, eq, er, es, et, eu, ev, ew, ex, ey, ez, eA, eB, eC, eD, eE, eF, eG, eH, eI, eJ, eK, eL, eM, eN, eO, eP, eQ, eR, eS, eT, eU, eV, eW, eX, eY, eZ, aa, ab, ac, ad, ae, af, ag, ah, ai, aj, ak, al, am, an, ao, ap, aq, ar, au, av, aw, ax, ay, az, aA, aB, aC, aD, aE, aF, aG, aH, aI, aJ, aK, aL, aM], defers := [dfr c.X c.E] } W := by
 have HQ := qh hQ; have HOK := qh hok; have HERR := qh herr; clear hQ hok herr; dsimp only; unfold Ea Ao
 conv => arg 3; whnf
 refine Em ?_; refine AN (fun K hKK => ?_); have HKK := qh hKK; clear hKK
 go_wp2_with (go_at_call 49; refine (DR ⟨c.X, 0, none⟩ W).mono ?_; rintro e W1 ⟨rfl, g1, b1, s1⟩); refine HKK.out _ _ ?_; clear HKK; rw [← hkB] at g1; have hq0 := HQ.out W1 b1 (Aa g1 0 rfl); have hBlW : W1.heap.size = c.Bl := by rw [hBl, s1]
 have hI0 : ResI c [] W1 := ⟨W1, hBlW, hq0, Below.refl _ _⟩; refine E1 ?_; refine Cr (fn0 := Try.f15) Try.func15 (gf := 74) (lb := #[.pointer (some ⟨W.heap.size, 0, none⟩)]) rfl (enters_of Try.func74 (by kernel_rfl) rfl)
  (DS W.heap.size c.X c.x (FldR W.heap.size c.X c.x) (fun _ h => h) hpf hpl hdf hdl W1) (fun _ => rfl) (ResI c) (fun _ => False) (Jr c)
  (fun s W W' row hs hg hr => hs.keep ((Below.refl _ _).grown hg hs.size (fun k e => by rw [← hBlW]; exact (hr k e).1))) (fun _ _ _ _ h => h.elim) (fun s W W' hs hb => hs.keep (hb.mono hs.size)) hI0 (fun _ _ h => by rw [← hkB]; exact h.fld)
  (fun r => { tmps := #[e0, .pointer (some ⟨B1, 0, none⟩), .pointer (some ⟨c.X, 0, none⟩), .pointer (some ⟨c.E, 0, none⟩), .pointer (some ⟨c.TB, 0, none⟩), e5, .pointer (some ⟨r.b, r.o, none⟩), int i64 (r.to : Int), e8, e9, ea, eb, ec, ed, ee, ef, eg, eh, ei, ej, ek, el, em, en, eo, ep, eq, er, es, et, eu, ev, ew, ex, ey, ez, eA, eB, eC, eD, eE, eF, eG, eH, eI, eJ, eK, eL, eM, eN, eO, eP, eQ, eR, eS, eT, eU, eV, eW, eX, eY, eZ, aa, ab, ac, ad, ae, af, ag, ah, .func (.func 74) #[] #[.pointer (some ⟨W.heap.size, 0, none⟩)], .pointer (some ⟨r.b, r.o, none⟩), int i64 (r.to : Int), al, am, an, ao, ap, aq, ar, au, av, aw, ax, ay, az, aA, aB, aC, aD, aE, aF, aG, aH, aI, aJ, aK, aL, aM], defers := [] }) ?assign ?body ?bad ?done ?stop ?pan
 case assign =>
  intro l r V K hKv; have HKv := qh hKv; clear hKv; unfold EU; dsimp only; gi_wp2_with fail; exact HKv.out
 case body =>
  intro l pre r rest V hs hI; rw [hBlW]; exact IY rfl (LU l c hK B1 pre rest r V hs hI _ _ _ _ _ _ _ _ _ _ _ _ _ _ _ _ _ _ _ _ _ _ _ _ _ _ _ _ _ _ _ _ _ _ _ _ _ _ _ _ _ _ _ _ _ _ _ _ _ _ _ _ _ _ _ _ _ _ _ _ _ _ _ _ _ _ _ _ _ _ _ _ _ _ _ _ _ _ _ _ _ _ _ _ _ _ _ _ _ _ _ _ _)
 case bad =>
  intro pre rest V hs hnk hI; exact ⟨Or.inl (by simpa using hnk), pre, hI⟩
 case stop => exact fun _ _ _ h _ => h.elim
 case pan =>
  intro D V hD hF hDD; obtain ⟨hf, pre, U, u1, u2, u3⟩ := hF; have u3' : Below U.heap.size U V := by rw [u1]; exact u3
  have gX := (u3'.block _ (qs.1 u2.bx).1).trans u2.bx; have gE := (u3'.block _ (qs.1 u2.be).1).trans u2.be; refine Fk _ c.X c.E D 170 _ _ R V rfl rfl gX rfl gE hXE hDD fun W' hb => HERR.out W' hf ?_
  have hb2 := u2.base.trans (u3'.mono u2.base.size); exact hb2.trans (hb _ hge.1 hge.2 (by have := u2.base.size; omega))
 case done =>
  intro D V hD hkd hI hDD; obtain ⟨U, u1, u2, u3⟩ := hI; have u3' : Below U.heap.size U V := by rw [u1]; exact u3
  have gX := (u3'.block _ (qs.1 u2.bx).1).trans u2.bx; have gE := (u3'.block _ (qs.1 u2.be).1).trans u2.be; obtain ⟨ks, rest, n1, js, q1, q2, q3, q4, q5⟩ := u2.refs
  have hr0 : rest = [] := by
   have := congrArg List.length q1; simp only [List.length_append] at this; exact List.length_eq_zero_iff.1 (by omega)
  have hj0 : js = [] := by
   rw [hr0] at q5
   cases js with
   | nil => rfl
   | cons => exact q5.elim
  rw [hj0, List.append_nil] at q2; obtain ⟨W2, x2, g2, o2, b2, s2⟩ := Ey gX rfl (sv c.x.name) (int i64 c.x.wd) (int i64 c.x.dp) (int i64 c.x.bars) (int i64 c.x.t0) (int i64 c.x.t1) (.slice c.x.ra c.x.roles.length c.x.rc) (.slice c.x.ta c.x.tempos.length c.x.tc) (.slice c.x.ua c.x.pauses.length c.x.uc) (.slice c.x.sa c.x.spans.length c.x.sc) (.slice c.x.fa c.x.phrases.length c.x.fc) (.slice c.x.da c.x.dances.length c.x.dc); have gE2 := (o2 c.E (fun e => hXE e.symm)).trans gE; obtain ⟨W3, x3, g3, o3, b3, s3⟩ := C1 gE2 (int i64 0); have nX : c.X ≠ D := fun e => by rw [e, hDD] at gX; cases gX
  have nE : c.E ≠ D := fun e => by rw [e, hDD] at gE; cases gE
  have hD3 := (o3 D (fun e => nE e.symm)).trans ((o2 D (fun e => nX e.symm)).trans hDD); have gX3 := (o3 c.X hXE).trans g2; have hdl2 : U.heap.size ≤ D := by rw [u1, ← hBlW]; exact hD
  have hR := HOK.out ks U (W3.putObj D (.deferred none)) (by rw [q2]; exact q3) hkd q4 u2.ph u2.da u2.free u2.base (by simp [World.putObj]; have := u3'.size; omega)
   ((b3 0 V (b2 0 V (Below.refl _ _) (Nat.zero_le _)) (Nat.zero_le _)).os.trans u3'.os) ((b3 0 V (b2 0 V (Below.refl _ _) (Nat.zero_le _)) (Nat.zero_le _)).tape.trans u3'.tape) ((b3 0 V (b2 0 V (Below.refl _ _) (Nat.zero_le _)) (Nat.zero_le _)).output.trans u3'.output)
   (fun b hb h1 h2 => (World.putObj_heap_other (by omega)).trans ((o3 b h2).trans ((o2 b h1).trans (u3'.block b hb))))
  have HR := qh hR; have HD3 := qh hD3; have G3 := qh g3; have GX3 := qh gX3; have fX : ∀ j, V.frozen? ⟨c.X, j, none⟩ = false := fun j => by simp [World.frozen?, gX]
  have cE2 : W2.cell? ⟨c.E, 0, none⟩ = some (int i64 0) := Aa gE2 0 rfl; have fE2 : W2.frozen? ⟨c.E, 0, none⟩ = false := by simp [World.frozen?, gE2]
  have y0 : V.cell? ⟨c.X, 0, none⟩ = some (sv c.x.name) := Aa gX 0 rfl; have y1 : V.cell? ⟨c.X, 1, none⟩ = some (int i64 c.x.wd) := Aa gX 1 rfl; have y2 : V.cell? ⟨c.X, 2, none⟩ = some (int i64 c.x.dp) := Aa gX 2 rfl; have y3 : V.cell? ⟨c.X, 3, none⟩ = some (int i64 c.x.bars) := Aa gX 3 rfl; have y4 : V.cell? ⟨c.X, 4, none⟩ = some (int i64 c.x.t0) := Aa gX 4 rfl; have y5 : V.cell? ⟨c.X, 5, none⟩ = some (int i64 c.x.t1) := Aa gX 5 rfl; have y6 : V.cell? ⟨c.X, 6, none⟩ = some (.slice c.x.ra c.x.roles.length c.x.rc) := Aa gX 6 rfl; have y7 : V.cell? ⟨c.X, 7, none⟩ = some (.slice c.x.ta c.x.tempos.length c.x.tc) := Aa gX 7 rfl; have y8 : V.cell? ⟨c.X, 8, none⟩ = some (.slice c.x.ua c.x.pauses.length c.x.uc) := Aa gX 8 rfl; have y9 : V.cell? ⟨c.X, 9, none⟩ = some (.slice c.x.sa c.x.spans.length c.x.sc) := Aa gX 9 rfl; have y10 : V.cell? ⟨c.X, 10, none⟩ = some (.slice c.x.fa c.x.phrases.length c.x.fc) := Aa gX 10 rfl; have y11 : V.cell? ⟨c.X, 11, none⟩ = some (.slice c.x.da c.x.dances.length c.x.dc) := Aa gX 11 rfl; clear hR hD3 g3 gX3 u1 u2 u3 u3' gX gE q1 q2 q3 q4 q5 hr0 hj0 g2 o2 b2 s2 gE2 o3 b3 s3 nX nE hdl2 hI0 hq0 hDD hD hkd g1 b1 s1 hBlW
  show CH 15 Try.prog _ _ _ V
  refine E2 ?_; go_wp2_with fail; refine Lr _ c.X c.E D _ _ R W3 ?_ ?_ GX3.out rfl G3.out HD3.out HR.out <;> rfl
end
end
section
open Go Go.RowKit Go.Shelf
noncomputable def elem15n8 : Code := match Ab 8 Ao with
 | .seq a _ => a
 | c => c
theorem IH (B1 X E TB : Nat) (cs : Array Value) (ao : Option Addr) (cc : Nat) (ds : List Deferred) (W0 : World) (hX : W0.heap[X]? = some (.cells cs 30 (0, 0))) (h10 : cs[10]? = some (.slice ao 0 cc)) (Q : Act → World → Prop)
  (hQ : ∀ (f0 f5 f6 f7 f8 f9 aO aP aQ aR aS aT aU aV aW aX aY aZ ba bb bc bd be bf bg bh bi bj bk bl bm bn bo bp bq br bs bt bu bv bw bx bz bA bB bC bD bE bF bG bH bI bJ bK bL bM bN bO bP bQ bR bS bT bU bV bW bX bY bZ ca cb cd ce cf cg ch ci cj ck cl cm cn co cp cq cr ct cu cv cw cx cy cz cA cB : Value), Q { tmps := #[f0, .pointer (some ⟨B1, 0, none⟩), .pointer (some ⟨X, 0, none⟩), .pointer (some ⟨E, 0, none⟩), .pointer (some ⟨TB, 0, none⟩), f5, f6, f7, f8, f9, aO, aP, aQ, aR, aS, aT, aU, aV, aW, aX, aY, aZ, ba, bb, bc, bd, be, bf, bg, bh, bi, bj, bk, bl, bm, bn, bo, bp, bq, br, bs, bt, bu, bv, bw, bx, bz, bA, bB, bC, bD, bE, bF, bG, bH, bI, bJ, bK, bL, bM, bN, bO, bP, bQ, bR, bS, bT, bU, bV, bW, bX, bY, bZ, ca, cb, cd, ce, cf, cg, ch, ci, cj, ck, cl, cm, cn, co, cp, cq, cr, ct, cu, cv, cw, cx, cy, cz, cA, cB], defers := ds } W0)
  (e0 e5 e6 e7 e8 e9 ea eb ec ed ee ef eg eh ei ej ek el em en eo ep eq er es et eu ev ew ex ey ez eA eB eC eD eE eF eG eH eI eJ eK eL eM eN eO eP eQ eR eS eT eU eV eW eX eY eZ aa ab ac ad ae af ag ah ai aj ak al am an ap aq ar au av aw ax ay az aA aB aC aD aE aF aG aH aI aJ aK aL aM aN : Value) :
  elem15n8.wp Try.prog (Exit.then Q (fun _ _ _ => False)) { tmps := #[e0, .pointer (some ⟨B1, 0, none⟩), .pointer (some ⟨X, 0, none⟩), .pointer (some ⟨E, 0, none⟩), .pointer (some ⟨TB, 0, none⟩), e5, e6, e7, e8, e9, ea, eb, ec, ed, ee, ef, eg, eh, ei, ej, ek, el, em, en, eo, ep, eq, er, es, et, eu, ev, ew, ex, ey, ez, eA, eB, eC, eD, eE, eF, eG, eH, eI, eJ, eK, eL, eM, eN, eO, eP, eQ, eR, eS, eT, eU, eV, eW, eX, eY, eZ, aa, ab, ac, ad, ae, af, ag, ah, ai, aj, ak, al, am, an, ap, aq, ar, au, av, aw, ax, ay, az, aA, aB, aC, aD, aE, aF, aG, aH, aI, aJ, aK, aL, aM, aN], defers := ds } W0 := by
 have c10 := Aa hX 10 h10; have HQ := qh hQ; clear hQ hX h10; dsimp only; unfold elem15n8 Ao
 conv => arg 2; whnf
 go_wp2_with fail; go_loopw [54] (fun iv wr => iv = int i64 0 ∧ wr = W0) (fun _ _ => 0)
 case atStart => exact ⟨rfl, rfl⟩
 case round =>
  obtain ⟨rfl, rfl⟩ := hrel; go_wp2_with fail; exact HQ.out _ _ _ _ _ _ _ _ _ _ _ _ _ _ _ _ _ _ _ _ _ _ _ _ _ _ _ _ _ _ _ _ _ _ _ _ _ _ _ _ _ _ _ _ _ _ _ _ _ _ _ _ _ _ _ _ _ _ _ _ _ _ _ _ _ _ _ _ _ _ _ _ _ _ _ _ _ _ _ _ _ _ _ _ _ _ _ _ _ _ _ _ _ _ _
theorem II (ps : List Ph) (ns : List Int) (lo g n cc B1 X E TB : Nat) (cs : Array Value) (ds : List Deferred) (W0 : World) (hn : ps.length = n) (hmax : n ≤ 100000) (hX : W0.heap[X]? = some (.cells cs 30 (0, 0))) (h10 : cs[10]? = some (.slice (some ⟨g, 0, none⟩) n cc)) (hgX : X ≠ g) (hg0 : g < W0.heap.size) (hS : PhS ps ns lo g 0 W0 [] ps [] ns W0) (Q : Act → World → Prop)
  (hQ : ∀ (A : List Ph) (n1 : List Int) (W : World), A.length = n → PhS ps ns lo g n W0 A [] n1 [] W → ∀ (f0 f5 f6 f7 f8 f9 aO aP aQ aR aS aT aU aV aW aX aY aZ ba bb bc bd be bf bg bh bi bj bk bl bm bn bo bp bq br bs bt bu bv bw bx bz bA bB bC bD bE bF bG bH bI bJ bK bL bM bN bO bP bQ bR bS bT bU bV bW bX bY bZ ca cb cd ce cf cg ch ci cj ck cl cm cn cp cq cr ct cu cv cw cx cy cz cA cB cC : Value), Q { tmps := #[f0, .pointer (some ⟨B1, 0, none⟩), .pointer (some ⟨X, 0, none⟩), .pointer (some ⟨E, 0, none⟩), .pointer (some ⟨TB, 0, none⟩), f5, f6, f7, f8, f9, aO, aP, aQ, aR, aS, aT, aU, aV, aW, aX, aY, aZ, ba, bb, bc, bd, be, bf, bg, bh, bi, bj, bk, bl, bm, bn, bo, bp, bq, br, bs, bt, bu, bv, bw, bx, bz, bA, bB, bC, bD, bE, bF, bG, bH, bI, bJ, bK, bL, bM, bN, bO, bP, bQ, bR, bS, bT, bU, bV, bW, bX, bY, bZ, ca, cb, cd, ce, cf, cg, ch, ci, cj, ck, cl, cm, cn, cp, cq, cr, ct, cu, cv, cw, cx, cy, cz, cA, cB, cC], defers := ds } W)
  (e0 e5 e6 e7 e8 e9 ea eb ec ed ee ef eg eh ei ej ek el em en eo ep eq er es et eu ev ew ex ey ez eA eB eC eD eE eF eG eH eI eJ eK eL eM eN eO eP eQ eR eS eT eU eV eW eX eY eZ aa ab ac ad ae af ag ah ai aj ak al am an ap aq ar au av aw ax ay az aA aB aC aD aE aF aG aH aI aJ aK aL aM aN : Value) :
  elem15n8.wp Try.prog (Exit.then Q (fun _ _ _ => False)) { tmps := #[e0, .pointer (some ⟨B1, 0, none⟩), .pointer (some ⟨X, 0, none⟩), .pointer (some ⟨E, 0, none⟩), .pointer (some ⟨TB, 0, none⟩), e5, e6, e7, e8, e9, ea, eb, ec, ed, ee, ef, eg, eh, ei, ej, ek, el, em, en, eo, ep, eq, er, es, et, eu, ev, ew, ex, ey, ez, eA, eB, eC, eD, eE, eF, eG, eH, eI, eJ, eK, eL, eM, eN, eO, eP, eQ, eR, eS, eT, eU, eV, eW, eX, eY, eZ, aa, ab, ac, ad, ae, af, ag, ah, ai, aj, ak, al, am, an, ap, aq, ar, au, av, aw, ax, ay, az, aA, aB, aC, aD, aE, aF, aG, aH, aI, aJ, aK, aL, aM, aN], defers := ds } W0 := by
 have c10 := Aa hX 10 h10; have hXl := (qs.1 hX).1; have HQ := qh hQ; have HS := qh hS; have HN := qh hn; have HC10 := qh c10; clear hQ hX h10 hS hn; dsimp only; unfold elem15n8 Ao
 conv => arg 2; whnf
 go_wp2_with fail; clear c10; go_loopw [54] (fun iv wr => ∃ (i : Nat) (A R : List Ph) (n1 n2 : List Int), iv = int i64 i ∧ i + R.length = n ∧ Hid (PhS ps ns lo g i W0 A R n1 n2 wr)) (fun iv _ => n + 1 - (intOf iv).toNat)
 case atStart => exact ⟨0, [], ps, [], ns, rfl, by rw [HN.out]; omega, HS⟩
 case round =>
  obtain ⟨i, A, R, n1, n2, rfl, hin, hS⟩ := hrel
  cases R with
  | nil =>
   simp only [List.length_nil] at hin; obtain rfl : i = n := by omega
   have h := hS.out
   have hn2 : n2 = [] := by
    have := h.nsR
    cases n2 with
    | nil => rfl
    | cons => exact this.elim
   subst hn2; go_wp2_with fail; exact HQ.out A n1 _ h.len h _ _ _ _ _ _ _ _ _ _ _ _ _ _ _ _ _ _ _ _ _ _ _ _ _ _ _ _ _ _ _ _ _ _ _ _ _ _ _ _ _ _ _ _ _ _ _ _ _ _ _ _ _ _ _ _ _ _ _ _ _ _ _ _ _ _ _ _ _ _ _ _ _ _ _ _ _ _ _ _ _ _ _ _ _ _ _ _ _ _ _ _ _ _ _
  | cons p r =>
   simp only [List.length_cons] at hin; have hi : (i : Int) < (n : Int) := by omega
   have h := hS.out; obtain ⟨⟨q0, q1, qf, ql, qA⟩, hr⟩ := h.atR; unfold Ph.val at q1; obtain ⟨m1, m2, hn2, k1, k2⟩ := NsAt.split (xs := p.refsL) h.nsR; obtain ⟨sm1, sm2⟩ := h.small p (by simp)
   have CI : ∀ W, Below wr.heap.size wr W → Calls Try.prog 48 #[.slice p.ia p.its.len p.ic] W fun e W' => ∃ ao co, e = .returned (.slice ao p.its.len co) ∧ Hid (Below wr.heap.size wr W ∧ ClP p.its m1 W e W') ∧ Below wr.heap.size wr W' := fun W hb =>
    (In _ p.its (qn _) p.ia p.ic m1 W sm1 qf (qA.below hb) (k1.below hb) sm2).mono fun e W' hp => by
     obtain ⟨a, co, T', h1, h2⟩ := id hp; exact ⟨a, co, h1, qh ⟨hb, hp⟩, hb.trans (h2.2.2.2.2.2.2.mono hb.size)⟩
   have HCI := qh CI; have HK2 := qh k2; have HN2 := qh hn2; have cX := h.but.cell HC10.out hgX; have hXr : X < wr.heap.size := BT cX; have fr := h.gf.2
   have hkeep : ∀ W, Below wr.heap.size wr W → W.cell? ⟨X, 10, none⟩ = some (.slice (some ⟨g, 0, none⟩) n cc) ∧ W.cell? ⟨g, i * 2 + 1, none⟩ = some (.slice p.ia p.its.len p.ic) ∧ W.frozen? ⟨g, i * 2 + 1, none⟩ = false := fun W hb => ⟨Ae hb cX, Ae hb q1, (fr.below hb).free _⟩
   have HKP := qh hkeep; have hB0 : Below wr.heap.size wr wr := Below.refl _ _; clear CI h qf ql qA hr k1 k2 sm1 sm2 hkeep fr q0 hn2; go_wp2_with fail
   go_region_with (go_at_call 48; refine (HCI.out _ (by first | assumption | exact Below.drew (by assumption) | exact Ar (by assumption) _)).mono ?_; rintro e w6 ⟨ao', co', rfl, hi6, hb6⟩; have c6X := (HKP.out _ hb6).1; have c61 := (HKP.out _ hb6).2.1; have bO := (HKP.out _ hb6).2.2)
   all_goals
    go_wp2_with fail; go_roundw
    case rel =>
     obtain ⟨A', hA'⟩ := MO hS.out HN2.out HK2.out hg0 hi6.out.1 hi6.out.2; exact ⟨i + 1, A', r, _, _, by go_num, by omega, qh hA'⟩
    case measure => simp [intOf]; omega
end
end Go.Proofs.Ytpnbpepkoekkoaa
