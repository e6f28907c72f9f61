/- Contracts and plain laws on the way to the statement: part 28. -/
import Derived.Test.YtpnbpepkoekkoaaZ27
import Derived.Test.YtpnbpepkoekkoaaZ14
import Derived.Test.YtpnbpepkoekkoaaZ13
import Derived.Test.YtpnbpepkoekkoaaZ24
import Derived.Test.YtpnbpepkoekkoaaZ2
import Derived.Test.YtpnbpepkoekkoaaZ16
import Derived.ChangeKeysEq
import Derived.BigQuiet
import Derived.BigCall
import Derived.BigGuard
import Derived.Test.YtpnbpepkoekkoaaZ3
set_option linter.unusedVariables false
set_option linter.unusedSimpArgs false
set_option maxRecDepth 100000
set_option maxHeartbeats 16000000
namespace Go.Proofs.Ytpnbpepkoekkoaa
open Go.Value (int)
open Go.IntKind (i64)
section
open Go Go.RowKit Go.Shelf
noncomputable def H6 : Code := match Ab 4 AO with
 | .seq a _ => a
 | c => c
noncomputable def H7 : Code := match Ab 5 AO with
 | .seq a _ => a
 | c => c
theorem O2 : Ab 4 AO = .seq H6 (Ab 5 AO) := rfl
theorem O3 : Ab 5 AO = .seq H7 (Ab 6 AO) := rfl
theorem J6 (t : Array Value) (E D1 D2 : Nat) (v : Value) (R : Ending → World → Prop) (W : World) (ht2 : t.getD 2 undef = .pointer (some ⟨E, 0, none⟩)) (hE : W.heap[E]? = some (.cells #[v] 35 (0, 0))) (h1 : W.heap[D1]? = some (.deferred (some []))) (h2 : W.heap[D2]? = some (.deferred (some []))) (hne : D1 ≠ D2)
  (hR : ∀ W', (∀ B, B ≤ D1 → B ≤ D2 → Below B W W') → R (.returned v) W') :
  bodyPostM Fence.wide 0 Try.prog Try.f16 R .ret { tmps := t, defers := [{ target := .collected D2, args := #[] }, { target := .collected D1, args := #[] }] } W := by
 have n1 : E ≠ D1 := fun e => by rw [e, h1] at hE; cases hE
 have n2 : E ≠ D2 := fun e => by rw [e, h2] at hE; cases hE
 refine ⟨by simp, .inl ⟨D2, _, rfl, run_takeDeferred h2, ?_⟩⟩; refine ⟨by simp, .inl ⟨D1, _, rfl, run_takeDeferred ((World.putObj_heap_other hne).trans h1), ?_⟩⟩; have hE2 : ((W.putObj D2 (.deferred none)).putObj D1 (.deferred none)).heap[E]? = some (.cells #[v] 35 (0, 0)) := (World.putObj_heap_other n1).trans ((World.putObj_heap_other n2).trans hE); have yE : ((W.putObj D2 (.deferred none)).putObj D1 (.deferred none)).cell? ⟨E, 0, none⟩ = some v := Aa hE2 0 rfl; refine ⟨v, ?_, hR _ fun B b1 b2 => ⟨rfl, rfl, rfl, by simp [World.putObj], fun k hk => (World.putObj_heap_other (by omega)).trans (World.putObj_heap_other (by omega))⟩⟩; simp at ht2; simp [results, Try.results16, go_sem, ht2, yE]
theorem JN (t : Array Value) (E : Nat) (v : Value) (R : Ending → World → Prop) (W : World) (ht2 : t.getD 2 undef = .pointer (some ⟨E, 0, none⟩)) (hE : W.heap[E]? = some (.cells #[v] 35 (0, 0))) (hR : R (.returned v) W) :
  bodyPostM Fence.wide 0 Try.prog Try.f16 R .ret { tmps := t, defers := [] } W := by
 have yE : W.cell? ⟨E, 0, none⟩ = some v := Aa hE 0 rfl; refine ⟨v, ?_, hR⟩; simp at ht2; simp [results, Try.results16, go_sem, ht2, yE]
theorem NO (c : Int) (B1 E X : Nat) (W : World) (hE : W.heap[E]? = some (.cells #[int i64 c] 35 (0, 0))) (K : Act → World → Prop) (Q : Exit → Act → World → Prop)
  (hK : c = 0 → ∀ (e0 e4 e5 e6 e7 e8 e9 ea eb ec ed ee ef eg eh ei ej ek el em en eo ep eq er es et eu ev ew ex ey ez eA eB : Value), K { tmps := #[e0, .pointer (some ⟨B1, 0, none⟩), .pointer (some ⟨E, 0, none⟩), .pointer (some ⟨X, 0, none⟩), e4, e5, e6, e7, e8, e9, ea, eb, ec, ed, ee, ef, eg, eh, ei, ej, ek, el, em, en, eo, ep, eq, er, es, et, eu, ev, ew, ex, ey, ez, eA, eB], defers := [] } W)
  (hbad : c ≠ 0 → ∀ W', W'.heap[E]? = some (.cells #[int i64 c] 35 (0, 0)) → (∀ B w0, Below B w0 W → B ≤ E → Below B w0 W') → ∀ (e0 e4 e5 e6 e7 e8 e9 ea eb ec ed ee ef eg eh ei ej ek el em en eo ep eq er es et eu ev ew ex ey ez eA eB : Value), Q .ret { tmps := #[e0, .pointer (some ⟨B1, 0, none⟩), .pointer (some ⟨E, 0, none⟩), .pointer (some ⟨X, 0, none⟩), e4, e5, e6, e7, e8, e9, ea, eb, ec, ed, ee, ef, eg, eh, ei, ej, ek, el, em, en, eo, ep, eq, er, es, et, eu, ev, ew, ex, ey, ez, eA, eB], defers := [] } W')
  (e0 e4 e5 e6 e7 e8 e9 ea eb ec ed ee ef eg eh ei ej ek el em en eo ep eq er es et eu ev ew ex ey ez eA eB : Value) :
  elem16n2.wp Try.prog (Exit.then K Q) { tmps := #[e0, .pointer (some ⟨B1, 0, none⟩), .pointer (some ⟨E, 0, none⟩), .pointer (some ⟨X, 0, none⟩), e4, e5, e6, e7, e8, e9, ea, eb, ec, ed, ee, ef, eg, eh, ei, ej, ek, el, em, en, eo, ep, eq, er, es, et, eu, ev, ew, ex, ey, ez, eA, eB], defers := [] } W := by
 have yE : W.cell? ⟨E, 0, none⟩ = some (int i64 c) := Aa hE 0 rfl; have fE := (show FreeB W E from ⟨_, _, hE⟩).free 0; by_cases h0 : c = 0
 ·have HF := qh (hK h0)
  subst h0; clear hK hbad hE; dsimp only; unfold elem16n2 AO
  conv => arg 2; whnf
  go_wp2_with fail; exact HF.out _ _ _ _ _ _ _ _ _ _ _ _ _ _ _ _ _ _ _ _ _ _ _ _ _ _ _ _ _ _ _ _ _ _ _
 ·obtain ⟨W', xW, g, _, b, _⟩ := C1 hE (int i64 c)
  have HF := qh (hbad h0 W' g b); have hb : (c != 0) = true := by simpa using h0
  clear hK hbad hE g b; dsimp only; unfold elem16n2 AO
  conv => arg 2; whnf
  go_wp2_with fail; exact HF.out _ _ _ _ _ _ _ _ _ _ _ _ _ _ _ _ _ _ _ _ _ _ _ _ _ _ _ _ _ _ _ _ _ _ _
theorem NQ (B1 E X : Nat) (W : World) (K : Act → World → Prop)
  (hK : ∀ W' TB, Below W.heap.size W W' → W.heap.size ≤ TB → W'.heap[TB]? = some (.cells #[.slice none 0 0] 63 (0, 0)) → ∀ (e0 e5 e6 e7 e8 e9 ea eb ec ed ee ef eg eh ei ej ek el em en eo ep eq er es et eu ev ew ex ey ez eA eB : Value), K { tmps := #[e0, .pointer (some ⟨B1, 0, none⟩), .pointer (some ⟨E, 0, none⟩), .pointer (some ⟨X, 0, none⟩), .pointer (some ⟨TB, 0, none⟩), e5, e6, e7, e8, e9, ea, eb, ec, ed, ee, ef, eg, eh, ei, ej, ek, el, em, en, eo, ep, eq, er, es, et, eu, ev, ew, ex, ey, ez, eA, eB], defers := [] } W')
  (e0 e4 e5 e6 e7 e8 e9 ea eb ec ed ee ef eg eh ei ej ek el em en eo ep eq er es et eu ev ew ex ey ez eA eB : Value) :
  elem16n3.wp Try.prog (Exit.then K (fun _ _ _ => False)) { tmps := #[e0, .pointer (some ⟨B1, 0, none⟩), .pointer (some ⟨E, 0, none⟩), .pointer (some ⟨X, 0, none⟩), e4, e5, e6, e7, e8, e9, ea, eb, ec, ed, ee, ef, eg, eh, ei, ej, ek, el, em, en, eo, ep, eq, er, es, et, eu, ev, ew, ex, ey, ez, eA, eB], defers := [] } W := by
 obtain ⟨W1, x1, g1, b1, s1⟩ := Ai W #[.slice none 0 0] 63; have HF := qh (hK W1 W.heap.size b1 (qn _) g1); clear hK g1 b1 s1; dsimp only; unfold elem16n3 AO
 conv => arg 2; whnf
 go_wp2_with fail; exact HF.out _ _ _ _ _ _ _ _ _ _ _ _ _ _ _ _ _ _ _ _ _ _ _ _ _ _ _ _ _ _ _ _ _ _
def Gp (s : Sc) (ns : List Int) (w : World) (e : Ending) (w' : World) : Prop := e = .returned (int i64 (Bp s ns)) ∧ Below w.heap.size w w'
section
attribute [local go_sem] Oper.semAt_some
theorem Jv (s x : Ls) (ns ks : List Int) (w : World) (h0 : Cd s.strip ns = 0) (hidx : s.strip.idx ns = some ks) (hns : ns.length = x.refs.length) (hkd : x.strip.kinds = true)
  (B1 E X TB g D1 : Nat) (W : World) (hX : W.heap[X]? = some (.cells x.cells 30 (0, 0))) (hE : W.heap[E]? = some (.cells #[int i64 0] 35 (0, 0))) (hD : W.heap[D1]? = some (.deferred (some [])))
  (hT : ∃ ao c, W.heap[TB]? = some (.cells #[.slice ao x.refs.length c] 63 (0, 0)) ∧ (0 < x.refs.length → ao = some ⟨g, 0, none⟩) ∧ x.refs.length ≤ c)
  (hG : ∀ (i : Nat) (n : Int), ns[i]? = some n → W.cell? ⟨g, i, none⟩ = some (int i64 n)) (hgT : g ≠ TB)
  (hA : x.At W) (hN : NsAt W x.refs ks) (hrT : ∀ r ∈ x.refs, r.b ≠ TB) (hoT : ∀ b ∈ AR x.phrases, b ≠ TB) (hfT : x.phrases ≠ [] → blk x.fa ≠ TB)
  (hb : Below w.heap.size w W) (hge : w.heap.size ≤ TB ∧ w.heap.size ≤ E ∧ w.heap.size ≤ D1) (e0 e5 e6 e7 e8 e9 ea eb ec ed ee ef eg eh ei ej ek el em en eo ep eq er es et eu ev ew ex ey ez eA eB : Value) :
  CH 16 Try.prog (Ab 5 AO) (bodyPostM Fence.wide 0 Try.prog Try.f16 (Gp s.strip ns w)) { tmps := #[e0, .pointer (some ⟨B1, 0, none⟩), .pointer (some ⟨E, 0, none⟩), .pointer (some ⟨X, 0, none⟩), .pointer (some ⟨TB, 0, none⟩), e5, e6, e7, e8, e9, ea, eb, ec, ed, ee, ef, eg, eh, ei, ej, ek, el, em, en, eo, ep, eq, er, es, et, eu, ev, ew, ex, ey, ez, eA, eB], defers := [{ target := .collected D1, args := #[] }] } W := by
 obtain ⟨ao, c, hT1, hT2, hT3⟩ := hT; have hTE : E ≠ TB := fun e => by rw [e, hT1] at hE; simp at hE
 have hTX : X ≠ TB := fun e => by rw [e, hT1] at hX; simp at hX
 have hTD : D1 ≠ TB := fun e => by rw [e, hT1] at hD; simp at hD
 have hTl := (qs.1 hT1).1; have hEl := (qs.1 hE).1; have hXl := (qs.1 hX).1; rw [O3]; refine Em ?_; unfold H7 AO
 conv => arg 3; whnf
 refine AN (fun K hKK => ?_); have HKK := qh hKK; clear hKK; have HXX := qh hX; have HEE := qh hE; have HDD := qh hD; have HTT := qh hT1; clear hX hE hD hT1; dsimp only
 go_wp2_with (go_at_call 49; refine (DR ⟨X, 0, none⟩ W).mono ?_; rintro e W1 ⟨rfl, g1, b1, s1⟩); refine HKK.out _ _ ?_; clear HKK; have hX := HXX.out; have hE := HEE.out; have hD := HDD.out; have hT1 := HTT.out; have o1 : ∀ {b : Nat} {o : Obj}, W.heap[b]? = some o → W1.heap[b]? = some o := fun h => (b1.block _ (qs.1 h).1).trans h
 have hA1 := hA.below b1; have hX1 := o1 hX; unfold Ls.cells at hX1
 have hFR : ∀ (pre : List RefL) V, Chk2 TB W1 g x.refs.length ks ns pre V → FldR W.heap.size X x V := fun pre V h => by
  refine ⟨h.but.cell (Aa g1 0 rfl) (by show W.heap.size ≠ TB; omega), h.but.cell (Aa hX1 10 rfl) hTX, h.but.cell (Aa hX1 11 rfl) hTX, ?_⟩; by_cases hz : x.phrases = []
  ·rw [hz]; trivial
  ·exact C8 hA1.phrases (fun q v _ hc => h.but.cellk (hfT hz) hc) (fun c hc q v h2 => h.but.cellk (hoT c hc) h2)
 have hI0 : Chk2 TB W1 g x.refs.length ks ns [] W1 := ⟨ButOne.refl _ _, ⟨ao, c, by simpa using o1 hT1, by simpa using hT2, by simpa using hT3⟩, rfl⟩; have hb1 : Below w.heap.size w W1 := hb.trans (b1.mono hb.size); have hksl : ks.length = x.refs.length := hN.len; refine E1 ?_; refine Cr (fn0 := Try.f16) Try.func16 (gf := 74) (lb := #[.pointer (some ⟨W.heap.size, 0, none⟩)]) rfl (enters_of Try.func74 (by kernel_rfl) rfl)
  (DS W.heap.size X x (FldR W.heap.size X x) (fun _ h => h) hA.pform hA.plen hA.dform hA.dlen W1) (fun _ => rfl) (Chk2 TB W1 g x.refs.length ks ns) (Chk2X TB E w W1 ks ns) (fun _ => False)
  (fun p V V' row h hg hr => ⟨h.but.grown hg (fun k e => (hr k e).1), by obtain ⟨a', c', q1, q2⟩ := h.row; exact ⟨a', c', (hg.block TB (qs.1 q1).1 (fun e => by have := (hr TB e.symm).1; omega)).trans q1, q2⟩, h.same⟩)
  (fun p V V' row h hg hr => ⟨Nat.le_trans h.size hg.size, fun b h1 h2 h3 => (hg.block b (by have := h.size; omega) (fun e => by have := (hr b e.symm).1; omega)).trans (h.rest b h1 h2 h3), (hg.block E (qs.1 h.err).1 (fun e => by have := (hr E e.symm).1; omega)).trans h.err, h.base.grown hg h.base.size (fun k e => by have := (hr k e).1; have := hb1.size; omega), h.ne⟩)
  (fun p V V' h hb => ⟨h.but.trans (ButOne.of_below hb), by obtain ⟨a', c', q1, q2⟩ := h.row; exact ⟨a', c', (hb.block TB (qs.1 q1).1).trans q1, q2⟩, h.same⟩)
  hI0 hFR
  (fun r => { tmps := #[e0, .pointer (some ⟨B1, 0, none⟩), .pointer (some ⟨E, 0, none⟩), .pointer (some ⟨X, 0, none⟩), .pointer (some ⟨TB, 0, none⟩), e5, .pointer (some ⟨r.b, r.o, none⟩), e7, e8, e9, ea, eb, ec, ed, ee, ef, eg, eh, ei, ej, ek, el, em, en, eo, .func (.func 74) #[] #[.pointer (some ⟨W.heap.size, 0, none⟩)], .pointer (some ⟨r.b, r.o, none⟩), int i64 (r.to : Int), es, et, eu, ev, ew, ex, ey, ez, eA, eB], defers := [] }) ?assign ?body ?bad ?done ?stop ?pan
 case assign =>
  intro l r V K hKv; have HKv := qh hKv; clear hKv; unfold EU; dsimp only; gi_wp2_with fail; exact HKv.out
 case body =>
  intro l pre r rest V hs hI; exact IY rfl (Jt l B1 E X TB g w W1 ks ns x.refs (hN.below b1) hrT ⟨hge.1, hge.2.1⟩ ⟨by omega, by omega⟩ hTE hgT (o1 hE) hns (fun i n h => Ae b1 (hG i n h)) hb1 pre rest r V hs hI _ _ _ _ _ _ _ _ _ _ _ _ _ _ _ _ _ _ _ _ _ _ _ _ _ _ _ _ _ _ _ _ _)
 case bad => exact fun pre rest V _ hk _ => hk hkd
 case pan => exact fun D V _ h _ => h.elim
 case stop =>
  intro D V hDl hXV hDV; have hD1 := (hXV.rest D1 (by have := (qs.1 hD).1; omega) hTD (fun e => by rw [e, hE] at hD; cases hD)).trans (o1 hD); have hnD : D1 ≠ D := by have := (qs.1 hD).1; omega
  have hfin : bodyPostM Fence.wide 0 Try.prog Try.f16 (Gp s.strip ns w) .ret { tmps := #[e0, .pointer (some ⟨B1, 0, none⟩), .pointer (some ⟨E, 0, none⟩), .pointer (some ⟨X, 0, none⟩), .pointer (some ⟨TB, 0, none⟩), e5, e6, e7, e8, e9, ea, eb, ec, ed, ee, ef, eg, eh, ei, ej, ek, el, em, en, eo, .func (.func 74) #[] #[.pointer (some ⟨W.heap.size, 0, none⟩)], eq, er, es, et, eu, ev, ew, ex, ey, ez, eA, eB], defers := [{ target := .collected D, args := #[] }, { target := .collected D1, args := #[] }] } V := by
   refine J6 _ E D1 D _ _ V rfl hXV.err hD1 hDV hnD fun W' hB => ⟨?_, hXV.base.trans (hB _ hge.2.2 (by have := hb1.size; omega))⟩
   have : Bp s.strip ns = 170 := by
    unfold Bp; rw [if_pos h0, hidx, if_neg (fun e => hXV.ne (by injection e))]
   rw [this]
  have HF := qh hfin; clear hfin; refine wpIn_wide.2 ?_; dsimp only; go_wp2_with fail; exact HF.out
 case done =>
  intro D V hDl _ hI hDV; have hD1 := (hI.but.block D1 (by have := (qs.1 hD).1; omega) hTD).trans (o1 hD); have hnD : D1 ≠ D := by have := (qs.1 hD).1; omega
  have hEV := (hI.but.block E (by omega) hTE).trans (o1 hE); obtain ⟨W3, x3, g3, o3, b3, s3⟩ := C1 hEV (int i64 0)
  have hkn : ks = ns := by
   have := hI.same; rw [List.take_of_length_le (by omega), List.take_of_length_le (by omega)] at this; exact this
  have hED : E ≠ D := by omega
  have hfin : bodyPostM Fence.wide 0 Try.prog Try.f16 (Gp s.strip ns w) .ret { tmps := #[e0, .pointer (some ⟨B1, 0, none⟩), .pointer (some ⟨E, 0, none⟩), .pointer (some ⟨X, 0, none⟩), .pointer (some ⟨TB, 0, none⟩), e5, e6, e7, e8, e9, ea, eb, ec, ed, ee, ef, eg, eh, ei, ej, ek, el, em, en, eo, .func (.func 74) #[] #[.pointer (some ⟨W.heap.size, 0, none⟩)], eq, er, es, et, eu, ev, ew, ex, ey, ez, eA, eB], defers := [{ target := .collected D, args := #[] }, { target := .collected D1, args := #[] }] } W3 := by
   refine J6 _ E D1 D _ _ W3 rfl g3 ((o3 _ (fun e => by rw [e, hE] at hD; cases hD)).trans hD1) ((o3 _ hED.symm).trans hDV) hnD fun W' hB => ⟨?_, (b3 _ _ (hb1.trans (hI.but.below hge.1 hb1.size)) hge.2.1).trans (hB _ hge.2.2 (by have := hb1.size; omega))⟩
   have : Bp s.strip ns = 0 := by
    unfold Bp; rw [if_pos h0, hidx, if_pos (by rw [hkn])]
   rw [this]
  have HF := qh hfin; have yE : V.cell? ⟨E, 0, none⟩ = some (int i64 0) := Aa hEV 0 rfl; have fE := (show FreeB V E from ⟨_, _, hEV⟩).free 0; clear hfin hI g3 o3 b3 s3 hD1 hDV hEV hE hX hD hT1 hFR hI0 hA1 hX1 hA hN
  show CH 16 Try.prog (Ab 6 AO) _ _ V
  refine E2 ?_; unfold AO
  conv => arg 2; whnf
  dsimp only; go_wp2_with fail; exact HF.out
end
end
section
open Go Go.RowKit Go.Shelf
theorem NsAt.lt {w : World} : ∀ {xs : List RefL} {ns : List Int}, NsAt w xs ns → ∀ r ∈ xs, r.b < w.heap.size
 | [], _, _, _, h => by cases h
 | x :: xs, [], h, _, _ => h.elim
 | x :: xs, n :: ns, ⟨h1, h2⟩, r, hr => by
  rcases List.mem_cons.1 hr with rfl | hr
  ·exact BT h1
  ·exact h2.lt r hr
theorem MN {w : World} {b o : Nat} {ps : List Ph} (h : AZ w b o ps) (hz : ps ≠ []) : b < w.heap.size := by
 cases ps with
 | nil => exact absurd rfl hz
 | cons p r => exact BT h.1.1
section
attribute [local go_sem] Oper.semAt_some
theorem Ju (s x : Ls) (ns ks : List Int) (w V0 : World) (h0 : Cd s.strip ns = 0) (hlims : s.strip.lims = true) (hidx : s.strip.idx ns = some ks) (hstr : x.strip = s.strip)
  (hAs : s.At V0) (hNs : NsAt V0 s.refs ns) (hAx : x.At V0) (hNx : NsAt V0 x.refs ks) (hw0 : Below w.heap.size w V0)
  (B1 E X TB : Nat) (W : World) (hV : Below V0.heap.size V0 W) (hB : W.heap[B1]? = some (.cells s.cells 30 (0, 0))) (hX : W.heap[X]? = some (.cells x.cells 30 (0, 0))) (hE : W.heap[E]? = some (.cells #[int i64 0] 35 (0, 0)))
  (hT : W.heap[TB]? = some (.cells #[.slice none 0 0] 63 (0, 0))) (hTV : V0.heap.size ≤ TB) (hge : w.heap.size ≤ E) (e0 e5 e6 e7 e8 e9 ea eb ec ed ee ef eg eh ei ej ek el em en eo ep eq er es et eu ev ew ex ey ez eA eB : Value) :
  CH 16 Try.prog (Ab 4 AO) (bodyPostM Fence.wide 0 Try.prog Try.f16 (Gp s.strip ns w)) { tmps := #[e0, .pointer (some ⟨B1, 0, none⟩), .pointer (some ⟨E, 0, none⟩), .pointer (some ⟨X, 0, none⟩), .pointer (some ⟨TB, 0, none⟩), e5, e6, e7, e8, e9, ea, eb, ec, ed, ee, ef, eg, eh, ei, ej, ek, el, em, en, eo, ep, eq, er, es, et, eu, ev, ew, ex, ey, ez, eA, eB], defers := [] } W := by
 have hkd : s.strip.kinds = true := by
  unfold Sc.idx at hidx
  split at hidx
  ·assumption
  ·cases hidx
 have hlen : x.refs.length = s.refs.length := by
  have h1 := congrArg List.length (Ls.refs_key x); have h2 := congrArg List.length (Ls.refs_key s); rw [hstr] at h1; simp only [List.length_map] at h1 h2; omega
 have hnsl : ns.length = s.refs.length := hNs.len; have hfew := LT hlims; have hTE : E ≠ TB := fun e => by rw [e, hT] at hE; simp at hE
 have hTX : X ≠ TB := fun e => by rw [e, hT] at hX; simp at hX
 have hTB : B1 ≠ TB := fun e => by rw [e, hT] at hB; simp at hB
 have hTl := (qs.1 hT).1; have hEl := (qs.1 hE).1; have hXl := (qs.1 hX).1; have hVs := hV.size; have hAW := hAs.below hV; rw [O2]; refine Em ?_; unfold H6 AO
 conv => arg 3; whnf
 refine AN (fun K hKK => ?_); have HKK := qh hKK; clear hKK; have HBB := qh hB; have HXX := qh hX; have HEE := qh hE; have HTT := qh hT; clear hB hX hE hT; dsimp only
 go_wp2_with (go_at_call 49; refine (DR ⟨B1, 0, none⟩ W).mono ?_; rintro e W1 ⟨rfl, g1, b1, s1⟩); refine HKK.out _ _ ?_; clear HKK; have hB := HBB.out; have hX := HXX.out; have hE := HEE.out; have hT := HTT.out; have o1 : ∀ {b : Nat} {o : Obj}, W.heap[b]? = some o → W1.heap[b]? = some o := fun h => (b1.block _ (qs.1 h).1).trans h
 have hV1 : Below V0.heap.size V0 W1 := hV.trans (b1.mono hVs); have hA1 := hAs.below hV1; have hB1 := o1 hB; unfold Ls.cells at hB1
 have hFR : ∀ (pre : List RefL) V, Chk1 TB W1 ns pre V → FldR W.heap.size B1 s V := fun pre V h => by
  refine ⟨h.but.cell (Aa g1 0 rfl) (by show W.heap.size ≠ TB; omega), h.but.cell (Aa hB1 10 rfl) hTB, h.but.cell (Aa hB1 11 rfl) hTB, ?_⟩; exact Bi (hV1.trans (h.but.below hTV hV1.size)) hAs.phrases
 have hI0 : Chk1 TB W1 ns [] W1 := ⟨ButOne.refl _ _, none, 0, o1 hT, World.ownsRow_nil _ _ _ _⟩; have hrT : ∀ r ∈ s.refs, r.b ≠ TB := fun r hr e => by have := hNs.lt r hr; omega
 refine E1 ?_; refine Cr (fn0 := Try.f16) Try.func16 (gf := 74) (lb := #[.pointer (some ⟨W.heap.size, 0, none⟩)]) rfl (enters_of Try.func74 (by kernel_rfl) rfl)
  (DS W.heap.size B1 s (FldR W.heap.size B1 s) (fun _ h => h) hAs.pform hAs.plen hAs.dform hAs.dlen W1) (fun _ => rfl) (Chk1 TB W1 ns) (fun _ => False) (fun _ => False)
  (fun p V V' row h hg hr => by
   obtain ⟨a', c', q1, q2⟩ := h.row; refine ⟨h.but.grown hg (fun k e => (hr k e).1), a', c', (hg.block TB (qs.1 q1).1 (fun e => by have := (hr TB e.symm).1; omega)).trans q1, q2.kept hg ?_⟩
   cases hob : (Value.slice a' p.length c').ownBlock with
   | none => exact Or.inl rfl
   | some k =>
    refine Or.inr fun e => ?_
    obtain ⟨o, ho1, ho2⟩ := (hr k e.symm).2; obtain ⟨⟨cur, fr, q4⟩, _⟩ := Bq q2 hob; rw [q4] at ho1; cases ho1
    cases ho2)
  (fun _ _ _ _ h => h.elim)
  (fun p V V' h hb => by
   obtain ⟨a', c', q1, q2⟩ := h.row
   exact ⟨h.but.trans (ButOne.of_below hb), a', c', (hb.block TB (qs.1 q1).1).trans q1, q2.kept (row := none) ⟨hb.os, hb.tape, hb.output, hb.size, fun k hk _ => hb.block k hk⟩ (by cases hob : (Value.slice a' p.length c').ownBlock <;> simp)⟩)
  hI0 hFR
  (fun r => { tmps := #[e0, .pointer (some ⟨B1, 0, none⟩), .pointer (some ⟨E, 0, none⟩), .pointer (some ⟨X, 0, none⟩), .pointer (some ⟨TB, 0, none⟩), .pointer (some ⟨r.b, r.o, none⟩), e6, e7, e8, e9, ea, eb, ec, ed, ee, .func (.func 74) #[] #[.pointer (some ⟨W.heap.size, 0, none⟩)], .pointer (some ⟨r.b, r.o, none⟩), int i64 (r.to : Int), ei, ej, ek, el, em, en, eo, ep, eq, er, es, et, eu, ev, ew, ex, ey, ez, eA, eB], defers := [] }) ?assign ?body ?bad ?done ?stop ?pan
 case assign =>
  intro l r V K hKv; have HKv := qh hKv; clear hKv; unfold EU; dsimp only; gi_wp2_with fail; exact HKv.out
 case body =>
  intro l pre r rest V hs hI; exact IY rfl (Js l B1 E X TB W1 ns s.refs (hNs.below hV1) hrT (by omega) hfew pre rest r V hs hI _ _ _ _ _ _ _ _ _ _ _ _ _ _ _ _ _ _ _ _ _ _ _ _ _ _ _ _ _ _ _ _ _)
 case bad => exact fun pre rest V _ hk _ => hk hkd
 case pan => exact fun D V _ h _ => h.elim
 case stop => exact fun D V _ h _ => h.elim
 case done =>
  intro D V hDl _ hI hDV; obtain ⟨ao, c, t1, t2⟩ := hI.row; have htk : ns.take s.refs.length = ns := List.take_of_length_le (by omega); rw [htk] at t2; have hVV : Below V0.heap.size V0 V := hV1.trans (hI.but.below hTV hV1.size)
  have hrow : ∃ g, g ≠ TB ∧ (0 < s.refs.length → ao = some ⟨g, 0, none⟩) ∧ s.refs.length ≤ c ∧ ∀ (i : Nat) (n : Int), ns[i]? = some n → V.cell? ⟨g, i, none⟩ = some (int i64 n) := by
   rcases t2.2 with ⟨q1, q2⟩ | ⟨g, c3, cur, q1, q2, q3, q4, _⟩
   ·refine ⟨TB + 1, by omega, fun h => by omega, by omega, fun i n h => ?_⟩
    have : ns = [] := List.length_eq_zero_iff.1 (by omega); rw [this] at h; cases h
   ·injection q1 with e1 e2 e3
    subst e1 e3; refine ⟨g, by omega, fun _ => rfl, q4, fun i n h => ?_⟩; have := t2.cells (g := g) rfl i (int i64 n) (by unfold Fi; rw [List.getElem?_map, h]; rfl); rw [AX, Nat.zero_add] at this; exact this
  obtain ⟨g, hgT, r1, r2, r3⟩ := hrow
  show CH 16 Try.prog (Ab 5 AO) _ _ V
  refine Jv s x ns ks w h0 hidx (by omega) (by rw [hstr]; exact hkd) B1 E X TB g D V ((hI.but.block X (by omega) hTX).trans (o1 hX)) ((hI.but.block E (by omega) hTE).trans (o1 hE)) hDV ⟨ao, c, by rw [hlen]; exact t1, by rw [hlen]; exact r1, by rw [hlen]; exact r2⟩ r3 hgT
   (hAx.below hVV) (hNx.below hVV) (fun r hr e => by have := hNx.lt r hr; omega) (fun b hb e => by have := Dq hAx.phrases b hb; omega) (fun hz e => by have := MN hAx.phrases hz; omega)
   (hw0.trans (hVV.mono hw0.size)) ⟨by have := hw0.size; omega, hge, by have := hw0.size; omega⟩ _ _ _ _ _ _ _ _ _ _ _ _ _ _ _ _ _ _ _ _ _ _ _ _ _ _ _ _ _ _ _ _ _ _
end
theorem F1 (s : Ls) (ns : List Int) (w : World) (hA : s.At w) (hN : NsAt w s.refs ns) (he : Env w) : Calls Try.prog 16 #[s.val] w (Gp s.strip ns w) := by
 refine DI Try.func16 (c := AO) rfl ?_; rw [NY]; refine AN (fun K hK => ?_); refine wp_mono (NM s w K ?_) By; intro W0 B1 E hb0 gB gE hne hB hE
 intros
 refine hK _ _ ?_; rw [NZ]; refine AN (fun K hK => ?_); have hA0 := hA.below hb0; have hN0 := hN.below hb0; refine wp_mono (NN s ns B1 E W0 hB hE hA0 hN0 (he.below hb0) K ?_ _ _ _ _ _ _ _ _ _ _ _ _ _ _ _ _ _ _ _ _ _ _ _ _ _ _ _ _ _ _ _ _ _ _ _ _) By; intro V W1 xv X hR hXV hXl hX hE1 hbut
 intros
 refine hK _ _ ?_; have hbV : Below W0.heap.size W0 V := hR.2; have hwV : Below w.heap.size w V := hb0.trans (hbV.mono hb0.size); have hbW1 : Below w.heap.size w W1 := hwV.trans (hbut.below gE hwV.size); rw [O0]; refine AN (fun K hK => ?_); refine NO (Cd s.strip ns) B1 E X W1 hE1 K _ ?_ ?_ _ _ _ _ _ _ _ _ _ _ _ _ _ _ _ _ _ _ _ _ _ _ _ _ _ _ _ _ _ _ _ _ _ _ _
 ·intro h0
  intros
  refine hK _ _ ?_; rw [O1]; refine AN (fun K hK => ?_); refine wp_mono (NQ B1 E X W1 K ?_ _ _ _ _ _ _ _ _ _ _ _ _ _ _ _ _ _ _ _ _ _ _ _ _ _ _ _ _ _ _ _ _ _ _ _) By; intro W2 TB hb2 gT hT
  intros
  refine hK _ _ ?_; obtain ⟨x, ks, he1, hstr, hAx, hNx, hidx, _⟩ := (hR.1.resolve_right (fun h => h.1 h0)).2; rw [h0] at he1 hE1
  have hxv : xv = x.cells := by
   unfold Ls.val at he1; simp only [Ending.returned.injEq, Value.tuple.injEq] at he1; simpa using he1
  subst hxv
  have hlims : s.strip.lims = true := by
   cases hc : s.strip.lims with
   | true => rfl
   | false => unfold Cd at h0; rw [if_pos hc] at h0; cases h0
  have hEl0 := (qs.1 hE).1; have hEV : V.heap[E]? = some (.cells #[int i64 0] 35 (0, 0)) := (hbV.block E hEl0).trans hE
  have hV1 : Below V.heap.size V W1 := ⟨hbut.os, hbut.tape, hbut.output, hbut.size, fun k hk => by
   by_cases e : k = E
   ·subst e; rw [hE1, hEV]
   ·exact hbut.block k hk e⟩
  have hV2 : Below V.heap.size V W2 := hV1.trans (hb2.mono hV1.size); have o2 : ∀ {b : Nat} {o : Obj}, W1.heap[b]? = some o → W2.heap[b]? = some o := fun h => (hb2.block _ (qs.1 h).1).trans h
  have oV : ∀ {b : Nat} {o : Obj}, V.heap[b]? = some o → W2.heap[b]? = some o := fun h => (hV2.block _ (qs.1 h).1).trans h
  have hBV : V.heap[B1]? = some (.cells s.cells 30 (0, 0)) := (hbV.block B1 (qs.1 hB).1).trans hB; exact Ju s x ns ks w V h0 hlims hidx hstr (hA0.below hbV) (hN0.below hbV) hAx hNx hwV B1 E X TB W2 hV2 (oV hBV) (o2 hX) (o2 hE1) hT (Nat.le_trans hV1.size gT) gE _ _ _ _ _ _ _ _ _ _ _ _ _ _ _ _ _ _ _ _ _ _ _ _ _ _ _ _ _ _ _ _ _ _
 ·intro h0 W2 hE2 hB2
  intros
  refine JN _ E _ _ W2 rfl hE2 ⟨?_, hB2 _ _ hbW1 gE⟩; unfold Bp; rw [if_neg h0]
end
section
open Go Go.RowKit Go.Shelf
theorem Am {A B : World} {b : Nat} {o : Obj} (h : Below A.heap.size A B) (g : A.heap[b]? = some o) : B.heap[b]? = some o := (h.block b (qs.1 g).1).trans g
theorem Ag {A B C : World} (h : Below A.heap.size A B) (k : Below B.heap.size B C) : Below A.heap.size A C := h.trans (k.mono h.size)
structure SmallW (r0 u0 z1 : Nm) (k : Int) (R M0 I1 I0 M1 I2 F Dn : Nat) (W : World) : Prop where
 hR : W.heap[R]? = some (.cells #[sv r0, int i64 0, int i64 0, int i64 0, sv [98], int i64 0, int i64 0, int i64 0] 59 (0, 0))
 hM0 : W.heap[M0]? = some (.cells #[int i64 1, int i64 7, int i64 0, int i64 0, int i64 0, int i64 0, sv [98], int i64 0, int i64 0, int i64 0, int i64 1, int i64 1, int i64 1, int i64 6, int i64 0, int i64 0, int i64 0, int i64 0, sv [], int i64 0, int i64 0, int i64 0, int i64 1, int i64 1] 85 (0, 0))
 hI1 : W.heap[I1]? = some (.cells #[int i64 4, int i64 0, sv u0, int i64 0, .slice none 0 0, .slice none 0 0, int i64 1, int i64 0, sv [], int i64 0, .slice none 0 0, .slice (some ⟨M0, 0, none⟩) 2 2] 78 (0, 0))
 hI0 : W.heap[I0]? = some (.cells #[int i64 2, int i64 2, sv [], int i64 0, .slice (some ⟨I1, 0, none⟩) 2 2, .slice none 0 0] 78 (0, 0))
 hM1 : W.heap[M1]? = some (.cells #[int i64 1, int i64 8, int i64 0, int i64 0, int i64 0, int i64 0, sv [97], int i64 0, int i64 0, int i64 0, int i64 1, int i64 1] 85 (0, 0))
 hI2 : W.heap[I2]? = some (.cells #[int i64 1, int i64 0, sv [], int i64 0, .slice none 0 0, .slice (some ⟨M1, 0, none⟩) 1 1, int i64 3, int i64 0, sv [], int i64 k, .slice none 0 0, .slice none 0 0] 78 (0, 0))
 hF : W.heap[F]? = some (.cells #[sv [98], .slice (some ⟨I0, 0, none⟩) 1 1, sv [99], .slice (some ⟨I2, 0, none⟩) 2 2] 57 (0, 0))
 hDn : W.heap[Dn]? = some (.cells #[sv [98], int i64 0, sv [98], int i64 0, int i64 0, .bool false, sv z1, int i64 0, sv [99], int i64 0, int i64 4, .bool true] 73 (0, 0))
end
section
open Go Go.RowKit Go.Shelf
def mv (k : Int) (s : Nm) : Mov := ⟨1, k, 0, 0, 0, 0, s, 0, 0, 1, 1⟩
def Na (r0 u0 z1 : Nm) : Sc := ⟨[119], 0, 0, 0, 0, 0, [⟨r0, 0, 0, 0⟩, ⟨[98], 0, 0, 0⟩], [], [], [],
 [⟨[98], .cons 2 2 [] (.cons 4 0 u0 .nil [] (.cons 1 0 [] .nil [mv 7 [98], mv 6 []] .nil)) [] .nil⟩, ⟨[99], .cons 1 0 [] .nil [mv 8 [97]] (.cons 3 0 [] .nil [] .nil)⟩],
 [⟨[98], [98], 0, false⟩, ⟨z1, [99], 4, true⟩]⟩
def at0 (b : Nat) : Option Addr := some ⟨b, 0, none⟩
end
section
open Go Go.RowKit Go.Shelf
structure SaneW (F f I0 i0 I1 i1 M0 m0 I2 i2 M1 m1 D d : Nat) (n1 n2 n3 n4 : Option Addr) (c0 c1 c2 cm0 cm1 k1 k2 k3 k4 : Nat) (W : World) : Prop where
 f1 : W.cell? ⟨F, f + 1, none⟩ = some (.slice (some ⟨I0, i0, none⟩) 1 c0)
 f3 : W.cell? ⟨F, f + 2 + 1, none⟩ = some (.slice (some ⟨I2, i2, none⟩) 2 c2)
 a4 : W.cell? ⟨I0, i0 + 4, none⟩ = some (.slice (some ⟨I1, i1, none⟩) 2 c1)
 b0 : W.cell? ⟨I1, i1, none⟩ = some (int i64 4)
 b1 : W.cell? ⟨I1, i1 + 1, none⟩ = some (int i64 0)
 b2 : W.cell? ⟨I1, i1 + 2, none⟩ = some (sv [99])
 b3 : W.cell? ⟨I1, i1 + 3, none⟩ = some (int i64 1)
 b4 : W.cell? ⟨I1, i1 + 4, none⟩ = some (.slice n1 0 k1)
 b5 : W.cell? ⟨I1, i1 + 5, none⟩ = some (.slice n2 0 k2)
 b6 : W.cell? ⟨I1, i1 + 6, none⟩ = some (int i64 1)
 b7 : W.cell? ⟨I1, i1 + 6 + 1, none⟩ = some (int i64 0)
 b8 : W.cell? ⟨I1, i1 + 6 + 2, none⟩ = some (sv [])
 b9 : W.cell? ⟨I1, i1 + 6 + 3, none⟩ = some (int i64 0)
 b10 : W.cell? ⟨I1, i1 + 6 + 4, none⟩ = some (.slice n3 0 k3)
 b11 : W.cell? ⟨I1, i1 + 6 + 5, none⟩ = some (.slice (some ⟨M0, m0, none⟩) 2 cm0)
 d0 : W.cell? ⟨I2, i2, none⟩ = some (int i64 1)
 d1 : W.cell? ⟨I2, i2 + 1, none⟩ = some (int i64 0)
 d2 : W.cell? ⟨I2, i2 + 2, none⟩ = some (sv [])
 d3 : W.cell? ⟨I2, i2 + 3, none⟩ = some (int i64 0)
 d4 : W.cell? ⟨I2, i2 + 4, none⟩ = some (.slice n4 0 k4)
 d5 : W.cell? ⟨I2, i2 + 5, none⟩ = some (.slice (some ⟨M1, m1, none⟩) 1 cm1)
 e7 : W.cell? ⟨M0, m0 + 6 + 1, none⟩ = some (int i64 1)
 e18 : W.cell? ⟨M0, m0 + 12 + 6, none⟩ = some (sv [])
 e19 : W.cell? ⟨M0, m0 + 12 + 6 + 1, none⟩ = some (int i64 0)
 g7 : W.cell? ⟨M1, m1 + 6 + 1, none⟩ = some (int i64 0)
 h1 : W.cell? ⟨D, d + 1, none⟩ = some (int i64 1)
 h3 : W.cell? ⟨D, d + 2 + 1, none⟩ = some (int i64 0)
 h7 : W.cell? ⟨D, d + 6 + 1, none⟩ = some (int i64 0)
 h9 : W.cell? ⟨D, d + 6 + 2 + 1, none⟩ = some (int i64 1)
theorem SaneW.below {F f I0 i0 I1 i1 M0 m0 I2 i2 M1 m1 D d : Nat} {n1 n2 n3 n4 : Option Addr} {c0 c1 c2 cm0 cm1 k1 k2 k3 k4 : Nat} {W W' : World} (h : SaneW F f I0 i0 I1 i1 M0 m0 I2 i2 M1 m1 D d n1 n2 n3 n4 c0 c1 c2 cm0 cm1 k1 k2 k3 k4 W) (hb : Below W.heap.size W W') : SaneW F f I0 i0 I1 i1 M0 m0 I2 i2 M1 m1 D d n1 n2 n3 n4 c0 c1 c2 cm0 cm1 k1 k2 k3 k4 W' := by
 obtain ⟨a1, a2, a3, a4, a5, a6, a7, a8, a9, a10, a11, a12, a13, a14, a15, a16, a17, a18, a19, a20, a21, a22, a23, a24, a25, a26, a27, a28, a29⟩ := h
 constructor <;> exact Ae hb (by assumption)
end
section
open Go Go.RowKit Go.Shelf
structure SX (X : Nat) (x : Ls) (W : World) : Prop where
 strip : x.strip = Na [97] [99] [97]
 at_ : x.At W
 ns : NsAt W x.refs [0, 1, 0, 1, 0, 0, 0, 0, 1, 0, 0, 1]
 heap : W.heap[X]? = some (.cells x.cells 30 (0, 0))
theorem SX.below {X : Nat} {x : Ls} {W W' : World} (h : SX X x W) (hb : Below W.heap.size W W') : SX X x W' := ⟨h.strip, h.at_.below hb, h.ns.below hb, Am hb h.heap⟩
end
section
open Go Go.RowKit Go.Shelf Go.Deep
end
section
open Go Go.RowKit Go.Shelf Go.Deep
end
section
open Go Go.RowKit Go.Shelf Go.Deep
def SV (V lo hi : Nat) (r0 u0 z1 : Nm) (k : Int) (W : World) : Prop := ∃ R M0 I1 I0 M1 I2 F Dn : Nat, W.heap[V]? = some (.cells #[sv [119], int i64 0, int i64 0, int i64 0, int i64 0, int i64 0, .slice (some ⟨R, 0, none⟩) 2 2, .slice none 0 0, .slice none 0 0, .slice none 0 0, .slice (some ⟨F, 0, none⟩) 2 2, .slice (some ⟨Dn, 0, none⟩) 2 2] 30 (0, 0)) ∧ SmallW r0 u0 z1 k R M0 I1 I0 M1 I2 F Dn W ∧ (∀ b ∈ [R, M0, I1, I0, M1, I2, F, Dn], lo ≤ b ∧ b < hi) ∧ [R, M0, I1, I0, M1, I2, F, Dn].Nodup
theorem SmallW.same {r0 u0 z1 : Nm} {k : Int} {R M0 I1 I0 M1 I2 F Dn : Nat} {W W' : World} (h : SmallW r0 u0 z1 k R M0 I1 I0 M1 I2 F Dn W) (ho : ∀ b ∈ [R, M0, I1, I0, M1, I2, F, Dn], W'.heap[b]? = W.heap[b]?) : SmallW r0 u0 z1 k R M0 I1 I0 M1 I2 F Dn W' := by
 obtain ⟨h1, h2, h3, h4, h5, h6, h7, h8⟩ := h; exact ⟨(ho _ (by simp)).trans h1, (ho _ (by simp)).trans h2, (ho _ (by simp)).trans h3, (ho _ (by simp)).trans h4, (ho _ (by simp)).trans h5, (ho _ (by simp)).trans h6, (ho _ (by simp)).trans h7, (ho _ (by simp)).trans h8⟩
theorem SV.but {V lo hi b : Nat} {r0 u0 z1 : Nm} {k : Int} {W W' : World} (h : SV V lo hi r0 u0 z1 k W) (hb : ButOne b W W') (hV : b ≠ V) (hx : b < lo ∨ hi ≤ b) (hs : hi ≤ W.heap.size) : SV V lo hi r0 u0 z1 k W' := by
 obtain ⟨R, M0, I1, I0, M1, I2, F, Dn, h1, h2, h3, h4⟩ := h; exact ⟨R, M0, I1, I0, M1, I2, F, Dn, hb.blocks h1 hV.symm, h2.same (fun c hc => hb.block c (by have := (h3 c hc).2; omega) (by have := h3 c hc; omega)), h3, h4⟩
theorem SV.below {V lo hi : Nat} {r0 u0 z1 : Nm} {k : Int} {W W' : World} (h : SV V lo hi r0 u0 z1 k W) (hb : Below W.heap.size W W') (hs : hi ≤ W.heap.size) : SV V lo hi r0 u0 z1 k W' := by
 obtain ⟨R, M0, I1, I0, M1, I2, F, Dn, h1, h2, h3, h4⟩ := h; exact ⟨R, M0, I1, I0, M1, I2, F, Dn, Am hb h1, h2.same (fun c hc => hb.block c (by have := (h3 c hc).2; omega)), h3, h4⟩
end
section
open Go Go.RowKit Go.Shelf Go.Deep
end
section
open Go Go.RowKit Go.Shelf Go.Deep
theorem Qg : (Try.prog.info? 59).map (fun i => (i.zero, i.size, i.bytes)) = some (some (.agg #[.string ⟨#[]⟩, int i64 0, int i64 0, int i64 0]), 4, 40) := by kernel_rfl
end
section
open Go Go.RowKit Go.Shelf Go.Deep
end
section
open Go Go.RowKit Go.Shelf Go.Deep
end
section
open Go Go.RowKit Go.Deep
def Shape (W : World) (g : Nat) (t : TypeId) (sz : Nat) : Prop := ∃ cur, W.heap[g]? = some (.cells cur t (0, 0)) ∧ cur.size = sz
theorem Shape.same {W W' : World} {g : Nat} {t : TypeId} {sz : Nat} (h : Shape W g t sz) (hb : W'.heap[g]? = W.heap[g]?) : Shape W' g t sz := by
 obtain ⟨cur, h1, h2⟩ := h; exact ⟨cur, hb.trans h1, h2⟩
theorem Shape.lt {W : World} {g : Nat} {t : TypeId} {sz : Nat} (h : Shape W g t sz) : g < W.heap.size := by
 obtain ⟨cur, h1, h2⟩ := h; exact (qs.1 h1).1
theorem Shape.below {W W' : World} {g : Nat} {t : TypeId} {sz : Nat} (h : Shape W g t sz) (hb : Below W.heap.size W W') : Shape W' g t sz := h.same (hb.block _ h.lt)
theorem Shape.but {W W' : World} {g X : Nat} {t : TypeId} {sz : Nat} (h : Shape W g t sz) (hb : ButOne X W W') (hX : g ≠ X) : Shape W' g t sz := h.same (hb.block _ h.lt hX)
theorem Shape.set {W : World} {g : Nat} {t : TypeId} {sz : Nat} (h : Shape W g t sz) (b j : Nat) (v : Value) : Shape (W.setCell ⟨b, j, none⟩ v) g t sz := by
 obtain ⟨cur, h1, h2⟩ := h; by_cases e : b = g
 ·subst e
  refine ⟨cur.setIfInBounds j v, ?_, by simpa using h2⟩; simp only [World.setCell, Array.getElem?_modify, h1, if_true, Option.map_some]; rfl
 ·exact ⟨cur, (Below.heap_setCell _ _ _ _ (fun e2 => e e2.symm)).trans h1, h2⟩
theorem Shape.free {W : World} {g : Nat} {t : TypeId} {sz : Nat} (h : Shape W g t sz) : FreeB W g := by
 obtain ⟨cur, h1, h2⟩ := h; exact ⟨cur, t, h1⟩
theorem PZ {W : World} {B : Nat} {cs : Array Value} {t : TypeId} (h : W.heap[B]? = some (.cells cs t (0, 0))) (j : Nat) (v : Value) : (W.setCell ⟨B, j, none⟩ v).heap[B]? = some (.cells (cs.setIfInBounds j v) t (0, 0)) := by
 simp only [World.setCell, Array.getElem?_modify, h, if_true, Option.map_some]; rfl
end
section
open Go Go.RowKit
structure Ls.small (s : Ls) : Prop where
 roles : s.roles.length ≤ 300
 tempos : s.tempos.length ≤ 300
 pauses : s.pauses.length ≤ 300
 spans : s.spans.length ≤ 300
 phrases : s.phrases.length ≤ 300
 dances : s.dances.length ≤ 300
 items : ∀ p ∈ s.phrases, p.its.size ≤ 300 ∧ p.its.movs ≤ 300
def Ls.mfit (s : Ls) : Prop := ∀ p ∈ s.phrases, p.its.mfit
structure FewS (s : Ls) (w : World) (B : Nat) (W : World) : Prop where
 at_ : s.At W
 fit : s.mfit
 box : W.heap[B]? = some (.cells s.cells 30 (0, 0))
 below : Below w.heap.size w W
theorem FewS.next {s : Ls} {w : World} {B : Nat} {W W' : World} (h : FewS s w B W) (hb : Below W.heap.size W W') : FewS s w B W' := ⟨h.at_.below hb, h.fit, Am hb h.box, Ag h.below hb⟩
theorem CQ {w : World} {b : Nat} : ∀ {o : Nat} {ps : List Ph} {i : Nat} {p : Ph}, AZ w b o ps → ps[i]? = some p → p.Its w
 | _, [], _, _, _, h => by cases h
 | _, _ :: _, 0, _, ⟨⟨_, _, h3⟩, _⟩, h => by cases h; exact h3
 | _, _ :: r, i + 1, _, ⟨_, h⟩, hi => CQ (ps := r) (i := i) h (by simpa using hi)
end
section
open Go Go.RowKit Go.Deep
section
variable {α : Type} {enc : α → List Value} {k : Nat}
theorem Ll (hk : ∀ x, (enc x).length = k) : ∀ xs : List α, (xs.flatMap enc).length = xs.length * k
 | [] => by simp
 | x :: xs => by
  have := Ll hk xs; simp only [List.flatMap_cons, List.length_append, hk, List.length_cons, Nat.add_mul]; omega
theorem Fg (hk : ∀ x, (enc x).length = k) : ∀ {xs : List α} {j : Nat} {u : Value}, (xs.flatMap enc)[j]? = some u → ∃ i x r, xs[i]? = some x ∧ (enc x)[r]? = some u ∧ j = i * k + r ∧ r < k
 | [], j, u, h => by simp at h
 | x :: xs, j, u, h => by
  simp only [List.flatMap_cons] at h; rcases Nat.lt_or_ge j k with hj | hj
  ·rw [List.getElem?_append_left (by rw [hk]; exact hj)] at h
   exact ⟨0, x, j, rfl, h, by omega, hj⟩
  ·rw [List.getElem?_append_right (by rw [hk]; exact hj), hk] at h
   obtain ⟨i, y, r, h1, h2, h3, h4⟩ := Fg hk h; exact ⟨i + 1, y, r, by simpa using h1, h2, by rw [Nat.add_mul]; omega, h4⟩
theorem Fh (hk : ∀ x, (enc x).length = k) : ∀ {xs : List α} {i r : Nat} {x : α} {u : Value}, xs[i]? = some x → (enc x)[r]? = some u → (xs.flatMap enc)[i * k + r]? = some u
 | [], i, r, x, u, h, _ => by cases h
 | y :: xs, 0, r, x, u, h, h2 => by
  cases h; have hr := (ql.1 h2).1; simp only [List.flatMap_cons, Nat.zero_mul, Nat.zero_add]; rw [List.getElem?_append_left hr]; exact h2
 | y :: xs, i + 1, r, x, u, h, h2 => by
  have := Fh hk (xs := xs) (i := i) (by simpa using h) h2; simp only [List.flatMap_cons]; rw [List.getElem?_append_right (by rw [hk, Nat.add_mul]; omega), hk]; rw [show (i + 1) * k + r - k = i * k + r by rw [Nat.add_mul]; omega]; exact this
theorem Fy (hk : ∀ x, (enc x).length = k) {w : World} {b o : Nat} {xs : List α} : AtRow enc k w b o xs ↔ ∀ j u, (xs.flatMap enc)[j]? = some u → w.cell? ⟨b, o + j, none⟩ = some u := by
 constructor
 ·intro h j u hj
  obtain ⟨i, x, r, h1, h2, rfl, _⟩ := Fg hk hj; have := h i x h1 r u h2; rw [← Nat.add_assoc]; exact this
 ·intro h i x hi r u hr
  have := h _ _ (Fh hk hi hr); rw [← Nat.add_assoc] at this; exact this
end
theorem Le (x : Rol) : (FO x).length = 4 := rfl
def Dp (p : Ph) : List Value := [sv p.name, p.val]
theorem Pg (xs : List Rol) : ∀ u ∈ xs.flatMap FO, u.oneCell' = true := by
 intro u hu; obtain ⟨x, _, h⟩ := List.mem_flatMap.1 hu; simp only [FO, List.mem_cons, List.mem_nil_iff, or_false] at h; rcases h with rfl | rfl | rfl | rfl <;> rfl
theorem Fq {w : World} {b : Nat} : ∀ {o : Nat} {ps : List Ph}, AZ w b o ps ↔ (∀ j u, (ps.flatMap Dp)[j]? = some u → w.cell? ⟨b, o + j, none⟩ = some u) ∧ ∀ p ∈ ps, p.Its w
 | o, [] => by simp [AZ]
 | o, p :: r => by
  simp only [AZ, Fq (ps := r) (o := o + 2), List.flatMap_cons, List.mem_cons]
  constructor
  ·rintro ⟨⟨h1, h2, h3⟩, h4, h5⟩
   refine ⟨fun j u hj => ?_, fun q hq => ?_⟩
   ·match j, hj with
    | 0, hj => simp [Dp] at hj; subst hj; exact h1
    | 1, hj => simp [Dp] at hj; subst hj; exact h2
    | j + 2, hj =>
     have := h4 j u (by simpa [Dp] using hj); rw [show o + (j + 2) = o + 2 + j by omega]; exact this
   ·rcases hq with rfl | hq
    ·exact h3
    ·exact h5 q hq
  ·rintro ⟨h1, h2⟩
   refine ⟨⟨h1 0 _ (by simp [Dp]), h1 1 _ (by simp [Dp]), h2 p (Or.inl rfl)⟩, fun j u hj => ?_, fun q hq => h2 q (Or.inr hq)⟩; have := h1 (j + 2) u (by simpa [Dp] using hj); rw [show o + 2 + j = o + (j + 2) by omega]; exact this
structure Ls.cpOk (s : Ls) : Prop where
 roles : s.roles.length ≤ 100000
 phrases : s.phrases.length ≤ 100000
 dances : s.dances.length ≤ 100000
 items : ∀ p ∈ s.phrases, p.its.len ≤ 100000 ∧ p.its.small
theorem Ls.small.cp {s : Ls} (h : s.small) : s.cpOk := by
 refine ⟨by have := h.roles; omega, by have := h.phrases; omega, by have := h.dances; omega, fun p hp => ?_⟩; obtain ⟨h1, h2⟩ := h.items p hp; have h3 := p.its.strip.len_le_size; rw [p.its.strip_len, p.its.strip_size] at h3; exact ⟨by omega, p.its.small_of (by omega) (by omega)⟩
structure Ls.Own (x : Ls) (B : Nat) (W : World) : Prop where
 roles : W.ownsRow B 59 4 (.slice x.ra x.roles.length x.rc) x.roles.length (x.roles.flatMap FO)
 phrases : W.ownsRow B 57 2 (.slice x.fa x.phrases.length x.fc) x.phrases.length (x.phrases.flatMap Dp)
 raf : x.ra = some ⟨blk x.ra, 0, none⟩
 faf : x.fa = some ⟨blk x.fa, 0, none⟩
 daf : x.da = some ⟨blk x.da, 0, none⟩
 ra : blk x.ra ∉ AR x.phrases
 rf : blk x.ra ≠ blk x.fa
 rd : blk x.ra ≠ blk x.da
 fd : blk x.fa ≠ blk x.da
def Ls.tup (s : Ls) : List (Option Addr) × List Nat × List Tmp × List Pau × List Con := ([s.ta, s.ua, s.sa], [s.tc, s.uc, s.sc], s.tempos, s.pauses, s.spans)
def Q5 (s : Ls) (ns : List Int) (w : World) (e : Ending) (w' : World) : Prop :=
 ∃ x : Ls, e = .returned x.val ∧ x.strip = s.strip ∧ x.At w' ∧ NsAt w' x.refs ns ∧ x.Sep ∧ (∀ r ∈ x.refs, w.heap.size ≤ r.b ∧ FreeB w' r.b) ∧ x.Own w.heap.size w' ∧ (∀ b ∈ AR x.phrases, w.heap.size ≤ b) ∧ Below w.heap.size w w' ∧ x.tup = s.tup
theorem IE {w : World} {B e s n : Nat} {v : Value} {xs : List Value} (h : w.ownsRow B e s v n xs) {g : Nat} (hg : v.ownBlock = some g) : B ≤ g ∧ g < w.heap.size := World.ownsRow.lt h g hg
theorem JV {w : World} {B e k : Nat} {α : Type} {enc : α → List Value} (hk : ∀ x, (enc x).length = k) {ao : Option Addr} {c : Nat} {xs : List α} (hm : xs.length ≤ maxLen) (h : w.ownsRow B e k (.slice ao xs.length c) xs.length (xs.flatMap enc)) : IsRow enc k w (.slice ao xs.length c) xs := by
 refine ⟨ao, c, rfl, hm, ?_⟩; rcases h.2 with ⟨e, e2⟩ | ⟨g, cap, cur, e, h2, h3, _⟩
 ·exact Or.inl (List.length_eq_zero_iff.1 e2)
 ·cases e
  refine Or.inr ⟨g, 0, rfl, (Fy hk).2 fun j u hj => ?_, (qs.1 h3).1⟩; have := h.cells (g := g) rfl j u hj; rw [AX] at this; exact this
end
section
open Go Go.RowKit Go.Deep
theorem Nv {o : Oper} {a : Act} {K : Act → World → Prop} {Q : Exit → Act → World → Prop} {w : World} (s x : Operand) (t : TypeId)
  (ho : o.op = .call { callee := .builtin .append, args := #[s, x], argTypes := #[t, t] })
  (base : Nat) (e : TypeId) (i : TypeInfo) (z : Value) (size bytes : Nat) (ht : Try.prog.underlying t = some (.slice e)) (hi : Try.prog.info? e = some i) (hz : i.zero = some z)
  (hsize : i.size = size) (hby : i.bytes = bytes) (hzs : z.cells.size = size) (hsz : 0 < size)
  (v : Value) (n : Nat) (xs : List Value) (hs : a.eval s = v) (hown : w.ownsRow base e size v n xs)
  (ad : Addr) (m c : Nat) (news : List Value) (hx : a.eval x = .slice (some ad) m c) (hl : news.length = m * size) (hnews : ∀ j u, news[j]? = some u → w.cell? (ad.add j) = some u) (h1 : ∀ u ∈ news, u.oneCell' = true)
  (h63 : n + m ≤ maxLen) (hbytes : (n + m) * bytes ≤ 140737488355328) (hbase : base ≤ w.heap.size)
  (h : ∀ v' w', w'.ownsRow base e size v' (n + m) (xs ++ news) → w.grownBy w' v.ownBlock → (v'.ownBlock = v.ownBlock ∨ v'.ownBlock = some w.heap.size) → K (a.put o.dst v') w') : o.wp Try.prog a w K Q := by
 obtain ⟨v', w', hr, h2, h3, _, h4⟩ := run_append_own_at (P := Try.prog) w base t o.type e i z size bytes ht hi hz hsize hby hzs hsz v n xs hown ad m c news hl hnews h1 h63 hbytes hbase; unfold Oper.wp execOp; simp only [ho, resolve, invoke, builtin, Sem.run_bind, Sem.run_pure, Result.andThen_ok, List.map_toArray, List.map_cons, List.map_nil, hs, hx, hr]; exact h v' w' h2 h3 h4
def RowV {α : Type} (enc : α → List Value) (W : World) (g : Nat) (xs : List α) : Prop := ∀ j u, (xs.flatMap enc)[j]? = some u → W.cell? ⟨g, j, none⟩ = some u
section
variable {α : Type} {enc : α → List Value} {k : Nat}
theorem RowV.get (hk : ∀ x, (enc x).length = k) {W : World} {g : Nat} {xs : List α} (h : RowV enc W g xs) {i r : Nat} {x : α} {u : Value} (hx : xs[i]? = some x) (hr : (enc x)[r]? = some u) : W.cell? ⟨g, i * k + r, none⟩ = some u := h _ _ (Fh hk hx hr)
theorem RowV.same {W W' : World} {g : Nat} {xs : List α} (h : RowV enc W g xs) (hb : W'.heap[g]? = W.heap[g]?) : RowV enc W' g xs := fun j u hj => (World.cell?_of_block hb).trans (h j u hj)
theorem RowV.set (hk : ∀ x, (enc x).length = k) {W W' : World} {g i : Nat} {xs : List α} {p : α} (h : RowV enc W g xs) (hi : i < xs.length) (h1 : ∀ r u, (enc p)[r]? = some u → W'.cell? ⟨g, i * k + r, none⟩ = some u)
  (h2 : ∀ q v, (q < i * k ∨ i * k + k ≤ q) → W.cell? ⟨g, q, none⟩ = some v → W'.cell? ⟨g, q, none⟩ = some v) : RowV enc W' g (xs.set i p) := by
 intro j u hj; obtain ⟨i', x, r, h3, h4, rfl, h5⟩ := Fg hk hj; rw [List.getElem?_set] at h3; by_cases e : i = i'
 ·subst e
  rw [if_pos rfl, if_pos hi] at h3; cases h3; exact h1 r u h4
 ·rw [if_neg e] at h3
  refine h2 _ _ ?_ (h.get hk h3 h4); rcases Nat.lt_or_gt_of_ne e with h6 | h6
  ·right
   have := Nat.mul_le_mul_right k (show i + 1 ≤ i' by omega); rw [Nat.add_mul] at this; omega
  ·left
   have := Nat.mul_le_mul_right k (show i' + 1 ≤ i by omega); rw [Nat.add_mul] at this; omega
end
structure CpW (s : Ls) (ns : List Int) (w : World) (x : Ls) (W : World) : Prop where
 strip : x.strip = s.strip
 at_ : x.At W
 ns : NsAt W x.refs ns
 sep : x.Sep
 refs : ∀ r ∈ x.refs, w.heap.size ≤ r.b ∧ FreeB W r.b
 own : x.Own w.heap.size W
 pown : ∀ b ∈ AR x.phrases, w.heap.size ≤ b
 below : Below w.heap.size w W
 tup : x.tup = s.tup
theorem CpW.of {s : Ls} {ns : List Int} {w : World} {e : Ending} {w' : World} (h : Q5 s ns w e w') : ∃ x, e = .returned x.val ∧ CpW s ns w x w' := by
 obtain ⟨x, h0, h1, h2, h3, h4, h5, h6, h7, h8, h9⟩ := h; exact ⟨x, h0, h1, h2, h3, h4, h5, h6, h7, h8, h9⟩
theorem Hr {w w' : World} {B e s n : Nat} {v : Value} {xs : List Value} (h : w.ownsRow B e s v n xs) (hb : ∀ g, v.ownBlock = some g → w'.heap[g]? = w.heap[g]?) : w'.ownsRow B e s v n xs := by
 refine ⟨h.1, ?_⟩; rcases h.2 with h1 | ⟨g, c, cur, rfl, h2, h3, h4⟩
 ·exact Or.inl h1
 ·exact Or.inr ⟨g, c, cur, rfl, h2, (hb g rfl).trans h3, h4⟩
theorem Ls.Own.lt {x : Ls} {B : Nat} {W : World} (h : x.Own B W) : (B ≤ blk x.ra ∧ blk x.ra < W.heap.size) ∧ (B ≤ blk x.fa ∧ blk x.fa < W.heap.size) := by
 have h1 := IE h.roles (show (Value.slice x.ra x.roles.length x.rc).ownBlock = some (blk x.ra) by rw [h.raf]; rfl); have h2 := IE h.phrases (show (Value.slice x.fa x.phrases.length x.fc).ownBlock = some (blk x.fa) by rw [h.faf]; rfl); exact ⟨h1, h2⟩
theorem G9 {W : World} : ∀ {ps : List Ph} {ns : List Int}, NsAt W (Ay ps) ns → ∀ p ∈ ps, ∃ m, NsAt W p.refsL m
 | [], _, _, _, h => by cases h
 | p :: r, ns, h, q, hq => by
  obtain ⟨a, b, _, h1, h2⟩ := NsAt.split (xs := p.refsL) h; rcases List.mem_cons.1 hq with rfl | hq
  ·exact ⟨a, h1⟩
  ·exact G9 h2 q hq
theorem JW {ps : List Ph} {p : Ph} (h : p ∈ ps) {c : Nat} (hc : c ∈ p.its.own p.ia) : c ∈ AR ps := List.mem_flatMap.2 ⟨p, h, hc⟩
structure Kept (s : Ls) (ns : List Int) (w : World) (x : Ls) (W W' : World) (f : Nat) : Prop where
 cp : CpW s ns w x W
 below : Below w.heap.size w W'
 keep : ∀ b, b < W.heap.size → b ≠ f → W'.heap[b]? = W.heap[b]?
theorem Kept.tempos {s : Ls} {ns : List Int} {w : World} {x : Ls} {W W' : World} {f : Nat} (h : Kept s ns w x W W' f) (hs : s.At w) :
  IsRow CD 3 W' (.slice x.ta x.tempos.length x.tc) x.tempos ∧ IsRow Dk 4 W' (.slice x.ua x.pauses.length x.uc) x.pauses ∧ IsRow Dj 4 W' (.slice x.sa x.spans.length x.sc) x.spans := by
 have e := h.cp.tup; unfold Ls.tup at e; simp only [Prod.mk.injEq, List.cons.injEq, and_true] at e; obtain ⟨⟨e1, e2, e3⟩, ⟨e4, e5, e6⟩, e7, e8, e9⟩ := e; rw [e1, e2, e3, e4, e5, e6, e7, e8, e9]; exact ⟨hs.tempos.below h.below (qn _), hs.pauses.below h.below (qn _), hs.spans.below h.below (qn _)⟩
theorem GI {W W' : World} {c : Nat} (hb : W'.heap[c]? = W.heap[c]?) (q : Nat) (v : Value) (hc : W.cell? ⟨c, q, none⟩ = some v) : W'.cell? ⟨c, q, none⟩ = some v := (World.cell?_of_block hb).trans hc
theorem Kept.dances {s : Ls} {ns : List Int} {w : World} {x : Ls} {W W' : World} {f : Nat} (h : Kept s ns w x W W' f) (hf : f ≠ blk x.da) :
  B5 W' (blk x.da) (off x.da) x.dances ∧ ∃ m, NsAt W' (Ak (blk x.da) (off x.da) x.dances) m := by
 obtain ⟨n1, n2, _, _, h2⟩ := NsAt.split (xs := Ay x.phrases) h.cp.ns; by_cases hz : x.dances = []
 ·rw [hz]
  exact ⟨trivial, [], trivial⟩
 ·have hlt : blk x.da < W.heap.size := by
   have := h.cp.at_.dances
   cases hd : x.dances with
   | nil => exact absurd hd hz
   | cons d r => rw [hd] at this; exact BT this.1.1
  have hk := GI (h.keep _ hlt (Ne.symm hf)); exact ⟨BA h.cp.at_.dances fun q v _ => hk q v, n2, h2.kept fun r hr v hv => by rw [(AP hr).1] at hv ⊢; exact hk _ _ hv⟩
theorem Kept.its {s : Ls} {ns : List Int} {w : World} {x : Ls} {W W' : World} {f : Nat} (h : Kept s ns w x W W' f) (hf : f ∉ AR x.phrases) {p : Ph} (hp : p ∈ x.phrases) : p.Its W' ∧ ∃ m, NsAt W' p.refsL m := by
 obtain ⟨n1, n2, _, h1, _⟩ := NsAt.split (xs := Ay x.phrases) h.cp.ns; obtain ⟨m, hm⟩ := G9 h1 p hp
 have hk : ∀ c ∈ p.its.own p.ia, ∀ q v, W.cell? ⟨c, q, none⟩ = some v → W'.cell? ⟨c, q, none⟩ = some v := fun c hc q v hv =>
  GI (h.keep c (BT hv) (fun e => hf (e ▸ JW hp hc))) q v hv
 exact ⟨((Fq.1 h.cp.at_.phrases).2 p hp).kept hk, m, hm.kept fun r hr v hv => hk _ (Lt.own_mem hr) _ _ hv⟩
theorem Kept.roles {s : Ls} {ns : List Int} {w : World} {x : Ls} {W W' : World} {f : Nat} (h : Kept s ns w x W W' f) (hf : f ≠ blk x.ra) (hm : x.roles.length ≤ maxLen) : IsRow FO 4 W' (.slice x.ra x.roles.length x.rc) x.roles := by
 refine JV Le hm (Hr h.cp.own.roles fun g hg => ?_); have hg' : g = blk x.ra := by rw [h.cp.own.raf] at hg; exact (Option.some.inj hg).symm
 rw [hg']; exact h.keep _ h.cp.own.lt.1.2 (Ne.symm hf)
end
section
open Go Go.RowKit Go.Deep
def Qo : Code → Code | .seq a _ => a | c => c
end
section
open Go Go.RowKit Go.Deep
end
section
open Go Go.RowKit Go.Deep
theorem Ac {P : Program} {x y : Code} {Q : Exit → Act → World → Prop} {a : Act} {w : World} (h : ∀ K : Act → World → Prop, (∀ a w, y.wp P Q a w → K a w) → x.wp P (Exit.then K Q) a w) : (Code.seq x y).wp P Q a w := wp_seq (h _ fun _ _ h => h)
end
section
open Go Go.RowKit Go.Deep
def Ld (r : RefL) : List Value := [.pointer (some ⟨r.b, r.o, none⟩), .bool (decide (r.to = 2))]
def DG (rs : List RefL) : List RefL := rs.filter fun r => decide (r.to ≠ 0)
structure PtS (G acc rest : List RefL) (w : World) (v : Value) (W : World) : Prop where
 eq : acc ++ DG rest = G
 own : W.ownsRow w.heap.size 48 2 v acc.length (acc.flatMap Ld)
 below : Below w.heap.size w W
theorem PtS.one {G acc rest : List RefL} {r : RefL} {w W W' : World} {v v' : Value} (h : PtS G acc (r :: rest) w v W) (hr : r.to ≠ 0) (hw : Below W.heap.size W W') (hY : W.heap.size ≤ W'.heap.size) {W2 : World} (ho : W2.ownsRow w.heap.size 48 2 v' (acc.length + 1) (acc.flatMap Ld ++ Ld r)) (hg : W'.grownBy W2 v.ownBlock) :
  PtS G (acc ++ [r]) rest w v' W2 := by
 refine ⟨?_, ?_, ?_⟩
 ·rw [← h.eq]
  unfold DG; rw [List.filter_cons, if_pos (by simpa using hr)]; simp
 ·rw [List.length_append, List.flatMap_append]
  simpa using ho
 ·have hs := h.below.size
  exact (h.below.trans (hw.mono hs)).grown hg (by omega) fun k hk => (h.own.lt k hk).1
theorem PtS.skip {G acc rest : List RefL} {r : RefL} {w W : World} {v : Value} (h : PtS G acc (r :: rest) w v W) (hr : r.to = 0) : PtS G acc rest w v W := by
 refine ⟨?_, h.own, h.below⟩; rw [← h.eq]; unfold DG; rw [List.filter_cons, if_neg (by simp [hr])]
theorem PtS.len {G acc rest : List RefL} {w W : World} {v : Value} (h : PtS G acc rest w v W) : acc.length ≤ G.length := by
 rw [← h.eq, List.length_append]; omega
end
section
open Go Go.RowKit Go.Deep
end
section
open Go Go.RowKit Go.Deep
end
section
open Go Go.RowKit Go.Deep
theorem JF (a b : Int) (w : World) : (Op.equalIn 10000 22 (.agg #[int i64 a, int i64 b]) (.agg #[int i64 a, int i64 b])).run Try.prog w = .ok true w := by
 have u3 := Try.underlying3; have a3 := Try.isAgg3; have z3 := Try.sizeOf3; have hc : Try.prog.cellsOf 3 = 1 := by kernel_rfl
 have hq : (Try.prog.info? 3).isSome = true := by kernel_rfl
 obtain ⟨i3, hi3⟩ := Option.isSome_iff_exists.1 hq; rw [show (10000 : Nat) = 9998 + 1 + 1 from rfl, run_equalIn_array w (9998 + 1) _ _ Try.underlying22 hi3, hc]; simp only [List.range, List.range.loop, Op.eqItems]; go_simp
attribute [local go_sem] JF
end
section
open Go Go.RowKit Go.Deep
end
section
open Go Go.RowKit Go.Deep
end
section
open Go Go.RowKit Go.Deep
end
section
open Go Go.RowKit Go.Deep
end
section
open Go Go.RowKit Go.Deep
structure LawIn (s : Ls) (ns : List Int) (w : World) : Prop where
 at_ : s.At w
 ns : NsAt w s.refs ns
 env : ∀ V, Below w.heap.size w V → Env V
 fit : s.mfit
structure LawW (s : Ls) (w W : World) : Prop where
 below : Below w.heap.size w W
 box : W.heap[w.heap.size]? = some (.cells s.cells 30 (0, 0))
theorem LawW.next {s : Ls} {w W W' : World} (h : LawW s w W) (hb : Below W.heap.size W W') : LawW s w W' := ⟨Ag h.below hb, Am hb h.box⟩
end
end Go.Proofs.Ytpnbpepkoekkoaa
