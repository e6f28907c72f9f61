/- Contracts and plain laws on the way to the statement: part 24. -/
import Derived.Test.YtpnbpepkoekkoaaZ22
import Derived.Test.YtpnbpepkoekkoaaZ13
import Derived.Test.YtpnbpepkoekkoaaZ23
import Derived.Test.YtpnbpepkoekkoaaZ15
set_option linter.unusedVariables false
set_option linter.unusedSimpArgs false
section
namespace Go.Proofs.Ytpnbpepkoekkoaa
open Go Go.RowKit
theorem refsIdx_len {rn pn : List Nm} : ∀ {rs : List (Nat × Nm)} {ns ks : List Int}, refsIdx rn pn rs ns = some ks → ns.length = rs.length ∧ ks.length = rs.length
 | [], [], ks, h => by simp [refsIdx] at h; subst h; exact ⟨rfl, rfl⟩
 | [], _ :: _, _, h => by simp [refsIdx] at h
 | _ :: _, [], _, h => by simp [refsIdx] at h
 | r :: rs, n :: ns, ks, h => by
  unfold refsIdx at h
  split at h
  ·rename_i k ks' h1 h2
   obtain ⟨e1, e2⟩ := refsIdx_len h2
   simp only [Option.some.injEq] at h
   subst h
   simp [e1, e2]
  ·cases h
theorem refsIdx_app {rn pn : List Nm} : ∀ {A : List (Nat × Nm)} {n1 : List Int} (B : List (Nat × Nm)) (n2 : List Int), n1.length = A.length → refsIdx rn pn (A ++ B) (n1 ++ n2) = match refsIdx rn pn A n1, refsIdx rn pn B n2 with | some k1, some k2 => some (k1 ++ k2) | _, _ => none
 | [], [], B, n2, _ => by
  simp only [List.nil_append, refsIdx]
  cases refsIdx rn pn B n2 <;> rfl
 | r :: A, n :: n1, B, n2, h => by
  have ih := refsIdx_app (rn := rn) (pn := pn) (A := A) (n1 := n1) B n2 (by simpa using h)
  simp only [List.cons_append, refsIdx, ih]
  cases refIdx rn pn r n <;> cases refsIdx rn pn A n1 <;> cases refsIdx rn pn B n2 <;> rfl
 | [], _ :: _, _, _, h => by simp at h
 | _ :: _, [], _, _, h => by simp at h
theorem refsIdx_snoc {rn pn : List Nm} {A : List (Nat × Nm)} {n1 ks : List Int} {r : Nat × Nm} {m k : Int} (h : refsIdx rn pn A n1 = some ks) (hk : refIdx rn pn r m = some k) : refsIdx rn pn (A ++ [r]) (n1 ++ [m]) = some (ks ++ [k]) := by
 rw [refsIdx_app _ _ (refsIdx_len h).1, h]
 simp [refsIdx, hk]
theorem refsIdx_bad {rn pn : List Nm} {A B : List (Nat × Nm)} {n1 n2 ks : List Int} {r : Nat × Nm} {m : Int} (h : refsIdx rn pn A n1 = some ks) (hk : refIdx rn pn r m = none) : refsIdx rn pn (A ++ r :: B) (n1 ++ m :: n2) = none := by
 rw [refsIdx_app _ _ (refsIdx_len h).1, h]
 simp [refsIdx, hk]
theorem itemTo_le (k : Int) : itemTo k ≤ 2 := by unfold itemTo; split <;> omega
theorem movTo_le (k : Int) : movTo k ≤ 2 := by unfold movTo; split <;> omega
theorem movRefs_to {b : Nat} : ∀ {o : Nat} {ms : List Mov} {r : RefL}, r ∈ movRefs b o ms → r.to ≤ 2
 | _, [], _, h => by cases h
 | o, m :: ms, r, h => by
  rcases List.mem_cons.1 h with rfl | h
  ·exact movTo_le _
  ·exact movRefs_to h
theorem Lt.refs_to : ∀ {T : Lt} {b o : Nat} {r : RefL}, r ∈ T.refsL b o → r.to ≤ 2
 | .nil, _, _, _, h => by cases h
 | .cons k n un ia ic its ma mc ms rest, b, o, r, h => by
  simp only [Lt.refsL, List.mem_cons, List.mem_append] at h
  rcases h with rfl | h | h | h
  ·exact itemTo_le _
  ·exact movRefs_to h
  ·exact Lt.refs_to h
  ·exact Lt.refs_to h
theorem Ls.refs_to {s : Ls} {r : RefL} (h : r ∈ s.refs) : r.to ≤ 2 := by
 rcases List.mem_append.1 h with h | h
 ·generalize s.phrases = ps at h
  induction ps with
  | nil => cases h
  | cons p ps ih =>
   simp only [phRefs, List.mem_append] at h
   rcases h with h | h
   ·exact Lt.refs_to h
   ·exact ih h
 ·generalize s.dances = ds at h
  generalize off s.da = o at h
  induction ds generalizing o with
  | nil => cases h
  | cons d ds ih =>
   simp only [danRefs, List.mem_cons] at h
   rcases h with rfl | rfl | h
   ·show 1 ≤ 2; omega
   ·show 2 ≤ 2; omega
   ·exact ih _ h
def kI (k : Int) : Value := .int .i64 k
theorem kI_key : KeyOf (.int .i64) kI := ⟨fun _ => rfl, fun a b h => by unfold kI at h; injection h⟩
structure ResC where
 x : Ls
 ns : List Int
 w : World
 X : Nat
 E : Nat
 kB : Nat
 TB : Nat
 MT : Nat
 mR : Nat
 mP : Nat
 rn : List Nm
 pn : List Nm
 Bl : Nat
structure ResQ (c : ResC) (pre : List RefL) (V : World) : Prop where
 bx : V.heap[c.X]? = some (.cells c.x.cells 30 (0, 0))
 be : V.heap[c.E]? = some (.cells #[.int .i64 0] 35 (0, 0))
 bk : V.cell? ⟨c.kB, 0, none⟩ = some (.pointer (some ⟨c.X, 0, none⟩))
 tb : V.cell? ⟨c.TB, 0, none⟩ = some (.map (some c.MT))
 mt : ∃ kvs : List (Int × Value), MapAt kI V c.MT kvs ∧ kvGet kvs 1 = some (.map (some c.mR)) ∧ kvGet kvs 2 = some (.map (some c.mP))
 mr : MapAt sv V c.mR (tabOf c.rn)
 mp : MapAt sv V c.mP (tabOf c.pn)
 ph : phAt V (blk c.x.fa) (off c.x.fa) c.x.phrases
 da : danAt V (blk c.x.da) (off c.x.da) c.x.dances
 refs : ∃ ks rest n1 js, c.x.refs = pre ++ rest ∧ c.ns = n1 ++ js ∧ refsIdx c.rn c.pn (pre.map RefL.key) n1 = some ks ∧ NsAt V pre ks ∧ NsAt V rest js
 free : ∀ r ∈ c.x.refs, FreeB V r.b
 base : Below c.w.heap.size c.w V
structure ResK (c : ResC) : Prop where
 sep : c.x.Sep
 ne : ∀ r ∈ c.x.refs, r.b ≠ c.X ∧ r.b ≠ c.E ∧ r.b ≠ c.kB ∧ r.b ≠ c.TB ∧ c.w.heap.size ≤ r.b
 rn : c.rn.Nodup
 pn : c.pn.Nodup
def ResI (c : ResC) (pre : List RefL) (W : World) : Prop := ∃ V, V.heap.size = c.Bl ∧ ResQ c pre V ∧ Below c.Bl V W
def ResF (c : ResC) (W : World) : Prop := (c.x.strip.kinds = false ∨ refsIdx c.rn c.pn (c.x.refs.map RefL.key) c.ns = none) ∧ ∃ pre, ResI c pre W
theorem ResI.keep {c : ResC} {pre : List RefL} {W W' : World} (h : ResI c pre W) (hb : Below c.Bl W W') : ResI c pre W' := by
 obtain ⟨V, h1, h2, h3⟩ := h; exact ⟨V, h1, h2, h3.trans hb⟩
theorem set_agree {B : Nat} {V W : World} (h : Below B V W) (p : Addr) (v : Value) : Below B (V.setCell p v) (W.setCell p v) := by
 refine ⟨h.os, h.tape, h.output, by simpa [World.setCell] using h.size, fun k hk => ?_⟩
 by_cases e : p.block = k
 ·subst e
  simp only [World.setCell, Array.getElem?_modify, if_true]
  rw [h.block _ hk]
 ·rw [Below.heap_setCell _ _ _ _ (fun e2 => e e2.symm), Below.heap_setCell _ _ _ _ (fun e2 => e e2.symm)]
  exact h.block _ hk
theorem beyond_set {B : Nat} (W : World) (p : Addr) (v : Value) (h : p.block < B) : Beyond B W (W.setCell p v) :=
 ⟨by simp [World.setCell], fun b hb _ _ => Below.heap_setCell _ _ _ _ (by omega)⟩
theorem ResQ.next {c : ResC} {pre rest : List RefL} {r : RefL} {V : World} (h : ResQ c pre V) (hs : c.x.refs = pre ++ r :: rest) :
  ∃ m ks n1 js, V.cell? ⟨r.b, r.o + 1, none⟩ = some (.int .i64 m) ∧ V.cell? ⟨r.b, r.o, none⟩ = some (sv r.nm) ∧ c.ns = n1 ++ m :: js ∧ refsIdx c.rn c.pn (pre.map RefL.key) n1 = some ks ∧ NsAt V pre ks ∧ NsAt V (r :: rest) (m :: js) ∧ r ∈ c.x.refs ∧ FreeB V r.b ∧ r.to ≤ 2 := by
 obtain ⟨ks, rest', n1, js, e1, e2, e3, e4, e5⟩ := h.refs
 have hr : rest' = r :: rest := List.append_cancel_left (e1.symm.trans hs)
 subst hr
 have hm : r ∈ c.x.refs := by rw [hs]; simp
 cases js with
 | nil => exact e5.elim
 | cons m js => exact ⟨m, ks, n1, js, e5.1, score_nm h.ph h.da r hm, e2, e3, e4, e5, hm, h.free r hm, Ls.refs_to hm⟩
theorem ResQ.pass {c : ResC} {pre rest : List RefL} {r : RefL} {V : World} (h : ResQ c pre V) (hs : c.x.refs = pre ++ r :: rest) (h0 : refIdx c.rn c.pn r.key 0 = some 0) (hc : V.cell? ⟨r.b, r.o + 1, none⟩ = some (.int .i64 0)) : ResQ c (pre ++ [r]) V := by
 obtain ⟨m, ks, n1, js, c1, c2, e2, e3, e4, e5, hm, _, _⟩ := h.next hs
 have hm0 : m = 0 := by rw [hc] at c1; cases c1; rfl
 subst hm0
 refine ⟨h.bx, h.be, h.bk, h.tb, h.mt, h.mr, h.mp, h.ph, h.da, ⟨ks ++ [0], rest, n1 ++ [0], js, by rw [hs]; simp, by rw [e2]; simp, ?_, e4.append ⟨c1, trivial⟩, e5.2⟩, h.free, h.base⟩
 rw [List.map_append]
 exact refsIdx_snoc e3 h0
theorem ResQ.put {c : ResC} (hK : ResK c) {pre rest : List RefL} {r : RefL} {V : World} {m k : Int} (h : ResQ c pre V) (hs : c.x.refs = pre ++ r :: rest) (hm : V.cell? ⟨r.b, r.o + 1, none⟩ = some (.int .i64 m)) (h0 : refIdx c.rn c.pn r.key m = some k) : ResQ c (pre ++ [r]) (V.setCell ⟨r.b, r.o + 1, none⟩ (.int .i64 k)) := by
 obtain ⟨m', ks, n1, js, c1, c2, e2, e3, e4, e5, hmem, hfr, _⟩ := h.next hs
 have hmm : m' = m := by rw [hm] at c1; cases c1; rfl
 subst hmm
 obtain ⟨x1, x2, x3, x4, x5⟩ := hK.ne r hmem
 have ob : ∀ b, b ≠ r.b → (V.setCell ⟨r.b, r.o + 1, none⟩ (.int .i64 k)).heap[b]? = V.heap[b]? := fun b hb => Below.heap_setCell _ _ _ _ hb
 have om : ∀ {κ : Type} [DecidableEq κ] {f : κ → Value} {b : Nat} {kvs : List (κ × Value)}, MapAt f V b kvs → MapAt f (V.setCell ⟨r.b, r.o + 1, none⟩ (.int .i64 k)) b kvs := fun {κ _ f b kvs} hM => hM.of_block (ob b (fun e => by
  obtain ⟨es, cl, hb, _⟩ := hM
  obtain ⟨cur, t, hf⟩ := hfr
  rw [e, hf] at hb; cases hb))
 have hap := hK.sep.apart
 rw [hs] at hap
 obtain ⟨s1, s2⟩ := NsAt.set (n := k) hap e4 e5
 obtain ⟨p1, p2⟩ := hK.sep.set (v := .int .i64 k) hmem h.ph h.da
 obtain ⟨kvO, q1, q2, q3⟩ := h.mt
 refine ⟨(ob _ (fun e => x1 e.symm)).trans h.bx, (ob _ (fun e => x2 e.symm)).trans h.be, cell_set_ne h.bk (addr_ne (Or.inl x3)), cell_set_ne h.tb (addr_ne (Or.inl x4)), ⟨kvO, om q1, q2, q3⟩, om h.mr, om h.mp, p1, p2, ⟨ks ++ [k], rest, n1 ++ [m'], js, by rw [hs]; simp, by rw [e2]; simp, ?_, s1.append ⟨s2.1, trivial⟩, s2.2⟩, fun q hq => (h.free q hq).set _ _, h.base.setCell (p := ⟨r.b, r.o + 1, none⟩) x5 _⟩
 rw [List.map_append]
 exact refsIdx_snoc e3 h0
theorem ResQ.fail {c : ResC} {pre rest : List RefL} {r : RefL} {V : World} {m : Int} (h : ResQ c pre V) (hs : c.x.refs = pre ++ r :: rest) (hm : V.cell? ⟨r.b, r.o + 1, none⟩ = some (.int .i64 m)) (h0 : refIdx c.rn c.pn r.key m = none) : refsIdx c.rn c.pn (c.x.refs.map RefL.key) c.ns = none := by
 obtain ⟨m', ks, n1, js, c1, c2, e2, e3, e4, e5, hmem, hfr, _⟩ := h.next hs
 have hmm : m' = m := by rw [hm] at c1; cases c1; rfl
 subst hmm
 rw [hs, e2, List.map_append]
 exact refsIdx_bad e3 h0
end Go.Proofs.Ytpnbpepkoekkoaa
end
section
namespace Go.Proofs.Ytpnbpepkoekkoaa
open Go Go.RowKit Go.Shelf
noncomputable def code15 : Code := (Try.f15.body).getD .skip
noncomputable def body15 : Code := match lastPart 9 code15 with
 | .seq (.seq _ (.block _ (.rangeFunc _ _ _ b))) _ => b
 | _ => .skip
section
attribute [local go_sem] Oper.semAt_some
set_option maxRecDepth 100000 in
set_option maxHeartbeats 8000000 in
theorem res_body0 (l : Nat) (c : ResC) (B1 : Nat) (pre rest : List RefL) (r : RefL) (W : World) (hs : c.x.refs = pre ++ r :: rest) (hI : ResI c pre W) (h0 : r.to = 0)
  (e0 e5 e8 e9 e10 e11 e12 e13 e14 e15 e16 e17 e18 e19 e20 e21 e22 e23 e24 e25 e26 e27 e28 e29 e30 e31 e32 e33 e34 e35 e36 e37 e38 e39 e40 e41 e42 e43 e44 e45 e46 e47 e48 e49 e50 e51 e52 e53 e54 e55 e56 e57 e58 e59 e60 e61 e62 e63 e64 e65 e66 e67 e68 e69 e70 e71 e72 e73 e74 e75 e76 e77 e78 e79 e80 e81 e82 e83 e84 e85 e86 e87 e88 e89 e90 e91 e92 e93 e94 e95 e96 e97 e98 : Value) :
  body15.wpIn (Fence.wide.inRound l) 10 Try.prog (allPost c.Bl (ResI c) (fun _ => False) (ResF c) (errChain 170) (pre ++ [r]) W) { tmps := #[e0, .pointer (some ⟨B1, 0, none⟩), .pointer (some ⟨c.X, 0, none⟩), .pointer (some ⟨c.E, 0, none⟩), .pointer (some ⟨c.TB, 0, none⟩), e5, .pointer (some ⟨r.b, r.o, none⟩), .int .i64 (r.to : Int), e8, e9, e10, e11, e12, e13, e14, e15, e16, e17, e18, e19, e20, e21, e22, e23, e24, e25, e26, e27, e28, e29, e30, e31, e32, e33, e34, e35, e36, e37, e38, e39, e40, e41, e42, e43, e44, e45, e46, e47, e48, e49, e50, e51, e52, e53, e54, e55, e56, e57, e58, e59, e60, e61, e62, e63, e64, e65, e66, e67, e68, e69, e70, e71, e72, e73, e74, e75, e76, e77, e78, e79, e80, e81, e82, e83, e84, e85, e86, e87, e88, e89, e90, e91, e92, e93, e94, e95, e96, e97, e98], defers := [] } W := by
 obtain ⟨V, v1, v2, v3⟩ := id hI
 obtain ⟨m, ks, n1, js, c1, c2, e2, e3, e4, e5, hmem, hfr, hto⟩ := v2.next hs
 have d1 := keep_cell (by rw [← v1] at v3; exact v3) c1
 have d2 := keep_cell (by rw [← v1] at v3; exact v3) c2
 have heq := eq_ref r.nm m
 by_cases hz : r.nm = [] ∧ m = 0
 ·have hP : ResI c (pre ++ [r]) W := ⟨V, v1, v2.pass hs (by unfold refIdx RefL.key; simp [h0, hz.1]) (by rw [c1, hz.2]), v3⟩
  have HP := Lib.hid hP
  rw [hz.1, hz.2] at heq
  simp only [and_self, decide_true] at heq
  obtain ⟨z1, z2⟩ := hz
  rw [z1] at d2
  rw [z2] at d1
  clear hP hI v1 v2 v3 c1 c2 e2 e3 e4 e5 hmem hfr hto
  rw [h0]
  dsimp only
  unfold body15 code15
  conv => arg 4; whnf
  gi_wp2_with (refine ⟨trivial, ?_⟩; refine (CallsIn.inRound l (callsIn_wide.2 (need_ok _ _))).mono ?_; rintro e w' ⟨rfl, rfl⟩)
  exact ⟨Beyond.refl _ _, HP.out⟩
 ·have hP : ResF c W := ⟨Or.inr (v2.fail hs c1 (by unfold refIdx RefL.key; simp only [h0, if_true]; rw [if_neg hz])), pre, hI⟩
  have HP := Lib.hid hP
  simp only [hz, decide_false] at heq
  clear hP hI v1 v2 v3 c1 c2 e2 e3 e4 e5 hmem hfr hto hz
  rw [h0]
  dsimp only
  unfold body15 code15
  conv => arg 4; whnf
  gi_wp2_with (refine ⟨trivial, ?_⟩; refine (CallsIn.inRound l (callsIn_wide.2 (need_bad _ _))).mono ?_; unfold errPanic; rintro e w' ⟨rfl, rfl⟩)
  exact ⟨rfl, rfl, Beyond.refl _ _, HP.out⟩
set_option maxRecDepth 100000 in
set_option maxHeartbeats 8000000 in
theorem res_body1 (l : Nat) (c : ResC) (hK : ResK c) (B1 : Nat) (pre rest : List RefL) (r : RefL) (W : World) (hs : c.x.refs = pre ++ r :: rest) (hI : ResI c pre W) (nl : List Nm) (mM : Nat) (hto1 : (r.to = 1 ∧ nl = c.rn ∧ mM = c.mR) ∨ (r.to = 2 ∧ nl = c.pn ∧ mM = c.mP))
  (e0 e5 e8 e9 e10 e11 e12 e13 e14 e15 e16 e17 e18 e19 e20 e21 e22 e23 e24 e25 e26 e27 e28 e29 e30 e31 e32 e33 e34 e35 e36 e37 e38 e39 e40 e41 e42 e43 e44 e45 e46 e47 e48 e49 e50 e51 e52 e53 e54 e55 e56 e57 e58 e59 e60 e61 e62 e63 e64 e65 e66 e67 e68 e69 e70 e71 e72 e73 e74 e75 e76 e77 e78 e79 e80 e81 e82 e83 e84 e85 e86 e87 e88 e89 e90 e91 e92 e93 e94 e95 e96 e97 e98 : Value) :
  body15.wpIn (Fence.wide.inRound l) 10 Try.prog (allPost c.Bl (ResI c) (fun _ => False) (ResF c) (errChain 170) (pre ++ [r]) W) { tmps := #[e0, .pointer (some ⟨B1, 0, none⟩), .pointer (some ⟨c.X, 0, none⟩), .pointer (some ⟨c.E, 0, none⟩), .pointer (some ⟨c.TB, 0, none⟩), e5, .pointer (some ⟨r.b, r.o, none⟩), .int .i64 (r.to : Int), e8, e9, e10, e11, e12, e13, e14, e15, e16, e17, e18, e19, e20, e21, e22, e23, e24, e25, e26, e27, e28, e29, e30, e31, e32, e33, e34, e35, e36, e37, e38, e39, e40, e41, e42, e43, e44, e45, e46, e47, e48, e49, e50, e51, e52, e53, e54, e55, e56, e57, e58, e59, e60, e61, e62, e63, e64, e65, e66, e67, e68, e69, e70, e71, e72, e73, e74, e75, e76, e77, e78, e79, e80, e81, e82, e83, e84, e85, e86, e87, e88, e89, e90, e91, e92, e93, e94, e95, e96, e97, e98], defers := [] } W := by
 obtain ⟨V, v1, v2, v3⟩ := id hI
 obtain ⟨m, ks, n1, js, c1, c2, e2, e3, e4, e5, hmem, hfr, hto⟩ := v2.next hs
 have v3' : Below V.heap.size V W := by rw [v1]; exact v3
 have d1 := keep_cell v3' c1
 have d2 := keep_cell v3' c2
 have dT := keep_cell v3' v2.tb
 have hnd : nl.Nodup := by
  rcases hto1 with ⟨_, rfl, _⟩ | ⟨_, rfl, _⟩
  ·exact hK.rn
  ·exact hK.pn
 have hmM : MapAt sv W mM (tabOf nl) := by
  rcases hto1 with ⟨_, rfl, rfl⟩ | ⟨_, rfl, rfl⟩
  ·exact v2.mr.below v3' v2.mr.lt
  ·exact v2.mp.below v3' v2.mp.lt
 obtain ⟨kvO, qm, q1, q2⟩ := v2.mt
 have hmT := qm.below v3' qm.lt
 have hidx : ∀ z : Int, refIdx c.rn c.pn r.key z = if r.nm ∈ nl then some ((nl.idxOf r.nm : Nat) : Int) else none := fun z => by
  unfold refIdx RefL.key
  rcases hto1 with ⟨h1, rfl, _⟩ | ⟨h1, rfl, _⟩ <;> simp [h1]
 have hl1 : ∀ k, (Instr.lookup 98 (.map (some c.MT)) (.int .i64 (r.to : Int)) false).run Try.prog (W.drewN k) = .ok (.map (some mM)) (W.drewN k) := fun k => by
  have := run_lookup_kv (P := Try.prog) kI_key Try.underlying98 Try.underlying93 (hmT.drewN k) (r.to : Int) (Try.zeroValue90 _) false
  unfold kI at this
  rcases hto1 with ⟨h1, rfl, rfl⟩ | ⟨h1, rfl, rfl⟩ <;> (rw [h1] at this ⊢; simpa [q1, q2] using this)
 have hl2 := fun k => run_lookup_kv (P := Try.prog) sv_key Try.underlying90 Try.underlying9 (hmM.drewN k) r.nm (Try.zeroValue3 _) true
 have hne0 : ((r.to : Int) == 0) = false := by
  rcases hto1 with ⟨h1, _⟩ | ⟨h1, _⟩ <;> (rw [h1]; rfl)
 rw [tabOf_get hnd] at hl2
 have mixed : Try.prog.follows .mixedOrders = true := by kernel_rfl
 generalize hrt : (r.to : Int) = rt at *
 by_cases hin : r.nm ∈ nl
 ·have hP : ResI c (pre ++ [r]) (W.setCell ⟨r.b, r.o + 1, none⟩ (.int .i64 ((nl.idxOf r.nm : Nat) : Int))) := ⟨V.setCell ⟨r.b, r.o + 1, none⟩ (.int .i64 ((nl.idxOf r.nm : Nat) : Int)), by rw [← v1]; simp [World.setCell], v2.put hK hs c1 (by rw [hidx, if_pos hin]), set_agree v3 _ _⟩
  have hB : Beyond c.Bl W (W.setCell ⟨r.b, r.o + 1, none⟩ (.int .i64 ((nl.idxOf r.nm : Nat) : Int))) := beyond_set _ _ _ (by rw [← v1]; exact hfr.lt)
  have hfz : W.frozen? ⟨r.b, r.o + 1, none⟩ = false := (hfr.below v3').free _
  have HP := Lib.hid hP; have HB := Lib.hid hB
  simp only [if_pos hin, Option.getD_some, Option.isSome_some, if_true] at hl2
  generalize ((nl.idxOf r.nm : Nat) : Int) = kx at *
  clear hP hB hI v1 v2 v3 v3' c1 c2 e2 e3 e4 e5 hmem hfr hto hto1 hnd hmM hmT hidx hin hs qm q1 q2
  dsimp only
  unfold body15 code15
  conv => arg 4; whnf
  gi_wp2_with fail
  refine region_round mixed (by kernel_rfl) (by kernel_rfl) ?_
  repeat (quiet_step_in (fail))
  refine wpQuietIn_nil ?_
  rintro W2 ⟨nq, rfl⟩
  have hst : (W.drewN nq).setCell ⟨r.b, r.o + 1, none⟩ (.int .i64 kx) = (W.setCell ⟨r.b, r.o + 1, none⟩ (.int .i64 kx)).drewN nq := by unfold World.drewN World.setCell; simp
  gi_wp2_with (refine ⟨trivial, ?_⟩; refine (CallsIn.inRound l (callsIn_wide.2 (need_ok _ _))).mono ?_; rintro e w' ⟨rfl, rfl⟩)
  exact ⟨HB.out.trans (Beyond.of_below (below_drewN (Below.refl _ _) _)), HP.out.keep (below_drewN (Below.refl _ _) _)⟩
 ·have hP : ∀ k, ResF c (W.drewN k) := fun k => ⟨Or.inr (v2.fail hs c1 (by rw [hidx, if_neg hin])), pre, hI.keep (below_drewN (Below.refl _ _) k)⟩
  have HP := Lib.hid hP
  simp only [if_neg hin, Option.getD_none, Option.isSome_none, if_true] at hl2
  clear hP hI v1 v2 v3 v3' c1 c2 e2 e3 e4 e5 hmem hfr hto hto1 hnd hmM hmT hidx hin hs qm q1 q2
  dsimp only
  unfold body15 code15
  conv => arg 4; whnf
  gi_wp2_with fail
  refine region_round mixed (by kernel_rfl) (by kernel_rfl) ?_
  repeat (quiet_step_in (fail))
  refine wpQuietIn_nil ?_
  rintro W2 ⟨nq, rfl⟩
  gi_wp2_with (refine ⟨trivial, ?_⟩; refine (CallsIn.inRound l (callsIn_wide.2 (need_bad _ _))).mono ?_; unfold errPanic; rintro e w' ⟨rfl, rfl⟩)
  exact ⟨rfl, rfl, Beyond.of_below (below_drewN (Below.refl _ _) _), HP.out _⟩
theorem res_body (l : Nat) (c : ResC) (hK : ResK c) (B1 : Nat) (pre rest : List RefL) (r : RefL) (W : World) (hs : c.x.refs = pre ++ r :: rest) (hI : ResI c pre W)
  (e0 e5 e8 e9 e10 e11 e12 e13 e14 e15 e16 e17 e18 e19 e20 e21 e22 e23 e24 e25 e26 e27 e28 e29 e30 e31 e32 e33 e34 e35 e36 e37 e38 e39 e40 e41 e42 e43 e44 e45 e46 e47 e48 e49 e50 e51 e52 e53 e54 e55 e56 e57 e58 e59 e60 e61 e62 e63 e64 e65 e66 e67 e68 e69 e70 e71 e72 e73 e74 e75 e76 e77 e78 e79 e80 e81 e82 e83 e84 e85 e86 e87 e88 e89 e90 e91 e92 e93 e94 e95 e96 e97 e98 : Value) :
  body15.wpIn (Fence.wide.inRound l) 10 Try.prog (allPost c.Bl (ResI c) (fun _ => False) (ResF c) (errChain 170) (pre ++ [r]) W) { tmps := #[e0, .pointer (some ⟨B1, 0, none⟩), .pointer (some ⟨c.X, 0, none⟩), .pointer (some ⟨c.E, 0, none⟩), .pointer (some ⟨c.TB, 0, none⟩), e5, .pointer (some ⟨r.b, r.o, none⟩), .int .i64 (r.to : Int), e8, e9, e10, e11, e12, e13, e14, e15, e16, e17, e18, e19, e20, e21, e22, e23, e24, e25, e26, e27, e28, e29, e30, e31, e32, e33, e34, e35, e36, e37, e38, e39, e40, e41, e42, e43, e44, e45, e46, e47, e48, e49, e50, e51, e52, e53, e54, e55, e56, e57, e58, e59, e60, e61, e62, e63, e64, e65, e66, e67, e68, e69, e70, e71, e72, e73, e74, e75, e76, e77, e78, e79, e80, e81, e82, e83, e84, e85, e86, e87, e88, e89, e90, e91, e92, e93, e94, e95, e96, e97, e98], defers := [] } W := by
 have hto : r.to ≤ 2 := Ls.refs_to (by rw [hs]; simp)
 by_cases h0 : r.to = 0
 ·exact res_body0 l c B1 pre rest r W hs hI h0 e0 e5 e8 e9 e10 e11 e12 e13 e14 e15 e16 e17 e18 e19 e20 e21 e22 e23 e24 e25 e26 e27 e28 e29 e30 e31 e32 e33 e34 e35 e36 e37 e38 e39 e40 e41 e42 e43 e44 e45 e46 e47 e48 e49 e50 e51 e52 e53 e54 e55 e56 e57 e58 e59 e60 e61 e62 e63 e64 e65 e66 e67 e68 e69 e70 e71 e72 e73 e74 e75 e76 e77 e78 e79 e80 e81 e82 e83 e84 e85 e86 e87 e88 e89 e90 e91 e92 e93 e94 e95 e96 e97 e98
 by_cases h1 : r.to = 1
 ·exact res_body1 l c hK B1 pre rest r W hs hI c.rn c.mR (Or.inl ⟨h1, rfl, rfl⟩) e0 e5 e8 e9 e10 e11 e12 e13 e14 e15 e16 e17 e18 e19 e20 e21 e22 e23 e24 e25 e26 e27 e28 e29 e30 e31 e32 e33 e34 e35 e36 e37 e38 e39 e40 e41 e42 e43 e44 e45 e46 e47 e48 e49 e50 e51 e52 e53 e54 e55 e56 e57 e58 e59 e60 e61 e62 e63 e64 e65 e66 e67 e68 e69 e70 e71 e72 e73 e74 e75 e76 e77 e78 e79 e80 e81 e82 e83 e84 e85 e86 e87 e88 e89 e90 e91 e92 e93 e94 e95 e96 e97 e98
 ·exact res_body1 l c hK B1 pre rest r W hs hI c.pn c.mP (Or.inr ⟨by omega, rfl, rfl⟩) e0 e5 e8 e9 e10 e11 e12 e13 e14 e15 e16 e17 e18 e19 e20 e21 e22 e23 e24 e25 e26 e27 e28 e29 e30 e31 e32 e33 e34 e35 e36 e37 e38 e39 e40 e41 e42 e43 e44 e45 e46 e47 e48 e49 e50 e51 e52 e53 e54 e55 e56 e57 e58 e59 e60 e61 e62 e63 e64 e65 e66 e67 e68 e69 e70 e71 e72 e73 e74 e75 e76 e77 e78 e79 e80 e81 e82 e83 e84 e85 e86 e87 e88 e89 e90 e91 e92 e93 e94 e95 e96 e97 e98
end
end Go.Proofs.Ytpnbpepkoekkoaa
end
section
namespace Go.Proofs.Ytpnbpepkoekkoaa
open Go Go.RowKit Go.Shelf
noncomputable def part15n9 : Code := lastPart 9 code15
theorem wpIn_n {F : Fence} {n m : Nat} {P : Program} {c : Code} {Q : Exit → Act → World → Prop} {a : Act} {w : World} (hd : F.depth = none) (h : c.wpIn F n P Q a w) : c.wpIn F m P Q a w := fun b k cs h1 h2 _ => h b k cs h1 h2 (room_of_none hd _)
theorem ResI.fld {c : ResC} {pre : List RefL} {W : World} (h : ResI c pre W) : FldR c.kB c.X c.x W := by
 obtain ⟨V, v1, v2, v3⟩ := h
 have v3' : Below V.heap.size V W := by rw [v1]; exact v3
 exact ⟨keep_cell v3' v2.bk, keep_cell v3' (cell_at v2.bx 10 rfl), keep_cell v3' (cell_at v2.bx 11 rfl), phAt_below v3' v2.ph⟩
theorem ResI.size {c : ResC} {pre : List RefL} {W : World} (h : ResI c pre W) : c.Bl ≤ W.heap.size := by
 obtain ⟨V, v1, v2, v3⟩ := h
 have := v3.size; omega
section
attribute [local go_sem] Oper.semAt_some
set_option maxRecDepth 100000 in
set_option maxHeartbeats 8000000 in
theorem res_range (c : ResC) (hK : ResK c) (hpf : c.x.phrases = [] ∨ c.x.fa = some ⟨blk c.x.fa, off c.x.fa, none⟩) (hpl : c.x.phrases.length ≤ maxLen) (hdf : c.x.dances = [] ∨ c.x.da = some ⟨blk c.x.da, off c.x.da, none⟩) (hdl : c.x.dances.length ≤ maxLen) (hXE : c.X ≠ c.E) (hge : c.w.heap.size ≤ c.X ∧ c.w.heap.size ≤ c.E)
  (B1 : Nat) (W : World) (hkB : c.kB = W.heap.size) (hBl : c.Bl = W.heap.size + 1)
  (hQ : ∀ W1, Below W.heap.size W W1 → W1.cell? ⟨c.kB, 0, none⟩ = some (.pointer (some ⟨c.X, 0, none⟩)) → ResQ c [] W1) (R : Ending → World → Prop)
  (hok : ∀ ks V W', refsIdx c.rn c.pn (c.x.refs.map RefL.key) c.ns = some ks → c.x.strip.kinds = true → NsAt V c.x.refs ks → phAt V (blk c.x.fa) (off c.x.fa) c.x.phrases → danAt V (blk c.x.da) (off c.x.da) c.x.dances → (∀ r ∈ c.x.refs, FreeB V r.b) → Below c.w.heap.size c.w V → V.heap.size ≤ W'.heap.size → W'.os = V.os → W'.tape = V.tape → W'.output = V.output → (∀ b, b < V.heap.size → b ≠ c.X → b ≠ c.E → W'.heap[b]? = V.heap[b]?) → R (.returned (.tuple #[.agg c.x.cells, .int .i64 0])) W')
  (herr : ∀ W', (c.x.strip.kinds = false ∨ refsIdx c.rn c.pn (c.x.refs.map RefL.key) c.ns = none) → Below c.w.heap.size c.w W' → R (.returned (.tuple #[.agg zeroSc, .int .i64 170])) W')
  (e0 e5 e6 e7 e8 e9 e10 e11 e12 e13 e14 e15 e16 e17 e18 e19 e20 e21 e22 e23 e24 e25 e26 e27 e28 e29 e30 e31 e32 e33 e34 e35 e36 e37 e38 e39 e40 e41 e42 e43 e44 e45 e46 e47 e48 e49 e50 e51 e52 e53 e54 e55 e56 e57 e58 e59 e60 e61 e62 e63 e64 e65 e66 e67 e68 e69 e70 e71 e72 e73 e74 e75 e76 e77 e78 e79 e80 e81 e82 e83 e84 e85 e86 e87 e88 e89 e90 e91 e92 e93 e94 e95 e96 e97 e98 : Value) :
  wpAt 15 Try.prog part15n9 (bodyPostM Fence.wide 0 Try.prog Try.f15 R) { tmps := #[e0, .pointer (some ⟨B1, 0, none⟩), .pointer (some ⟨c.X, 0, none⟩), .pointer (some ⟨c.E, 0, none⟩), .pointer (some ⟨c.TB, 0, none⟩), e5, e6, e7, e8, e9, e10, e11, e12, e13, e14, e15, e16, e17, e18, e19, e20, e21, e22, e23, e24, e25, e26, e27, e28, e29, e30, e31, e32, e33, e34, e35, e36, e37, e38, e39, e40, e41, e42, e43, e44, e45, e46, e47, e48, e49, e50, e51, e52, e53, e54, e55, e56, e57, e58, e59, e60, e61, e62, e63, e64, e65, e66, e67, e68, e69, e70, e71, e72, e73, e74, e75, e76, e77, e78, e79, e80, e81, e82, e83, e84, e85, e86, e87, e88, e89, e90, e91, e92, e93, e94, e95, e96, e97, e98], defers := [dfr c.X c.E] } W := by
 have HQ := Lib.hid hQ; have HOK := Lib.hid hok; have HERR := Lib.hid herr
 clear hQ hok herr
 dsimp only
 unfold part15n9 code15
 conv => arg 3; whnf
 refine wpAt_seq ?_
 refine wpAt_seq_wp (fun K hKK => ?_)
 have HKK := Lib.hid hKK
 clear hKK
 go_wp2_with (go_at_call 49; refine (fields_any ⟨c.X, 0, none⟩ W).mono ?_; rintro e W1 ⟨rfl, g1, b1, s1⟩)
 refine HKK.out _ _ ?_
 clear HKK
 rw [← hkB] at g1
 have hq0 := HQ.out W1 b1 (cell_at g1 0 rfl)
 have hBlW : W1.heap.size = c.Bl := by rw [hBl, s1]
 have hI0 : ResI c [] W1 := ⟨W1, hBlW, hq0, Below.refl _ _⟩
 refine wpAt_block ?_
 refine wpAt_range_all (fn0 := Try.f15) Try.func15 (gf := 74) (lb := #[.pointer (some ⟨W.heap.size, 0, none⟩)]) rfl (enters_of Try.func74 (by kernel_rfl) rfl)
  (fields_seq W.heap.size c.X c.x (FldR W.heap.size c.X c.x) (fun _ h => h) hpf hpl hdf hdl W1) (fun _ => rfl) (ResI c) (fun _ => False) (ResF c)
  (fun s W W' row hs hg hr => hs.keep ((Below.refl _ _).grown hg hs.size (fun k e => by rw [← hBlW]; exact (hr k e).1))) (fun _ _ _ _ h => h.elim) (fun s W W' hs hb => hs.keep (hb.mono hs.size)) hI0 (fun _ _ h => by rw [← hkB]; exact h.fld)
  (fun r => { tmps := #[e0, .pointer (some ⟨B1, 0, none⟩), .pointer (some ⟨c.X, 0, none⟩), .pointer (some ⟨c.E, 0, none⟩), .pointer (some ⟨c.TB, 0, none⟩), e5, .pointer (some ⟨r.b, r.o, none⟩), .int .i64 (r.to : Int), e8, e9, e10, e11, e12, e13, e14, e15, e16, e17, e18, e19, e20, e21, e22, e23, e24, e25, e26, e27, e28, e29, e30, e31, e32, e33, e34, e35, e36, e37, e38, e39, e40, e41, e42, e43, e44, e45, e46, e47, e48, e49, e50, e51, e52, e53, e54, e55, e56, e57, e58, e59, e60, e61, e62, e63, e64, e65, e66, e67, e68, e69, .func (.func 74) #[] #[.pointer (some ⟨W.heap.size, 0, none⟩)], .pointer (some ⟨r.b, r.o, none⟩), .int .i64 (r.to : Int), e73, e74, e75, e76, e77, e78, e79, e80, e81, e82, e83, e84, e85, e86, e87, e88, e89, e90, e91, e92, e93, e94, e95, e96, e97, e98], defers := [] }) ?assign ?body ?bad ?done ?stop ?pan
 case assign =>
  intro l r V K hKv
  have HKv := Lib.hid hKv
  clear hKv
  unfold encX
  dsimp only
  gi_wp2_with fail
  exact HKv.out
 case body =>
  intro l pre r rest V hs hI
  rw [hBlW]
  exact wpIn_n rfl (res_body l c hK B1 pre rest r V hs hI _ _ _ _ _ _ _ _ _ _ _ _ _ _ _ _ _ _ _ _ _ _ _ _ _ _ _ _ _ _ _ _ _ _ _ _ _ _ _ _ _ _ _ _ _ _ _ _ _ _ _ _ _ _ _ _ _ _ _ _ _ _ _ _ _ _ _ _ _ _ _ _ _ _ _ _ _ _ _ _ _ _ _ _ _ _ _ _ _ _ _ _ _)
 case bad =>
  intro pre rest V hs hnk hI
  exact ⟨Or.inl (by simpa using hnk), pre, hI⟩
 case stop => exact fun _ _ _ h _ => h.elim
 case pan =>
  intro D V hD hF hDD
  obtain ⟨hf, pre, U, u1, u2, u3⟩ := hF
  have u3' : Below U.heap.size U V := by rw [u1]; exact u3
  have gX := (u3'.block _ (Array.getElem?_eq_some_iff.1 u2.bx).1).trans u2.bx
  have gE := (u3'.block _ (Array.getElem?_eq_some_iff.1 u2.be).1).trans u2.be
  refine leave_err_mark _ c.X c.E D 170 _ _ R V rfl rfl gX rfl gE hXE hDD fun W' hb => HERR.out W' hf ?_
  have hb2 := u2.base.trans (u3'.mono u2.base.size)
  exact hb2.trans (hb _ hge.1 hge.2 (by have := u2.base.size; omega))
 case done =>
  intro D V hD hkd hI hDD
  obtain ⟨U, u1, u2, u3⟩ := hI
  have u3' : Below U.heap.size U V := by rw [u1]; exact u3
  have gX := (u3'.block _ (Array.getElem?_eq_some_iff.1 u2.bx).1).trans u2.bx
  have gE := (u3'.block _ (Array.getElem?_eq_some_iff.1 u2.be).1).trans u2.be
  obtain ⟨ks, rest, n1, js, q1, q2, q3, q4, q5⟩ := u2.refs
  have hr0 : rest = [] := by
   have := congrArg List.length q1
   simp only [List.length_append] at this
   exact List.length_eq_zero_iff.1 (by omega)
  have hj0 : js = [] := by
   rw [hr0] at q5
   cases js with
   | nil => rfl
   | cons => exact q5.elim
  rw [hj0, List.append_nil] at q2
  obtain ⟨W2, x2, g2, o2, b2, s2⟩ := set_score gX rfl (sv c.x.name) (.int .i64 c.x.wd) (.int .i64 c.x.dp) (.int .i64 c.x.bars) (.int .i64 c.x.t0) (.int .i64 c.x.t1) (.slice c.x.ra c.x.roles.length c.x.rc) (.slice c.x.ta c.x.tempos.length c.x.tc) (.slice c.x.ua c.x.pauses.length c.x.uc) (.slice c.x.sa c.x.spans.length c.x.sc) (.slice c.x.fa c.x.phrases.length c.x.fc) (.slice c.x.da c.x.dances.length c.x.dc)
  have gE2 := (o2 c.E (fun e => hXE e.symm)).trans gE
  obtain ⟨W3, x3, g3, o3, b3, s3⟩ := set_box gE2 (.int .i64 0)
  have nX : c.X ≠ D := fun e => by rw [e, hDD] at gX; cases gX
  have nE : c.E ≠ D := fun e => by rw [e, hDD] at gE; cases gE
  have hD3 := (o3 D (fun e => nE e.symm)).trans ((o2 D (fun e => nX e.symm)).trans hDD)
  have gX3 := (o3 c.X hXE).trans g2
  have hdl2 : U.heap.size ≤ D := by rw [u1, ← hBlW]; exact hD
  have hR := HOK.out ks U (W3.putObj D (.deferred none)) (by rw [q2]; exact q3) hkd q4 u2.ph u2.da u2.free u2.base (by simp [World.putObj]; have := u3'.size; omega)
   ((b3 0 V (b2 0 V (Below.refl _ _) (Nat.zero_le _)) (Nat.zero_le _)).os.trans u3'.os) ((b3 0 V (b2 0 V (Below.refl _ _) (Nat.zero_le _)) (Nat.zero_le _)).tape.trans u3'.tape) ((b3 0 V (b2 0 V (Below.refl _ _) (Nat.zero_le _)) (Nat.zero_le _)).output.trans u3'.output)
   (fun b hb h1 h2 => (World.putObj_heap_other (by omega)).trans ((o3 b h2).trans ((o2 b h1).trans (u3'.block b hb))))
  have HR := Lib.hid hR; have HD3 := Lib.hid hD3; have G3 := Lib.hid g3; have GX3 := Lib.hid gX3
  have fX : ∀ j, V.frozen? ⟨c.X, j, none⟩ = false := fun j => by simp [World.frozen?, gX]
  have cE2 : W2.cell? ⟨c.E, 0, none⟩ = some (.int .i64 0) := cell_at gE2 0 rfl
  have fE2 : W2.frozen? ⟨c.E, 0, none⟩ = false := by simp [World.frozen?, gE2]
  have y0 : V.cell? ⟨c.X, 0, none⟩ = some (sv c.x.name) := cell_at gX 0 rfl; have y1 : V.cell? ⟨c.X, 1, none⟩ = some (.int .i64 c.x.wd) := cell_at gX 1 rfl; have y2 : V.cell? ⟨c.X, 2, none⟩ = some (.int .i64 c.x.dp) := cell_at gX 2 rfl; have y3 : V.cell? ⟨c.X, 3, none⟩ = some (.int .i64 c.x.bars) := cell_at gX 3 rfl; have y4 : V.cell? ⟨c.X, 4, none⟩ = some (.int .i64 c.x.t0) := cell_at gX 4 rfl; have y5 : V.cell? ⟨c.X, 5, none⟩ = some (.int .i64 c.x.t1) := cell_at gX 5 rfl; have y6 : V.cell? ⟨c.X, 6, none⟩ = some (.slice c.x.ra c.x.roles.length c.x.rc) := cell_at gX 6 rfl; have y7 : V.cell? ⟨c.X, 7, none⟩ = some (.slice c.x.ta c.x.tempos.length c.x.tc) := cell_at gX 7 rfl; have y8 : V.cell? ⟨c.X, 8, none⟩ = some (.slice c.x.ua c.x.pauses.length c.x.uc) := cell_at gX 8 rfl; have y9 : V.cell? ⟨c.X, 9, none⟩ = some (.slice c.x.sa c.x.spans.length c.x.sc) := cell_at gX 9 rfl; have y10 : V.cell? ⟨c.X, 10, none⟩ = some (.slice c.x.fa c.x.phrases.length c.x.fc) := cell_at gX 10 rfl; have y11 : V.cell? ⟨c.X, 11, none⟩ = some (.slice c.x.da c.x.dances.length c.x.dc) := cell_at gX 11 rfl
  clear hR hD3 g3 gX3 u1 u2 u3 u3' gX gE q1 q2 q3 q4 q5 hr0 hj0 g2 o2 b2 s2 gE2 o3 b3 s3 nX nE hdl2 hI0 hq0 hDD hD hkd g1 b1 s1 hBlW
  show wpAt 15 Try.prog _ _ _ V
  refine wpAt_of_wp ?_
  go_wp2_with fail
  refine leave_ok _ c.X c.E D _ _ R W3 ?_ ?_ GX3.out rfl G3.out HD3.out HR.out <;> rfl
end
end Go.Proofs.Ytpnbpepkoekkoaa
end
