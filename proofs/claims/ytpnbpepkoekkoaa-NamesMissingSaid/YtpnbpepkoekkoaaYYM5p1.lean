/- The walk of the statement: part 1. -/
import Derived.Test.YtpnbpepkoekkoaaZ1
set_option linter.unusedVariables false
set_option linter.unusedSimpArgs false
section
namespace Go.Proofs.Ytpnbpepkoekkoaa
end Go.Proofs.Ytpnbpepkoekkoaa
end
section
namespace Go.Proofs.Ytpnbpepkoekkoaa
def AllIdx (R P : List Nm) : List (Nat × Nm) → List Int → Prop
 | [], [] => True
 | r :: rs, n :: ns => (refIdx R P r n).isSome = true ∧ AllIdx R P rs ns
 | _, _ => False
theorem refsIdx_all {R P : List Nm} : ∀ (rs : List (Nat × Nm)) (ns : List Int), (refsIdx R P rs ns).isSome = true ↔ AllIdx R P rs ns
 | [], [] => by simp [refsIdx, AllIdx]
 | [], _ :: _ => by simp [refsIdx, AllIdx]
 | _ :: _, [] => by simp [refsIdx, AllIdx]
 | r :: rs, n :: ns => by
  have ih := refsIdx_all (R := R) (P := P) rs ns
  simp only [refsIdx, AllIdx]
  cases hq : refIdx R P r n with
  | none => simp
  | some k =>
   cases hs : refsIdx R P rs ns with
   | none => rw [hs] at ih; simpa using ih
   | some ks => rw [hs] at ih; simpa using ih
theorem refIdx_some {R P : List Nm} (r : Nat × Nm) (n : Int) : (refIdx R P r n).isSome = true ↔ (r.1 = 0 ∧ r.2 = [] ∧ n = 0) ∨ (r.1 = 1 ∧ r.2 ∈ R) ∨ (r.1 ≠ 0 ∧ r.1 ≠ 1 ∧ r.2 ∈ P) := by
 unfold refIdx
 by_cases h0 : r.1 = 0
 ·rw [if_pos h0]
  split <;> simp_all
 ·rw [if_neg h0]
  by_cases h1 : r.1 = 1
  ·rw [if_pos h1]
   split <;> simp_all
  ·rw [if_neg h1]
   split <;> simp_all
theorem mem_erase {l : List Nm} (hn : l.Nodup) {i : Nat} {nm : Nm} (hi : l[i]? = some nm) (a : Nm) : a ∈ l.eraseIdx i ↔ a ∈ l ∧ a ≠ nm := by
 have hlt : i < l.length := (List.getElem?_eq_some_iff.1 hi).1
 have hs : l = l.take i ++ nm :: l.drop (i + 1) := by
  have e : l.drop i = nm :: l.drop (i + 1) := by
   rw [List.drop_eq_getElem_cons hlt]
   congr 1
   rw [List.getElem?_eq_getElem hlt] at hi
   injection hi
  rw [← e, List.take_append_drop]
 rw [List.eraseIdx_eq_take_drop_succ]
 rw [hs] at hn
 obtain ⟨_, h2, h3⟩ := List.nodup_append.1 hn
 obtain ⟨h4, _⟩ := List.nodup_cons.1 h2
 constructor
 ·intro h
  rcases List.mem_append.1 h with h | h
  ·exact ⟨List.mem_of_mem_take h, fun e => h3 _ h _ (List.mem_cons_self ..) e⟩
  ·exact ⟨List.mem_of_mem_drop h, fun e => h4 (e ▸ h)⟩
 ·rintro ⟨h, hne⟩
  rw [hs] at h
  rcases List.mem_append.1 h with h | h
  ·exact List.mem_append.2 (Or.inl h)
  ·rcases List.mem_cons.1 h with h | h
   ·exact absurd h hne
   ·exact List.mem_append.2 (Or.inr h)
def Sc.dropRole (s : Sc) (i : Nat) : Sc := { s with roles := s.roles.eraseIdx i }
theorem AllIdx.role {R P : List Nm} (hn : R.Nodup) {i : Nat} {nm : Nm} (hi : R[i]? = some nm) : ∀ {rs : List (Nat × Nm)} {ns : List Int}, AllIdx R P rs ns → (AllIdx (R.eraseIdx i) P rs ns ↔ ∀ r ∈ rs, ¬ (r.1 = 1 ∧ r.2 = nm))
 | [], [], _ => by simp [AllIdx]
 | [], _ :: _, h => h.elim
 | _ :: _, [], h => h.elim
 | r :: rs, n :: ns, ⟨h1, h2⟩ => by
  have ih := AllIdx.role hn hi h2
  simp only [AllIdx, List.forall_mem_cons]
  rw [ih]
  refine and_congr_left fun _ => ?_
  rw [refIdx_some] at h1 ⊢
  rw [mem_erase hn hi]
  constructor
  ·rintro (h | h | h) ⟨h3, h4⟩
   ·omega
   ·exact h.2.2 h4
   ·omega
  ·intro h
   rcases h1 with h3 | h3 | h3
   ·exact Or.inl h3
   ·exact Or.inr (Or.inl ⟨h3.1, h3.2, fun e => h ⟨h3.1, e⟩⟩)
   ·exact Or.inr (Or.inr h3)
theorem dropRole_rnames (s : Sc) (i : Nat) : (s.dropRole i).rnames = s.rnames.eraseIdx i := by
 unfold Sc.dropRole Sc.rnames
 simp [List.eraseIdx_eq_take_drop_succ, List.map_take, List.map_drop]
theorem res_missing {s : Sc} {ns : List Int} (h1 : s.lims = true) (h2 : s.named = true) (h3 : s.apart = true) (h4 : (s.idx ns).isSome = false) : resE s ns = 170 := by
 unfold resE
 rw [if_neg (by simp [h1]), if_neg (by simp [h2]), if_neg (by simp [h3]), if_neg (by simp [h4])]
theorem missing_role {s : Sc} {ns : List Int} (h : resE s ns = 0) {i : Nat} {nm : Nm} (hi : s.rnames[i]? = some nm) :
  resE (s.dropRole i) ns = if ∃ r ∈ s.refs, r.1 = 1 ∧ r.2 = nm then 170 else 0 := by
 obtain ⟨h1, h2, h3, h4⟩ := res_zero h
 obtain ⟨n1, n2, n3⟩ := (named_iff _).1 h2
 obtain ⟨a1, a2⟩ := (apart_iff _).1 h3
 obtain ⟨l1, l2, l3⟩ := (lims_iff _).1 h1
 have hsub : (s.rnames.eraseIdx i).Sublist s.rnames := List.eraseIdx_sublist ..
 have g1 : (s.dropRole i).lims = true := by
  refine (lims_iff _).2 ⟨?_, l2, l3⟩
  obtain ⟨f1, f2, f3, f4, f5, f6⟩ := (fitIff _).1 l1
  refine (fitIff _).2 ⟨?_, f2, f3, f4, f5, f6⟩
  have : (s.roles.eraseIdx i).length ≤ s.roles.length := (List.eraseIdx_sublist ..).length_le
  show (s.roles.eraseIdx i).length ≤ 64
  omega
 have g2 : (s.dropRole i).named = true := (named_iff _).2 ⟨n1, fun n hn => n2 n (hsub.subset (by rw [dropRole_rnames] at hn; exact hn)), n3⟩
 have g3 : (s.dropRole i).apart = true := (apart_iff _).2 ⟨by rw [dropRole_rnames]; exact a1.sublist hsub, a2⟩
 have g4 : ((s.dropRole i).idx ns).isSome = true ↔ ∀ r ∈ s.refs, ¬ (r.1 = 1 ∧ r.2 = nm) := by
  unfold Sc.idx at h4 ⊢
  rw [dropRole_rnames]
  show ((if s.kinds then refsIdx (s.rnames.eraseIdx i) s.pnames s.refs ns else none)).isSome = true ↔ _
  split at h4
  ·rename_i hk
   rw [if_pos hk, refsIdx_all]
   exact AllIdx.role a1 hi ((refsIdx_all _ _).1 h4)
  ·cases h4
 split
 ·rename_i hu
  obtain ⟨r, hr, hr2⟩ := hu
  refine res_missing g1 g2 g3 ?_
  cases hq : ((s.dropRole i).idx ns).isSome with
  | false => rfl
  | true => exact absurd hr2 (g4.1 hq r hr)
 ·rename_i hu
  exact res_of g1 g2 g3 (g4.2 fun r hr h5 => hu ⟨r, hr, h5⟩)
end Go.Proofs.Ytpnbpepkoekkoaa
end
section
namespace Go.Proofs.Ytpnbpepkoekkoaa
theorem AllIdx.app {R P : List Nm} : ∀ {a b : List (Nat × Nm)} {ks ls : List Int}, ks.length = a.length → (AllIdx R P (a ++ b) (ks ++ ls) ↔ AllIdx R P a ks ∧ AllIdx R P b ls)
 | [], _, [], _, _ => by simp [AllIdx]
 | r :: a, b, k :: ks, ls, h => by
  simp only [List.cons_append, AllIdx]
  rw [AllIdx.app (by simpa using h), and_assoc]
theorem AllIdx.phr {R P : List Nm} (hn : P.Nodup) {i : Nat} {nm : Nm} (hi : P[i]? = some nm) : ∀ {rs : List (Nat × Nm)} {ns : List Int}, AllIdx R P rs ns → (AllIdx R (P.eraseIdx i) rs ns ↔ ∀ r ∈ rs, ¬ (r.1 ≠ 0 ∧ r.1 ≠ 1 ∧ r.2 = nm))
 | [], [], _ => by simp [AllIdx]
 | [], _ :: _, h => h.elim
 | _ :: _, [], h => h.elim
 | r :: rs, n :: ns, ⟨h1, h2⟩ => by
  have ih := AllIdx.phr hn hi h2
  simp only [AllIdx, List.forall_mem_cons]
  rw [ih]
  refine and_congr_left fun _ => ?_
  rw [refIdx_some] at h1 ⊢
  rw [mem_erase hn hi]
  constructor
  ·rintro (h | h | h) ⟨h3, h4, h5⟩
   ·omega
   ·omega
   ·exact h.2.2.2 h5
  ·intro h
   rcases h1 with h3 | h3 | h3
   ·exact Or.inl h3
   ·exact Or.inr (Or.inl h3)
   ·exact Or.inr (Or.inr ⟨h3.1, h3.2.1, h3.2.2, fun e => h ⟨h3.1, h3.2.1, e⟩⟩)
def Sc.dropPhr (s : Sc) (i : Nat) : Sc := { s with phrases := s.phrases.eraseIdx i }
theorem dropPhr_pnames (s : Sc) (i : Nat) : (s.dropPhr i).pnames = s.pnames.eraseIdx i := by
 unfold Sc.dropPhr Sc.pnames
 simp [List.eraseIdx_eq_take_drop_succ, List.map_take, List.map_drop]
theorem sizeP_app (a b : List Phr) : sizeP (a ++ b) = sizeP a + sizeP b := by simp [sizeP]
theorem missing_phr {s : Sc} {nA nB nC : List Int} {a c : List Phr} {p : Phr} (hs : s.phrases = a ++ p :: c) (h : resE s (nA ++ (nB ++ nC)) = 0) (hA : nA.length = (a.flatMap fun p => p.items.refs).length) (hB : nB.length = p.items.refs.length) :
  resE (s.dropPhr a.length) (nA ++ nC) = if ∃ r ∈ (s.dropPhr a.length).refs, r.1 ≠ 0 ∧ r.1 ≠ 1 ∧ r.2 = p.name then 170 else 0 := by
 obtain ⟨h1, h2, h3, h4⟩ := res_zero h
 obtain ⟨n1, n2, n3⟩ := (named_iff _).1 h2
 obtain ⟨a1, a2⟩ := (apart_iff _).1 h3
 obtain ⟨l1, l2, l3⟩ := (lims_iff _).1 h1
 have hd : (s.dropPhr a.length).phrases = a ++ c := by
  show s.phrases.eraseIdx a.length = a ++ c
  rw [hs, List.eraseIdx_append_of_length_le (Nat.le_refl _)]
  simp
 have hsub : (s.pnames.eraseIdx a.length).Sublist s.pnames := List.eraseIdx_sublist ..
 have hi : s.pnames[a.length]? = some p.name := by
  unfold Sc.pnames
  rw [hs]; simp
 have hmem : ∀ q ∈ a ++ c, q ∈ s.phrases := fun q hq => by
  rw [hs]
  rcases List.mem_append.1 hq with h | h
  ·exact List.mem_append.2 (Or.inl h)
  ·exact List.mem_append.2 (Or.inr (List.mem_cons_of_mem _ h))
 have g1 : (s.dropPhr a.length).lims = true := by
  refine (lims_iff _).2 ⟨?_, fun q hq => l2 q (hmem q (by rw [← hd]; exact hq)), ?_⟩
  ·obtain ⟨f1, f2, f3, f4, f5, f6⟩ := (fitIff _).1 l1
   refine (fitIff _).2 ⟨f1, f2, f3, f4, ?_, f6⟩
   rw [hd]
   rw [hs] at f5
   simp only [List.length_append, List.length_cons] at f5 ⊢
   omega
  ·rw [hd, sizeP_app]
   rw [hs, sizeP_app, show p :: c = [p] ++ c from rfl, sizeP_app] at l3
   omega
 have g2 : (s.dropPhr a.length).named = true := (named_iff _).2 ⟨n1, n2, fun n hn => n3 n (hsub.subset (by rw [dropPhr_pnames] at hn; exact hn))⟩
 have g3 : (s.dropPhr a.length).apart = true := (apart_iff _).2 ⟨a1, by rw [dropPhr_pnames]; exact a2.sublist hsub⟩
 have hrefs : s.refs = (a.flatMap fun p => p.items.refs) ++ (p.items.refs ++ ((c.flatMap fun p => p.items.refs) ++ s.dances.flatMap fun d => [(1, d.rn), (2, d.pn)])) := by
  unfold Sc.refs
  rw [hs]; simp
 have hrefs2 : (s.dropPhr a.length).refs = (a.flatMap fun p => p.items.refs) ++ ((c.flatMap fun p => p.items.refs) ++ s.dances.flatMap fun d => [(1, d.rn), (2, d.pn)]) := by
  unfold Sc.refs
  rw [hd]
  show _ ++ s.dances.flatMap _ = _
  simp
 have g4 : ((s.dropPhr a.length).idx (nA ++ nC)).isSome = true ↔ ∀ r ∈ (s.dropPhr a.length).refs, ¬ (r.1 ≠ 0 ∧ r.1 ≠ 1 ∧ r.2 = p.name) := by
  unfold Sc.idx at h4 ⊢
  rw [dropPhr_pnames]
  split at h4
  ·rename_i hk
   have hk2 : (s.dropPhr a.length).kinds = true := by
    unfold Sc.kinds at hk ⊢
    rw [hd]
    rw [List.all_eq_true] at hk ⊢
    exact fun q hq => hk q (hmem q hq)
   rw [if_pos hk2, refsIdx_all]
   rw [refsIdx_all, hrefs] at h4
   obtain ⟨x1, x2⟩ := (AllIdx.app hA).1 h4
   obtain ⟨_, x3⟩ := (AllIdx.app hB).1 x2
   rw [hrefs2]
   exact AllIdx.phr a2 hi ((AllIdx.app hA).2 ⟨x1, x3⟩)
  ·cases h4
 split
 ·rename_i hu
  obtain ⟨r, hr, hr2⟩ := hu
  refine res_missing g1 g2 g3 ?_
  cases hq : ((s.dropPhr a.length).idx (nA ++ nC)).isSome with
  | false => rfl
  | true => exact absurd hr2 (g4.1 hq r hr)
 ·rename_i hu
  exact res_of g1 g2 g3 (g4.2 fun r hr h5 => hu ⟨r, hr, h5⟩)
end Go.Proofs.Ytpnbpepkoekkoaa
end
