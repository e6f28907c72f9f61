/- The walk of the statement: part 2. -/
import Derived.Test.YtpnbpepkoekkoaaZ13
set_option linter.unusedVariables false
set_option linter.unusedSimpArgs false
section
namespace Go.Proofs.Ytpnbpepkoekkoaa
open Go Go.RowKit Go.Deep
def movCore (w : World) (b : Nat) : Nat → List Mov → Prop
  | _, [] => True
  | o, m :: r => (w.cell? ⟨b, o, none⟩ = some (.int .i64 m.mark) ∧ w.cell? ⟨b, o + 1, none⟩ = some (.int .i64 m.kind) ∧ w.cell? ⟨b, o + 2, none⟩ = some (.int .i64 m.side) ∧ w.cell? ⟨b, o + 3, none⟩ = some (.int .i64 m.dir) ∧ w.cell? ⟨b, o + 4, none⟩ = some (.int .i64 m.level) ∧ w.cell? ⟨b, o + 5, none⟩ = some (.int .i64 m.size) ∧ w.cell? ⟨b, o + 8, none⟩ = some (.int .i64 m.fa) ∧ w.cell? ⟨b, o + 9, none⟩ = some (.int .i64 m.fb) ∧ w.cell? ⟨b, o + 10, none⟩ = some (.int .i64 m.ta) ∧ w.cell? ⟨b, o + 11, none⟩ = some (.int .i64 m.tb)) ∧ movCore w b (o + 12) r
def Lt.Core (w : World) : Lt → Nat → Nat → Prop
  | .nil, _, _ => True
  | .cons k n _ ia ic its ma mc ms r, b, o =>
    (w.cell? ⟨b, o, none⟩ = some (.int .i64 k) ∧ w.cell? ⟨b, o + 1, none⟩ = some (.int .i64 n) ∧ w.cell? ⟨b, o + 4, none⟩ = some (.slice ia its.len ic) ∧ w.cell? ⟨b, o + 5, none⟩ = some (.slice ma ms.length mc)) ∧
    ((ms = [] ∨ ma = some ⟨blk ma, off ma, none⟩) ∧ ms.length ≤ maxLen ∧ movCore w (blk ma) (off ma) ms) ∧
    ((its.len = 0 ∨ ia = some ⟨blk ia, off ia, none⟩) ∧ its.len ≤ maxLen ∧ its.Core w (blk ia) (off ia)) ∧ r.Core w b (o + 6)
theorem movCore_kept {w w' : World} {b : Nat} : ∀ {o : Nat} {ms : List Mov}, movCore w b o ms → (∀ q v, o ≤ q → w.cell? ⟨b, q, none⟩ = some v → w'.cell? ⟨b, q, none⟩ = some v) → movCore w' b o ms
  | _, [], _, _ => trivial
  | o, m :: r, ⟨⟨h0, h1, h2, h3, h4, h5, h8, h9, h10, h11⟩, h⟩, hk =>
    ⟨⟨hk _ _ (Nat.le_refl _) h0, hk _ _ (by omega) h1, hk _ _ (by omega) h2, hk _ _ (by omega) h3, hk _ _ (by omega) h4, hk _ _ (by omega) h5, hk _ _ (by omega) h8, hk _ _ (by omega) h9, hk _ _ (by omega) h10, hk _ _ (by omega) h11⟩,
     movCore_kept h fun q v hq => hk q v (by omega)⟩
theorem Lt.Core.kept {w w' : World} : ∀ {T : Lt} {b o : Nat}, T.Core w b o → (∀ q v, o ≤ q → w.cell? ⟨b, q, none⟩ = some v → w'.cell? ⟨b, q, none⟩ = some v) → (∀ c ∈ T.blocks, ∀ q v, w.cell? ⟨c, q, none⟩ = some v → w'.cell? ⟨c, q, none⟩ = some v) → T.Core w' b o
  | .nil, _, _, _, _, _ => trivial
  | .cons k n un ia ic its ma mc ms r, b, o, ⟨⟨h0, h1, h4, h5⟩, ⟨m1, m2, m3⟩, ⟨i1, i2, i3⟩, hr⟩, hk, hc => by
    refine ⟨⟨hk _ _ (Nat.le_refl _) h0, hk _ _ (by omega) h1, hk _ _ (by omega) h4, hk _ _ (by omega) h5⟩, ⟨m1, m2, ?_⟩, ⟨i1, i2, ?_⟩, kept hr (fun q v hq => hk q v (by omega)) (fun c hcm => hc c (by simp [Lt.blocks, hcm]))⟩
    · by_cases hm : ms = []
      · subst hm; trivial
      · exact movCore_kept m3 fun q v _ => hc _ (by simp [Lt.blocks, hm]) q v
    · by_cases hi : its.len = 0
      · rw [Lt.len_zero hi]; trivial
      · exact kept i3 (fun q v _ => hc _ (by simp [Lt.blocks, hi]) q v) (fun c hcm => hc c (by simp [Lt.blocks, hcm]))
theorem movCore_set {w : World} {b : Nat} {v : Value} : ∀ {o : Nat} {ms : List Mov} {x : RefL}, x ∈ movRefs b o ms → movCore w b o ms → movCore (w.setCell ⟨x.b, x.o, none⟩ v) b o ms
  | _, [], _, h, _ => by cases h
  | o, m :: r, x, h, ⟨⟨h0, h1, h2, h3, h4, h5, h8, h9, h10, h11⟩, hr⟩ => by
    rcases List.mem_cons.1 h with rfl | h
    · refine ⟨⟨cell_set_ne h0 ?_, cell_set_ne h1 ?_, cell_set_ne h2 ?_, cell_set_ne h3 ?_, cell_set_ne h4 ?_, cell_set_ne h5 ?_, cell_set_ne h8 ?_, cell_set_ne h9 ?_, cell_set_ne h10 ?_, cell_set_ne h11 ?_⟩, movCore_kept hr fun q u hq hc => cell_set_ne hc (addr_ne (by simp only; omega))⟩ <;> exact addr_ne (by simp only; omega)
    · have hx := movRefs_mem h
      refine ⟨⟨cell_set_ne h0 ?_, cell_set_ne h1 ?_, cell_set_ne h2 ?_, cell_set_ne h3 ?_, cell_set_ne h4 ?_, cell_set_ne h5 ?_, cell_set_ne h8 ?_, cell_set_ne h9 ?_, cell_set_ne h10 ?_, cell_set_ne h11 ?_⟩, movCore_set h hr⟩ <;> exact addr_ne (by omega)
theorem Lt.core_set {w : World} {v : Value} : ∀ {T : Lt} {b o : Nat} {x : RefL}, T.Sep b → x ∈ T.refsL b o → T.Core w b o → T.Core (w.setCell ⟨x.b, x.o, none⟩ v) b o
  | .nil, _, _, _, _, h, _ => by cases h
  | .cons k n un ia ic its ma mc ms r, b, o, x, hs, h, ⟨⟨h0, h1, h4, h5⟩, ⟨m1, m2, m3⟩, ⟨i1, i2, i3⟩, hr⟩ => by
    have hs' := hs
    unfold Lt.Sep at hs
    simp only [Lt.blocks, List.nodup_cons, List.mem_append, not_or, List.nodup_append] at hs
    obtain ⟨⟨n1, n2, n3, n4⟩, nm, ⟨ni, ⟨nb, nr, nbr⟩, nib⟩, nmb⟩ := hs
    have hSr : r.Sep b := List.nodup_cons.2 ⟨n4, nr⟩
    simp only [Lt.refsL, List.mem_cons, List.mem_append] at h
    have mk : ∀ {c : Nat}, (c = x.b → False) → ∀ q u, w.cell? ⟨c, q, none⟩ = some u → (w.setCell ⟨x.b, x.o, none⟩ v).cell? ⟨c, q, none⟩ = some u := fun hc q u hq => cell_set_ne hq (addr_ne (Or.inl fun e => hc e.symm))
    have hmk : (ms = [] ∨ blk ma ≠ x.b) → movCore (w.setCell ⟨x.b, x.o, none⟩ v) (blk ma) (off ma) ms := fun hc => by
      rcases hc with rfl | hc
      · trivial
      · exact movCore_kept m3 fun q u _ => mk hc q u
    have hik : (its.len = 0 ∨ (blk ia ≠ x.b ∧ x.b ∉ its.blocks)) → its.Core (w.setCell ⟨x.b, x.o, none⟩ v) (blk ia) (off ia) := fun hc => by
      rcases hc with hc | ⟨hc, hd⟩
      · rw [Lt.len_zero hc]; trivial
      · exact i3.kept (fun q u _ => mk hc q u) fun c hcm => mk fun e => hd (e ▸ hcm)
    rcases h with rfl | h | h | h
    · refine ⟨⟨cell_set_ne h0 ?_, cell_set_ne h1 ?_, cell_set_ne h4 ?_, cell_set_ne h5 ?_⟩, ⟨m1, m2, hmk ?_⟩, ⟨i1, i2, hik ?_⟩, hr.kept (fun q u hq hc => cell_set_ne hc (addr_ne (by simp only; omega))) fun c hcm => mk fun e => n4 (by rw [show b = c from e.symm]; exact hcm)⟩
      iterate 4 exact addr_ne (by simp only; omega)
      · by_cases hm : ms = []
        · exact Or.inl hm
        · right; rintro (rfl : blk ma = b); simp [hm] at n1
      · by_cases hi : its.len = 0
        · exact Or.inl hi
        · right; refine ⟨?_, n3⟩; rintro (rfl : blk ia = b); simp [hi] at n2
    · obtain ⟨e, _⟩ := movRefs_mem h
      have hm := movRefs_ne h
      simp only [if_neg hm, List.mem_singleton] at n1 nmb
      have hxb : b ≠ x.b := by rw [e]; exact n1
      refine ⟨⟨cell_set_ne h0 ?_, cell_set_ne h1 ?_, cell_set_ne h4 ?_, cell_set_ne h5 ?_⟩, ⟨m1, m2, movCore_set h m3⟩, ⟨i1, i2, hik ?_⟩, hr.kept (fun q u _ => mk hxb q u) fun c hcm => mk fun e2 => nmb _ rfl _ (Or.inr (Or.inr hcm)) (by rw [← e, ← e2])⟩
      iterate 4 exact addr_ne (by omega)
      · by_cases hi : its.len = 0
        · exact Or.inl hi
        · right
          simp only [if_neg hi, List.mem_singleton] at nmb
          exact ⟨fun e2 => nmb _ rfl _ (Or.inl rfl) (by rw [← e, e2]), fun hc => nmb _ rfl _ (Or.inr (Or.inl hc)) (by rw [← e])⟩
    · have hi : its.len ≠ 0 := fun e => by rw [Lt.len_zero e] at h; cases h
      simp only [if_neg hi, List.mem_singleton] at n2 nib nmb ni
      have hSi : its.Sep (blk ia) := List.nodup_cons.2 ⟨fun hc => nib _ rfl _ (Or.inl hc) rfl, nb⟩
      have hin : x.b = blk ia ∨ x.b ∈ its.blocks := by
        rcases refsL_mem h with ⟨h1, _⟩ | h1
        · exact Or.inl h1
        · exact Or.inr h1
      have hxb : b ≠ x.b := by
        rcases hin with e | e
        · rw [e]; exact n2
        · intro e2; exact n3 (e2 ▸ e)
      have hxr : x.b ∉ r.blocks := by
        rcases hin with e | e
        · rw [e]; intro hc; exact nib _ rfl _ (Or.inr hc) rfl
        · intro hc; exact nbr _ e _ hc rfl
      refine ⟨⟨cell_set_ne h0 ?_, cell_set_ne h1 ?_, cell_set_ne h4 ?_, cell_set_ne h5 ?_⟩, ⟨m1, m2, hmk ?_⟩, ⟨i1, i2, core_set hSi h i3⟩, hr.kept (fun q u _ => mk hxb q u) fun c hcm => mk fun e2 => hxr (e2 ▸ hcm)⟩
      iterate 4 exact addr_ne (by omega)
      · by_cases hm : ms = []
        · exact Or.inl hm
        · right
          simp only [if_neg hm, List.mem_singleton] at nmb
          intro e2
          rcases hin with e | e
          · exact nmb _ rfl _ (Or.inl rfl) (by rw [e2, e])
          · exact nmb _ rfl _ (Or.inr (Or.inl e)) e2
    · have hin := refsL_mem h
      have h5' : x.b = b → o + 8 ≤ x.o := fun e => by
        rcases hin with ⟨_, h2⟩ | h1
        · omega
        · exact absurd h1 (e ▸ n4)
      refine ⟨⟨cell_set_ne h0 ?_, cell_set_ne h1 ?_, cell_set_ne h4 ?_, cell_set_ne h5 ?_⟩, ⟨m1, m2, hmk ?_⟩, ⟨i1, i2, hik ?_⟩, core_set hSr h hr⟩
      iterate 4 exact addr_ne (by omega)
      · by_cases hm : ms = []
        · exact Or.inl hm
        · right
          simp only [if_neg hm, List.mem_singleton] at n1 nmb
          intro e2
          rcases hin with ⟨e, _⟩ | e
          · exact n1 (by rw [e2, e])
          · exact nmb _ rfl _ (Or.inr (Or.inr e)) e2
      · by_cases hi : its.len = 0
        · exact Or.inl hi
        · right
          simp only [if_neg hi, List.mem_singleton] at n2 nib
          rcases hin with ⟨e, _⟩ | e
          · exact ⟨fun e2 => n2 (by rw [e2, e]), fun hc => n3 (e ▸ hc)⟩
          · exact ⟨fun e2 => nib _ rfl _ (Or.inr e) e2, fun hc => nbr _ hc _ e rfl⟩
def Ph.ItsC (w : World) (p : Ph) : Prop := (p.its.len = 0 ∨ p.ia = some ⟨blk p.ia, off p.ia, none⟩) ∧ p.its.len ≤ maxLen ∧ p.its.Core w (blk p.ia) (off p.ia)
def phCore (w : World) (b : Nat) : Nat → List Ph → Prop
  | _, [] => True
  | o, p :: r => (w.cell? ⟨b, o, none⟩ = some (sv p.name) ∧ w.cell? ⟨b, o + 1, none⟩ = some p.val ∧ p.ItsC w) ∧ phCore w b (o + 2) r
def danCore (w : World) (b : Nat) : Nat → List Dan → Prop
  | _, [] => True
  | o, d :: r => (w.cell? ⟨b, o + 4, none⟩ = some (.int .i64 d.bar) ∧ w.cell? ⟨b, o + 5, none⟩ = some (.bool d.mirror)) ∧ danCore w b (o + 6) r
theorem Ph.ItsC.kept {w w' : World} {p : Ph} (h : p.ItsC w) (hk : ∀ c ∈ p.its.own p.ia, ∀ q v, w.cell? ⟨c, q, none⟩ = some v → w'.cell? ⟨c, q, none⟩ = some v) : p.ItsC w' := by
  refine ⟨h.1, h.2.1, ?_⟩
  by_cases hl : p.its.len = 0
  · rw [Lt.len_zero hl]; trivial
  · exact h.2.2.kept (fun q v _ => hk _ (by unfold Lt.own; simp [hl]) q v) (fun c hc => hk c (by unfold Lt.own; simp [hc]))
theorem phCore_kept {w w' : World} {b : Nat} : ∀ {o : Nat} {ps : List Ph}, phCore w b o ps → (∀ q v, o ≤ q → w.cell? ⟨b, q, none⟩ = some v → w'.cell? ⟨b, q, none⟩ = some v) → (∀ c ∈ phOwn ps, ∀ q v, w.cell? ⟨c, q, none⟩ = some v → w'.cell? ⟨c, q, none⟩ = some v) → phCore w' b o ps
  | _, [], _, _, _ => trivial
  | o, p :: r, ⟨⟨h1, h2, h3⟩, h⟩, hk, hc => ⟨⟨hk _ _ (Nat.le_refl _) h1, hk _ _ (by omega) h2, h3.kept fun c hcm => hc c (by simp [phOwn, hcm])⟩, phCore_kept h (fun q v hq => hk q v (by omega)) fun c hcm => hc c (by unfold phOwn at *; simp [hcm])⟩
theorem danCore_kept {w w' : World} {b : Nat} : ∀ {o : Nat} {ds : List Dan}, danCore w b o ds → (∀ q v, o ≤ q → w.cell? ⟨b, q, none⟩ = some v → w'.cell? ⟨b, q, none⟩ = some v) → danCore w' b o ds
  | _, [], _, _ => trivial
  | o, d :: r, ⟨⟨h3, h4⟩, h⟩, hk => ⟨⟨hk _ _ (by omega) h3, hk _ _ (by omega) h4⟩, danCore_kept h fun q v hq => hk q v (by omega)⟩
theorem phC_set {w : World} {v : Value} {b : Nat} : ∀ {o : Nat} {ps : List Ph} {x : RefL}, b ∉ phOwn ps → (phOwn ps).Nodup → x ∈ phRefs ps → phCore w b o ps → phCore (w.setCell ⟨x.b, x.o, none⟩ v) b o ps
  | _, [], _, _, _, h, _ => by cases h
  | o, p :: r, x, hb, hn, h, ⟨⟨h1, h2, h3⟩, hr⟩ => by
    have hxo := phRefs_own h
    have hbx : b ≠ x.b := fun e => hb (e ▸ hxo)
    have mk : ∀ {c : Nat}, c ≠ x.b → ∀ q u, w.cell? ⟨c, q, none⟩ = some u → (w.setCell ⟨x.b, x.o, none⟩ v).cell? ⟨c, q, none⟩ = some u := fun hc q u hq => cell_set_ne hq (addr_ne (Or.inl fun e => hc e.symm))
    unfold phOwn at hb hn
    rw [List.flatMap_cons] at hb hn
    rw [List.mem_append, not_or] at hb
    obtain ⟨n1, n2, n3⟩ := List.nodup_append.1 hn
    simp only [phRefs, List.mem_append] at h
    refine ⟨⟨mk hbx _ _ h1, mk hbx _ _ h2, ?_⟩, ?_⟩
    · rcases h with h | h
      · have hl : p.its.len ≠ 0 := fun e => by unfold Ph.refsL at h; rw [Lt.len_zero e] at h; cases h
        exact ⟨h3.1, h3.2.1, Lt.core_set (Lt.own_sep n1 hl) h h3.2.2⟩
      · exact h3.kept fun c hc q u => mk (fun e => n3 _ hc _ (phRefs_own h) e) q u
    · rcases h with h | h
      · exact phCore_kept hr (fun q u _ => mk hbx q u) fun c hc q u => mk (fun e => n3 _ (Lt.own_mem h) _ hc e.symm) q u
      · exact phC_set hb.2 n2 h hr
theorem danC_set {w : World} {v : Value} {b : Nat} : ∀ {o : Nat} {ds : List Dan} {x : RefL}, x ∈ danRefs b o ds → danCore w b o ds → danCore (w.setCell ⟨x.b, x.o, none⟩ v) b o ds
  | _, [], _, h, _ => by cases h
  | o, d :: ds, x, h, ⟨⟨h3, h4⟩, hr⟩ => by
    obtain ⟨e, hle, _, hm⟩ := danRefs_mem h
    refine ⟨⟨cell_set_ne h3 (addr_ne (by omega)), cell_set_ne h4 (addr_ne (by omega))⟩, ?_⟩
    simp only [danRefs, List.mem_cons] at h
    rcases h with rfl | rfl | h
    · exact danCore_kept hr fun q u hq hc => cell_set_ne hc (addr_ne (by simp only; omega))
    · exact danCore_kept hr fun q u hq hc => cell_set_ne hc (addr_ne (by simp only; omega))
    · exact danC_set h hr
def Apart2 (xs : List RefL) : Prop := xs.Pairwise fun x y => x.b ≠ y.b ∨ x.o + 2 ≤ y.o ∨ y.o + 2 ≤ x.o
theorem movRefs_apart2 (b : Nat) : ∀ (o : Nat) (ms : List Mov), Apart2 (movRefs b o ms)
  | _, [] => List.Pairwise.nil
  | o, m :: r => List.pairwise_cons.2 ⟨fun y hy => (by have := movRefs_mem hy; simp only; omega), movRefs_apart2 b (o + 12) r⟩
theorem Lt.refsL_apart2 : ∀ {T : Lt} {b : Nat}, T.Sep b → ∀ (o : Nat), Apart2 (T.refsL b o)
  | .nil, _, _, _ => List.Pairwise.nil
  | .cons k n un ia ic its ma mc ms r, b, hs, o => by
    unfold Lt.Sep at hs
    simp only [Lt.blocks, List.nodup_cons, List.mem_append, not_or, List.nodup_append] at hs
    obtain ⟨⟨n1, n2, n3, n4⟩, nm, ⟨ni, ⟨nb, nr, nbr⟩, nib⟩, nmb⟩ := hs
    have hSr : r.Sep b := List.nodup_cons.2 ⟨n4, nr⟩
    have inI : ∀ {y : RefL}, y ∈ its.refsL (blk ia) (off ia) → (y.b = blk ia ∧ blk ia ∈ (if its.len = 0 then [] else [blk ia])) ∨ y.b ∈ its.blocks := fun {y} hy => by
      have hi : its.len ≠ 0 := fun e => by rw [Lt.len_zero e] at hy; cases hy
      rcases refsL_mem hy with ⟨h1, _⟩ | h1
      · exact Or.inl ⟨h1, by simp [hi]⟩
      · exact Or.inr h1
    have inM : ∀ {y : RefL}, y ∈ movRefs (blk ma) (off ma) ms → y.b = blk ma ∧ blk ma ∈ (if ms = [] then [] else [blk ma]) := fun {y} hy => ⟨(movRefs_mem hy).1, by simp [movRefs_ne hy]⟩
    refine List.pairwise_cons.2 ⟨fun y hy => ?_, List.pairwise_append.2 ⟨movRefs_apart2 _ _ _, List.pairwise_append.2 ⟨?_, refsL_apart2 hSr _, fun x hx y hy => ?_⟩, fun x hx y hy => ?_⟩⟩
    · rcases List.mem_append.1 hy with hy | hy
      · obtain ⟨e, hm⟩ := inM hy
        exact Or.inl (fun e2 => n1 (by rw [show b = y.b from e2, e]; exact hm))
      · rcases List.mem_append.1 hy with hy | hy
        · rcases inI hy with ⟨e, hm⟩ | e
          · exact Or.inl (fun e2 => n2 (by rw [show b = y.b from e2, e]; exact hm))
          · exact Or.inl (fun e2 => n3 (by rw [show b = y.b from e2]; exact e))
        · rcases refsL_mem hy with ⟨e, h2⟩ | e
          · exact (by simp only; omega)
          · exact Or.inl (fun e2 => n4 (by rw [show b = y.b from e2]; exact e))
    · by_cases hi : its.len = 0
      · rw [Lt.len_zero hi]; exact List.Pairwise.nil
      · simp only [if_neg hi, List.mem_singleton] at nib
        exact refsL_apart2 (List.nodup_cons.2 ⟨fun hc => nib _ rfl _ (Or.inl hc) rfl, nb⟩) _
    · refine Or.inl fun e2 => ?_
      rcases inI hx with ⟨e, hm⟩ | e <;> rcases refsL_mem hy with ⟨e3, _⟩ | e3
      · exact n2 (by rw [← e3, ← e2, e]; exact hm)
      · exact nib _ hm _ (Or.inr e3) (by rw [← e, e2])
      · exact n3 (by rw [← e3, ← e2]; exact e)
      · exact nbr _ e _ e3 e2
    · refine Or.inl fun e2 => ?_
      obtain ⟨e, hm⟩ := inM hx
      rcases List.mem_append.1 hy with hy | hy
      · rcases inI hy with ⟨e3, hm3⟩ | e3
        · exact nmb _ hm _ (Or.inl hm3) (by rw [← e, e2, e3])
        · exact nmb _ hm _ (Or.inr (Or.inl e3)) (by rw [← e, e2])
      · rcases refsL_mem hy with ⟨e3, _⟩ | e3
        · exact n1 (by rw [← e3, ← e2, e]; exact hm)
        · exact nmb _ hm _ (Or.inr (Or.inr e3)) (by rw [← e, e2])
theorem phRefs_apart2 : ∀ {ps : List Ph}, (phOwn ps).Nodup → Apart2 (phRefs ps)
  | [], _ => List.Pairwise.nil
  | p :: r, hn => by
    unfold phOwn at hn
    rw [List.flatMap_cons] at hn
    obtain ⟨n1, n2, n3⟩ := List.nodup_append.1 hn
    refine List.pairwise_append.2 ⟨?_, phRefs_apart2 n2, fun x hx y hy => Or.inl (fun e => n3 _ (Lt.own_mem hx) _ (phRefs_own hy) e)⟩
    unfold Ph.refsL
    by_cases hl : p.its.len = 0
    · rw [Lt.len_zero hl]; exact List.Pairwise.nil
    · exact Lt.refsL_apart2 (Lt.own_sep n1 hl) _
theorem danRefs_apart2 (b : Nat) : ∀ (o : Nat) (ds : List Dan), Apart2 (danRefs b o ds)
  | _, [] => List.Pairwise.nil
  | o, d :: ds => by
    refine List.pairwise_cons.2 ⟨fun y hy => ?_, List.pairwise_cons.2 ⟨fun y hy => ?_, danRefs_apart2 b (o + 6) ds⟩⟩
    · rcases List.mem_cons.1 hy with rfl | hy
      · exact (by simp only; omega)
      · have := danRefs_mem hy; exact (by simp only; omega)
    · have := danRefs_mem hy; exact (by simp only; omega)
theorem Ls.Sep.apart2 {s : Ls} (h : s.Sep) : Apart2 s.refs :=
  List.pairwise_append.2 ⟨phRefs_apart2 h.own, danRefs_apart2 _ _ _, fun x hx y hy => Or.inl (fun e => by
    obtain ⟨e2, _, e3, _⟩ := danRefs_mem hy
    exact h.da e3 (by rw [← e2, ← e]; exact phRefs_own hx))⟩
end Go.Proofs.Ytpnbpepkoekkoaa
end
section
namespace Go.Proofs.Ytpnbpepkoekkoaa
open Go Go.RowKit
theorem movAt.core {w : World} {b : Nat} : ∀ {o : Nat} {ms : List Mov}, movAt w b o ms → movCore w b o ms
 | _, [], _ => trivial
 | _, _ :: _, ⟨⟨h0, h1, h2, h3, h4, h5, _, h8, h9, h10, h11⟩, h⟩ => ⟨⟨h0, h1, h2, h3, h4, h5, h8, h9, h10, h11⟩, movAt.core h⟩
theorem Lt.At.core {w : World} : ∀ {T : Lt} {b o : Nat}, T.At w b o → T.Core w b o
 | .nil, _, _, _ => trivial
 | .cons _ _ _ _ _ _ _ _ _ _, _, _, ⟨⟨h0, h1, _, h4, h5⟩, ⟨m1, m2, m3⟩, ⟨i1, i2, i3⟩, hr⟩ => ⟨⟨h0, h1, h4, h5⟩, ⟨m1, m2, movAt.core m3⟩, ⟨i1, i2, i3.core⟩, hr.core⟩
theorem movAt_of {w : World} {b : Nat} : ∀ {o : Nat} {ms : List Mov}, movCore w b o ms → NmAt w (movRefs b o ms) → movAt w b o ms
 | _, [], _, _ => trivial
 | o, m :: _, ⟨⟨h0, h1, h2, h3, h4, h5, h8, h9, h10, h11⟩, h⟩, hn => ⟨⟨h0, h1, h2, h3, h4, h5, hn ⟨b, o + 6, movTo m.kind, m.wn⟩ (List.mem_cons_self ..), h8, h9, h10, h11⟩, movAt_of h fun x hx => hn x (List.mem_cons_of_mem _ hx)⟩
theorem Lt.at_of {w : World} : ∀ {T : Lt} {b o : Nat}, T.Core w b o → NmAt w (T.refsL b o) → T.At w b o
 | .nil, _, _, _, _ => trivial
 | .cons k n un ia ic its ma mc ms r, b, o, ⟨⟨h0, h1, h4, h5⟩, ⟨m1, m2, m3⟩, ⟨i1, i2, i3⟩, hr⟩, hn =>
  ⟨⟨h0, h1, hn ⟨b, o + 2, itemTo k, un⟩ (by simp [Lt.refsL]), h4, h5⟩, ⟨m1, m2, movAt_of m3 fun x hx => hn x (by simp [Lt.refsL, hx])⟩, ⟨i1, i2, Lt.at_of i3 fun x hx => hn x (by simp [Lt.refsL, hx])⟩, Lt.at_of hr fun x hx => hn x (by simp [Lt.refsL, hx])⟩
theorem phAt.core {w : World} {b : Nat} : ∀ {o : Nat} {ps : List Ph}, phAt w b o ps → phCore w b o ps
 | _, [], _ => trivial
 | _, _ :: _, ⟨⟨h1, h2, h3⟩, h⟩ => ⟨⟨h1, h2, h3.1, h3.2.1, h3.2.2.core⟩, phAt.core h⟩
theorem phAt_of {w : World} {b : Nat} : ∀ {o : Nat} {ps : List Ph}, phCore w b o ps → NmAt w (phRefs ps) → phAt w b o ps
 | _, [], _, _ => trivial
 | _, _ :: _, ⟨⟨h1, h2, h3⟩, h⟩, hn => ⟨⟨h1, h2, h3.1, h3.2.1, Lt.at_of h3.2.2 fun x hx => hn x (List.mem_append.2 (Or.inl hx))⟩, phAt_of h fun x hx => hn x (List.mem_append.2 (Or.inr hx))⟩
theorem danAt.core {w : World} {b : Nat} : ∀ {o : Nat} {ds : List Dan}, danAt w b o ds → danCore w b o ds
 | _, [], _ => trivial
 | _, _ :: _, ⟨⟨_, _, h3, h4⟩, h⟩ => ⟨⟨h3, h4⟩, danAt.core h⟩
theorem danAt_of {w : World} {b : Nat} : ∀ {o : Nat} {ds : List Dan}, danCore w b o ds → NmAt w (danRefs b o ds) → danAt w b o ds
 | _, [], _, _ => trivial
 | o, d :: _, ⟨⟨h3, h4⟩, h⟩, hn => ⟨⟨hn ⟨b, o, 1, d.rn⟩ (by simp [danRefs]), hn ⟨b, o + 2, 2, d.pn⟩ (by simp [danRefs]), h3, h4⟩, danAt_of h fun x hx => hn x (by simp [danRefs, hx])⟩
def Mov.ren (f : Nat → Nm → Nm) (m : Mov) : Mov := { m with wn := f (movTo m.kind) m.wn }
def Its.ren (f : Nat → Nm → Nm) : Its → Its
 | .nil => .nil
 | .cons k n un its ms r => .cons k n (f (itemTo k) un) (its.ren f) (ms.map (Mov.ren f)) (r.ren f)
def Lt.ren (f : Nat → Nm → Nm) : Lt → Lt
 | .nil => .nil
 | .cons k n un ia ic its ma mc ms r => .cons k n (f (itemTo k) un) ia ic (its.ren f) ma mc (ms.map (Mov.ren f)) (r.ren f)
def RefL.ren (f : Nat → Nm → Nm) (r : RefL) : RefL := { r with nm := f r.to r.nm }
def Dan.ren (f : Nat → Nm → Nm) (d : Dan) : Dan := { d with rn := f 1 d.rn, pn := f 2 d.pn }
def Ph.ren (f : Nat → Nm → Nm) (p : Ph) : Ph := { p with its := p.its.ren f }
theorem Lt.ren_len (f : Nat → Nm → Nm) : ∀ T : Lt, (T.ren f).len = T.len
 | .nil => rfl
 | .cons _ _ _ _ _ _ _ _ _ r => by simp only [Lt.ren, Lt.len, r.ren_len f]
theorem Its.ren_len (f : Nat → Nm → Nm) : ∀ T : Its, (T.ren f).len = T.len
 | .nil => rfl
 | .cons _ _ _ _ _ r => by simp only [Its.ren, Its.len, r.ren_len f]
theorem Its.ren_size (f : Nat → Nm → Nm) : ∀ T : Its, (T.ren f).size = T.size
 | .nil => rfl
 | .cons _ _ _ its _ r => by simp only [Its.ren, Its.size, its.ren_size f, r.ren_size f]
theorem Lt.ren_strip (f : Nat → Nm → Nm) : ∀ T : Lt, (T.ren f).strip = T.strip.ren f
 | .nil => rfl
 | .cons _ _ _ _ _ its _ _ _ r => by simp only [Lt.ren, Lt.strip, Its.ren, its.ren_strip f, r.ren_strip f]
theorem movRefs_ren (f : Nat → Nm → Nm) (b : Nat) : ∀ (o : Nat) (ms : List Mov), movRefs b o (ms.map (Mov.ren f)) = (movRefs b o ms).map (RefL.ren f)
 | _, [] => rfl
 | o, m :: r => by
  simp only [List.map_cons, movRefs, movRefs_ren f b (o + 12) r]
  rfl
theorem Lt.refsL_ren (f : Nat → Nm → Nm) : ∀ (T : Lt) (b o : Nat), (T.ren f).refsL b o = (T.refsL b o).map (RefL.ren f)
 | .nil, _, _ => rfl
 | .cons k n un ia ic its ma mc ms r, b, o => by
  simp only [Lt.ren, Lt.refsL, List.map_cons, List.map_append, movRefs_ren, its.refsL_ren f, r.refsL_ren f]
  rfl
theorem movCore_ren (f : Nat → Nm → Nm) {w : World} {b : Nat} : ∀ {o : Nat} {ms : List Mov}, movCore w b o ms → movCore w b o (ms.map (Mov.ren f))
 | _, [], _ => trivial
 | _, _ :: _, ⟨h1, h⟩ => ⟨h1, movCore_ren f h⟩
theorem Lt.Core.ren (f : Nat → Nm → Nm) {w : World} : ∀ {T : Lt} {b o : Nat}, T.Core w b o → (T.ren f).Core w b o
 | .nil, _, _, _ => trivial
 | .cons k n un ia ic its ma mc ms r, b, o, ⟨⟨h0, h1, h4, h5⟩, ⟨m1, m2, m3⟩, ⟨i1, i2, i3⟩, hr⟩ =>
  ⟨⟨h0, h1, by rw [Lt.ren_len]; exact h4, by rw [List.length_map]; exact h5⟩, ⟨m1.imp (fun h => by rw [h]; rfl) id, by rw [List.length_map]; exact m2, movCore_ren f m3⟩, ⟨by rw [Lt.ren_len]; exact i1, by rw [Lt.ren_len]; exact i2, i3.ren f⟩, hr.ren f⟩
theorem Ph.ren_val (f : Nat → Nm → Nm) (p : Ph) : (p.ren f).val = p.val := by
 unfold Ph.val Ph.ren
 simp only [Lt.ren_len]
theorem phCore_ren (f : Nat → Nm → Nm) {w : World} {b : Nat} : ∀ {o : Nat} {ps : List Ph}, phCore w b o ps → phCore w b o (ps.map (Ph.ren f))
 | _, [], _ => trivial
 | _, p :: _, ⟨⟨h1, h2, h3⟩, h⟩ => ⟨⟨h1, by rw [Ph.ren_val]; exact h2, by
  refine ⟨?_, ?_, h3.2.2.ren f⟩
  ·show (p.its.ren f).len = 0 ∨ _
   rw [Lt.ren_len]; exact h3.1
  ·show (p.its.ren f).len ≤ _
   rw [Lt.ren_len]; exact h3.2.1⟩, phCore_ren f h⟩
theorem danCore_ren (f : Nat → Nm → Nm) {w : World} {b : Nat} : ∀ {o : Nat} {ds : List Dan}, danCore w b o ds → danCore w b o (ds.map (Dan.ren f))
 | _, [], _ => trivial
 | _, _ :: _, ⟨h1, h⟩ => ⟨h1, danCore_ren f h⟩
theorem phRefs_ren (f : Nat → Nm → Nm) : ∀ ps : List Ph, phRefs (ps.map (Ph.ren f)) = (phRefs ps).map (RefL.ren f)
 | [] => rfl
 | p :: r => by
  simp only [List.map_cons, phRefs, List.map_append, phRefs_ren f r]
  congr 1
  exact p.its.refsL_ren f _ _
theorem danRefs_ren (f : Nat → Nm → Nm) (b : Nat) : ∀ (o : Nat) (ds : List Dan), danRefs b o (ds.map (Dan.ren f)) = (danRefs b o ds).map (RefL.ren f)
 | _, [] => rfl
 | o, d :: r => by
  simp only [List.map_cons, danRefs, danRefs_ren f b (o + 6) r]
  rfl
def Ls.ren (f : Nat → Nm → Nm) (s : Ls) : Ls := { s with phrases := s.phrases.map (Ph.ren f), dances := s.dances.map (Dan.ren f) }
theorem Ls.ren_refs (f : Nat → Nm → Nm) (s : Ls) : (s.ren f).refs = s.refs.map (RefL.ren f) := by
 unfold Ls.refs Ls.ren
 simp only [phRefs_ren, danRefs_ren, List.map_append]
theorem NsAt_ren (f : Nat → Nm → Nm) {w : World} : ∀ {xs : List RefL} {ns : List Int}, NsAt w xs ns → NsAt w (xs.map (RefL.ren f)) ns
 | [], [], _ => trivial
 | _ :: _, _ :: _, ⟨h1, h2⟩ => ⟨h1, NsAt_ren f h2⟩
theorem ren_at {f : Nat → Nm → Nm} {z : Ls} {w : World} (h0 : IsRow encR 4 w (.slice z.ra z.roles.length z.rc) z.roles ∧ IsRow encT 3 w (.slice z.ta z.tempos.length z.tc) z.tempos ∧ IsRow encP 4 w (.slice z.ua z.pauses.length z.uc) z.pauses ∧ IsRow encC 4 w (.slice z.sa z.spans.length z.sc) z.spans)
  (h1 : z.phrases = [] ∨ z.fa = some ⟨blk z.fa, off z.fa, none⟩) (h2 : z.phrases.length ≤ maxLen) (h3 : z.dances = [] ∨ z.da = some ⟨blk z.da, off z.da, none⟩) (h4 : z.dances.length ≤ maxLen)
  (hp : phCore w (blk z.fa) (off z.fa) z.phrases) (hd : danCore w (blk z.da) (off z.da) z.dances) (hn : NmAt w (z.refs.map (RefL.ren f))) : (z.ren f).At w := by
 rw [← Ls.ren_refs] at hn
 refine ⟨h0.1, h0.2.1, h0.2.2.1, h0.2.2.2, ?_, by show (z.phrases.map _).length ≤ _; rw [List.length_map]; exact h2, phAt_of (phCore_ren f hp) fun x hx => hn x (List.mem_append.2 (Or.inl hx)), ?_, by show (z.dances.map _).length ≤ _; rw [List.length_map]; exact h4, danAt_of (danCore_ren f hd) fun x hx => hn x (List.mem_append.2 (Or.inr hx))⟩
 ·rcases h1 with h | h
  ·left; show z.phrases.map _ = []; rw [h]; rfl
  ·exact Or.inr h
 ·rcases h3 with h | h
  ·left; show z.dances.map _ = []; rw [h]; rfl
  ·exact Or.inr h
end Go.Proofs.Ytpnbpepkoekkoaa
end
