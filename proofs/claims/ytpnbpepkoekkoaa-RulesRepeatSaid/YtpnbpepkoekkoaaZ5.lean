/- Contracts and plain laws on the way to the statement: part 5. -/
import Derived.Test.YtpnbpepkoekkoaaZ1
import Derived.WalkKit
import Derived.Deep.Draws
import Derived.Lib.Hide
import Derived.Test.YtpnbpepkoekkoaaZ3
set_option linter.unusedVariables false
set_option linter.unusedSimpArgs false
set_option maxRecDepth 100000
set_option maxHeartbeats 16000000
namespace Go.Proofs.Ytpnbpepkoekkoaa
open Go.Value (int)
open Go.IntKind (i64)
section
open Go Go.RowKit
abbrev sv (s : Nm) : Value := .string ⟨s.toArray⟩
theorem OS {a b : Nm} (h : sv a = sv b) : a = b := by
  unfold sv at h; injection h with h; injection h with h; exact Array.toList_inj.2 h
def blk : Option Addr → Nat | some a => a.block | none => 0
def off : Option Addr → Nat | some a => a.off | none => 0
def ad (b o : Nat) : Addr := ⟨b, o, none⟩
inductive Lt where
  | nil
  | cons (kind n : Int) (un : Nm) (ia : Option Addr) (ic : Nat) (its : Lt) (ma : Option Addr) (mc : Nat) (ms : List Mov) (rest : Lt)
def Lt.len : Lt → Nat
  | .nil => 0
  | .cons _ _ _ _ _ _ _ _ _ r => r.len + 1
def Lt.strip : Lt → Its
  | .nil => .nil
  | .cons k n un _ _ its _ _ ms r => .cons k n un its.strip ms r.strip
def Lt.size : Lt → Nat
  | .nil => 0
  | .cons _ _ _ _ _ its _ _ _ r => its.size + r.size + 1
theorem Lt.strip_len : ∀ T : Lt, T.strip.len = T.len
  | .nil => rfl
  | .cons _ _ _ _ _ _ _ _ _ r => by simp [Lt.strip, Its.len, Lt.len, r.strip_len]
structure RefL where
  b : Nat
  o : Nat
  to : Nat
  nm : Nm
def RefL.key (x : RefL) : Nat × Nm := (x.to, x.nm)
def Aw (b : Nat) : Nat → List Mov → List RefL
  | _, [] => []
  | o, m :: r => ⟨b, o + 6, Cw m.kind, m.wn⟩ :: Aw b (o + 12) r
def Lt.refsL : Lt → Nat → Nat → List RefL
  | .nil, _, _ => []
  | .cons k _ un ia _ its ma _ ms r, b, o => ⟨b, o + 2, Bh k, un⟩ :: (Aw (blk ma) (off ma) ms ++ (its.refsL (blk ia) (off ia) ++ r.refsL b (o + 6)))
theorem EI (b : Nat) : ∀ (o : Nat) (ms : List Mov), (Aw b o ms).map RefL.key = ms.map fun m => (Cw m.kind, m.wn)
  | _, [] => rfl
  | o, m :: r => by simp [Aw, RefL.key, EI b (o + 12) r]
theorem Lt.refsL_key : ∀ (T : Lt) (b o : Nat), (T.refsL b o).map RefL.key = T.strip.refs
  | .nil, _, _ => rfl
  | .cons k n un ia ic its ma mc ms r, b, o => by
    simp [Lt.refsL, Lt.strip, Its.refs, EI, its.refsL_key, r.refsL_key, RefL.key]
def Bc (w : World) (b : Nat) : Nat → List Mov → Prop
  | _, [] => True
  | o, m :: r => (w.cell? ⟨b, o, none⟩ = some (int i64 m.mark) ∧ w.cell? ⟨b, o + 1, none⟩ = some (int i64 m.kind) ∧ w.cell? ⟨b, o + 2, none⟩ = some (int i64 m.side) ∧ w.cell? ⟨b, o + 3, none⟩ = some (int i64 m.dir) ∧ w.cell? ⟨b, o + 4, none⟩ = some (int i64 m.level) ∧ w.cell? ⟨b, o + 5, none⟩ = some (int i64 m.size) ∧ w.cell? ⟨b, o + 6, none⟩ = some (sv m.wn) ∧
      w.cell? ⟨b, o + 8, none⟩ = some (int i64 m.fa) ∧ w.cell? ⟨b, o + 9, none⟩ = some (int i64 m.fb) ∧ w.cell? ⟨b, o + 10, none⟩ = some (int i64 m.ta) ∧ w.cell? ⟨b, o + 11, none⟩ = some (int i64 m.tb)) ∧ Bc w b (o + 12) r
def Lt.At (w : World) : Lt → Nat → Nat → Prop
  | .nil, _, _ => True
  | .cons k n un ia ic its ma mc ms r, b, o =>
    (w.cell? ⟨b, o, none⟩ = some (int i64 k) ∧ w.cell? ⟨b, o + 1, none⟩ = some (int i64 n) ∧ w.cell? ⟨b, o + 2, none⟩ = some (sv un) ∧ w.cell? ⟨b, o + 4, none⟩ = some (.slice ia its.len ic) ∧ w.cell? ⟨b, o + 5, none⟩ = some (.slice ma ms.length mc)) ∧
    ((ms = [] ∨ ma = some ⟨blk ma, off ma, none⟩) ∧ ms.length ≤ maxLen ∧ Bc w (blk ma) (off ma) ms) ∧
    ((its.len = 0 ∨ ia = some ⟨blk ia, off ia, none⟩) ∧ its.len ≤ maxLen ∧ its.At w (blk ia) (off ia)) ∧ r.At w b (o + 6)
def NsAt (w : World) : List RefL → List Int → Prop
  | [], [] => True
  | x :: xs, n :: ns => w.cell? ⟨x.b, x.o + 1, none⟩ = some (int i64 n) ∧ NsAt w xs ns
  | _, _ => False
theorem BB {w w' : World} {b : Nat} : ∀ {o : Nat} {ms : List Mov}, Bc w b o ms → (∀ q v, o ≤ q → w.cell? ⟨b, q, none⟩ = some v → w'.cell? ⟨b, q, none⟩ = some v) → Bc w' b o ms
  | _, [], _, _ => trivial
  | o, m :: r, ⟨⟨h0, h1, h2, h3, h4, h5, h6, h8, h9, h10, h11⟩, h⟩, hk =>
    ⟨⟨hk _ _ (qn _) h0, hk _ _ (by omega) h1, hk _ _ (by omega) h2, hk _ _ (by omega) h3, hk _ _ (by omega) h4, hk _ _ (by omega) h5, hk _ _ (by omega) h6, hk _ _ (by omega) h8, hk _ _ (by omega) h9, hk _ _ (by omega) h10, hk _ _ (by omega) h11⟩,
     BB h fun q v hq => hk q v (by omega)⟩
def Lt.blocks : Lt → List Nat
  | .nil => []
  | .cons _ _ _ ia _ its ma _ ms r => (if ms = [] then [] else [blk ma]) ++ ((if its.len = 0 then [] else [blk ia]) ++ (its.blocks ++ r.blocks))
theorem Lt.len_zero {T : Lt} (h : T.len = 0) : T = .nil := by
  cases T with
  | nil => rfl
  | cons => simp [Lt.len] at h
theorem Lt.At.kept {w w' : World} : ∀ {T : Lt} {b o : Nat}, T.At w b o → (∀ q v, o ≤ q → w.cell? ⟨b, q, none⟩ = some v → w'.cell? ⟨b, q, none⟩ = some v) → (∀ c ∈ T.blocks, ∀ q v, w.cell? ⟨c, q, none⟩ = some v → w'.cell? ⟨c, q, none⟩ = some v) → T.At w' b o
  | .nil, _, _, _, _, _ => trivial
  | .cons k n un ia ic its ma mc ms r, b, o, ⟨⟨h0, h1, h2, h4, h5⟩, ⟨m1, m2, m3⟩, ⟨i1, i2, i3⟩, hr⟩, hk, hc => by
    refine ⟨⟨hk _ _ (qn _) h0, hk _ _ (by omega) h1, hk _ _ (by omega) h2, hk _ _ (by omega) h4, hk _ _ (by omega) h5⟩, ⟨m1, m2, ?_⟩, ⟨i1, i2, ?_⟩, kept hr (fun q v hq => hk q v (by omega)) (fun c hcm => hc c (by simp [Lt.blocks, hcm]))⟩
    · by_cases hm : ms = []
      · subst hm; trivial
      · exact BB m3 fun q v _ => hc _ (by simp [Lt.blocks, hm]) q v
    · by_cases hi : its.len = 0
      · rw [Lt.len_zero hi]; trivial
      · exact kept i3 (fun q v _ => hc _ (by simp [Lt.blocks, hi]) q v) (fun c hcm => hc c (by simp [Lt.blocks, hcm]))
theorem BT {w : World} {a : Addr} {v : Value} (h : w.cell? a = some v) : a.block < w.heap.size := by
  rcases Nat.lt_or_ge a.block w.heap.size with h1 | h1
  · exact h1
  · unfold World.cell? at h; simp [Array.getElem?_eq_none h1] at h
theorem Ae {w w' : World} (hb : Below w.heap.size w w') {a : Addr} {v : Value} (h : w.cell? a = some v) : w'.cell? a = some v := (hb.cell (BT h)).trans h
theorem Lt.At.below {w w' : World} {T : Lt} {b o : Nat} (h : T.At w b o) (hb : Below w.heap.size w w') : T.At w' b o :=
  h.kept (fun _ _ _ h => Ae hb h) (fun _ _ _ _ h => Ae hb h)
theorem Cv {w w' : World} {b o : Nat} {ms : List Mov} (h : Bc w b o ms) (hb : Below w.heap.size w w') : Bc w' b o ms := BB h fun _ _ _ h => Ae hb h
theorem NsAt.kept {w w' : World} : ∀ {xs : List RefL} {ns : List Int}, NsAt w xs ns → (∀ x ∈ xs, ∀ v, w.cell? ⟨x.b, x.o + 1, none⟩ = some v → w'.cell? ⟨x.b, x.o + 1, none⟩ = some v) → NsAt w' xs ns
  | [], [], _, _ => trivial
  | x :: xs, n :: ns, ⟨h1, h2⟩, hk => ⟨hk x (by simp) _ h1, h2.kept fun y hy => hk y (by simp [hy])⟩
theorem NsAt.below {w w' : World} {xs : List RefL} {ns : List Int} (h : NsAt w xs ns) (hb : Below w.heap.size w w') : NsAt w' xs ns := h.kept fun _ _ _ h => Ae hb h
theorem NsAt.append {w : World} : ∀ {xs ys : List RefL} {ns ks : List Int}, NsAt w xs ns → NsAt w ys ks → NsAt w (xs ++ ys) (ns ++ ks)
  | [], _, [], _, _, h => h
  | _ :: _, _, _ :: _, _, ⟨h1, h2⟩, h => ⟨h1, h2.append h⟩
theorem NsAt.len {w : World} : ∀ {xs : List RefL} {ns : List Int}, NsAt w xs ns → ns.length = xs.length
  | [], [], _ => rfl
  | _ :: _, _ :: _, ⟨_, h⟩ => by simp [h.len]
theorem NsAt.split {w : World} : ∀ {xs ys : List RefL} {ns : List Int}, NsAt w (xs ++ ys) ns → ∃ ks ls, ns = ks ++ ls ∧ NsAt w xs ks ∧ NsAt w ys ls
  | [], _, ns, h => ⟨[], ns, rfl, trivial, h⟩
  | x :: xs, ys, [], h => h.elim
  | x :: xs, ys, n :: ns, ⟨h1, h2⟩ => by
    obtain ⟨ks, ls, rfl, h3, h4⟩ := NsAt.split (xs := xs) h2; exact ⟨n :: ks, ls, rfl, ⟨h1, h3⟩, h4⟩
def Lt.Sep (T : Lt) (b : Nat) : Prop := (b :: T.blocks).Nodup
theorem Be {b : Nat} : ∀ {o : Nat} {ms : List Mov} {x : RefL}, x ∈ Aw b o ms → x.b = b ∧ o + 6 ≤ x.o
  | _, [], _, h => by cases h
  | o, m :: r, x, h => by
    rcases List.mem_cons.1 h with rfl | h
    · exact ⟨rfl, qn _⟩
    · have := Be h; omega
theorem Co {b : Nat} {o : Nat} {ms : List Mov} {x : RefL} (h : x ∈ Aw b o ms) : ms ≠ [] := by
  rintro rfl; cases h
theorem Lt.refsL_mem : ∀ {T : Lt} {b o : Nat} {x : RefL}, x ∈ T.refsL b o → (x.b = b ∧ o + 2 ≤ x.o) ∨ x.b ∈ T.blocks
  | .nil, _, _, _, h => by cases h
  | .cons k n un ia ic its ma mc ms r, b, o, x, h => by
    simp only [Lt.refsL, List.mem_cons, List.mem_append] at h; rcases h with rfl | h | h | h
    · exact Or.inl ⟨rfl, qn _⟩
    · obtain ⟨h1, _⟩ := Be h
      exact Or.inr (by rw [h1]; simp [Lt.blocks, Co h])
    · have hi : its.len ≠ 0 := fun e => by rw [Lt.len_zero e] at h; cases h
      rcases refsL_mem h with ⟨h1, _⟩ | h1
      · exact Or.inr (by rw [h1]; simp [Lt.blocks, hi])
      · exact Or.inr (by simp [Lt.blocks, h1])
    · rcases refsL_mem h with ⟨h1, h2⟩ | h1
      · exact Or.inl ⟨h1, by omega⟩
      · exact Or.inr (by simp [Lt.blocks, h1])
theorem Ad {w : World} {a c : Addr} {v u : Value} (h : w.cell? c = some u) (hne : a ≠ c) : (w.setCell a v).cell? c = some u := (World.cell?_setCell_other _ _ _ _ hne).trans h
theorem Av {b o b' o' : Nat} (h : b ≠ b' ∨ o ≠ o') : (⟨b, o, none⟩ : Addr) ≠ ⟨b', o', none⟩ := fun e => by injection e with e1 e2; omega
theorem G8 {w : World} {b : Nat} {v : Value} : ∀ {o : Nat} {ms : List Mov} {x : RefL}, x ∈ Aw b o ms → Bc w b o ms → Bc (w.setCell ⟨x.b, x.o + 1, none⟩ v) b o ms
  | _, [], _, h, _ => by cases h
  | o, m :: r, x, h, ⟨⟨h0, h1, h2, h3, h4, h5, h6, h8, h9, h10, h11⟩, hr⟩ => by
    rcases List.mem_cons.1 h with rfl | h
    · refine ⟨⟨Ad h0 ?_, Ad h1 ?_, Ad h2 ?_, Ad h3 ?_, Ad h4 ?_, Ad h5 ?_, Ad h6 ?_, Ad h8 ?_, Ad h9 ?_, Ad h10 ?_, Ad h11 ?_⟩, BB hr fun q u hq hc => Ad hc (Av (by simp only; omega))⟩ <;> exact Av (by simp only; omega)
    · have hx := Be h
      refine ⟨⟨Ad h0 ?_, Ad h1 ?_, Ad h2 ?_, Ad h3 ?_, Ad h4 ?_, Ad h5 ?_, Ad h6 ?_, Ad h8 ?_, Ad h9 ?_, Ad h10 ?_, Ad h11 ?_⟩, G8 h hr⟩ <;> exact Av (by omega)
theorem Lt.at_set {w : World} {v : Value} : ∀ {T : Lt} {b o : Nat} {x : RefL}, T.Sep b → x ∈ T.refsL b o → T.At w b o → T.At (w.setCell ⟨x.b, x.o + 1, none⟩ v) b o
  | .nil, _, _, _, _, h, _ => by cases h
  | .cons k n un ia ic its ma mc ms r, b, o, x, hs, h, ⟨⟨h0, h1, h2, h4, h5⟩, ⟨m1, m2, m3⟩, ⟨i1, i2, i3⟩, hr⟩ => by
    have hs' := hs; unfold Lt.Sep at hs; simp only [Lt.blocks, List.nodup_cons, List.mem_append, not_or, List.nodup_append] at hs; obtain ⟨⟨n1, n2, n3, n4⟩, nm, ⟨ni, ⟨nb, nr, nbr⟩, nib⟩, nmb⟩ := hs; have hSr : r.Sep b := List.nodup_cons.2 ⟨n4, nr⟩; simp only [Lt.refsL, List.mem_cons, List.mem_append] at h; have mk : ∀ {c : Nat}, (c = x.b → False) → ∀ q u, w.cell? ⟨c, q, none⟩ = some u → (w.setCell ⟨x.b, x.o + 1, none⟩ v).cell? ⟨c, q, none⟩ = some u := fun hc q u hq => Ad hq (Av (Or.inl fun e => hc e.symm))
    have hmk : (ms = [] ∨ blk ma ≠ x.b) → Bc (w.setCell ⟨x.b, x.o + 1, none⟩ v) (blk ma) (off ma) ms := fun hc => by
      rcases hc with rfl | hc
      · trivial
      · exact BB m3 fun q u _ => mk hc q u
    have hik : (its.len = 0 ∨ (blk ia ≠ x.b ∧ x.b ∉ its.blocks)) → its.At (w.setCell ⟨x.b, x.o + 1, none⟩ v) (blk ia) (off ia) := fun hc => by
      rcases hc with hc | ⟨hc, hd⟩
      · rw [Lt.len_zero hc]; trivial
      · exact i3.kept (fun q u _ => mk hc q u) fun c hcm => mk fun e => hd (e ▸ hcm)
    rcases h with rfl | h | h | h
    · refine ⟨⟨Ad h0 ?_, Ad h1 ?_, Ad h2 ?_, Ad h4 ?_, Ad h5 ?_⟩, ⟨m1, m2, hmk ?_⟩, ⟨i1, i2, hik ?_⟩, hr.kept (fun q u hq hc => Ad hc (Av (by simp only; omega))) fun c hcm => mk fun e => n4 (by rw [show b = c from e.symm]; exact hcm)⟩
      iterate 5 exact Av (by simp only; omega)
      · by_cases hm : ms = []
        · exact Or.inl hm
        · right; rintro (rfl : blk ma = b); simp [hm] at n1
      · by_cases hi : its.len = 0
        · exact Or.inl hi
        · right; refine ⟨?_, n3⟩; rintro (rfl : blk ia = b); simp [hi] at n2
    · obtain ⟨e, _⟩ := Be h
      have hm := Co h; simp only [if_neg hm, List.mem_singleton] at n1 nmb; have hxb : b ≠ x.b := by rw [e]; exact n1
      refine ⟨⟨Ad h0 ?_, Ad h1 ?_, Ad h2 ?_, Ad h4 ?_, Ad h5 ?_⟩, ⟨m1, m2, G8 h m3⟩, ⟨i1, i2, hik ?_⟩, hr.kept (fun q u _ => mk hxb q u) fun c hcm => mk fun e2 => nmb _ rfl _ (Or.inr (Or.inr hcm)) (by rw [← e, ← e2])⟩
      iterate 5 exact Av (by omega)
      · by_cases hi : its.len = 0
        · exact Or.inl hi
        · right
          simp only [if_neg hi, List.mem_singleton] at nmb; exact ⟨fun e2 => nmb _ rfl _ (Or.inl rfl) (by rw [← e, e2]), fun hc => nmb _ rfl _ (Or.inr (Or.inl hc)) (by rw [← e])⟩
    · have hi : its.len ≠ 0 := fun e => by rw [Lt.len_zero e] at h; cases h
      simp only [if_neg hi, List.mem_singleton] at n2 nib nmb ni; have hSi : its.Sep (blk ia) := List.nodup_cons.2 ⟨fun hc => nib _ rfl _ (Or.inl hc) rfl, nb⟩
      have hin : x.b = blk ia ∨ x.b ∈ its.blocks := by
        rcases refsL_mem h with ⟨h1, _⟩ | h1
        · exact Or.inl h1
        · exact Or.inr h1
      have hxb : b ≠ x.b := by
        rcases hin with e | e
        · rw [e]; exact n2
        · intro e2; exact n3 (e2 ▸ e)
      have hxr : x.b ∉ r.blocks := by
        rcases hin with e | e
        · rw [e]; intro hc; exact nib _ rfl _ (Or.inr hc) rfl
        · intro hc; exact nbr _ e _ hc rfl
      refine ⟨⟨Ad h0 ?_, Ad h1 ?_, Ad h2 ?_, Ad h4 ?_, Ad h5 ?_⟩, ⟨m1, m2, hmk ?_⟩, ⟨i1, i2, at_set hSi h i3⟩, hr.kept (fun q u _ => mk hxb q u) fun c hcm => mk fun e2 => hxr (e2 ▸ hcm)⟩
      iterate 5 exact Av (by omega)
      · by_cases hm : ms = []
        · exact Or.inl hm
        · right
          simp only [if_neg hm, List.mem_singleton] at nmb; intro e2; rcases hin with e | e
          · exact nmb _ rfl _ (Or.inl rfl) (by rw [e2, e])
          · exact nmb _ rfl _ (Or.inr (Or.inl e)) e2
    · have hin := refsL_mem h
      have h5' : x.b = b → o + 8 ≤ x.o := fun e => by
        rcases hin with ⟨_, h2⟩ | h1
        · omega
        · exact absurd h1 (e ▸ n4)
      refine ⟨⟨Ad h0 ?_, Ad h1 ?_, Ad h2 ?_, Ad h4 ?_, Ad h5 ?_⟩, ⟨m1, m2, hmk ?_⟩, ⟨i1, i2, hik ?_⟩, at_set hSr h hr⟩
      iterate 5 exact Av (by omega)
      · by_cases hm : ms = []
        · exact Or.inl hm
        · right
          simp only [if_neg hm, List.mem_singleton] at n1 nmb; intro e2; rcases hin with ⟨e, _⟩ | e
          · exact n1 (by rw [e2, e])
          · exact nmb _ rfl _ (Or.inr (Or.inr e)) e2
      · by_cases hi : its.len = 0
        · exact Or.inl hi
        · right
          simp only [if_neg hi, List.mem_singleton] at n2 nib; rcases hin with ⟨e, _⟩ | e
          · exact ⟨fun e2 => n2 (by rw [e2, e]), fun hc => n3 (e ▸ hc)⟩
          · exact ⟨fun e2 => nib _ rfl _ (Or.inr e) e2, fun hc => nbr _ hc _ e rfl⟩
def Bz (xs : List RefL) : Prop := xs.Pairwise fun x y => (⟨x.b, x.o + 1, none⟩ : Addr) ≠ ⟨y.b, y.o + 1, none⟩
theorem DL (b : Nat) : ∀ (o : Nat) (ms : List Mov), Bz (Aw b o ms)
  | _, [] => List.Pairwise.nil
  | o, m :: r => List.pairwise_cons.2 ⟨fun y hy => Av (by have := Be hy; simp only; omega), DL b (o + 12) r⟩
theorem Lt.refsL_apart : ∀ {T : Lt} {b : Nat}, T.Sep b → ∀ (o : Nat), Bz (T.refsL b o)
  | .nil, _, _, _ => List.Pairwise.nil
  | .cons k n un ia ic its ma mc ms r, b, hs, o => by
    unfold Lt.Sep at hs; simp only [Lt.blocks, List.nodup_cons, List.mem_append, not_or, List.nodup_append] at hs; obtain ⟨⟨n1, n2, n3, n4⟩, nm, ⟨ni, ⟨nb, nr, nbr⟩, nib⟩, nmb⟩ := hs; have hSr : r.Sep b := List.nodup_cons.2 ⟨n4, nr⟩
    have inI : ∀ {y : RefL}, y ∈ its.refsL (blk ia) (off ia) → (y.b = blk ia ∧ blk ia ∈ (if its.len = 0 then [] else [blk ia])) ∨ y.b ∈ its.blocks := fun {y} hy => by
      have hi : its.len ≠ 0 := fun e => by rw [Lt.len_zero e] at hy; cases hy
      rcases refsL_mem hy with ⟨h1, _⟩ | h1
      · exact Or.inl ⟨h1, by simp [hi]⟩
      · exact Or.inr h1
    have inM : ∀ {y : RefL}, y ∈ Aw (blk ma) (off ma) ms → y.b = blk ma ∧ blk ma ∈ (if ms = [] then [] else [blk ma]) := fun {y} hy => ⟨(Be hy).1, by simp [Co hy]⟩
    refine List.pairwise_cons.2 ⟨fun y hy => ?_, List.pairwise_append.2 ⟨DL _ _ _, List.pairwise_append.2 ⟨?_, refsL_apart hSr _, fun x hx y hy => ?_⟩, fun x hx y hy => ?_⟩⟩
    · rcases List.mem_append.1 hy with hy | hy
      · obtain ⟨e, hm⟩ := inM hy
        exact Av (Or.inl fun e2 => n1 (by rw [show b = y.b from e2, e]; exact hm))
      · rcases List.mem_append.1 hy with hy | hy
        · rcases inI hy with ⟨e, hm⟩ | e
          · exact Av (Or.inl fun e2 => n2 (by rw [show b = y.b from e2, e]; exact hm))
          · exact Av (Or.inl fun e2 => n3 (by rw [show b = y.b from e2]; exact e))
        · rcases refsL_mem hy with ⟨e, h2⟩ | e
          · exact Av (by simp only; omega)
          · exact Av (Or.inl fun e2 => n4 (by rw [show b = y.b from e2]; exact e))
    · by_cases hi : its.len = 0
      · rw [Lt.len_zero hi]; exact List.Pairwise.nil
      · simp only [if_neg hi, List.mem_singleton] at nib
        exact refsL_apart (List.nodup_cons.2 ⟨fun hc => nib _ rfl _ (Or.inl hc) rfl, nb⟩) _
    · refine Av (Or.inl fun e2 => ?_)
      rcases inI hx with ⟨e, hm⟩ | e <;> rcases refsL_mem hy with ⟨e3, _⟩ | e3
      · exact n2 (by rw [← e3, ← e2, e]; exact hm)
      · exact nib _ hm _ (Or.inr e3) (by rw [← e, e2])
      · exact n3 (by rw [← e3, ← e2]; exact e)
      · exact nbr _ e _ e3 e2
    · refine Av (Or.inl fun e2 => ?_)
      obtain ⟨e, hm⟩ := inM hx; rcases List.mem_append.1 hy with hy | hy
      · rcases inI hy with ⟨e3, hm3⟩ | e3
        · exact nmb _ hm _ (Or.inl hm3) (by rw [← e, e2, e3])
        · exact nmb _ hm _ (Or.inr (Or.inl e3)) (by rw [← e, e2])
      · rcases refsL_mem hy with ⟨e3, _⟩ | e3
        · exact n1 (by rw [← e3, ← e2, e]; exact hm)
        · exact nmb _ hm _ (Or.inr (Or.inr e3)) (by rw [← e, e2])
theorem NsAt.set {w : World} {n : Int} : ∀ {xs ys : List RefL} {x : RefL} {ns ks : List Int} {m : Int}, Bz (xs ++ x :: ys) → NsAt w xs ns → NsAt w (x :: ys) (m :: ks) →
    NsAt (w.setCell ⟨x.b, x.o + 1, none⟩ (int i64 n)) xs ns ∧ NsAt (w.setCell ⟨x.b, x.o + 1, none⟩ (int i64 n)) (x :: ys) (n :: ks)
  | xs, ys, x, ns, ks, m, hp, h1, ⟨h2, h3⟩ => by
    obtain ⟨_, hp2, hp3⟩ := List.pairwise_append.1 hp; obtain ⟨hp4, _⟩ := List.pairwise_cons.1 hp2; exact ⟨h1.kept fun y hy v hv => Ad hv fun e => hp3 y hy x (by simp) e.symm, World.cell?_setCell_same _ _ _ h2, h3.kept fun y hy v hv => Ad hv (hp4 y hy)⟩
end
end Go.Proofs.Ytpnbpepkoekkoaa
