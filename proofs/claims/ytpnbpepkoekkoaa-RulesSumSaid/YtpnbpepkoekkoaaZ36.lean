/- Contracts and plain laws on the way to the statement: part 36. -/
import Derived.Test.YtpnbpepkoekkoaaZ14
import Derived.Test.YtpnbpepkoekkoaaZ34
import Derived.Test.YtpnbpepkoekkoaaZ35
import Derived.Test.YtpnbpepkoekkoaaZ2
set_option linter.unusedVariables false
set_option linter.unusedSimpArgs false
section
namespace Go.Proofs.Ytpnbpepkoekkoaa
open Go Go.RowKit Go.Deep
def Shape (W : World) (g : Nat) (t : TypeId) (sz : Nat) : Prop := ∃ cur, W.heap[g]? = some (.cells cur t (0, 0)) ∧ cur.size = sz
theorem Shape.same {W W' : World} {g : Nat} {t : TypeId} {sz : Nat} (h : Shape W g t sz) (hb : W'.heap[g]? = W.heap[g]?) : Shape W' g t sz := by
 obtain ⟨cur, h1, h2⟩ := h; exact ⟨cur, hb.trans h1, h2⟩
theorem Shape.lt {W : World} {g : Nat} {t : TypeId} {sz : Nat} (h : Shape W g t sz) : g < W.heap.size := by
 obtain ⟨cur, h1, h2⟩ := h; exact (Array.getElem?_eq_some_iff.1 h1).1
theorem Shape.below {W W' : World} {g : Nat} {t : TypeId} {sz : Nat} (h : Shape W g t sz) (hb : Below W.heap.size W W') : Shape W' g t sz := h.same (hb.block _ h.lt)
theorem Shape.but {W W' : World} {g X : Nat} {t : TypeId} {sz : Nat} (h : Shape W g t sz) (hb : ButOne X W W') (hX : g ≠ X) : Shape W' g t sz := h.same (hb.block _ h.lt hX)
theorem Shape.set {W : World} {g : Nat} {t : TypeId} {sz : Nat} (h : Shape W g t sz) (b j : Nat) (v : Value) : Shape (W.setCell ⟨b, j, none⟩ v) g t sz := by
 obtain ⟨cur, h1, h2⟩ := h
 by_cases e : b = g
 ·subst e
  refine ⟨cur.setIfInBounds j v, ?_, by simpa using h2⟩
  simp only [World.setCell, Array.getElem?_modify, h1, if_true, Option.map_some]; rfl
 ·exact ⟨cur, (Below.heap_setCell _ _ _ _ (fun e2 => e e2.symm)).trans h1, h2⟩
theorem Shape.free {W : World} {g : Nat} {t : TypeId} {sz : Nat} (h : Shape W g t sz) : FreeB W g := by
 obtain ⟨cur, h1, h2⟩ := h; exact ⟨cur, t, h1⟩
end Go.Proofs.Ytpnbpepkoekkoaa
end
section
namespace Go.Proofs.Ytpnbpepkoekkoaa
open Go Go.RowKit Go.Deep
section
variable {α : Type} {enc : α → List Value} {k : Nat}
theorem flat_get (hk : ∀ x, (enc x).length = k) : ∀ {xs : List α} {j : Nat} {u : Value}, (xs.flatMap enc)[j]? = some u → ∃ i x r, xs[i]? = some x ∧ (enc x)[r]? = some u ∧ j = i * k + r ∧ r < k
 | [], j, u, h => by simp at h
 | x :: xs, j, u, h => by
  simp only [List.flatMap_cons] at h
  rcases Nat.lt_or_ge j k with hj | hj
  ·rw [List.getElem?_append_left (by rw [hk]; exact hj)] at h
   exact ⟨0, x, j, rfl, h, by omega, hj⟩
  ·rw [List.getElem?_append_right (by rw [hk]; exact hj), hk] at h
   obtain ⟨i, y, r, h1, h2, h3, h4⟩ := flat_get hk h
   exact ⟨i + 1, y, r, by simpa using h1, h2, by rw [Nat.add_mul]; omega, h4⟩
theorem get_flat (hk : ∀ x, (enc x).length = k) : ∀ {xs : List α} {i r : Nat} {x : α} {u : Value}, xs[i]? = some x → (enc x)[r]? = some u → (xs.flatMap enc)[i * k + r]? = some u
 | [], i, r, x, u, h, _ => by cases h
 | y :: xs, 0, r, x, u, h, h2 => by
  cases h
  have hr := (List.getElem?_eq_some_iff.1 h2).1
  simp only [List.flatMap_cons, Nat.zero_mul, Nat.zero_add]
  rw [List.getElem?_append_left hr]; exact h2
 | y :: xs, i + 1, r, x, u, h, h2 => by
  have := get_flat hk (xs := xs) (i := i) (by simpa using h) h2
  simp only [List.flatMap_cons]
  rw [List.getElem?_append_right (by rw [hk, Nat.add_mul]; omega), hk]
  rw [show (i + 1) * k + r - k = i * k + r by rw [Nat.add_mul]; omega]; exact this
theorem row_flat (hk : ∀ x, (enc x).length = k) {w : World} {b o : Nat} {xs : List α} : AtRow enc k w b o xs ↔ ∀ j u, (xs.flatMap enc)[j]? = some u → w.cell? ⟨b, o + j, none⟩ = some u := by
 constructor
 ·intro h j u hj
  obtain ⟨i, x, r, h1, h2, rfl, _⟩ := flat_get hk hj
  have := h i x h1 r u h2
  rw [← Nat.add_assoc]; exact this
 ·intro h i x hi r u hr
  have := h _ _ (get_flat hk hi hr)
  rw [← Nat.add_assoc] at this; exact this
end
theorem encR_len (x : Rol) : (encR x).length = 4 := rfl
def phCell (p : Ph) : List Value := [sv p.name, p.val]
theorem phAt_cells {w : World} {b : Nat} : ∀ {o : Nat} {ps : List Ph}, phAt w b o ps ↔ (∀ j u, (ps.flatMap phCell)[j]? = some u → w.cell? ⟨b, o + j, none⟩ = some u) ∧ ∀ p ∈ ps, p.Its w
 | o, [] => by simp [phAt]
 | o, p :: r => by
  simp only [phAt, phAt_cells (ps := r) (o := o + 2), List.flatMap_cons, List.mem_cons]
  constructor
  ·rintro ⟨⟨h1, h2, h3⟩, h4, h5⟩
   refine ⟨fun j u hj => ?_, fun q hq => ?_⟩
   ·match j, hj with
    | 0, hj => simp [phCell] at hj; subst hj; exact h1
    | 1, hj => simp [phCell] at hj; subst hj; exact h2
    | j + 2, hj =>
     have := h4 j u (by simpa [phCell] using hj)
     rw [show o + (j + 2) = o + 2 + j by omega]; exact this
   ·rcases hq with rfl | hq
    ·exact h3
    ·exact h5 q hq
  ·rintro ⟨h1, h2⟩
   refine ⟨⟨h1 0 _ (by simp [phCell]), h1 1 _ (by simp [phCell]), h2 p (Or.inl rfl)⟩, fun j u hj => ?_, fun q hq => h2 q (Or.inr hq)⟩
   have := h1 (j + 2) u (by simpa [phCell] using hj)
   rw [show o + 2 + j = o + (j + 2) by omega]; exact this
structure Ls.cpOk (s : Ls) : Prop where
 roles : s.roles.length ≤ 100000
 phrases : s.phrases.length ≤ 100000
 dances : s.dances.length ≤ 100000
 items : ∀ p ∈ s.phrases, p.its.len ≤ 100000 ∧ p.its.small
theorem Ls.small.cp {s : Ls} (h : s.small) : s.cpOk := by
 refine ⟨by have := h.roles; omega, by have := h.phrases; omega, by have := h.dances; omega, fun p hp => ?_⟩
 obtain ⟨h1, h2⟩ := h.items p hp
 have h3 := p.its.strip.len_le_size
 rw [p.its.strip_len, p.its.strip_size] at h3
 exact ⟨by omega, p.its.small_of (by omega) (by omega)⟩
structure Ls.Own (x : Ls) (B : Nat) (W : World) : Prop where
 roles : W.ownsRow B 59 4 (.slice x.ra x.roles.length x.rc) x.roles.length (x.roles.flatMap encR)
 phrases : W.ownsRow B 57 2 (.slice x.fa x.phrases.length x.fc) x.phrases.length (x.phrases.flatMap phCell)
 raf : x.ra = some ⟨blk x.ra, 0, none⟩
 faf : x.fa = some ⟨blk x.fa, 0, none⟩
 daf : x.da = some ⟨blk x.da, 0, none⟩
 ra : blk x.ra ∉ phOwn x.phrases
 rf : blk x.ra ≠ blk x.fa
 rd : blk x.ra ≠ blk x.da
 fd : blk x.fa ≠ blk x.da
def Ls.tup (s : Ls) : List (Option Addr) × List Nat × List Tmp × List Pau × List Con := ([s.ta, s.ua, s.sa], [s.tc, s.uc, s.sc], s.tempos, s.pauses, s.spans)
def CopP (s : Ls) (ns : List Int) (w : World) (e : Ending) (w' : World) : Prop :=
 ∃ x : Ls, e = .returned x.val ∧ x.strip = s.strip ∧ x.At w' ∧ NsAt w' x.refs ns ∧ x.Sep ∧ (∀ r ∈ x.refs, w.heap.size ≤ r.b ∧ FreeB w' r.b) ∧ x.Own w.heap.size w' ∧ (∀ b ∈ phOwn x.phrases, w.heap.size ≤ b) ∧ Below w.heap.size w w' ∧ x.tup = s.tup
theorem own_lt {w : World} {B e s n : Nat} {v : Value} {xs : List Value} (h : w.ownsRow B e s v n xs) {g : Nat} (hg : v.ownBlock = some g) : B ≤ g ∧ g < w.heap.size := World.ownsRow.lt h g hg
theorem own_isRow {w : World} {B e k : Nat} {α : Type} {enc : α → List Value} (hk : ∀ x, (enc x).length = k) {ao : Option Addr} {c : Nat} {xs : List α} (hm : xs.length ≤ maxLen) (h : w.ownsRow B e k (.slice ao xs.length c) xs.length (xs.flatMap enc)) : IsRow enc k w (.slice ao xs.length c) xs := by
 refine ⟨ao, c, rfl, hm, ?_⟩
 rcases h.2 with ⟨e, e2⟩ | ⟨g, cap, cur, e, h2, h3, _⟩
 ·exact Or.inl (List.length_eq_zero_iff.1 e2)
 ·cases e
  refine Or.inr ⟨g, 0, rfl, (row_flat hk).2 fun j u hj => ?_, (Array.getElem?_eq_some_iff.1 h3).1⟩
  have := h.cells (g := g) rfl j u hj
  rw [addr_plain] at this; exact this
end Go.Proofs.Ytpnbpepkoekkoaa
end
section
namespace Go.Proofs.Ytpnbpepkoekkoaa
open Go Go.RowKit Go.Deep
def RowV {α : Type} (enc : α → List Value) (W : World) (g : Nat) (xs : List α) : Prop := ∀ j u, (xs.flatMap enc)[j]? = some u → W.cell? ⟨g, j, none⟩ = some u
section
variable {α : Type} {enc : α → List Value} {k : Nat}
theorem RowV.get (hk : ∀ x, (enc x).length = k) {W : World} {g : Nat} {xs : List α} (h : RowV enc W g xs) {i r : Nat} {x : α} {u : Value} (hx : xs[i]? = some x) (hr : (enc x)[r]? = some u) : W.cell? ⟨g, i * k + r, none⟩ = some u := h _ _ (get_flat hk hx hr)
theorem RowV.same {W W' : World} {g : Nat} {xs : List α} (h : RowV enc W g xs) (hb : W'.heap[g]? = W.heap[g]?) : RowV enc W' g xs := fun j u hj => (World.cell?_of_block hb).trans (h j u hj)
theorem RowV.set (hk : ∀ x, (enc x).length = k) {W W' : World} {g i : Nat} {xs : List α} {p : α} (h : RowV enc W g xs) (hi : i < xs.length) (h1 : ∀ r u, (enc p)[r]? = some u → W'.cell? ⟨g, i * k + r, none⟩ = some u)
  (h2 : ∀ q v, (q < i * k ∨ i * k + k ≤ q) → W.cell? ⟨g, q, none⟩ = some v → W'.cell? ⟨g, q, none⟩ = some v) : RowV enc W' g (xs.set i p) := by
 intro j u hj
 obtain ⟨i', x, r, h3, h4, rfl, h5⟩ := flat_get hk hj
 rw [List.getElem?_set] at h3
 by_cases e : i = i'
 ·subst e
  rw [if_pos rfl, if_pos hi] at h3
  cases h3
  exact h1 r u h4
 ·rw [if_neg e] at h3
  refine h2 _ _ ?_ (h.get hk h3 h4)
  rcases Nat.lt_or_gt_of_ne e with h6 | h6
  ·right
   have := Nat.mul_le_mul_right k (show i + 1 ≤ i' by omega)
   rw [Nat.add_mul] at this; omega
  ·left
   have := Nat.mul_le_mul_right k (show i' + 1 ≤ i by omega)
   rw [Nat.add_mul] at this; omega
end
structure CpW (s : Ls) (ns : List Int) (w : World) (x : Ls) (W : World) : Prop where
 strip : x.strip = s.strip
 at_ : x.At W
 ns : NsAt W x.refs ns
 sep : x.Sep
 refs : ∀ r ∈ x.refs, w.heap.size ≤ r.b ∧ FreeB W r.b
 own : x.Own w.heap.size W
 pown : ∀ b ∈ phOwn x.phrases, w.heap.size ≤ b
 below : Below w.heap.size w W
 tup : x.tup = s.tup
theorem CpW.of {s : Ls} {ns : List Int} {w : World} {e : Ending} {w' : World} (h : CopP s ns w e w') : ∃ x, e = .returned x.val ∧ CpW s ns w x w' := by
 obtain ⟨x, h0, h1, h2, h3, h4, h5, h6, h7, h8, h9⟩ := h
 exact ⟨x, h0, h1, h2, h3, h4, h5, h6, h7, h8, h9⟩
theorem own_same {w w' : World} {B e s n : Nat} {v : Value} {xs : List Value} (h : w.ownsRow B e s v n xs) (hb : ∀ g, v.ownBlock = some g → w'.heap[g]? = w.heap[g]?) : w'.ownsRow B e s v n xs := by
 refine ⟨h.1, ?_⟩
 rcases h.2 with h1 | ⟨g, c, cur, rfl, h2, h3, h4⟩
 ·exact Or.inl h1
 ·exact Or.inr ⟨g, c, cur, rfl, h2, (hb g rfl).trans h3, h4⟩
theorem Ls.Own.lt {x : Ls} {B : Nat} {W : World} (h : x.Own B W) : (B ≤ blk x.ra ∧ blk x.ra < W.heap.size) ∧ (B ≤ blk x.fa ∧ blk x.fa < W.heap.size) := by
 have h1 := own_lt h.roles (show (Value.slice x.ra x.roles.length x.rc).ownBlock = some (blk x.ra) by rw [h.raf]; rfl)
 have h2 := own_lt h.phrases (show (Value.slice x.fa x.phrases.length x.fc).ownBlock = some (blk x.fa) by rw [h.faf]; rfl)
 exact ⟨h1, h2⟩
theorem phNs_each {W : World} : ∀ {ps : List Ph} {ns : List Int}, NsAt W (phRefs ps) ns → ∀ p ∈ ps, ∃ m, NsAt W p.refsL m
 | [], _, _, _, h => by cases h
 | p :: r, ns, h, q, hq => by
  obtain ⟨a, b, _, h1, h2⟩ := NsAt.split (xs := p.refsL) h
  rcases List.mem_cons.1 hq with rfl | hq
  ·exact ⟨a, h1⟩
  ·exact phNs_each h2 q hq
theorem phOwn_mem {ps : List Ph} {p : Ph} (h : p ∈ ps) {c : Nat} (hc : c ∈ p.its.own p.ia) : c ∈ phOwn ps := List.mem_flatMap.2 ⟨p, h, hc⟩
structure Kept (s : Ls) (ns : List Int) (w : World) (x : Ls) (W W' : World) (f : Nat) : Prop where
 cp : CpW s ns w x W
 below : Below w.heap.size w W'
 keep : ∀ b, b < W.heap.size → b ≠ f → W'.heap[b]? = W.heap[b]?
theorem Kept.tempos {s : Ls} {ns : List Int} {w : World} {x : Ls} {W W' : World} {f : Nat} (h : Kept s ns w x W W' f) (hs : s.At w) :
  IsRow encT 3 W' (.slice x.ta x.tempos.length x.tc) x.tempos ∧ IsRow encP 4 W' (.slice x.ua x.pauses.length x.uc) x.pauses ∧ IsRow encC 4 W' (.slice x.sa x.spans.length x.sc) x.spans := by
 have e := h.cp.tup
 unfold Ls.tup at e
 simp only [Prod.mk.injEq, List.cons.injEq, and_true] at e
 obtain ⟨⟨e1, e2, e3⟩, ⟨e4, e5, e6⟩, e7, e8, e9⟩ := e
 rw [e1, e2, e3, e4, e5, e6, e7, e8, e9]
 exact ⟨hs.tempos.below h.below (Nat.le_refl _), hs.pauses.below h.below (Nat.le_refl _), hs.spans.below h.below (Nat.le_refl _)⟩
theorem cell_blk {W W' : World} {c : Nat} (hb : W'.heap[c]? = W.heap[c]?) (q : Nat) (v : Value) (hc : W.cell? ⟨c, q, none⟩ = some v) : W'.cell? ⟨c, q, none⟩ = some v := (World.cell?_of_block hb).trans hc
theorem Kept.dances {s : Ls} {ns : List Int} {w : World} {x : Ls} {W W' : World} {f : Nat} (h : Kept s ns w x W W' f) (hf : f ≠ blk x.da) :
  danAt W' (blk x.da) (off x.da) x.dances ∧ ∃ m, NsAt W' (danRefs (blk x.da) (off x.da) x.dances) m := by
 obtain ⟨n1, n2, _, _, h2⟩ := NsAt.split (xs := phRefs x.phrases) h.cp.ns
 by_cases hz : x.dances = []
 ·rw [hz]
  exact ⟨trivial, [], trivial⟩
 ·have hlt : blk x.da < W.heap.size := by
   have := h.cp.at_.dances
   cases hd : x.dances with
   | nil => exact absurd hd hz
   | cons d r => rw [hd] at this; exact cell_lt this.1.1
  have hk := cell_blk (h.keep _ hlt (Ne.symm hf))
  exact ⟨danAt_kept h.cp.at_.dances fun q v _ => hk q v, n2, h2.kept fun r hr v hv => by rw [(danRefs_mem hr).1] at hv ⊢; exact hk _ _ hv⟩
theorem Kept.its {s : Ls} {ns : List Int} {w : World} {x : Ls} {W W' : World} {f : Nat} (h : Kept s ns w x W W' f) (hf : f ∉ phOwn x.phrases) {p : Ph} (hp : p ∈ x.phrases) : p.Its W' ∧ ∃ m, NsAt W' p.refsL m := by
 obtain ⟨n1, n2, _, h1, _⟩ := NsAt.split (xs := phRefs x.phrases) h.cp.ns
 obtain ⟨m, hm⟩ := phNs_each h1 p hp
 have hk : ∀ c ∈ p.its.own p.ia, ∀ q v, W.cell? ⟨c, q, none⟩ = some v → W'.cell? ⟨c, q, none⟩ = some v := fun c hc q v hv =>
  cell_blk (h.keep c (cell_lt hv) (fun e => hf (e ▸ phOwn_mem hp hc))) q v hv
 exact ⟨((phAt_cells.1 h.cp.at_.phrases).2 p hp).kept hk, m, hm.kept fun r hr v hv => hk _ (Lt.own_mem hr) _ _ hv⟩
theorem Kept.roles {s : Ls} {ns : List Int} {w : World} {x : Ls} {W W' : World} {f : Nat} (h : Kept s ns w x W W' f) (hf : f ≠ blk x.ra) (hm : x.roles.length ≤ maxLen) : IsRow encR 4 W' (.slice x.ra x.roles.length x.rc) x.roles := by
 refine own_isRow encR_len hm (own_same h.cp.own.roles fun g hg => ?_)
 have hg' : g = blk x.ra := by rw [h.cp.own.raf] at hg; exact (Option.some.inj hg).symm
 rw [hg']
 exact h.keep _ h.cp.own.lt.1.2 (Ne.symm hf)
end Go.Proofs.Ytpnbpepkoekkoaa
end
