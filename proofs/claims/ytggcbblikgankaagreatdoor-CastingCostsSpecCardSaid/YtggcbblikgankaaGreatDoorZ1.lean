/- Contracts and plain laws on the way to the statement: part 1. -/
import Derived.Test.YtggcbblikgankaaGreatDoorZ3
set_option linter.unusedVariables false
set_option linter.unusedSimpArgs false
set_option maxRecDepth 100000
set_option maxHeartbeats 16000000
namespace Go.Proofs.YtggcbblikgankaaGreatDoor
open Go.Value (int)
open Go.IntKind (i64)
section
def AV : Int := 1048576
def Ap : Int := 1152921504606846976
def An (i : Nat) (own : Nat → Int) (x : Int) : Nat := if x < 0 then i else (own x.toNat).toNat
theorem Cg (i : Nat) (own : Nat → Int) : An i own (-1) = i := rfl
theorem Be (i : Nat) (own : Nat → Int) (b : Nat) : An i own (b : Int) = (own b).toNat := by
 unfold An; rw [if_neg (by omega)]; rfl
def Lab (D : List Nat) (x : Int) : Prop := x = -1 ∨ ∃ b, b ∈ D ∧ x = (b : Int)
structure Pot (m : Nat) (c : Nat → Nat → Int) (k : Nat) (own u v : Nat → Int) : Prop where
 lo : ∀ j, j < m → own j = -1 ∨ 0 ≤ own j ∧ own j < k
 inj : ∀ j j', j < m → j' < m → 0 ≤ own j → own j = own j' → j = j'
 sur : ∀ r : Nat, r < k → ∃ j, j < m ∧ own j = (r : Int)
 tight : ∀ j, j < m → 0 ≤ own j → 0 ≤ c (own j).toNat j ∧ u (own j).toNat + v j = c (own j).toNat j
 neg : ∀ j, j < m → v j ≤ 0
 free : ∀ j, j < m → own j = -1 → v j = 0
def ChainOk (c : Nat → Nat → Int) (i : Nat) (own u v frm : Nat → Int) : List Nat → Prop
 | [] => True
 | a :: r => Lab r (frm a) ∧ 0 ≤ c (An i own (frm a)) a ∧ u (An i own (frm a)) + v a = c (An i own (frm a)) a ∧ ChainOk c i own u v frm r
def NearOk (m : Nat) (c : Nat → Nat → Int) (i : Nat) (own u v : Nat → Int) (D : List Nat) (Sc : Int → Prop) (near frm : Nat → Int) : Prop :=
 ∀ j, j < m → j ∉ D → near j ≤ Ap ∧ (∀ x, Sc x → 0 ≤ c (An i own x) j → near j ≤ c (An i own x) j - u (An i own x) - v j) ∧
  (near j < Ap → Lab D (frm j) ∧ 0 ≤ c (An i own (frm j)) j ∧ near j = c (An i own (frm j)) j - u (An i own (frm j)) - v j)
structure Srch (n m : Nat) (c : Nat → Nat → Int) (i : Nat) (own u v : Nat → Int) (D : List Nat) (frm : Nat → Int) (V : Int) : Prop where
 pot : Pot m c i own u v
 hi : i < n
 nd : D.Nodup
 dm : ∀ j ∈ D, j < m
 fit : ∀ r j, r < n → j < m → 0 ≤ c r j → u r + v j ≤ c r j
 later : ∀ r, i < r → u r = 0
 upos : ∀ r, 0 ≤ u r
 ub : u i ≤ D.length * (AV + V)
 vb : ∀ j, j < m → -(V + u i) ≤ v j
 vo : ∀ j, j < m → j ∉ D → -V ≤ v j
 us : ∀ j ∈ D, 0 ≤ own j → u i ≤ u (own j).toNat + AV * D.length
 chain : ChainOk c i own u v frm D
section
variable {n m : Nat} {c : Nat → Nat → Int} {i : Nat} {own u v near frm : Nat → Int} {D : List Nat} {V : Int}
theorem Lab.mono {D' : List Nat} (h : ∀ b ∈ D, b ∈ D') {x : Int} (hx : Lab D x) : Lab D' x := by
 rcases hx with h1 | ⟨b, hb, e⟩
 ·exact Or.inl h1
 ·exact Or.inr ⟨b, h b hb, e⟩
theorem Srch.row_lt (h : Srch n m c i own u v D frm V) {x : Int} (hx : Lab D x) : An i own x < n ∧ An i own x ≤ i := by
 rcases hx with rfl | ⟨b, hb, rfl⟩
 ·rw [Cg]; exact ⟨h.hi, qn _⟩
 ·rw [Be]
  have h1 := h.pot.lo b (h.dm b hb)
  have := h.hi
  omega
theorem Srch.shift (h : Srch n m c i own u v D frm V) (howned : ∀ j ∈ D, 0 ≤ own j) (hc : ∀ r j, c r j ≤ AV) (hV0 : 0 ≤ V) (hV : AV + V < Ap)
  (hN : NearOk m c i own u v D (Lab D) near frm) {next : Nat} {step : Int} (hn : next < m) (hnd : next ∉ D) (hns : near next = step) (hs : step < Ap) (hmin : ∀ j, j < m → j ∉ D → step ≤ near j)
  {u' v' near' : Nat → Int} (hu : ∀ r, u' r = if r = i ∨ (∃ j, j ∈ D ∧ own j = (r : Int)) then u r + step else u r) (hv : ∀ j, v' j = if j ∈ D then v j - step else v j)
  (hnr : ∀ j, j < m → j ∉ D → near' j = if near j < Ap then near j - step else near j) :
  Srch n m c i own u' v' (next :: D) frm V ∧ NearOk m c i own u' v' (next :: D) (Lab D) near' frm ∧ 0 ≤ step := by
 obtain ⟨hN1, hN2, hN3⟩ := hN next hn hnd
 obtain ⟨hl, hcn, heq⟩ := hN3 (by omega)
 have hrl := h.row_lt hl
 have h0 : 0 ≤ step := by
  have := h.fit _ next hrl.1 hn hcn
  omega
 -- rows that were reached
 have uR : ∀ x, Lab D x → u' (An i own x) = u (An i own x) + step := by
  intro x hx
  rw [hu, if_pos]
  rcases hx with rfl | ⟨b, hb, rfl⟩
  ·exact Or.inl (Cg i own)
  ·right
   rw [Be]
   exact ⟨b, hb, by have := howned b hb; omega⟩
 have ui : u' i = u i + step := by rw [hu, if_pos (Or.inl rfl)]
 have vD : ∀ j, j ∈ D → v' j = v j - step := fun j hj => by rw [hv, if_pos hj]
 have vN : ∀ j, j ∉ D → v' j = v j := fun j hj => by rw [hv, if_neg hj]
 have uown : ∀ j, j < m → j ∉ D → 0 ≤ own j → u' (own j).toNat = u (own j).toNat := by
  intro j hj hjd ho
  rw [hu, if_neg]
  rintro (h1 | ⟨j2, hj2, h2⟩)
  ·have := h.pot.lo j hj; omega
  ·have : own j2 = own j := by omega
   have := h.pot.inj j2 j (h.dm _ hj2) hj (howned _ hj2) this
   subst this; exact hjd hj2
 have uD : ∀ j, j ∈ D → u' (own j).toNat = u (own j).toNat + step := by
  intro j hj
  have := uR j (Or.inr ⟨j, hj, rfl⟩)
  rwa [Be] at this
 have ule : ∀ r, u r ≤ u' r ∧ u' r ≤ u r + step := by
  intro r; rw [hu]; split <;> omega
 have hvnext : -V ≤ v next := h.vo next hn hnd
 have hcr := hc (An i own (frm next)) next
 have hup := h.upos (An i own (frm next))
 refine ⟨⟨⟨h.pot.lo, h.pot.inj, h.pot.sur, ?_, ?_, ?_⟩, h.hi, ?_, ?_, ?_, ?_, ?_, ?_, ?_, ?_, ?_, ?_⟩, ?_, h0⟩
 ·intro j hj ho
  have ht := h.pot.tight j hj ho
  refine ⟨ht.1, ?_⟩
  by_cases hjd : j ∈ D
  ·rw [uD j hjd, vD j hjd]; omega
  ·rw [uown j hj hjd ho, vN j hjd]; exact ht.2
 ·intro j hj
  have := h.pot.neg j hj
  rw [hv]; split <;> omega
 ·intro j hj ho
  have hjd : j ∉ D := fun hd => by have := howned j hd; omega
  rw [vN j hjd]; exact h.pot.free j hj ho
 ·exact List.nodup_cons.2 ⟨hnd, h.nd⟩
 ·intro j hj
  rcases List.mem_cons.1 hj with rfl | hj
  ·exact hn
  ·exact h.dm j hj
 ·intro r j hr hj hcj
  have hf := h.fit r j hr hj hcj
  by_cases hin : r = i ∨ ∃ j, j ∈ D ∧ own j = (r : Int)
  ·rw [hu, if_pos hin]
   by_cases hjd : j ∈ D
   ·rw [vD j hjd]; omega
   ·rw [vN j hjd]
    have hx : ∃ x, Lab D x ∧ An i own x = r := by
     rcases hin with rfl | ⟨b, hb, e⟩
     ·exact ⟨-1, Or.inl rfl, Cg _ _⟩
     ·exact ⟨b, Or.inr ⟨b, hb, rfl⟩, by rw [Be]; omega⟩
    obtain ⟨x, hx, rfl⟩ := hx
    have := (hN j hj hjd).2.1 x hx hcj
    have := hmin j hj hjd
    omega
  ·rw [hu, if_neg hin]
   have : v' j ≤ v j := by rw [hv]; split <;> omega
   omega
 ·intro r hr
  rw [hu, if_neg, h.later r hr]
  rintro (h1 | ⟨j, hj, h2⟩)
  ·omega
  ·have := h.pot.lo j (h.dm j hj); omega
 ·intro r
  have := h.upos r; have := ule r; omega
 ·rw [ui, List.length_cons]
  have hb := h.ub
  have : step ≤ AV + V := by omega
  rw [show ((D.length + 1 : Nat) : Int) * (AV + V) = D.length * (AV + V) + (AV + V) by rw [Int.natCast_add, Int.add_mul]; simp]
  omega
 ·intro j hj
  have := h.vb j hj
  rw [ui, hv]; split <;> omega
 ·intro j hj hjd
  rw [vN j (fun hd => hjd (List.mem_cons_of_mem _ hd))]
  exact h.vo j hj (fun hd => hjd (List.mem_cons_of_mem _ hd))
 ·intro j hj ho
  rw [ui, List.length_cons]
  have e : AV * ((D.length + 1 : Nat) : Int) = AV * D.length + AV := by rw [Int.natCast_add, Int.mul_add]; simp
  rw [e]
  have hC : (0 : Int) ≤ AV := by decide
  rcases List.mem_cons.1 hj with rfl | hj
  ·rw [uown j hn hnd ho]
   have ht := (h.pot.tight j hn ho)
   have hur : u i ≤ u (An i own (frm j)) + AV * D.length := by
    rcases hl with e1 | ⟨b, hb, e1⟩
    ·rw [e1, Cg]
     have : 0 ≤ AV * (D.length : Int) := Int.mul_nonneg hC (by omega)
     omega
    ·rw [e1, Be]; exact h.us b hb (howned b hb)
   omega
  ·rw [uD j hj]
   have := h.us j hj ho
   omega
 ·refine ⟨hl, hcn, ?_, ?_⟩
  ·rw [uR _ hl, vN next hnd]; omega
  ·have hch := h.chain
   have key : ∀ E : List Nat, (∀ b ∈ E, b ∈ D) → ChainOk c i own u v frm E → ChainOk c i own u' v' frm E := by
    intro E
    induction E with
    | nil => intro _ _; exact trivial
    | cons a r ih =>
     intro hsub hE
     obtain ⟨e1, e2, e3, e4⟩ := hE
     have hr : ∀ b ∈ r, b ∈ D := fun b hb => hsub b (List.mem_cons_of_mem _ hb)
     refine ⟨e1, e2, ?_, ih hr e4⟩
     rw [uR _ (e1.mono hr), vD a (hsub a List.mem_cons_self)]
     omega
   exact key D (fun b hb => hb) hch
 ·intro j hj hjd
  have hjd' : j ∉ D := fun hd => hjd (List.mem_cons_of_mem _ hd)
  obtain ⟨a1, a2, a3⟩ := hN j hj hjd'
  have hvj := h.vo j hj hjd'
  rw [hnr j hj hjd', vN j hjd']
  have big : ∀ x, Lab D x → 0 ≤ c (An i own x) j → near j < Ap := by
   intro x hx hcx
   have := a2 x hx hcx
   have := hc (An i own x) j
   have := h.upos (An i own x)
   omega
  refine ⟨by split <;> omega, ?_, ?_⟩
  ·intro x hx hcx
   rw [if_pos (big x hx hcx), uR x hx]
   have := a2 x hx hcx
   omega
  ·intro hlt
   by_cases hnv : near j < Ap
   ·obtain ⟨b1, b2, b3⟩ := a3 hnv
    rw [if_pos hnv, uR _ b1]
    exact ⟨b1.mono (fun b hb => List.mem_cons_of_mem _ hb), b2, by omega⟩
   ·rw [if_neg hnv] at hlt; omega
theorem NearOk.scan {Sc : Int → Prop} (h : NearOk m c i own u v D Sc near frm) {x0 : Int} (hx0 : Lab D x0) {near' frm' : Nat → Int}
  (hnr : ∀ j, j < m → j ∉ D → near' j = if 0 ≤ c (An i own x0) j ∧ c (An i own x0) j - u (An i own x0) - v j < near j then c (An i own x0) j - u (An i own x0) - v j else near j)
  (hfr : ∀ j, j < m → j ∉ D → frm' j = if 0 ≤ c (An i own x0) j ∧ c (An i own x0) j - u (An i own x0) - v j < near j then x0 else frm j) :
  NearOk m c i own u v D (fun x => Sc x ∨ x = x0) near' frm' := by
 intro j hj hjd
 obtain ⟨a1, a2, a3⟩ := h j hj hjd
 rw [hnr j hj hjd, hfr j hj hjd]
 by_cases hq : 0 ≤ c (An i own x0) j ∧ c (An i own x0) j - u (An i own x0) - v j < near j
 ·rw [if_pos hq, if_pos hq]
  refine ⟨by omega, ?_, fun _ => ⟨hx0, hq.1, rfl⟩⟩
  rintro x (hx | rfl) hcx
  ·have := a2 x hx hcx; omega
  ·exact Int.le_refl _
 ·rw [if_neg hq, if_neg hq]
  refine ⟨a1, ?_, a3⟩
  rintro x (hx | rfl) hcx
  ·exact a2 x hx hcx
  ·omega
theorem ChainOk.congr {frm' : Nat → Int} : ∀ {E : List Nat}, (∀ b ∈ E, frm' b = frm b) → ChainOk c i own u v frm E → ChainOk c i own u v frm' E
 | [], _, _ => trivial
 | a :: r, h, hE => by
  obtain ⟨e1, e2, e3, e4⟩ := hE
  have ha := h a List.mem_cons_self
  unfold ChainOk
  rw [ha]
  exact ⟨e1, e2, e3, e4.congr (fun b hb => h b (List.mem_cons_of_mem _ hb))⟩
theorem Srch.from_ {frm' : Nat → Int} (h : Srch n m c i own u v D frm V) (he : ∀ b ∈ D, frm' b = frm b) : Srch n m c i own u v D frm' V :=
 { h with chain := h.chain.congr he }
theorem CV : ∀ (m : Nat) (l : List Nat), l.Nodup → (∀ x ∈ l, x < m) → l.length ≤ m
 | 0, l, _, h => by
  cases l with
  | nil => simp
  | cons a r => exact absurd (h a List.mem_cons_self) (by omega)
 | m + 1, l, hn, h => by
  have h1 := CV m (l.erase m) (hn.erase m) (fun x hx => by
   have := (hn.mem_erase_iff).1 hx
   have := h x this.2
   omega)
  have h2 := List.length_erase (a := m) (l := l)
  split at h2 <;> omega
def IJ (n m : Nat) (c : Nat → Nat → Int) : Prop := ∃ R D : List Nat, R.Nodup ∧ (∀ r ∈ R, r < n) ∧ D.Nodup ∧ (∀ j ∈ D, j < m) ∧ D.length < R.length ∧ ∀ r ∈ R, ∀ j, j < m → 0 ≤ c r j → j ∈ D
theorem Ge {α β : Type} {f : α → β} : ∀ {l : List α}, l.Nodup → (∀ a ∈ l, ∀ b ∈ l, f a = f b → a = b) → (l.map f).Nodup
 | [], _, _ => by simp
 | a :: r, hn, h => by
  obtain ⟨h1, h2⟩ := List.nodup_cons.1 hn
  rw [List.map_cons, List.nodup_cons]
  refine ⟨fun hm => ?_, Ge h2 (fun x hx y hy => h x (List.mem_cons_of_mem _ hx) y (List.mem_cons_of_mem _ hy))⟩
  obtain ⟨b, hb, e⟩ := List.mem_map.1 hm
  exact h1 (h b (List.mem_cons_of_mem _ hb) a List.mem_cons_self e ▸ hb)
theorem Srch.fail (h : Srch n m c i own u v D frm V) (howned : ∀ j ∈ D, 0 ≤ own j) (hc : ∀ r j, c r j ≤ AV) (hV : AV + V < Ap)
  (hN : NearOk m c i own u v D (Lab D) near frm) (hno : ∀ j, j < m → j ∉ D → Ap ≤ near j) : IJ n m c := by
 refine ⟨i :: D.map (fun j => (own j).toNat), D, ?_, ?_, h.nd, h.dm, by simp, ?_⟩
 ·rw [List.nodup_cons]
  constructor
  ·intro hm
   obtain ⟨b, hb, e⟩ := List.mem_map.1 hm
   have := h.pot.lo b (h.dm b hb); have := howned b hb
   omega
  ·refine Ge h.nd ?_
   intro a ha b hb e
   have h1 := howned a ha; have h2 := howned b hb
   exact h.pot.inj a b (h.dm a ha) (h.dm b hb) h1 (by omega)
 ·intro r hr
  rcases List.mem_cons.1 hr with rfl | hr
  ·exact h.hi
  ·obtain ⟨b, hb, rfl⟩ := List.mem_map.1 hr
   have := h.pot.lo b (h.dm b hb); have := h.hi
   omega
 ·intro r hr j hj hcj
  rcases Classical.em (j ∈ D) with hjd | hjd
  ·exact hjd
  ·exfalso
   have hx : ∃ x, Lab D x ∧ An i own x = r := by
    rcases List.mem_cons.1 hr with rfl | hr
    ·exact ⟨-1, Or.inl rfl, Cg _ _⟩
    ·obtain ⟨b, hb, rfl⟩ := List.mem_map.1 hr
     exact ⟨b, Or.inr ⟨b, hb, rfl⟩, by rw [Be]⟩
   obtain ⟨x, hx, rfl⟩ := hx
   obtain ⟨_, a2, _⟩ := hN j hj hjd
   have := a2 x hx hcj
   have := hno j hj hjd
   have := hc (An i own x) j
   have := h.upos (An i own x)
   have := h.vo j hj hjd
   omega
structure Aug (m : Nat) (c : Nat → Nat → Int) (i : Nat) (own u v : Nat → Int) (a : Nat) (r : List Nat) (own' : Nat → Int) : Prop where
 same : ∀ j ∈ r, own' j = own j
 lo : ∀ j, j < m → j ≠ a → own' j = -1 ∨ 0 ≤ own' j ∧ own' j < i
 inj : ∀ j j', j < m → j' < m → j ≠ a → j' ≠ a → 0 ≤ own' j → own' j = own' j' → j = j'
 sur : ∀ x : Nat, x < i → ∃ j, j < m ∧ j ≠ a ∧ own' j = (x : Int)
 tight : ∀ j, j < m → j ≠ a → 0 ≤ own' j → 0 ≤ c (own' j).toNat j ∧ u (own' j).toNat + v j = c (own' j).toNat j
 free : ∀ j, j < m → j ≠ a → own' j = -1 → v j = 0
theorem Aug.last {own' : Nat → Int} {a : Nat} {r : List Nat} (ha : a < m) (h : Aug m c i own u v a r own') (hch : ChainOk c i own u v frm (a :: r)) (hf : frm a = -1) (hneg : ∀ j, j < m → v j ≤ 0)
  {own2 : Nat → Int} (h2 : ∀ j, own2 j = if j = a then (i : Int) else own' j) : Pot m c (i + 1) own2 u v := by
 obtain ⟨_, e2, e3, _⟩ := hch
 rw [hf, Cg] at e2 e3
 have e : own2 a = i := by rw [h2, if_pos rfl]
 have ne : ∀ j, j ≠ a → own2 j = own' j := fun j hj => by rw [h2, if_neg hj]
 refine ⟨?_, ?_, ?_, ?_, hneg, ?_⟩
 ·intro j hj
  by_cases hja : j = a
  ·subst hja; rw [e]; omega
  ·rw [ne j hja]; have := h.lo j hj hja; omega
 ·intro j j' hj hj' h0 heq
  by_cases hja : j = a
  ·by_cases hja' : j' = a
   ·rw [hja, hja']
   ·rw [hja, e, ne j' hja'] at heq
    have := h.lo j' hj' hja'; omega
  ·by_cases hja' : j' = a
   ·rw [hja', e, ne j hja] at heq
    have := h.lo j hj hja; omega
   ·rw [ne j hja, ne j' hja'] at heq
    rw [ne j hja] at h0
    exact h.inj j j' hj hj' hja hja' h0 heq
 ·intro x hx
  by_cases hxi : x = i
  ·subst hxi; exact ⟨a, ha, e⟩
  ·obtain ⟨j, hj, hja, e4⟩ := h.sur x (by omega)
   exact ⟨j, hj, by rw [ne j hja]; exact e4⟩
 ·intro j hj h0
  by_cases hja : j = a
  ·subst hja; rw [e]; exact ⟨by simpa using e2, by simpa using e3⟩
  ·rw [ne j hja] at h0 ⊢; exact h.tight j hj hja h0
 ·intro j hj h0
  by_cases hja : j = a
  ·subst hja; rw [e] at h0; omega
  ·rw [ne j hja] at h0; exact h.free j hj hja h0
theorem Aug.step {own' : Nat → Int} {a b : Nat} {r : List Nat} (ha : a < m) (hb : b < m) (h : Aug m c i own u v a r own') (hch : ChainOk c i own u v frm (a :: r)) (hf : frm a = (b : Int)) (hbr : b ∈ r) (hab : a ≠ b) (hown : 0 ≤ own b)
  {r' : List Nat} (hr' : ∀ x ∈ r', x ∈ r ∧ x ≠ a) {own2 : Nat → Int} (h2 : ∀ j, own2 j = if j = a then own' b else own' j) : Aug m c i own u v b r' own2 := by
 obtain ⟨_, e2, e3, _⟩ := hch
 rw [hf, Be] at e2 e3
 have hs := h.same b hbr
 have e : own2 a = own b := by rw [h2, if_pos rfl, hs]
 have ne : ∀ j, j ≠ a → own2 j = own' j := fun j hj => by rw [h2, if_neg hj]
 have hlob := h.lo b hb (Ne.symm hab)
 rw [hs] at hlob
 refine ⟨?_, ?_, ?_, ?_, ?_, ?_⟩
 ·intro j hj
  obtain ⟨h3, h4⟩ := hr' j hj
  rw [ne j h4]; exact h.same j h3
 ·intro j hj hjb
  by_cases hja : j = a
  ·subst hja; rw [e]; exact hlob
  ·rw [ne j hja]; exact h.lo j hj hja
 ·intro j j' hj hj' hjb hjb' h0 heq
  by_cases hja : j = a
  ·by_cases hja' : j' = a
   ·rw [hja, hja']
   ·rw [hja, e, ne j' hja', ← hs] at heq
    rw [hja, e, ← hs] at h0
    exact absurd (h.inj b j' hb hj' (Ne.symm hab) hja' h0 heq).symm hjb'
  ·by_cases hja' : j' = a
   ·rw [hja', e, ne j hja, ← hs] at heq
    rw [ne j hja] at h0
    exact absurd (h.inj j b hj hb hja (Ne.symm hab) h0 heq) hjb
   ·rw [ne j hja, ne j' hja'] at heq
    rw [ne j hja] at h0
    exact h.inj j j' hj hj' hja hja' h0 heq
 ·intro x hx
  obtain ⟨j, hj, hja, e4⟩ := h.sur x hx
  by_cases hjb : j = b
  ·subst hjb; exact ⟨a, ha, hab, by rw [e, ← hs]; exact e4⟩
  ·exact ⟨j, hj, hjb, by rw [ne j hja]; exact e4⟩
 ·intro j hj hjb h0
  by_cases hja : j = a
  ·subst hja; rw [e]; exact ⟨e2, e3⟩
  ·rw [ne j hja] at h0 ⊢; exact h.tight j hj hja h0
 ·intro j hj hjb h0
  by_cases hja : j = a
  ·subst hja; rw [e] at h0; omega
  ·rw [ne j hja] at h0; exact h.free j hj hja h0
theorem Pot.aug (h : Pot m c i own u v) {a : Nat} (ha : own a = -1) (r : List Nat) : Aug m c i own u v a r own :=
 ⟨fun _ _ => rfl, fun j hj _ => h.lo j hj, fun j j' hj hj' _ _ => h.inj j j' hj hj', fun x hx => by
  obtain ⟨j, hj, e⟩ := h.sur x hx
  exact ⟨j, hj, fun hja => by rw [hja, ha] at e; omega, e⟩, fun j hj _ => h.tight j hj, fun j hj _ => h.free j hj⟩
theorem Srch.price {a : Nat} (h : Srch n m c i own u v (a :: D) frm V) (howned : ∀ j ∈ D, 0 ≤ own j) (hc : ∀ r j, c r j ≤ AV) (ha : own a = -1) : u i ≤ AV * ((D.length : Int) + 2) := by
 obtain ⟨hl, _, e3, _⟩ := h.chain
 have hv := h.pot.free a (h.dm a List.mem_cons_self) ha
 have hcr := hc (An i own (frm a)) a
 have e : AV * ((D.length : Int) + 2) = AV * (((a :: D).length : Nat) : Int) + AV := by
  rw [List.length_cons, Int.natCast_add, show ((D.length : Int) + 2) = (D.length : Int) + ((1 : Nat) : Int) + 1 by omega, Int.mul_add AV _ 1, Int.mul_one]
 have hC : (0 : Int) ≤ AV := by decide
 have h0 : 0 ≤ AV * (((a :: D).length : Nat) : Int) := Int.mul_nonneg hC (by omega)
 rw [e]
 rcases hl with e1 | ⟨b, hb, e1⟩
 ·rw [e1, Cg] at e3 hcr
  omega
 ·have := h.us b (List.mem_cons_of_mem _ hb) (howned b hb)
  rw [e1, Be] at e3 hcr
  omega
end
end
end Go.Proofs.YtggcbblikgankaaGreatDoor
