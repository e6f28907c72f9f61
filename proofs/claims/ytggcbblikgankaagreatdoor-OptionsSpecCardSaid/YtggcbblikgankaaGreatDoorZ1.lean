/- Contracts and plain laws on the way to the statement: part 1. -/
set_option linter.unusedVariables false
set_option linter.unusedSimpArgs false
section
namespace Go.Proofs.YtggcbblikgankaaGreatDoor
def topC : Int := 1048576
def neverI : Int := 1152921504606846976
def rowOf (i : Nat) (own : Nat → Int) (x : Int) : Nat := if x < 0 then i else (own x.toNat).toNat
theorem rowOf_neg (i : Nat) (own : Nat → Int) : rowOf i own (-1) = i := rfl
theorem rowOf_nat (i : Nat) (own : Nat → Int) (b : Nat) : rowOf i own (b : Int) = (own b).toNat := by
 unfold rowOf; rw [if_neg (by omega)]; rfl
def Lab (D : List Nat) (x : Int) : Prop := x = -1 ∨ ∃ b, b ∈ D ∧ x = (b : Int)
structure Pot (m : Nat) (c : Nat → Nat → Int) (k : Nat) (own u v : Nat → Int) : Prop where
 lo : ∀ j, j < m → own j = -1 ∨ 0 ≤ own j ∧ own j < k
 inj : ∀ j j', j < m → j' < m → 0 ≤ own j → own j = own j' → j = j'
 sur : ∀ r : Nat, r < k → ∃ j, j < m ∧ own j = (r : Int)
 tight : ∀ j, j < m → 0 ≤ own j → 0 ≤ c (own j).toNat j ∧ u (own j).toNat + v j = c (own j).toNat j
 neg : ∀ j, j < m → v j ≤ 0
 free : ∀ j, j < m → own j = -1 → v j = 0
def ChainOk (c : Nat → Nat → Int) (i : Nat) (own u v frm : Nat → Int) : List Nat → Prop
 | [] => True
 | a :: r => Lab r (frm a) ∧ 0 ≤ c (rowOf i own (frm a)) a ∧ u (rowOf i own (frm a)) + v a = c (rowOf i own (frm a)) a ∧ ChainOk c i own u v frm r
def NearOk (m : Nat) (c : Nat → Nat → Int) (i : Nat) (own u v : Nat → Int) (D : List Nat) (Sc : Int → Prop) (near frm : Nat → Int) : Prop :=
 ∀ j, j < m → j ∉ D → near j ≤ neverI ∧ (∀ x, Sc x → 0 ≤ c (rowOf i own x) j → near j ≤ c (rowOf i own x) j - u (rowOf i own x) - v j) ∧
  (near j < neverI → Lab D (frm j) ∧ 0 ≤ c (rowOf i own (frm j)) j ∧ near j = c (rowOf i own (frm j)) j - u (rowOf i own (frm j)) - v j)
structure Srch (n m : Nat) (c : Nat → Nat → Int) (i : Nat) (own u v : Nat → Int) (D : List Nat) (frm : Nat → Int) (V : Int) : Prop where
 pot : Pot m c i own u v
 hi : i < n
 nd : D.Nodup
 dm : ∀ j ∈ D, j < m
 fit : ∀ r j, r < n → j < m → 0 ≤ c r j → u r + v j ≤ c r j
 later : ∀ r, i < r → u r = 0
 upos : ∀ r, 0 ≤ u r
 ub : u i ≤ D.length * (topC + V)
 vb : ∀ j, j < m → -(V + u i) ≤ v j
 vo : ∀ j, j < m → j ∉ D → -V ≤ v j
 us : ∀ j ∈ D, 0 ≤ own j → u i ≤ u (own j).toNat + topC * D.length
 chain : ChainOk c i own u v frm D
section
variable {n m : Nat} {c : Nat → Nat → Int} {i : Nat} {own u v near frm : Nat → Int} {D : List Nat} {V : Int}
theorem Lab.mono {D' : List Nat} (h : ∀ b ∈ D, b ∈ D') {x : Int} (hx : Lab D x) : Lab D' x := by
 rcases hx with h1 | ⟨b, hb, e⟩
 ·exact Or.inl h1
 ·exact Or.inr ⟨b, h b hb, e⟩
theorem ChainOk.congr {frm' : Nat → Int} : ∀ {E : List Nat}, (∀ b ∈ E, frm' b = frm b) → ChainOk c i own u v frm E → ChainOk c i own u v frm' E
 | [], _, _ => trivial
 | a :: r, h, hE => by
  obtain ⟨e1, e2, e3, e4⟩ := hE
  have ha := h a List.mem_cons_self
  unfold ChainOk
  rw [ha]
  exact ⟨e1, e2, e3, e4.congr (fun b hb => h b (List.mem_cons_of_mem _ hb))⟩
def Hall (n m : Nat) (c : Nat → Nat → Int) : Prop := ∃ R D : List Nat, R.Nodup ∧ (∀ r ∈ R, r < n) ∧ D.Nodup ∧ (∀ j ∈ D, j < m) ∧ D.length < R.length ∧ ∀ r ∈ R, ∀ j, j < m → 0 ≤ c r j → j ∈ D
theorem nodup_map {α β : Type} {f : α → β} : ∀ {l : List α}, l.Nodup → (∀ a ∈ l, ∀ b ∈ l, f a = f b → a = b) → (l.map f).Nodup
 | [], _, _ => by simp
 | a :: r, hn, h => by
  obtain ⟨h1, h2⟩ := List.nodup_cons.1 hn
  rw [List.map_cons, List.nodup_cons]
  refine ⟨fun hm => ?_, nodup_map h2 (fun x hx y hy => h x (List.mem_cons_of_mem _ hx) y (List.mem_cons_of_mem _ hy))⟩
  obtain ⟨b, hb, e⟩ := List.mem_map.1 hm
  exact h1 (h b (List.mem_cons_of_mem _ hb) a List.mem_cons_self e ▸ hb)
theorem Srch.fail (h : Srch n m c i own u v D frm V) (howned : ∀ j ∈ D, 0 ≤ own j) (hc : ∀ r j, c r j ≤ topC) (hV : topC + V < neverI)
  (hN : NearOk m c i own u v D (Lab D) near frm) (hno : ∀ j, j < m → j ∉ D → neverI ≤ near j) : Hall n m c := by
 refine ⟨i :: D.map (fun j => (own j).toNat), D, ?_, ?_, h.nd, h.dm, by simp, ?_⟩
 ·rw [List.nodup_cons]
  constructor
  ·intro hm
   obtain ⟨b, hb, e⟩ := List.mem_map.1 hm
   have := h.pot.lo b (h.dm b hb); have := howned b hb
   omega
  ·refine nodup_map h.nd ?_
   intro a ha b hb e
   have h1 := howned a ha; have h2 := howned b hb
   exact h.pot.inj a b (h.dm a ha) (h.dm b hb) h1 (by omega)
 ·intro r hr
  rcases List.mem_cons.1 hr with rfl | hr
  ·exact h.hi
  ·obtain ⟨b, hb, rfl⟩ := List.mem_map.1 hr
   have := h.pot.lo b (h.dm b hb); have := h.hi
   omega
 ·intro r hr j hj hcj
  rcases Classical.em (j ∈ D) with hjd | hjd
  ·exact hjd
  ·exfalso
   have hx : ∃ x, Lab D x ∧ rowOf i own x = r := by
    rcases List.mem_cons.1 hr with rfl | hr
    ·exact ⟨-1, Or.inl rfl, rowOf_neg _ _⟩
    ·obtain ⟨b, hb, rfl⟩ := List.mem_map.1 hr
     exact ⟨b, Or.inr ⟨b, hb, rfl⟩, by rw [rowOf_nat]⟩
   obtain ⟨x, hx, rfl⟩ := hx
   obtain ⟨_, a2, _⟩ := hN j hj hjd
   have := a2 x hx hcj
   have := hno j hj hjd
   have := hc (rowOf i own x) j
   have := h.upos (rowOf i own x)
   have := h.vo j hj hjd
   omega
structure Aug (m : Nat) (c : Nat → Nat → Int) (i : Nat) (own u v : Nat → Int) (a : Nat) (r : List Nat) (own' : Nat → Int) : Prop where
 same : ∀ j ∈ r, own' j = own j
 lo : ∀ j, j < m → j ≠ a → own' j = -1 ∨ 0 ≤ own' j ∧ own' j < i
 inj : ∀ j j', j < m → j' < m → j ≠ a → j' ≠ a → 0 ≤ own' j → own' j = own' j' → j = j'
 sur : ∀ x : Nat, x < i → ∃ j, j < m ∧ j ≠ a ∧ own' j = (x : Int)
 tight : ∀ j, j < m → j ≠ a → 0 ≤ own' j → 0 ≤ c (own' j).toNat j ∧ u (own' j).toNat + v j = c (own' j).toNat j
 free : ∀ j, j < m → j ≠ a → own' j = -1 → v j = 0
theorem Aug.last {own' : Nat → Int} {a : Nat} {r : List Nat} (ha : a < m) (h : Aug m c i own u v a r own') (hch : ChainOk c i own u v frm (a :: r)) (hf : frm a = -1) (hneg : ∀ j, j < m → v j ≤ 0)
  {own2 : Nat → Int} (h2 : ∀ j, own2 j = if j = a then (i : Int) else own' j) : Pot m c (i + 1) own2 u v := by
 obtain ⟨_, e2, e3, _⟩ := hch
 rw [hf, rowOf_neg] at e2 e3
 have e : own2 a = i := by rw [h2, if_pos rfl]
 have ne : ∀ j, j ≠ a → own2 j = own' j := fun j hj => by rw [h2, if_neg hj]
 refine ⟨?_, ?_, ?_, ?_, hneg, ?_⟩
 ·intro j hj
  by_cases hja : j = a
  ·subst hja; rw [e]; omega
  ·rw [ne j hja]; have := h.lo j hj hja; omega
 ·intro j j' hj hj' h0 heq
  by_cases hja : j = a
  ·by_cases hja' : j' = a
   ·rw [hja, hja']
   ·rw [hja, e, ne j' hja'] at heq
    have := h.lo j' hj' hja'; omega
  ·by_cases hja' : j' = a
   ·rw [hja', e, ne j hja] at heq
    have := h.lo j hj hja; omega
   ·rw [ne j hja, ne j' hja'] at heq
    rw [ne j hja] at h0
    exact h.inj j j' hj hj' hja hja' h0 heq
 ·intro x hx
  by_cases hxi : x = i
  ·subst hxi; exact ⟨a, ha, e⟩
  ·obtain ⟨j, hj, hja, e4⟩ := h.sur x (by omega)
   exact ⟨j, hj, by rw [ne j hja]; exact e4⟩
 ·intro j hj h0
  by_cases hja : j = a
  ·subst hja; rw [e]; exact ⟨by simpa using e2, by simpa using e3⟩
  ·rw [ne j hja] at h0 ⊢; exact h.tight j hj hja h0
 ·intro j hj h0
  by_cases hja : j = a
  ·subst hja; rw [e] at h0; omega
  ·rw [ne j hja] at h0; exact h.free j hj hja h0
theorem Aug.step {own' : Nat → Int} {a b : Nat} {r : List Nat} (ha : a < m) (hb : b < m) (h : Aug m c i own u v a r own') (hch : ChainOk c i own u v frm (a :: r)) (hf : frm a = (b : Int)) (hbr : b ∈ r) (hab : a ≠ b) (hown : 0 ≤ own b)
  {r' : List Nat} (hr' : ∀ x ∈ r', x ∈ r ∧ x ≠ a) {own2 : Nat → Int} (h2 : ∀ j, own2 j = if j = a then own' b else own' j) : Aug m c i own u v b r' own2 := by
 obtain ⟨_, e2, e3, _⟩ := hch
 rw [hf, rowOf_nat] at e2 e3
 have hs := h.same b hbr
 have e : own2 a = own b := by rw [h2, if_pos rfl, hs]
 have ne : ∀ j, j ≠ a → own2 j = own' j := fun j hj => by rw [h2, if_neg hj]
 have hlob := h.lo b hb (Ne.symm hab)
 rw [hs] at hlob
 refine ⟨?_, ?_, ?_, ?_, ?_, ?_⟩
 ·intro j hj
  obtain ⟨h3, h4⟩ := hr' j hj
  rw [ne j h4]; exact h.same j h3
 ·intro j hj hjb
  by_cases hja : j = a
  ·subst hja; rw [e]; exact hlob
  ·rw [ne j hja]; exact h.lo j hj hja
 ·intro j j' hj hj' hjb hjb' h0 heq
  by_cases hja : j = a
  ·by_cases hja' : j' = a
   ·rw [hja, hja']
   ·rw [hja, e, ne j' hja', ← hs] at heq
    rw [hja, e, ← hs] at h0
    exact absurd (h.inj b j' hb hj' (Ne.symm hab) hja' h0 heq).symm hjb'
  ·by_cases hja' : j' = a
   ·rw [hja', e, ne j hja, ← hs] at heq
    rw [ne j hja] at h0
    exact absurd (h.inj j b hj hb hja (Ne.symm hab) h0 heq) hjb
   ·rw [ne j hja, ne j' hja'] at heq
    rw [ne j hja] at h0
    exact h.inj j j' hj hj' hja hja' h0 heq
 ·intro x hx
  obtain ⟨j, hj, hja, e4⟩ := h.sur x hx
  by_cases hjb : j = b
  ·subst hjb; exact ⟨a, ha, hab, by rw [e, ← hs]; exact e4⟩
  ·exact ⟨j, hj, hjb, by rw [ne j hja]; exact e4⟩
 ·intro j hj hjb h0
  by_cases hja : j = a
  ·subst hja; rw [e]; exact ⟨e2, e3⟩
  ·rw [ne j hja] at h0 ⊢; exact h.tight j hj hja h0
 ·intro j hj hjb h0
  by_cases hja : j = a
  ·subst hja; rw [e] at h0; omega
  ·rw [ne j hja] at h0; exact h.free j hj hja h0
end
end Go.Proofs.YtggcbblikgankaaGreatDoor
end
