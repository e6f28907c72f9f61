/- Contracts and plain laws on the way to the statement: part 6. -/
import Derived.Test.YtggcbblikgankaaGreatDoorZ1
import Derived.WalkKit
import Derived.Test.YtggcbblikgankaaGreatDoorZ3
set_option linter.unusedVariables false
set_option linter.unusedSimpArgs false
set_option maxRecDepth 100000
set_option maxHeartbeats 16000000
namespace Go.Proofs.YtggcbblikgankaaGreatDoor
open Go.Value (int)
open Go.IntKind (i64)
section
open Go.RowKit
def gi (l : List Int) (j : Nat) : Int := l[j]?.getD 0
def gb (l : List Bool) (j : Nat) : Bool := l[j]?.getD false
theorem Cw (l : List Int) (a : Nat) (x : Int) (j : Nat) (h : a < l.length) : gi (l.set a x) j = if j = a then x else gi l j := by
 unfold gi
 rw [List.getElem?_set]
 by_cases e : a = j
 ·subst e; simp [h]
 ·rw [if_neg e, if_neg (fun h => e h.symm)]
theorem Su (l : List Bool) (a : Nat) (x : Bool) (j : Nat) (h : a < l.length) : gb (l.set a x) j = if j = a then x else gb l j := by
 unfold gb
 rw [List.getElem?_set]
 by_cases e : a = j
 ·subst e; simp [h]
 ·rw [if_neg e, if_neg (fun h => e h.symm)]
theorem FL (m : Nat) (x : Int) {j : Nat} (h : j < m) : gi (List.replicate m x) j = x := by
 unfold gi; rw [List.getElem?_replicate, if_pos h]; rfl
theorem SE (m : Nat) (j : Nat) : gb (List.replicate m false) j = false := by
 unfold gb; rw [List.getElem?_replicate]; split <;> rfl
structure ScanS where
 near : List Int
 frm : List Int
 step : Int
 next : Int
def Gn (crow v : List Int) (done : List Bool) (ur a : Int) (s : ScanS) (j : Nat) : ScanS :=
 if gb done j = true then s else
 let s1 : ScanS := if 0 ≤ gi crow j ∧ wrap64 (wrap64 (gi crow j - ur) - gi v j) < gi s.near j then ⟨s.near.set j (wrap64 (wrap64 (gi crow j - ur) - gi v j)), s.frm.set j a, s.step, s.next⟩ else s
 if gi s1.near j < s1.step then ⟨s1.near, s1.frm, gi s1.near j, j⟩ else s1
def BQ (crow v : List Int) (done : List Bool) (ur a : Int) (near frm : List Int) (k : Nat) : ScanS := (List.range k).foldl (Gn crow v done ur a) ⟨near, frm, Ap, -1⟩
theorem If (crow v : List Int) (done : List Bool) (ur a : Int) (near frm : List Int) (k : Nat) : BQ crow v done ur a near frm (k + 1) = Gn crow v done ur a (BQ crow v done ur a near frm k) k := by
 unfold BQ; rw [List.range_succ, List.foldl_append]; rfl
structure ScanOk (crow v : List Int) (done : List Bool) (ur a : Int) (near frm : List Int) (m k : Nat) (s : ScanS) : Prop where
 ln : s.near.length = m
 lf : s.frm.length = m
 nr : ∀ j, j < m → gi s.near j = if (j < k ∧ gb done j = false) ∧ 0 ≤ gi crow j ∧ wrap64 (wrap64 (gi crow j - ur) - gi v j) < gi near j then wrap64 (wrap64 (gi crow j - ur) - gi v j) else gi near j
 fr : ∀ j, j < m → gi s.frm j = if (j < k ∧ gb done j = false) ∧ 0 ≤ gi crow j ∧ wrap64 (wrap64 (gi crow j - ur) - gi v j) < gi near j then a else gi frm j
 best : (s.next = -1 ∧ s.step = Ap ∧ ∀ j, j < k → gb done j = false → Ap ≤ gi s.near j) ∨ ∃ x : Nat, s.next = x ∧ x < k ∧ gb done x = false ∧ gi s.near x = s.step ∧ s.step < Ap ∧ ∀ j, j < k → gb done j = false → s.step ≤ gi s.near j
theorem GM (crow v : List Int) (done : List Bool) (ur a : Int) (near frm : List Int) (m : Nat) (hn : near.length = m) (hf : frm.length = m) : ∀ k, k ≤ m → ScanOk crow v done ur a near frm m k (BQ crow v done ur a near frm k)
 | 0, _ => ⟨hn, hf, fun j _ => by rw [if_neg (by omega)]; rfl, fun j _ => by rw [if_neg (by omega)]; rfl, Or.inl ⟨rfl, rfl, fun j h => by omega⟩⟩
 | k + 1, hk => by
  have ih := GM crow v done ur a near frm m hn hf k (by omega)
  rw [If]
  generalize BQ crow v done ur a near frm k = s at *
  obtain ⟨a1, a2, a3, a4, a5⟩ := ih
  unfold Gn
  by_cases hd : gb done k = true
  ·rw [if_pos hd]
   refine ⟨a1, a2, ?_, ?_, ?_⟩
   ·intro j hj
    rw [a3 j hj]
    by_cases hjk : j = k
    ·subst hjk; rw [if_neg (by omega), if_neg (by simp [hd])]
    ·have : (j < k) = (j < k + 1) := by apply propext; omega
     simp only [this]
   ·intro j hj
    rw [a4 j hj]
    by_cases hjk : j = k
    ·subst hjk; rw [if_neg (by omega), if_neg (by simp [hd])]
    ·have : (j < k) = (j < k + 1) := by apply propext; omega
     simp only [this]
   ·rcases a5 with ⟨b1, b2, b3⟩ | ⟨x, b1, b2, b3, b4, b5, b6⟩
    ·refine Or.inl ⟨b1, b2, fun j hj hjd => ?_⟩
     by_cases hjk : j = k
     ·subst hjk; rw [hd] at hjd; cases hjd
     ·exact b3 j (by omega) hjd
    ·refine Or.inr ⟨x, b1, by omega, b3, b4, b5, fun j hj hjd => ?_⟩
     by_cases hjk : j = k
     ·subst hjk; rw [hd] at hjd; cases hjd
     ·exact b6 j (by omega) hjd
  ·rw [if_neg hd]
   have hd' : gb done k = false := by cases h : gb done k <;> simp_all
   have h0 : gi s.near k = gi near k := by rw [a3 k (by omega), if_neg (by omega)]
   have h0f : gi s.frm k = gi frm k := by rw [a4 k (by omega), if_neg (by omega)]
   simp only
   generalize hd1 : wrap64 (wrap64 (gi crow k - ur) - gi v k) = d at *
   rw [h0]
   -- the state behind the first condition
   obtain ⟨s1, hs1, c1, c2, c3, c4, c5, c6⟩ : ∃ s1 : ScanS, (if 0 ≤ gi crow k ∧ d < gi near k then (⟨s.near.set k d, s.frm.set k a, s.step, s.next⟩ : ScanS) else s) = s1 ∧ s1.near.length = m ∧ s1.frm.length = m ∧ s1.step = s.step ∧ s1.next = s.next ∧ (∀ j, gi s1.near j = if j = k ∧ 0 ≤ gi crow k ∧ d < gi near k then d else gi s.near j) ∧ (∀ j, gi s1.frm j = if j = k ∧ 0 ≤ gi crow k ∧ d < gi near k then a else gi s.frm j) := by
    by_cases hq : 0 ≤ gi crow k ∧ d < gi near k
    ·rw [if_pos hq]
     refine ⟨_, rfl, by simp [a1], by simp [a2], rfl, rfl, ?_, ?_⟩
     ·intro j
      rw [Cw _ _ _ _ (by omega)]
      by_cases hjk : j = k
      ·rw [if_pos hjk, if_pos ⟨hjk, hq⟩]
      ·rw [if_neg hjk, if_neg (fun h => hjk h.1)]
     ·intro j
      rw [Cw _ _ _ _ (by omega)]
      by_cases hjk : j = k
      ·rw [if_pos hjk, if_pos ⟨hjk, hq⟩]
      ·rw [if_neg hjk, if_neg (fun h => hjk h.1)]
    ·rw [if_neg hq]
     exact ⟨s, rfl, a1, a2, rfl, rfl, fun j => by rw [if_neg (fun h => hq h.2)], fun j => by rw [if_neg (fun h => hq h.2)]⟩
   rw [hs1]
   have nr : ∀ j, j < m → gi s1.near j = if (j < k + 1 ∧ gb done j = false) ∧ 0 ≤ gi crow j ∧ wrap64 (wrap64 (gi crow j - ur) - gi v j) < gi near j then wrap64 (wrap64 (gi crow j - ur) - gi v j) else gi near j := by
    intro j hj
    rw [c5]
    by_cases hjk : j = k
    ·subst hjk
     rw [hd1, h0]
     by_cases hq : 0 ≤ gi crow j ∧ d < gi near j
     ·rw [if_pos ⟨rfl, hq⟩, if_pos ⟨⟨by omega, hd'⟩, hq⟩]
     ·rw [if_neg (fun h => hq h.2), if_neg (fun h => hq h.2)]
    ·rw [if_neg (fun h => hjk h.1), a3 j hj]
     have : (j < k) = (j < k + 1) := by apply propext; omega
     simp only [this]
   have fr : ∀ j, j < m → gi s1.frm j = if (j < k + 1 ∧ gb done j = false) ∧ 0 ≤ gi crow j ∧ wrap64 (wrap64 (gi crow j - ur) - gi v j) < gi near j then a else gi frm j := by
    intro j hj
    rw [c6]
    by_cases hjk : j = k
    ·subst hjk
     rw [hd1, h0f]
     by_cases hq : 0 ≤ gi crow j ∧ d < gi near j
     ·rw [if_pos ⟨rfl, hq⟩, if_pos ⟨⟨by omega, hd'⟩, hq⟩]
     ·rw [if_neg (fun h => hq h.2), if_neg (fun h => hq h.2)]
    ·rw [if_neg (fun h => hjk h.1), a4 j hj]
     have : (j < k) = (j < k + 1) := by apply propext; omega
     simp only [this]
   have old : ∀ j, j < k → gi s1.near j = gi s.near j := fun j hj => by rw [c5, if_neg (fun h => by omega)]
   by_cases hlt : gi s1.near k < s1.step
   ·rw [if_pos hlt]
    refine ⟨c1, c2, nr, fr, Or.inr ⟨k, rfl, by omega, hd', rfl, ?_, ?_⟩⟩
    ·show gi s1.near k < Ap
     rw [c3] at hlt
     rcases a5 with ⟨_, b2, _⟩ | ⟨x, _, _, _, _, b5, _⟩ <;> omega
    ·intro j hj hjd
     show gi s1.near k ≤ gi s1.near j
     by_cases hjk : j = k
     ·subst hjk; exact Int.le_refl _
     ·rw [old j (by omega)]
      rw [c3] at hlt
      rcases a5 with ⟨_, b2, b3⟩ | ⟨x, _, _, _, _, b5, b6⟩
      ·have := b3 j (by omega) hjd; omega
      ·have := b6 j (by omega) hjd; omega
   ·rw [if_neg hlt]
    refine ⟨c1, c2, nr, fr, ?_⟩
    rw [c3, c4]
    rw [c3] at hlt
    rcases a5 with ⟨b1, b2, b3⟩ | ⟨x, b1, b2, b3, b4, b5, b6⟩
    ·refine Or.inl ⟨b1, b2, fun j hj hjd => ?_⟩
     by_cases hjk : j = k
     ·subst hjk; omega
     ·rw [old j (by omega)]; exact b3 j (by omega) hjd
    ·refine Or.inr ⟨x, b1, by omega, b3, by rw [old x b2]; exact b4, b5, fun j hj hjd => ?_⟩
     by_cases hjk : j = k
     ·subst hjk; omega
     ·rw [old j (by omega)]; exact b6 j (by omega) hjd
structure ShiftS where
 u : List Int
 v : List Int
 near : List Int
def Ff (own : List Int) (done : List Bool) (step : Int) (s : ShiftS) (j : Nat) : ShiftS :=
 if gb done j = true then ⟨s.u.set (gi own j).toNat (wrap64 (gi s.u (gi own j).toNat + step)), s.v.set j (wrap64 (gi s.v j - step)), s.near⟩
 else if gi s.near j < Ap then ⟨s.u, s.v, s.near.set j (wrap64 (gi s.near j - step))⟩ else s
def B7 (own : List Int) (done : List Bool) (step : Int) (s : ShiftS) (k : Nat) : ShiftS := (List.range k).foldl (Ff own done step) s
theorem El (own : List Int) (done : List Bool) (step : Int) (s : ShiftS) (k : Nat) : B7 own done step s (k + 1) = Ff own done step (B7 own done step s k) k := by
 unfold B7; rw [List.range_succ, List.foldl_append]; rfl
structure ShiftOk (own : List Int) (done : List Bool) (step : Int) (s : ShiftS) (n m k : Nat) (s' : ShiftS) : Prop where
 lu : s'.u.length = n
 lv : s'.v.length = m
 ln : s'.near.length = m
 u : ∀ r, r < n → gi s'.u r = if ∃ j, j < k ∧ gb done j = true ∧ gi own j = (r : Int) then wrap64 (gi s.u r + step) else gi s.u r
 v : ∀ j, j < m → gi s'.v j = if j < k ∧ gb done j = true then wrap64 (gi s.v j - step) else gi s.v j
 nr : ∀ j, j < m → gi s'.near j = if (j < k ∧ gb done j = false) ∧ gi s.near j < Ap then wrap64 (gi s.near j - step) else gi s.near j
theorem LW (own : List Int) (done : List Bool) (step : Int) (s : ShiftS) (n m : Nat) (hu : s.u.length = n) (hv : s.v.length = m) (hn : s.near.length = m)
  (ho : ∀ j, j < m → gb done j = true → 0 ≤ gi own j ∧ gi own j < n) (hinj : ∀ j j', j < m → j' < m → gb done j = true → gb done j' = true → gi own j = gi own j' → j = j') :
  ∀ k, k ≤ m → ShiftOk own done step s n m k (B7 own done step s k)
 | 0, _ => ⟨hu, hv, hn, fun r _ => by rw [if_neg (by rintro ⟨j, h, _⟩; omega)]; rfl, fun j _ => by rw [if_neg (by omega)]; rfl, fun j _ => by rw [if_neg (by omega)]; rfl⟩
 | k + 1, hk => by
  have ih := LW own done step s n m hu hv hn ho hinj k (by omega)
  rw [El]
  generalize B7 own done step s k = t at *
  obtain ⟨a1, a2, a3, a4, a5, a6⟩ := ih
  unfold Ff
  by_cases hd : gb done k = true
  ·rw [if_pos hd]
   obtain ⟨o1, o2⟩ := ho k (by omega) hd
   have hun : gi t.u (gi own k).toNat = gi s.u (gi own k).toNat := by
    rw [a4 _ (by omega), if_neg]
    rintro ⟨j, h1, h2, h3⟩
    have := hinj j k (by omega) (by omega) h2 hd (by omega)
    omega
   have hvn : gi t.v k = gi s.v k := by rw [a5 k (by omega), if_neg (by omega)]
   refine ⟨by simp [a1], by simp [a2], a3, ?_, ?_, ?_⟩
   ·intro r hr
    show gi (t.u.set _ _) r = _
    rw [Cw _ _ _ _ (by omega), hun]
    by_cases hrk : r = (gi own k).toNat
    ·rw [if_pos hrk, if_pos ⟨k, by omega, hd, by omega⟩, hrk]
    ·rw [if_neg hrk, a4 r hr]
     have : (∃ j, j < k ∧ gb done j = true ∧ gi own j = (r : Int)) = (∃ j, j < k + 1 ∧ gb done j = true ∧ gi own j = (r : Int)) := by
      apply propext
      constructor
      ·rintro ⟨j, h1, h2⟩; exact ⟨j, by omega, h2⟩
      ·rintro ⟨j, h1, h2, h3⟩
       refine ⟨j, ?_, h2, h3⟩
       by_cases hjk : j = k
       ·subst hjk; omega
       ·omega
     simp only [this]
   ·intro j hj
    show gi (t.v.set _ _) j = _
    rw [Cw _ _ _ _ (by omega), hvn]
    by_cases hjk : j = k
    ·subst hjk; rw [if_pos rfl, if_pos ⟨by omega, hd⟩]
    ·rw [if_neg hjk, a5 j hj]
     have : (j < k) = (j < k + 1) := by apply propext; omega
     simp only [this]
   ·intro j hj
    rw [a6 j hj]
    by_cases hjk : j = k
    ·subst hjk; rw [if_neg (by omega), if_neg (by simp [hd])]
    ·have : (j < k) = (j < k + 1) := by apply propext; omega
     simp only [this]
  ·rw [if_neg hd]
   have hd' : gb done k = false := by cases h : gb done k <;> simp_all
   have hnn : gi t.near k = gi s.near k := by rw [a6 k (by omega), if_neg (by omega)]
   have hu' : ∀ r, r < n → gi t.u r = if ∃ j, j < k + 1 ∧ gb done j = true ∧ gi own j = (r : Int) then wrap64 (gi s.u r + step) else gi s.u r := by
    intro r hr
    rw [a4 r hr]
    have : (∃ j, j < k ∧ gb done j = true ∧ gi own j = (r : Int)) = (∃ j, j < k + 1 ∧ gb done j = true ∧ gi own j = (r : Int)) := by
     apply propext
     constructor
     ·rintro ⟨j, h1, h2⟩; exact ⟨j, by omega, h2⟩
     ·rintro ⟨j, h1, h2, h3⟩
      refine ⟨j, ?_, h2, h3⟩
      by_cases hjk : j = k
      ·subst hjk; exact absurd h2 hd
      ·omega
    simp only [this]
   have hv' : ∀ j, j < m → gi t.v j = if j < k + 1 ∧ gb done j = true then wrap64 (gi s.v j - step) else gi s.v j := by
    intro j hj
    rw [a5 j hj]
    by_cases hjk : j = k
    ·subst hjk; rw [if_neg (by omega), if_neg (fun h => hd h.2)]
    ·have : (j < k) = (j < k + 1) := by apply propext; omega
     simp only [this]
   rw [hnn]
   by_cases hq : gi s.near k < Ap
   ·rw [if_pos hq]
    refine ⟨a1, a2, by simp [a3], hu', hv', ?_⟩
    intro j hj
    show gi (t.near.set _ _) j = _
    rw [Cw _ _ _ _ (by omega)]
    by_cases hjk : j = k
    ·subst hjk; rw [if_pos rfl, if_pos ⟨⟨by omega, hd'⟩, hq⟩]
    ·rw [if_neg hjk, a6 j hj]
     have : (j < k) = (j < k + 1) := by apply propext; omega
     simp only [this]
   ·rw [if_neg hq]
    refine ⟨a1, a2, a3, hu', hv', ?_⟩
    intro j hj
    rw [a6 j hj]
    by_cases hjk : j = k
    ·subst hjk; rw [if_neg (by omega), if_neg (fun h => hq h.2)]
    ·have : (j < k) = (j < k + 1) := by apply propext; omega
     simp only [this]
def FS (n m : Nat) (own : List Int) (done : List Bool) : Bool := (List.range m).all fun j => !gb done j || (decide (0 ≤ gi own j) && decide (gi own j < n))
structure SrchS where
 u : List Int
 v : List Int
 near : List Int
 frm : List Int
 done : List Bool
 at_ : Int
 row : Nat
def Eo (cost : List (List Int)) (n m i : Nat) (own : List Int) : Nat → SrchS → Option (Option SrchS)
 | 0, _ => none
 | k + 1, s =>
  if s.row < n ∧ FS n m own s.done = true then
   let a := BQ (cost[s.row]?.getD []) s.v s.done (gi s.u s.row) s.at_ s.near s.frm m
   if a.next < 0 then some none else
   let b := B7 own s.done a.step ⟨s.u.set i (wrap64 (gi s.u i + a.step)), s.v, a.near⟩ m
   if gi own a.next.toNat < 0 then some (some ⟨b.u, b.v, b.near, a.frm, s.done.set a.next.toNat true, a.next, s.row⟩)
   else Eo cost n m i own k ⟨b.u, b.v, b.near, a.frm, s.done.set a.next.toNat true, a.next, (gi own a.next.toNat).toNat⟩
  else none
def EL (i m : Nat) (frm : List Int) : Nat → List Int → Int → Option (List Int)
 | 0, own, a => if a < 0 then some own else none
 | k + 1, own, a =>
  if a < 0 then some own else
  if a < m ∧ gi frm a.toNat < m then
   EL i m frm k (if 0 ≤ gi frm a.toNat then (own.set a.toNat i).set a.toNat (gi (own.set a.toNat i) (gi frm a.toNat).toNat) else own.set a.toNat i) (gi frm a.toNat)
  else none
structure PhaseS where
 u : List Int
 v : List Int
 own : List Int
def Dj (cost : List (List Int)) (n m i : Nat) (s : PhaseS) : Option (Option PhaseS) :=
 match Eo cost n m i s.own (m + 1) ⟨s.u, s.v, List.replicate m Ap, List.replicate m 0, List.replicate m false, -1, i⟩ with
 | none => none
 | some none => some none
 | some (some t) => match EL i m t.frm (m + 1) s.own t.at_ with
  | none => none
  | some own => some (some ⟨t.u, t.v, own⟩)
def Aw (cost : List (List Int)) (n m : Nat) : Nat → Option (Option PhaseS)
 | 0 => some (some ⟨List.replicate n 0, List.replicate m 0, List.replicate m (-1)⟩)
 | i + 1 => match Aw cost n m i with
  | none => none
  | some none => some none
  | some (some s) => Dj cost n m i s
def to1 (own : List Int) (to : List Int) (j : Nat) : List Int := if 0 ≤ gi own j then to.set (gi own j).toNat j else to
def toK (n : Nat) (own : List Int) (k : Nat) : List Int := (List.range k).foldl (to1 own) (List.replicate n 0)
theorem Iz (n : Nat) (own : List Int) (k : Nat) : toK n own (k + 1) = to1 own (toK n own k) k := by
 unfold toK; rw [List.range_succ, List.foldl_append]; rfl
structure SolS where
 to : List Int
 u : List Int
 v : List Int
def EX (cost : List (List Int)) (m : Nat) : Option (Option SolS) :=
 match Aw cost cost.length m cost.length with
 | none => none
 | some none => some none
 | some (some s) => some (some ⟨toK cost.length s.own m, s.u, s.v⟩)
end
section
open Go.RowKit
def cI (cost : List (List Int)) (r j : Nat) : Int := gi (cost[r]?.getD []) j
theorem nw {x : Int} (h1 : -4611686018427387904 ≤ x) (h2 : x ≤ 4611686018427387904) : wrap64 x = x := IntWalk.wrap64_in _ (by omega)
theorem NE {α : Type} {p q : Prop} [Decidable p] [Decidable q] {x y : α} (h : p ↔ q) : (if p then x else y) = if q then x else y := by
 by_cases hp : p
 ·rw [if_pos hp, if_pos (h.1 hp)]
 ·rw [if_neg hp, if_neg (fun hq => hp (h.2 hq))]
theorem Ej {l : List Int} {j : Nat} (h : l.length ≤ j) : gi l j = 0 := by
 unfold gi; rw [List.getElem?_eq_none h]; rfl
structure SrA (cost : List (List Int)) (n m i : Nat) (own : List Int) (V : Int) (D : List Nat) (s : SrchS) : Prop where
 lu : s.u.length = n
 lv : s.v.length = m
 ln : s.near.length = m
 lf : s.frm.length = m
 ld : s.done.length = m
 hd : ∀ j, j < m → (gb s.done j = true ↔ j ∈ D)
 srch : Srch n m (cI cost) i (gi own) (gi s.u) (gi s.v) D (gi s.frm) V
 owned : ∀ j ∈ D, 0 ≤ gi own j
 near : NearOk m (cI cost) i (gi own) (gi s.u) (gi s.v) D (fun x => Lab D x ∧ x ≠ s.at_) (gi s.near) (gi s.frm)
 at_ : Lab D s.at_
 row : An i (gi own) s.at_ = s.row
section
variable {cost : List (List Int)} {n m i : Nat} {own : List Int} {V : Int}
theorem Srch.small {c : Nat → Nat → Int} {o u v frm : Nat → Int} {D : List Nat} (h : Srch n m c i o u v D frm V) (hm : m ≤ 16) (hV0 : 0 ≤ V) (hV : V ≤ 285212672) (hc : ∀ r j, c r j ≤ AV) (howned : ∀ j ∈ D, 0 ≤ o j) :
  D.length ≤ 16 ∧ u i ≤ 4580179968 ∧ (∀ x, Lab D x → u (An i o x) ≤ 9160359936) ∧ ∀ j, j < m → -9160359936 ≤ v j := by
 have hl := CV m D h.nd h.dm
 have hT : AV = 1048576 := rfl
 have h1 : (D.length : Int) * (AV + V) ≤ 16 * (AV + V) := Int.mul_le_mul_of_nonneg_right (by omega) (by omega)
 have h2 := h.ub
 have hui : u i ≤ 4580179968 := by omega
 refine ⟨by omega, hui, ?_, fun j hj => by have := h.vb j hj; omega⟩
 intro x hx
 rcases hx with rfl | ⟨b, hb, rfl⟩
 ·rw [Cg]; omega
 ·rw [Be]
  have ht := h.pot.tight b (h.dm b hb) (howned b hb)
  have := h.vb b (h.dm b hb)
  have := hc (o b).toNat b
  omega
def Rq (cost : List (List Int)) (n m i : Nat) (own : List Int) (V : Int) (r : Option (Option SrchS)) : Prop :=
 (r = some none ∧ IJ n m (cI cost)) ∨ ∃ (t : SrchS) (a : Nat) (D : List Nat), r = some (some t) ∧ t.at_ = (a : Int) ∧ gi own a = -1 ∧ (∀ j ∈ D, 0 ≤ gi own j) ∧ Srch n m (cI cost) i (gi own) (gi t.u) (gi t.v) (a :: D) (gi t.frm) V ∧ t.u.length = n ∧ t.v.length = m ∧ t.frm.length = m
theorem Ni (hn : n ≤ 16) (hm : m ≤ 16) (hc : ∀ r j, cI cost r j ≤ AV) (hc0 : ∀ r j, -1 ≤ cI cost r j) (hi : i < n) (hV0 : 0 ≤ V) (hV : V ≤ 285212672) (hlo : own.length = m) :
  ∀ (k : Nat) (s : SrchS) (D : List Nat), SrA cost n m i own V D s → m + 1 ≤ k + D.length → Rq cost n m i own V (Eo cost n m i own k s)
 | 0, s, D, h, hk => by
  have := CV m D h.srch.nd h.srch.dm
  omega
 | k + 1, s, D, h, hk => by
  have ih := Ni hn hm hc hc0 hi hV0 hV hlo k
  have hT : AV = 1048576 := rfl
  have hNv : Ap = 1152921504606846976 := rfl
  have hsrch := h.srch
  obtain ⟨hD16, hui, hul, hvl⟩ := hsrch.small hm hV0 hV hc h.owned
  have hrow : s.row < n := by rw [← h.row]; exact (hsrch.row_lt h.at_).1
  have hown : FS n m own s.done = true := by
   unfold FS
   rw [List.all_eq_true]
   intro j hj
   have hjm : j < m := by simpa using hj
   by_cases hd : gb s.done j = true
   ·have h1 := h.owned j ((h.hd j hjm).1 hd)
    have h2 := hsrch.pot.lo j hjm
    simp only [Bool.or_eq_true, Bool.and_eq_true, decide_eq_true_eq]
    right; omega
   ·simp [hd]
  rw [Eo, if_pos ⟨hrow, hown⟩]
  simp only
  have ok := GM (cost[s.row]?.getD []) s.v s.done (gi s.u s.row) s.at_ s.near s.frm m h.ln h.lf m (qn _)
  generalize BQ (cost[s.row]?.getD []) s.v s.done (gi s.u s.row) s.at_ s.near s.frm m = a at *
  have hur : gi s.u s.row ≤ 9160359936 := by have := hul _ h.at_; rwa [h.row] at this
  have hup := hsrch.upos s.row
  have hdw : ∀ j, j < m → wrap64 (wrap64 (gi (cost[s.row]?.getD []) j - gi s.u s.row) - gi s.v j) = cI cost s.row j - gi s.u s.row - gi s.v j := by
   intro j hj
   have h1 := hc s.row j; have h2 := hc0 s.row j; have h3 := hvl j hj; have h4 := hsrch.pot.neg j hj
   unfold cI at h1 h2 ⊢
   rw [nw (x := gi (cost[s.row]?.getD []) j - gi s.u s.row) (by omega) (by omega), nw (by omega) (by omega)]
  have hdone : ∀ j, j < m → (gb s.done j = false ↔ j ∉ D) := by
   intro j hj
   have := h.hd j hj
   cases hg : gb s.done j <;> simp_all
  -- the scan, read as functions
  have hnr : ∀ j, j < m → j ∉ D → gi a.near j = if 0 ≤ cI cost (An i (gi own) s.at_) j ∧ cI cost (An i (gi own) s.at_) j - gi s.u (An i (gi own) s.at_) - gi s.v j < gi s.near j then cI cost (An i (gi own) s.at_) j - gi s.u (An i (gi own) s.at_) - gi s.v j else gi s.near j := by
   intro j hj hjd
   rw [ok.nr j hj, hdw j hj, h.row]
   exact NE ⟨fun h => h.2, fun h => ⟨⟨hj, (hdone j hj).2 hjd⟩, h⟩⟩
  have hfr : ∀ j, j < m → j ∉ D → gi a.frm j = if 0 ≤ cI cost (An i (gi own) s.at_) j ∧ cI cost (An i (gi own) s.at_) j - gi s.u (An i (gi own) s.at_) - gi s.v j < gi s.near j then s.at_ else gi s.frm j := by
   intro j hj hjd
   rw [ok.fr j hj, hdw j hj, h.row]
   exact NE ⟨fun h => h.2, fun h => ⟨⟨hj, (hdone j hj).2 hjd⟩, h⟩⟩
  have hfD : ∀ b ∈ D, gi a.frm b = gi s.frm b := by
   intro b hb
   have hbm := hsrch.dm b hb
   rw [ok.fr b hbm, if_neg]
   rintro ⟨⟨_, h1⟩, _⟩
   exact (hdone b hbm).1 h1 hb
  have hN1 := h.near.scan h.at_ hnr hfr
  have hN : NearOk m (cI cost) i (gi own) (gi s.u) (gi s.v) D (Lab D) (gi a.near) (gi a.frm) := by
   intro j hj hjd
   obtain ⟨b1, b2, b3⟩ := hN1 j hj hjd
   exact ⟨b1, fun x hx => b2 x ((Classical.em (x = s.at_)).elim (fun e => Or.inr e) (fun e => Or.inl ⟨hx, e⟩)), b3⟩
  have hS := hsrch.from_ hfD
  rcases ok.best with ⟨e1, e2, e3⟩ | ⟨x, e1, e2, e3, e4, e5, e6⟩
  ·rw [if_pos (by omega)]
   exact Or.inl ⟨rfl, hS.fail h.owned hc (by omega) hN (fun j hj hjd => e3 j hj ((hdone j hj).2 hjd))⟩
  ·have hxD : x ∉ D := (hdone x e2).1 e3
   rw [if_neg (by omega)]
   have hxt : a.next.toNat = x := by omega
   rw [hxt, e1]
   -- the shift
   have hstep0 : 0 ≤ a.step ∧ a.step ≤ 20000000000 := by
    obtain ⟨_, _, n3⟩ := hN x e2 hxD
    obtain ⟨l1, l2, l3⟩ := n3 (by omega)
    have := hS.fit _ x (hS.row_lt l1).1 e2 l2
    have := hc (An i (gi own) (gi a.frm x)) x
    have := hsrch.upos (An i (gi own) (gi a.frm x))
    have := hvl x e2
    omega
   have hio : ∀ j, j < m → gb s.done j = true → 0 ≤ gi own j ∧ gi own j < n := by
    intro j hj hd
    have := h.owned j ((h.hd j hj).1 hd); have := hsrch.pot.lo j hj
    omega
   have hinj : ∀ j j', j < m → j' < m → gb s.done j = true → gb s.done j' = true → gi own j = gi own j' → j = j' := fun j j' hj hj' hd hd' he => hsrch.pot.inj j j' hj hj' (h.owned j ((h.hd j hj).1 hd)) he
   have sok := LW own s.done a.step ⟨s.u.set i (wrap64 (gi s.u i + a.step)), s.v, a.near⟩ n m (by simp [h.lu]) h.lv ok.ln hio hinj m (qn _)
   generalize B7 own s.done a.step ⟨s.u.set i (wrap64 (gi s.u i + a.step)), s.v, a.near⟩ m = b at *
   have hlu := h.lu; have hlv := h.lv
   have hu : ∀ r, gi b.u r = if r = i ∨ (∃ j, j ∈ D ∧ gi own j = (r : Int)) then gi s.u r + a.step else gi s.u r := by
    intro r
    by_cases hr : r < n
    ·rw [sok.u r hr]
     simp only
     rw [Cw _ _ _ _ (by omega)]
     have e : (∃ j, j < m ∧ gb s.done j = true ∧ gi own j = (r : Int)) = (∃ j, j ∈ D ∧ gi own j = (r : Int)) := by
      apply propext
      constructor
      ·rintro ⟨j, h1, h2, h3⟩; exact ⟨j, (h.hd j h1).1 h2, h3⟩
      ·rintro ⟨j, h1, h3⟩; exact ⟨j, hsrch.dm j h1, (h.hd j (hsrch.dm j h1)).2 h1, h3⟩
     simp only [e]
     by_cases hri : r = i
     ·have hno : ¬ ∃ j, j ∈ D ∧ gi own j = (r : Int) := by
       rintro ⟨j, hj, h3⟩
       have := hsrch.pot.lo j (hsrch.dm j hj)
       omega
      have := hsrch.upos i
      rw [if_neg hno, if_pos hri, if_pos (Or.inl hri), nw (by omega) (by omega), hri]
     ·rw [if_neg hri]
      by_cases hex : ∃ j, j ∈ D ∧ gi own j = (r : Int)
      ·rw [if_pos hex, if_pos (Or.inr hex)]
       obtain ⟨j, hj, h3⟩ := hex
       have h4 := hul j (Or.inr ⟨j, hj, rfl⟩)
       rw [Be, h3] at h4
       have h5 := hsrch.upos r
       simp only [Int.toNat_natCast] at h4
       exact nw (by omega) (by omega)
      ·rw [if_neg hex, if_neg (fun h => h.elim hri hex)]
    ·rw [Ej (by rw [sok.lu]; omega), Ej (by omega), if_neg]
     rintro (h1 | ⟨j, hj, h3⟩)
     ·omega
     ·have := hsrch.pot.lo j (hsrch.dm j hj); omega
   have hv : ∀ j, gi b.v j = if j ∈ D then gi s.v j - a.step else gi s.v j := by
    intro j
    by_cases hj : j < m
    ·rw [sok.v j hj]
     simp only
     by_cases hjd : j ∈ D
     ·have := hvl j hj; have := hsrch.pot.neg j hj
      rw [if_pos ⟨hj, (h.hd j hj).2 hjd⟩, if_pos hjd, nw (by omega) (by omega)]
     ·rw [if_neg (fun h2 => hjd ((h.hd j hj).1 h2.2)), if_neg hjd]
    ·rw [Ej (by rw [sok.lv]; omega), Ej (by omega), if_neg (fun hd => hj (hsrch.dm j hd))]
   have hnn : ∀ j, j < m → j ∉ D → gi b.near j = if gi a.near j < Ap then gi a.near j - a.step else gi a.near j := by
    intro j hj hjd
    rw [sok.nr j hj]
    simp only
    have hq := e6 j hj ((hdone j hj).2 hjd)
    by_cases hlt : gi a.near j < Ap
    ·rw [if_pos ⟨⟨hj, (hdone j hj).2 hjd⟩, hlt⟩, if_pos hlt, nw (by omega) (by omega)]
    ·rw [if_neg (fun h2 => hlt h2.2), if_neg hlt]
   obtain ⟨hS', hN', _⟩ := hS.shift h.owned hc hV0 (by omega) hN e2 hxD e4 e5 (fun j hj hjd => e6 j hj ((hdone j hj).2 hjd)) hu hv hnn
   have hlox := hsrch.pot.lo x e2
   by_cases hf : gi own x < 0
   ·rw [if_pos hf]
    exact Or.inr ⟨_, x, D, rfl, rfl, by omega, h.owned, hS', sok.lu, sok.lv, ok.lf⟩
   ·rw [if_neg hf]
    refine ih _ (x :: D) ⟨sok.lu, sok.lv, sok.ln, ok.lf, by simp [h.ld], ?_, hS', ?_, ?_, ?_, ?_⟩ (by rw [List.length_cons]; omega)
    ·intro j hj
     show gb (s.done.set x true) j = true ↔ _
     rw [Su _ _ _ _ (by rw [h.ld]; exact e2), List.mem_cons]
     by_cases hjx : j = x
     ·simp [hjx]
     ·rw [if_neg hjx]
      constructor
      ·intro h1; exact Or.inr ((h.hd j hj).1 h1)
      ·rintro (h1 | h1)
       ·exact absurd h1 hjx
       ·exact (h.hd j hj).2 h1
    ·intro j hj
     rcases List.mem_cons.1 hj with rfl | hj
     ·omega
     ·exact h.owned j hj
    ·intro j hj hjd
     obtain ⟨b1, b2, b3⟩ := hN' j hj hjd
     refine ⟨b1, fun y hy => b2 y ?_, b3⟩
     obtain ⟨hy1, hy2⟩ := hy
     rcases hy1 with h1 | ⟨b0, hb0, h1⟩
     ·exact Or.inl h1
     ·rcases List.mem_cons.1 hb0 with rfl | hb0
      ·exact absurd h1 hy2
      ·exact Or.inr ⟨b0, hb0, h1⟩
    ·exact Or.inr ⟨x, List.mem_cons_self, rfl⟩
    ·exact Be _ _ _
theorem ChainOk.drop {c : Nat → Nat → Int} {o u v frm : Nat → Int} : ∀ {l1 l2 : List Nat}, ChainOk c i o u v frm (l1 ++ l2) → ChainOk c i o u v frm l2
 | [], _, h => h
 | _ :: _, _, h => ChainOk.drop (h.2.2.2)
theorem PH (frm : List Int) (k : Nat) (o : List Int) : EL i m frm k o (-1) = some o := by
 cases k <;> simp [EL]
theorem QM {c : Nat → Nat → Int} {o u v : Nat → Int} {frm : List Int} (hneg : ∀ j, j < m → v j ≤ 0) : ∀ (k : Nat) (own' : List Int) (a : Nat) (r : List Nat), Aug m c i o u v a r (gi own') → ChainOk c i o u v (gi frm) (a :: r) → (∀ b ∈ a :: r, b < m) → (a :: r).Nodup → (∀ b ∈ r, 0 ≤ o b) → own'.length = m → r.length + 1 ≤ k →
  ∃ w, EL i m frm k own' a = some w ∧ w.length = m ∧ Pot m c (i + 1) (gi w) u v
 | 0, _, _, _, _, _, _, _, _, _, hk => by omega
 | k + 1, own', a, r, hA, hch, hlt, hnd, how, hl, hk => by
  have ham := hlt a List.mem_cons_self
  have hlab := hch.1
  rw [EL, if_neg (by omega)]
  simp only [Int.toNat_natCast]
  rcases hlab with e | ⟨b, hb, e⟩
  ·rw [if_pos ⟨by omega, by omega⟩, e, if_neg (by omega), PH]
   refine ⟨_, rfl, by simp [hl], hA.last ham hch e hneg (fun j => ?_)⟩
   rw [Cw _ _ _ _ (by omega)]
  ·have hbm := hlt b (List.mem_cons_of_mem _ hb)
   have hab : a ≠ b := fun h => (List.nodup_cons.1 hnd).1 (h ▸ hb)
   rw [if_pos ⟨by omega, by omega⟩, e, if_pos (by omega)]
   simp only [Int.toNat_natCast]
   obtain ⟨r1, r2, hr⟩ := List.append_of_mem hb
   have hnd2 := (List.nodup_cons.1 hnd).2
   refine QM hneg k _ b r2 (hA.step (r' := r2) ham hbm hch e hb hab (how b hb) ?_ (fun j => ?_)) ?_ ?_ ?_ ?_ (by simp [hl]) ?_
   ·intro x hx
    have hxr : x ∈ r := by rw [hr]; simp [hx]
    exact ⟨hxr, fun h => (List.nodup_cons.1 hnd).1 (h ▸ hxr)⟩
   ·rw [Cw _ _ _ _ (by simp; omega), Cw _ _ _ _ (by omega), Cw _ _ _ _ (by omega), if_neg (Ne.symm hab)]
    by_cases hja : j = a
    ·rw [if_pos hja, if_pos hja]
    ·rw [if_neg hja, if_neg hja, if_neg hja]
   ·have := hch.2.2.2
    rw [hr] at this
    exact this.drop
   ·intro x hx
    exact hlt x (List.mem_cons_of_mem _ (by rw [hr]; exact List.mem_append_right _ hx))
   ·rw [hr] at hnd2
    exact (List.nodup_append.1 hnd2).2.1
   ·intro x hx
    exact how x (by rw [hr]; simp [hx])
   ·rw [hr] at hk
    simp at hk
    omega
structure PhA (cost : List (List Int)) (n m i : Nat) (s : PhaseS) : Prop where
 lu : s.u.length = n
 lv : s.v.length = m
 lo : s.own.length = m
 pot : Pot m (cI cost) i (gi s.own) (gi s.u) (gi s.v)
 fit : ∀ r j, r < n → j < m → 0 ≤ cI cost r j → gi s.u r + gi s.v j ≤ cI cost r j
 later : ∀ r, i ≤ r → gi s.u r = 0
 upos : ∀ r, 0 ≤ gi s.u r
 vb : ∀ j, j < m → -(17825792 * (i : Int)) ≤ gi s.v j
theorem Qb (hn : n ≤ 16) (hm : m ≤ 16) (hc : ∀ r j, cI cost r j ≤ AV) (hc0 : ∀ r j, -1 ≤ cI cost r j) (hi : i < n) {s : PhaseS} (h : PhA cost n m i s) :
  (Dj cost n m i s = some none ∧ IJ n m (cI cost)) ∨ ∃ t, Dj cost n m i s = some (some t) ∧ PhA cost n m (i + 1) t := by
 have hT : AV = 1048576 := rfl
 have hst : SrA cost n m i s.own (17825792 * (i : Int)) [] ⟨s.u, s.v, List.replicate m Ap, List.replicate m 0, List.replicate m false, -1, i⟩ := by
  refine ⟨h.lu, h.lv, by simp, by simp, by simp, fun j hj => by simp [SE], ⟨h.pot, hi, List.nodup_nil, fun j hj => absurd hj (by simp), h.fit, fun r hr => h.later r (by omega), h.upos, ?_, ?_, fun j hj _ => h.vb j hj, fun j hj => absurd hj (by simp), trivial⟩, fun j hj => absurd hj (by simp), ?_, Or.inl rfl, rfl⟩
  ·show gi s.u i ≤ _
   rw [h.later i (qn _)]; simp
  ·intro j hj
   show -(17825792 * (i : Int) + gi s.u i) ≤ gi s.v j
   rw [h.later i (qn _)]
   have := h.vb j hj
   omega
  ·intro j hj _
   have e : gi (List.replicate m Ap) j = Ap := FL m _ hj
   refine ⟨by show gi (List.replicate m Ap) j ≤ Ap; omega, ?_, fun hlt => by change gi (List.replicate m Ap) j < Ap at hlt; omega⟩
   rintro x ⟨h1 | ⟨b, hb, _⟩, h2⟩
   ·exact absurd h1 h2
   ·cases hb
 have hend := Ni (V := 17825792 * (i : Int)) hn hm hc hc0 hi (by omega) (by omega) h.lo (m + 1) _ [] hst (by simp)
 unfold Dj
 generalize Eo cost n m i s.own (m + 1) ⟨s.u, s.v, List.replicate m Ap, List.replicate m 0, List.replicate m false, -1, i⟩ = res at *
 rcases hend with ⟨rfl, hH⟩ | ⟨t, a, D, rfl, ha, hfree, how, hS, l1, l2, l3⟩
 ·exact Or.inl ⟨rfl, hH⟩
 ·right
  have hDl := CV m (a :: D) hS.nd hS.dm
  rw [List.length_cons] at hDl
  obtain ⟨w, hw, hwl, hpot⟩ := QM (frm := t.frm) hS.pot.neg (m + 1) s.own a D (hS.pot.aug hfree D) hS.chain hS.dm hS.nd how h.lo (by omega)
  simp only [ha, hw]
  refine ⟨_, rfl, l1, l2, hwl, hpot, hS.fit, fun r hr => hS.later r (by omega), hS.upos, ?_⟩
  intro j hj
  have h1 := hS.vb j hj
  have h2 := hS.price how hc hfree
  have h3 : AV * ((D.length : Int) + 2) ≤ AV * 17 := Int.mul_le_mul_of_nonneg_left (by omega) (by decide)
  show -(17825792 * (((i + 1 : Nat)) : Int)) ≤ gi t.v j
  omega
theorem FQ (hn : n ≤ 16) (hm : m ≤ 16) (hc : ∀ r j, cI cost r j ≤ AV) (hc0 : ∀ r j, -1 ≤ cI cost r j) : ∀ k, k ≤ n → (Aw cost n m k = some none ∧ IJ n m (cI cost)) ∨ ∃ t, Aw cost n m k = some (some t) ∧ PhA cost n m k t
 | 0, _ => by
  right
  have z : ∀ r, gi (List.replicate n 0) r = 0 := fun r => by
   by_cases h : r < n
   ·exact FL n 0 h
   ·exact Ej (by simp; omega)
  have z2 : ∀ r, gi (List.replicate m 0) r = 0 := fun r => by
   by_cases h : r < m
   ·exact FL m 0 h
   ·exact Ej (by simp; omega)
  refine ⟨_, rfl, by simp, by simp, by simp, ⟨fun j hj => Or.inl (FL m _ hj), ?_, fun r hr => by omega, ?_, fun j _ => by rw [z2]; exact Int.le_refl _, fun j _ _ => z2 j⟩, ?_, fun r _ => z r, fun r => by rw [z]; exact Int.le_refl _, fun j _ => by rw [z2]; simp⟩
  ·intro j j' hj _ h0
   rw [FL m _ hj] at h0; omega
  ·intro j hj h0
   rw [FL m _ hj] at h0; omega
  ·intro r j _ _ h0
   rw [z, z2]; simpa using h0
 | k + 1, hk => by
  rcases FQ hn hm hc hc0 k (by omega) with ⟨h1, h2⟩ | ⟨t, h1, h2⟩
  ·left; rw [Aw, h1]; exact ⟨rfl, h2⟩
  ·rw [Aw, h1]
   exact Qb hn hm hc hc0 (by omega) h2
structure SolOk (n m : Nat) (c : Nat → Nat → Int) (s : SolS) : Prop where
 lt : s.to.length = n
 lu : s.u.length = n
 lv : s.v.length = m
 cast : ∀ r, r < n → ∃ j : Nat, j < m ∧ gi s.to r = (j : Int) ∧ 0 ≤ c r j ∧ gi s.u r + gi s.v j = c r j
 inj : ∀ r r', r < n → r' < n → gi s.to r = gi s.to r' → r = r'
 fit : ∀ r j, r < n → j < m → 0 ≤ c r j → gi s.u r + gi s.v j ≤ c r j
 neg : ∀ j, j < m → gi s.v j ≤ 0
 free : ∀ j, j < m → (∀ r, r < n → gi s.to r ≠ (j : Int)) → gi s.v j = 0
 upos : ∀ r, 0 ≤ gi s.u r
 vb : ∀ j, j < m → -285212672 ≤ gi s.v j
theorem Sb (own : List Int) (hl : own.length = m) (hlo : ∀ j, j < m → gi own j = -1 ∨ 0 ≤ gi own j ∧ gi own j < n) (hinj : ∀ j j', j < m → j' < m → 0 ≤ gi own j → gi own j = gi own j' → j = j') : ∀ k, k ≤ m → (toK n own k).length = n ∧ ∀ j, j < k → 0 ≤ gi own j → gi (toK n own k) (gi own j).toNat = (j : Int)
 | 0, _ => ⟨by simp [toK], fun j h => by omega⟩
 | k + 1, hk => by
  obtain ⟨h1, h2⟩ := Sb own hl hlo hinj k (by omega)
  rw [Iz]
  unfold to1
  have hlk := hlo k (by omega)
  by_cases h0 : 0 ≤ gi own k
  ·rw [if_pos h0]
   refine ⟨by simp [h1], ?_⟩
   intro j hj hj0
   rw [Cw _ _ _ _ (by omega)]
   by_cases hjk : j = k
   ·rw [hjk, if_pos rfl]
   ·rw [if_neg, h2 j (by omega) hj0]
    intro he
    have := hlo j (by omega)
    exact hjk (hinj j k (by omega) (by omega) hj0 (by omega))
  ·rw [if_neg h0]
   refine ⟨h1, fun j hj hj0 => ?_⟩
   exact h2 j (by
    by_cases hjk : j = k
    ·subst hjk; exact absurd hj0 h0
    ·omega) hj0
theorem Qv (hn : cost.length ≤ 16) (hm : m ≤ 16) (hc : ∀ r j, cI cost r j ≤ AV) (hc0 : ∀ r j, -1 ≤ cI cost r j) :
  (EX cost m = some none ∧ IJ cost.length m (cI cost)) ∨ ∃ s, EX cost m = some (some s) ∧ SolOk cost.length m (cI cost) s := by
 unfold EX
 rcases FQ hn hm hc hc0 cost.length (qn _) with ⟨h1, h2⟩ | ⟨t, h1, h⟩
 ·left; rw [h1]; exact ⟨rfl, h2⟩
 ·right
  rw [h1]
  obtain ⟨t1, t2⟩ := Sb (n := cost.length) t.own h.lo h.pot.lo h.pot.inj m (qn _)
  have own_to : ∀ r, r < cost.length → ∃ j : Nat, j < m ∧ gi t.own j = (r : Int) ∧ gi (toK cost.length t.own m) r = (j : Int) := by
   intro r hr
   obtain ⟨j, hj, e⟩ := h.pot.sur r hr
   refine ⟨j, hj, e, ?_⟩
   have := t2 j hj (by omega)
   rwa [e, Int.toNat_natCast] at this
  refine ⟨_, rfl, t1, h.lu, h.lv, ?_, ?_, h.fit, h.pot.neg, ?_, h.upos, ?_⟩
  ·intro r hr
   obtain ⟨j, hj, e, e2⟩ := own_to r hr
   have ht := h.pot.tight j hj (by omega)
   rw [e, Int.toNat_natCast] at ht
   exact ⟨j, hj, e2, ht⟩
  ·intro r r' hr hr' he
   obtain ⟨j, hj, e, e2⟩ := own_to r hr
   obtain ⟨j', hj', e', e2'⟩ := own_to r' hr'
   have he' : gi (toK cost.length t.own m) r = gi (toK cost.length t.own m) r' := he
   have : j = j' := by omega
   subst this
   omega
  ·intro j hj hno
   refine h.pot.free j hj ?_
   rcases h.pot.lo j hj with e | ⟨e1, e2⟩
   ·exact e
   ·exfalso
    have := t2 j hj e1
    exact hno (gi t.own j).toNat (by omega) this
  ·intro j hj
   have h1 := h.vb j hj
   show -285212672 ≤ gi t.v j
   omega
end
end
section
open Go.RowKit
def A6 (f : Nat → Int) : Nat → Int
 | 0 => 0
 | k + 1 => A6 f k + f k
theorem B8 {f g : Nat → Int} : ∀ {n : Nat}, (∀ r, r < n → f r = g r) → A6 f n = A6 g n
 | 0, _ => rfl
 | k + 1, h => by
  unfold A6
  rw [B8 (fun r hr => h r (by omega)), h k (by omega)]
theorem NG {f g : Nat → Int} : ∀ {n : Nat}, (∀ r, r < n → f r ≤ g r) → A6 f n ≤ A6 g n
 | 0, _ => Int.le_refl _
 | k + 1, h => by
  unfold A6
  have := NG (fun r hr => h r (Nat.lt_succ_of_lt hr)) (n := k)
  have := h k (by omega)
  omega
theorem Io (f g : Nat → Int) : ∀ n : Nat, A6 (fun r => f r + g r) n = A6 f n + A6 g n
 | 0 => rfl
 | k + 1 => by
  unfold A6
  rw [Io f g k]; omega
theorem Je {f : Nat → Int} : ∀ {n : Nat}, (∀ r, r < n → f r = 0) → A6 f n = 0
 | 0, _ => rfl
 | k + 1, h => by
  unfold A6
  rw [Je (fun r hr => h r (by omega)), h k (by omega)]; rfl
theorem Gm {f : Nat → Int} : ∀ {n : Nat}, (∀ r, r < n → f r ≤ 0) → A6 f n ≤ 0
 | 0, _ => Int.le_refl _
 | k + 1, h => by
  unfold A6
  have := Gm (fun r hr => h r (Nat.lt_succ_of_lt hr)) (n := k)
  have := h k (by omega)
  omega
theorem Hh (w : Nat → Int) (a : Nat) : ∀ m : Nat, a < m → A6 w m = A6 (fun j => if j = a then 0 else w j) m + w a
 | 0, h => by omega
 | k + 1, h => by
  unfold A6
  by_cases hk : a = k
  ·subst hk
   rw [if_pos rfl, B8 (f := fun j => if j = a then 0 else w j) (g := w) (fun r hr => by rw [if_neg (by omega)])]
   omega
  ·rw [Hh w a k (by omega), if_neg (fun e => hk e.symm)]
   omega
structure CastN (n m : Nat) (c : Nat → Nat → Int) (t : Nat → Nat) : Prop where
 lt : ∀ r, r < n → t r < m
 ok : ∀ r, r < n → 0 ≤ c r (t r)
 inj : ∀ r r', r < n → r' < n → t r = t r' → r = r'
theorem KN (m : Nat) : ∀ (n : Nat) (w : Nat → Int) (t : Nat → Nat), (∀ j, j < m → w j ≤ 0) → (∀ r, r < n → t r < m) → (∀ r r', r < n → r' < n → t r = t r' → r = r') → A6 w m ≤ A6 (fun r => w (t r)) n
 | 0, w, t, hw, _, _ => Gm hw
 | k + 1, w, t, hw, ht, hi => by
  have ih := KN m k (fun j => if j = t k then 0 else w j) t (fun j hj => by
   split
   ·exact Int.le_refl _
   ·exact hw j hj) (fun r hr => ht r (by omega)) (fun r r' hr hr' => hi r r' (by omega) (by omega))
  rw [Hh w (t k) m (ht k (by omega))]
  have e : A6 (fun r => (fun j => if j = t k then 0 else w j) (t r)) k = A6 (fun r => w (t r)) k := B8 fun r hr => by
   show (if t r = t k then 0 else w (t r)) = w (t r)
   rw [if_neg]
   intro e
   have := hi r k (by omega) (by omega) e
   omega
  rw [e] at ih
  show _ ≤ A6 (fun r => w (t r)) k + w (t k)
  omega
theorem LS (m : Nat) : ∀ (n : Nat) (w : Nat → Int) (t : Nat → Nat), (∀ j, j < m → (∀ r, r < n → t r ≠ j) → w j = 0) → (∀ r, r < n → t r < m) → (∀ r r', r < n → r' < n → t r = t r' → r = r') → A6 w m = A6 (fun r => w (t r)) n
 | 0, w, t, hw, _, _ => Je fun j hj => hw j hj (fun r hr => by omega)
 | k + 1, w, t, hw, ht, hi => by
  have ih := LS m k (fun j => if j = t k then 0 else w j) t (fun j hj hno => by
   by_cases e : j = t k
   ·rw [if_pos e]
   ·rw [if_neg e]
    refine hw j hj fun r hr => ?_
    by_cases hrk : r = k
    ·subst hrk; exact fun h => e h.symm
    ·exact hno r (by omega)) (fun r hr => ht r (by omega)) (fun r r' hr hr' => hi r r' (by omega) (by omega))
  rw [Hh w (t k) m (ht k (by omega)), ih]
  have e : A6 (fun r => (fun j => if j = t k then 0 else w j) (t r)) k = A6 (fun r => w (t r)) k := B8 fun r hr => by
   show (if t r = t k then 0 else w (t r)) = w (t r)
   rw [if_neg]
   intro e
   have := hi r k (by omega) (by omega) e
   omega
  rw [e]
  rfl
section
variable {n m : Nat} {c : Nat → Nat → Int}
theorem Ok {u v : Nat → Int} (hf : ∀ r j, r < n → j < m → 0 ≤ c r j → u r + v j ≤ c r j) (hneg : ∀ j, j < m → v j ≤ 0) {t : Nat → Nat} (ht : CastN n m c t) : A6 u n + A6 v m ≤ A6 (fun r => c r (t r)) n := by
 have h1 := KN m n v t hneg ht.lt ht.inj
 have h2 : A6 (fun r => u r + v (t r)) n ≤ A6 (fun r => c r (t r)) n := NG fun r hr => hf r (t r) hr (ht.lt r hr) (ht.ok r hr)
 rw [Io] at h2
 omega
theorem SolOk.castN {s : SolS} (h : SolOk n m c s) : CastN n m c (fun r => (gi s.to r).toNat) := by
 refine ⟨fun r hr => ?_, fun r hr => ?_, fun r r' hr hr' he => ?_⟩
 ·obtain ⟨j, h1, h2, _⟩ := h.cast r hr; omega
 ·obtain ⟨j, h1, h2, h3, _⟩ := h.cast r hr; rw [h2]; exact h3
 ·obtain ⟨j, h1, h2, _⟩ := h.cast r hr
  obtain ⟨j', h1', h2', _⟩ := h.cast r' hr'
  exact h.inj r r' hr hr' (by omega)
theorem SolOk.sum {s : SolS} (h : SolOk n m c s) : A6 (fun r => c r (gi s.to r).toNat) n = A6 (gi s.u) n + A6 (gi s.v) m := by
 have hc := h.castN
 have h1 := LS m n (gi s.v) (fun r => (gi s.to r).toNat) (fun j hj hno => h.free j hj fun r hr e => hno r hr (by omega)) hc.lt hc.inj
 rw [h1, ← Io]
 refine B8 fun r hr => ?_
 obtain ⟨j, h1, h2, h3, h4⟩ := h.cast r hr
 rw [h2]
 exact h4.symm
theorem SolOk.opt {s : SolS} (h : SolOk n m c s) {t : Nat → Nat} (ht : CastN n m c t) : A6 (fun r => c r (gi s.to r).toNat) n ≤ A6 (fun r => c r (t r)) n := by
 rw [h.sum]
 exact Ok h.fit h.neg ht
theorem EO : ∀ (D L : List Nat), L.Nodup → (∀ x ∈ L, x ∈ D) → L.length ≤ D.length
 | [], L, _, h => by
  cases L with
  | nil => simp
  | cons a r => exact absurd (h a List.mem_cons_self) (by simp)
 | d :: D, L, hn, h => by
  have h1 := EO D (L.erase d) (hn.erase d) (fun x hx => by
   have h2 := (hn.mem_erase_iff).1 hx
   rcases List.mem_cons.1 (h x h2.2) with e | e
   ·exact absurd e h2.1
   ·exact e)
  have h2 := List.length_erase (a := d) (l := L)
  rw [List.length_cons]
  split at h2 <;> omega
theorem FH (h : IJ n m c) (t : Nat → Nat) : ¬ CastN n m c t := by
 rintro ⟨t1, t2, t3⟩
 obtain ⟨R, D, hR, hRn, hD, hDm, hlt, hsub⟩ := h
 have h1 := Ge (f := t) hR fun a ha b hb e => t3 a b (hRn a ha) (hRn b hb) e
 have h2 := EO D (R.map t) h1 (fun x hx => by
  obtain ⟨r, hr, rfl⟩ := List.mem_map.1 hx
  exact hsub r hr (t r) (t1 r (hRn r hr)) (t2 r (hRn r hr)))
 rw [List.length_map] at h2
 omega
end
end
section
open Go.RowKit
theorem Fc (f : Nat → Int) (a : Nat) : ∀ b, A6 f (a + b) = A6 f a + A6 (fun r => f (a + r)) b
 | 0 => by simp [A6]
 | b + 1 => by
  show A6 f (a + b) + f (a + b) = A6 f a + (A6 (fun r => f (a + r)) b + f (a + b))
  rw [Fc f a b]; omega
structure PrefOk (m : Nat) (c : Nat → Nat → Int) (i : Nat) (p : Nat → Nat) (taken : List Bool) : Prop where
 lt : ∀ r, r < i → p r < m
 ok : ∀ r, r < i → 0 ≤ c r (p r)
 inj : ∀ r r', r < i → r' < i → p r = p r' → r = r'
 tk : ∀ k, k < m → (gb taken k = true ↔ ∃ r, r < i ∧ p r = k)
def En (n m : Nat) (c cL : Nat → Nat → Int) (i j : Nat) (taken : List Bool) : Prop := ∀ r k, r < n - (i + 1) → k < m → cL r k = if k = j ∨ gb taken k = true then -1 else c (i + 1 + r) k
def Eu (i j : Nat) (p t' : Nat → Nat) (r : Nat) : Nat := if r < i then p r else if r = i then j else t' (r - (i + 1))
section
variable {n m i j : Nat} {c cL : Nat → Nat → Int} {p t' : Nat → Nat} {taken : List Bool}
theorem JE (hL : En n m c cL i j taken) {r k : Nat} (hr : r < n - (i + 1)) (hk : k < m) (h : 0 ≤ cL r k) : k ≠ j ∧ gb taken k = false ∧ cL r k = c (i + 1 + r) k := by
 have := hL r k hr hk
 by_cases hq : k = j ∨ gb taken k = true
 ·rw [if_pos hq] at this; omega
 ·rw [if_neg hq] at this
  refine ⟨fun e => hq (Or.inl e), ?_, this⟩
  cases hg : gb taken k with
  | true => exact absurd (Or.inr hg) hq
  | false => rfl
theorem OM (hp : PrefOk m c i p taken) (hj : j < m) (hjt : gb taken j = false) (hcj : 0 ≤ c i j) (hL : En n m c cL i j taken) (ht : CastN (n - (i + 1)) m cL t') : CastN n m c (Eu i j p t') := by
 have hnp : ∀ r k, r < i → k < m → gb taken k = false → p r ≠ k := fun r k hr hk hg e => by
  have := (hp.tk k hk).2 ⟨r, hr, e⟩
  rw [hg] at this; cases this
 have hc : ∀ r, r < n - (i + 1) → t' r < m ∧ t' r ≠ j ∧ gb taken (t' r) = false ∧ cL r (t' r) = c (i + 1 + r) (t' r) := fun r hr => by
  obtain ⟨h1, h2, h3⟩ := JE hL hr (ht.lt r hr) (ht.ok r hr)
  exact ⟨ht.lt r hr, h1, h2, h3⟩
 refine ⟨fun r hr => ?_, fun r hr => ?_, fun r r' hr hr' he => ?_⟩
 ·unfold Eu
  by_cases h1 : r < i
  ·rw [if_pos h1]; exact hp.lt r h1
  ·rw [if_neg h1]
   by_cases h2 : r = i
   ·rw [if_pos h2]; exact hj
   ·rw [if_neg h2]; exact (hc _ (by omega)).1
 ·unfold Eu
  by_cases h1 : r < i
  ·rw [if_pos h1]; exact hp.ok r h1
  ·rw [if_neg h1]
   by_cases h2 : r = i
   ·rw [if_pos h2, h2]; exact hcj
   ·rw [if_neg h2]
    have h3 := ht.ok (r - (i + 1)) (by omega)
    rw [(hc (r - (i + 1)) (by omega)).2.2.2, show i + 1 + (r - (i + 1)) = r by omega] at h3
    exact h3
 ·unfold Eu at he
  by_cases h1 : r < i
  ·rw [if_pos h1] at he
   by_cases h1' : r' < i
   ·rw [if_pos h1'] at he; exact hp.inj r r' h1 h1' he
   ·rw [if_neg h1'] at he
    by_cases h2' : r' = i
    ·rw [if_pos h2'] at he; exact absurd he (hnp r j h1 hj hjt)
    ·rw [if_neg h2'] at he
     obtain ⟨q1, q2, q3, _⟩ := hc (r' - (i + 1)) (by omega)
     exact absurd he (hnp r _ h1 q1 q3)
  ·rw [if_neg h1] at he
   by_cases h2 : r = i
   ·rw [if_pos h2] at he
    by_cases h1' : r' < i
    ·rw [if_pos h1'] at he; exact absurd he.symm (hnp r' j h1' hj hjt)
    ·rw [if_neg h1'] at he
     by_cases h2' : r' = i
     ·omega
     ·rw [if_neg h2'] at he
      exact absurd he.symm (hc (r' - (i + 1)) (by omega)).2.1
   ·rw [if_neg h2] at he
    obtain ⟨q1, q2, q3, _⟩ := hc (r - (i + 1)) (by omega)
    by_cases h1' : r' < i
    ·rw [if_pos h1'] at he; exact absurd he.symm (hnp r' _ h1' q1 q3)
    ·rw [if_neg h1'] at he
     by_cases h2' : r' = i
     ·rw [if_pos h2'] at he; exact absurd he q2
     ·rw [if_neg h2'] at he
      have := ht.inj (r - (i + 1)) (r' - (i + 1)) (by omega) (by omega) he
      omega
theorem PQ (hi : i < n) (hL : En n m c cL i j taken) (ht : CastN (n - (i + 1)) m cL t') : A6 (fun r => c r (Eu i j p t' r)) n = A6 (fun r => c r (p r)) i + c i j + A6 (fun r => cL r (t' r)) (n - (i + 1)) := by
 have e : n = (i + 1) + (n - (i + 1)) := by omega
 rw [show A6 (fun r => c r (Eu i j p t' r)) n = A6 (fun r => c r (Eu i j p t' r)) ((i + 1) + (n - (i + 1))) by rw [← e], Fc]
 have h1 : A6 (fun r => c r (Eu i j p t' r)) (i + 1) = A6 (fun r => c r (p r)) i + c i j := by
  show A6 _ i + c i (Eu i j p t' i) = _
  rw [B8 (f := fun r => c r (Eu i j p t' r)) (g := fun r => c r (p r)) (fun r hr => by unfold Eu; rw [if_pos hr])]
  unfold Eu
  rw [if_neg (Nat.lt_irrefl i), if_pos rfl]
 have h2 : A6 (fun r => c (i + 1 + r) (Eu i j p t' (i + 1 + r))) (n - (i + 1)) = A6 (fun r => cL r (t' r)) (n - (i + 1)) := B8 fun r hr => by
  have h3 := (JE hL hr (ht.lt r hr) (ht.ok r hr)).2.2
  show c (i + 1 + r) (Eu i j p t' (i + 1 + r)) = cL r (t' r)
  unfold Eu
  rw [if_neg (by omega), if_neg (by omega), show i + 1 + r - (i + 1) = r by omega, h3]
 rw [h1, h2]
theorem Jp {t : Nat → Nat} (hp : PrefOk m c i p taken) (hi : i < n) (hL : En n m c cL i j taken) (ht : CastN n m c t) (htp : ∀ r, r < i → t r = p r) (htj : t i = j) :
  CastN (n - (i + 1)) m cL (fun r => t (i + 1 + r)) ∧ A6 (fun r => c r (t r)) n = A6 (fun r => c r (p r)) i + c i j + A6 (fun r => cL r (t (i + 1 + r))) (n - (i + 1)) := by
 have hcell : ∀ r, r < n - (i + 1) → cL r (t (i + 1 + r)) = c (i + 1 + r) (t (i + 1 + r)) := by
  intro r hr
  rw [hL r _ hr (ht.lt _ (by omega)), if_neg]
  rintro (h1 | h1)
  ·have := ht.inj (i + 1 + r) i (by omega) hi (by rw [h1, htj])
   omega
  ·obtain ⟨q, hq, e⟩ := (hp.tk _ (ht.lt _ (by omega))).1 h1
   have := ht.inj q (i + 1 + r) (by omega) (by omega) (by rw [htp q hq, e])
   omega
 refine ⟨⟨fun r hr => ht.lt _ (by omega), fun r hr => ?_, fun r r' hr hr' he => ?_⟩, ?_⟩
 ·show 0 ≤ cL r (t (i + 1 + r))
  rw [hcell r hr]; exact ht.ok _ (by omega)
 ·have := ht.inj (i + 1 + r) (i + 1 + r') (by omega) (by omega) he
  omega
 ·have e : n = (i + 1) + (n - (i + 1)) := by omega
  rw [show A6 (fun r => c r (t r)) n = A6 (fun r => c r (t r)) ((i + 1) + (n - (i + 1))) by rw [← e], Fc]
  have h1 : A6 (fun r => c r (t r)) (i + 1) = A6 (fun r => c r (p r)) i + c i j := by
   show A6 _ i + c i (t i) = _
   rw [B8 (f := fun r => c r (t r)) (g := fun r => c r (p r)) (fun r hr => by rw [htp r hr]), htj]
  rw [h1]
  congr 1
  exact B8 fun r hr => (hcell r hr).symm
def AU (n m : Nat) (c : Nat → Nat → Int) (i j : Nat) (p : Nat → Nat) (best : Int) : Prop := ∃ t, CastN n m c t ∧ (∀ r, r < i → t r = p r) ∧ t i = j ∧ A6 (fun r => c r (t r)) n = best
theorem NV {best : Int} (hbest : ∀ t, CastN n m c t → best ≤ A6 (fun r => c r (t r)) n) (hp : PrefOk m c i p taken) (hi : i < n) (hj : j < m) (hjt : gb taken j = false) (hcj : 0 ≤ c i j) (hL : En n m c cL i j taken)
  {s : SolS} (hs : SolOk (n - (i + 1)) m cL s) : AU n m c i j p best ↔ A6 (fun r => c r (p r)) i + c i j + A6 (fun r => cL r (gi s.to r).toNat) (n - (i + 1)) = best := by
 have hcs := hs.castN
 have h1 := OM (p := p) hp hj hjt hcj hL hcs
 have h2 := PQ (p := p) hi hL hcs
 constructor
 ·rintro ⟨t, ht, htp, htj, hsum⟩
  obtain ⟨h3, h4⟩ := Jp hp hi hL ht htp htj
  have h5 := hs.opt h3
  have h6 := hbest _ h1
  rw [h2] at h6
  omega
 ·intro he
  refine ⟨_, h1, fun r hr => by unfold Eu; rw [if_pos hr], by unfold Eu; rw [if_neg (Nat.lt_irrefl i), if_pos rfl], by rw [h2]; exact he⟩
theorem Mv {best : Int} (hp : PrefOk m c i p taken) (hi : i < n) (hL : En n m c cL i j taken) (hH : IJ (n - (i + 1)) m cL) : ¬ AU n m c i j p best := by
 rintro ⟨t, ht, htp, htj, _⟩
 exact FH hH _ (Jp hp hi hL ht htp htj).1
theorem O5 {best : Int} (hp : PrefOk m c i p taken) (hi : i < n) (hj : j < m) (h : gb taken j = true ∨ c i j < 0) : ¬ AU n m c i j p best := by
 rintro ⟨t, ht, htp, htj, _⟩
 rcases h with h | h
 ·obtain ⟨q, hq, e⟩ := (hp.tk j hj).1 h
  have := ht.inj q i (by omega) hi (by rw [htp q hq, e, htj])
  omega
 ·have := ht.ok i hi
  rw [htj] at this
  omega
end
end
section
open Go.RowKit
def KF (taken : List Bool) (r : List Int) (k : Nat) : List Int := if gb taken k = true then r.set k (-1) else r
def Dg (row : List Int) (j : Nat) (taken : List Bool) (k : Nat) : List Int := (List.range k).foldl (KF taken) (row.set j (-1))
theorem EZ (row : List Int) (j : Nat) (taken : List Bool) (k : Nat) : Dg row j taken (k + 1) = KF taken (Dg row j taken k) k := by
 unfold Dg; rw [List.range_succ, List.foldl_append]; rfl
theorem CG (row : List Int) (j : Nat) (taken : List Bool) : ∀ k, (Dg row j taken k).length = row.length
 | 0 => by simp [Dg]
 | k + 1 => by rw [EZ]; unfold KF; split <;> simp [CG row j taken k]
theorem LF {row : List Int} {j : Nat} {taken : List Bool} (hj : j < row.length) : ∀ k, k ≤ row.length → ∀ q, q < row.length → gi (Dg row j taken k) q = if q = j ∨ (q < k ∧ gb taken q = true) then -1 else gi row q
 | 0, _, q, hq => by
  show gi (row.set j (-1)) q = _
  rw [Cw _ _ _ _ hj]
  by_cases h : q = j
  ·rw [if_pos h, if_pos (Or.inl h)]
  ·rw [if_neg h, if_neg (fun h1 => h1.elim h (fun h2 => by omega))]
 | k + 1, hk, q, hq => by
  have ih := LF hj k (by omega) (taken := taken) q hq
  rw [EZ]
  unfold KF
  by_cases ht : gb taken k = true
  ·rw [if_pos ht, Cw _ _ _ _ (by rw [CG]; omega)]
   by_cases h : q = k
   ·rw [if_pos h, if_pos (Or.inr ⟨by omega, by rw [h]; exact ht⟩)]
   ·rw [if_neg h, ih]
    by_cases h1 : q = j ∨ (q < k ∧ gb taken q = true)
    ·rw [if_pos h1, if_pos (h1.imp id fun h2 => ⟨by omega, h2.2⟩)]
    ·rw [if_neg h1, if_neg (fun h2 => h1 (h2.imp id fun h3 => ⟨by omega, h3.2⟩))]
  ·rw [if_neg ht, ih]
   by_cases h1 : q = j ∨ (q < k ∧ gb taken q = true)
   ·rw [if_pos h1, if_pos (h1.imp id fun h2 => ⟨by omega, h2.2⟩)]
   ·rw [if_neg h1, if_neg (fun h2 => h1 (h2.imp id fun h3 => ⟨by
     by_cases h4 : q = k
     ·rw [h4] at h3; exact absurd h3.2 ht
     ·omega, h3.2⟩))]
def Bz (cost : List (List Int)) (i j : Nat) (taken : List Bool) : List (List Int) := (cost.drop (i + 1)).map fun r => Dg r j taken taken.length
theorem D0 (cost : List (List Int)) (i j : Nat) (taken : List Bool) : (Bz cost i j taken).length = cost.length - (i + 1) := by unfold Bz; simp
theorem FZ {cost : List (List Int)} {i j r : Nat} {taken : List Bool} (h : r < cost.length - (i + 1)) : (Bz cost i j taken)[r]? = some (Dg (cost[i + 1 + r]?.getD []) j taken taken.length) := by
 unfold Bz
 rw [List.getElem?_map, List.getElem?_drop, qg (by omega)]; rfl
theorem LR {cost : List (List Int)} {i j m : Nat} {taken : List Bool} (hrl : ∀ r ∈ cost, r.length = m) (hj : j < m) (ht : taken.length = m) : En cost.length m (cI cost) (cI (Bz cost i j taken)) i j taken := by
 intro r k hr hk
 have hl : (cost[i + 1 + r]?.getD []).length = m := by
  rw [qg (by omega)]
  exact hrl _ (List.getElem_mem _)
 unfold cI
 rw [FZ hr]
 show gi (Dg (cost[i + 1 + r]?.getD []) j taken taken.length) k = _
 rw [LF (by omega) _ (by omega) k (by omega)]
 by_cases h : k = j ∨ gb taken k = true
 ·rw [if_pos h, if_pos (h.imp id fun h1 => ⟨by omega, h1⟩)]
 ·rw [if_neg h, if_neg (fun h1 => h (h1.imp id fun h2 => h2.2))]
theorem LA {cost : List (List Int)} {i j m : Nat} {taken : List Bool} (hrl : ∀ r ∈ cost, r.length = m) : ∀ r ∈ Bz cost i j taken, r.length = m := by
 intro r hr
 unfold Bz at hr
 obtain ⟨q, hq, rfl⟩ := List.mem_map.1 hr
 rw [CG]
 exact hrl q (List.mem_of_mem_drop hq)
theorem Ki {cost : List (List Int)} {i j m : Nat} {taken : List Bool} (hrl : ∀ r ∈ cost, r.length = m) (hj : j < m) (ht : taken.length = m) (hc : ∀ r j, cI cost r j ≤ AV) (hc0 : ∀ r j, -1 ≤ cI cost r j) : (∀ r k, cI (Bz cost i j taken) r k ≤ AV) ∧ ∀ r k, -1 ≤ cI (Bz cost i j taken) r k := by
 have hT : AV = 1048576 := rfl
 have key : ∀ r k, -1 ≤ cI (Bz cost i j taken) r k ∧ cI (Bz cost i j taken) r k ≤ AV := by
  intro r k
  by_cases hr : r < cost.length - (i + 1)
  ·by_cases hk : k < m
   ·rw [LR hrl hj ht r k hr hk]
    split
    ·omega
    ·exact ⟨hc0 _ _, hc _ _⟩
   ·have h1 : gi ((Bz cost i j taken)[r]?.getD []) k = 0 := Ej (by
     rw [FZ hr]
     show (Dg _ _ _ _).length ≤ k
     rw [CG, qg (by omega)]
     have := hrl _ (List.getElem_mem (show i + 1 + r < cost.length by omega))
     show (cost[i + 1 + r]).length ≤ k
     omega)
    unfold cI
    rw [h1]; omega
  ·have h1 : (Bz cost i j taken)[r]? = none := List.getElem?_eq_none (by rw [D0]; omega)
   unfold cI
   rw [h1]
   show -1 ≤ gi [] k ∧ gi [] k ≤ AV
   rw [Ej (by simp)]; omega
 exact ⟨fun r k => (key r k).2, fun r k => (key r k).1⟩
end
section
open Go
def GG (t : Nat → Nat) (i j r : Nat) : Nat := if r = i then j else t r
theorem Dm {t : Nat → Nat} {i j r : Nat} (h : r < i) : GG t i j r = t r := by unfold GG; rw [if_neg (by omega)]
theorem CZ {t : Nat → Nat} {i j : Nat} : GG t i j i = j := by unfold GG; rw [if_pos rfl]
theorem EP {n m : Nat} {c : Nat → Nat → Int} {i j : Nat} {p q : Nat → Nat} {best : Int} (h : ∀ r, r < i → p r = q r) : AU n m c i j p best ↔ AU n m c i j q best := by
 constructor
 ·rintro ⟨t, h1, h2, h3⟩
  exact ⟨t, h1, fun r hr => (h2 r hr).trans (h r hr), h3⟩
 ·rintro ⟨t, h1, h2, h3⟩
  exact ⟨t, h1, fun r hr => (h2 r hr).trans (h r hr).symm, h3⟩
structure FirstOk (n m : Nat) (c : Nat → Nat → Int) (best : Int) (i : Nat) (t : Nat → Nat) (taken : List Bool) : Prop where
 pre : PrefOk m c i t taken
 ex : ∃ s, CastN n m c s ∧ (∀ r, r < i → s r = t r) ∧ A6 (fun r => c r (s r)) n = best
 least : ∀ r, r < i → ∀ j, j < t r → ¬ AU n m c r j t best
section
variable {n m i j : Nat} {c : Nat → Nat → Int} {best : Int} {t : Nat → Nat} {taken : List Bool}
theorem FirstOk.zero (h : ∃ s, CastN n m c s ∧ A6 (fun r => c r (s r)) n = best) : FirstOk n m c best 0 t (List.replicate m false) := by
 obtain ⟨s, h1, h2⟩ := h
 refine ⟨⟨fun r hr => by omega, fun r hr => by omega, fun r r' hr => by omega, fun k hk => ?_⟩, ⟨s, h1, fun r hr => by omega, h2⟩, fun r hr => by omega⟩
 unfold gb
 rw [List.getElem?_replicate, if_pos hk]
 constructor
 ·intro h; cases h
 ·rintro ⟨r, hr, _⟩; omega
theorem FirstOk.found (h : FirstOk n m c best i t taken) (hi : i < n) : ∃ j, j < m ∧ AU n m c i j t best := by
 obtain ⟨s, h1, h2, h3⟩ := h.ex
 exact ⟨s i, h1.lt i hi, s, h1, h2, rfl, h3⟩
theorem FirstOk.next (h : FirstOk n m c best i t taken) (hi : i < n) (htl : taken.length = m) (hj : AU n m c i j t best) (hl : ∀ k, k < j → ¬ AU n m c i k t best) : j < m ∧ FirstOk n m c best (i + 1) (GG t i j) (taken.set j true) := by
 obtain ⟨s, h1, h2, h3, h4⟩ := hj
 have hag : ∀ r, r < i + 1 → s r = GG t i j r := fun r hr => by
  by_cases e : r = i
  ·subst e; rw [CZ]; exact h3
  ·rw [Dm (by omega)]; exact h2 r (by omega)
 have hjm : j < m := by rw [← h3]; exact h1.lt i hi
 refine ⟨hjm, ⟨fun r hr => ?_, fun r hr => ?_, fun r r' hr hr' e => ?_, fun k hk => ?_⟩, ⟨s, h1, hag, h4⟩, fun r hr q hq => ?_⟩
 ·rw [← hag r hr]; exact h1.lt r (by omega)
 ·rw [← hag r hr]; exact h1.ok r (by omega)
 ·rw [← hag r hr, ← hag r' hr'] at e; exact h1.inj r r' (by omega) (by omega) e
 ·have hg : gb (taken.set j true) k = if k = j then true else gb taken k := by
   unfold gb
   by_cases e : k = j
   ·subst e
    rw [if_pos rfl, List.getElem?_set_self (by omega)]; rfl
   ·rw [if_neg e, List.getElem?_set_ne (fun q => e q.symm)]
  rw [hg]
  by_cases e : k = j
  ·rw [if_pos e]
   exact ⟨fun _ => ⟨i, by omega, by rw [CZ, e]⟩, fun _ => rfl⟩
  ·rw [if_neg e, h.pre.tk k hk]
   constructor
   ·rintro ⟨r, hr, he⟩
    exact ⟨r, by omega, by rw [Dm hr]; exact he⟩
   ·rintro ⟨r, hr, he⟩
    by_cases e2 : r = i
    ·subst e2
     rw [CZ] at he
     exact absurd he.symm e
    ·exact ⟨r, by omega, by rw [Dm (by omega)] at he; exact he⟩
 ·by_cases e : r = i
  ·subst e
   rw [CZ] at hq
   intro hc
   exact hl q hq ((EP fun r hr => Dm hr).1 hc)
  ·rw [Dm (by omega)] at hq
   intro hc
   exact h.least r (by omega) q hq ((EP fun a ha => Dm (by omega)).1 hc)
end
end
section
open Go.RowKit
def E4 (l : List Nat) : Nat := match l.getLast? with
 | none => 0
 | some x => x + 1
def ext (n : Nat) : Nat → List Nat → List (List Nat)
 | 0, l => [l]
 | d + 1, l => (List.range' (E4 l) (n - d - E4 l)).flatMap fun i => ext n d (l ++ [i])
def Sd (c : Nat → Nat → Int) (m : Nat) (l : List Nat) : Nat := ((List.range m).filter fun j => l.any fun i => decide (0 ≤ c i j)).length
def E1 (c : Nat → Nat → Int) (m : Nat) (l : List Nat) : Bool := decide (Sd c m l < l.length)
def Fx (c : Nat → Nat → Int) (n m : Nat) : Option (List Nat) := ((List.range n).flatMap fun k => ext n (k + 1) []).find? (E1 c m)
def Inc (n : Nat) (l : List Nat) : Prop := l.Pairwise (· < ·) ∧ ∀ x ∈ l, x < n
theorem Ij (l : List Nat) (x : Nat) : E4 (l ++ [x]) = x + 1 := by simp [E4]
theorem Qe {n : Nat} {l : List Nat} (h : Inc n l) : ∀ x ∈ l, x < E4 l := by
 rcases List.eq_nil_or_concat l with rfl | ⟨r, a, rfl⟩
 ·simp
 ·rw [List.concat_eq_append] at *
  intro x hx
  rw [Ij]
  rcases List.mem_append.1 hx with hx | hx
  ·have := (List.pairwise_append.1 h.1).2.2 x hx a (by simp)
   omega
  ·simp at hx; omega
theorem Inc.snoc {n : Nat} {l : List Nat} (h : Inc n l) {i : Nat} (h1 : E4 l ≤ i) (h2 : i < n) : Inc n (l ++ [i]) := by
 constructor
 ·rw [List.pairwise_append]
  refine ⟨h.1, by simp, fun a ha b hb => ?_⟩
  have := Qe h a ha
  simp at hb; omega
 ·intro x hx
  rcases List.mem_append.1 hx with hx | hx
  ·exact h.2 x hx
  ·simp at hx; omega
section
variable {n m : Nat} {c : Nat → Nat → Int}
theorem RZ : Inc n [] := ⟨List.Pairwise.nil, by simp⟩
theorem MO {k : Nat} (hk : k < n) {A : List (List Nat)} {x : List Nat} (h0 : ((List.range k).flatMap fun k => ext n (k + 1) []).find? (E1 c m) = none) (hA : A.find? (E1 c m) = none) (hx : E1 c m x = true) (hp : A ++ [x] <+: ext n (k + 1) []) : Fx c n m = some x := by
 obtain ⟨s, hs⟩ := hp
 unfold Fx
 have hr : List.range n = List.range k ++ (k :: List.range' (k + 1) (n - k - 1)) := by
  rw [List.range_eq_range', List.range_eq_range', ← List.range'_succ]
  have := List.range'_append_1 (s := 0) (m := k) (n := n - k - 1 + 1)
  rw [Nat.zero_add] at this
  rw [this]; congr 1; omega
 rw [hr, List.flatMap_append, List.find?_append, h0, List.flatMap_cons, List.find?_append, ← hs, List.find?_append, List.find?_append, hA]
 simp [hx]
theorem P8 {k : Nat} (h0 : ((List.range k).flatMap fun k => ext n (k + 1) []).find? (E1 c m) = none) (hA : (ext n (k + 1) []).find? (E1 c m) = none) : ((List.range (k + 1)).flatMap fun k => ext n (k + 1) []).find? (E1 c m) = none := by
 rw [List.range_succ, List.flatMap_append, List.find?_append, h0, List.flatMap_cons, List.find?_append, hA]
 rfl
end
end
end Go.Proofs.YtggcbblikgankaaGreatDoor
