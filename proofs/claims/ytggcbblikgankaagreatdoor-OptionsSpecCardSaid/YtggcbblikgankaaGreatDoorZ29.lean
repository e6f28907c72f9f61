/- Contracts and plain laws on the way to the statement: part 29. -/
import Derived.Test.YtggcbblikgankaaGreatDoorZ11
import Derived.Test.YtggcbblikgankaaGreatDoorZ28
import Derived.Test.YtggcbblikgankaaGreatDoorZ7
import Derived.RangeFuncBox
import Derived.Maps.AppendAt
set_option linter.unusedVariables false
set_option linter.unusedSimpArgs false
section
namespace Go.Proofs.YtggcbblikgankaaGreatDoor
open Go.RowKit Go.Sort
def encPar (x : Par) : List Value := [.int .i64 x.r.sign, .int .i64 x.r.dir, .int .i64 x.r.level, .bool x.r.drop, .int .i64 x.n]
def cfP (x y : Par) : Int := cmpI y.n x.n
theorem encPar_one (x : Par) : ∀ v ∈ encPar x, v.oneCell' = true := by
 intro v hv
 simp only [encPar, List.mem_cons, List.not_mem_nil, or_false] at hv
 rcases hv with rfl | rfl | rfl | rfl | rfl <;> rfl
theorem parcmp_any (x y : Par) (w : World) : Calls Tryz.prog 120 #[.agg (encPar x).toArray, .agg (encPar y).toArray] w fun e w' => e = .returned (.int .i64 (cfP x y)) ∧ w' = (w.alloc (.cells (encPar x).toArray 164)).alloc (.cells (encPar y).toArray 164) := by
 unfold encPar cfP
 go_enter Tryz.func120, Tryz.ntmps120
 go_wp2_with fail
 refine (compare_any y.n x.n _).mono ?_
 rintro e w' ⟨rfl, rfl⟩
 go_wp2_with fail
 go_ret
 exact ⟨rfl, rfl⟩
theorem parcmp_lays (blk off size : Nat) (w : World) : CmpLays Tryz.prog 120 #[] encPar 5 cfP blk off size w := by
 intro m os dk _ x y
 have h := parcmp_any x y (sortWorldK encPar 5 w blk off m dk os)
 rw [Array.append_empty]
 refine h.mono ?_
 rintro e w' ⟨rfl, rfl⟩
 refine ⟨rfl, 0, #[.cells (encPar x).toArray 164, .cells (encPar y).toArray 164], ?_⟩
 rw [alloc_eq_grow, alloc_eq_grow, grow_grow]
 rfl
theorem stable_any (blk off cap : Nat) (d : Array Par) (w : World) (hH : HoldsK encPar 5 w blk off d) (hblk : blk < w.heap.size) (hsz : d.size < 20) :
  Calls Tryz.prog 139 #[.slice (some ⟨blk, off, none⟩) d.size cap, .int .i64 d.size, .func (.func 120) #[] #[]] w fun e w' =>
   e = .returned (.tuple #[]) ∧ ∃ n os, w' = sortWorldK encPar 5 w blk off n (Sort.insertionSort (ltOf cfP) d 0 d.size) os := by
 have hi := AnyQ.insertionSortCmpFunc lays20 5 Tryz.isAgg164 Tryz.sizeOf164 encPar (fun _ => rfl) encPar_one cfP 120 #[] blk off cap 0 d.size d w (enters_of Tryz.func120 (by kernel_rfl) rfl) (parcmp_lays _ _ _ _) hH hblk (Nat.zero_le _) (Nat.le_refl _) (by omega)
 have HI := Lib.hid hi; clear hi hH
 have f1 : ¬ (20 : Int) ≤ (d.size : Int) := by omega
 have f2 : ¬ (20 : Int) < (d.size : Int) := by omega
 generalize d.size = N at *
 go_enter Tryz.func139, Tryz.ntmps139
 go_wp2_with fail
 refine wp_loop_rounds 1 ?_
 rw [rounds_succ]
 go_wp2_with fail
 refine HI.out.mono ?_
 rintro e w' ⟨rfl, n, os, rfl⟩
 have HW := Lib.hid (rfl : sortWorldK encPar 5 w blk off n (Sort.insertionSort (ltOf cfP) d 0 N) os = sortWorldK encPar 5 w blk off n (Sort.insertionSort (ltOf cfP) d 0 N) os)
 go_wp2_with fail
 refine wp_loop_rounds 1 ?_
 rw [rounds_succ]
 go_wp2_with fail
 go_end0
 exact ⟨rfl, n, os, rfl⟩
theorem sortStable_any (blk off cap : Nat) (d : Array Par) (w : World) (hH : HoldsK encPar 5 w blk off d) (hblk : blk < w.heap.size) (hsz : d.size < 20) :
  Calls Tryz.prog 119 #[.slice (some ⟨blk, off, none⟩) d.size cap, .func (.func 120) #[] #[]] w fun e w' =>
   e = .returned (.tuple #[]) ∧ ∃ n os, w' = sortWorldK encPar 5 w blk off n (Sort.insertionSort (ltOf cfP) d 0 d.size) os := by
 have hi := stable_any blk off cap d w hH hblk hsz
 have HI := Lib.hid hi; clear hi hH
 go_enter Tryz.func119, Tryz.ntmps119
 go_wp2_with fail
 refine HI.out.mono ?_
 rintro e w' ⟨rfl, n, os, rfl⟩
 go_wp2_with fail
 go_end0
 exact ⟨rfl, n, os, rfl⟩
theorem insertion_nil (w : World) : Calls Tryz.prog 152 #[.slice none 0 0, .int .i64 0, .int .i64 0, .func (.func 120) #[] #[]] w fun e w' => e = .returned (.tuple #[]) ∧ w = w' := by
 go_enter Tryz.func152, Tryz.ntmps152
 go_wp2_with fail
 refine wp_loop_rounds 1 ?_
 rw [rounds_succ]
 go_wp2_with fail
 go_end0
 exact ⟨rfl, rfl⟩
theorem stable_nil (w : World) : Calls Tryz.prog 139 #[.slice none 0 0, .int .i64 0, .func (.func 120) #[] #[]] w fun e w' => e = .returned (.tuple #[]) ∧ w = w' := by
 go_enter Tryz.func139, Tryz.ntmps139
 go_wp2_with fail
 refine wp_loop_rounds 1 ?_
 rw [rounds_succ]
 go_wp2_with fail
 refine (insertion_nil w).mono ?_
 rintro e w' ⟨rfl, rfl⟩
 go_wp2_with fail
 refine wp_loop_rounds 1 ?_
 rw [rounds_succ]
 go_wp2_with fail
 go_end0
 exact ⟨rfl, rfl⟩
theorem sortStable_nil (w : World) : Calls Tryz.prog 119 #[.slice none 0 0, .func (.func 120) #[] #[]] w fun e w' => e = .returned (.tuple #[]) ∧ w = w' := by
 go_enter Tryz.func119, Tryz.ntmps119
 go_wp2_with fail
 refine (stable_nil w).mono ?_
 rintro e w' ⟨rfl, rfl⟩
 go_wp2_with fail
 go_end0
 exact ⟨rfl, rfl⟩
end Go.Proofs.YtggcbblikgankaaGreatDoor
end
section
namespace Go.Proofs.YtggcbblikgankaaGreatDoor
open Go.RowKit Go.Sort
section
variable {α : Type} {enc : α → List Value} {k : Nat}
theorem flat_get (hk : ∀ x, (enc x).length = k) : ∀ (xs : List α) (i c : Nat) (x : α), xs[i]? = some x → c < k → (xs.flatMap enc)[i * k + c]? = (enc x)[c]?
 | [], _, _, _, h, _ => by simp at h
 | y :: r, 0, c, x, h, hc => by
  simp at h; subst h
  rw [List.flatMap_cons, Nat.zero_mul, Nat.zero_add, List.getElem?_append_left (by rw [hk]; exact hc)]
 | y :: r, i + 1, c, x, h, hc => by
  rw [List.flatMap_cons, List.getElem?_append_right (by rw [hk, Nat.succ_mul]; omega), hk, show (i + 1) * k + c - k = i * k + c by rw [Nat.succ_mul]; omega]
  exact flat_get hk r i c x (by simpa using h) hc
theorem flat_len (hk : ∀ x, (enc x).length = k) (xs : List α) : (xs.flatMap enc).length = xs.length * k := by
 induction xs with
 | nil => simp
 | cons y r ih => rw [List.flatMap_cons, List.length_append, ih, hk, List.length_cons, Nat.succ_mul]; omega
theorem owns_at {w : World} {base g cap n : Nat} {e : TypeId} {xs : List α} (hk : ∀ x, (enc x).length = k) (h : w.ownsRow base e k (.slice (some ⟨g, 0, none⟩) n cap) n (xs.flatMap enc)) (hn : xs.length = n) :
  AtRow enc k w g 0 xs ∧ g < w.heap.size ∧ base ≤ g ∧ n ≤ maxLen ∧ ∀ j, j < n * k → w.frozen? ⟨g, j, none⟩ = false := by
 obtain ⟨hl, h⟩ := h
 rcases h with ⟨h, _⟩ | ⟨g', cap', cur, hv, hb, hg, hc, hm, hz, ht⟩
 ·cases h
 ·cases hv
  refine ⟨?_, (Array.getElem?_eq_some_iff.1 hg).1, hb, Nat.le_trans hc hm, fun j _ => by simp [World.frozen?, hg]⟩
  intro i x hx j v hj
  have hjk : j < k := by rw [← hk x]; exact (List.getElem?_eq_some_iff.1 hj).1
  have h1 := flat_get hk xs i j x hx hjk
  have hin : i < n := by rw [← hn]; exact (List.getElem?_eq_some_iff.1 hx).1
  have h2 : i * k + j < n * k := by
   have := Nat.mul_le_mul_right k (show i + 1 ≤ n from hin); rw [Nat.succ_mul] at this; omega
  rw [← ht, List.getElem?_take_of_lt h2, hj] at h1
  rw [Nat.zero_add]
  unfold World.cell?
  simp only [hg]
  simpa using h1
theorem owns_isRow {w : World} {base n : Nat} {v : Value} {e : TypeId} {xs : List α} (hk : ∀ x, (enc x).length = k) (h : w.ownsRow base e k v n (xs.flatMap enc)) (hn : xs.length = n) : IsRow enc k w v xs := by
 have h0 := h
 rcases h.2 with ⟨rfl, h1⟩ | ⟨g, cap, cur, rfl, hb, hg, hc, hm, hz, ht⟩
 ·subst h1
  have : xs = [] := List.length_eq_zero_iff.1 hn
  subst this; exact IsRow.nil
 ·obtain ⟨a1, a2, a3, a4, _⟩ := owns_at hk h0 hn
  exact ⟨some ⟨g, 0, none⟩, cap, by rw [hn], by omega, Or.inr ⟨g, 0, rfl, a1, a2⟩⟩
theorem owns_kept {w w' : World} {base n b : Nat} {v : Value} {e : TypeId} {cs : List Value} (h : w.ownsRow base e k v n cs) (hb : Below b w w') (hv : ∀ g, v.ownBlock = some g → g < b) : w'.ownsRow base e k v n cs := by
 refine ⟨h.1, ?_⟩
 rcases h.2 with h | ⟨g, cap, cur, rfl, h1, hg, h2⟩
 ·exact Or.inl h
 ·exact Or.inr ⟨g, cap, cur, rfl, h1, (hb.block _ (hv g rfl)).trans hg, h2⟩
theorem owns_below {w w' : World} {base n : Nat} {v : Value} {e : TypeId} {cs : List Value} (h : w.ownsRow base e k v n cs) (hb : Below w.heap.size w w') : w'.ownsRow base e k v n cs := by
 refine owns_kept h hb fun g hg => ?_
 rcases h.2 with ⟨rfl, _⟩ | ⟨g', cap, cur, rfl, h1, hg', h2⟩
 ·simp [Value.ownBlock] at hg
 ·simp [Value.ownBlock] at hg; subst hg; exact (Array.getElem?_eq_some_iff.1 hg').1
end
section
variable {α : Type} [Inhabited α] {enc : α → List Value} {k : Nat}
theorem holds_of_owns {w : World} {base g cap n : Nat} {e : TypeId} {xs : List α} (hk : ∀ x, (enc x).length = k) (h : w.ownsRow base e k (.slice (some ⟨g, 0, none⟩) n cap) n (xs.flatMap enc)) (hn : xs.length = n) : HoldsK enc k w g 0 xs.toArray := by
 obtain ⟨ha, hlt, _, _, hf⟩ := owns_at hk h hn
 intro j hj
 rw [size_flatK, List.size_toArray, hn] at hj
 rcases Nat.eq_zero_or_pos k with hk0 | hkp
 ·subst hk0; simp at hj
 ·refine ⟨?_, by rw [Nat.zero_add]; exact hf j hj⟩
  have hdm : j / k * k + j % k = j := by rw [Nat.mul_comm]; exact Nat.div_add_mod j k
  have hq : j / k < n := Nat.div_lt_of_lt_mul (by rw [Nat.mul_comm]; exact hj)
  have hr : j % k < k := Nat.mod_lt _ hkp
  obtain ⟨x, hx⟩ : ∃ x, xs[j / k]? = some x := ⟨_, List.getElem?_eq_getElem (by omega)⟩
  have hxx : xs.toArray[j / k]! = x := by simp [hx]
  rw [get_flatK enc k _ j (by rw [List.size_toArray, hn]; exact hj), hxx]
  have hv : (enc x)[j % k]? = some ((enc x)[j % k]!) := by rw [List.getElem!_eq_getElem?_getD, List.getElem?_eq_getElem (by rw [hk]; exact hr)]; rfl
  have := ha (j / k) x hx (j % k) _ hv
  rw [Nat.add_assoc, Nat.zero_add, hdm] at this
  rw [Nat.zero_add]
  exact this
theorem at_of_holds {w : World} {g : Nat} {d : Array α} (hk : ∀ x, (enc x).length = k) (h : HoldsK enc k w g 0 d) : AtRow enc k w g 0 d.toList := by
 intro i x hx j v hj
 have hjk : j < k := by rw [← hk x]; exact (List.getElem?_eq_some_iff.1 hj).1
 have hi : i < d.size := by rw [← Array.length_toList]; exact (List.getElem?_eq_some_iff.1 hx).1
 have h1 := (h.cell hi hjk).1
 have hxx : d[i]! = x := by
  rw [getElem!_pos d i hi]
  rw [Array.getElem?_toList] at hx
  rw [Array.getElem?_eq_getElem hi] at hx
  exact Option.some.inj hx
 rw [h1, hxx, List.getElem!_eq_getElem?_getD, hj]
 rfl
theorem sort_block (w : World) (blk off m : Nat) (d : Array α) (os : Array Obj) {j : Nat} (hj : j < w.heap.size) (hne : j ≠ blk) : (sortWorldK enc k w blk off m d os).heap[j]? = w.heap[j]? := by
 unfold sortWorldK grow putRowK putRow mapBlock Sort.ahead
 simp only
 rw [Array.getElem?_append_left (by simpa using hj), Array.getElem?_modify, if_neg (fun e => hne e.symm)]
theorem sort_below (w : World) (blk off m : Nat) (d : Array α) (os : Array Obj) {n : Nat} (hn : n ≤ blk) (hb : blk < w.heap.size) : Below n w (sortWorldK enc k w blk off m d os) :=
 ⟨rfl, rfl, rfl, size_sortWorldK_c enc k w blk off m d os, fun j hj => sort_block w blk off m d os (by omega) (by omega)⟩
end
theorem owns_base {w : World} {base base' n k : Nat} {v : Value} {e : TypeId} {cs : List Value} (h : w.ownsRow base e k v n cs) (hb : base' ≤ base) : w.ownsRow base' e k v n cs := by
 refine ⟨h.1, ?_⟩
 rcases h.2 with h | ⟨g, cap, cur, e, h1, h2⟩
 ·exact Or.inl h
 ·exact Or.inr ⟨g, cap, cur, e, Nat.le_trans hb h1, h2⟩
theorem owns_ge {w : World} {base n k g : Nat} {v : Value} {e : TypeId} {cs : List Value} (h : w.ownsRow base e k v n cs) (hg : v.ownBlock = some g) : base ≤ g ∧ g < w.heap.size ∧ ∃ cur, w.heap[g]? = some (.cells cur e (0, 0)) := by
 rcases h.2 with ⟨rfl, _⟩ | ⟨g', cap, cur, rfl, h1, h2, _⟩
 ·simp [Value.ownBlock] at hg
 ·simp [Value.ownBlock] at hg; subst hg; exact ⟨h1, (Array.getElem?_eq_some_iff.1 h2).1, cur, h2⟩
def encRea (r : Rea) : List Value := [.int .i64 r.sign, .int .i64 r.dir, .int .i64 r.level, .bool r.drop]
theorem encRea_len (r : Rea) : (encRea r).length = 4 := rfl
theorem encPar_len (r : Par) : (encPar r).length = 5 := rfl
def sortA (l : List Par) : List Par := (Sort.insertionSort (ltOf cfP) l.toArray 0 l.length).toList
def optS (ta tc : Int) (s : Sgn) (top : Nat) : List Rea := (sortA (allL ta tc s top 9)).map (·.r)
theorem swo_cfP : SWO (ltOf cfP) where
 irrefl x := by unfold ltOf cfP cmpI; simp
 trans x y z h1 h2 := by
  unfold ltOf cfP cmpI at *
  simp only [decide_eq_true_eq] at *
  split at h1 <;> split at h2 <;> split <;> first | omega | (split at h1 <;> omega) | skip
  all_goals (try split at h1) <;> (try split at h2) <;> (try split) <;> omega
 ntrans x y z h1 h2 := by
  unfold ltOf cfP cmpI at *
  simp only [decide_eq_false_iff_not] at *
  split at h1 <;> split at h2 <;> split <;> first | omega | skip
  all_goals (try split at h1) <;> (try split at h2) <;> (try split) <;> omega
theorem sortA_perm (l : List Par) : (sortA l).Perm l := by
 have h := (insertionSort_holds (lt := ltOf cfP) swo_cfP l.toArray 0 l.length (Nat.zero_le _) (by simp)).1
 obtain ⟨h1, _, h3⟩ := h
 have e1 : ((Sort.insertionSort (ltOf cfP) l.toArray 0 l.length).extract 0 l.length) = Sort.insertionSort (ltOf cfP) l.toArray 0 l.length := by
  rw [← Array.extract_size (xs := Sort.insertionSort (ltOf cfP) l.toArray 0 l.length)]
  rw [h1]; simp
 have e2 : (l.toArray.extract 0 l.length) = l.toArray := by
  simp
 rw [e1, e2] at h3
 exact h3
theorem sortA_len (l : List Par) : (sortA l).length = l.length := (sortA_perm l).length_eq
theorem sortA_nil : sortA [] = [] := List.length_eq_zero_iff.1 (by rw [sortA_len]; rfl)
theorem sort_row (w : World) (base : Nat) (v : Value) (L : List Par) (hrow : w.ownsRow base 164 5 v L.length (L.flatMap encPar)) (hn : v = .slice none 0 0 ↔ L = []) (hfew : L.length < 20) :
  Calls Tryz.prog 119 #[v, .func (.func 120) #[] #[]] w fun e w' => e = .returned (.tuple #[]) ∧ IsRow encPar 5 w' v (sortA L) ∧ Below base w w' ∧ ∀ j, v.ownBlock ≠ some j → j < w.heap.size → w'.heap[j]? = w.heap[j]? := by
 by_cases hL : L = []
 ·have hv := hn.2 hL
  subst hv
  subst hL
  refine (sortStable_nil w).mono ?_
  rintro e w' ⟨rfl, rfl⟩
  exact ⟨rfl, by rw [sortA_nil]; exact IsRow.nil, Below.refl _ _, fun _ _ _ => rfl⟩
 ·have h0 := hrow
  rcases hrow.2 with ⟨rfl, h⟩ | ⟨g, cap, cur, rfl, hb, hg, hc, hm, hz, ht⟩
  ·exact absurd (hn.1 rfl) hL
  ·have hlt := (Array.getElem?_eq_some_iff.1 hg).1
   have hH := holds_of_owns encPar_len h0 rfl
   have hs := sortStable_any g 0 cap L.toArray w hH hlt (by simpa using hfew)
   rw [List.size_toArray] at hs
   refine hs.mono ?_
   rintro e w' ⟨rfl, m, os, rfl⟩
   have hsz : (Sort.insertionSort (ltOf cfP) L.toArray 0 L.length).size = L.toArray.size := by
    rw [← Array.length_toList]; exact (sortA_len L).trans (by simp)
   have hH2 := holdsK_sortWorldK_c encPar 5 w g 0 L.toArray (Sort.insertionSort (ltOf cfP) L.toArray 0 L.length) m os hH hlt hsz
   refine ⟨rfl, ⟨some ⟨g, 0, none⟩, cap, by rw [sortA_len], by rw [sortA_len]; omega, Or.inr ⟨g, 0, rfl, at_of_holds encPar_len hH2, Nat.lt_of_lt_of_le hlt (size_sortWorldK_c encPar 5 w g 0 m _ os)⟩⟩, sort_below w g 0 m _ os hb hlt, fun j hne hj => sort_block w g 0 m _ os hj (fun e => hne (by rw [e]; rfl))⟩
end Go.Proofs.YtggcbblikgankaaGreatDoor
end
section
namespace Go.Proofs.YtggcbblikgankaaGreatDoor
open Go.RowKit Go.Shelf
attribute [local go_sem] Oper.semAt_some
theorem info200 : (Tryz.prog.info? 164).map (fun i => (i.zero, i.size, i.bytes)) = some (some (.agg #[.int .i64 0, .int .i64 0, .int .i64 0, .bool false, .int .i64 0]), 5, 40) := by kernel_rfl
theorem info60 : (Tryz.prog.info? 37).map (fun i => (i.zero, i.size, i.bytes)) = some (some (.agg #[.int .i64 0, .int .i64 0, .int .i64 0, .bool false]), 4, 32) := by kernel_rfl
theorem encRea_one (x : Rea) : ∀ v ∈ encRea x, v.oneCell' = true := by
 intro v hv
 simp only [encRea, List.mem_cons, List.not_mem_nil, or_false] at hv
 rcases hv with rfl | rfl | rfl | rfl <;> rfl
set_option maxRecDepth 100000 in
set_option maxHeartbeats 8000000 in
theorem falling_any (Bt Bk Br : Nat) (ta tb tc : Int) (hta : 0 ≤ ta ∧ ta ≤ 32768) (htc : 1 ≤ tc ∧ tc ≤ 32768) (s : Sgn) (hd0 : 0 ≤ s.dir ∧ s.dir ≤ 8) (hl0 : 1 ≤ s.level ∧ s.level ≤ 3) (top : Nat) (htop : top ≤ 3)
  (w : World) (hE : Env w) (hz : 2 ≤ w.heap.size) (hBt : Bt < w.heap.size) (hBk : Bk < w.heap.size) (hBr : Br < w.heap.size) (ht : w.heap[Bt]? = some (.cells #[.int .i64 top] 3 (0, 0))) (hk : w.heap[Bk]? = some (.cells (sgnA s) 72 (0, 0))) (hr : w.heap[Br]? = some (.cells #[.int .i64 ta, .int .i64 tb, .int .i64 tc] 23 (0, 0))) :
  Calls Tryz.prog 98 #[.func (.func 121) #[] #[.pointer (some ⟨Bt, 0, none⟩), .pointer (some ⟨Bk, 0, none⟩), .pointer (some ⟨Br, 0, none⟩)]] w fun e w' => ∃ v, e = .returned v ∧ w'.ownsRow w.heap.size 37 4 v (optS ta tc s top).length ((optS ta tc s top).flatMap encRea) ∧ Below w.heap.size w w' := by
 obtain ⟨i0, hi0, hiz, his, hib⟩ := info_parts info200
 obtain ⟨j0, hj0, hjz, hjs, hjb⟩ := info_parts info60
 have hfew := allL_few (ta := ta) (tc := tc) (s := s) (top := top) hta.1 htc.1 (inB_iff.2 hd0) (inB_iff.2 hl0) htop
 have HE := Lib.hid hE; have HT := Lib.hid ht; have HK := Lib.hid hk; have HR := Lib.hid hr
 have hwi := fun l J hJ hY W hE hz2 ht hk hr h0 => within_in 9 l Bt Bk Br w.heap.size (by omega) hz hBt hBk hBr ta tb tc hta ⟨by omega, htc.2⟩ s hd0 hl0 top htop J hJ hY W hE hz2 ht hk hr h0
 have HWI := Lib.hid hwi
 clear hE ht hk hr hwi
 unfold optS
 generalize hL : allL ta tc s top 9 = L at *
 have HL := Lib.hid hL; clear hL
 refine (callsIn_wide (n := 10)).1 ?_
 refine callsIn_of_wp_marks Tryz.func98 rfl trivial ?_ rfl
 simp only [Tryz.ntmps98, List.size_toArray, List.length_cons, List.length_nil, Nat.reduceAdd, Nat.reduceSub, Array.replicate_succ, Array.replicate_zero, List.push_toArray, List.append_toArray, List.nil_append, List.cons_append]
 gi_wp2_with fail
 have bO := Boxed.new w 162 (.slice none 0 0)
 have hB0 : Below w.heap.size w (w.alloc (.cells #[.slice none 0 0] 162)) := (Below.refl _ w).alloc (Nat.le_refl _) _
 have hz0 : (w.alloc (.cells #[.slice none 0 0] 162)).heap.size = w.heap.size + 1 := by simp
 generalize w.alloc (.cells #[.slice none 0 0] 162) = W0 at *
 refine wpIn_rangeFunc_makes rfl (by omega) (gf := 121) (lb := #[.pointer (some ⟨Bt, 0, none⟩), .pointer (some ⟨Bk, 0, none⟩), .pointer (some ⟨Br, 0, none⟩)]) rfl trivial (enters_of Tryz.func121 (by kernel_rfl) rfl)
  (encs := parE) (n₀ := w.heap.size) (by omega) (S := fun xs => xs = L) (N := 1000) ?seq (fun _ => rfl)
  (fun pre W => (∃ v, Boxed W w.heap.size 162 v ∧ W.ownsRow w.heap.size 164 5 v pre.length (pre.flatMap encPar) ∧ (v = .slice none 0 0 ↔ pre = [])) ∧ Below w.heap.size w W)
  (OwnFrom.and (Own.from (holdsRow_own w.heap.size w.heap.size 162 164 5 (fun pre => pre.length) (fun pre => pre.flatMap encPar) (fun pre v => v = .slice none 0 0 ↔ pre = [])) _) (ownFrom_below (Nat.le_refl _) (by omega)))
  ?hIk ⟨⟨_, bO, World.ownsRow_nil _ _ _ _, by simp⟩, hB0⟩
  (fun x a' W => ∃ Bx, W.heap[Bx]? = some (.cells #[.int .i64 x.r.sign, .int .i64 x.r.dir, .int .i64 x.r.level, .bool x.r.drop] 37 (0, 0)) ∧ a' = { tmps := #[.func (.func 121) #[] #[.pointer (some ⟨Bt, 0, none⟩), .pointer (some ⟨Bk, 0, none⟩), .pointer (some ⟨Br, 0, none⟩)], undef, .slice none 0 0, .pointer (some ⟨w.heap.size, 0, none⟩), .pointer (some ⟨Bx, 0, none⟩), .int .i64 x.n, undef, undef, undef, .func (.func 121) #[] #[.pointer (some ⟨Bt, 0, none⟩), .pointer (some ⟨Bk, 0, none⟩), .pointer (some ⟨Br, 0, none⟩)], .agg #[.int .i64 x.r.sign, .int .i64 x.r.dir, .int .i64 x.r.level, .bool x.r.drop], .int .i64 x.n, undef, undef, undef, undef, undef, undef, undef, undef, undef, undef, undef, undef, undef, undef, undef, undef, undef, undef, undef, undef, undef], defers := [] })
  ?hAx ?assign ?body ?done
 case seq =>
  intro l J W hB hJ hY hj0
  exact HWI.out l J hJ hY W (HE.out.two hz (hB0.trans (hB.mono (by omega)))) (by have := hB.size; omega) ((hB.block _ (by omega)).trans ((hB0.block _ hBt).trans HT.out)) ((hB.block _ (by omega)).trans ((hB0.block _ hBk).trans HK.out)) ((hB.block _ (by omega)).trans ((hB0.block _ hBr).trans HR.out)) hj0
 case hIk =>
  rintro pre W W' ⟨⟨v, hv, hrow, hn⟩, hB⟩ hb
  exact ⟨⟨v, (hb.block _ hv.lt).trans hv, owns_below hrow hb, hn⟩, hB.trans (hb.mono hB.size)⟩
 case hAx =>
  rintro x a' _ X Y row ⟨Bx, h, e⟩ hg hr
  refine ⟨Bx, (hg.block _ (Array.getElem?_eq_some_iff.1 h).1 (fun e2 => ?_)).trans h, e⟩
  obtain ⟨_, o, ho, hc⟩ := hr Bx e2.symm
  rw [h] at ho; cases ho; cases hc
 case assign =>
  intro l pre x W K hi hK
  have HKK := Lib.hid hK; clear hK hi
  simp only [parE]
  gi_wp2_with fail
  exact HKK.out _ _ (KeepsOthers.alloc _ _) ((Below.refl _ W).alloc (Nat.le_refl _) _) ⟨W.heap.size, heap_alloc_new W _, rfl⟩
 case body =>
  rintro l pre x a' W ⟨⟨v, hv, hrow, hnil⟩, hB⟩ ⟨Bx, hbx, rfl⟩ hlt
  have hc := hv.cell
  have x0 := cell_at hbx 0 rfl
  have x1 := cell_at hbx 1 rfl
  have x2 := cell_at hbx 2 rfl
  have x3 := cell_at hbx 3 rfl
  have hpar : ∀ j u, (encPar x)[j]? = some u → (W.alloc (.cells #[.int .i64 x.r.sign, .int .i64 x.r.dir, .int .i64 x.r.level, .bool x.r.drop, .int .i64 x.n] 164)).cell? ((⟨W.heap.size, 0, none⟩ : Addr).add j) = some u := by
   intro j u hj
   rw [addr_plain, Nat.zero_add]
   exact cell_at (heap_alloc_new W _) j (by simpa [encPar] using hj)
  have hsz := hB.size
  have HP := Lib.hid hpar; have HRW := Lib.hid hrow; have HNL := Lib.hid hnil; have HB := Lib.hid hB
  clear hpar hbx hnil
  gi_wp2_with (gi_at_builtin; refine wpListIn_append_own _ rfl _ _ 162 rfl w.heap.size 164 i0 _ 5 40 Tryz.underlying162 hi0 hiz his hib rfl (by decide) _ _ _ rfl (HRW.out.alloc _) ⟨W.heap.size, 0, none⟩ 1 1 (encPar x) rfl rfl HP.out (encPar_one x) (by simp only [maxLen]; omega) (by omega) (by simp; omega) ?_; intro v' w1 hown' hgrow _; obtain ⟨g', cap', rfl⟩ := ownsRow_succ hown'; obtain ⟨hv1, hv2, hr2, hk2, hb2⟩ := hv.appended (by decide) HRW.out hsz (Nat.le_refl _) hown' hgrow; have hc1 := hv1.cell; have hf1 := hv1.frozen)
  exact ⟨hk2, hb2, ⟨_, hv2, by simpa using hr2, by simp⟩, HB.out.trans hb2⟩
 case done =>
  rintro D xs W hD hxs ⟨⟨v, hv, hrow, hnil⟩, hB⟩ hK
  rw [hxs] at hrow hnil
  clear hxs
  have hsr := sort_row W w.heap.size v L hrow hnil (by omega)
  have hc := hv.cell
  have hnb := hv.not_row (by decide) hrow
  have hnd : v.ownBlock ≠ some D := fun e => by
   obtain ⟨_, _, cur, h⟩ := owns_ge hrow e
   rw [hK] at h; cases h
  obtain ⟨ao, c, hve, hml, _⟩ := owns_isRow encPar_len hrow rfl
  subst hve
  have HSR := Lib.hid hsr; have HRW := Lib.hid hrow; have HB := Lib.hid hB; have HKD := Lib.hid hK; have HV := Lib.hid hv
  have hDl := (Array.getElem?_eq_some_iff.1 hK).1
  have hBl := hv.lt
  clear hsr hrow hnil hB hK hv HWI HE HT HK HR
  gi_wp2_with fail
  refine ⟨trivial, ?_⟩
  refine (callsIn_wide.2 HSR.out).mono ?_
  rintro e w3 ⟨rfl, hrw3, hb3, hbl3⟩
  have HV3 : Boxed w3 w.heap.size 162 (.slice ao L.length c) := (hbl3 _ hnb.symm hBl).trans HV.out
  have hc3 := HV3.cell
  have HK3 := Lib.hid ((hbl3 _ hnd hDl).trans HKD.out)
  have B3 := Lib.hid (HB.out.trans hb3)
  have hD3 : D < w3.heap.size := Nat.lt_of_lt_of_le hDl hb3.size
  have HRW3 := Lib.hid hrw3
  have hlenM : (sortA L).length = L.length := sortA_len L
  clear hrw3 hb3 hbl3 HSR HRW HB HKD HV HV3 hc hnb hnd hDl hBl
  generalize hM : sortA L = M at *
  have HM := Lib.hid hM; clear hM
  generalize L.length = N at *
  have HLM := Lib.hid hlenM; clear hlenM
  gi_wp2_with fail
  gi_loopw [6, 22] (fun ov iv wr => ∃ k : Nat, iv = .int .i64 k ∧ k ≤ N ∧ Hid (wr.ownsRow w3.heap.size 37 4 ov k (((M.take k).map (·.r)).flatMap encRea)) ∧ Hid (Below w3.heap.size w3 wr)) (fun _ iv _ => N - (intOf iv).toNat)
  case atStart => exact ⟨0, rfl, Nat.zero_le _, Lib.hid (World.ownsRow_nil _ _ _ _), Lib.hid (Below.refl _ _)⟩
  case round =>
   obtain ⟨k, rfl, hk, hro, hbw⟩ := hrel
   by_cases hkn : k < N
   ·obtain ⟨t, ht⟩ : ∃ t, M[k]? = some t := ⟨_, List.getElem?_eq_getElem (by rw [HLM.out]; exact hkn)⟩
    obtain ⟨bp, op, hap, hatp, hltp⟩ := HRW3.out.block ht
    subst hap
    have hat2 := hatp.below hbw.out hltp
    have p0 : wr.cell? ⟨bp, op + k * 5, none⟩ = some (.int .i64 t.r.sign) := hat2 k t ht 0 _ rfl
    have p1 : wr.cell? ⟨bp, op + k * 5 + 1, none⟩ = some (.int .i64 t.r.dir) := hat2 k t ht 1 _ rfl
    have p2 : wr.cell? ⟨bp, op + k * 5 + 2, none⟩ = some (.int .i64 t.r.level) := hat2 k t ht 2 _ rfl
    have p3 : wr.cell? ⟨bp, op + k * 5 + 3, none⟩ = some (.bool t.r.drop) := hat2 k t ht 3 _ rfl
    have p4 : wr.cell? ⟨bp, op + k * 5 + 4, none⟩ = some (.int .i64 t.n) := hat2 k t ht 4 _ rfl
    have htk : M.take (k + 1) = M.take k ++ [t] := by rw [List.take_add_one, ht]; rfl
    have HT := Lib.hid ht; have HTK := Lib.hid htk
    have hkn' : (k : Int) < (N : Int) := by omega
    clear hatp hat2 ht htk
    obtain ⟨gb0, gb1, gz, gb⟩ := blocks2 wr (.cells #[.int .i64 t.r.sign, .int .i64 t.r.dir, .int .i64 t.r.level, .bool t.r.drop, .int .i64 t.n] 164) (.cells #[.int .i64 t.r.sign, .int .i64 t.r.dir, .int .i64 t.r.level, .bool t.r.drop] 37)
    have hpar : ∀ j u, (encRea t.r)[j]? = some u → ((wr.alloc (.cells #[.int .i64 t.r.sign, .int .i64 t.r.dir, .int .i64 t.r.level, .bool t.r.drop, .int .i64 t.n] 164)).alloc (.cells #[.int .i64 t.r.sign, .int .i64 t.r.dir, .int .i64 t.r.level, .bool t.r.drop] 37)).cell? ((⟨wr.heap.size + 1, 0, none⟩ : Addr).add j) = some u := by
     intro j u hj
     rw [addr_plain, Nat.zero_add]
     exact cell_at gb1 j (by simpa [encRea] using hj)
    have hsz := hbw.out.size
    have HP := Lib.hid hpar; have GZ := Lib.hid gz; have GB := Lib.hid gb
    clear hpar gb0 gb1 gz gb
    gi_wp2_with (gi_at_builtin; refine wpListIn_append_own _ rfl _ _ 40 rfl w3.heap.size 37 j0 _ 4 32 Tryz.underlying40 hj0 hjz hjs hjb rfl (by decide) _ _ _ rfl ((hro.out.alloc _).alloc _) ⟨wr.heap.size + 1, 0, none⟩ 1 1 (encRea t.r) rfl rfl HP.out (encRea_one t.r) (by simp only [maxLen]; omega) (by omega) (by rw [GZ.out]; omega) ?_; intro v' w1 hown' hgrow _)
    have hge := fun j h => (owns_ge hro.out (g := j) h).1
    have HB1 := Lib.hid (((hbw.out.trans (GB.out.mono hsz)).grown hgrow (by rw [GZ.out]; omega) hge))
    go_roundw
    case rel => exact ⟨k + 1, by go_num, by omega, Lib.hid (by rw [HTK.out, List.map_append, List.flatMap_append]; simpa using hown'), HB1⟩
    case measure => simp [intOf]; omega
   ·obtain rfl : N = k := by omega
    have hkn' : ¬ (N : Int) < (N : Int) := by omega
    gi_wp2_with fail
    have hKD := (hbw.out.block _ hD3).trans HK3.out
    refine ⟨by simp, .inl ⟨_, _, rfl, run_takeDeferred hKD, ?_⟩⟩
    refine ⟨_, results_tmp rfl _ _ _, _, rfl, ?_, ?_⟩
    ·rw [HM.out]
     have h := ownsRow_putObj hro.out (.deferred none) hKD rfl
     rw [List.take_of_length_le (by rw [HLM.out]; exact Nat.le_refl _)] at h
     try rw [List.length_map]
     rw [HLM.out]
     exact owns_base h B3.out.size
    ·exact (B3.out.trans (hbw.out.mono B3.out.size)).trans (belowK_b (w := w) (Nat.le_refl _) _ D _ _ (by omega) hKD rfl rfl)
end Go.Proofs.YtggcbblikgankaaGreatDoor
end
