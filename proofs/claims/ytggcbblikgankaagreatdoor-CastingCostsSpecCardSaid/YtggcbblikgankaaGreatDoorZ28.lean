/- Contracts and plain laws on the way to the statement: part 28. -/
import Derived.Test.YtggcbblikgankaaGreatDoorZ12
import Derived.Test.YtggcbblikgankaaGreatDoorZ27
import Derived.Test.YtggcbblikgankaaGreatDoorZ8
import Derived.Test.YtggcbblikgankaaGreatDoorZ23
import Derived.Test.YtggcbblikgankaaGreatDoorZ9
import Derived.RangeFuncBox
import Derived.Maps.AppendAt
import Derived.Test.YtggcbblikgankaaGreatDoorZ3
set_option linter.unusedVariables false
set_option linter.unusedSimpArgs false
set_option maxRecDepth 100000
set_option maxHeartbeats 16000000
namespace Go.Proofs.YtggcbblikgankaaGreatDoor
open Go.Value (int)
open Go.IntKind (i64)
section
open Go.RowKit Go.Sort
def Ay (x : Par) : List Value := [int i64 x.r.sign, int i64 x.r.dir, int i64 x.r.level, .bool x.r.drop, int i64 x.n]
def cfP (x y : Par) : Int := By y.n x.n
theorem Ik (x : Par) : ∀ v ∈ Ay x, v.oneCell' = true := by
 intro v hv
 simp only [Ay, List.mem_cons, List.not_mem_nil, or_false] at hv
 rcases hv with rfl | rfl | rfl | rfl | rfl <;> rfl
theorem MI (x y : Par) (w : World) : Calls Tryz.prog 120 #[.agg (Ay x).toArray, .agg (Ay y).toArray] w fun e w' => e = .returned (int i64 (cfP x y)) ∧ w' = (w.alloc (.cells (Ay x).toArray 164)).alloc (.cells (Ay y).toArray 164) := by
 unfold Ay cfP
 go_enter Tryz.func120, Tryz.ntmps120
 go_wp2_with fail
 refine (Ew y.n x.n _).mono ?_
 rintro e w' ⟨rfl, rfl⟩
 go_wp2_with fail
 go_ret
 exact ⟨rfl, rfl⟩
theorem LG (blk off size : Nat) (w : World) : CmpLays Tryz.prog 120 #[] Ay 5 cfP blk off size w := by
 intro m os dk _ x y
 have h := MI x y (sortWorldK Ay 5 w blk off m dk os)
 rw [Array.append_empty]
 refine h.mono ?_
 rintro e w' ⟨rfl, rfl⟩
 refine ⟨rfl, 0, #[.cells (Ay x).toArray 164, .cells (Ay y).toArray 164], ?_⟩
 rw [alloc_eq_grow, alloc_eq_grow, grow_grow]
 rfl
theorem MZ (blk off cap : Nat) (d : Array Par) (w : World) (hH : HoldsK Ay 5 w blk off d) (hblk : blk < w.heap.size) (hsz : d.size < 20) :
  Calls Tryz.prog 139 #[.slice (some ⟨blk, off, none⟩) d.size cap, int i64 d.size, .func (.func 120) #[] #[]] w fun e w' =>
   e = .returned (.tuple #[]) ∧ ∃ n os, w' = sortWorldK Ay 5 w blk off n (Sort.insertionSort (ltOf cfP) d 0 d.size) os := by
 have hi := AnyQ.insertionSortCmpFunc Sg 5 Tryz.isAgg164 Tryz.sizeOf164 Ay (fun _ => rfl) Ik cfP 120 #[] blk off cap 0 d.size d w (enters_of Tryz.func120 (by kernel_rfl) rfl) (LG _ _ _ _) hH hblk (Nat.zero_le _) (qn _) (by omega)
 have HI := qh hi; clear hi hH
 have f1 : ¬ (20 : Int) ≤ (d.size : Int) := by omega
 have f2 : ¬ (20 : Int) < (d.size : Int) := by omega
 generalize d.size = N at *
 go_enter Tryz.func139, Tryz.ntmps139
 go_wp2_with fail
 refine wp_loop_rounds 1 ?_
 rw [rounds_succ]
 go_wp2_with fail
 refine HI.out.mono ?_
 rintro e w' ⟨rfl, n, os, rfl⟩
 have HW := qh (rfl : sortWorldK Ay 5 w blk off n (Sort.insertionSort (ltOf cfP) d 0 N) os = sortWorldK Ay 5 w blk off n (Sort.insertionSort (ltOf cfP) d 0 N) os)
 go_wp2_with fail
 refine wp_loop_rounds 1 ?_
 rw [rounds_succ]
 go_wp2_with fail
 go_end0
 exact ⟨rfl, n, os, rfl⟩
theorem Ir (blk off cap : Nat) (d : Array Par) (w : World) (hH : HoldsK Ay 5 w blk off d) (hblk : blk < w.heap.size) (hsz : d.size < 20) :
  Calls Tryz.prog 119 #[.slice (some ⟨blk, off, none⟩) d.size cap, .func (.func 120) #[] #[]] w fun e w' =>
   e = .returned (.tuple #[]) ∧ ∃ n os, w' = sortWorldK Ay 5 w blk off n (Sort.insertionSort (ltOf cfP) d 0 d.size) os := by
 have hi := MZ blk off cap d w hH hblk hsz
 have HI := qh hi; clear hi hH
 go_enter Tryz.func119, Tryz.ntmps119
 go_wp2_with fail
 refine HI.out.mono ?_
 rintro e w' ⟨rfl, n, os, rfl⟩
 go_wp2_with fail
 go_end0
 exact ⟨rfl, n, os, rfl⟩
theorem IU (w : World) : Calls Tryz.prog 152 #[.slice none 0 0, int i64 0, int i64 0, .func (.func 120) #[] #[]] w fun e w' => e = .returned (.tuple #[]) ∧ w = w' := by
 go_enter Tryz.func152, Tryz.ntmps152
 go_wp2_with fail
 refine wp_loop_rounds 1 ?_
 rw [rounds_succ]
 go_wp2_with fail
 go_end0
 exact ⟨rfl, rfl⟩
theorem LY (w : World) : Calls Tryz.prog 139 #[.slice none 0 0, int i64 0, .func (.func 120) #[] #[]] w fun e w' => e = .returned (.tuple #[]) ∧ w = w' := by
 go_enter Tryz.func139, Tryz.ntmps139
 go_wp2_with fail
 refine wp_loop_rounds 1 ?_
 rw [rounds_succ]
 go_wp2_with fail
 refine (IU w).mono ?_
 rintro e w' ⟨rfl, rfl⟩
 go_wp2_with fail
 refine wp_loop_rounds 1 ?_
 rw [rounds_succ]
 go_wp2_with fail
 go_end0
 exact ⟨rfl, rfl⟩
theorem I8 (w : World) : Calls Tryz.prog 119 #[.slice none 0 0, .func (.func 120) #[] #[]] w fun e w' => e = .returned (.tuple #[]) ∧ w = w' := by
 go_enter Tryz.func119, Tryz.ntmps119
 go_wp2_with fail
 refine (LY w).mono ?_
 rintro e w' ⟨rfl, rfl⟩
 go_wp2_with fail
 go_end0
 exact ⟨rfl, rfl⟩
end
section
open Go.RowKit Go.Sort
section
variable {α : Type} {enc : α → List Value} {k : Nat}
theorem Ld (hk : ∀ x, (enc x).length = k) : ∀ (xs : List α) (i c : Nat) (x : α), xs[i]? = some x → c < k → (xs.flatMap enc)[i * k + c]? = (enc x)[c]?
 | [], _, _, _, h, _ => by simp at h
 | y :: r, 0, c, x, h, hc => by
  simp at h; subst h
  rw [List.flatMap_cons, Nat.zero_mul, Nat.zero_add, List.getElem?_append_left (by rw [hk]; exact hc)]
 | y :: r, i + 1, c, x, h, hc => by
  rw [List.flatMap_cons, List.getElem?_append_right (by rw [hk, Nat.succ_mul]; omega), hk, show (i + 1) * k + c - k = i * k + c by rw [Nat.succ_mul]; omega]
  exact Ld hk r i c x (by simpa using h) hc
theorem Hg (hk : ∀ x, (enc x).length = k) (xs : List α) : (xs.flatMap enc).length = xs.length * k := by
 induction xs with
 | nil => simp
 | cons y r ih => rw [List.flatMap_cons, List.length_append, ih, hk, List.length_cons, Nat.succ_mul]; omega
theorem Nl {w : World} {base g cap n : Nat} {e : TypeId} {xs : List α} (hk : ∀ x, (enc x).length = k) (h : w.ownsRow base e k (.slice (some ⟨g, 0, none⟩) n cap) n (xs.flatMap enc)) (hn : xs.length = n) :
  AtRow enc k w g 0 xs ∧ g < w.heap.size ∧ base ≤ g ∧ n ≤ maxLen ∧ ∀ j, j < n * k → w.frozen? ⟨g, j, none⟩ = false := by
 obtain ⟨hl, h⟩ := h
 rcases h with ⟨h, _⟩ | ⟨g', cap', cur, hv, hb, hg, hc, hm, hz, ht⟩
 ·cases h
 ·cases hv
  refine ⟨?_, (qs.1 hg).1, hb, Nat.le_trans hc hm, fun j _ => by simp [World.frozen?, hg]⟩
  intro i x hx j v hj
  have hjk : j < k := by rw [← hk x]; exact (ql.1 hj).1
  have h1 := Ld hk xs i j x hx hjk
  have hin : i < n := by rw [← hn]; exact (ql.1 hx).1
  have h2 : i * k + j < n * k := by
   have := Nat.mul_le_mul_right k (show i + 1 ≤ n from hin); rw [Nat.succ_mul] at this; omega
  rw [← ht, List.getElem?_take_of_lt h2, hj] at h1
  rw [Nat.zero_add]
  unfold World.cell?
  simp only [hg]
  simpa using h1
theorem CI {w : World} {base n : Nat} {v : Value} {e : TypeId} {xs : List α} (hk : ∀ x, (enc x).length = k) (h : w.ownsRow base e k v n (xs.flatMap enc)) (hn : xs.length = n) : IsRow enc k w v xs := by
 have h0 := h
 rcases h.2 with ⟨rfl, h1⟩ | ⟨g, cap, cur, rfl, hb, hg, hc, hm, hz, ht⟩
 ·subst h1
  have : xs = [] := List.length_eq_zero_iff.1 hn
  subst this; exact IsRow.nil
 ·obtain ⟨a1, a2, a3, a4, _⟩ := Nl hk h0 hn
  exact ⟨some ⟨g, 0, none⟩, cap, by rw [hn], by omega, Or.inr ⟨g, 0, rfl, a1, a2⟩⟩
theorem Jv {w w' : World} {base n b : Nat} {v : Value} {e : TypeId} {cs : List Value} (h : w.ownsRow base e k v n cs) (hb : Below b w w') (hv : ∀ g, v.ownBlock = some g → g < b) : w'.ownsRow base e k v n cs := by
 refine ⟨h.1, ?_⟩
 rcases h.2 with h | ⟨g, cap, cur, rfl, h1, hg, h2⟩
 ·exact Or.inl h
 ·exact Or.inr ⟨g, cap, cur, rfl, h1, (hb.block _ (hv g rfl)).trans hg, h2⟩
theorem DO {w w' : World} {base n : Nat} {v : Value} {e : TypeId} {cs : List Value} (h : w.ownsRow base e k v n cs) (hb : Below w.heap.size w w') : w'.ownsRow base e k v n cs := by
 refine Jv h hb fun g hg => ?_
 rcases h.2 with ⟨rfl, _⟩ | ⟨g', cap, cur, rfl, h1, hg', h2⟩
 ·simp [Value.ownBlock] at hg
 ·simp [Value.ownBlock] at hg; subst hg; exact (qs.1 hg').1
end
section
variable {α : Type} [Inhabited α] {enc : α → List Value} {k : Nat}
theorem IV {w : World} {base g cap n : Nat} {e : TypeId} {xs : List α} (hk : ∀ x, (enc x).length = k) (h : w.ownsRow base e k (.slice (some ⟨g, 0, none⟩) n cap) n (xs.flatMap enc)) (hn : xs.length = n) : HoldsK enc k w g 0 xs.toArray := by
 obtain ⟨ha, hlt, _, _, hf⟩ := Nl hk h hn
 intro j hj
 rw [size_flatK, List.size_toArray, hn] at hj
 rcases Nat.eq_zero_or_pos k with hk0 | hkp
 ·subst hk0; simp at hj
 ·refine ⟨?_, by rw [Nat.zero_add]; exact hf j hj⟩
  have hdm : j / k * k + j % k = j := by rw [Nat.mul_comm]; exact Nat.div_add_mod j k
  have hq : j / k < n := Nat.div_lt_of_lt_mul (by rw [Nat.mul_comm]; exact hj)
  have hr : j % k < k := Nat.mod_lt _ hkp
  obtain ⟨x, hx⟩ : ∃ x, xs[j / k]? = some x := ⟨_, qg (by omega)⟩
  have hxx : xs.toArray[j / k]! = x := by simp [hx]
  rw [get_flatK enc k _ j (by rw [List.size_toArray, hn]; exact hj), hxx]
  have hv : (enc x)[j % k]? = some ((enc x)[j % k]!) := by rw [List.getElem!_eq_getElem?_getD, qg (by rw [hk]; exact hr)]; rfl
  have := ha (j / k) x hx (j % k) _ hv
  rw [Nat.add_assoc, Nat.zero_add, hdm] at this
  rw [Nat.zero_add]
  exact this
theorem L7 {w : World} {g : Nat} {d : Array α} (hk : ∀ x, (enc x).length = k) (h : HoldsK enc k w g 0 d) : AtRow enc k w g 0 d.toList := by
 intro i x hx j v hj
 have hjk : j < k := by rw [← hk x]; exact (ql.1 hj).1
 have hi : i < d.size := by rw [← Array.length_toList]; exact (ql.1 hx).1
 have h1 := (h.cell hi hjk).1
 have hxx : d[i]! = x := by
  rw [getElem!_pos d i hi]
  rw [Array.getElem?_toList] at hx
  rw [Array.getElem?_eq_getElem hi] at hx
  exact Option.some.inj hx
 rw [h1, hxx, List.getElem!_eq_getElem?_getD, hj]
 rfl
theorem Hl (w : World) (blk off m : Nat) (d : Array α) (os : Array Obj) {j : Nat} (hj : j < w.heap.size) (hne : j ≠ blk) : (sortWorldK enc k w blk off m d os).heap[j]? = w.heap[j]? := by
 unfold sortWorldK grow putRowK putRow mapBlock Sort.ahead
 simp only
 rw [Array.getElem?_append_left (by simpa using hj), Array.getElem?_modify, if_neg (fun e => hne e.symm)]
theorem MX (w : World) (blk off m : Nat) (d : Array α) (os : Array Obj) {n : Nat} (hn : n ≤ blk) (hb : blk < w.heap.size) : Below n w (sortWorldK enc k w blk off m d os) :=
 ⟨rfl, rfl, rfl, size_sortWorldK_c enc k w blk off m d os, fun j hj => Hl w blk off m d os (by omega) (by omega)⟩
end
theorem Bd {w : World} {base base' n k : Nat} {v : Value} {e : TypeId} {cs : List Value} (h : w.ownsRow base e k v n cs) (hb : base' ≤ base) : w.ownsRow base' e k v n cs := by
 refine ⟨h.1, ?_⟩
 rcases h.2 with h | ⟨g, cap, cur, e, h1, h2⟩
 ·exact Or.inl h
 ·exact Or.inr ⟨g, cap, cur, e, Nat.le_trans hb h1, h2⟩
theorem EJ {w : World} {base n k g : Nat} {v : Value} {e : TypeId} {cs : List Value} (h : w.ownsRow base e k v n cs) (hg : v.ownBlock = some g) : base ≤ g ∧ g < w.heap.size ∧ ∃ cur, w.heap[g]? = some (.cells cur e (0, 0)) := by
 rcases h.2 with ⟨rfl, _⟩ | ⟨g', cap, cur, rfl, h1, h2, _⟩
 ·simp [Value.ownBlock] at hg
 ·simp [Value.ownBlock] at hg; subst hg; exact ⟨h1, (qs.1 h2).1, cur, h2⟩
def Ai (r : Rea) : List Value := [int i64 r.sign, int i64 r.dir, int i64 r.level, .bool r.drop]
theorem ER (r : Rea) : (Ai r).length = 4 := rfl
theorem Fg (r : Par) : (Ay r).length = 5 := rfl
def Ce (l : List Par) : List Par := (Sort.insertionSort (ltOf cfP) l.toArray 0 l.length).toList
def C3 (ta tc : Int) (s : Sgn) (top : Nat) : List Rea := (Ce (C8 ta tc s top 9)).map (·.r)
theorem Nm : SWO (ltOf cfP) where
 irrefl x := by unfold ltOf cfP By; simp
 trans x y z h1 h2 := by
  unfold ltOf cfP By at *
  simp only [decide_eq_true_eq] at *
  split at h1 <;> split at h2 <;> split <;> first | omega | (split at h1 <;> omega) | skip
  all_goals (try split at h1) <;> (try split at h2) <;> (try split) <;> omega
 ntrans x y z h1 h2 := by
  unfold ltOf cfP By at *
  simp only [decide_eq_false_iff_not] at *
  split at h1 <;> split at h2 <;> split <;> first | omega | skip
  all_goals (try split at h1) <;> (try split at h2) <;> (try split) <;> omega
theorem DT (l : List Par) : (Ce l).Perm l := by
 have h := (insertionSort_holds (lt := ltOf cfP) Nm l.toArray 0 l.length (Nat.zero_le _) (by simp)).1
 obtain ⟨h1, _, h3⟩ := h
 have e1 : ((Sort.insertionSort (ltOf cfP) l.toArray 0 l.length).extract 0 l.length) = Sort.insertionSort (ltOf cfP) l.toArray 0 l.length := by
  rw [← Array.extract_size (xs := Sort.insertionSort (ltOf cfP) l.toArray 0 l.length)]
  rw [h1]; simp
 have e2 : (l.toArray.extract 0 l.length) = l.toArray := by
  simp
 rw [e1, e2] at h3
 exact h3
theorem Ch (l : List Par) : (Ce l).length = l.length := (DT l).length_eq
theorem OA : Ce [] = [] := List.length_eq_zero_iff.1 (by rw [Ch]; rfl)
theorem Pv (w : World) (base : Nat) (v : Value) (L : List Par) (hrow : w.ownsRow base 164 5 v L.length (L.flatMap Ay)) (hn : v = .slice none 0 0 ↔ L = []) (hfew : L.length < 20) :
  Calls Tryz.prog 119 #[v, .func (.func 120) #[] #[]] w fun e w' => e = .returned (.tuple #[]) ∧ IsRow Ay 5 w' v (Ce L) ∧ Below base w w' ∧ ∀ j, v.ownBlock ≠ some j → j < w.heap.size → w'.heap[j]? = w.heap[j]? := by
 by_cases hL : L = []
 ·have hv := hn.2 hL
  subst hv
  subst hL
  refine (I8 w).mono ?_
  rintro e w' ⟨rfl, rfl⟩
  exact ⟨rfl, by rw [OA]; exact IsRow.nil, Below.refl _ _, fun _ _ _ => rfl⟩
 ·have h0 := hrow
  rcases hrow.2 with ⟨rfl, h⟩ | ⟨g, cap, cur, rfl, hb, hg, hc, hm, hz, ht⟩
  ·exact absurd (hn.1 rfl) hL
  ·have hlt := (qs.1 hg).1
   have hH := IV Fg h0 rfl
   have hs := Ir g 0 cap L.toArray w hH hlt (by simpa using hfew)
   rw [List.size_toArray] at hs
   refine hs.mono ?_
   rintro e w' ⟨rfl, m, os, rfl⟩
   have hsz : (Sort.insertionSort (ltOf cfP) L.toArray 0 L.length).size = L.toArray.size := by
    rw [← Array.length_toList]; exact (Ch L).trans (by simp)
   have hH2 := holdsK_sortWorldK_c Ay 5 w g 0 L.toArray (Sort.insertionSort (ltOf cfP) L.toArray 0 L.length) m os hH hlt hsz
   refine ⟨rfl, ⟨some ⟨g, 0, none⟩, cap, by rw [Ch], by rw [Ch]; omega, Or.inr ⟨g, 0, rfl, L7 Fg hH2, Nat.lt_of_lt_of_le hlt (size_sortWorldK_c Ay 5 w g 0 m _ os)⟩⟩, MX w g 0 m _ os hb hlt, fun j hne hj => Hl w g 0 m _ os hj (fun e => hne (by rw [e]; rfl))⟩
end
section
open Go.RowKit Go.Shelf
attribute [local go_sem] Oper.semAt_some
theorem RS : (Tryz.prog.info? 164).map (fun i => (i.zero, i.size, i.bytes)) = some (some (.agg #[int i64 0, int i64 0, int i64 0, .bool false, int i64 0]), 5, 40) := by kernel_rfl
theorem GV : (Tryz.prog.info? 37).map (fun i => (i.zero, i.size, i.bytes)) = some (some (.agg #[int i64 0, int i64 0, int i64 0, .bool false]), 4, 32) := by kernel_rfl
theorem Dd (x : Rea) : ∀ v ∈ Ai x, v.oneCell' = true := by
 intro v hv
 simp only [Ai, List.mem_cons, List.not_mem_nil, or_false] at hv
 rcases hv with rfl | rfl | rfl | rfl <;> rfl
theorem KJ (Bt Bk Br : Nat) (ta tb tc : Int) (hta : 0 ≤ ta ∧ ta ≤ 32768) (htc : 1 ≤ tc ∧ tc ≤ 32768) (s : Sgn) (hd0 : 0 ≤ s.dir ∧ s.dir ≤ 8) (hl0 : 1 ≤ s.level ∧ s.level ≤ 3) (top : Nat) (htop : top ≤ 3)
  (w : World) (hE : Env w) (hz : 2 ≤ w.heap.size) (hBt : Bt < w.heap.size) (hBk : Bk < w.heap.size) (hBr : Br < w.heap.size) (ht : w.heap[Bt]? = some (.cells #[int i64 top] 3 (0, 0))) (hk : w.heap[Bk]? = some (.cells (Ar s) 72 (0, 0))) (hr : w.heap[Br]? = some (.cells #[int i64 ta, int i64 tb, int i64 tc] 23 (0, 0))) :
  Calls Tryz.prog 98 #[.func (.func 121) #[] #[.pointer (some ⟨Bt, 0, none⟩), .pointer (some ⟨Bk, 0, none⟩), .pointer (some ⟨Br, 0, none⟩)]] w fun e w' => ∃ v, e = .returned v ∧ w'.ownsRow w.heap.size 37 4 v (C3 ta tc s top).length ((C3 ta tc s top).flatMap Ai) ∧ Below w.heap.size w w' := by
 obtain ⟨i0, hi0, hiz, his, hib⟩ := info_parts RS
 obtain ⟨j0, hj0, hjz, hjs, hjb⟩ := info_parts GV
 have hfew := R6 (ta := ta) (tc := tc) (s := s) (top := top) hta.1 htc.1 (A4.2 hd0) (A4.2 hl0) htop
 have HE := qh hE; have HT := qh ht; have HK := qh hk; have HR := qh hr
 have hwi := fun l J hJ hY W hE hz2 ht hk hr h0 => Pr 9 l Bt Bk Br w.heap.size (by omega) hz hBt hBk hBr ta tb tc hta ⟨by omega, htc.2⟩ s hd0 hl0 top htop J hJ hY W hE hz2 ht hk hr h0
 have HWI := qh hwi
 clear hE ht hk hr hwi
 unfold C3
 generalize hL : C8 ta tc s top 9 = L at *
 have HL := qh hL; clear hL
 refine (callsIn_wide (n := 10)).1 ?_
 refine callsIn_of_wp_marks Tryz.func98 rfl trivial ?_ rfl
 simp only [Tryz.ntmps98, List.size_toArray, List.length_cons, List.length_nil, Nat.reduceAdd, Nat.reduceSub, Array.replicate_succ, Array.replicate_zero, List.push_toArray, List.append_toArray, List.nil_append, List.cons_append]
 gi_wp2_with fail
 have bO := Boxed.new w 162 (.slice none 0 0)
 have hB0 : Below w.heap.size w (w.alloc (.cells #[.slice none 0 0] 162)) := (Below.refl _ w).alloc (qn _) _
 have hz0 : (w.alloc (.cells #[.slice none 0 0] 162)).heap.size = w.heap.size + 1 := by simp
 generalize w.alloc (.cells #[.slice none 0 0] 162) = W0 at *
 refine Ep rfl (by omega) (gf := 121) (lb := #[.pointer (some ⟨Bt, 0, none⟩), .pointer (some ⟨Bk, 0, none⟩), .pointer (some ⟨Br, 0, none⟩)]) rfl trivial (enters_of Tryz.func121 (by kernel_rfl) rfl)
  (encs := QN) (n₀ := w.heap.size) (by omega) (S := fun xs => xs = L) (N := 1000) ?seq (fun _ => rfl)
  (fun pre W => (∃ v, Boxed W w.heap.size 162 v ∧ W.ownsRow w.heap.size 164 5 v pre.length (pre.flatMap Ay) ∧ (v = .slice none 0 0 ↔ pre = [])) ∧ Below w.heap.size w W)
  (OwnFrom.and (Own.from (holdsRow_own w.heap.size w.heap.size 162 164 5 (fun pre => pre.length) (fun pre => pre.flatMap Ay) (fun pre v => v = .slice none 0 0 ↔ pre = [])) _) (ownFrom_below (qn _) (by omega)))
  ?hIk ⟨⟨_, bO, World.ownsRow_nil _ _ _ _, by simp⟩, hB0⟩
  (fun x a' W => ∃ Bx, W.heap[Bx]? = some (.cells #[int i64 x.r.sign, int i64 x.r.dir, int i64 x.r.level, .bool x.r.drop] 37 (0, 0)) ∧ a' = { tmps := #[.func (.func 121) #[] #[.pointer (some ⟨Bt, 0, none⟩), .pointer (some ⟨Bk, 0, none⟩), .pointer (some ⟨Br, 0, none⟩)], undef, .slice none 0 0, .pointer (some ⟨w.heap.size, 0, none⟩), .pointer (some ⟨Bx, 0, none⟩), int i64 x.n, undef, undef, undef, .func (.func 121) #[] #[.pointer (some ⟨Bt, 0, none⟩), .pointer (some ⟨Bk, 0, none⟩), .pointer (some ⟨Br, 0, none⟩)], .agg #[int i64 x.r.sign, int i64 x.r.dir, int i64 x.r.level, .bool x.r.drop], int i64 x.n, undef, undef, undef, undef, undef, undef, undef, undef, undef, undef, undef, undef, undef, undef, undef, undef, undef, undef, undef, undef, undef], defers := [] })
  ?hAx ?assign ?body ?done
 case seq =>
  intro l J W hB hJ hY hj0
  exact HWI.out l J hJ hY W (HE.out.two hz (hB0.trans (hB.mono (by omega)))) (by have := hB.size; omega) ((hB.block _ (by omega)).trans ((hB0.block _ hBt).trans HT.out)) ((hB.block _ (by omega)).trans ((hB0.block _ hBk).trans HK.out)) ((hB.block _ (by omega)).trans ((hB0.block _ hBr).trans HR.out)) hj0
 case hIk =>
  rintro pre W W' ⟨⟨v, hv, hrow, hn⟩, hB⟩ hb
  exact ⟨⟨v, (hb.block _ hv.lt).trans hv, DO hrow hb, hn⟩, hB.trans (hb.mono hB.size)⟩
 case hAx =>
  rintro x a' _ X Y row ⟨Bx, h, e⟩ hg hr
  refine ⟨Bx, (hg.block _ (qs.1 h).1 (fun e2 => ?_)).trans h, e⟩
  obtain ⟨_, o, ho, hc⟩ := hr Bx e2.symm
  rw [h] at ho; cases ho; cases hc
 case assign =>
  intro l pre x W K hi hK
  have HKK := qh hK; clear hK hi
  simp only [QN]
  gi_wp2_with fail
  exact HKK.out _ _ (KeepsOthers.alloc _ _) ((Below.refl _ W).alloc (qn _) _) ⟨W.heap.size, heap_alloc_new W _, rfl⟩
 case body =>
  rintro l pre x a' W ⟨⟨v, hv, hrow, hnil⟩, hB⟩ ⟨Bx, hbx, rfl⟩ hlt
  have hc := hv.cell
  have x0 := A0 hbx 0 rfl
  have x1 := A0 hbx 1 rfl
  have x2 := A0 hbx 2 rfl
  have x3 := A0 hbx 3 rfl
  have hpar : ∀ j u, (Ay x)[j]? = some u → (W.alloc (.cells #[int i64 x.r.sign, int i64 x.r.dir, int i64 x.r.level, .bool x.r.drop, int i64 x.n] 164)).cell? ((⟨W.heap.size, 0, none⟩ : Addr).add j) = some u := by
   intro j u hj
   rw [Bj, Nat.zero_add]
   exact A0 (heap_alloc_new W _) j (by simpa [Ay] using hj)
  have hsz := hB.size
  have HP := qh hpar; have HRW := qh hrow; have HNL := qh hnil; have HB := qh hB
  clear hpar hbx hnil
  gi_wp2_with (gi_at_builtin; refine wpListIn_append_own _ rfl _ _ 162 rfl w.heap.size 164 i0 _ 5 40 Tryz.underlying162 hi0 hiz his hib rfl (by decide) _ _ _ rfl (HRW.out.alloc _) ⟨W.heap.size, 0, none⟩ 1 1 (Ay x) rfl rfl HP.out (Ik x) (by simp only [maxLen]; omega) (by omega) (by simp; omega) ?_; intro v' w1 hown' hgrow _; obtain ⟨g', cap', rfl⟩ := ownsRow_succ hown'; obtain ⟨hv1, hv2, hr2, hk2, hb2⟩ := hv.appended (by decide) HRW.out hsz (qn _) hown' hgrow; have hc1 := hv1.cell; have hf1 := hv1.frozen)
  exact ⟨hk2, hb2, ⟨_, hv2, by simpa using hr2, by simp⟩, HB.out.trans hb2⟩
 case done =>
  rintro D xs W hD hxs ⟨⟨v, hv, hrow, hnil⟩, hB⟩ hK
  rw [hxs] at hrow hnil
  clear hxs
  have hsr := Pv W w.heap.size v L hrow hnil (by omega)
  have hc := hv.cell
  have hnb := hv.not_row (by decide) hrow
  have hnd : v.ownBlock ≠ some D := fun e => by
   obtain ⟨_, _, cur, h⟩ := EJ hrow e
   rw [hK] at h; cases h
  obtain ⟨ao, c, hve, hml, _⟩ := CI Fg hrow rfl
  subst hve
  have HSR := qh hsr; have HRW := qh hrow; have HB := qh hB; have HKD := qh hK; have HV := qh hv
  have hDl := (qs.1 hK).1
  have hBl := hv.lt
  clear hsr hrow hnil hB hK hv HWI HE HT HK HR
  gi_wp2_with fail
  refine ⟨trivial, ?_⟩
  refine (callsIn_wide.2 HSR.out).mono ?_
  rintro e w3 ⟨rfl, hrw3, hb3, hbl3⟩
  have HV3 : Boxed w3 w.heap.size 162 (.slice ao L.length c) := (hbl3 _ hnb.symm hBl).trans HV.out
  have hc3 := HV3.cell
  have HK3 := qh ((hbl3 _ hnd hDl).trans HKD.out)
  have B3 := qh (HB.out.trans hb3)
  have hD3 : D < w3.heap.size := Nat.lt_of_lt_of_le hDl hb3.size
  have HRW3 := qh hrw3
  have hlenM : (Ce L).length = L.length := Ch L
  clear hrw3 hb3 hbl3 HSR HRW HB HKD HV HV3 hc hnb hnd hDl hBl
  generalize hM : Ce L = M at *
  have HM := qh hM; clear hM
  generalize L.length = N at *
  have HLM := qh hlenM; clear hlenM
  gi_wp2_with fail
  gi_loopw [6, 22] (fun ov iv wr => ∃ k : Nat, iv = int i64 k ∧ k ≤ N ∧ Hid (wr.ownsRow w3.heap.size 37 4 ov k (((M.take k).map (·.r)).flatMap Ai)) ∧ Hid (Below w3.heap.size w3 wr)) (fun _ iv _ => N - (intOf iv).toNat)
  case atStart => exact ⟨0, rfl, Nat.zero_le _, qh (World.ownsRow_nil _ _ _ _), qh (Below.refl _ _)⟩
  case round =>
   obtain ⟨k, rfl, hk, hro, hbw⟩ := hrel
   by_cases hkn : k < N
   ·obtain ⟨t, ht⟩ : ∃ t, M[k]? = some t := ⟨_, qg (by rw [HLM.out]; exact hkn)⟩
    obtain ⟨bp, op, hap, hatp, hltp⟩ := HRW3.out.block ht
    subst hap
    have hat2 := hatp.below hbw.out hltp
    have p0 : wr.cell? ⟨bp, op + k * 5, none⟩ = some (int i64 t.r.sign) := hat2 k t ht 0 _ rfl
    have p1 : wr.cell? ⟨bp, op + k * 5 + 1, none⟩ = some (int i64 t.r.dir) := hat2 k t ht 1 _ rfl
    have p2 : wr.cell? ⟨bp, op + k * 5 + 2, none⟩ = some (int i64 t.r.level) := hat2 k t ht 2 _ rfl
    have p3 : wr.cell? ⟨bp, op + k * 5 + 3, none⟩ = some (.bool t.r.drop) := hat2 k t ht 3 _ rfl
    have p4 : wr.cell? ⟨bp, op + k * 5 + 4, none⟩ = some (int i64 t.n) := hat2 k t ht 4 _ rfl
    have htk : M.take (k + 1) = M.take k ++ [t] := by rw [List.take_add_one, ht]; rfl
    have HT := qh ht; have HTK := qh htk
    have hkn' : (k : Int) < (N : Int) := by omega
    clear hatp hat2 ht htk
    obtain ⟨gb0, gb1, gz, gb⟩ := Bn wr (.cells #[int i64 t.r.sign, int i64 t.r.dir, int i64 t.r.level, .bool t.r.drop, int i64 t.n] 164) (.cells #[int i64 t.r.sign, int i64 t.r.dir, int i64 t.r.level, .bool t.r.drop] 37)
    have hpar : ∀ j u, (Ai t.r)[j]? = some u → ((wr.alloc (.cells #[int i64 t.r.sign, int i64 t.r.dir, int i64 t.r.level, .bool t.r.drop, int i64 t.n] 164)).alloc (.cells #[int i64 t.r.sign, int i64 t.r.dir, int i64 t.r.level, .bool t.r.drop] 37)).cell? ((⟨wr.heap.size + 1, 0, none⟩ : Addr).add j) = some u := by
     intro j u hj
     rw [Bj, Nat.zero_add]
     exact A0 gb1 j (by simpa [Ai] using hj)
    have hsz := hbw.out.size
    have HP := qh hpar; have GZ := qh gz; have GB := qh gb
    clear hpar gb0 gb1 gz gb
    gi_wp2_with (gi_at_builtin; refine wpListIn_append_own _ rfl _ _ 40 rfl w3.heap.size 37 j0 _ 4 32 Tryz.underlying40 hj0 hjz hjs hjb rfl (by decide) _ _ _ rfl ((hro.out.alloc _).alloc _) ⟨wr.heap.size + 1, 0, none⟩ 1 1 (Ai t.r) rfl rfl HP.out (Dd t.r) (by simp only [maxLen]; omega) (by omega) (by rw [GZ.out]; omega) ?_; intro v' w1 hown' hgrow _)
    have hge := fun j h => (EJ hro.out (g := j) h).1
    have HB1 := qh (((hbw.out.trans (GB.out.mono hsz)).grown hgrow (by rw [GZ.out]; omega) hge))
    go_roundw
    case rel => exact ⟨k + 1, by go_num, by omega, qh (by rw [HTK.out, List.map_append, List.flatMap_append]; simpa using hown'), HB1⟩
    case measure => simp [intOf]; omega
   ·obtain rfl : N = k := by omega
    have hkn' : ¬ (N : Int) < (N : Int) := by omega
    gi_wp2_with fail
    have hKD := (hbw.out.block _ hD3).trans HK3.out
    refine ⟨by simp, .inl ⟨_, _, rfl, run_takeDeferred hKD, ?_⟩⟩
    refine ⟨_, results_tmp rfl _ _ _, _, rfl, ?_, ?_⟩
    ·rw [HM.out]
     have h := ownsRow_putObj hro.out (.deferred none) hKD rfl
     rw [List.take_of_length_le (by rw [HLM.out]; exact qn _)] at h
     try rw [List.length_map]
     rw [HLM.out]
     exact Bd h B3.out.size
    ·exact (B3.out.trans (hbw.out.mono B3.out.size)).trans (belowK_b (w := w) (qn _) _ D _ _ (by omega) hKD rfl rfl)
end
section
open Go.RowKit
def Bh (b : Bod) : Value := .agg #[.string ⟨b.name.toArray⟩, int i64 b.weight, int i64 b.lift, int i64 b.girth, int i64 b.step, int i64 b.jump, int i64 b.r0, int i64 b.r1, int i64 b.r2, int i64 b.s0, int i64 b.s1, int i64 b.s2, int i64 b.t0, int i64 b.t1, int i64 b.t2, int i64 b.effort, int i64 b.recover]
def Hc (s : Sgn) : Value := .agg #[int i64 s.id, int i64 s.role, int i64 s.bar, int i64 s.mark, int i64 s.kind, int i64 s.side, int i64 s.dir, int i64 s.level, int i64 s.size, int i64 s.wth, int i64 s.fn, int i64 s.fd, int i64 s.tn, int i64 s.td]
theorem Mw (b : Bod) (w : World) : Calls Tryz.prog 68 #[Bh b] w fun e w' => e = .returned (int i64 b.step) ∧ w' = w.alloc (.cells (A1 b) 35) := by
 unfold Bh A1
 go_enter Tryz.func68, Tryz.ntmps68
 go_wp2_with fail
 go_ret
 exact ⟨rfl, rfl⟩
theorem MG (b : Bod) (w : World) : Calls Tryz.prog 69 #[Bh b] w fun e w' => e = .returned (int i64 b.jump) ∧ w' = w.alloc (.cells (A1 b) 35) := by
 unfold Bh A1
 go_enter Tryz.func69, Tryz.ntmps69
 go_wp2_with fail
 go_ret
 exact ⟨rfl, rfl⟩
theorem Sl (fn : Fn) (first cap : Array Value) (w : World) : (Instr.makeFunc fn first cap).run Tryz.prog w = .ok (.func fn first cap) w := rfl
theorem GX (g : Nat) (w : World) : Calls Tryz.prog 67 #[.func (.func g) #[] #[]] w fun e w' => e = .returned (.func (.func 96) #[] #[.pointer (some ⟨w.heap.size, 0, none⟩)]) ∧ w' = w.alloc (.cells #[.func (.func g) #[] #[]] 126) := by
 have hmf := Sl
 go_enter Tryz.func67, Tryz.ntmps67
 go_wp2_with fail
 go_ret
 exact ⟨rfl, rfl⟩
theorem Ht (i : Int) (w : World) : Calls Tryz.prog 70 #[int i64 i] w fun e w' => e = .returned (.func (.func 97) #[] #[.pointer (some ⟨w.heap.size, 0, none⟩)]) ∧ w' = w.alloc (.cells #[int i64 i] 3) := by
 have hmf := Sl
 go_enter Tryz.func70, Tryz.ntmps70
 go_wp2_with fail
 go_ret
 exact ⟨rfl, rfl⟩
theorem KG (ta tb tc : Int) (s : Sgn) (top : Int) (w : World) : Calls Tryz.prog 99 #[.agg #[int i64 ta, int i64 tb, int i64 tc], Hc s, int i64 top] w fun e w' =>
  e = .returned (.func (.func 121) #[] #[.pointer (some ⟨w.heap.size + 1 + 1, 0, none⟩), .pointer (some ⟨w.heap.size + 1, 0, none⟩), .pointer (some ⟨w.heap.size, 0, none⟩)]) ∧
  w' = ((w.alloc (.cells #[int i64 ta, int i64 tb, int i64 tc] 23)).alloc (.cells (Ar s) 72)).alloc (.cells #[int i64 top] 3) := by
 have hmf := Sl
 unfold Hc Ar
 go_enter Tryz.func99, Tryz.ntmps99
 go_wp2_with fail
 go_ret
 exact ⟨rfl, rfl⟩
theorem EB (w : World) (r : Rea) : (w.alloc (.cells #[int i64 r.sign, int i64 r.dir, int i64 r.level, .bool r.drop] 37)).ownsRow w.heap.size 37 4 (.slice (some ⟨w.heap.size, 0, none⟩) 1 1) 1 ([r].flatMap Ai) := by
 refine ⟨rfl, Or.inr ⟨w.heap.size, 1, _, rfl, qn _, heap_alloc_new w _, qn _, by decide, rfl, rfl⟩⟩
def Cb (s : Sgn) (n : Int) : List Rea := if n < s.size then [] else [⟨s.id, 0, 0, false⟩]
structure TS (w : World) (s : Sgn) (b : Bod) (g Bm : Nat) (w2 : World) : Prop where
 sgn : w2.heap[w.heap.size + 1]? = some (.cells (Ar s) 72 (0, 0))
 bod : w2.heap[w.heap.size + 1 + 1]? = some (.cells (A1 b) 35 (0, 0))
 bm : w2.cell? ⟨Bm, 0, none⟩ = some (.func (.func g) #[] #[])
 below : Below w.heap.size w w2
theorem TS.keep {w : World} {s : Sgn} {b : Bod} {g Bm : Nat} {w2 w3 : World} (h : TS w s b g Bm w2) (hb : Below w2.heap.size w2 w3) : TS w s b g Bm w3 :=
 ⟨(hb.block _ (qs.1 h.sgn).1).trans h.sgn, (hb.block _ (qs.1 h.bod).1).trans h.bod, (hb.cell (p := ⟨Bm, 0, none⟩) (AF h.bm)).trans h.bm, h.below.trans (hb.mono h.below.size)⟩
theorem TS.all {w : World} {s : Sgn} {b : Bod} {g Bm : Nat} {w2 : World} (h : TS w s b g Bm w2) :
  w2.cell? ⟨w.heap.size + 1, 8, none⟩ = some (int i64 s.size) ∧ w2.cell? ⟨Bm, 0, none⟩ = some (.func (.func g) #[] #[]) ∧ w2.cell? ⟨w.heap.size + 1 + 1, 0, none⟩ = some (.string ⟨b.name.toArray⟩) ∧ w2.cell? ⟨w.heap.size + 1 + 1, 1, none⟩ = some (int i64 b.weight) ∧ w2.cell? ⟨w.heap.size + 1 + 1, 2, none⟩ = some (int i64 b.lift) ∧ w2.cell? ⟨w.heap.size + 1 + 1, 3, none⟩ = some (int i64 b.girth) ∧ w2.cell? ⟨w.heap.size + 1 + 1, 4, none⟩ = some (int i64 b.step) ∧ w2.cell? ⟨w.heap.size + 1 + 1, 5, none⟩ = some (int i64 b.jump) ∧ w2.cell? ⟨w.heap.size + 1 + 1, 6, none⟩ = some (int i64 b.r0) ∧ w2.cell? ⟨w.heap.size + 1 + 1, 7, none⟩ = some (int i64 b.r1) ∧ w2.cell? ⟨w.heap.size + 1 + 1, 8, none⟩ = some (int i64 b.r2) ∧ w2.cell? ⟨w.heap.size + 1 + 1, 9, none⟩ = some (int i64 b.s0) ∧ w2.cell? ⟨w.heap.size + 1 + 1, 10, none⟩ = some (int i64 b.s1) ∧ w2.cell? ⟨w.heap.size + 1 + 1, 11, none⟩ = some (int i64 b.s2) ∧ w2.cell? ⟨w.heap.size + 1 + 1, 12, none⟩ = some (int i64 b.t0) ∧ w2.cell? ⟨w.heap.size + 1 + 1, 13, none⟩ = some (int i64 b.t1) ∧ w2.cell? ⟨w.heap.size + 1 + 1, 14, none⟩ = some (int i64 b.t2) ∧ w2.cell? ⟨w.heap.size + 1 + 1, 15, none⟩ = some (int i64 b.effort) ∧ w2.cell? ⟨w.heap.size + 1 + 1, 16, none⟩ = some (int i64 b.recover) ∧ TS w s b g Bm w2 :=
 ⟨A0 h.sgn 8 rfl, h.bm, A0 h.bod 0 rfl, A0 h.bod 1 rfl, A0 h.bod 2 rfl, A0 h.bod 3 rfl, A0 h.bod 4 rfl, A0 h.bod 5 rfl, A0 h.bod 6 rfl, A0 h.bod 7 rfl, A0 h.bod 8 rfl, A0 h.bod 9 rfl, A0 h.bod 10 rfl, A0 h.bod 11 rfl, A0 h.bod 12 rfl, A0 h.bod 13 rfl, A0 h.bod 14 rfl, A0 h.bod 15 rfl, A0 h.bod 16 rfl, h⟩
theorem TS.keepS {w : World} {s : Sgn} {b : Bod} {g Bm : Nat} {w2 : World} (h : w2.cell? ⟨w.heap.size + 1, 8, none⟩ = some (int i64 s.size) ∧ w2.cell? ⟨Bm, 0, none⟩ = some (.func (.func g) #[] #[]) ∧ w2.cell? ⟨w.heap.size + 1 + 1, 0, none⟩ = some (.string ⟨b.name.toArray⟩) ∧ w2.cell? ⟨w.heap.size + 1 + 1, 1, none⟩ = some (int i64 b.weight) ∧ w2.cell? ⟨w.heap.size + 1 + 1, 2, none⟩ = some (int i64 b.lift) ∧ w2.cell? ⟨w.heap.size + 1 + 1, 3, none⟩ = some (int i64 b.girth) ∧ w2.cell? ⟨w.heap.size + 1 + 1, 4, none⟩ = some (int i64 b.step) ∧ w2.cell? ⟨w.heap.size + 1 + 1, 5, none⟩ = some (int i64 b.jump) ∧ w2.cell? ⟨w.heap.size + 1 + 1, 6, none⟩ = some (int i64 b.r0) ∧ w2.cell? ⟨w.heap.size + 1 + 1, 7, none⟩ = some (int i64 b.r1) ∧ w2.cell? ⟨w.heap.size + 1 + 1, 8, none⟩ = some (int i64 b.r2) ∧ w2.cell? ⟨w.heap.size + 1 + 1, 9, none⟩ = some (int i64 b.s0) ∧ w2.cell? ⟨w.heap.size + 1 + 1, 10, none⟩ = some (int i64 b.s1) ∧ w2.cell? ⟨w.heap.size + 1 + 1, 11, none⟩ = some (int i64 b.s2) ∧ w2.cell? ⟨w.heap.size + 1 + 1, 12, none⟩ = some (int i64 b.t0) ∧ w2.cell? ⟨w.heap.size + 1 + 1, 13, none⟩ = some (int i64 b.t1) ∧ w2.cell? ⟨w.heap.size + 1 + 1, 14, none⟩ = some (int i64 b.t2) ∧ w2.cell? ⟨w.heap.size + 1 + 1, 15, none⟩ = some (int i64 b.effort) ∧ w2.cell? ⟨w.heap.size + 1 + 1, 16, none⟩ = some (int i64 b.recover) ∧ TS w s b g Bm w2) (o : Obj) :
  (w2.alloc o).cell? ⟨w.heap.size + 1, 8, none⟩ = some (int i64 s.size) ∧ (w2.alloc o).cell? ⟨Bm, 0, none⟩ = some (.func (.func g) #[] #[]) ∧ (w2.alloc o).cell? ⟨w.heap.size + 1 + 1, 0, none⟩ = some (.string ⟨b.name.toArray⟩) ∧ (w2.alloc o).cell? ⟨w.heap.size + 1 + 1, 1, none⟩ = some (int i64 b.weight) ∧ (w2.alloc o).cell? ⟨w.heap.size + 1 + 1, 2, none⟩ = some (int i64 b.lift) ∧ (w2.alloc o).cell? ⟨w.heap.size + 1 + 1, 3, none⟩ = some (int i64 b.girth) ∧ (w2.alloc o).cell? ⟨w.heap.size + 1 + 1, 4, none⟩ = some (int i64 b.step) ∧ (w2.alloc o).cell? ⟨w.heap.size + 1 + 1, 5, none⟩ = some (int i64 b.jump) ∧ (w2.alloc o).cell? ⟨w.heap.size + 1 + 1, 6, none⟩ = some (int i64 b.r0) ∧ (w2.alloc o).cell? ⟨w.heap.size + 1 + 1, 7, none⟩ = some (int i64 b.r1) ∧ (w2.alloc o).cell? ⟨w.heap.size + 1 + 1, 8, none⟩ = some (int i64 b.r2) ∧ (w2.alloc o).cell? ⟨w.heap.size + 1 + 1, 9, none⟩ = some (int i64 b.s0) ∧ (w2.alloc o).cell? ⟨w.heap.size + 1 + 1, 10, none⟩ = some (int i64 b.s1) ∧ (w2.alloc o).cell? ⟨w.heap.size + 1 + 1, 11, none⟩ = some (int i64 b.s2) ∧ (w2.alloc o).cell? ⟨w.heap.size + 1 + 1, 12, none⟩ = some (int i64 b.t0) ∧ (w2.alloc o).cell? ⟨w.heap.size + 1 + 1, 13, none⟩ = some (int i64 b.t1) ∧ (w2.alloc o).cell? ⟨w.heap.size + 1 + 1, 14, none⟩ = some (int i64 b.t2) ∧ (w2.alloc o).cell? ⟨w.heap.size + 1 + 1, 15, none⟩ = some (int i64 b.effort) ∧ (w2.alloc o).cell? ⟨w.heap.size + 1 + 1, 16, none⟩ = some (int i64 b.recover) ∧ TS w s b g Bm (w2.alloc o) :=
 (TS.keep h.2.2.2.2.2.2.2.2.2.2.2.2.2.2.2.2.2.2.2 ((Below.refl _ _).alloc (qn _) o)).all
theorem Gu (ta tb tc : Int) (s : Sgn) (b : Bod) (g Bm : Nat) (m : Int) (w : World) (hm : w.cell? ⟨Bm, 0, none⟩ = some (.func (.func g) #[] #[])) (hg : ∀ w, Calls Tryz.prog g #[Bh b] w fun e w' => e = .returned (int i64 m) ∧ w' = w.alloc (.cells (A1 b) 35)) (eg : ∀ args w, (callFunc g args).run Tryz.prog w = .ok (.enter g args) w) :
  Calls Tryz.prog 96 #[.agg #[int i64 ta, int i64 tb, int i64 tc], Hc s, Bh b, .pointer (some ⟨Bm, 0, none⟩)] w fun e w' => ∃ v, e = .returned v ∧ w'.ownsRow w.heap.size 37 4 v (Cb s m).length ((Cb s m).flatMap Ai) ∧ Below w.heap.size w w' := by
 have hBm := AF hm
 obtain ⟨g0, g1, g2, hz, hb⟩ := Do w (.cells #[int i64 ta, int i64 tb, int i64 tc] 23) (.cells (Ar s) 72) (.cells (A1 b) 35)
 have hts : TS w s b g Bm ((((w.alloc (.cells #[int i64 ta, int i64 tb, int i64 tc] 23)).alloc (.cells (Ar s) 72)).alloc (.cells (A1 b) 35))) := ⟨g1, g2, (hb.cell (p := ⟨Bm, 0, none⟩) hBm).trans hm, hb⟩
 have HG := qh hg; have HTS := qh hts; have HS := qh (rfl : Ar s = Ar s)
 clear hg g0 g1 g2 hb hm hz hts
 unfold Hc Bh at *
 unfold Ar A1 at HTS
 go_enter Tryz.func96, Tryz.ntmps96
 go_wp2_with fail
 generalize (((w.alloc (.cells #[int i64 ta, int i64 tb, int i64 tc] 23)).alloc (.cells #[int i64 s.id, int i64 s.role, int i64 s.bar, int i64 s.mark, int i64 s.kind, int i64 s.side, int i64 s.dir, int i64 s.level, int i64 s.size, int i64 s.wth, int i64 s.fn, int i64 s.fd, int i64 s.tn, int i64 s.td] 72)).alloc (.cells #[.string ⟨b.name.toArray⟩, int i64 b.weight, int i64 b.lift, int i64 b.girth, int i64 b.step, int i64 b.jump, int i64 b.r0, int i64 b.r1, int i64 b.r2, int i64 b.s0, int i64 b.s1, int i64 b.s2, int i64 b.t0, int i64 b.t1, int i64 b.t2, int i64 b.effort, int i64 b.recover] 35)) = W0 at *
 have hts : TS w s b g Bm W0.drew := HTS.out.keep (Below.refl _ _).drew
 have hal : ∀ k o, (W0.drewN k).alloc o = (W0.alloc o).drewN k := fun _ _ => rfl
 have HS0 := qh hts.all
 clear hts
 go_region_held3 (fun w2 => w2.cell? ⟨w.heap.size + 1, 8, none⟩ = some (int i64 s.size) ∧ w2.cell? ⟨Bm, 0, none⟩ = some (.func (.func g) #[] #[]) ∧ w2.cell? ⟨w.heap.size + 1 + 1, 0, none⟩ = some (.string ⟨b.name.toArray⟩) ∧ w2.cell? ⟨w.heap.size + 1 + 1, 1, none⟩ = some (int i64 b.weight) ∧ w2.cell? ⟨w.heap.size + 1 + 1, 2, none⟩ = some (int i64 b.lift) ∧ w2.cell? ⟨w.heap.size + 1 + 1, 3, none⟩ = some (int i64 b.girth) ∧ w2.cell? ⟨w.heap.size + 1 + 1, 4, none⟩ = some (int i64 b.step) ∧ w2.cell? ⟨w.heap.size + 1 + 1, 5, none⟩ = some (int i64 b.jump) ∧ w2.cell? ⟨w.heap.size + 1 + 1, 6, none⟩ = some (int i64 b.r0) ∧ w2.cell? ⟨w.heap.size + 1 + 1, 7, none⟩ = some (int i64 b.r1) ∧ w2.cell? ⟨w.heap.size + 1 + 1, 8, none⟩ = some (int i64 b.r2) ∧ w2.cell? ⟨w.heap.size + 1 + 1, 9, none⟩ = some (int i64 b.s0) ∧ w2.cell? ⟨w.heap.size + 1 + 1, 10, none⟩ = some (int i64 b.s1) ∧ w2.cell? ⟨w.heap.size + 1 + 1, 11, none⟩ = some (int i64 b.s2) ∧ w2.cell? ⟨w.heap.size + 1 + 1, 12, none⟩ = some (int i64 b.t0) ∧ w2.cell? ⟨w.heap.size + 1 + 1, 13, none⟩ = some (int i64 b.t1) ∧ w2.cell? ⟨w.heap.size + 1 + 1, 14, none⟩ = some (int i64 b.t2) ∧ w2.cell? ⟨w.heap.size + 1 + 1, 15, none⟩ = some (int i64 b.effort) ∧ w2.cell? ⟨w.heap.size + 1 + 1, 16, none⟩ = some (int i64 b.recover) ∧ TS w s b g Bm w2)
  (first | assumption | exact HS0.out | exact TS.keepS (by assumption) _ | exact TS.keepS HS0.out _)
  (first | (go_at_fn g; refine (HG.out _).mono ?_; rintro e w' ⟨rfl, rfl⟩))
 all_goals
  rename_i hHeld
  have hT := hHeld.2.2.2.2.2.2.2.2.2.2.2.2.2.2.2.2.2.2.2
  clear hHeld hal HS0
  generalize (W0.alloc (.cells (A1 b) 35)).drew = W9 at *
  have hlt := hT.below.size
  have d1 : W9.cell? ⟨w.heap.size + 1, 0, none⟩ = some (int i64 s.id) := A0 hT.sgn 0 rfl
  have HB := qh hT.below
  clear hT
  by_cases hc : m < s.size
  ·have hL : Cb s m = [] := by unfold Cb; rw [if_pos hc]
   have HL := qh hL
   clear hL
   go_wp2_with fail
   go_ret
   rw [HL.out]
   exact ⟨_, rfl, World.ownsRow_nil _ _ _ _, HB.out⟩
  ·have hL : Cb s m = [⟨s.id, 0, 0, false⟩] := by unfold Cb; rw [if_neg hc]
   have HL := qh hL
   have HO := qh (Bd (EB W9 ⟨s.id, 0, 0, false⟩) hlt)
   have HB2 := qh (HB.out.alloc hlt (.cells #[int i64 s.id, int i64 0, int i64 0, .bool false] 37))
   clear hL
   go_wp2_with fail
   go_ret
   rw [HL.out]
   exact ⟨_, rfl, HO.out, HB2.out⟩
end
section
open Go.RowKit
theorem Qt (ta tb tc : Int) (s : Sgn) (b : Bod) (w : World) :
  Calls Tryz.prog 71 #[.agg #[int i64 ta, int i64 tb, int i64 tc], Hc s, Bh b] w fun e w' => ∃ v, e = .returned v ∧ w'.ownsRow w.heap.size 37 4 v 1 ([⟨s.id, 0, min s.level b.t1, false⟩].flatMap Ai) ∧ Below w.heap.size w w' := by
 obtain ⟨g0, g1, g2, hz, hb⟩ := Do w (.cells #[int i64 ta, int i64 tb, int i64 tc] 23) (.cells (Ar s) 72) (.cells (A1 b) 35)
 have ho := EB (((w.alloc (.cells #[int i64 ta, int i64 tb, int i64 tc] 23)).alloc (.cells (Ar s) 72)).alloc (.cells (A1 b) 35)) ⟨s.id, 0, min s.level b.t1, false⟩
 have hb2 := hb.alloc (by omega) (.cells #[int i64 s.id, int i64 0, int i64 (min s.level b.t1), .bool false] 37)
 rw [hz] at ho
 have ho := Bd ho (show w.heap.size ≤ w.heap.size + 3 by omega)
 unfold Ar A1 at ho hb2
 have HO := qh ho; have HB2 := qh hb2
 clear ho hb2
 have HG1 := qh g1; have HG2 := qh g2; have HB := qh hb; have HZ := qh hz
 clear g0 g1 g2 hz hb
 unfold Ar A1 at HB HG1 HG2 HZ
 unfold Hc Bh
 go_enter Tryz.func71, Tryz.ntmps71
 go_wp2_with fail
 go_ret
 exact ⟨_, rfl, HO.out, HB2.out⟩
def Ec (b : Bod) : Nat → Int
 | 0 => b.t0
 | 1 => b.t1
 | _ => b.t2
theorem Oi (ta tb tc : Int) (hta : 0 ≤ ta ∧ ta ≤ 32768) (htc : 1 ≤ tc ∧ tc ≤ 32768) (s : Sgn) (hd0 : 0 ≤ s.dir ∧ s.dir ≤ 8) (hl0 : 1 ≤ s.level ∧ s.level ≤ 3) (b : Bod) (i top : Nat) (hi : i < 3) (ht : Ec b i = (top : Int)) (htop : top ≤ 3) (Bi : Nat) (w : World) (hE : Env w) (hz : 2 ≤ w.heap.size) (hm : w.cell? ⟨Bi, 0, none⟩ = some (int i64 i)) :
  Calls Tryz.prog 97 #[.agg #[int i64 ta, int i64 tb, int i64 tc], Hc s, Bh b, .pointer (some ⟨Bi, 0, none⟩)] w fun e w' => ∃ v, e = .returned v ∧ w'.ownsRow w.heap.size 37 4 v (C3 ta tc s top).length ((C3 ta tc s top).flatMap Ai) ∧ Below w.heap.size w w' := by
 have hBi := AF hm
 obtain ⟨g0, g1, g2, hz3, hb⟩ := Do w (.cells #[int i64 ta, int i64 tb, int i64 tc] 23) (.cells (Ar s) 72) (.cells (A1 b) 35)
 have hm0 := (hb.cell (p := ⟨Bi, 0, none⟩) hBi).trans hm
 have hf := fun Bt Bk Br w hE hz h1 h2 h3 h4 h5 h6 => KJ Bt Bk Br ta tb tc hta htc s hd0 hl0 top htop w hE hz h1 h2 h3 h4 h5 h6
 have hbi : (A1 b)[12 + i]? = some (int i64 top) := by
  rw [← ht]
  rcases i with _ | _ | _ | i
  ·rfl
  ·rfl
  ·rfl
  ·omega
 have ct := A0 g2 (12 + i) hbi
 have HG0 := qh g0; have HG1 := qh g1; have HG2 := qh g2; have HB := qh hb; have HZ := qh hz3; have HE := qh hE; have HF := qh hf
 clear g0 g1 g2 hz3 hb hm hE hf hbi
 unfold Ar A1 at HB HG0 HG1 HG2 HZ hm0 ct
 unfold Hc Bh
 go_enter Tryz.func97, Tryz.ntmps97
 go_wp2_with fail
 generalize (((w.alloc (.cells #[int i64 ta, int i64 tb, int i64 tc] 23)).alloc (.cells #[int i64 s.id, int i64 s.role, int i64 s.bar, int i64 s.mark, int i64 s.kind, int i64 s.side, int i64 s.dir, int i64 s.level, int i64 s.size, int i64 s.wth, int i64 s.fn, int i64 s.fd, int i64 s.tn, int i64 s.td] 72)).alloc (.cells #[.string ⟨b.name.toArray⟩, int i64 b.weight, int i64 b.lift, int i64 b.girth, int i64 b.step, int i64 b.jump, int i64 b.r0, int i64 b.r1, int i64 b.r2, int i64 b.s0, int i64 b.s1, int i64 b.s2, int i64 b.t0, int i64 b.t1, int i64 b.t2, int i64 b.effort, int i64 b.recover] 35)) = W0 at *
 have q0 : W0.cell? ⟨w.heap.size, 0, none⟩ = some (int i64 ta) := A0 HG0.out 0 rfl
 have q1 : W0.cell? ⟨w.heap.size, 1, none⟩ = some (int i64 tb) := A0 HG0.out 1 rfl
 have q2 : W0.cell? ⟨w.heap.size, 2, none⟩ = some (int i64 tc) := A0 HG0.out 2 rfl
 have p0 : W0.cell? ⟨w.heap.size + 1, 0, none⟩ = some (int i64 s.id) := A0 HG1.out 0 rfl
 have p1 : W0.cell? ⟨w.heap.size + 1, 1, none⟩ = some (int i64 s.role) := A0 HG1.out 1 rfl
 have p2 : W0.cell? ⟨w.heap.size + 1, 2, none⟩ = some (int i64 s.bar) := A0 HG1.out 2 rfl
 have p3 : W0.cell? ⟨w.heap.size + 1, 3, none⟩ = some (int i64 s.mark) := A0 HG1.out 3 rfl
 have p4 : W0.cell? ⟨w.heap.size + 1, 4, none⟩ = some (int i64 s.kind) := A0 HG1.out 4 rfl
 have p5 : W0.cell? ⟨w.heap.size + 1, 5, none⟩ = some (int i64 s.side) := A0 HG1.out 5 rfl
 have p6 : W0.cell? ⟨w.heap.size + 1, 6, none⟩ = some (int i64 s.dir) := A0 HG1.out 6 rfl
 have p7 : W0.cell? ⟨w.heap.size + 1, 7, none⟩ = some (int i64 s.level) := A0 HG1.out 7 rfl
 have p8 : W0.cell? ⟨w.heap.size + 1, 8, none⟩ = some (int i64 s.size) := A0 HG1.out 8 rfl
 have p9 : W0.cell? ⟨w.heap.size + 1, 9, none⟩ = some (int i64 s.wth) := A0 HG1.out 9 rfl
 have p10 : W0.cell? ⟨w.heap.size + 1, 10, none⟩ = some (int i64 s.fn) := A0 HG1.out 10 rfl
 have p11 : W0.cell? ⟨w.heap.size + 1, 11, none⟩ = some (int i64 s.fd) := A0 HG1.out 11 rfl
 have p12 : W0.cell? ⟨w.heap.size + 1, 12, none⟩ = some (int i64 s.tn) := A0 HG1.out 12 rfl
 have p13 : W0.cell? ⟨w.heap.size + 1, 13, none⟩ = some (int i64 s.td) := A0 HG1.out 13 rfl
 have hi0 : (0 : Int) ≤ (i : Int) := by omega
 have hi3 : (i : Int) < 3 := by omega
 refine Cf (fun w2 => w2 = W0.drew) 6 (by kernel_rfl) (by kernel_rfl) rfl ?_
 intro w2 hS
 subst hS
 simp only [List.take_succ_cons, List.take_zero, List.drop_succ_cons, List.drop_zero]
 repeat still_step
 refine wpStill_nil ?_
 clear p0 p1 p2 p3 p4 p5 p6 p7 p8 p9 p10 p11 p12 p13 q0 q1 q2
 go_wp2_with fail
 have hwm := KG ta tb tc s top W0.drew
 unfold Hc at hwm
 refine hwm.mono ?_
 rintro e w1 ⟨rfl, rfl⟩
 clear hwm
 obtain ⟨k0, k1, k2, kz, kb⟩ := Do W0.drew (.cells #[int i64 ta, int i64 tb, int i64 tc] 23) (.cells (Ar s) 72) (.cells #[int i64 top] 3)
 have hd : W0.drew.heap.size = W0.heap.size := rfl
 rw [hd] at k0 k1 k2 kz kb ⊢
 have hz0 := HZ.out
 have kb2 : Below w.heap.size w (((W0.drew.alloc (.cells #[int i64 ta, int i64 tb, int i64 tc] 23)).alloc (.cells (Ar s) 72)).alloc (.cells #[int i64 top] 3)) := HB.out.drew.trans (kb.mono (by omega))
 generalize (((W0.drew.alloc (.cells #[int i64 ta, int i64 tb, int i64 tc] 23)).alloc (.cells (Ar s) 72)).alloc (.cells #[int i64 top] 3)) = W1 at *
 have hff := HF.out (W0.heap.size + 1 + 1) (W0.heap.size + 1) W0.heap.size W1 (HE.out.two hz kb2) (by omega) (by omega) (by omega) (by omega) k2 k1 k0
 have HFF := qh hff; have KB2 := qh kb2
 clear hff kb2 k0 k1 k2 kb hm0 ct hz0
 go_wp2_with fail
 refine HFF.out.mono ?_
 rintro e w2 ⟨v, rfl, ho, hb⟩
 have HO := qh (Bd ho KB2.out.size); have HB3 := qh (KB2.out.trans (hb.mono KB2.out.size))
 clear ho hb
 go_wp2_with fail
 go_ret
 exact ⟨_, rfl, HO.out, HB3.out⟩
end
section
open Go Go.RowKit
def KS (w W : World) (kvs : List (Int × Value)) (bs : List Value) : Prop :=
 MapAt W w.heap.size kvs ∧ AY kvs ∧ W.heap.size = w.heap.size + 1 + bs.length ∧ (∀ i v, bs[i]? = some v → W.cell? ⟨w.heap.size + 1 + i, 0, none⟩ = some v) ∧ Below w.heap.size w W
theorem KS.new (w : World) : KS w (w.alloc (.map #[] 0)) [] [] :=
 ⟨MapAt.new w, List.nodup_nil, by simp, by simp, (Below.refl _ w).alloc (qn _) _⟩
theorem KS.box {w W : World} {kvs : List (Int × Value)} {bs : List Value} (h : KS w W kvs bs) (v : Value) (t : TypeId) : KS w (W.alloc (.cells #[v] t)) kvs (bs ++ [v]) := by
 obtain ⟨h1, h2, h3, h4, h5⟩ := h
 have hb : Below W.heap.size W (W.alloc (.cells #[v] t)) := (Below.refl _ W).alloc (qn _) _
 refine ⟨h1.below hb h1.lt, h2, by simp [h3]; omega, ?_, h5.trans (hb.mono h5.size)⟩
 intro i u hi
 by_cases hl : i < bs.length
 ·rw [List.getElem?_append_left hl] at hi
  exact (hb.cell (p := ⟨w.heap.size + 1 + i, 0, none⟩) (by show w.heap.size + 1 + i < W.heap.size; omega)).trans (h4 i u hi)
 ·have hi' : i = bs.length := by
   have := (ql.1 hi).1; simp at this; omega
  subst hi'
  rw [List.getElem?_append_right (qn _)] at hi
  simp at hi; subst hi
  rw [← h3]
  exact A0 (heap_alloc_new W (.cells #[v] t)) 0 rfl
theorem KS.put {w W : World} {kvs kvs' : List (Int × Value)} {bs : List Value} (h : KS w W kvs bs) {ob : Obj} (hm : MapAt { W with heap := W.heap.setIfInBounds w.heap.size ob } w.heap.size kvs') (hk : AY kvs') : KS w { W with heap := W.heap.setIfInBounds w.heap.size ob } kvs' bs := by
 obtain ⟨h1, h2, h3, h4, h5⟩ := h
 have hg := ED W w.heap.size ob
 refine ⟨hm, hk, by simp [h3], ?_, h5.trans (Ef W _ ob (qn _))⟩
 intro i u hi
 have hl : i < bs.length := (ql.1 hi).1
 have hc := h4 i u hi
 have hbk := hg.block (w.heap.size + 1 + i) (by show _ < W.heap.size; omega) (by simp; omega)
 unfold World.cell? at hc ⊢
 rw [hbk]; exact hc
theorem BM {kvs : List (Int × Value)} {k : Int} {v : Value} (h : BX kvs k = none) : LI kvs k v = kvs ++ [(k, v)] := by unfold LI; rw [h]; rfl
def CY (n : Nat) : List (Int × Value) := [(1, .func (.func 96) #[] #[.pointer (some ⟨n + 1, 0, none⟩)]), (2, .func (.func 96) #[] #[.pointer (some ⟨n + 2, 0, none⟩)]), (3, .func (.func 97) #[] #[.pointer (some ⟨n + 3, 0, none⟩)]), (4, .func (.func 97) #[] #[.pointer (some ⟨n + 4, 0, none⟩)]), (5, .func (.func 97) #[] #[.pointer (some ⟨n + 5, 0, none⟩)]), (9, .func (.func 71) #[] #[])]
def K7 : List Value := [.func (.func 68) #[] #[], .func (.func 69) #[] #[], int i64 0, int i64 1, int i64 2]
theorem Jc (w : World) : Calls Tryz.prog 35 #[] w fun e w' => e = .returned (.map (some w.heap.size)) ∧ KS w w' (CY w.heap.size) K7 := by
 have hmm := @run_makeMap Tryz.prog
 have hk0 := qh (KS.new w)
 go_enter Tryz.func35, Tryz.ntmps35
 go_wp2_with fail
 generalize w.alloc (.map #[] 0) = W0 at *
 clear hmm
 have hz := hk0.out.2.2.1
 simp only [List.length_nil, List.length_cons, List.nil_append, List.cons_append, Nat.add_zero, Nat.zero_add, Nat.reduceAdd] at hz
 have t1 := GX 68 W0
 rw [hz] at t1
 have T1 := qh t1; clear t1
 refine T1.out.mono ?_
 rintro e w1 ⟨rfl, rfl⟩
 have hv := hk0.out.box (.func (.func 68) #[] #[]) 126
 clear hk0 T1
 generalize W0.alloc (.cells #[(.func (.func 68) #[] #[])] 126) = V0 at *
 obtain ⟨ob, hru, hm⟩ := B6 (P := Tryz.prog) (T := 78) Tryz.underlying78 Tryz.underlying3 hv.1 hv.2.1 1 (.func (.func 96) #[] #[.pointer (some ⟨w.heap.size + 1, 0, none⟩)])
 rw [BM rfl] at hm
 have hk1 := qh (hv.put hm (by unfold AY; simp))
 clear hm hv hz
 generalize hW : ({ V0 with heap := V0.heap.setIfInBounds w.heap.size ob } : World) = W1 at *
 clear hW
 go_wp2_with fail
 clear hru
 have hz := hk1.out.2.2.1
 simp only [List.length_nil, List.length_cons, List.nil_append, List.cons_append, Nat.add_zero, Nat.zero_add, Nat.reduceAdd] at hz
 have t1 := GX 69 W1
 rw [hz] at t1
 have T1 := qh t1; clear t1
 refine T1.out.mono ?_
 rintro e w1 ⟨rfl, rfl⟩
 have hv := hk1.out.box (.func (.func 69) #[] #[]) 126
 clear hk1 T1
 generalize W1.alloc (.cells #[(.func (.func 69) #[] #[])] 126) = V1 at *
 obtain ⟨ob, hru, hm⟩ := B6 (P := Tryz.prog) (T := 78) Tryz.underlying78 Tryz.underlying3 hv.1 hv.2.1 2 (.func (.func 96) #[] #[.pointer (some ⟨w.heap.size + 2, 0, none⟩)])
 rw [BM rfl] at hm
 have hk2 := qh (hv.put hm (by unfold AY; simp))
 clear hm hv hz
 generalize hW : ({ V1 with heap := V1.heap.setIfInBounds w.heap.size ob } : World) = W2 at *
 clear hW
 go_wp2_with fail
 clear hru
 have hz := hk2.out.2.2.1
 simp only [List.length_nil, List.length_cons, List.nil_append, List.cons_append, Nat.add_zero, Nat.zero_add, Nat.reduceAdd] at hz
 have t1 := Ht 0 W2
 rw [hz] at t1
 have T1 := qh t1; clear t1
 refine T1.out.mono ?_
 rintro e w1 ⟨rfl, rfl⟩
 have hv := hk2.out.box (int i64 0) 3
 clear hk2 T1
 generalize W2.alloc (.cells #[(int i64 0)] 3) = V2 at *
 obtain ⟨ob, hru, hm⟩ := B6 (P := Tryz.prog) (T := 78) Tryz.underlying78 Tryz.underlying3 hv.1 hv.2.1 3 (.func (.func 97) #[] #[.pointer (some ⟨w.heap.size + 3, 0, none⟩)])
 rw [BM rfl] at hm
 have hk3 := qh (hv.put hm (by unfold AY; simp))
 clear hm hv hz
 generalize hW : ({ V2 with heap := V2.heap.setIfInBounds w.heap.size ob } : World) = W3 at *
 clear hW
 go_wp2_with fail
 clear hru
 have hz := hk3.out.2.2.1
 simp only [List.length_nil, List.length_cons, List.nil_append, List.cons_append, Nat.add_zero, Nat.zero_add, Nat.reduceAdd] at hz
 have t1 := Ht 1 W3
 rw [hz] at t1
 have T1 := qh t1; clear t1
 refine T1.out.mono ?_
 rintro e w1 ⟨rfl, rfl⟩
 have hv := hk3.out.box (int i64 1) 3
 clear hk3 T1
 generalize W3.alloc (.cells #[(int i64 1)] 3) = V3 at *
 obtain ⟨ob, hru, hm⟩ := B6 (P := Tryz.prog) (T := 78) Tryz.underlying78 Tryz.underlying3 hv.1 hv.2.1 4 (.func (.func 97) #[] #[.pointer (some ⟨w.heap.size + 4, 0, none⟩)])
 rw [BM rfl] at hm
 have hk4 := qh (hv.put hm (by unfold AY; simp))
 clear hm hv hz
 generalize hW : ({ V3 with heap := V3.heap.setIfInBounds w.heap.size ob } : World) = W4 at *
 clear hW
 go_wp2_with fail
 clear hru
 have hz := hk4.out.2.2.1
 simp only [List.length_nil, List.length_cons, List.nil_append, List.cons_append, Nat.add_zero, Nat.zero_add, Nat.reduceAdd] at hz
 have t1 := Ht 2 W4
 rw [hz] at t1
 have T1 := qh t1; clear t1
 refine T1.out.mono ?_
 rintro e w1 ⟨rfl, rfl⟩
 have hv := hk4.out.box (int i64 2) 3
 clear hk4 T1
 generalize W4.alloc (.cells #[(int i64 2)] 3) = V4 at *
 obtain ⟨ob, hru, hm⟩ := B6 (P := Tryz.prog) (T := 78) Tryz.underlying78 Tryz.underlying3 hv.1 hv.2.1 5 (.func (.func 97) #[] #[.pointer (some ⟨w.heap.size + 5, 0, none⟩)])
 rw [BM rfl] at hm
 have hk5 := qh (hv.put hm (by unfold AY; simp))
 clear hm hv hz
 generalize hW : ({ V4 with heap := V4.heap.setIfInBounds w.heap.size ob } : World) = W5 at *
 clear hW
 obtain ⟨ob9, hru9, hm⟩ := B6 (P := Tryz.prog) (T := 78) Tryz.underlying78 Tryz.underlying3 hk5.out.1 hk5.out.2.1 9 (.func (.func 71) #[] #[])
 rw [BM rfl] at hm
 have hk6 := qh (hk5.out.put hm (by unfold AY; simp))
 clear hm
 go_wp2_with fail
 go_ret
 exact ⟨rfl, hk6.out⟩
end
end Go.Proofs.YtggcbblikgankaaGreatDoor
