/- Contracts of the scanner's method number. -/
import Derived.Test.YtabdpmcdlojliaaDoorA6
import Derived.Test.YtabdpmcdlojliaaDoorP2
import Derived.Lib.SmallJoins
namespace Go.Proofs.YtabdpmcdlojliaaDoor
open Go.RowKit

theorem var_below {P : Program} {w w' : World} {n : String} {cs : Array Value} (h : w.var? P n = some cs) (hb : Below w.heap.size w w') : w'.var? P n = some cs := by
  unfold World.var? at h ⊢
  cases hg : P.globalNamed n with
  | none => rw [hg] at h; cases h
  | some g =>
    rw [hg] at h
    simp only [Option.bind_some] at h ⊢
    have hgl : g < w.heap.size := by
      rcases Nat.lt_or_ge g w.heap.size with h1 | h1
      · exact h1
      · rw [Array.getElem?_eq_none h1] at h; cases h
    rw [hb.block g hgl]; exact h

theorem below_growN (w : World) (k : Nat) (os : Array Obj) : Below w.heap.size w (Sort.grow (w.drewN k) os) :=
  ⟨rfl, rfl, rfl, by simp [Sort.grow, World.drewN], fun i hi => by simp [Sort.grow, World.drewN, Array.getElem?_append_left hi]⟩

/-- What the walk wants of the package-level variables of strconv. -/
structure Env (w : World) : Prop where
  tab : Lib.TabIs Tryd.prog w "internal/strconv.uint64pow10" .u64 Lib.pow10Tab
  rng : ∃ tp p, w.var? Tryd.prog "strconv.ErrRange" = some #[.iface tp p]
theorem Env.below {w w' : World} (h : Env w) (hb : Below w.heap.size w w') : Env w' :=
  ⟨var_below h.tab hb, let ⟨tp, p, e⟩ := h.rng; ⟨tp, p, var_below e hb⟩⟩

theorem runText_all (p : UInt8 → Bool) (src : ByteArray) (a : Nat) : (runText p src a).all p = true := by
  unfold runText runLen
  generalize src.data.toList.drop a = l
  rw [show l.take (l.takeWhile p).length = l.takeWhile p from (List.prefix_iff_eq_take.1 (List.takeWhile_prefix p)).symm]
  exact List.all_takeWhile
theorem validT_num (n : Nat) : validT ⟨2, [], n, 0⟩ = decide (n ≤ 1099511627776) := by
  unfold validT; simp; constructor <;> intro h <;> omega

set_option maxHeartbeats 1000000 in
theorem number_ok (S base a n : Nat) (src : ByteArray) (v : Value) (xs : List Value) (w : World) (hE : Env w) (hS : w.heap[S]? = some (.cells #[.string src, .int .i64 a, v] 49 (0, 0)))
    (hown : w.ownsRow base 35 4 v n xs) (hSb : S < base) (hbase : base ≤ w.heap.size) (hs : src.size ≤ 65536) (ha : a ≤ src.size) (hn : n ≤ 65536) (hne : runText isDigit src a ≠ []) (hok : numOk (runText isDigit src a) = true) :
    Calls Tryd.prog 28 #[.pointer (some ⟨S, 0, none⟩)] w fun e w' =>
      e = .returned (.tuple #[]) ∧ ∃ v', w'.heap[S]? = some (.cells #[.string src, .int .i64 (a + (runText isDigit src a).length : Nat), v'] 49 (0, 0)) ∧
        w'.ownsRow base 35 4 v' (n + 1) (xs ++ [.int .i64 2, .string ⟨#[]⟩, .int .i64 (value (runText isDigit src a)), .int .i64 a]) ∧ Below S w w' := by
  have hSl : S < w.heap.size := by omega
  have hle := runText_le isDigit src a
  obtain ⟨hlead, hval⟩ := (numOk_iff _).1 hok
  have hat : Lib.atoiAll (runText isDigit src a) = .ok (value (runText isDigit src a)) := by
    rcases atoi_digits hne (runText_all _ _ _) with ⟨h, _⟩ | ⟨_, h⟩
    · exact h
    · omega
  have hit : Lib.itoa (value (runText isDigit src a) : Int) = runText isDigit src a := (itoa_iff hne (runText_all _ _ _)).2 hlead
  have hE' := Lib.hid hE; clear hE
  have HS := Lib.hid hS; clear hS
  have HO := Lib.hid hown; clear hown
  have HAT := Lib.hid hat; clear hat
  have HIT := Lib.hid hit; clear hit
  have HNE := Lib.hid hne; clear hne hok hlead
  go_enter Tryd.func28, Tryd.ntmps28
  go_wp2_with fail
  have hS1 := (Below.heap_alloc w (.cells #[.int .i64 3] 3) S hSl).trans HS.out
  refine (run_any S w.heap.size a 1 src [3] _ (by have := cell_of_block hS1 0 (by simp); simpa using this) (by have := cell_of_block hS1 1 (by simp); simpa using this) (by decide) (cells1 (heap_alloc_new w _)) (by unfold maxLen; omega) ha).mono ?_
  rintro e w1 ⟨rfl, k, rfl⟩
  have hp : inCls [3] = isDigit := funext inCls_digit
  rw [hp]; clear hp
  have hB1 : Below w.heap.size w ((w.alloc (.cells #[.int .i64 3] 3)).drewN k) := below_drewN' k ((Below.refl w.heap.size w).alloc (Nat.le_refl _) (.cells #[.int .i64 3] 3))
  have hz1 : w.heap.size ≤ ((w.alloc (.cells #[.int .i64 3] 3)).drewN k).heap.size := by rw [heap_drewN]; simp
  generalize (w.alloc (.cells #[.int .i64 3] 3)).drewN k = w1 at *
  have hT : (⟨(runText isDigit src a).toArray⟩ : ByteArray).size = (runText isDigit src a).length := size_mk _
  have HT := Lib.hid hT; clear hT
  have HB1 := Lib.hid hB1; clear hB1 hS1
  generalize hl : runText isDigit src a = l at *
  have HL := Lib.hid hl; clear hl
  go_wp2_with fail
  refine (Tryd.strconv_Atoi_ok _ (by rw [HT.out]; omega) _ HAT.out w1).mono ?_
  rintro e w2 ⟨rfl, hw2⟩
  have hB2 : Below w1.heap.size w1 w2 := by
    rcases hw2 with rfl | ⟨t, rfl⟩
    · exact Below.refl _ _
    · exact Joins.below_bytesWorld _ _ _ _ (Nat.le_refl _)
  clear hw2
  have hz2 := hB2.size
  have HB2 := Lib.hid (HB1.out.trans (hB2.mono hz1)); clear hB2
  go_wp2_with fail
  refine (Tryd.strconv_Itoa _ (by omega) (by omega) w2 (hE'.out.below HB2.out).tab).mono ?_
  rintro e w3 ⟨rfl, k3, os, rfl⟩
  rw [HIT.out]
  have hB3 := HB2.out.trans ((below_growN w2 k3 os).mono (by omega))
  have hz3 : w2.heap.size ≤ (Sort.grow (w2.drewN k3) os).heap.size := (below_growN w2 k3 os).size
  generalize Sort.grow (w2.drewN k3) os = w3 at *
  have HB3 := Lib.hid hB3; clear hB3 HB1 HB2
  go_wp2_with fail
  have hS3 := (HB3.out.block S hSl).trans HS.out
  refine (add_ok S base a n src _ _ 2 (value l) 0 v xs w3 hS3 (ownsRow_belowAll HO.out HB3.out) hSb (by omega) (by rw [show (⟨#[]⟩ : ByteArray).data.toList = [] from rfl, validT_num]; simpa using hval) (by unfold maxLen; decide) (by rw [HT.out]; omega) hn).mono ?_
  rintro e w4 ⟨rfl, v', h1, h2, h3⟩
  rw [HT.out] at h1
  have H1 := Lib.hid h1; have H2 := Lib.hid h2; have H3 := Lib.hid ((HB3.out.mono (by omega)).trans h3); clear h1 h2 h3 hS3
  go_wp2
  go_end0
  have e := HL.out
  subst e
  exact ⟨rfl, v', H1.out, H2.out, H3.out⟩

set_option maxHeartbeats 1000000 in
theorem number_bad (S a : Nat) (src : ByteArray) (v : Value) (w : World) (hE : Env w) (hS : w.heap[S]? = some (.cells #[.string src, .int .i64 a, v] 49 (0, 0)))
    (hSl : S < w.heap.size) (hs : src.size ≤ 65536) (ha : a ≤ src.size) (hne : runText isDigit src a ≠ []) (hok : numOk (runText isDigit src a) = false) :
    Calls Tryd.prog 28 #[.pointer (some ⟨S, 0, none⟩)] w fun e w' => e = placePanic a ∧ Below w.heap.size w w' := by
  have hle := runText_le isDigit src a
  have hnot : ¬ (lead (runText isDigit src a) ∧ value (runText isDigit src a) ≤ 1099511627776) := by
    rw [← numOk_iff, hok]; simp
  have hcase := atoi_digits hne (runText_all isDigit src a)
  have hit := itoa_iff hne (runText_all isDigit src a)
  have hE' := Lib.hid hE; clear hE
  have HS := Lib.hid hS; clear hS
  have HC := Lib.hid hcase; clear hcase
  have HIT := Lib.hid hit; clear hit
  have HN := Lib.hid hnot; clear hne hok hnot
  go_enter Tryd.func28, Tryd.ntmps28
  go_wp2_with fail
  have hS1 := (Below.heap_alloc w (.cells #[.int .i64 3] 3) S hSl).trans HS.out
  refine (run_any S w.heap.size a 1 src [3] _ (by have := cell_of_block hS1 0 (by simp); simpa using this) (by have := cell_of_block hS1 1 (by simp); simpa using this) (by decide) (cells1 (heap_alloc_new w _)) (by unfold maxLen; omega) ha).mono ?_
  rintro e w1 ⟨rfl, k, rfl⟩
  have hp : inCls [3] = isDigit := funext inCls_digit
  rw [hp]; clear hp
  have hB1 : Below w.heap.size w ((w.alloc (.cells #[.int .i64 3] 3)).drewN k) := below_drewN' k ((Below.refl w.heap.size w).alloc (Nat.le_refl _) (.cells #[.int .i64 3] 3))
  have hz1 : w.heap.size ≤ ((w.alloc (.cells #[.int .i64 3] 3)).drewN k).heap.size := by rw [heap_drewN]; simp
  generalize (w.alloc (.cells #[.int .i64 3] 3)).drewN k = w1 at *
  have hT : (⟨(runText isDigit src a).toArray⟩ : ByteArray).size = (runText isDigit src a).length := size_mk _
  have HT := Lib.hid hT; clear hT
  have HB1 := Lib.hid hB1; clear hB1 hS1
  generalize hl : runText isDigit src a = l at *
  clear hl
  go_wp2_with fail
  rcases HC.out with ⟨hat, hlt⟩ | ⟨hat, hge⟩
  · have HAT := Lib.hid hat; clear hat
    refine (Tryd.strconv_Atoi_ok _ (by rw [HT.out]; omega) _ HAT.out w1).mono ?_
    rintro e w2 ⟨rfl, hw2⟩
    have hB2 : Below w1.heap.size w1 w2 := by
      rcases hw2 with rfl | ⟨t, rfl⟩
      · exact Below.refl _ _
      · exact Joins.below_bytesWorld _ _ _ _ (Nat.le_refl _)
    clear hw2
    have hz2 := hB2.size
    have HB2 := Lib.hid (HB1.out.trans (hB2.mono hz1)); clear hB2
    go_wp2_with fail
    refine (Tryd.strconv_Itoa _ (by omega) (by omega) w2 (hE'.out.below HB2.out).tab).mono ?_
    rintro e w3 ⟨rfl, k3, os, rfl⟩
    have hB3 := HB2.out.trans ((below_growN w2 k3 os).mono (by omega))
    have hz3 : w2.heap.size ≤ (Sort.grow (w2.drewN k3) os).heap.size := (below_growN w2 k3 os).size
    generalize Sort.grow (w2.drewN k3) os = w3 at *
    have hS3 := (hB3.block S hSl).trans HS.out
    have HB3 := Lib.hid hB3; clear hB3 HB1 HB2
    have c1 := cell_of_block hS3 1 (by simp)
    simp at c1
    by_cases hl : lead l
    · have hbig : ¬ value l ≤ 1099511627776 := fun h => HN.out ⟨hl, h⟩
      rw [HIT.out.2 hl]
      clear c1
      have HS3 := Lib.hid hS3; clear hS3
      go_wp2_with fail
      refine (add_bad S a src _ _ 2 (value l) 0 v w3 HS3.out (by omega) (by rw [show (⟨#[]⟩ : ByteArray).data.toList = [] from rfl, validT_num]; simpa using hbig) (by unfold maxLen; decide)).mono ?_
      rintro e w4 ⟨rfl, h3⟩
      have H3 := Lib.hid (HB3.out.trans (h3.mono (by omega))); clear h3
      unfold placePanic
      go_wp2
      exact ⟨rfl, rfl, H3.out⟩
    · have hneq : ¬ Lib.itoa (value l : Int) = l := fun h => hl (HIT.out.1 h)
      have HS3 := Lib.hid hS3; clear hS3
      have hb : (Lib.itoa (value l : Int) == l) = false := by simpa using hneq
      generalize Lib.itoa (value l : Int) = m at *
      clear HIT hneq
      go_wp2_with fail
      exact ⟨rfl, rfl, HB3.out⟩
  · obtain ⟨tp, p, hp⟩ := (hE'.out.below HB1.out).rng
    refine (Tryd.strconv_Atoi_range_var _ (by rw [HT.out]; omega) hat tp p w1 hp).mono ?_
    rintro e w2 ⟨N, rfl, hN1, hN2, hB2⟩
    clear hN1 hN2 hp
    have hz2 := hB2.size
    have hB3 := HB1.out.trans (hB2.mono hz1)
    have hS3 := (hB3.block S hSl).trans HS.out
    have HB3 := Lib.hid hB3; clear hB3 hB2 hat HB1
    have c1 := cell_of_block hS3 1 (by simp)
    simp at c1
    have HS3 := Lib.hid hS3; clear hS3
    go_wp2_with fail
    exact ⟨rfl, rfl, HB3.out⟩
end Go.Proofs.YtabdpmcdlojliaaDoor
