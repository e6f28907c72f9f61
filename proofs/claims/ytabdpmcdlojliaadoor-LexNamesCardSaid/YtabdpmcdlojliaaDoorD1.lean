/- The law LexNames: it returns true. -/
import Derived.Test.YtabdpmcdlojliaaDoorC2
import Derived.Test.YtabdpmcdlojliaaDoorP4
namespace Go.Proofs.YtabdpmcdlojliaaDoor
open Go.RowKit

/-- What the law does behind Lex: Text of the one token, and Name. -/
theorem short_one {s : ByteArray} (hs : s.size ≤ maxLen) (k n p : Int) : ∀ t ∈ ([⟨k, s.data.toList, n, p⟩] : List Tok), t.text.length ≤ maxLen := by
  intro t ht; simp at ht; subst ht; show s.data.toList.length ≤ maxLen; rw [show s.data.toList.length = s.size by simp]; exact hs
theorem all_one (l : List UInt8) : ([⟨1, l, 0, 0⟩] : List Tok).all validT = nameOk l := by
  rw [List.all_cons, validT_name]; simp
theorem bytes_eta (s : ByteArray) : (⟨s.data.toList.toArray⟩ : ByteArray) = s := by cases s; simp

set_option maxHeartbeats 1000000 in
theorem lexNames_long (s : ByteArray) (w : World) (hE : Env w) (hs : s.size ≤ maxLen) (hbig : 1000 < s.size) :
    Calls Tryd.prog 10 #[.string s] w fun e w' => e = .returned (.bool true) ∧ Below w.heap.size w w' := by
  unfold maxLen at hs
  have HE := Lib.hid hE; clear hE
  go_enter Tryd.func10, Tryd.ntmps10
  go_wp2_with (go_at_call 11; refine (sane_any _ HE.out).mono ?_; rintro e w1 ⟨rfl, b1⟩; have BW := Lib.hid b1; clear b1)
  go_ret
  exact ⟨rfl, BW.out⟩

theorem tokAt_oneS {w : World} {g : Nat} {t : TypeId} (k n p : Int) (s : ByteArray) (h : w.heap[g]? = some (.cells #[.int .i64 k, .string s, .int .i64 n, .int .i64 p] t (0, 0))) : TokAt w g 0 [⟨k, s.data.toList, n, p⟩] :=
  tokAt_one k n p s.data.toList (by rw [bytes_eta]; exact h)

set_option maxRecDepth 100000 in
set_option maxHeartbeats 2000000 in
theorem lexNames_yes (s : ByteArray) (w : World) (hE : Env w) (hs : s.size ≤ 1000) (hok : nameOk s.data.toList = true) :
    Calls Tryd.prog 10 #[.string s] w fun e w' => e = .returned (.bool true) ∧ Below w.heap.size w w' := by
  have HE := Lib.hid hE; clear hE
  have HK := Lib.hid hok; clear hok
  have hml : s.size ≤ maxLen := by unfold maxLen; omega
  go_enter Tryd.func10, Tryd.ntmps10
  go_wp2_with fail
  refine (sane_any _ HE.out).mono ?_
  rintro e w1 ⟨rfl, b1⟩
  have BW := Lib.hid b1; clear b1
  go_wp2_with fail
  refine (lex_some s [⟨1, s.data.toList, 0, 0⟩] 1 w1 (HE.out.below BW.out) (by omega) (one_name HK.out 0) rfl (by decide)).mono ?_
  rintro e w2 ⟨g, c, rfl, t1, l1, b2⟩
  have hz2 := b2.size
  replace BW := Lib.hid (BW.out.trans (b2.mono (by have := BW.out.size; omega)))
  clear b2
  obtain ⟨m0, m1, m2, m3⟩ := t1 0 _ rfl
  rw [bytes_eta] at m1
  simp at m0 m1 m2 m3
  have T1 := Lib.hid t1; clear t1
  go_wp2_with fail
  clear m0 m1 m2 m3 T1
  have tz := tokAt_oneS (w := (w2.alloc (.cells #[.int .i64 1, .string s, .int .i64 0, .int .i64 0] 35))) (g := w2.heap.size) (t := 35) 1 0 0 s (heap_alloc_new w2 _)
  have lz : w2.heap.size < (w2.alloc (.cells #[.int .i64 1, .string s, .int .i64 0, .int .i64 0] 35)).heap.size := by simp
  have bz : Below w2.heap.size w2 (w2.alloc (.cells #[.int .i64 1, .string s, .int .i64 0, .int .i64 0] 35)) := (Below.refl _ _).alloc (Nat.le_refl _) _
  generalize (w2.alloc (.cells #[.int .i64 1, .string s, .int .i64 0, .int .i64 0] 35)) = w3 at *
  replace BW := Lib.hid (BW.out.trans (bz.mono (by have := BW.out.size; omega)))
  clear bz
  generalize w2.heap.size = gz at *
  refine (text_any _ [⟨1, s.data.toList, 0, 0⟩] w3 (HE.out.below BW.out) (Or.inr ⟨gz, 0, 1, rfl, tz, lz⟩) (by simp) (short_one hml _ _ _) (fun h => Nat.le_trans (textL_len h) (by simp))).mono ?_
  clear tz
  rintro e w4 ⟨h4, b4⟩
  rw [all_one, HK.out, if_pos rfl] at h4
  subst h4
  replace BW := Lib.hid (BW.out.trans (b4.mono (by have := BW.out.size; omega)))
  clear b4
  go_wp2_with fail
  refine (lname_any s _ hml).mono ?_
  rw [HK.out]
  rintro e w' ⟨rfl, rfl⟩
  go_wp2_with fail
  go_ret
  exact ⟨rfl, BW.out⟩

set_option maxRecDepth 100000 in
set_option maxHeartbeats 2000000 in
theorem lexNames_err (s : ByteArray) (w : World) (hE : Env w) (hs : s.size ≤ 1000) (hok : nameOk s.data.toList = false) (p : Nat) (hl : lexAt 0 s.data.toList = .error p) :
    Calls Tryd.prog 10 #[.string s] w fun e w' => e = .returned (.bool true) ∧ Below w.heap.size w w' := by
  have HE := Lib.hid hE; clear hE
  have HK := Lib.hid hok; clear hok
  have hml : s.size ≤ maxLen := by unfold maxLen; omega
  have HL := Lib.hid hl; clear hl
  go_enter Tryd.func10, Tryd.ntmps10
  go_wp2_with fail
  refine (sane_any _ HE.out).mono ?_
  rintro e w1 ⟨rfl, b1⟩
  have BW := Lib.hid b1; clear b1
  go_wp2_with fail
  refine (lex_err s p w1 (HE.out.below BW.out) (by omega) HL.out).mono ?_
  rintro e w2 ⟨rfl, b2⟩
  have hz2 := b2.size
  replace BW := Lib.hid (BW.out.trans (b2.mono (by have := BW.out.size; omega)))
  clear b2
  go_wp2_with fail
  have tz := tokAt_oneS (w := (w2.alloc (.cells #[.int .i64 1, .string s, .int .i64 0, .int .i64 0] 35))) (g := w2.heap.size) (t := 35) 1 0 0 s (heap_alloc_new w2 _)
  have lz : w2.heap.size < (w2.alloc (.cells #[.int .i64 1, .string s, .int .i64 0, .int .i64 0] 35)).heap.size := by simp
  have bz : Below w2.heap.size w2 (w2.alloc (.cells #[.int .i64 1, .string s, .int .i64 0, .int .i64 0] 35)) := (Below.refl _ _).alloc (Nat.le_refl _) _
  generalize (w2.alloc (.cells #[.int .i64 1, .string s, .int .i64 0, .int .i64 0] 35)) = w3 at *
  replace BW := Lib.hid (BW.out.trans (bz.mono (by have := BW.out.size; omega)))
  clear bz
  generalize w2.heap.size = gz at *
  refine (text_any _ [⟨1, s.data.toList, 0, 0⟩] w3 (HE.out.below BW.out) (Or.inr ⟨gz, 0, 1, rfl, tz, lz⟩) (by simp) (short_one hml _ _ _) (fun h => Nat.le_trans (textL_len h) (by simp))).mono ?_
  clear tz
  rintro e w4 ⟨h4, b4⟩
  rw [all_one, HK.out, if_neg (by decide)] at h4
  subst h4
  replace BW := Lib.hid (BW.out.trans (b4.mono (by have := BW.out.size; omega)))
  clear b4
  go_wp2_with fail
  refine (lname_any s _ hml).mono ?_
  rw [HK.out]
  rintro e w' ⟨rfl, rfl⟩
  go_wp2_with fail
  go_ret
  exact ⟨rfl, BW.out⟩

set_option maxRecDepth 100000 in
set_option maxHeartbeats 2000000 in
theorem lexNames_none (s : ByteArray) (w : World) (hE : Env w) (hs : s.size ≤ 1000) (hok : nameOk s.data.toList = false) (hl : lexAt 0 s.data.toList = .ok []) :
    Calls Tryd.prog 10 #[.string s] w fun e w' => e = .returned (.bool true) ∧ Below w.heap.size w w' := by
  have HE := Lib.hid hE; clear hE
  have HK := Lib.hid hok; clear hok
  have hml : s.size ≤ maxLen := by unfold maxLen; omega
  have HL := Lib.hid hl; clear hl
  go_enter Tryd.func10, Tryd.ntmps10
  go_wp2_with fail
  refine (sane_any _ HE.out).mono ?_
  rintro e w1 ⟨rfl, b1⟩
  have BW := Lib.hid b1; clear b1
  go_wp2_with fail
  refine (lex_none s w1 (HE.out.below BW.out) (by omega) HL.out).mono ?_
  rintro e w2 ⟨ao, c, rfl, b2⟩
  have hz2 := b2.size
  replace BW := Lib.hid (BW.out.trans (b2.mono (by have := BW.out.size; omega)))
  clear b2
  go_wp2_with fail
  have tz := tokAt_oneS (w := (w2.alloc (.cells #[.int .i64 1, .string s, .int .i64 0, .int .i64 0] 35))) (g := w2.heap.size) (t := 35) 1 0 0 s (heap_alloc_new w2 _)
  have lz : w2.heap.size < (w2.alloc (.cells #[.int .i64 1, .string s, .int .i64 0, .int .i64 0] 35)).heap.size := by simp
  have bz : Below w2.heap.size w2 (w2.alloc (.cells #[.int .i64 1, .string s, .int .i64 0, .int .i64 0] 35)) := (Below.refl _ _).alloc (Nat.le_refl _) _
  generalize (w2.alloc (.cells #[.int .i64 1, .string s, .int .i64 0, .int .i64 0] 35)) = w3 at *
  replace BW := Lib.hid (BW.out.trans (bz.mono (by have := BW.out.size; omega)))
  clear bz
  generalize w2.heap.size = gz at *
  refine (text_any _ [⟨1, s.data.toList, 0, 0⟩] w3 (HE.out.below BW.out) (Or.inr ⟨gz, 0, 1, rfl, tz, lz⟩) (by simp) (short_one hml _ _ _) (fun h => Nat.le_trans (textL_len h) (by simp))).mono ?_
  clear tz
  rintro e w4 ⟨h4, b4⟩
  rw [all_one, HK.out, if_neg (by decide)] at h4
  subst h4
  replace BW := Lib.hid (BW.out.trans (b4.mono (by have := BW.out.size; omega)))
  clear b4
  go_wp2_with fail
  refine (lname_any s _ hml).mono ?_
  rw [HK.out]
  rintro e w' ⟨rfl, rfl⟩
  go_wp2_with fail
  go_ret
  exact ⟨rfl, BW.out⟩

set_option maxRecDepth 100000 in
set_option maxHeartbeats 2000000 in
theorem lexNames_many (s : ByteArray) (w : World) (hE : Env w) (hs : s.size ≤ 1000) (hok : nameOk s.data.toList = false) (ts : List Tok) (hl : lexAt 0 s.data.toList = .ok ts) (h2 : 2 ≤ ts.length) :
    Calls Tryd.prog 10 #[.string s] w fun e w' => e = .returned (.bool true) ∧ Below w.heap.size w w' := by
  have HE := Lib.hid hE; clear hE
  have HK := Lib.hid hok; clear hok
  have hml : s.size ≤ maxLen := by unfold maxLen; omega
  have HL := Lib.hid hl; clear hl
  have hne : ((ts.length : Int) == 1) = false := by simp; omega
  generalize hn : ts.length = n at *
  have HN := Lib.hid hn; clear hn
  go_enter Tryd.func10, Tryd.ntmps10
  go_wp2_with fail
  refine (sane_any _ HE.out).mono ?_
  rintro e w1 ⟨rfl, b1⟩
  have BW := Lib.hid b1; clear b1
  go_wp2_with fail
  refine (lex_some s ts n w1 (HE.out.below BW.out) (by omega) HL.out HN.out (by omega)).mono ?_
  rintro e w2 ⟨g, c, rfl, t1, l1, b2⟩
  clear t1
  have hz2 := b2.size
  replace BW := Lib.hid (BW.out.trans (b2.mono (by have := BW.out.size; omega)))
  clear b2
  go_wp2_with fail
  have tz := tokAt_oneS (w := (w2.alloc (.cells #[.int .i64 1, .string s, .int .i64 0, .int .i64 0] 35))) (g := w2.heap.size) (t := 35) 1 0 0 s (heap_alloc_new w2 _)
  have lz : w2.heap.size < (w2.alloc (.cells #[.int .i64 1, .string s, .int .i64 0, .int .i64 0] 35)).heap.size := by simp
  have bz : Below w2.heap.size w2 (w2.alloc (.cells #[.int .i64 1, .string s, .int .i64 0, .int .i64 0] 35)) := (Below.refl _ _).alloc (Nat.le_refl _) _
  generalize (w2.alloc (.cells #[.int .i64 1, .string s, .int .i64 0, .int .i64 0] 35)) = w3 at *
  replace BW := Lib.hid (BW.out.trans (bz.mono (by have := BW.out.size; omega)))
  clear bz
  generalize w2.heap.size = gz at *
  refine (text_any _ [⟨1, s.data.toList, 0, 0⟩] w3 (HE.out.below BW.out) (Or.inr ⟨gz, 0, 1, rfl, tz, lz⟩) (by simp) (short_one hml _ _ _) (fun h => Nat.le_trans (textL_len h) (by simp))).mono ?_
  clear tz
  rintro e w4 ⟨h4, b4⟩
  rw [all_one, HK.out, if_neg (by decide)] at h4
  subst h4
  replace BW := Lib.hid (BW.out.trans (b4.mono (by have := BW.out.size; omega)))
  clear b4
  go_wp2_with fail
  refine (lname_any s _ hml).mono ?_
  rw [HK.out]
  rintro e w' ⟨rfl, rfl⟩
  go_wp2_with fail
  go_ret
  exact ⟨rfl, BW.out⟩

set_option maxRecDepth 100000 in
set_option maxHeartbeats 2000000 in
theorem lexNames_kind (s : ByteArray) (w : World) (hE : Env w) (hs : s.size ≤ 1000) (hok : nameOk s.data.toList = false) (t : Tok) (hl : lexAt 0 s.data.toList = .ok [t]) (h1 : (t.kind == 1) = false) :
    Calls Tryd.prog 10 #[.string s] w fun e w' => e = .returned (.bool true) ∧ Below w.heap.size w w' := by
  have HE := Lib.hid hE; clear hE
  have HK := Lib.hid hok; clear hok
  have hml : s.size ≤ maxLen := by unfold maxLen; omega
  have HL := Lib.hid hl; clear hl
  go_enter Tryd.func10, Tryd.ntmps10
  go_wp2_with fail
  refine (sane_any _ HE.out).mono ?_
  rintro e w1 ⟨rfl, b1⟩
  have BW := Lib.hid b1; clear b1
  go_wp2_with fail
  refine (lex_some s [t] 1 w1 (HE.out.below BW.out) (by omega) HL.out rfl (by decide)).mono ?_
  rintro e w2 ⟨g, c, rfl, t1, l1, b2⟩
  have hz2 := b2.size
  replace BW := Lib.hid (BW.out.trans (b2.mono (by have := BW.out.size; omega)))
  clear b2
  obtain ⟨m0, m1, m2, m3⟩ := t1 0 _ rfl
  simp at m0 m1 m2 m3
  clear t1
  go_wp2_with fail
  clear m0 m1 m2 m3
  have tz := tokAt_oneS (w := (w2.alloc (.cells #[.int .i64 1, .string s, .int .i64 0, .int .i64 0] 35))) (g := w2.heap.size) (t := 35) 1 0 0 s (heap_alloc_new w2 _)
  have lz : w2.heap.size < (w2.alloc (.cells #[.int .i64 1, .string s, .int .i64 0, .int .i64 0] 35)).heap.size := by simp
  have bz : Below w2.heap.size w2 (w2.alloc (.cells #[.int .i64 1, .string s, .int .i64 0, .int .i64 0] 35)) := (Below.refl _ _).alloc (Nat.le_refl _) _
  generalize (w2.alloc (.cells #[.int .i64 1, .string s, .int .i64 0, .int .i64 0] 35)) = w3 at *
  replace BW := Lib.hid (BW.out.trans (bz.mono (by have := BW.out.size; omega)))
  clear bz
  generalize w2.heap.size = gz at *
  refine (text_any _ [⟨1, s.data.toList, 0, 0⟩] w3 (HE.out.below BW.out) (Or.inr ⟨gz, 0, 1, rfl, tz, lz⟩) (by simp) (short_one hml _ _ _) (fun h => Nat.le_trans (textL_len h) (by simp))).mono ?_
  clear tz
  rintro e w4 ⟨h4, b4⟩
  rw [all_one, HK.out, if_neg (by decide)] at h4
  subst h4
  replace BW := Lib.hid (BW.out.trans (b4.mono (by have := BW.out.size; omega)))
  clear b4
  go_wp2_with fail
  refine (lname_any s _ hml).mono ?_
  rw [HK.out]
  rintro e w' ⟨rfl, rfl⟩
  go_wp2_with fail
  go_ret
  exact ⟨rfl, BW.out⟩

set_option maxRecDepth 100000 in
set_option maxHeartbeats 2000000 in
theorem lexNames_text (s : ByteArray) (w : World) (hE : Env w) (hs : s.size ≤ 1000) (hok : nameOk s.data.toList = false) (t : Tok) (hl : lexAt 0 s.data.toList = .ok [t]) (h1 : t.kind = 1) (h2 : (t.text == s.toList) = false) :
    Calls Tryd.prog 10 #[.string s] w fun e w' => e = .returned (.bool true) ∧ Below w.heap.size w w' := by
  have HE := Lib.hid hE; clear hE
  have HK := Lib.hid hok; clear hok
  have hml : s.size ≤ maxLen := by unfold maxLen; omega
  have HL := Lib.hid hl; clear hl
  go_enter Tryd.func10, Tryd.ntmps10
  go_wp2_with fail
  refine (sane_any _ HE.out).mono ?_
  rintro e w1 ⟨rfl, b1⟩
  have BW := Lib.hid b1; clear b1
  go_wp2_with fail
  refine (lex_some s [t] 1 w1 (HE.out.below BW.out) (by omega) HL.out rfl (by decide)).mono ?_
  rintro e w2 ⟨g, c, rfl, t1, l1, b2⟩
  have hz2 := b2.size
  replace BW := Lib.hid (BW.out.trans (b2.mono (by have := BW.out.size; omega)))
  clear b2
  obtain ⟨m0, m1, m2, m3⟩ := t1 0 _ rfl
  rw [h1] at m0
  clear h1
  simp at m0 m1 m2 m3
  clear t1
  go_wp2_with fail
  clear m0 m1 m2 m3
  have tz := tokAt_oneS (w := (w2.alloc (.cells #[.int .i64 1, .string s, .int .i64 0, .int .i64 0] 35))) (g := w2.heap.size) (t := 35) 1 0 0 s (heap_alloc_new w2 _)
  have lz : w2.heap.size < (w2.alloc (.cells #[.int .i64 1, .string s, .int .i64 0, .int .i64 0] 35)).heap.size := by simp
  have bz : Below w2.heap.size w2 (w2.alloc (.cells #[.int .i64 1, .string s, .int .i64 0, .int .i64 0] 35)) := (Below.refl _ _).alloc (Nat.le_refl _) _
  generalize (w2.alloc (.cells #[.int .i64 1, .string s, .int .i64 0, .int .i64 0] 35)) = w3 at *
  replace BW := Lib.hid (BW.out.trans (bz.mono (by have := BW.out.size; omega)))
  clear bz
  generalize w2.heap.size = gz at *
  refine (text_any _ [⟨1, s.data.toList, 0, 0⟩] w3 (HE.out.below BW.out) (Or.inr ⟨gz, 0, 1, rfl, tz, lz⟩) (by simp) (short_one hml _ _ _) (fun h => Nat.le_trans (textL_len h) (by simp))).mono ?_
  clear tz
  rintro e w4 ⟨h4, b4⟩
  rw [all_one, HK.out, if_neg (by decide)] at h4
  subst h4
  replace BW := Lib.hid (BW.out.trans (b4.mono (by have := BW.out.size; omega)))
  clear b4
  go_wp2_with fail
  refine (lname_any s _ hml).mono ?_
  rw [HK.out]
  rintro e w' ⟨rfl, rfl⟩
  go_wp2_with fail
  go_ret
  exact ⟨rfl, BW.out⟩

set_option maxRecDepth 100000 in
set_option maxHeartbeats 2000000 in
theorem lexNames_pos (s : ByteArray) (w : World) (hE : Env w) (hs : s.size ≤ 1000) (hok : nameOk s.data.toList = false) (t : Tok) (hl : lexAt 0 s.data.toList = .ok [t]) (h1 : t.kind = 1) (h2 : t.text = s.data.toList) (h3 : (t.pos == 0) = false) :
    Calls Tryd.prog 10 #[.string s] w fun e w' => e = .returned (.bool true) ∧ Below w.heap.size w w' := by
  have HE := Lib.hid hE; clear hE
  have HK := Lib.hid hok; clear hok
  have hml : s.size ≤ maxLen := by unfold maxLen; omega
  have HL := Lib.hid hl; clear hl
  go_enter Tryd.func10, Tryd.ntmps10
  go_wp2_with fail
  refine (sane_any _ HE.out).mono ?_
  rintro e w1 ⟨rfl, b1⟩
  have BW := Lib.hid b1; clear b1
  go_wp2_with fail
  refine (lex_some s [t] 1 w1 (HE.out.below BW.out) (by omega) HL.out rfl (by decide)).mono ?_
  rintro e w2 ⟨g, c, rfl, t1, l1, b2⟩
  have hz2 := b2.size
  replace BW := Lib.hid (BW.out.trans (b2.mono (by have := BW.out.size; omega)))
  clear b2
  obtain ⟨m0, m1, m2, m3⟩ := t1 0 _ rfl
  rw [h1] at m0
  rw [h2, bytes_eta] at m1
  clear h1 h2
  simp at m0 m1 m2 m3
  clear t1
  go_wp2_with fail
  clear m0 m1 m2 m3
  have tz := tokAt_oneS (w := (w2.alloc (.cells #[.int .i64 1, .string s, .int .i64 0, .int .i64 0] 35))) (g := w2.heap.size) (t := 35) 1 0 0 s (heap_alloc_new w2 _)
  have lz : w2.heap.size < (w2.alloc (.cells #[.int .i64 1, .string s, .int .i64 0, .int .i64 0] 35)).heap.size := by simp
  have bz : Below w2.heap.size w2 (w2.alloc (.cells #[.int .i64 1, .string s, .int .i64 0, .int .i64 0] 35)) := (Below.refl _ _).alloc (Nat.le_refl _) _
  generalize (w2.alloc (.cells #[.int .i64 1, .string s, .int .i64 0, .int .i64 0] 35)) = w3 at *
  replace BW := Lib.hid (BW.out.trans (bz.mono (by have := BW.out.size; omega)))
  clear bz
  generalize w2.heap.size = gz at *
  refine (text_any _ [⟨1, s.data.toList, 0, 0⟩] w3 (HE.out.below BW.out) (Or.inr ⟨gz, 0, 1, rfl, tz, lz⟩) (by simp) (short_one hml _ _ _) (fun h => Nat.le_trans (textL_len h) (by simp))).mono ?_
  clear tz
  rintro e w4 ⟨h4, b4⟩
  rw [all_one, HK.out, if_neg (by decide)] at h4
  subst h4
  replace BW := Lib.hid (BW.out.trans (b4.mono (by have := BW.out.size; omega)))
  clear b4
  go_wp2_with fail
  refine (lname_any s _ hml).mono ?_
  rw [HK.out]
  rintro e w' ⟨rfl, rfl⟩
  go_wp2_with fail
  go_ret
  exact ⟨rfl, BW.out⟩

set_option maxRecDepth 100000 in
set_option maxHeartbeats 2000000 in
theorem lexNames_num (s : ByteArray) (w : World) (hE : Env w) (hs : s.size ≤ 1000) (hok : nameOk s.data.toList = false) (t : Tok) (hl : lexAt 0 s.data.toList = .ok [t]) (h1 : t.kind = 1) (h2 : t.text = s.data.toList) (h3 : t.pos = 0) (h4 : (t.num == 0) = false) :
    Calls Tryd.prog 10 #[.string s] w fun e w' => e = .returned (.bool true) ∧ Below w.heap.size w w' := by
  have HE := Lib.hid hE; clear hE
  have HK := Lib.hid hok; clear hok
  have hml : s.size ≤ maxLen := by unfold maxLen; omega
  have HL := Lib.hid hl; clear hl
  go_enter Tryd.func10, Tryd.ntmps10
  go_wp2_with fail
  refine (sane_any _ HE.out).mono ?_
  rintro e w1 ⟨rfl, b1⟩
  have BW := Lib.hid b1; clear b1
  go_wp2_with fail
  refine (lex_some s [t] 1 w1 (HE.out.below BW.out) (by omega) HL.out rfl (by decide)).mono ?_
  rintro e w2 ⟨g, c, rfl, t1, l1, b2⟩
  have hz2 := b2.size
  replace BW := Lib.hid (BW.out.trans (b2.mono (by have := BW.out.size; omega)))
  clear b2
  obtain ⟨m0, m1, m2, m3⟩ := t1 0 _ rfl
  rw [h1] at m0
  rw [h2, bytes_eta] at m1
  rw [h3] at m3
  clear h1 h2 h3
  simp at m0 m1 m2 m3
  clear t1
  go_wp2_with fail
  clear m0 m1 m2 m3
  have tz := tokAt_oneS (w := (w2.alloc (.cells #[.int .i64 1, .string s, .int .i64 0, .int .i64 0] 35))) (g := w2.heap.size) (t := 35) 1 0 0 s (heap_alloc_new w2 _)
  have lz : w2.heap.size < (w2.alloc (.cells #[.int .i64 1, .string s, .int .i64 0, .int .i64 0] 35)).heap.size := by simp
  have bz : Below w2.heap.size w2 (w2.alloc (.cells #[.int .i64 1, .string s, .int .i64 0, .int .i64 0] 35)) := (Below.refl _ _).alloc (Nat.le_refl _) _
  generalize (w2.alloc (.cells #[.int .i64 1, .string s, .int .i64 0, .int .i64 0] 35)) = w3 at *
  replace BW := Lib.hid (BW.out.trans (bz.mono (by have := BW.out.size; omega)))
  clear bz
  generalize w2.heap.size = gz at *
  refine (text_any _ [⟨1, s.data.toList, 0, 0⟩] w3 (HE.out.below BW.out) (Or.inr ⟨gz, 0, 1, rfl, tz, lz⟩) (by simp) (short_one hml _ _ _) (fun h => Nat.le_trans (textL_len h) (by simp))).mono ?_
  clear tz
  rintro e w4 ⟨h4, b4⟩
  rw [all_one, HK.out, if_neg (by decide)] at h4
  subst h4
  replace BW := Lib.hid (BW.out.trans (b4.mono (by have := BW.out.size; omega)))
  clear b4
  go_wp2_with fail
  refine (lname_any s _ hml).mono ?_
  rw [HK.out]
  rintro e w' ⟨rfl, rfl⟩
  go_wp2_with fail
  go_ret
  exact ⟨rfl, BW.out⟩

theorem lexNames_any (s : ByteArray) (w : World) (hE : Env w) (hs : s.size ≤ maxLen) :
    Calls Tryd.prog 10 #[.string s] w fun e w' => e = .returned (.bool true) ∧ Below w.heap.size w w' := by
  by_cases hbig : 1000 < s.size
  · exact lexNames_long s w hE hs hbig
  have h1000 : s.size ≤ 1000 := by omega
  cases hok : nameOk s.data.toList with
  | true => exact lexNames_yes s w hE h1000 hok
  | false =>
    cases hl : lexAt 0 s.data.toList with
    | error p => exact lexNames_err s w hE h1000 hok p hl
    | ok ts =>
      match ts, hl with
      | [], hl => exact lexNames_none s w hE h1000 hok hl
      | [t], hl =>
        by_cases e1 : t.kind = 1
        · by_cases e2 : t.text = s.data.toList
          · by_cases e3 : t.pos = 0
            · by_cases e4 : t.num = 0
              · exfalso
                have : t = ⟨1, s.data.toList, 0, 0⟩ := by cases t; simp_all
                rw [this] at hl
                have := name_one (pos := 0) hl
                rw [hok] at this; cases this
              · exact lexNames_num s w hE h1000 hok t hl e1 e2 e3 (by simpa using e4)
            · exact lexNames_pos s w hE h1000 hok t hl e1 e2 (by simpa using e3)
          · exact lexNames_text s w hE h1000 hok t hl e1 (by rw [ByteArray.toList_eq]; simpa using e2)
        · exact lexNames_kind s w hE h1000 hok t hl (by simpa using e1)
      | a :: b :: r, hl => exact lexNames_many s w hE h1000 hok (a :: b :: r) hl (by simp)
end Go.Proofs.YtabdpmcdlojliaaDoor
