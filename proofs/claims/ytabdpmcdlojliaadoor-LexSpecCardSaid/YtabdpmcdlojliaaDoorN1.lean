/- The law LexSpec: it returns true. -/
import Derived.Test.YtabdpmcdlojliaaDoorJ6
namespace Go.Proofs.YtabdpmcdlojliaaDoor
open Go.RowKit

set_option maxHeartbeats 1000000 in
theorem rlex_limit (src : ByteArray) (w : World) (hm : src.size ≤ maxLen) (hs : 65536 < src.size) :
    Calls Tryd.prog 13 #[.string src] w fun e w' => e = .returned (.tuple #[.slice none 0 0, .int .i64 0, .int .i64 2]) ∧ Below w.heap.size w w' := by
  unfold maxLen at hm
  go_enter Tryd.func13, Tryd.ntmps13
  go_wp2_with fail
  go_ret3
  exact ⟨rfl, Below.refl _ _⟩

set_option maxHeartbeats 1000000 in
theorem lexSpec_long (s : ByteArray) (w : World) (hE : Env w) (hs : s.size ≤ 140737488351232) (hbig : 70000 < s.size) :
    Calls Tryd.prog 3 #[.string s] w fun e w' => e = .returned (.bool true) ∧ Below w.heap.size w w' := by
  have HE := Lib.hid hE; clear hE
  go_enter Tryd.func3, Tryd.ntmps3
  go_wp2_with (go_at_call 11; refine (sane_any _ HE.out).mono ?_; rintro e w1 ⟨rfl, b1⟩; have BW := Lib.hid b1; clear b1)
  go_ret
  exact ⟨rfl, BW.out⟩

set_option maxHeartbeats 1000000 in
theorem lexSpec_limit (s : ByteArray) (w : World) (hE : Env w) (hs : s.size ≤ 70000) (hbig : 65536 < s.size) :
    Calls Tryd.prog 3 #[.string s] w fun e w' => e = .returned (.bool true) ∧ Below w.heap.size w w' := by
  have HE := Lib.hid hE; clear hE
  go_enter Tryd.func3, Tryd.ntmps3
  go_wp2_with fail
  refine (sane_any _ HE.out).mono ?_
  rintro e w1 ⟨rfl, b1⟩
  have BW := Lib.hid b1; clear b1
  go_wp2_with fail
  refine (lex_limit s w1 (by unfold maxLen; omega) hbig).mono ?_
  rintro e w2 ⟨rfl, b2⟩
  replace BW := Lib.hid (BW.out.trans (b2.mono (by have := BW.out.size; omega)))
  clear b2
  go_wp2_with fail
  refine (rlex_limit s w2 (by unfold maxLen; omega) hbig).mono ?_
  rintro e w3 ⟨rfl, b3⟩
  replace BW := Lib.hid (BW.out.trans (b3.mono (by have := BW.out.size; omega)))
  clear b3
  go_wp2_with fail
  refine (equal_any _ _ [] [] w3 (Or.inl ⟨_, _, rfl, rfl⟩) (Or.inl ⟨_, _, rfl, rfl⟩) (by simp)).mono ?_
  rintro e w4 ⟨rfl, nd, rfl⟩
  rw [equalT_self]
  go_wp2_with fail
  go_ret
  exact ⟨rfl, below_drewN' nd BW.out⟩

set_option maxHeartbeats 1000000 in
theorem lexSpec_some (s : ByteArray) (w : World) (hE : Env w) (hs : s.size ≤ 65536) :
    Calls Tryd.prog 3 #[.string s] w fun e w' => e = .returned (.bool true) ∧ Below w.heap.size w w' := by
  have HE := Lib.hid hE; clear hE
  have HL := Lib.hid (lexAt_len 0 s.data.toList)
  go_enter Tryd.func3, Tryd.ntmps3
  go_wp2_with fail
  refine (sane_any _ HE.out).mono ?_
  rintro e w1 ⟨rfl, b1⟩
  have BW := Lib.hid b1; clear b1
  go_wp2_with fail
  refine (lex_any s w1 (HE.out.below BW.out) (by omega)).mono ?_
  rintro e w2 (⟨us, v, hr, rfl, ho, b2⟩ | ⟨p, hr, rfl, b2⟩)
  · have HR := Lib.hid hr; clear hr
    replace BW := Lib.hid (BW.out.trans (b2.mono (by have := BW.out.size; omega)))
    have HO := Lib.hid ho
    clear b2 ho
    go_wp2_with fail
    refine (rlex_any s w2 hs).mono ?_
    rintro e w3 (⟨us', v', hr, rfl, ho3, b3⟩ | ⟨p, hr, rfl, b3⟩)
    · rw [HR.out] at hr; injection hr with hr; subst hr
      have HA := Lib.hid (isToks_own (ownsRow_below HO.out b3)); have HB := Lib.hid (isToks_own ho3)
      replace BW := Lib.hid (BW.out.trans (b3.mono (by have := BW.out.size; omega)))
      have hl := HL.out us HR.out
      rw [list_size] at hl
      clear b3 ho3
      go_wp2_with fail
      refine (equal_any _ _ us us w3 HA.out HB.out (by omega)).mono ?_
      rintro e w4 ⟨rfl, nd, rfl⟩
      rw [equalT_self]
      go_wp2_with fail
      go_ret
      exact ⟨rfl, below_drewN' nd BW.out⟩
    · rw [HR.out] at hr; cases hr
  · have HR := Lib.hid hr; clear hr
    replace BW := Lib.hid (BW.out.trans (b2.mono (by have := BW.out.size; omega)))
    clear b2
    go_wp2_with fail
    refine (rlex_any s w2 hs).mono ?_
    rintro e w3 (⟨us', v', hr, rfl, ho3, b3⟩ | ⟨q, hr, rfl, b3⟩)
    · rw [HR.out] at hr; cases hr
    · rw [HR.out] at hr; injection hr with hr; subst hr
      replace BW := Lib.hid (BW.out.trans (b3.mono (by have := BW.out.size; omega)))
      clear b3
      go_wp2_with fail
      refine (equal_any _ _ [] [] w3 (Or.inl ⟨_, _, rfl, rfl⟩) (Or.inl ⟨_, _, rfl, rfl⟩) (by simp)).mono ?_
      rintro e w4 ⟨rfl, nd, rfl⟩
      rw [equalT_self]
      go_wp2_with fail
      go_ret
      exact ⟨ret_bool (by simp), below_drewN' nd BW.out⟩

theorem lexSpec_any (s : ByteArray) (w : World) (hE : Env w) (hs : s.size ≤ 140737488351232) :
    Calls Tryd.prog 3 #[.string s] w fun e w' => e = .returned (.bool true) ∧ Below w.heap.size w w' := by
  by_cases h : 70000 < s.size
  · exact lexSpec_long s w hE hs h
  by_cases h2 : 65536 < s.size
  · exact lexSpec_limit s w hE (by omega) h2
  exact lexSpec_some s w hE (by omega)
end Go.Proofs.YtabdpmcdlojliaaDoor
