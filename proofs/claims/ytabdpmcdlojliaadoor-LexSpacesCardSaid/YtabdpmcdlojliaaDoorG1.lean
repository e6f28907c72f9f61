/- The law LexWrong: it returns true. -/
import Derived.Test.YtabdpmcdlojliaaDoorC2
import Derived.Test.YtabdpmcdlojliaaDoorP6
namespace Go.Proofs.YtabdpmcdlojliaaDoor
open Go.RowKit

/-- Lex where there are tokens or none. -/
theorem lex_ok (src : ByteArray) (ts : List Tok) (w : World) (hE : Env w) (hs : src.size ≤ 65536) (hok : lexAt 0 src.data.toList = .ok ts) :
    Calls Tryd.prog 12 #[.string src] w fun e w' => ∃ v, e = .returned (.tuple #[v, .int .i64 0, .int .i64 0]) ∧ w'.ownsRow w.heap.size 35 4 v ts.length (cellsOf ts) ∧ Below w.heap.size w w' := by
  refine (lex_any src w hE hs).mono ?_
  rintro e w' (⟨us, v, hr, rfl, ho, hb⟩ | ⟨p, hr, _⟩)
  · rw [hok] at hr; injection hr with hr; subst hr; exact ⟨v, rfl, ho, hb⟩
  · rw [hok] at hr; cases hr

set_option maxHeartbeats 1000000 in
theorem lexWrong_long (s m : ByteArray) (w : World) (hE : Env w) (hs : s.size ≤ 140737488351232) (hm : m.size ≤ 140737488351232) (hbig : 3000 < s.size + m.size) :
    Calls Tryd.prog 9 #[.string s, .string m] w fun e w' => e = .returned (.bool true) ∧ Below w.heap.size w w' := by
  have HE := Lib.hid hE; clear hE
  go_enter Tryd.func9, Tryd.ntmps9
  go_wp2_with (go_at_call 11; refine (sane_any _ HE.out).mono ?_; rintro e w1 ⟨rfl, b1⟩; have BW := Lib.hid b1; clear b1)
  go_ret
  exact ⟨rfl, BW.out⟩

set_option maxHeartbeats 1000000 in
theorem lexWrong_ok (s m : ByteArray) (w : World) (hE : Env w) (hsz : s.size + m.size ≤ 3000) (ts : List Tok) (hok : lexAt 0 s.data.toList = .ok ts) :
    Calls Tryd.prog 9 #[.string s, .string m] w fun e w' => e = .returned (.bool true) ∧ Below w.heap.size w w' := by
  have HE := Lib.hid hE; clear hE
  have HK := Lib.hid hok; clear hok
  go_enter Tryd.func9, Tryd.ntmps9
  go_wp2_with fail
  refine (sane_any _ HE.out).mono ?_
  rintro e w1 ⟨rfl, b1⟩
  have BW := Lib.hid b1; clear b1
  go_wp2_with fail
  refine (lex_ok s ts w1 (HE.out.below BW.out) (by omega) HK.out).mono ?_
  rintro e w2 ⟨v, rfl, _, b2⟩
  have hz2 := b2.size
  replace BW := Lib.hid (BW.out.trans (b2.mono (by have := BW.out.size; omega)))
  clear b2
  go_wp2_with fail
  go_ret
  exact ⟨rfl, BW.out⟩

theorem cut_front (s : ByteArray) (n : Nat) : (s.extract 0 n).data.toList = s.data.toList.take n := by
  simp
theorem cut_back (s : ByteArray) (n : Nat) : (s.extract n s.size).data.toList = s.data.toList.drop n := by
  rw [ByteArray.data_extract, Array.toList_extract]
  have : s.size = s.data.toList.length := by simp
  rw [this, List.extract_eq_take_drop]
  exact List.take_of_length_le (by simp)

set_option maxRecDepth 100000 in
set_option maxHeartbeats 2000000 in
theorem lexWrong_err (s m : ByteArray) (w : World) (hE : Env w) (hsz : s.size + m.size ≤ 3000) (p : Nat) (hok : lexAt 0 s.data.toList = .error p) :
    Calls Tryd.prog 9 #[.string s, .string m] w fun e w' => e = .returned (.bool true) ∧ Below w.heap.size w w' := by
  have HE := Lib.hid hE; clear hE
  have HK := Lib.hid hok; clear hok
  obtain ⟨_, hp, ⟨ts, h1⟩, h2⟩ := lexAt_cut 0 s.data.toList p HK.out
  have hp' : p < s.size := by rw [Nat.zero_add] at hp; rw [show s.size = s.data.toList.length by simp]; exact hp
  clear hp
  rw [Nat.sub_zero] at h1 h2
  have h2' : lexAt 0 (s.data.toList.drop p) = .error 0 := by
    have := lexAt_shift p 0 (s.data.toList.drop p)
    rw [Nat.zero_add, h2] at this
    revert this
    cases lexAt 0 (s.data.toList.drop p) with
    | ok ts => intro h; cases h
    | error q => intro h; injection h with h; have : q = 0 := by omega
                 rw [this]
  have h3 := lexAt_err_app (s := 32) (by decide) m.data.toList 0 s.data.toList p HK.out
  rw [← cut_front s p] at h1
  rw [← cut_back s p] at h2'
  clear h2
  have H1 := Lib.hid h1; clear h1
  have H2 := Lib.hid h2'; clear h2'
  have H3 := Lib.hid h3; clear h3
  go_enter Tryd.func9, Tryd.ntmps9
  go_wp2_with fail
  refine (sane_any _ HE.out).mono ?_
  rintro e w1 ⟨rfl, b1⟩
  have BW := Lib.hid b1; clear b1
  go_wp2_with fail
  refine (lex_err s p w1 (HE.out.below BW.out) (by omega) HK.out).mono ?_
  rintro e w2 ⟨rfl, b2⟩
  have hz2 := b2.size
  replace BW := Lib.hid (BW.out.trans (b2.mono (by have := BW.out.size; omega)))
  clear b2
  go_wp2_with fail
  refine (lex_ok _ ts w2 (HE.out.below BW.out) (by simp; omega) H1.out).mono ?_
  rintro e w3 ⟨v, rfl, _, b3⟩
  have hz3 := b3.size
  replace BW := Lib.hid (BW.out.trans (b3.mono (by have := BW.out.size; omega)))
  clear b3
  go_wp2_with fail
  refine (lex_err _ p w3 (HE.out.below BW.out) (by rw [ByteArray.size_append, ByteArray.size_append, show (⟨#[32]⟩ : ByteArray).size = 1 from rfl]; omega) (by simpa using H3.out)).mono ?_
  rintro e w4 ⟨rfl, b4⟩
  have hz4 := b4.size
  replace BW := Lib.hid (BW.out.trans (b4.mono (by have := BW.out.size; omega)))
  clear b4
  go_wp2_with fail
  refine (lex_err _ 0 w4 (HE.out.below BW.out) (by simp; omega) H2.out).mono ?_
  rintro e w5 ⟨rfl, b5⟩
  have hz5 := b5.size
  replace BW := Lib.hid (BW.out.trans (b5.mono (by have := BW.out.size; omega)))
  clear b5
  go_wp2_with fail
  go_ret
  exact ⟨rfl, BW.out⟩

theorem lexWrong_any (s m : ByteArray) (w : World) (hE : Env w) (hs : s.size ≤ 140737488351232) (hm : m.size ≤ 140737488351232) :
    Calls Tryd.prog 9 #[.string s, .string m] w fun e w' => e = .returned (.bool true) ∧ Below w.heap.size w w' := by
  by_cases hbig : 3000 < s.size + m.size
  · exact lexWrong_long s m w hE hs hm hbig
  cases h : lexAt 0 s.data.toList with
  | ok ts => exact lexWrong_ok s m w hE (by omega) ts h
  | error p => exact lexWrong_err s m w hE (by omega) p h

end Go.Proofs.YtabdpmcdlojliaaDoor
