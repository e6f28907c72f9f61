/- The law LexPlaces: it returns true. -/
import Derived.Test.YtabdpmcdlojliaaDoorH1
import Derived.Test.YtabdpmcdlojliaaDoorL1
import Derived.Test.YtabdpmcdlojliaaDoorP8
namespace Go.Proofs.YtabdpmcdlojliaaDoor
open Go.RowKit

theorem gap_front {l gp rest : List UInt8} {i a : Nat} (h : l.drop i = gp ++ rest) (ha : a = i + gp.length) : (l.drop i).take (a - i) = gp := by
  rw [h, ha, show i + gp.length - i = gp.length by omega, List.take_left]
theorem rem_cons {l : List UInt8} {j a : Nat} {c : UInt8} (h : l[j]? = some c) (ha : j < a) : (l.drop j).take (a - j) = c :: (l.drop (j + 1)).take (a - (j + 1)) := by
  rw [drop_cons h, show a - j = (a - (j + 1)) + 1 by omega, List.take_succ_cons]

theorem word_at {s : ByteArray} {gp wd rest : List UInt8} {i a : Nat} (h : s.data.toList.drop i = gp ++ (wd ++ rest)) (ha : a = i + gp.length) (hne : ∃ x m, wd = x :: m ∧ isSpace x = false) :
    0 < wd.length ∧ s.extract a (a + wd.length) = ⟨wd.toArray⟩ := by
  obtain ⟨x, m, rfl, _⟩ := hne
  refine ⟨by simp, ?_⟩
  rw [extract_list, ha, ← List.drop_drop, h, List.drop_left, show i + gp.length + (x :: m).length - (i + gp.length) = (x :: m).length by omega, List.take_left]
theorem drop_word {l gp wd rest : List UInt8} {i a : Nat} (h : l.drop i = gp ++ (wd ++ rest)) (ha : a = i + gp.length) : l.drop (a + wd.length) = rest := by
  rw [ha, ← List.drop_drop, ← List.drop_drop, h, List.drop_left, List.drop_left]
theorem byte_eq {c : UInt8} {n : Nat} (h : c.toNat = n) (hn : n < 256) : c = UInt8.ofNat n := by
  subst h; exact UInt8.ofNat_toNat.symm
theorem scan_line {b : Bool} {c : UInt8} {r : List UInt8} {o : Option Bool} (hc : c.toNat = 10) (h : scanG b (c :: r) = o) : scanG false r = o := by
  obtain rfl : c = 10 := byte_eq hc (by decide)
  rwa [scanG_line] at h
theorem scan_open {c : UInt8} {r : List UInt8} {o : Option Bool} (hc : ¬ c.toNat = 10) (h : scanG true (c :: r) = o) : scanG true r = o := by
  rwa [scanG_open (by rintro rfl; exact hc rfl)] at h
theorem scan_slash {l : List UInt8} {j a : Nat} {c : UInt8} {fin : Bool} (hc : c.toNat = 47) (h : scanG false (c :: (l.drop (j + 1)).take (a - (j + 1))) = some fin) :
    j + 1 < a ∧ l[j + 1]? = some 47 ∧ scanG true ((l.drop (j + 1)).take (a - (j + 1))) = some fin := by
  obtain rfl : c = 47 := byte_eq hc (by decide)
  rw [scanG] at h
  by_cases hh : ((l.drop (j + 1)).take (a - (j + 1))).head? = some 47
  · rw [if_pos (by rw [hh]; decide)] at h
    have hlt : j + 1 < a := by
      rcases Nat.lt_or_ge (j + 1) a with h1 | h1
      · exact h1
      · rw [show a - (j + 1) = 0 by omega] at hh; simp at hh
    refine ⟨hlt, ?_, h⟩
    rw [List.head?_take, if_neg (by omega), List.head?_drop] at hh
    exact hh
  · rw [if_neg (by simpa using hh), if_neg (by decide)] at h; cases h
theorem scan_plain {c : UInt8} {r : List UInt8} {fin : Bool} (h10 : ¬ c.toNat = 10) (hc : ¬ c.toNat = 47) (h : scanG false (c :: r) = some fin) : isSpace c = true ∧ scanG false r = some fin := by
  rw [scanG, if_neg (by
    have : c ≠ 47 := by rintro rfl; exact hc rfl
    simp [this])] at h
  split at h
  · exact ⟨by assumption, h⟩
  · cases h

set_option maxHeartbeats 1000000 in
theorem lexPlaces_long (s : ByteArray) (w : World) (hE : Env w) (hs : s.size ≤ 140737488351232) (hbig : 3000 < s.size) :
    Calls Tryd.prog 6 #[.string s] w fun e w' => e = .returned (.bool true) ∧ Below w.heap.size w w' := by
  have HE := Lib.hid hE; clear hE
  go_enter Tryd.func6, Tryd.ntmps6
  go_wp2_with (go_at_call 11; refine (sane_any _ HE.out).mono ?_; rintro e w1 ⟨rfl, b1⟩; have BW := Lib.hid b1; clear b1)
  go_ret
  exact ⟨rfl, BW.out⟩

set_option maxHeartbeats 1000000 in
theorem lexPlaces_err (s : ByteArray) (w : World) (hE : Env w) (hsz : s.size ≤ 3000) (p : Nat) (hok : lexAt 0 s.data.toList = .error p) :
    Calls Tryd.prog 6 #[.string s] w fun e w' => e = .returned (.bool true) ∧ Below w.heap.size w w' := by
  have HE := Lib.hid hE; clear hE
  have HK := Lib.hid hok; clear hok
  go_enter Tryd.func6, Tryd.ntmps6
  go_wp2_with fail
  refine (sane_any _ HE.out).mono ?_
  rintro e w1 ⟨rfl, b1⟩
  have BW := Lib.hid b1; clear b1
  go_wp2_with fail
  refine (lex_err s p w1 (HE.out.below BW.out) (by omega) HK.out).mono ?_
  rintro e w2 ⟨rfl, b2⟩
  replace BW := Lib.hid (BW.out.trans (b2.mono (by have := BW.out.size; omega)))
  clear b2
  go_wp2_with fail
  go_ret
  exact ⟨rfl, BW.out⟩

set_option maxRecDepth 100000 in
set_option maxHeartbeats 4000000 in
theorem lexPlaces_some (s : ByteArray) (w : World) (hE : Env w) (hsz : s.size ≤ 3000) (ts : List Tok) (n : Nat) (hn : ts.length = n) (hpos : 0 < n) (hok : lexAt 0 s.data.toList = .ok ts) :
    Calls Tryd.prog 6 #[.string s] w fun e w' => e = .returned (.bool true) ∧ Below w.heap.size w w' := by
  have HE := Lib.hid hE; clear hE
  have hlen := lexAt_len 0 _ _ hok
  rw [list_size, hn] at hlen
  have HVAL := Lib.hid (lexAt_valid 0 _ _ hok)
  have HN := Lib.hid hn; clear hn
  have HK := Lib.hid hok; clear hok
  go_enter Tryd.func6, Tryd.ntmps6
  go_wp2_with fail
  refine (sane_any _ HE.out).mono ?_
  rintro e w1 ⟨rfl, b1⟩
  have BW := Lib.hid b1; clear b1
  go_wp2_with fail
  refine (lex_some s ts n w1 (HE.out.below BW.out) (by omega) HK.out HN.out hpos).mono ?_
  rintro e w2 ⟨g, c, rfl, t1, l1, b2⟩
  have hz2 := b2.size
  replace BW := Lib.hid (BW.out.trans (b2.mono (by have := BW.out.size; omega)))
  clear b2
  have T1 := Lib.hid t1; clear t1
  go_wp2_with fail
  go_loopw [6, 7] (fun iv kv wr => ∃ i k : Nat, k ≤ n ∧ i ≤ s.size ∧ iv = .int .i64 i ∧ kv = .int .i64 k ∧ Hid (Below w2.heap.size w2 wr) ∧ Hid (lexAt i (s.data.toList.drop i) = .ok (ts.drop k))) (fun _ kv _ => n - (intOf kv).toNat)
  case atStart => exact ⟨0, 0, Nat.zero_le _, Nat.zero_le _, rfl, rfl, Lib.hid (Below.refl _ _), Lib.hid HK.out⟩
  case round =>
    obtain ⟨i, k, hk, hi, rfl, rfl, hbw, hlex⟩ := hrel
    by_cases hlt : k < n
    · obtain ⟨t, ht⟩ : ∃ t, ts[k]? = some t := ⟨_, List.getElem?_eq_getElem (by rw [HN.out]; exact hlt)⟩
      obtain ⟨p0, p1, p2, p3⟩ := T1.out.below hbw.out l1 k t ht
      rw [Nat.zero_add] at p0 p1 p2 p3
      have hv := List.all_eq_true.1 HVAL.out t (List.mem_of_getElem? ht)
      have HV := Lib.hid hv; clear hv
      have hd : ts.drop k = t :: ts.drop (k + 1) := by
        rw [List.drop_eq_getElem_cons (by rw [HN.out]; exact hlt)]
        congr 1
        have := List.getElem?_eq_some_iff.1 ht
        exact this.2
      have hl := hlex.out
      rw [hd] at hl
      obtain ⟨gp, rest, e1, e2, e3, e4, e5⟩ := next_tok i _ t _ hl
      have hto : ∃ a : Nat, a = i + gp.length := ⟨_, rfl⟩
      obtain ⟨a, ha⟩ := hto
      rw [← ha] at e2
      rw [e2] at p3
      have hsz2 : i + (gp.length + ((wordT t).length + rest.length)) = s.size := by
        have := congrArg List.length e1
        rw [List.length_drop, list_size, List.length_append, List.length_append] at this; omega
      have HT := Lib.hid ht; have E1 := Lib.hid e1; have E3 := Lib.hid e3; have E4 := Lib.hid e4; have E5 := Lib.hid e5; have E2 := Lib.hid e2
      clear ht hd hl e1 e2 e3 e4 e5
      have hlt' : (k : Int) < (n : Int) := by omega
      have hle' : (k : Int) ≤ (n : Int) := by omega
      have hk4 : k * 4 ≤ 12000 := by omega
      have ha1 : i ≤ a := by omega
      have ha2 : a ≤ s.size := by omega
      have hna : ¬ a < i := by omega
      have hnb : ¬ s.size < a := by omega
      have HA := Lib.hid ha; clear ha
      have hgap := Lib.hid (gap_front E1.out HA.out)
      go_wp2_with fail
      have q1 : decide (a < i) = false := by simpa using by omega
      have q2 : decide (s.size < a) = false := by simpa using by omega
      try simp only [q1, q2]
      clear q1 q2
      go_loopw [6, 9] (fun iv cv wr2 => ∃ (j : Nat) (b : Bool), wr = wr2 ∧ i ≤ j ∧ j ≤ a ∧ iv = .int .i64 j ∧ cv = .bool b ∧ Hid (scanG b ((s.data.toList.drop j).take (a - j)) = some false)) (fun iv _ _ => a - (intOf iv).toNat)
      case atStart => exact ⟨i, false, rfl, Nat.le_refl _, ha1, rfl, rfl, Lib.hid (by rw [hgap.out]; exact E3.out)⟩
      case round =>
        obtain ⟨j, b, rfl, hj1, hj2, rfl, rfl, hsc⟩ := hrel
        by_cases hja : j < a
        · have hb := Lib.hid (getElem_byte s j (by omega))
          have hjs : j < s.size := by omega
          have hja' : (j : Int) < (a : Int) := by omega
          have hrem := rem_cons hb.out hja
          have hs2 := hsc.out
          rw [hrem] at hs2
          have HS2 := Lib.hid hs2; clear hs2 hrem
          by_cases c10 : s[j].toNat = 10
          · have f1 : ((s[j].toNat : Int) == 10) = true := by simpa using by omega
            have f2 : ((s[j].toNat : Int) != 10) = false := by simpa using by omega
            have f3 : (cls s[j].toNat == 1) = true := by rw [c10]; rfl
            have C10 := Lib.hid c10; clear c10
            go_wp2_with (go_at_call 22; refine (refSpace_any _ _).mono ?_; rintro e w' ⟨rfl, rfl⟩)
            go_roundw
            case rel => exact ⟨j + 1, false, by trivial, by omega, by omega, by go_num, rfl, Lib.hid (scan_line C10.out HS2.out)⟩
            case measure => simp [intOf]; omega
          · have f1 : ((s[j].toNat : Int) == 10) = false := by simpa using by omega
            have f2 : ((s[j].toNat : Int) != 10) = true := by simpa using by omega
            have C10 := Lib.hid c10; clear c10
            cases b with
            | true =>
              go_wp2_with (go_at_call 22; refine (refSpace_any _ _).mono ?_; rintro e w' ⟨rfl, rfl⟩)
              go_roundw
              case rel => exact ⟨j + 1, true, by trivial, by omega, by omega, by go_num, rfl, Lib.hid (scan_open C10.out HS2.out)⟩
              case measure => simp [intOf]; omega
            | false =>
              by_cases c47 : s[j].toNat = 47
              · have f3 : ((s[j].toNat : Int) == 47) = true := by simpa using by omega
                obtain ⟨hj1a, hs1, hcl⟩ := scan_slash (j := j) c47 HS2.out
                have hj1a' : (j : Int) + 1 < (a : Int) := by omega
                have hjs1 : j + 1 < s.size := by omega
                have f4 : ((s[j + 1].toNat : Int) == 47) = true := by
                  have := getElem_byte s (j + 1) hjs1
                  rw [this] at hs1; injection hs1 with hs1
                  rw [hs1]; rfl
                have CL := Lib.hid hcl; clear hcl c47 hs1
                go_wp2_with (go_at_call 22; refine (refSpace_any _ _).mono ?_; rintro e w' ⟨rfl, rfl⟩)
                go_roundw
                case rel => exact ⟨j + 1, true, by trivial, by omega, by omega, by go_num, rfl, Lib.hid CL.out⟩
                case measure => simp [intOf]; omega
              · have f3 : ((s[j].toNat : Int) == 47) = false := by simpa using by omega
                obtain ⟨hsp, hcl⟩ := scan_plain C10.out c47 HS2.out
                have f4 : (cls s[j].toNat == 1) = true := hsp
                have CL := Lib.hid hcl; clear hcl c47 hsp
                go_wp2_with (go_at_call 22; refine (refSpace_any _ _).mono ?_; rintro e w' ⟨rfl, rfl⟩)
                go_roundw
                case rel => exact ⟨j + 1, false, by trivial, by omega, by omega, by go_num, rfl, Lib.hid CL.out⟩
                case measure => simp [intOf]; omega
        · obtain rfl : j = a := by omega
          have hin : ¬ (j : Int) < (j : Int) := by omega
          have hbf : b = false := by
            have := hsc.out
            rw [Nat.sub_self, List.take_zero] at this
            simpa [scanG] using this
          subst hbf
          have hw1 := word_at E1.out HA.out E5.out
          obtain ⟨hwl, hwx⟩ := hw1
          have hwl2 : j + (wordT t).length ≤ s.size := by have := HA.out; omega
          have HP := Lib.hid (show t.pos = (j : Int) from E2.out)
          have hcall := spelled_any t HV.out
          rw [HP.out] at hcall
          generalize hlw : (wordT t).length = lw at *
          have HLW := Lib.hid hlw; clear hlw
          have hsize : (⟨(wordT t).toArray⟩ : ByteArray).size = lw := by rw [size_mk]; exact HLW.out
          have HSIZE := Lib.hid hsize
          have z1 : ((lw : Int) == 0) = false := by simpa using by omega
          have z2 : (j : Int) + (lw : Int) ≤ (s.size : Int) := by omega
          have z3 : (0 : Int) ≤ (j : Int) + (lw : Int) := by omega
          have z4 : (j : Int) ≤ (j : Int) + (lw : Int) := by omega
          generalize (⟨(wordT t).toArray⟩ : ByteArray) = word at *
          have HC := Lib.hid hcall; clear hcall
          go_wp2_with (go_at_call 23; refine (HC.out _).mono ?_; rintro e w5 ⟨rfl, b5⟩; have B5 := Lib.hid b5; clear b5)
          go_roundw
          case rel =>
            refine ⟨j + lw, k + 1, by omega, by omega, by go_num, by go_num, Lib.hid (hbw.out.trans (B5.out.mono hbw.out.size)), Lib.hid ?_⟩
            have e4 := E4.out
            rw [← HA.out] at e4
            rw [← e4, ← drop_word E1.out HA.out, HLW.out]
          case measure => simp [intOf]; omega
    · obtain rfl : k = n := by omega
      have hd : ts.drop k = [] := List.drop_of_length_le (by rw [HN.out]; exact Nat.le_refl _)
      have hl := hlex.out
      rw [hd] at hl
      obtain ⟨fin, hfin⟩ := no_tok i _ hl
      have HFIN := Lib.hid hfin; clear hd hl hfin
      have ha1 := hi
      have hna : ¬ s.size < i := by omega
      have hnb : ¬ s.size < s.size := by omega
      have hin1 : ¬ (k : Int) < (k : Int) := by omega
      have hgap := Lib.hid (show (s.data.toList.drop i).take (s.size - i) = s.data.toList.drop i from List.take_of_length_le (by rw [List.length_drop, list_size]; exact Nat.le_refl _))
      go_wp2_with fail
      have q1 : decide (s.size < i) = false := by simpa using by omega
      have q2 : decide (s.size < s.size) = false := by simp
      try simp only [q1, q2]
      clear q1 q2
      go_loopw [6, 9] (fun iv cv wr2 => ∃ (j : Nat) (b : Bool), wr = wr2 ∧ i ≤ j ∧ j ≤ s.size ∧ iv = .int .i64 j ∧ cv = .bool b ∧ Hid (scanG b ((s.data.toList.drop j).take (s.size - j)) = some fin)) (fun iv _ _ => s.size - (intOf iv).toNat)
      case atStart => exact ⟨i, false, rfl, Nat.le_refl _, ha1, rfl, rfl, Lib.hid (by rw [hgap.out]; exact HFIN.out)⟩
      case round =>
        obtain ⟨j, b, rfl, hj1, hj2, rfl, rfl, hsc⟩ := hrel
        by_cases hja : j < s.size
        · have hb := Lib.hid (getElem_byte s j (by omega))
          have hjs : j < s.size := by omega
          have hja' : (j : Int) < (s.size : Int) := by omega
          have hrem := rem_cons hb.out hja
          have hs2 := hsc.out
          rw [hrem] at hs2
          have HS2 := Lib.hid hs2; clear hs2 hrem
          by_cases c10 : s[j].toNat = 10
          · have f1 : ((s[j].toNat : Int) == 10) = true := by simpa using by omega
            have f2 : ((s[j].toNat : Int) != 10) = false := by simpa using by omega
            have f3 : (cls s[j].toNat == 1) = true := by rw [c10]; rfl
            have C10 := Lib.hid c10; clear c10
            go_wp2_with (go_at_call 22; refine (refSpace_any _ _).mono ?_; rintro e w' ⟨rfl, rfl⟩)
            go_roundw
            case rel => exact ⟨j + 1, false, by trivial, by omega, by omega, by go_num, rfl, Lib.hid (scan_line C10.out HS2.out)⟩
            case measure => simp [intOf]; omega
          · have f1 : ((s[j].toNat : Int) == 10) = false := by simpa using by omega
            have f2 : ((s[j].toNat : Int) != 10) = true := by simpa using by omega
            have C10 := Lib.hid c10; clear c10
            cases b with
            | true =>
              go_wp2_with (go_at_call 22; refine (refSpace_any _ _).mono ?_; rintro e w' ⟨rfl, rfl⟩)
              go_roundw
              case rel => exact ⟨j + 1, true, by trivial, by omega, by omega, by go_num, rfl, Lib.hid (scan_open C10.out HS2.out)⟩
              case measure => simp [intOf]; omega
            | false =>
              by_cases c47 : s[j].toNat = 47
              · have f3 : ((s[j].toNat : Int) == 47) = true := by simpa using by omega
                obtain ⟨hj1a, hs1, hcl⟩ := scan_slash (j := j) c47 HS2.out
                have hj1a' : (j : Int) + 1 < (s.size : Int) := by omega
                have hjs1 : j + 1 < s.size := by omega
                have f4 : ((s[j + 1].toNat : Int) == 47) = true := by
                  have := getElem_byte s (j + 1) hjs1
                  rw [this] at hs1; injection hs1 with hs1
                  rw [hs1]; rfl
                have CL := Lib.hid hcl; clear hcl c47 hs1
                go_wp2_with (go_at_call 22; refine (refSpace_any _ _).mono ?_; rintro e w' ⟨rfl, rfl⟩)
                go_roundw
                case rel => exact ⟨j + 1, true, by trivial, by omega, by omega, by go_num, rfl, Lib.hid CL.out⟩
                case measure => simp [intOf]; omega
              · have f3 : ((s[j].toNat : Int) == 47) = false := by simpa using by omega
                obtain ⟨hsp, hcl⟩ := scan_plain C10.out c47 HS2.out
                have f4 : (cls s[j].toNat == 1) = true := hsp
                have CL := Lib.hid hcl; clear hcl c47 hsp
                go_wp2_with (go_at_call 22; refine (refSpace_any _ _).mono ?_; rintro e w' ⟨rfl, rfl⟩)
                go_roundw
                case rel => exact ⟨j + 1, false, by trivial, by omega, by omega, by go_num, rfl, Lib.hid CL.out⟩
                case measure => simp [intOf]; omega
        · obtain rfl : j = s.size := by omega
          have hin : ¬ (s.size : Int) < (s.size : Int) := by omega
          go_wp2_with fail
          go_ret
          exact ⟨rfl, BW.out.trans (hbw.out.mono (by have := BW.out.size; omega))⟩

set_option maxHeartbeats 4000000 in
set_option maxRecDepth 100000 in
theorem lexPlaces_none (s : ByteArray) (w : World) (hE : Env w) (hsz : s.size ≤ 3000) (hok : lexAt 0 s.data.toList = .ok []) :
    Calls Tryd.prog 6 #[.string s] w fun e w' => e = .returned (.bool true) ∧ Below w.heap.size w w' := by
  have HE := Lib.hid hE; clear hE
  have HK := Lib.hid hok; clear hok
  go_enter Tryd.func6, Tryd.ntmps6
  go_wp2_with fail
  refine (sane_any _ HE.out).mono ?_
  rintro e w1 ⟨rfl, b1⟩
  have BW := Lib.hid b1; clear b1
  go_wp2_with fail
  refine (lex_none s w1 (HE.out.below BW.out) (by omega) HK.out).mono ?_
  rintro e w2 ⟨ao, c, rfl, b2⟩
  replace BW := Lib.hid (BW.out.trans (b2.mono (by have := BW.out.size; omega)))
  clear b2
  go_wp2_with fail
  go_loopw [6, 7] (fun iv kv wr => ∃ i : Nat, i ≤ s.size ∧ iv = .int .i64 i ∧ kv = .int .i64 0 ∧ Hid (Below w2.heap.size w2 wr) ∧ Hid (lexAt i (s.data.toList.drop i) = .ok [])) (fun _ kv _ => 0)
  case atStart => exact ⟨0, Nat.zero_le _, rfl, rfl, Lib.hid (Below.refl _ _), Lib.hid HK.out⟩
  case round =>
    obtain ⟨i, hi, rfl, rfl, hbw, hlex⟩ := hrel
    obtain ⟨fin, hfin⟩ := no_tok i _ hlex.out
    have HFIN := Lib.hid hfin; clear hfin
    have ha1 := hi
    have hna : ¬ s.size < i := by omega
    have hnb : ¬ s.size < s.size := by omega
    have hgap := Lib.hid (show (s.data.toList.drop i).take (s.size - i) = s.data.toList.drop i from List.take_of_length_le (by rw [List.length_drop, list_size]; exact Nat.le_refl _))
    go_wp2_with fail
    have q1 : decide (s.size < i) = false := by simpa using by omega
    have q2 : decide (s.size < s.size) = false := by simp
    try simp only [q1, q2]
    clear q1 q2
    go_loopw [6, 9] (fun iv cv wr2 => ∃ (j : Nat) (b : Bool), wr = wr2 ∧ i ≤ j ∧ j ≤ s.size ∧ iv = .int .i64 j ∧ cv = .bool b ∧ Hid (scanG b ((s.data.toList.drop j).take (s.size - j)) = some fin)) (fun iv _ _ => s.size - (intOf iv).toNat)
    case atStart => exact ⟨i, false, rfl, Nat.le_refl _, ha1, rfl, rfl, Lib.hid (by rw [hgap.out]; exact HFIN.out)⟩
    case round =>
      obtain ⟨j, b, rfl, hj1, hj2, rfl, rfl, hsc⟩ := hrel
      by_cases hja : j < s.size
      · have hb := Lib.hid (getElem_byte s j (by omega))
        have hjs : j < s.size := by omega
        have hja' : (j : Int) < (s.size : Int) := by omega
        have hrem := rem_cons hb.out hja
        have hs2 := hsc.out
        rw [hrem] at hs2
        have HS2 := Lib.hid hs2; clear hs2 hrem
        by_cases c10 : s[j].toNat = 10
        · have f1 : ((s[j].toNat : Int) == 10) = true := by simpa using by omega
          have f2 : ((s[j].toNat : Int) != 10) = false := by simpa using by omega
          have f3 : (cls s[j].toNat == 1) = true := by rw [c10]; rfl
          have C10 := Lib.hid c10; clear c10
          go_wp2_with (go_at_call 22; refine (refSpace_any _ _).mono ?_; rintro e w' ⟨rfl, rfl⟩)
          go_roundw
          case rel => exact ⟨j + 1, false, by trivial, by omega, by omega, by go_num, rfl, Lib.hid (scan_line C10.out HS2.out)⟩
          case measure => simp [intOf]; omega
        · have f1 : ((s[j].toNat : Int) == 10) = false := by simpa using by omega
          have f2 : ((s[j].toNat : Int) != 10) = true := by simpa using by omega
          have C10 := Lib.hid c10; clear c10
          cases b with
          | true =>
            go_wp2_with (go_at_call 22; refine (refSpace_any _ _).mono ?_; rintro e w' ⟨rfl, rfl⟩)
            go_roundw
            case rel => exact ⟨j + 1, true, by trivial, by omega, by omega, by go_num, rfl, Lib.hid (scan_open C10.out HS2.out)⟩
            case measure => simp [intOf]; omega
          | false =>
            by_cases c47 : s[j].toNat = 47
            · have f3 : ((s[j].toNat : Int) == 47) = true := by simpa using by omega
              obtain ⟨hj1a, hs1, hcl⟩ := scan_slash (j := j) c47 HS2.out
              have hj1a' : (j : Int) + 1 < (s.size : Int) := by omega
              have hjs1 : j + 1 < s.size := by omega
              have f4 : ((s[j + 1].toNat : Int) == 47) = true := by
                have := getElem_byte s (j + 1) hjs1
                rw [this] at hs1; injection hs1 with hs1
                rw [hs1]; rfl
              have CL := Lib.hid hcl; clear hcl c47 hs1
              go_wp2_with (go_at_call 22; refine (refSpace_any _ _).mono ?_; rintro e w' ⟨rfl, rfl⟩)
              go_roundw
              case rel => exact ⟨j + 1, true, by trivial, by omega, by omega, by go_num, rfl, Lib.hid CL.out⟩
              case measure => simp [intOf]; omega
            · have f3 : ((s[j].toNat : Int) == 47) = false := by simpa using by omega
              obtain ⟨hsp, hcl⟩ := scan_plain C10.out c47 HS2.out
              have f4 : (cls s[j].toNat == 1) = true := hsp
              have CL := Lib.hid hcl; clear hcl c47 hsp
              go_wp2_with (go_at_call 22; refine (refSpace_any _ _).mono ?_; rintro e w' ⟨rfl, rfl⟩)
              go_roundw
              case rel => exact ⟨j + 1, false, by trivial, by omega, by omega, by go_num, rfl, Lib.hid CL.out⟩
              case measure => simp [intOf]; omega
      · obtain rfl : j = s.size := by omega
        have hin : ¬ (s.size : Int) < (s.size : Int) := by omega
        go_wp2_with fail
        go_ret
        exact ⟨rfl, BW.out.trans (hbw.out.mono (by have := BW.out.size; omega))⟩

theorem lexPlaces_any (s : ByteArray) (w : World) (hE : Env w) (hs : s.size ≤ 140737488351232) :
    Calls Tryd.prog 6 #[.string s] w fun e w' => e = .returned (.bool true) ∧ Below w.heap.size w w' := by
  by_cases hbig : 3000 < s.size
  · exact lexPlaces_long s w hE hs hbig
  cases h : lexAt 0 s.data.toList with
  | error p => exact lexPlaces_err s w hE (by omega) p h
  | ok ts =>
    cases ts with
    | nil => exact lexPlaces_none s w hE (by omega) h
    | cons t r => exact lexPlaces_some s w hE (by omega) (t :: r) _ rfl (by simp) h
end Go.Proofs.YtabdpmcdlojliaaDoor
