/- The contract of the reference's Text. -/
import Derived.Test.YtabdpmcdlojliaaDoorJ3
namespace Go.Proofs.YtabdpmcdlojliaaDoor
open Go.RowKit

theorem textL_snoc : ∀ (ts : List Tok) (x : Tok), ts ≠ [] → textL (ts ++ [x]) = textL ts ++ 32 :: wordT x
  | [], _, h => absurd rfl h
  | [t], x, _ => by unfold textL; simp [Lib.join, List.intercalate]
  | t :: u :: r, x, _ => by
    have e1 : textL (t :: u :: r ++ [x]) = wordT t ++ 32 :: textL (u :: r ++ [x]) := by unfold textL; simp [Lib.join, List.intercalate]
    have e2 : textL (t :: u :: r) = wordT t ++ 32 :: textL (u :: r) := by unfold textL; simp [Lib.join, List.intercalate]
    rw [e1, textL_snoc (u :: r) x (by simp), e2]; simp
theorem textL_one (x : Tok) : textL [x] = wordT x := by unfold textL; rw [List.map_cons, List.map_nil, Lib.join_one]
theorem bytes_of {s : ByteArray} {l : List UInt8} (h : s.data.toList = l) : s = ⟨l.toArray⟩ := by subst h; cases s; simp

theorem text_more {s : ByteArray} {A : List Tok} {t : Tok} {l : List UInt8} (hs : s.data.toList = textL A) (hA : A ≠ []) (hl : wordT t = l) : (s ++ ⟨#[32]⟩ ++ ⟨l.toArray⟩).data.toList = textL (A ++ [t]) := by
  rw [textL_snoc A t hA, ← hs, hl]; simp
theorem text_first {s : ByteArray} {ts : List Tok} {t : Tok} {l : List UInt8} (hs : s.data.toList = textL (ts.take 0)) (hl : wordT t = l) : (s ++ ⟨l.toArray⟩).data.toList = textL (ts.take 0 ++ [t]) := by
  rw [List.take_zero] at hs ⊢
  rw [List.nil_append, textL_one, hl, ByteArray.data_append, Array.toList_append, hs]; rfl
theorem take_ne {ts : List Tok} {k : Nat} (hk : 0 < k) (hl : 0 < ts.length) : ts.take k ≠ [] := by
  intro e
  have := congrArg List.length e
  rw [List.length_take, List.length_nil] at this; omega

set_option maxRecDepth 100000 in
set_option maxHeartbeats 2000000 in
theorem rtext_some (b o c : Nat) (ts : List Tok) (w : World) (h1 : TokAt w b o ts) (hb : b < w.heap.size) (hn : ts.length ≤ 65536) (hsh : ∀ t ∈ ts, t.text.length ≤ maxLen) :
    Calls Tryd.prog 17 #[.slice (some ⟨b, o, none⟩) ts.length c] w (TextPost ts w) := by
  have H1 := Lib.hid h1; have HSH := Lib.hid hsh; clear h1 hsh
  generalize hnn : ts.length = n at *
  have HN := Lib.hid hnn; clear hnn
  go_enter Tryd.func17, Tryd.ntmps17
  go_wp2_with fail
  go_loopw [4, 5] (fun sv i wr => ∃ (k : Nat) (s : ByteArray), k ≤ n ∧ i = .int .i64 k ∧ sv = .string s ∧ Hid (Below w.heap.size w wr) ∧ Hid (s.data.toList = textL (ts.take k)) ∧ Hid ((ts.take k).all validT = true)) (fun _ i _ => n - (intOf i).toNat)
  case atStart => exact ⟨0, _, Nat.zero_le _, rfl, rfl, Lib.hid (Below.refl _ _), Lib.hid rfl, Lib.hid rfl⟩
  case round =>
    obtain ⟨k, s, hk, rfl, rfl, HB, hs, hall⟩ := hrel
    have hssz : s.size ≤ 33 * 65536 := by
      have := textL_len hall.out
      rw [← hs.out, list_size', List.length_take] at this; omega
    have hbs := HB.out.size
    by_cases hlt : k < n
    · obtain ⟨t, ht⟩ : ∃ t, ts[k]? = some t := ⟨_, List.getElem?_eq_getElem (by rw [HN.out]; exact hlt)⟩
      have hts : (⟨t.text.toArray⟩ : ByteArray).size ≤ maxLen := by rw [size_mk]; exact HSH.out t (List.mem_of_getElem? ht)
      have hlt' : (k : Int) < (n : Int) := by omega
      have htk : ts.take (k + 1) = ts.take k ++ [t] := by rw [List.take_add_one, ht]; rfl
      have HT := Lib.hid ht; have HTK := Lib.hid htk; clear htk
      have H1w := Lib.hid (H1.out.below HB.out hb)
      obtain ⟨p0, p1, p2, p3⟩ := H1w.out k t ht
      clear ht
      go_wp2_with fail
      refine (rvalid_any t.kind ⟨t.text.toArray⟩ t.num t.pos _ hts).mono ?_
      rintro e w2 ⟨rfl, hb2⟩
      have hz2 := hb2.size
      clear p0 p1 p2 p3
      obtain ⟨p0, p1, p2, p3⟩ := H1w.out.below hb2 (by omega) k t HT.out
      have HB2 := Lib.hid (HB.out.trans (hb2.mono (by omega)))
      clear hb2
      rw [show (⟨t.text.toArray⟩ : ByteArray).data.toList = t.text from rfl, show (⟨t.kind, t.text, t.num, t.pos⟩ : Tok) = t from rfl]
      by_cases hv : validT t = true
      · rw [hv]
        have HV := Lib.hid hv; clear hv
        have hwl := wordT_len HV.out
        have HALL := Lib.hid (valid_words HT.out hall.out HV.out)
        by_cases h2 : t.kind = 2
        · have hk2 : (t.kind == 2) = true := by simpa using h2
          have hr := validT_num_range HV.out h2
          obtain ⟨u, hu⟩ : ∃ u : Nat, t.num = u := Int.eq_ofNat_of_zero_le hr.1
          have HWT := Lib.hid (show wordT t = Lib.decDigits u by unfold wordT; rw [if_pos h2, hu]; exact Lib.itoa_nonneg u)
          rw [hu] at p2 hr
          have hul : (Lib.decDigits u).length ≤ 32 := by rw [← HWT.out]; exact hwl
          clear h2 hu
          by_cases hk0 : 0 < k
          · go_wp2_with (go_at_call 40; refine (decimal_any u (by omega) _).mono ?_; rintro e w3 ⟨rfl, hb3⟩; have HB3 := Lib.hid (HB2.out.trans (hb3.mono (by omega))); clear hb3)
            go_roundw
            case rel => exact ⟨k + 1, _, by omega, by go_num, rfl, HB3, Lib.hid (by rw [HTK.out]; exact text_more hs.out (take_ne hk0 (by rw [HN.out]; omega)) HWT.out), HALL⟩
            case measure => simp [intOf]; omega
          · obtain rfl : k = 0 := by omega
            simp only [Nat.zero_mul, Nat.add_zero] at p0 p1 p2 p3
            go_wp2_with (go_at_call 40; refine (decimal_any u (by omega) _).mono ?_; rintro e w3 ⟨rfl, hb3⟩; have HB3 := Lib.hid (HB2.out.trans (hb3.mono (by omega))); clear hb3)
            go_roundw
            case rel => exact ⟨0 + 1, _, by omega, by go_num, rfl, HB3, Lib.hid (by rw [HTK.out]; exact text_first hs.out HWT.out), HALL⟩
            case measure => simp [intOf]; omega
        · have hk2 : (t.kind == 2) = false := by simpa using h2
          have HWT := Lib.hid (show wordT t = t.text by unfold wordT; rw [if_neg h2])
          have hul : t.text.length ≤ 32 := by rw [← HWT.out]; exact hwl
          clear h2
          by_cases hk0 : 0 < k
          · go_wp2_with fail
            go_roundw
            case rel => exact ⟨k + 1, _, by omega, by go_num, rfl, HB2, Lib.hid (by rw [HTK.out]; exact text_more hs.out (take_ne hk0 (by rw [HN.out]; omega)) HWT.out), HALL⟩
            case measure => simp [intOf]; omega
          · obtain rfl : k = 0 := by omega
            simp only [Nat.zero_mul, Nat.add_zero] at p0 p1 p2 p3
            go_wp2_with fail
            go_roundw
            case rel => exact ⟨0 + 1, _, by omega, by go_num, rfl, HB2, Lib.hid (by rw [HTK.out]; exact text_first hs.out HWT.out), HALL⟩
            case measure => simp [intOf]; omega
      · have hv' : validT t = false := by simpa using hv
        rw [hv']
        have HV := Lib.hid hv'
        clear hv hv'
        go_wp2_with fail
        go_ret2
        refine ⟨?_, HB2.out⟩
        rw [not_all HT.out HV.out]; rfl
    · obtain rfl : k = n := by omega
      have hin : ¬ (k : Int) < (k : Int) := by omega
      have hav := hall.out
      have hst := hs.out
      rw [List.take_of_length_le (by rw [HN.out]; omega)] at hav hst
      have HAV := Lib.hid hav; have HST := Lib.hid (bytes_of hst); clear hav hst
      go_wp2_with fail
      go_ret2
      refine ⟨?_, HB.out⟩
      rw [HAV.out, if_pos rfl, HST.out]; rfl

set_option maxHeartbeats 1000000 in
theorem rtext_zero (ao : Option Addr) (c : Nat) (w : World) :
    Calls Tryd.prog 17 #[.slice ao 0 c] w (TextPost [] w) := by
  go_enter Tryd.func17, Tryd.ntmps17
  go_wp2_with fail
  go_loop [4, 5] (fun sv i => i = .int .i64 0 ∧ sv = .string ⟨#[]⟩) (fun _ _ => 0)
  case atStart => exact ⟨rfl, rfl⟩
  case round =>
    obtain ⟨rfl, rfl⟩ := hrel
    go_wp2_with fail
    go_ret2
    exact ⟨rfl, Below.refl _ _⟩

theorem rtext_any (v : Value) (ts : List Tok) (w : World) (h1 : IsToks w v ts) (hn : ts.length ≤ 65536) (hsh : ∀ t ∈ ts, t.text.length ≤ maxLen) :
    Calls Tryd.prog 17 #[v] w (TextPost ts w) := by
  rcases h1 with ⟨ao, c, rfl, rfl⟩ | ⟨b, o, c, rfl, t1, l1⟩
  · exact rtext_zero ao c w
  · exact rtext_some b o c ts w t1 l1 hn hsh
end Go.Proofs.YtabdpmcdlojliaaDoor
