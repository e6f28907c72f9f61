/- The contract of the reference's Lex. -/
import Derived.Test.YtabdpmcdlojliaaDoorH1
import Derived.Test.YtabdpmcdlojliaaDoorJ5
import Derived.Test.YtabdpmcdlojliaaDoorP7
namespace Go.Proofs.YtabdpmcdlojliaaDoor
open Go.RowKit

/-- What holds at the head of each round. -/
def RefInv (src : ByteArray) (S : Nat) (W wr : World) (v : Value) (a : Nat) : Prop := ∃ ts : List Tok, ts.length ≤ a ∧ wr.ownsRow S 35 4 v ts.length (cellsOf ts) ∧ Below S W wr ∧ lexAt 0 src.data.toList = addToks ts (lexAt a (src.data.toList.drop a))

theorem inv_space {src : ByteArray} {S : Nat} {W wr : World} {v : Value} {a : Nat} {c : UInt8} (h : RefInv src S W wr v a) (hd : src.data.toList.drop a = c :: src.data.toList.drop (a + 1)) (hc : (cls c.toNat == 1) = true) : RefInv src S W wr v (a + 1) := by
  obtain ⟨ts, h1, h2, h3, h4⟩ := h
  refine ⟨ts, by omega, h2, h3, ?_⟩
  rw [h4, hd, lexAt_space1 hc]

theorem inv_wrong {src : ByteArray} {S : Nat} {W wr : World} {v : Value} {a : Nat} {c : UInt8} (h : RefInv src S W wr v a) (hd : src.data.toList.drop a = c :: src.data.toList.drop (a + 1))
    (h1 : (cls c.toNat == 1) = false) (h2 : (cls c.toNat == 2) = false) (h3 : (cls c.toNat == 3) = false) (h4 : (cls c.toNat == 4) = false) : Below S W wr ∧ lexAt 0 src.data.toList = .error a := by
  obtain ⟨ts, _, _, h6, h7⟩ := h
  refine ⟨h6, ?_⟩
  rw [h7, hd, lexAt_wrong h1 h2 h3 h4]; rfl
theorem inv_tok {src : ByteArray} {S : Nat} {W w6 : World} {v' : Value} {a b : Nat} {ts : List Tok} {t : Tok} {sx : ByteArray} (hab : a < b) (h1 : ts.length ≤ a) (h4 : lexAt 0 src.data.toList = addToks ts (lexAt a (src.data.toList.drop a)))
    (ho : w6.ownsRow S 35 4 v' (ts.length + 1) (cellsOf ts ++ [.int .i64 t.kind, .string sx, .int .i64 t.num, .int .i64 t.pos])) (hb : Below S W w6) (hx : sx = ⟨t.text.toArray⟩)
    (ht : lexAt a (src.data.toList.drop a) = consT t (lexAt b (src.data.toList.drop b))) : RefInv src S W w6 v' b := by
  refine ⟨ts ++ [t], by simp; omega, ?_, hb, by rw [h4, ht, addToks_cons]⟩
  rw [cellsOf_snoc, List.length_append]
  subst hx; exact ho
theorem one_byte {src : ByteArray} {a : Nat} {c : UInt8} (h : src.data.toList[a]? = some c) : src.extract a (a + 1) = ⟨[c].toArray⟩ := by
  rw [extract_list, drop_cons h, show a + 1 - a = 1 by omega]; rfl
theorem inv_comment {src : ByteArray} {S : Nat} {W wr : World} {v : Value} {a j : Nat} {c : UInt8} (h : RefInv src S W wr v a) (hd : src.data.toList.drop a = c :: src.data.toList.drop (a + 1)) (hs : isSign c = true)
    (hcom : (src.data.toList.drop a).take 2 = [47, 47]) (h1 : a ≤ j) (h2 : j ≤ src.size) (hall : ((src.data.toList.drop a).take (j - a)).all (· != 10) = true) (hstop : ∀ c, src.data.toList[j]? = some c → c = 10) : RefInv src S W wr v j := by
  obtain ⟨ts, h3, h4, h5, h6⟩ := h
  have hr : runLen (· != 10) (src.data.toList.drop a) = j - a := takeWhile_all _ _ (by rw [List.length_drop, list_size]; omega) hall (fun c hc => by
    rw [List.getElem?_drop, show a + (j - a) = j by omega] at hc
    rw [hstop c hc]; rfl)
  refine ⟨ts, by omega, h4, h5, ?_⟩
  rw [h6]
  have := lexAt_comment (a := a) hs (by rw [← hd]; exact hcom)
  rw [← hd, hr, List.drop_drop, show a + (j - a) = j by omega] at this
  rw [this]
theorem run_len {p : UInt8 → Bool} {src : ByteArray} {a j : Nat} (h1 : a ≤ j) (h2 : j ≤ src.size) (hall : ((src.data.toList.drop a).take (j - a)).all p = true) (hstop : ∀ c, src.data.toList[j]? = some c → p c = false) : runLen p (src.data.toList.drop a) = j - a :=
  takeWhile_all _ _ (by rw [List.length_drop, list_size]; omega) hall (fun c hc => by
    rw [List.getElem?_drop, show a + (j - a) = j by omega] at hc
    exact hstop c hc)
theorem name_pos {src : ByteArray} {a j : Nat} {c : UInt8} (hc : (cls c.toNat == 2) = true) (hd : src.data.toList.drop a = c :: src.data.toList.drop (a + 1)) (hr : runLen isPart (src.data.toList.drop a) = j - a) : a < j := by
  rw [hd, runLen_cons_pos (isPart_letter hc)] at hr; omega
theorem run_name_bad {src : ByteArray} {a j : Nat} {c : UInt8} (hc : (cls c.toNat == 2) = true) (hd : src.data.toList.drop a = c :: src.data.toList.drop (a + 1)) (hr : runLen isPart (src.data.toList.drop a) = j - a)
    (hok : nameOk (src.extract a j).data.toList = false) : lexAt a (src.data.toList.drop a) = .error a := by
  rw [extract_list] at hok
  have := lexAt_name_bad (a := a) (c := c) (r := src.data.toList.drop (a + 1)) hc (by rw [← hd, hr]; exact hok)
  rwa [← hd] at this
theorem run_name_good {src : ByteArray} {a j : Nat} {c : UInt8} (hc : (cls c.toNat == 2) = true) (hd : src.data.toList.drop a = c :: src.data.toList.drop (a + 1)) (hr : runLen isPart (src.data.toList.drop a) = j - a)
    (hok : nameOk (src.extract a j).data.toList = true) : lexAt a (src.data.toList.drop a) = consT ⟨1, (src.data.toList.drop a).take (j - a), 0, a⟩ (lexAt j (src.data.toList.drop j)) := by
  have hp := name_pos hc hd hr
  rw [extract_list] at hok
  have := lexAt_name (a := a) (c := c) (r := src.data.toList.drop (a + 1)) hc (by rw [← hd, hr]; exact hok)
  rw [← hd, hr, List.drop_drop, show a + (j - a) = j by omega] at this
  exact this
theorem fig_pos {src : ByteArray} {a j : Nat} {c : UInt8} (hc : (cls c.toNat == 3) = true) (hd : src.data.toList.drop a = c :: src.data.toList.drop (a + 1)) (hr : runLen isDigit (src.data.toList.drop a) = j - a) : a < j := by
  rw [hd, runLen_cons_pos hc] at hr; omega
theorem fig_bad {src : ByteArray} {a j : Nat} {c : UInt8} (hc : (cls c.toNat == 3) = true) (hd : src.data.toList.drop a = c :: src.data.toList.drop (a + 1)) (hr : runLen isDigit (src.data.toList.drop a) = j - a)
    (hok : numOk (src.extract a j).data.toList = false) : lexAt a (src.data.toList.drop a) = .error a := by
  rw [extract_list] at hok
  have := lexAt_number_bad (a := a) (c := c) (r := src.data.toList.drop (a + 1)) hc (by rw [← hd, hr]; exact hok)
  rwa [← hd] at this
theorem fig_good {src : ByteArray} {a j : Nat} {c : UInt8} {z : Int} (hc : (cls c.toNat == 3) = true) (hd : src.data.toList.drop a = c :: src.data.toList.drop (a + 1)) (hr : runLen isDigit (src.data.toList.drop a) = j - a)
    (hok : numOk (src.extract a j).data.toList = true) (hz : z = value (src.extract a j).data.toList) : lexAt a (src.data.toList.drop a) = consT ⟨2, [], z, a⟩ (lexAt j (src.data.toList.drop j)) := by
  have hp := fig_pos hc hd hr
  rw [extract_list] at hok hz
  have := lexAt_number (a := a) (c := c) (r := src.data.toList.drop (a + 1)) hc (by rw [← hd, hr]; exact hok)
  rw [← hd, hr, List.drop_drop, show a + (j - a) = j by omega] at this
  rw [hz]; exact this
theorem fig_all {src : ByteArray} {a j : Nat} (h : ((src.data.toList.drop a).take (j - a)).all isDigit = true) : (src.extract a j).data.toList.all isDigit = true := by
  rw [extract_list]; exact h
theorem is_comment {src : ByteArray} {a : Nat} (ha : a < src.size) (ha1 : a + 1 < src.size) (h : src[a].toNat = 47) (h' : src[a + 1].toNat = 47) : (src.data.toList.drop a).take 2 = [47, 47] := by
  rw [drop_cons (getElem_byte src a ha), drop_cons (getElem_byte src (a + 1) ha1)]
  have e1 : src[a] = 47 := by rw [← UInt8.toNat_inj, h]; rfl
  have e2 : src[a + 1] = 47 := by rw [← UInt8.toNat_inj, h']; rfl
  rw [e1, e2]; rfl
theorem not_comment {src : ByteArray} {a : Nat} {ha : a < src.size} (h : ¬ (src[a].toNat = 47 ∧ ∃ h : a + 1 < src.size, src[a + 1].toNat = 47)) : ¬ (src.data.toList.drop a).take 2 = [47, 47] := by
  intro e
  rw [drop_cons (getElem_byte src a ha)] at e
  have e1 : src[a] = 47 := cl_sign_47 rfl e
  rw [e1] at e
  have e2 : (src.data.toList.drop (a + 1)).head? = some 47 := by
    cases hx : src.data.toList.drop (a + 1) with
    | nil => rw [hx] at e; simp at e
    | cons x r => rw [hx] at e; simp at e; rw [e]; rfl
  rw [List.head?_drop] at e2
  have hl : a + 1 < src.size := by
    rcases Nat.lt_or_ge (a + 1) src.size with h1 | h1
    · exact h1
    · rw [List.getElem?_eq_none (by rw [list_size]; exact h1)] at e2; cases e2
  rw [getElem_byte src (a + 1) hl] at e2
  injection e2 with e2
  exact h ⟨by rw [e1]; rfl, hl, by rw [e2]; rfl⟩

set_option maxRecDepth 100000 in
set_option maxHeartbeats 4000000 in
theorem rlex_any (src : ByteArray) (w : World) (hs : src.size ≤ 65536) :
    Calls Tryd.prog 13 #[.string src] w (LexPost (lexAt 0 src.data.toList) w) := by
  obtain ⟨i, hi, hz0, hz1, hz2'⟩ := info_parts Tryd.info35
  have HI := Lib.hid hi; have HZ0 := Lib.hid hz0; have HZ1 := Lib.hid hz1; have HZ2 := Lib.hid hz2'
  clear hi hz0 hz1 hz2'
  go_enter Tryd.func13, Tryd.ntmps13
  go_wp2_with fail
  generalize hW0 : w.alloc (.cells #[] 35) = W at *
  have hrow0 : W.ownsRow w.heap.size 35 4 (.slice (some ⟨w.heap.size, 0, none⟩) 0 0) 0 [] := by
    rw [← hW0]
    exact ⟨rfl, Or.inr ⟨w.heap.size, 0, #[], rfl, Nat.le_refl _, heap_alloc_new _ _, Nat.le_refl _, by decide, rfl, rfl⟩⟩
  have hbel0 : Below w.heap.size w W := by rw [← hW0]; exact (Below.refl _ _).alloc (Nat.le_refl _) _
  have HROW := Lib.hid hrow0; have HBEL := Lib.hid hbel0
  clear hW0 hrow0 hbel0
  go_loopw [5, 6] (fun v iv wr => ∃ a : Nat, a ≤ src.size ∧ iv = .int .i64 a ∧ Hid (RefInv src w.heap.size w wr v a)) (fun _ iv _ => src.size - (intOf iv).toNat)
  case atStart => exact ⟨0, Nat.zero_le _, rfl, Lib.hid ⟨[], Nat.le_refl _, HROW.out, HBEL.out, by rw [List.drop_zero]; cases lexAt 0 src.data.toList <;> rfl⟩⟩
  case round =>
    clear HROW HBEL
    obtain ⟨a, ha, rfl, hinv⟩ := hrel
    by_cases hlt : a < src.size
    · have hb := Lib.hid (getElem_byte src a hlt)
      have hdr := Lib.hid (drop_cons hb.out)
      have hlt' : (a : Int) < (src.size : Int) := by omega
      by_cases c1 : (cls src[a].toNat == 1) = true
      · have C1 := Lib.hid c1
        go_wp2_with (go_at_call 22; refine (refSpace_any _ _).mono ?_; rintro e w' ⟨rfl, rfl⟩)
        go_roundw
        case rel => exact ⟨a + 1, by omega, by go_num, Lib.hid (inv_space hinv.out hdr.out C1.out)⟩
        case measure => simp [intOf]; omega
      · have c1' : (cls src[a].toNat == 1) = false := by simpa using c1
        clear c1
        by_cases c47 : src[a].toNat = 47 ∧ ∃ h : a + 1 < src.size, src[a + 1].toNat = 47
        · obtain ⟨h47, ha1, hb47⟩ := c47
          have hcom := Lib.hid (is_comment hlt ha1 h47 hb47)
          have hdr2 := hdr
          have f1 : ((src[a].toNat : Int) == 47) = true := by simpa using by omega
          have f2 : ((src[a + 1].toNat : Int) == 47) = true := by simpa using by omega
          have ha1' : (a : Int) + 1 < (src.size : Int) := by omega
          have hs47 : isSign src[a] = true := by
            have : src[a] = 47 := by rw [← UInt8.toNat_inj, h47]; rfl
            rw [this]; decide
          have HS47 := Lib.hid hs47
          have H47 := Lib.hid h47
          clear h47 hb47 hs47
          go_wp2_with (go_at_call 22; refine (refSpace_any _ _).mono ?_; rintro e w' ⟨rfl, rfl⟩)
          go_loopw [6] (fun iv wr2 => ∃ j : Nat, wr = wr2 ∧ a ≤ j ∧ j ≤ src.size ∧ iv = .int .i64 j ∧ Hid (((src.data.toList.drop a).take (j - a)).all (· != 10) = true)) (fun iv _ => src.size - (intOf iv).toNat)
          case atStart => exact ⟨a, rfl, Nat.le_refl _, ha, rfl, Lib.hid (by rw [Nat.sub_self]; rfl)⟩
          case round =>
            obtain ⟨j, rfl, hj1, hj2, rfl, hall⟩ := hrel
            by_cases hjs : j < src.size
            · have hbj := Lib.hid (getElem_byte src j hjs)
              have hjs' : (j : Int) < (src.size : Int) := by omega
              by_cases h10 : src[j].toNat = 10
              · have f3 : ((src[j].toNat : Int) == 10) = true := by simpa using by omega
                have f4 : ((src[j].toNat : Int) != 10) = false := by simpa using by omega
                have H10 := Lib.hid h10; clear h10
                have hja : j ≠ a := by
                  rintro rfl
                  have := H10.out
                  rw [H47.out] at this; omega
                go_wp2_with fail
                go_roundw
                case rel => exact ⟨j, hj2, rfl, Lib.hid (inv_comment hinv.out hdr.out HS47.out hcom.out hj1 hj2 hall.out (fun c hc => by rw [hbj.out] at hc; injection hc with hc; rw [← hc, ← UInt8.toNat_inj, H10.out]; rfl))⟩
                case measure => simp [intOf]; omega
              · have f3 : ((src[j].toNat : Int) == 10) = false := by simpa using by omega
                have f4 : ((src[j].toNat : Int) != 10) = true := by simpa using by omega
                have H10 := Lib.hid h10; clear h10
                go_wp2_with fail
                go_roundw
                case rel => exact ⟨j + 1, by trivial, by omega, by omega, by go_num, Lib.hid (run_go hj1 hall.out hbj.out (by simpa using (fun e => H10.out (by rw [e]; rfl))))⟩
                case measure => simp [intOf]; omega
            · obtain rfl : j = src.size := by omega
              have hin : ¬ (src.size : Int) < (src.size : Int) := by omega
              go_wp2_with fail
              go_roundw
              case rel => exact ⟨src.size, Nat.le_refl _, rfl, Lib.hid (inv_comment hinv.out hdr.out HS47.out hcom.out hj1 hj2 hall.out (fun c hc => by rw [List.getElem?_eq_none (by rw [list_size]; exact Nat.le_refl _)] at hc; cases hc))⟩
              case measure => simp [intOf]; omega
        · have hnc := not_comment c47
          by_cases c2 : (cls src[a].toNat == 2) = true
          · have hx : ¬ src[a].toNat = 47 := by intro e; rw [e] at c2; revert c2; decide
            have f1 : ((src[a].toNat : Int) == 47) = false := by simpa using by omega
            have C2 := Lib.hid c2
            clear hx c47 hnc
            go_wp2_with (first | (go_at_call 22; refine (refSpace_any _ _).mono ?_; rintro e w' ⟨rfl, rfl⟩) | (go_at_call 31; refine (refLetter_any _ _).mono ?_; rintro e w' ⟨rfl, rfl⟩) | (go_at_call 32; refine (refPart_any _ _).mono ?_; rintro e w' ⟨rfl, rfl⟩))
            go_loopw [6] (fun iv wr2 => ∃ j : Nat, wr = wr2 ∧ a ≤ j ∧ j ≤ src.size ∧ iv = .int .i64 j ∧ Hid (((src.data.toList.drop a).take (j - a)).all isPart = true)) (fun iv _ => src.size - (intOf iv).toNat)
            case atStart => exact ⟨a, rfl, Nat.le_refl _, ha, rfl, Lib.hid (by rw [Nat.sub_self]; rfl)⟩
            case round =>
              obtain ⟨j, rfl, hj1, hj2, rfl, hall⟩ := hrel
              by_cases hjs : j < src.size
              · have hbj := Lib.hid (getElem_byte src j hjs)
                have hjs' : (j : Int) < (src.size : Int) := by omega
                by_cases hp : (cls src[j].toNat == 2 || cls src[j].toNat == 3 || cls src[j].toNat == 5) = true
                · have HP := Lib.hid hp
                  go_wp2_with (first | (go_at_call 22; refine (refSpace_any _ _).mono ?_; rintro e w' ⟨rfl, rfl⟩) | (go_at_call 31; refine (refLetter_any _ _).mono ?_; rintro e w' ⟨rfl, rfl⟩) | (go_at_call 32; refine (refPart_any _ _).mono ?_; rintro e w' ⟨rfl, rfl⟩))
                  go_roundw
                  case rel => exact ⟨j + 1, by trivial, by omega, by omega, by go_num, Lib.hid (run_go hj1 hall.out hbj.out HP.out)⟩
                  case measure => simp [intOf]; omega
                · have hp' : (cls src[j].toNat == 2 || cls src[j].toNat == 3 || cls src[j].toNat == 5) = false := by simpa using hp
                  have HP := Lib.hid hp'; clear hp
                  have hrun := Lib.hid (run_len hj1 hj2 hall.out (fun c hc => by rw [hbj.out] at hc; injection hc with hc; subst hc; exact HP.out))
                  obtain ⟨ts, h1, h2, h3, h4⟩ := hinv.out
                  have H2 := Lib.hid h2; have H3 := Lib.hid h3; have H4 := Lib.hid h4
                  have hS := h3.size
                  clear h2 h3 h4
                  cases hok : nameOk (src.extract a j).data.toList with
                  | false =>
                    have HOK := Lib.hid hok; clear hok
                    go_wp2_with (first | (go_at_call 22; refine (refSpace_any _ _).mono ?_; rintro e w' ⟨rfl, rfl⟩) | (go_at_call 31; refine (refLetter_any _ _).mono ?_; rintro e w' ⟨rfl, rfl⟩) | (go_at_call 32; refine (refPart_any _ _).mono ?_; rintro e w' ⟨rfl, rfl⟩) | (go_at_call 21; refine (rname_any (src.extract a j) _ (by simp only [ByteArray.size_extract]; unfold maxLen; omega)).mono ?_; rw [HOK.out]; rintro e w' ⟨rfl, rfl⟩))
                    go_ret3
                    refine Or.inr ⟨a, ?_, rfl, H3.out⟩
                    rw [H4.out, run_name_bad C2.out hdr.out hrun.out HOK.out]; rfl
                  | true =>
                    have HOK := Lib.hid hok; clear hok
                    have hja := name_pos C2.out hdr.out hrun.out
                    go_wp2_with (first | (go_at_call 22; refine (refSpace_any _ _).mono ?_; rintro e w' ⟨rfl, rfl⟩) | (go_at_call 31; refine (refLetter_any _ _).mono ?_; rintro e w' ⟨rfl, rfl⟩) | (go_at_call 32; refine (refPart_any _ _).mono ?_; rintro e w' ⟨rfl, rfl⟩) | (go_at_call 21; refine (rname_any (src.extract a j) _ (by simp only [ByteArray.size_extract]; unfold maxLen; omega)).mono ?_; rw [HOK.out]; rintro e w' ⟨rfl, rfl⟩) | (at_builtin; go_loud (refine wpList_append_own _ rfl (.tmp 78) (.tmp 85) 23 rfl w.heap.size 35 i _ 4 40 Tryd.underlying23 HI.out HZ0.out HZ1.out HZ2.out rfl (by decide) _ ts.length _ rfl (H2.out.alloc _) ⟨wr.heap.size, 0, none⟩ 1 1 [.int .i64 1, .string (src.extract a j), .int .i64 0, .int .i64 a] rfl ?c3 ?c4 ?c5 ?c6 ?c7 ?c8 ?next)))
                    case c3 => rfl
                    case c4 => exact news_cells (heap_alloc_new wr (.cells #[.int .i64 1, .string (src.extract a j), .int .i64 0, .int .i64 a] 35))
                    case c5 => exact (four_one _ _ _ _ rfl rfl rfl rfl)
                    case c6 => (unfold maxLen; omega)
                    case c7 => omega
                    case c8 => (simp; omega)
                    case next =>
                      intro v' w6 hO6 hg6 hn6
                      have hgb : Below w.heap.size wr w6 := ((Below.refl _ wr).alloc hS _).trans ((Below.refl _ _).grown hg6 (by simp; omega) (fun q hq => (H2.out.lt q hq).1))
                      have HGB := Lib.hid (H3.out.trans hgb); have HO6 := Lib.hid hO6
                      clear hgb hO6 hg6 hn6
                      go_wp2_with fail
                      go_roundw
                      case rel => exact ⟨j, hj2, rfl, Lib.hid (inv_tok (b := j) (t := ⟨1, (src.data.toList.drop a).take (j - a), 0, a⟩) hja h1 H4.out HO6.out HGB.out (extract_list _ _ _) (run_name_good C2.out hdr.out hrun.out HOK.out))⟩
                      case measure => simp [intOf]; omega
              · obtain rfl : j = src.size := by omega
                have hin : ¬ (src.size : Int) < (src.size : Int) := by omega
                have hrun := Lib.hid (run_len hj1 hj2 hall.out (fun c hc => by rw [List.getElem?_eq_none (by rw [list_size]; exact Nat.le_refl _)] at hc; cases hc))
                obtain ⟨ts, h1, h2, h3, h4⟩ := hinv.out
                have H2 := Lib.hid h2; have H3 := Lib.hid h3; have H4 := Lib.hid h4
                have hS := h3.size
                clear h2 h3 h4
                cases hok : nameOk (src.extract a src.size).data.toList with
                | false =>
                  have HOK := Lib.hid hok; clear hok
                  go_wp2_with (first | (go_at_call 22; refine (refSpace_any _ _).mono ?_; rintro e w' ⟨rfl, rfl⟩) | (go_at_call 31; refine (refLetter_any _ _).mono ?_; rintro e w' ⟨rfl, rfl⟩) | (go_at_call 32; refine (refPart_any _ _).mono ?_; rintro e w' ⟨rfl, rfl⟩) | (go_at_call 21; refine (rname_any (src.extract a src.size) _ (by simp only [ByteArray.size_extract]; unfold maxLen; omega)).mono ?_; rw [HOK.out]; rintro e w' ⟨rfl, rfl⟩))
                  go_ret3
                  refine Or.inr ⟨a, ?_, rfl, H3.out⟩
                  rw [H4.out, run_name_bad C2.out hdr.out hrun.out HOK.out]; rfl
                | true =>
                  have HOK := Lib.hid hok; clear hok
                  have hja := name_pos C2.out hdr.out hrun.out
                  go_wp2_with (first | (go_at_call 22; refine (refSpace_any _ _).mono ?_; rintro e w' ⟨rfl, rfl⟩) | (go_at_call 31; refine (refLetter_any _ _).mono ?_; rintro e w' ⟨rfl, rfl⟩) | (go_at_call 32; refine (refPart_any _ _).mono ?_; rintro e w' ⟨rfl, rfl⟩) | (go_at_call 21; refine (rname_any (src.extract a src.size) _ (by simp only [ByteArray.size_extract]; unfold maxLen; omega)).mono ?_; rw [HOK.out]; rintro e w' ⟨rfl, rfl⟩) | (at_builtin; go_loud (refine wpList_append_own _ rfl (.tmp 78) (.tmp 85) 23 rfl w.heap.size 35 i _ 4 40 Tryd.underlying23 HI.out HZ0.out HZ1.out HZ2.out rfl (by decide) _ ts.length _ rfl (H2.out.alloc _) ⟨wr.heap.size, 0, none⟩ 1 1 [.int .i64 1, .string (src.extract a src.size), .int .i64 0, .int .i64 a] rfl ?c3 ?c4 ?c5 ?c6 ?c7 ?c8 ?next)))
                  case c3 => rfl
                  case c4 => exact news_cells (heap_alloc_new wr (.cells #[.int .i64 1, .string (src.extract a src.size), .int .i64 0, .int .i64 a] 35))
                  case c5 => exact (four_one _ _ _ _ rfl rfl rfl rfl)
                  case c6 => (unfold maxLen; omega)
                  case c7 => omega
                  case c8 => (simp; omega)
                  case next =>
                    intro v' w6 hO6 hg6 hn6
                    have hgb : Below w.heap.size wr w6 := ((Below.refl _ wr).alloc hS _).trans ((Below.refl _ _).grown hg6 (by simp; omega) (fun q hq => (H2.out.lt q hq).1))
                    have HGB := Lib.hid (H3.out.trans hgb); have HO6 := Lib.hid hO6
                    clear hgb hO6 hg6 hn6
                    go_wp2_with fail
                    go_roundw
                    case rel => exact ⟨src.size, hj2, rfl, Lib.hid (inv_tok (b := src.size) (t := ⟨1, (src.data.toList.drop a).take (src.size - a), 0, a⟩) hja h1 H4.out HO6.out HGB.out (extract_list _ _ _) (run_name_good C2.out hdr.out hrun.out HOK.out))⟩
                    case measure => simp [intOf]; omega
          · have c2' : (cls src[a].toNat == 2) = false := by simpa using c2
            clear c2
            by_cases c3 : (cls src[a].toNat == 3) = true
            · have C3 := Lib.hid c3
              have hx : ¬ src[a].toNat = 47 := by intro e; rw [e] at c3; revert c3; decide
              have f1 : ((src[a].toNat : Int) == 47) = false := by simpa using by omega
              clear hx c47 hnc
              go_wp2_with (first | (go_at_call 22; refine (refSpace_any _ _).mono ?_; rintro e w' ⟨rfl, rfl⟩) | (go_at_call 31; refine (refLetter_any _ _).mono ?_; rintro e w' ⟨rfl, rfl⟩) | (go_at_call 33; refine (refFigure_any _ _).mono ?_; rintro e w' ⟨rfl, rfl⟩))
              go_loopw [6] (fun iv wr2 => ∃ j : Nat, wr = wr2 ∧ a ≤ j ∧ j ≤ src.size ∧ iv = .int .i64 j ∧ Hid (((src.data.toList.drop a).take (j - a)).all isDigit = true)) (fun iv _ => src.size - (intOf iv).toNat)
              case atStart => exact ⟨a, rfl, Nat.le_refl _, ha, rfl, Lib.hid (by rw [Nat.sub_self]; rfl)⟩
              case round =>
                obtain ⟨j, rfl, hj1, hj2, rfl, hall⟩ := hrel
                by_cases hjs : j < src.size
                · have hbj := Lib.hid (getElem_byte src j hjs)
                  have hjs' : (j : Int) < (src.size : Int) := by omega
                  by_cases hp : (cls src[j].toNat == 3) = true
                  · have HP := Lib.hid hp
                    go_wp2_with (first | (go_at_call 22; refine (refSpace_any _ _).mono ?_; rintro e w' ⟨rfl, rfl⟩) | (go_at_call 31; refine (refLetter_any _ _).mono ?_; rintro e w' ⟨rfl, rfl⟩) | (go_at_call 33; refine (refFigure_any _ _).mono ?_; rintro e w' ⟨rfl, rfl⟩))
                    go_roundw
                    case rel => exact ⟨j + 1, by trivial, by omega, by omega, by go_num, Lib.hid (run_go hj1 hall.out hbj.out HP.out)⟩
                    case measure => simp [intOf]; omega
                  · have hp' : (cls src[j].toNat == 3) = false := by simpa using hp
                    have HP := Lib.hid hp'; clear hp
                    have hrun := Lib.hid (run_len hj1 hj2 hall.out (fun c hc => by rw [hbj.out] at hc; injection hc with hc; subst hc; exact HP.out))
                    have HALL := hall; clear hall
                    have hja := fig_pos C3.out hdr.out hrun.out
                    obtain ⟨ts, h1, h2, h3, h4⟩ := hinv.out
                    have H2 := Lib.hid h2; have H3 := Lib.hid h3; have H4 := Lib.hid h4
                    have hS := h3.size
                    clear h2 h3 h4
                    cases hok : numOk (src.extract a j).data.toList with
                    | false =>
                      have HOK := Lib.hid hok; clear hok
                      go_wp2_with (first | (go_at_call 22; refine (refSpace_any _ _).mono ?_; rintro e w' ⟨rfl, rfl⟩) | (go_at_call 31; refine (refLetter_any _ _).mono ?_; rintro e w' ⟨rfl, rfl⟩) | (go_at_call 33; refine (refFigure_any _ _).mono ?_; rintro e w' ⟨rfl, rfl⟩) | (go_at_call 34; refine (number_ref (src.extract a j) (by rw [ByteArray.size_extract]; omega) (by simp only [ByteArray.size_extract]; unfold maxLen; omega) (fig_all HALL.out) _).mono ?_; rintro e w' ⟨z, rfl, hz, mm, rfl⟩; rw [HOK.out]; clear hz))
                      go_ret3
                      refine Or.inr ⟨a, ?_, rfl, below_drewN H3.out _⟩
                      rw [H4.out, fig_bad C3.out hdr.out hrun.out HOK.out]; rfl
                    | true =>
                      have HOK := Lib.hid hok; clear hok
                      go_wp2_with (first | (go_at_call 22; refine (refSpace_any _ _).mono ?_; rintro e w' ⟨rfl, rfl⟩) | (go_at_call 31; refine (refLetter_any _ _).mono ?_; rintro e w' ⟨rfl, rfl⟩) | (go_at_call 33; refine (refFigure_any _ _).mono ?_; rintro e w' ⟨rfl, rfl⟩) | (go_at_call 34; refine (number_ref (src.extract a j) (by rw [ByteArray.size_extract]; omega) (by simp only [ByteArray.size_extract]; unfold maxLen; omega) (fig_all HALL.out) _).mono ?_; rintro e w' ⟨z, rfl, hz, mm, rfl⟩; rw [HOK.out]; have HZ := Lib.hid (hz HOK.out); clear hz) | (at_builtin; go_loud (refine wpList_append_own _ rfl (.tmp 114) (.tmp 118) 23 rfl w.heap.size 35 i _ 4 40 Tryd.underlying23 HI.out HZ0.out HZ1.out HZ2.out rfl (by decide) _ ts.length _ rfl ((ownsRow_drewN H2.out mm).alloc _) ⟨wr.heap.size, 0, none⟩ 1 1 [.int .i64 2, .string ByteArray.empty, .int .i64 z, .int .i64 a] rfl ?c3 ?c4 ?c5 ?c6 ?c7 ?c8 ?next)))
                      case c3 => rfl
                      case c4 => exact news_cells (heap_alloc_new (wr.drewN mm) (.cells #[.int .i64 2, .string ByteArray.empty, .int .i64 z, .int .i64 a] 35))
                      case c5 => exact (four_one _ _ _ _ rfl rfl rfl rfl)
                      case c6 => (unfold maxLen; omega)
                      case c7 => omega
                      case c8 => (simp; omega)
                      case next =>
                        intro v' w6 hO6 hg6 hn6
                        have hgb : Below w.heap.size wr w6 := ((below_drewN (Below.refl _ wr) mm).alloc (by exact hS) _).trans ((Below.refl _ _).grown hg6 (by simp; omega) (fun q hq => (H2.out.lt q hq).1))
                        have HGB := Lib.hid (H3.out.trans hgb); have HO6 := Lib.hid hO6
                        clear hgb hO6 hg6 hn6
                        go_wp2_with fail
                        go_roundw
                        case rel => exact ⟨j, hj2, rfl, Lib.hid (inv_tok (b := j) (t := ⟨2, [], z, a⟩) hja h1 H4.out HO6.out HGB.out rfl (fig_good C3.out hdr.out hrun.out HOK.out HZ.out))⟩
                        case measure => simp [intOf]; omega

                · obtain rfl : j = src.size := by omega
                  have hin : ¬ (src.size : Int) < (src.size : Int) := by omega
                  have hrun := Lib.hid (run_len hj1 hj2 hall.out (fun c hc => by rw [List.getElem?_eq_none (by rw [list_size]; exact Nat.le_refl _)] at hc; cases hc))
                  have HALL := hall; clear hall
                  have hja := fig_pos C3.out hdr.out hrun.out
                  obtain ⟨ts, h1, h2, h3, h4⟩ := hinv.out
                  have H2 := Lib.hid h2; have H3 := Lib.hid h3; have H4 := Lib.hid h4
                  have hS := h3.size
                  clear h2 h3 h4
                  cases hok : numOk (src.extract a src.size).data.toList with
                  | false =>
                    have HOK := Lib.hid hok; clear hok
                    go_wp2_with (first | (go_at_call 22; refine (refSpace_any _ _).mono ?_; rintro e w' ⟨rfl, rfl⟩) | (go_at_call 31; refine (refLetter_any _ _).mono ?_; rintro e w' ⟨rfl, rfl⟩) | (go_at_call 33; refine (refFigure_any _ _).mono ?_; rintro e w' ⟨rfl, rfl⟩) | (go_at_call 34; refine (number_ref (src.extract a src.size) (by rw [ByteArray.size_extract]; omega) (by simp only [ByteArray.size_extract]; unfold maxLen; omega) (fig_all HALL.out) _).mono ?_; rintro e w' ⟨z, rfl, hz, mm, rfl⟩; rw [HOK.out]; clear hz))
                    go_ret3
                    refine Or.inr ⟨a, ?_, rfl, below_drewN H3.out _⟩
                    rw [H4.out, fig_bad C3.out hdr.out hrun.out HOK.out]; rfl
                  | true =>
                    have HOK := Lib.hid hok; clear hok
                    go_wp2_with (first | (go_at_call 22; refine (refSpace_any _ _).mono ?_; rintro e w' ⟨rfl, rfl⟩) | (go_at_call 31; refine (refLetter_any _ _).mono ?_; rintro e w' ⟨rfl, rfl⟩) | (go_at_call 33; refine (refFigure_any _ _).mono ?_; rintro e w' ⟨rfl, rfl⟩) | (go_at_call 34; refine (number_ref (src.extract a src.size) (by rw [ByteArray.size_extract]; omega) (by simp only [ByteArray.size_extract]; unfold maxLen; omega) (fig_all HALL.out) _).mono ?_; rintro e w' ⟨z, rfl, hz, mm, rfl⟩; rw [HOK.out]; have HZ := Lib.hid (hz HOK.out); clear hz) | (at_builtin; go_loud (refine wpList_append_own _ rfl (.tmp 114) (.tmp 118) 23 rfl w.heap.size 35 i _ 4 40 Tryd.underlying23 HI.out HZ0.out HZ1.out HZ2.out rfl (by decide) _ ts.length _ rfl ((ownsRow_drewN H2.out mm).alloc _) ⟨wr.heap.size, 0, none⟩ 1 1 [.int .i64 2, .string ByteArray.empty, .int .i64 z, .int .i64 a] rfl ?c3 ?c4 ?c5 ?c6 ?c7 ?c8 ?next)))
                    case c3 => rfl
                    case c4 => exact news_cells (heap_alloc_new (wr.drewN mm) (.cells #[.int .i64 2, .string ByteArray.empty, .int .i64 z, .int .i64 a] 35))
                    case c5 => exact (four_one _ _ _ _ rfl rfl rfl rfl)
                    case c6 => (unfold maxLen; omega)
                    case c7 => omega
                    case c8 => (simp; omega)
                    case next =>
                      intro v' w6 hO6 hg6 hn6
                      have hgb : Below w.heap.size wr w6 := ((below_drewN (Below.refl _ wr) mm).alloc (by exact hS) _).trans ((Below.refl _ _).grown hg6 (by simp; omega) (fun q hq => (H2.out.lt q hq).1))
                      have HGB := Lib.hid (H3.out.trans hgb); have HO6 := Lib.hid hO6
                      clear hgb hO6 hg6 hn6
                      go_wp2_with fail
                      go_roundw
                      case rel => exact ⟨src.size, hj2, rfl, Lib.hid (inv_tok (b := src.size) (t := ⟨2, [], z, a⟩) hja h1 H4.out HO6.out HGB.out rfl (fig_good C3.out hdr.out hrun.out HOK.out HZ.out))⟩
                      case measure => simp [intOf]; omega


            · have c3' : (cls src[a].toNat == 3) = false := by simpa using c3
              clear c3
              by_cases c4 : (cls src[a].toNat == 4) = true
              · have HNC := Lib.hid hnc; clear hnc
                have C4 := Lib.hid c4
                by_cases h47 : src[a].toNat = 47
                · have f1 : ((src[a].toNat : Int) == 47) = true := by simpa using by omega
                  by_cases ha1 : a + 1 < src.size
                  · have hn47 : ¬ src[a + 1].toNat = 47 := fun e => c47 ⟨h47, ha1, e⟩
                    have f2 : ((src[a + 1].toNat : Int) == 47) = false := by simpa using by omega
                    have ha1' : (a : Int) + 1 < (src.size : Int) := by omega
                    clear h47 c47 hn47
                    obtain ⟨ts, h1, h2, h3, h4⟩ := hinv.out
                    have H2 := Lib.hid h2; have H3 := Lib.hid h3; have H4 := Lib.hid h4
                    have hS := h3.size
                    clear h2 h3 h4
                    go_wp2_with (first | (go_at_call 22; refine (refSpace_any _ _).mono ?_; rintro e w' ⟨rfl, rfl⟩) | (go_at_call 31; refine (refLetter_any _ _).mono ?_; rintro e w' ⟨rfl, rfl⟩) | (go_at_call 33; refine (refFigure_any _ _).mono ?_; rintro e w' ⟨rfl, rfl⟩) | (go_at_call 35; refine (refSign_any _ (UInt8.toNat_lt _) _).mono ?_; rintro e w' ⟨rfl, rfl⟩) | (at_builtin; go_loud (refine wpList_append_own _ rfl (.tmp 128) (.tmp 135) 23 rfl w.heap.size 35 i _ 4 40 Tryd.underlying23 HI.out HZ0.out HZ1.out HZ2.out rfl (by decide) _ ts.length _ rfl (H2.out.alloc _) ⟨wr.heap.size, 0, none⟩ 1 1 [.int .i64 3, .string (src.extract a (a + 1)), .int .i64 0, .int .i64 a] rfl ?c3 ?c4 ?c5 ?c6 ?c7 ?c8 ?next)))
                    case c3 => rfl
                    case c4 => exact news_cells (heap_alloc_new wr (.cells #[.int .i64 3, .string (src.extract a (a + 1)), .int .i64 0, .int .i64 a] 35))
                    case c5 => exact (four_one _ _ _ _ rfl rfl rfl rfl)
                    case c6 => (unfold maxLen; omega)
                    case c7 => omega
                    case c8 => (simp; omega)
                    case next =>
                      intro v' w6 hO6 hg6 hn6
                      have hgb : Below w.heap.size wr w6 := ((Below.refl _ wr).alloc hS _).trans ((Below.refl _ _).grown hg6 (by simp; omega) (fun q hq => (H2.out.lt q hq).1))
                      have HGB := Lib.hid (H3.out.trans hgb); have HO6 := Lib.hid hO6
                      clear hgb hO6 hg6 hn6
                      go_wp2_with fail
                      go_roundw
                      case rel => exact ⟨a + 1, by omega, by go_num, Lib.hid (inv_tok (b := a + 1) (t := ⟨3, [src[a]], 0, a⟩) (by omega) h1 H4.out HO6.out HGB.out (one_byte hb.out) (by rw [hdr.out, lexAt_sign (by exact C4.out) (by rw [← hdr.out]; exact HNC.out)]))⟩
                      case measure => simp [intOf]; omega
                  · have ha1' : ¬ (a : Int) + 1 < (src.size : Int) := by omega
                    clear h47 c47
                    obtain ⟨ts, h1, h2, h3, h4⟩ := hinv.out
                    have H2 := Lib.hid h2; have H3 := Lib.hid h3; have H4 := Lib.hid h4
                    have hS := h3.size
                    clear h2 h3 h4
                    go_wp2_with (first | (go_at_call 22; refine (refSpace_any _ _).mono ?_; rintro e w' ⟨rfl, rfl⟩) | (go_at_call 31; refine (refLetter_any _ _).mono ?_; rintro e w' ⟨rfl, rfl⟩) | (go_at_call 33; refine (refFigure_any _ _).mono ?_; rintro e w' ⟨rfl, rfl⟩) | (go_at_call 35; refine (refSign_any _ (UInt8.toNat_lt _) _).mono ?_; rintro e w' ⟨rfl, rfl⟩) | (at_builtin; go_loud (refine wpList_append_own _ rfl (.tmp 128) (.tmp 135) 23 rfl w.heap.size 35 i _ 4 40 Tryd.underlying23 HI.out HZ0.out HZ1.out HZ2.out rfl (by decide) _ ts.length _ rfl (H2.out.alloc _) ⟨wr.heap.size, 0, none⟩ 1 1 [.int .i64 3, .string (src.extract a (a + 1)), .int .i64 0, .int .i64 a] rfl ?c3 ?c4 ?c5 ?c6 ?c7 ?c8 ?next)))
                    case c3 => rfl
                    case c4 => exact news_cells (heap_alloc_new wr (.cells #[.int .i64 3, .string (src.extract a (a + 1)), .int .i64 0, .int .i64 a] 35))
                    case c5 => exact (four_one _ _ _ _ rfl rfl rfl rfl)
                    case c6 => (unfold maxLen; omega)
                    case c7 => omega
                    case c8 => (simp; omega)
                    case next =>
                      intro v' w6 hO6 hg6 hn6
                      have hgb : Below w.heap.size wr w6 := ((Below.refl _ wr).alloc hS _).trans ((Below.refl _ _).grown hg6 (by simp; omega) (fun q hq => (H2.out.lt q hq).1))
                      have HGB := Lib.hid (H3.out.trans hgb); have HO6 := Lib.hid hO6
                      clear hgb hO6 hg6 hn6
                      go_wp2_with fail
                      go_roundw
                      case rel => exact ⟨a + 1, by omega, by go_num, Lib.hid (inv_tok (b := a + 1) (t := ⟨3, [src[a]], 0, a⟩) (by omega) h1 H4.out HO6.out HGB.out (one_byte hb.out) (by rw [hdr.out, lexAt_sign (by exact C4.out) (by rw [← hdr.out]; exact HNC.out)]))⟩
                      case measure => simp [intOf]; omega
                · have f1 : ((src[a].toNat : Int) == 47) = false := by simpa using by omega
                  clear h47 c47
                  obtain ⟨ts, h1, h2, h3, h4⟩ := hinv.out
                  have H2 := Lib.hid h2; have H3 := Lib.hid h3; have H4 := Lib.hid h4
                  have hS := h3.size
                  clear h2 h3 h4
                  go_wp2_with (first | (go_at_call 22; refine (refSpace_any _ _).mono ?_; rintro e w' ⟨rfl, rfl⟩) | (go_at_call 31; refine (refLetter_any _ _).mono ?_; rintro e w' ⟨rfl, rfl⟩) | (go_at_call 33; refine (refFigure_any _ _).mono ?_; rintro e w' ⟨rfl, rfl⟩) | (go_at_call 35; refine (refSign_any _ (UInt8.toNat_lt _) _).mono ?_; rintro e w' ⟨rfl, rfl⟩) | (at_builtin; go_loud (refine wpList_append_own _ rfl (.tmp 128) (.tmp 135) 23 rfl w.heap.size 35 i _ 4 40 Tryd.underlying23 HI.out HZ0.out HZ1.out HZ2.out rfl (by decide) _ ts.length _ rfl (H2.out.alloc _) ⟨wr.heap.size, 0, none⟩ 1 1 [.int .i64 3, .string (src.extract a (a + 1)), .int .i64 0, .int .i64 a] rfl ?c3 ?c4 ?c5 ?c6 ?c7 ?c8 ?next)))
                  case c3 => rfl
                  case c4 => exact news_cells (heap_alloc_new wr (.cells #[.int .i64 3, .string (src.extract a (a + 1)), .int .i64 0, .int .i64 a] 35))
                  case c5 => exact (four_one _ _ _ _ rfl rfl rfl rfl)
                  case c6 => (unfold maxLen; omega)
                  case c7 => omega
                  case c8 => (simp; omega)
                  case next =>
                    intro v' w6 hO6 hg6 hn6
                    have hgb : Below w.heap.size wr w6 := ((Below.refl _ wr).alloc hS _).trans ((Below.refl _ _).grown hg6 (by simp; omega) (fun q hq => (H2.out.lt q hq).1))
                    have HGB := Lib.hid (H3.out.trans hgb); have HO6 := Lib.hid hO6
                    clear hgb hO6 hg6 hn6
                    go_wp2_with fail
                    go_roundw
                    case rel => exact ⟨a + 1, by omega, by go_num, Lib.hid (inv_tok (b := a + 1) (t := ⟨3, [src[a]], 0, a⟩) (by omega) h1 H4.out HO6.out HGB.out (one_byte hb.out) (by rw [hdr.out, lexAt_sign (by exact C4.out) (by rw [← hdr.out]; exact HNC.out)]))⟩
                    case measure => simp [intOf]; omega
              · have c4' : (cls src[a].toNat == 4) = false := by simpa using c4
                clear c4
                have hx : (src[a].toNat : Int) ≠ 47 := by
                  intro e
                  have : src[a].toNat = 47 := by omega
                  rw [this] at c4'; revert c4'; decide
                have f1 : ((src[a].toNat : Int) == 47) = false := by simpa using hx
                clear hx c47
                have hw := Lib.hid (inv_wrong hinv.out hdr.out c1' c2' c3' c4')
                go_wp2_with (first | (go_at_call 22; refine (refSpace_any _ _).mono ?_; rintro e w' ⟨rfl, rfl⟩) | (go_at_call 31; refine (refLetter_any _ _).mono ?_; rintro e w' ⟨rfl, rfl⟩) | (go_at_call 33; refine (refFigure_any _ _).mono ?_; rintro e w' ⟨rfl, rfl⟩) | (go_at_call 35; refine (refSign_any _ (UInt8.toNat_lt _) _).mono ?_; rintro e w' ⟨rfl, rfl⟩))
                go_ret3
                obtain ⟨hw1, hw2⟩ := hw.out
                exact Or.inr ⟨a, hw2, rfl, hw1⟩
    · obtain rfl : a = src.size := by omega
      obtain ⟨ts, h1, h2, h3, h4⟩ := hinv.out
      rw [List.drop_of_length_le (by rw [list_size]; exact Nat.le_refl _), lexAt_nil] at h4
      have H2 := Lib.hid h2; have H3 := Lib.hid h3; have H4 := Lib.hid h4
      clear h1 h2 h3 h4 hinv
      have hin : ¬ (src.size : Int) < (src.size : Int) := by omega
      go_wp2_with fail
      go_ret3
      exact Or.inl ⟨ts, u5, by rw [H4.out]; simp [addToks], rfl, H2.out, H3.out⟩
end Go.Proofs.YtabdpmcdlojliaaDoor
