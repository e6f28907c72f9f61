/- The law LexSpaces: it returns true. -/
import Derived.Test.YtabdpmcdlojliaaDoorO1
namespace Go.Proofs.YtabdpmcdlojliaaDoor
open Go.RowKit

theorem one_byte' {src : ByteArray} {a : Nat} {c : UInt8} (h : src.data.toList[a]? = some c) : (src.extract a (a + 1)).data.toList = [c] := by
  rw [extract_list, drop_cons h, show a + 1 - a = 1 by omega]; rfl
theorem cell_of {w : World} {g r : Nat} {xs : Array Value} {t : TypeId} {f : Nat × Nat} (h : w.heap[g]? = some (.cells xs t f)) : w.cell? ⟨g, r, none⟩ = xs[r]? := by simp [World.cell?, h]
theorem gap_cells {w : World} {W : ByteArray} {t : TypeId} {r : Nat} (hr : r < 8) : (w.alloc (.cells #[.string ⟨#[32]⟩, .string ⟨#[9]⟩, .string ⟨#[10]⟩, .string ⟨#[13, 10]⟩, .string ⟨#[32, 32]⟩, .string (⟨#[47, 47]⟩ ++ W ++ ⟨#[10]⟩), .string ⟨#[32, 47, 47, 32, 10]⟩, .string ⟨#[10, 47, 47, 10]⟩] t)).cell? ⟨w.heap.size, r, none⟩ = some (.string (gapOf W r)) := by
  have h := heap_alloc_new w (.cells #[.string ⟨#[32]⟩, .string ⟨#[9]⟩, .string ⟨#[10]⟩, .string ⟨#[13, 10]⟩, .string ⟨#[32, 32]⟩, .string (⟨#[47, 47]⟩ ++ W ++ ⟨#[10]⟩), .string ⟨#[32, 47, 47, 32, 10]⟩, .string ⟨#[10, 47, 47, 10]⟩] t)
  rw [cell_of h]
  match r, hr with
  | 0, _ => rfl
  | 1, _ => rfl
  | 2, _ => rfl
  | 3, _ => rfl
  | 4, _ => rfl
  | 5, _ => rfl
  | 6, _ => rfl
  | 7, _ => rfl

/-- A list of bytes that came in. -/
def IsBytes (w : World) (v : Value) (bs : List UInt8) : Prop := ∃ ao c, v = .slice ao bs.length c ∧
  (bs = [] ∨ ∃ b o, ao = some ⟨b, o, none⟩ ∧ (∀ (k : Nat) x, bs[k]? = some x → w.cell? ⟨b, o + k, none⟩ = some (.int .u8 x.toNat)) ∧ b < w.heap.size)
theorem short_x {x : Tok} (h : x.text.length ≤ 2000) : ∀ t ∈ [x], t.text.length ≤ maxLen := by
  intro t ht; unfold maxLen
  rcases List.mem_cons.1 ht with rfl | ht
  · omega
  · cases ht
theorem not_allV {ts : List Tok} {k : Nat} {x : Tok} (h : ts[k]? = some x) (hv : validT x = false) : ts.all validT = false := by
  cases e : ts.all validT with
  | false => rfl
  | true => have := List.all_eq_true.1 e x (List.mem_of_getElem? h); rw [hv] at this; cases this

set_option maxHeartbeats 2000000 in
set_option maxRecDepth 100000 in
theorem lexSpaces_many (v vb : Value) (ts : List Tok) (s : ByteArray) (w : World) (hE : Env w) (hv : IsToks w v ts) (hn : ts.length ≤ 3518437208784) (ht : ∀ t ∈ ts, t.text.length ≤ 140737488351232) (hs : s.size ≤ 140737488351232)
    (hbig : fewT ts = false ∨ 100 < s.size) :
    Calls Tryd.prog 8 #[v, vb, .string s] w fun e w' => e = .returned (.bool true) ∧ Below w.heap.size w w' := by
  have HE := Lib.hid hE; clear hE
  have HV := Lib.hid hv; clear hv
  have HT := Lib.hid ht; clear ht
  cases hf : fewT ts with
  | false =>
    have HF := Lib.hid hf; clear hf hbig
    go_enter Tryd.func8, Tryd.ntmps8
    go_wp2_with fail
    refine (sane_any _ HE.out).mono ?_
    rintro e w1 ⟨rfl, b1⟩
    have BW := Lib.hid b1; clear b1
    go_wp2_with fail
    refine (few_any v ts w1 (HV.out.below BW.out (Nat.le_refl _)) hn HT.out).mono ?_
    rw [HF.out]
    rintro e w' ⟨rfl, rfl⟩
    go_wp2_with fail
    go_ret
    exact ⟨rfl, BW.out⟩
  | true =>
    have hb : 100 < s.size := by
      rcases hbig with h | h
      · rw [hf] at h; cases h
      · exact h
    have HF := Lib.hid hf; clear hf hbig
    go_enter Tryd.func8, Tryd.ntmps8
    go_wp2_with fail
    refine (sane_any _ HE.out).mono ?_
    rintro e w1 ⟨rfl, b1⟩
    have BW := Lib.hid b1; clear b1
    go_wp2_with fail
    refine (few_any v ts w1 (HV.out.below BW.out (Nat.le_refl _)) hn HT.out).mono ?_
    rw [HF.out]
    rintro e w' ⟨rfl, rfl⟩
    go_wp2_with fail
    go_ret
    exact ⟨rfl, BW.out⟩

theorem filter_snoc {l : List UInt8} {k : Nat} {c : UInt8} (h : l[k]? = some c) : (l.take (k + 1)).filter (· != 10) = (l.take k).filter (· != 10) ++ (if c = 10 then [] else [c]) := by
  rw [List.take_add_one, h, List.filter_append]
  by_cases hc : c = 10 <;> simp [hc]

set_option maxHeartbeats 2000000 in
set_option maxRecDepth 100000 in
theorem lexSpaces_some (ao1 : Option Addr) (c : Nat) (vb : Value) (ts : List Tok) (bs : List UInt8) (s : ByteArray) (w : World) (hE : Env w) (hv : IsToks w (.slice ao1 ts.length c) ts) (hf : fewT ts = true) (hs : s.size ≤ 100) (hb : IsBytes w vb bs) :
    Calls Tryd.prog 8 #[.slice ao1 ts.length c, vb, .string s] w fun e w' => e = .returned (.bool true) ∧ Below w.heap.size w w' := by
  have HE := Lib.hid hE; clear hE
  have hfp := few_parts hf
  have hn := hfp.1
  have ht : ∀ t ∈ ts, t.text.length ≤ 2000 := fun t h => Nat.le_trans (textSum_mem h) hfp.2
  have HT := Lib.hid ht; clear ht hfp
  have HF := Lib.hid hf; clear hf
  have HB := Lib.hid hb; clear hb
  have HV := Lib.hid hv; clear hv
  generalize hnn : ts.length = n at *
  have HN := Lib.hid hnn; clear hnn
  obtain ⟨ao, cb, rfl, hbb⟩ := HB.out
  have HBB := Lib.hid hbb; clear hbb HB
  generalize hmm : bs.length = m at *
  have HM := Lib.hid hmm; clear hmm
  go_enter Tryd.func8, Tryd.ntmps8
  go_wp2_with fail
  refine (sane_any _ HE.out).mono ?_
  rintro e w1 ⟨rfl, b1⟩
  have hz1 := b1.size
  have BW := Lib.hid b1; clear b1
  go_wp2_with fail
  refine (few_any _ ts w1 (HV.out.below BW.out (Nat.le_refl _)) (by rw [HN.out]; omega) (fun t h => by have := HT.out t h; omega)).mono ?_
  rw [HF.out]
  rintro e w' ⟨rfl, rfl⟩
  go_wp2_with fail
  go_loop [7, 8] (fun v i => ∃ k : Nat, k ≤ s.size ∧ i = .int .i64 k ∧ ∃ W : ByteArray, v = .string W ∧ W.size ≤ k ∧ Hid (W.data.toList = (s.data.toList.take k).filter (· != 10))) (fun _ i => s.size - (intOf i).toNat)
  case atStart => exact ⟨0, Nat.zero_le _, rfl, ⟨#[]⟩, rfl, Nat.le_refl _, Lib.hid rfl⟩
  case round =>
    obtain ⟨k, hk, rfl, W, rfl, hW, hwl⟩ := hrel
    by_cases hlt : k < s.size
    · have hb := Lib.hid (getElem_byte s k hlt)
      have hlt' : (k : Int) < (s.size : Int) := by omega
      by_cases h10 : s[k].toNat = 10
      · have f3 : ((s[k].toNat : Int) != 10) = false := by simpa using by omega
        have H10 := Lib.hid h10; clear h10
        go_wp2
        go_round
        case rel => exact ⟨k + 1, by omega, by go_num, W, rfl, by omega, Lib.hid (by rw [filter_snoc hb.out, if_pos (by rw [← UInt8.toNat_inj, H10.out]; rfl), List.append_nil]; exact hwl.out)⟩
        case measure => simp [intOf]; omega
      · have f3 : ((s[k].toNat : Int) != 10) = true := by simpa using by omega
        have H10 := Lib.hid h10; clear h10
        go_wp2
        go_round
        case rel => exact ⟨k + 1, by omega, by go_num, _, rfl, (by rw [ByteArray.size_append, ByteArray.size_extract]; omega), Lib.hid (by
          rw [filter_snoc hb.out, if_neg (fun e => H10.out (by rw [e]; rfl)), ← hwl.out, ← one_byte' hb.out]; simp)⟩
        case measure => simp [intOf]; omega
    · obtain rfl : k = s.size := by omega
      have hin : ¬ (s.size : Int) < (s.size : Int) := by omega
      have hwa : W.data.toList.all (· != 10) = true := by
        rw [hwl.out, List.all_filter]; simp
      have HWA := Lib.hid hwa; clear hwa
      go_wp2_with fail
      have hgc : ∀ r, r < 8 → (w1.alloc (.cells #[.string ⟨#[32]⟩, .string ⟨#[9]⟩, .string ⟨#[10]⟩, .string ⟨#[13, 10]⟩, .string ⟨#[32, 32]⟩, .string (⟨#[47, 47]⟩ ++ W ++ ⟨#[10]⟩), .string ⟨#[32, 47, 47, 32, 10]⟩, .string ⟨#[10, 47, 47, 10]⟩] 9)).cell? ⟨w1.heap.size, r, none⟩ = some (.string (gapOf W r)) := fun r hr => gap_cells hr
      have hb2 : Below w1.heap.size w1 (w1.alloc (.cells #[.string ⟨#[32]⟩, .string ⟨#[9]⟩, .string ⟨#[10]⟩, .string ⟨#[13, 10]⟩, .string ⟨#[32, 32]⟩, .string (⟨#[47, 47]⟩ ++ W ++ ⟨#[10]⟩), .string ⟨#[32, 47, 47, 32, 10]⟩, .string ⟨#[10, 47, 47, 10]⟩] 9)) := (Below.refl _ _).alloc (Nat.le_refl _) _
      have hgl : w1.heap.size < (w1.alloc (.cells #[.string ⟨#[32]⟩, .string ⟨#[9]⟩, .string ⟨#[10]⟩, .string ⟨#[13, 10]⟩, .string ⟨#[32, 32]⟩, .string (⟨#[47, 47]⟩ ++ W ++ ⟨#[10]⟩), .string ⟨#[32, 47, 47, 32, 10]⟩, .string ⟨#[10, 47, 47, 10]⟩] 9)).heap.size := by simp
      generalize w1.alloc (.cells #[.string ⟨#[32]⟩, .string ⟨#[9]⟩, .string ⟨#[10]⟩, .string ⟨#[13, 10]⟩, .string ⟨#[32, 32]⟩, .string (⟨#[47, 47]⟩ ++ W ++ ⟨#[10]⟩), .string ⟨#[32, 47, 47, 32, 10]⟩, .string ⟨#[10, 47, 47, 10]⟩] 9) = w2 at *
      replace BW := Lib.hid (BW.out.trans (hb2.mono (by omega)))
      replace HGC := Lib.hid hgc
      clear hgc hb2 hwl
      generalize w1.heap.size = gs at *
      go_loopw [10, 54] (fun v i wr => ∃ k : Nat, k ≤ n ∧ i = .int .i64 k ∧ ∃ S : ByteArray, v = .string S ∧ S.size ≤ 1 + 138 * k ∧ Hid (Spaced (ts.take k) S) ∧ Hid ((ts.take k).all validT = true) ∧ Hid (Below w2.heap.size w2 wr)) (fun _ i _ => n - (intOf i).toNat)
      case atStart => exact ⟨0, Nat.zero_le _, rfl, ⟨#[10]⟩, rfl, Nat.le_refl _, Lib.hid spaced_nil, Lib.hid rfl, Lib.hid (Below.refl _ _)⟩
      case round =>
        obtain ⟨k, hk, rfl, S, rfl, hS, hsp, hval, hbw⟩ := hrel
        by_cases hlt : k < n
        · obtain ⟨x, hx⟩ : ∃ x, ts[k]? = some x := ⟨_, List.getElem?_eq_getElem (by rw [HN.out]; exact hlt)⟩
          have hxl := HT.out x (List.mem_of_getElem? hx)
          obtain ⟨b, o, rfl, t1, l1⟩ : ∃ b o, ao1 = some ⟨b, o, none⟩ ∧ TokAt w b o ts ∧ b < w.heap.size := by
            rcases HV.out with ⟨_, _, _, h0⟩ | ⟨b, o, c', he, t1, l1⟩
            · rw [h0] at hx; simp at hx
            · injection he with e1 e2 e3
              exact ⟨b, o, e1, t1, l1⟩
          have T1 := Lib.hid t1; clear t1
          obtain ⟨p0, p1, p2, p3⟩ := (T1.out.below (BW.out.trans (hbw.out.mono (by have := BW.out.size; omega))) l1) k x hx
          have HX := Lib.hid hx; clear hx
          have hlt' : (k : Int) < (n : Int) := by omega
          have hS := hbw.out.size
          have tz := tokAt_one (t := 35) x.kind x.num x.pos x.text (two_new wr (.cells #[.int .i64 x.kind, .string ⟨x.text.toArray⟩, .int .i64 x.num, .int .i64 x.pos] 35) (.cells #[.int .i64 x.kind, .string ⟨x.text.toArray⟩, .int .i64 x.num, .int .i64 x.pos] 35))
          have bz : Below wr.heap.size wr ((wr.alloc (.cells #[.int .i64 x.kind, .string ⟨x.text.toArray⟩, .int .i64 x.num, .int .i64 x.pos] 35)).alloc (.cells #[.int .i64 x.kind, .string ⟨x.text.toArray⟩, .int .i64 x.num, .int .i64 x.pos] 35)) := ((Below.refl _ wr).alloc (Nat.le_refl _) _).alloc (by simp) _
          have lz : wr.heap.size + 1 < ((wr.alloc (.cells #[.int .i64 x.kind, .string ⟨x.text.toArray⟩, .int .i64 x.num, .int .i64 x.pos] 35)).alloc (.cells #[.int .i64 x.kind, .string ⟨x.text.toArray⟩, .int .i64 x.num, .int .i64 x.pos] 35)).heap.size := by simp
          go_wp2_with fail
          generalize ((wr.alloc (.cells #[.int .i64 x.kind, .string ⟨x.text.toArray⟩, .int .i64 x.num, .int .i64 x.pos] 35)).alloc (.cells #[.int .i64 x.kind, .string ⟨x.text.toArray⟩, .int .i64 x.num, .int .i64 x.pos] 35)) = w3 at *
          have bz2 := (hbw.out.trans (bz.mono hS))
          have hBW := BW.out.size
          have bz3 := BW.out.trans (bz2.mono hBW)
          have BZ := Lib.hid bz2; have TZ := Lib.hid tz; have BZ3 := Lib.hid bz3
          clear bz bz2 bz3 tz hbw p0 p1 p2 p3
          generalize wr.heap.size = gw at *
          refine (text_any _ [x] w3 (HE.out.below BZ3.out) (Or.inr ⟨gw + 1, 0, 1, rfl, TZ.out, lz⟩) (by simp) (short_x hxl) (fun h => Nat.le_trans (textL_len h) (by simp))).mono ?_
          rintro e w4 ⟨h4, b4⟩
          have hz4 := b4.size
          replace BZ := Lib.hid (BZ.out.trans (b4.mono BZ.out.size))
          replace BZ3 := Lib.hid (BZ3.out.trans (b4.mono BZ3.out.size))
          clear b4
          cases hvx : validT x with
          | false =>
            rw [show [x].all validT = false by simp [hvx], if_neg (by decide)] at h4
            subst h4
            have HNA := Lib.hid (not_allV HX.out hvx)
            clear hvx
            go_wp2_with fail
            refine (text_any _ ts w4 (HE.out.below BZ3.out) (HV.out.below BZ3.out (Nat.le_refl _)) (by rw [HN.out]; omega) (fun t h => by have := HT.out t h; unfold maxLen; omega) (fun h => by rw [HNA.out] at h; cases h)).mono ?_
            rintro e w5 ⟨h5, b5⟩
            rw [HNA.out, if_neg (by decide)] at h5
            subst h5
            replace BZ3 := Lib.hid (BZ3.out.trans (b5.mono BZ3.out.size))
            clear b5
            go_wp2_with fail
            go_ret
            exact ⟨rfl, BZ3.out⟩
          | true =>
            have HVX := Lib.hid hvx
            rw [show [x].all validT = true by simp [hvx], if_pos rfl, textL_one] at h4
            subst h4
            have hwl := wordT_len hvx
            have hws : (⟨(wordT x).toArray⟩ : ByteArray).size = (wordT x).length := by show (wordT x).toArray.size = _; simp
            have HWS := Lib.hid hws
            clear hvx hws
            by_cases hkm : k < m
            · obtain ⟨u, hu⟩ : ∃ u, bs[k]? = some u := ⟨_, List.getElem?_eq_getElem (by rw [HM.out]; exact hkm)⟩
              rcases HBB.out with h0 | ⟨bb, oo, rfl, hbc, hbl⟩
              · rw [h0] at hu; simp at hu
              have hcu := hbc k u hu
              rw [← BZ3.out.cell (p := ⟨bb, oo + k, none⟩) hbl] at hcu
              obtain ⟨r, hr⟩ : ∃ r : Nat, r = u.toNat % 8 := ⟨_, rfl⟩
              have hri : (u.toNat : Int) % 8 = (r : Int) := by omega
              have hr8 : r < 8 := by omega
              have hgc := HGC.out r hr8
              rw [← BZ.out.cell (p := ⟨gs, r, none⟩) hgl] at hgc
              have hkm' : (k : Int) < (m : Int) := by omega
              have hub := UInt8.toNat_lt u
              have hgsz := gap_size hW r
              clear hbc hu hr
              go_wp2_with fail
              go_roundw
              case rel =>
                refine ⟨k + 1, by omega, by go_num, _, rfl, ?_, Lib.hid ?_, Lib.hid ?_, BZ⟩
                · have := gap_size hW r
                  rw [ByteArray.size_append, ByteArray.size_append, ByteArray.size_append, HWS.out, show (⟨#[32]⟩ : ByteArray).size = 1 from rfl]; omega
                · rw [List.take_add_one, HX.out]; exact spaced_snoc hsp.out HVX.out (gap_blank HWA.out r)
                · exact valid_words HX.out hval.out HVX.out
              case measure => simp [intOf]; omega
            · have hkm' : ¬ (k : Int) < (m : Int) := by omega
              go_wp2_with fail
              go_roundw
              case rel =>
                refine ⟨k + 1, by omega, by go_num, _, rfl, ?_, Lib.hid ?_, Lib.hid ?_, BZ⟩
                · rw [ByteArray.size_append, ByteArray.size_append, ByteArray.size_append, HWS.out, show (⟨#[32]⟩ : ByteArray).size = 1 from rfl]; omega
                · rw [List.take_add_one, HX.out]; exact spaced_snoc hsp.out HVX.out (blank_one (c := 32) (by decide))
                · exact valid_words HX.out hval.out HVX.out
              case measure => simp [intOf]; omega
        · obtain rfl : k = n := by omega
          have hin : ¬ (k : Int) < (k : Int) := by omega
          have hsp2 := hsp.out
          rw [List.take_of_length_le (by rw [HN.out]; exact Nat.le_refl _)] at hsp2
          obtain ⟨us, hu, hsame⟩ := spaced_lex hsp2
          have HU := Lib.hid hu; have HSA := Lib.hid hsame
          clear hu hsame hsp2 hsp hval
          have BZ3 := Lib.hid (BW.out.trans (hbw.out.mono BW.out.size))
          clear hbw
          go_wp2_with fail
          refine (lex_ok S us wr (HE.out.below BZ3.out) (by omega) HU.out).mono ?_
          rintro e w5 ⟨vm, rfl, om, b5⟩
          replace BZ3 := Lib.hid (BZ3.out.trans (b5.mono BZ3.out.size))
          have OM := Lib.hid (isToks_own om)
          clear om b5
          go_wp2_with fail
          refine (lsame_any _ vm ts us w5 (HV.out.below BZ3.out (Nat.le_refl _)) OM.out (by rw [HN.out]; omega)).mono ?_
          rw [HSA.out]
          rintro e w6 ⟨rfl, b6⟩
          replace BZ3 := Lib.hid (BZ3.out.trans (b6.mono BZ3.out.size))
          clear b6 OM
          go_wp2_with fail
          go_ret
          exact ⟨rfl, BZ3.out⟩

theorem lexSpaces_any (v vb : Value) (ts : List Tok) (bs : List UInt8) (s : ByteArray) (w : World) (hE : Env w) (hv : IsToks w v ts) (hn : ts.length ≤ 3518437208784) (ht : ∀ t ∈ ts, t.text.length ≤ 140737488351232) (hb : IsBytes w vb bs) (hs : s.size ≤ 140737488351232) :
    Calls Tryd.prog 8 #[v, vb, .string s] w fun e w' => e = .returned (.bool true) ∧ Below w.heap.size w w' := by
  by_cases h1 : fewT ts = false ∨ 100 < s.size
  · exact lexSpaces_many v vb ts s w hE hv hn ht hs h1
  · have hf : fewT ts = true := by
      cases h : fewT ts with
      | true => rfl
      | false => exact absurd (Or.inl h) h1
    have hs1 : s.size ≤ 100 := by
      rcases Nat.lt_or_ge 100 s.size with h | h
      · exact absurd (Or.inr h) h1
      · exact h
    obtain ⟨ao, c, rfl⟩ : ∃ ao c, v = .slice ao ts.length c := by
      rcases hv with ⟨ao, c, rfl, rfl⟩ | ⟨b, o, c, rfl, _⟩
      · exact ⟨ao, c, rfl⟩
      · exact ⟨_, c, rfl⟩
    exact lexSpaces_some ao c vb ts bs s w hE hv hf hs1 hb
end Go.Proofs.YtabdpmcdlojliaaDoor
