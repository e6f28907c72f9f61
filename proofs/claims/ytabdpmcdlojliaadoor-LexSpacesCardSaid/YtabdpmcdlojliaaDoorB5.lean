/- The contract of lex.Text. -/
import Derived.Test.YtabdpmcdlojliaaDoorB2
namespace Go.Proofs.YtabdpmcdlojliaaDoor
open Go.RowKit

/-- The word of a token. -/
def wordT (t : Tok) : List UInt8 := if t.kind = 2 then Lib.itoa t.num else t.text
def textL (ts : List Tok) : List UInt8 := Lib.join (ts.map wordT) [32]

theorem Tryd.info9 : (Tryd.prog.info? 9).map (fun i => (i.zero, i.size, i.bytes)) = some (some (.string ⟨#[]⟩), 1, 16) := by kernel_rfl

/-- The words of the first k tokens lie in the row. -/
def Words (wr : World) (G n k : Nat) (ts : List Tok) : Prop := ∃ cur : Array Value, wr.heap[G]? = some (.cells cur 9 (0, 0)) ∧ cur.size = n ∧ ∀ (j : Nat) (t : Tok), j < k → ts[j]? = some t → cur[j]? = some (.string ⟨(wordT t).toArray⟩)

theorem words_set {wr : World} {G n k : Nat} {ts : List Tok} {t : Tok} {cur : Array Value} (hG : wr.heap[G]? = some (.cells cur 9 (0, 0))) (hcs : cur.size = n) (hk : k < n) (ht : ts[k]? = some t)
    (hwd : ∀ (j : Nat) (t : Tok), j < k → ts[j]? = some t → cur[j]? = some (.string ⟨(wordT t).toArray⟩)) : Words (wr.setCell ⟨G, k, none⟩ (.string ⟨(wordT t).toArray⟩)) G n (k + 1) ts := by
  refine ⟨cur.setIfInBounds k (.string ⟨(wordT t).toArray⟩), heap_setCell_same hG k _, by simp [hcs], ?_⟩
  intro j t' hj ht'
  by_cases hjk : j = k
  · subst hjk
    have e := ht.symm.trans ht'; injection e with e; subst e
    rw [Array.getElem?_setIfInBounds_self, if_pos (by omega)]
  · rw [Array.getElem?_setIfInBounds_ne (by omega)]; exact hwd j t' (by omega) ht'
theorem cell_at {w : World} {S : Nat} {cs : Array Value} {t : TypeId} (h : w.heap[S]? = some (.cells cs t (0, 0))) (i : Nat) (hi : i < cs.size) : ∃ v, w.cell? ⟨S, i, none⟩ = some v := ⟨_, cell_of_block h i hi⟩

/-- What Text hands back. -/
def TextPost (ts : List Tok) (w : World) (e : Ending) (w' : World) : Prop :=
  (if ts.all validT = true then e = .returned (.tuple #[.string ⟨(textL ts).toArray⟩, .int .i64 0]) else e = .returned (.tuple #[.string ⟨#[]⟩, .int .i64 30])) ∧ Below w.heap.size w w'

theorem valid_words {ts : List Tok} {k : Nat} {t : Tok} (h : ts[k]? = some t) (ha : (ts.take k).all validT = true) (hv : validT t = true) : (ts.take (k + 1)).all validT = true := by
  rw [List.take_add_one, List.all_append, ha, h]; simp [hv]
theorem not_all {ts : List Tok} {k : Nat} {t : Tok} (h : ts[k]? = some t) (hv : validT t = false) : ts.all validT = false := by
  rw [List.all_eq_false]; exact ⟨t, List.mem_of_getElem? h, by rw [hv]; simp⟩
theorem validT_num_range {t : Tok} (h : validT t = true) (h2 : t.kind = 2) : 0 ≤ t.num ∧ t.num ≤ 1099511627776 := by
  unfold validT at h; rw [if_neg (by omega), if_pos h2] at h; simp at h; omega

set_option maxRecDepth 100000 in
set_option maxHeartbeats 2000000 in
theorem text_some (b o c : Nat) (ts : List Tok) (w : World) (hE : Env w) (h1 : TokAt w b o ts) (hb : b < w.heap.size) (hn : ts.length ≤ 65536) (hsh : ∀ t ∈ ts, t.text.length ≤ maxLen) (hlen : ts.all validT = true → (textL ts).length ≤ 140737488355328) :
    Calls Tryd.prog 16 #[.slice (some ⟨b, o, none⟩) ts.length c] w (TextPost ts w) := by
  have HE := Lib.hid hE; have H1 := Lib.hid h1; have HL := Lib.hid hlen; have HSH := Lib.hid hsh; clear hE h1 hlen hsh
  obtain ⟨i, hi, hz0, hz1, hz2⟩ := info_parts Tryd.info9
  have HI := Lib.hid hi; have HZ0 := Lib.hid hz0; have HZ1 := Lib.hid hz1; have HZ2 := Lib.hid hz2
  clear hi hz0 hz1 hz2
  generalize hnn : ts.length = n at *
  have HN := Lib.hid hnn; clear hnn
  go_enter Tryd.func16, Tryd.ntmps16
  go_wp2_with (at_make; refine wpList_make_full _ rfl (.tmp 8) (.tmp 8) 40 rfl w.heap.size 9 i (.string ⟨#[]⟩) 1 Tryd.underlying40 HI.out HZ0.out HZ1.out .i64 .i64 _ _ n rfl rfl rfl rfl (by rw [HZ2.out]; omega) (by unfold maxLen; omega) (Nat.le_refl _) ?_; intro w1 hown hgrow)
  have hB1 : Below w.heap.size w w1 := (Below.refl _ w).grown hgrow (Nat.le_refl _) (by simp)
  obtain ⟨cur1, hG1, hcs1⟩ : ∃ cur : Array Value, w1.heap[w.heap.size]? = some (.cells cur 9 (0, 0)) ∧ cur.size = n := by
    rcases hown.2 with ⟨h, _⟩ | ⟨g, cap, cur, hv, _, hg, _, _, hs, _⟩
    · cases h
    · injection hv with h1 h2 h3; injection h1 with h1; injection h1 with h1; subst h1; subst h3; exact ⟨cur, hg, by omega⟩
  have HB1 := Lib.hid hB1; have HG1 := Lib.hid hG1; have HC1 := Lib.hid hcs1
  clear hB1 hG1 hcs1 hown hgrow
  go_loopw [12] (fun i wr => ∃ k : Nat, k ≤ n ∧ i = .int .i64 k ∧ Below w.heap.size w wr ∧ Hid (Words wr w.heap.size n k ts) ∧ Hid ((ts.take k).all validT = true)) (fun i _ => n - (intOf i).toNat)
  case atStart => exact ⟨0, Nat.zero_le _, rfl, HB1.out, ⟨cur1, HG1.out, HC1.out, fun j t h => by omega⟩, by simp [Hid]⟩
  case round =>
    clear HB1 HG1 HC1
    obtain ⟨k, hk, rfl, hB, hW, hall⟩ := hrel
    have HB := Lib.hid hB
    obtain ⟨cur, hG, hcs, hwd⟩ := hW.out
    have hGl : w.heap.size < wr.heap.size := (Array.getElem?_eq_some_iff.1 hG).1
    have HG := Lib.hid hG; have HCS := Lib.hid hcs; have HWD := Lib.hid hwd
    clear hB hW hG hcs hwd
    by_cases hlt : k < n
    · obtain ⟨t, ht⟩ : ∃ t, ts[k]? = some t := ⟨_, List.getElem?_eq_getElem (by rw [HN.out]; exact hlt)⟩
      obtain ⟨p0, p1, p2, p3⟩ := H1.out.below HB.out hb k t ht
      have hts : (⟨t.text.toArray⟩ : ByteArray).size ≤ maxLen := by rw [size_mk]; exact HSH.out t (List.mem_of_getElem? ht)
      have HT := Lib.hid ht; clear ht
      go_wp2_with fail
      refine (valid_any t.kind ⟨t.text.toArray⟩ t.num t.pos _ hts).mono ?_
      rintro e w2 ⟨rfl, hb2⟩
      have hz2 : wr.heap.size + 1 ≤ w2.heap.size := by have := hb2.size; simpa using this
      have hT2 : w2.heap[wr.heap.size]? = some (.cells #[.int .i64 t.kind, .string ⟨t.text.toArray⟩, .int .i64 t.num, .int .i64 t.pos] 35 (0, 0)) := (hb2.block _ (by simp)).trans (heap_alloc_new wr _)
      have hG2 : w2.heap[w.heap.size]? = some (.cells cur 9 (0, 0)) := (hb2.block _ (by simp; omega)).trans ((Below.heap_alloc wr _ _ hGl).trans HG.out)
      have hB2 : Below w.heap.size w w2 := (HB.out.alloc (by omega) _).trans (hb2.mono (by simp; omega))
      have HT2 := Lib.hid hT2; have HG2 := Lib.hid hG2; have HB2 := Lib.hid hB2
      clear hT2 hG2 hB2 hb2 p0 p1 p2 p3
      rw [show (⟨t.text.toArray⟩ : ByteArray).data.toList = t.text from rfl]
      by_cases hv : validT t = true
      · rw [show (⟨t.kind, t.text, t.num, t.pos⟩ : Tok) = t from rfl, hv]
        have HV := Lib.hid hv
        clear hv
        by_cases h2 : t.kind = 2
        · have hk2 : (t.kind == 2) = true := by simpa using h2
          have hr := validT_num_range HV.out h2
          have HWT := Lib.hid (show wordT t = Lib.itoa t.num by unfold wordT; rw [if_pos h2])
          clear h2
          have t0 := cell_of_block HT2.out 0 (by simp)
          have t2 := cell_of_block HT2.out 2 (by simp)
          simp at t0 t2
          go_wp2_with fail
          refine (Tryd.strconv_Itoa _ (by omega) (by omega) w2 (HE.out.below HB2.out).tab).mono ?_
          rintro e w3 ⟨rfl, k3, os, rfl⟩
          have hb3 := below_growN w2 k3 os
          generalize Sort.grow (w2.drewN k3) os = w3 at *
          have hG3 := (hb3.block w.heap.size (by omega)).trans HG2.out
          have HB3 := Lib.hid (HB2.out.trans (hb3.mono (by omega)))
          obtain ⟨v3, g3⟩ := cell_at hG3 k (by rw [HCS.out]; exact hlt)
          have f3 := free_of_block hG3 k
          have HG3 := Lib.hid hG3
          clear hG3 hb3 t0 t2
          go_wp2_with fail
          go_roundw
          case rel => exact ⟨k + 1, by omega, by go_num, HB3.out.setCell (p := ⟨w.heap.size, k, none⟩) (Nat.le_refl _) _, by have := words_set HG3.out HCS.out hlt HT.out HWD.out; rw [HWT.out] at this; exact this, valid_words HT.out hall.out HV.out⟩
          case measure => simp [intOf]; omega
        · have hk2 : (t.kind == 2) = false := by simpa using h2
          have HWT := Lib.hid (show wordT t = t.text by unfold wordT; rw [if_neg h2])
          clear h2
          have t0 := cell_of_block HT2.out 0 (by simp)
          have t1 := cell_of_block HT2.out 1 (by simp)
          simp at t0 t1
          obtain ⟨v3, g3⟩ := cell_at HG2.out k (by rw [HCS.out]; exact hlt)
          have f3 := free_of_block HG2.out k
          have HG3 := HG2
          have HB3 := HB2
          go_wp2_with fail
          go_roundw
          case rel => exact ⟨k + 1, by omega, by go_num, HB3.out.setCell (p := ⟨w.heap.size, k, none⟩) (Nat.le_refl _) _, by have := words_set HG3.out HCS.out hlt HT.out HWD.out; rw [HWT.out] at this; exact this, valid_words HT.out hall.out HV.out⟩
          case measure => simp [intOf]; omega
      · have hv' : validT t = false := by simpa using hv
        rw [show (⟨t.kind, t.text, t.num, t.pos⟩ : Tok) = t from rfl, hv']
        have HV := Lib.hid hv'
        clear hv hv'
        go_wp2_with fail
        go_ret2
        refine ⟨?_, HB2.out⟩
        rw [not_all HT.out HV.out]; rfl
    · obtain rfl : k = n := by omega
      have hav : ts.all validT = true := by have := hall.out; rwa [List.take_of_length_le (by rw [HN.out]; omega)] at this
      have hxl : (ts.map fun t => (⟨(wordT t).toArray⟩ : ByteArray)).length = k := by rw [List.length_map, HN.out]
      have hmm : (ts.map fun t => (⟨(wordT t).toArray⟩ : ByteArray)).map (fun x => x.data.toList) = ts.map wordT := by rw [List.map_map]; rfl
      have hj := Tryd.strings_Join w.heap.size 0 k (ts.map fun t => (⟨(wordT t).toArray⟩ : ByteArray)) ⟨#[32]⟩ wr
        (fun j x hx => by
          rw [List.getElem?_map] at hx
          cases ht : ts[j]? with
          | none => rw [ht] at hx; cases hx
          | some t =>
            rw [ht] at hx; injection hx with hx; subst hx
            have hjl : j < k := by
              rcases Nat.lt_or_ge j k with h | h
              · exact h
              · rw [List.getElem?_eq_none (by rw [HN.out]; exact h)] at ht; cases ht
            rw [show 0 + j = j by omega]; have := HWD.out j t hjl ht; simp [World.cell?, HG.out, this])
        hGl (by rw [hxl]; omega) (by rw [hxl]; exact Nat.le_refl _) (by rw [hmm]; exact HL.out hav)
      rw [hmm, hxl] at hj
      have HJ := Lib.hid hj
      have HAV := Lib.hid hav
      clear hj hxl hmm hav
      go_wp2_with (go_at_call 38; refine HJ.out.mono ?_; rintro e w2 ⟨rfl, hb2⟩; have J2 := Lib.hid hb2; clear hb2)
      go_ret2
      refine ⟨?_, HB.out.trans (J2.out.mono (by omega))⟩
      rw [HAV.out]; rfl

set_option maxHeartbeats 1000000 in
theorem text_zero (ao : Option Addr) (c : Nat) (w : World) :
    Calls Tryd.prog 16 #[.slice ao 0 c] w (TextPost [] w) := by
  obtain ⟨i, hi, hz0, hz1, hz2⟩ := info_parts Tryd.info9
  have HI := Lib.hid hi; have HZ0 := Lib.hid hz0; have HZ1 := Lib.hid hz1; have HZ2 := Lib.hid hz2
  clear hi hz0 hz1 hz2
  go_enter Tryd.func16, Tryd.ntmps16
  go_wp2_with (at_make; refine wpList_make_full _ rfl (.tmp 8) (.tmp 8) 40 rfl w.heap.size 9 i (.string ⟨#[]⟩) 1 Tryd.underlying40 HI.out HZ0.out HZ1.out .i64 .i64 _ _ 0 rfl rfl rfl rfl (by omega) (by unfold maxLen; omega) (Nat.le_refl _) ?_; intro w1 hown hgrow)
  have hB1 : Below w.heap.size w w1 := (Below.refl _ w).grown hgrow (Nat.le_refl _) (by simp)
  have HB1 := Lib.hid hB1; clear hB1 hown hgrow
  go_loop [12] (fun i => i = .int .i64 0) (fun _ => 0)
  case atStart => rfl
  case round =>
    obtain rfl := hrel
    go_wp2_with (go_at_call 38; refine (Tryd.strings_Join_none _ 0 _ _).mono ?_; rintro e w2 ⟨rfl, hw⟩; obtain rfl := hw.symm; clear hw)
    go_ret2
    exact ⟨rfl, HB1.out⟩

theorem text_any (v : Value) (ts : List Tok) (w : World) (hE : Env w) (h1 : IsToks w v ts) (hn : ts.length ≤ 65536) (hsh : ∀ t ∈ ts, t.text.length ≤ maxLen) (hlen : ts.all validT = true → (textL ts).length ≤ 140737488355328) :
    Calls Tryd.prog 16 #[v] w (TextPost ts w) := by
  rcases h1 with ⟨ao, c, rfl, rfl⟩ | ⟨b, o, c, rfl, t1, l1⟩
  · exact text_zero ao c w
  · exact text_some b o c ts w hE t1 l1 hn hsh hlen

/-! ### Valid tokens have short words -/
theorem decDigits_len : ∀ (k u : Nat), u < 10 ^ (k + 1) → (Lib.decDigits u).length ≤ k + 1
  | 0, u, h => by rw [Lib.decDigits_one (by omega)]; simp
  | k + 1, u, h => by
    rw [Lib.decDigits]
    split
    · simp
    · rw [List.length_append]
      have := decDigits_len k (u / 10) (by rw [Nat.pow_succ] at h; omega)
      simp; omega
theorem wordT_len {t : Tok} (h : validT t = true) : (wordT t).length ≤ 32 := by
  unfold wordT
  by_cases h2 : t.kind = 2
  · rw [if_pos h2]
    have hr := validT_num_range h h2
    obtain ⟨u, hu⟩ := Int.eq_ofNat_of_zero_le hr.1
    rw [hu, show Lib.itoa (u : Int) = Lib.decDigits u from Lib.itoa_nonneg u]
    have := decDigits_len 12 u (by omega)
    omega
  · rw [if_neg h2]
    unfold validT at h
    by_cases h1 : t.kind = 1
    · rw [if_pos h1] at h
      unfold nameOk at h; simp at h; exact h.1.1.2
    rw [if_neg h1, if_neg h2] at h
    by_cases h3 : t.kind = 3
    · rw [if_pos h3] at h
      cases hx : t.text with
      | nil => simp
      | cons c r =>
        cases r with
        | nil => simp
        | cons d r => rw [hx] at h; simp at h
    · rw [if_neg h3] at h; cases h
theorem join_len_le (sep : List UInt8) (m : Nat) : ∀ (xs : List (List UInt8)), (∀ x ∈ xs, x.length ≤ m) → (Lib.join xs sep).length ≤ xs.length * (m + sep.length)
  | [], _ => by rw [Lib.join_nil]; simp
  | [x], h => by rw [Lib.join_one]; have := h x (by simp); simp; omega
  | x :: y :: r, h => by
    have ih := join_len_le sep m (y :: r) (fun z hz => h z (by simp at hz ⊢; exact Or.inr hz))
    have hx := h x (by simp)
    have e : Lib.join (x :: y :: r) sep = x ++ sep ++ Lib.join (y :: r) sep := by simp [Lib.join, List.intercalate, List.intersperse]
    rw [e, List.length_append, List.length_append, List.length_cons, Nat.add_mul]
    omega
theorem textL_len {ts : List Tok} (h : ts.all validT = true) : (textL ts).length ≤ ts.length * 33 := by
  unfold textL
  have := join_len_le [32] 32 (ts.map wordT) (fun x hx => by
    rw [List.mem_map] at hx
    obtain ⟨t, ht, rfl⟩ := hx
    exact wordT_len (List.all_eq_true.1 h t ht))
  simpa using this
end Go.Proofs.YtabdpmcdlojliaaDoor
