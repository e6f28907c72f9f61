/- The law LexJoined: it returns true. -/
import Derived.Test.YtabdpmcdlojliaaDoorG1
import Derived.Laws.AppendOwnNone
namespace Go.Proofs.YtabdpmcdlojliaaDoor
open Go.RowKit

/-- Lex, whatever the text. -/
theorem lex_all (src : ByteArray) (w : World) (hE : Env w) (hs : src.size ≤ 65536) :
    Calls Tryd.prog 12 #[.string src] w fun e w' => ∃ (v : Value) (p ce : Int), e = .returned (.tuple #[v, .int .i64 p, .int .i64 ce]) ∧ Below w.heap.size w w' := by
  refine (lex_any src w hE hs).mono ?_
  rintro e w' (⟨us, v, hr, rfl, ho, hb⟩ | ⟨p, hr, rfl, hb⟩)
  · exact ⟨_, _, _, rfl, hb⟩
  · exact ⟨_, _, _, rfl, hb⟩

theorem join_text (a b : ByteArray) : (a ++ ⟨#[10]⟩ ++ b).data.toList = a.data.toList ++ 10 :: b.data.toList := by simp
theorem join_size (a b : ByteArray) : (a ++ ⟨#[10]⟩ ++ b).size = a.size + b.size + 1 := by
  rw [ByteArray.size_append, ByteArray.size_append, show (⟨#[10]⟩ : ByteArray).size = 1 from rfl]; omega
theorem list_size (a : ByteArray) : a.data.toList.length = a.size := by simp

theorem lex_joined (a b : ByteArray) : lexAt 0 (a ++ ⟨#[10]⟩ ++ b).data.toList = (match lexAt 0 a.data.toList with
    | .error p => .error p | .ok ts => joinE ts (shiftE (a.size + 1) (lexAt 0 b.data.toList))) := by
  rw [join_text, lexAt_join]
  cases lexAt 0 a.data.toList with
  | error p => rfl
  | ok ts =>
    show joinE ts _ = joinE ts _
    rw [lexAt_skip (k := 1) (by unfold stepL; rw [if_pos (by decide)]), ← lexAt_shift, list_size]
    rw [Nat.zero_add, Nat.zero_add]
    rfl

theorem ownsRow_below {w w' : World} {base B : Nat} {e : TypeId} {size : Nat} {v : Value} {n : Nat} {xs : List Value} (h : w.ownsRow base e size v n xs) (hb : Below B w w') (hB : w.heap.size ≤ B := by omega) : w'.ownsRow base e size v n xs := by
  refine ⟨h.1, ?_⟩
  rcases h.2 with h2 | ⟨g, cap, cur, e1, e2, e3, r⟩
  · exact Or.inl h2
  · have hg : g < w.heap.size := (Array.getElem?_eq_some_iff.1 e3).1
    exact Or.inr ⟨g, cap, cur, e1, e2, (hb.block g (by omega)).trans e3, r⟩

/-- An append of another row, nil or not, onto a row of the call's own. -/
theorem wpList_append_rows {P : Program} {w : World} {ops : Array Oper} {rest : List Oper} {o : Oper} {a : Act} {Q : Exit → Act → World → Prop} (hgd : o.guard = none) (s x : Operand) (t : TypeId)
    (ho : o.op = .call { callee := .builtin .append, args := #[s, x], argTypes := #[t, t] })
    (base : Nat) (e : TypeId) (i : TypeInfo) (z : Value) (size bytes : Nat) (ht : P.underlying t = some (.slice e)) (hi : P.info? e = some i) (hz : i.zero = some z)
    (hsize : i.size = size) (hby : i.bytes = bytes) (hzs : z.cells.size = size) (hsz : 0 < size)
    (v : Value) (n : Nat) (xs : List Value) (hs : a.eval s = v) (hown : w.ownsRow base e size v n xs)
    (vx : Value) (base2 m : Nat) (news : List Value) (hx : a.eval x = vx) (hown2 : w.ownsRow base2 e size vx m news) (h1 : ∀ u ∈ news, u.oneCell' = true)
    (h63 : n + m ≤ maxLen) (hbytes : (n + m) * bytes ≤ 140737488355328) (hbase : base ≤ w.heap.size)
    (h : ∀ v' w', w'.ownsRow base e size v' (n + m) (xs ++ news) → Below base w w' → wpList P ops Q rest (a.put o.dst v') w') : wpList P ops Q (o :: rest) a w := by
  rcases hown2.2 with ⟨rfl, h0⟩ | ⟨g, cap, cur, rfl, hb, hg, _⟩
  · have hn : news = [] := List.eq_nil_of_length_eq_zero (by rw [hown2.1, h0]; simp)
    subst hn; subst h0
    exact wpList_append_own_none hgd s x t ho base e i size ht hi v n xs hs hown hx (h v w (by simpa using hown) (Below.refl _ _))
  · refine wpList_append_own (w := w) hgd s x t ho base e i z size bytes ht hi hz hsize hby hzs hsz v n xs hs hown ⟨g, 0, none⟩ m cap news hx hown2.1 (hown2.cells rfl) h1 h63 hbytes hbase ?_
    intro v' w' h2 h3 _
    exact h v' w' h2 ((Below.refl _ _).grown h3 hbase (fun k hk => (hown.lt k hk).1))

theorem cellsOf_one (ts : List Tok) : ∀ u ∈ cellsOf ts, u.oneCell' = true := by
  intro u hu
  unfold cellsOf at hu
  obtain ⟨t, _, ht⟩ := List.mem_flatMap.1 hu
  unfold cellsOfT at ht
  simp at ht
  rcases ht with rfl | rfl | rfl | rfl <;> rfl

theorem equalT_self (ts : List Tok) : equalT ts ts = true := by unfold equalT; simp

theorem two_new (w : World) (o o' : Obj) : ((w.alloc o).alloc o').heap[w.heap.size + 1]? = some o' := by
  have := heap_alloc_new (w.alloc o) o'; simpa using this
theorem shift_step {ts us : List Tok} {k d : Nat} {x : Tok} (h : us[k]? = some x) : cellsOf (ts ++ (us.take (k + 1)).map (shiftT (d + 1))) =
    cellsOf (ts ++ (us.take k).map (shiftT (d + 1))) ++ [.int .i64 x.kind, .string ⟨x.text.toArray⟩, .int .i64 x.num, .int .i64 (x.pos + ((d : Int) + 1))] := by
  rw [List.take_add_one, h]
  show cellsOf (ts ++ (us.take k ++ [x]).map _) = _
  rw [List.map_append, ← List.append_assoc, List.map_cons, List.map_nil, cellsOf_snoc]
  rfl

theorem lexAt_pos (pos : Nat) (l : List UInt8) : ∀ ts, lexAt pos l = .ok ts → ∀ t ∈ ts, 0 ≤ t.pos ∧ t.pos < pos + l.length := by
  refine lex_induct (motive := fun pos l => ∀ ts, lexAt pos l = .ok ts → ∀ t ∈ ts, 0 ≤ t.pos ∧ t.pos < pos + l.length) ?_ ?_ ?_ ?_ l.length pos l (Nat.le_refl _)
  · intro pos ts h; rw [lexAt_nil] at h; injection h with h; subst h; intro t ht; cases ht
  · intro pos c r hs ts h; rw [lexAt_err hs] at h; cases h
  · intro pos c r k hs _ ih ts h t ht
    have hk := step_len.1 k hs
    rw [lexAt_skip hs] at h
    have := ih ts h t ht
    rw [List.length_drop] at this; omega
  · intro pos c r k t hs _ ih ts h u hu
    have hk := step_len.2 k t hs
    rw [lexAt_tok hs] at h
    obtain ⟨us, hx, rfl⟩ := consT_ok h
    rcases List.mem_cons.1 hu with rfl | hu
    · rcases stepL_tok hs with ⟨_, _, _, rfl⟩ | ⟨_, _, _, rfl⟩ | ⟨_, _, _, rfl⟩ <;> simp <;> omega
    · have := ih us hx u hu
      rw [List.length_drop] at this; omega

set_option maxHeartbeats 1000000 in
theorem lexJoined_long (s m : ByteArray) (w : World) (hE : Env w) (hs : s.size ≤ 140737488351232) (hm : m.size ≤ 140737488351232) (hbig : 3000 < s.size + m.size) :
    Calls Tryd.prog 7 #[.string s, .string m] w fun e w' => e = .returned (.bool true) ∧ Below w.heap.size w w' := by
  have HE := Lib.hid hE; clear hE
  go_enter Tryd.func7, Tryd.ntmps7
  go_wp2_with (go_at_call 11; refine (sane_any _ HE.out).mono ?_; rintro e w1 ⟨rfl, b1⟩; have BW := Lib.hid b1; clear b1)
  go_ret
  exact ⟨rfl, BW.out⟩

set_option maxRecDepth 100000 in
set_option maxHeartbeats 2000000 in
theorem lexJoined_err (s m : ByteArray) (w : World) (hE : Env w) (hsz : s.size + m.size ≤ 3000) (p : Nat) (hok : lexAt 0 s.data.toList = .error p) :
    Calls Tryd.prog 7 #[.string s, .string m] w fun e w' => e = .returned (.bool true) ∧ Below w.heap.size w w' := by
  have HE := Lib.hid hE; clear hE
  have hj := lex_joined s m
  rw [hok] at hj
  have HJ := Lib.hid hj; clear hj
  have HK := Lib.hid hok; clear hok
  go_enter Tryd.func7, Tryd.ntmps7
  go_wp2_with fail
  refine (sane_any _ HE.out).mono ?_
  rintro e w1 ⟨rfl, b1⟩
  have BW := Lib.hid b1; clear b1
  go_wp2_with fail
  refine (lex_err s p w1 (HE.out.below BW.out) (by omega) HK.out).mono ?_
  rintro e w2 ⟨rfl, b2⟩
  have hz2 := b2.size
  replace BW := Lib.hid (BW.out.trans (b2.mono (by have := BW.out.size; omega)))
  clear b2
  go_wp2_with fail
  refine (lex_all m w2 (HE.out.below BW.out) (by omega)).mono ?_
  rintro e w3 ⟨vy, py, cy, rfl, b3⟩
  have hz3 := b3.size
  replace BW := Lib.hid (BW.out.trans (b3.mono (by have := BW.out.size; omega)))
  clear b3
  go_wp2_with fail
  refine (lex_err _ p w3 (HE.out.below BW.out) (by rw [join_size]; omega) HJ.out).mono ?_
  rintro e w4 ⟨rfl, b4⟩
  have hz4 := b4.size
  replace BW := Lib.hid (BW.out.trans (b4.mono (by have := BW.out.size; omega)))
  clear b4
  go_wp2_with fail
  go_ret
  exact ⟨rfl, BW.out⟩

set_option maxRecDepth 100000 in
set_option maxHeartbeats 2000000 in
theorem lexJoined_err2 (s m : ByteArray) (w : World) (hE : Env w) (hsz : s.size + m.size ≤ 3000) (p : Nat) (ts : List Tok) (hok : lexAt 0 s.data.toList = .ok ts) (hok2 : lexAt 0 m.data.toList = .error p) :
    Calls Tryd.prog 7 #[.string s, .string m] w fun e w' => e = .returned (.bool true) ∧ Below w.heap.size w w' := by
  have HE := Lib.hid hE; clear hE
  have hj := lex_joined s m
  rw [hok, hok2] at hj
  replace hj : lexAt 0 (s ++ ⟨#[10]⟩ ++ m).data.toList = .error (p + (s.size + 1)) := hj
  have HJ := Lib.hid hj; clear hj
  have hp := (lexAt_cut 0 m.data.toList p hok2).2.1
  rw [list_size] at hp
  have HK := Lib.hid hok; clear hok
  have HK2 := Lib.hid hok2; clear hok2
  have hpp : ((p + (s.size + 1) : Nat) : Int) = (p : Int) + (s.size : Int) + 1 := by omega
  have HP := Lib.hid hpp; clear hpp
  go_enter Tryd.func7, Tryd.ntmps7
  go_wp2_with fail
  refine (sane_any _ HE.out).mono ?_
  rintro e w1 ⟨rfl, b1⟩
  have BW := Lib.hid b1; clear b1
  go_wp2_with fail
  refine (lex_ok s ts w1 (HE.out.below BW.out) (by omega) HK.out).mono ?_
  rintro e w2 ⟨vx, rfl, _, b2⟩
  have hz2 := b2.size
  replace BW := Lib.hid (BW.out.trans (b2.mono (by have := BW.out.size; omega)))
  clear b2
  go_wp2_with fail
  refine (lex_err m p w2 (HE.out.below BW.out) (by omega) HK2.out).mono ?_
  rintro e w3 ⟨rfl, b3⟩
  have hz3 := b3.size
  replace BW := Lib.hid (BW.out.trans (b3.mono (by have := BW.out.size; omega)))
  clear b3
  go_wp2_with fail
  refine (lex_err _ _ w3 (HE.out.below BW.out) (by rw [join_size]; omega) HJ.out).mono ?_
  rintro e w4 ⟨rfl, b4⟩
  rw [HP.out]
  have hz4 := b4.size
  replace BW := Lib.hid (BW.out.trans (b4.mono (by have := BW.out.size; omega)))
  clear b4
  go_wp2_with fail
  go_ret
  exact ⟨ret_bool (by simp), BW.out⟩

set_option maxRecDepth 100000 in
set_option maxHeartbeats 2000000 in
theorem lexJoined_ok (s m : ByteArray) (w : World) (hE : Env w) (hsz : s.size + m.size ≤ 3000) (ts us : List Tok) (hok : lexAt 0 s.data.toList = .ok ts) (hok2 : lexAt 0 m.data.toList = .ok us) :
    Calls Tryd.prog 7 #[.string s, .string m] w fun e w' => e = .returned (.bool true) ∧ Below w.heap.size w w' := by
  have HE := Lib.hid hE; clear hE
  have hj := lex_joined s m
  rw [hok, hok2] at hj
  replace hj : lexAt 0 (s ++ ⟨#[10]⟩ ++ m).data.toList = .ok (ts ++ us.map (shiftT (s.size + 1))) := hj
  have hl1 := lexAt_len 0 _ _ hok
  have hl2 := lexAt_len 0 _ _ hok2
  rw [list_size] at hl1 hl2
  have hpos := lexAt_pos 0 _ _ hok2
  have HPOS := Lib.hid hpos; clear hpos
  have HJ := Lib.hid hj; clear hj
  have HK := Lib.hid hok; clear hok
  have HK2 := Lib.hid hok2; clear hok2
  go_enter Tryd.func7, Tryd.ntmps7
  go_wp2_with fail
  refine (sane_any _ HE.out).mono ?_
  rintro e w1 ⟨rfl, b1⟩
  have BW := Lib.hid b1; clear b1
  go_wp2_with fail
  refine (lex_ok s ts w1 (HE.out.below BW.out) (by omega) HK.out).mono ?_
  rintro e w2 ⟨vx, rfl, ox, b2⟩
  have hz2 := b2.size
  replace BW := Lib.hid (BW.out.trans (b2.mono (by have := BW.out.size; omega)))
  clear b2
  go_wp2_with fail
  refine (lex_ok m us w2 (HE.out.below BW.out) (by omega) HK2.out).mono ?_
  rintro e w3 ⟨vy, rfl, oy, b3⟩
  have hz3 := b3.size
  replace ox := ownsRow_below ox b3
  replace BW := Lib.hid (BW.out.trans (b3.mono (by have := BW.out.size; omega)))
  clear b3
  go_wp2_with fail
  refine (lex_ok _ _ w3 (HE.out.below BW.out) (by rw [join_size]; omega) HJ.out).mono ?_
  rintro e w4 ⟨vz, rfl, oz, b4⟩
  have hz4 := b4.size
  replace BW := Lib.hid (BW.out.trans (b4.mono (by have := BW.out.size; omega)))
  obtain ⟨i, hi, hz0, hz1, hz2'⟩ := info_parts Tryd.info35
  have HI := Lib.hid hi; have HZ0 := Lib.hid hz0; have HZ1 := Lib.hid hz1; have HZ2 := Lib.hid hz2'
  clear hi hz0 hz1 hz2'
  have hx4 := ownsRow_below ox b4
  have hy4 := ownsRow_below oy b4
  clear ox oy b4
  have HX := Lib.hid hx4; have HZ := Lib.hid oz
  clear hx4 oz
  rcases hy4.2 with ⟨rfl, h0⟩ | ⟨gy, cy, cur, rfl, hyb, hyg, _⟩
  · have hus : us = [] := List.length_eq_zero_iff.1 h0
    subst hus
    clear hy4 h0
    go_wp2_with (at_builtin; refine wpList_append_rows rfl (.tmp 82) (.tmp 83) 23 rfl w4.heap.size 35 i _ 4 40 Tryd.underlying23 HI.out HZ0.out HZ1.out HZ2.out rfl (by decide) (.slice (some ⟨w4.heap.size, 0, none⟩) 0 0) 0 [] (by simp [Act.eval]) ⟨rfl, Or.inr ⟨w4.heap.size, 0, #[], rfl, Nat.le_refl _, heap_alloc_new _ _, Nat.le_refl _, by decide, rfl, rfl⟩⟩ vx w1.heap.size ts.length (cellsOf ts) (by simp [Act.eval]) (HX.out.alloc _) (cellsOf_one ts) (by unfold maxLen; omega) (by omega) (by simp) ?_; intro va w5 oa ba; have OA := Lib.hid oa; have BA := Lib.hid ba; clear oa ba)
    have oa := OA.out
    rw [Nat.zero_add, List.nil_append] at oa
    have ba5 : Below w4.heap.size w4 w5 := ((Below.refl _ w4).alloc (Nat.le_refl _) _).trans BA.out
    have BA5 := Lib.hid ba5
    have OA' := Lib.hid oa
    have hz5 := ownsRow_below HZ.out ba5
    rw [List.map_nil, List.append_nil] at hz5
    clear ba5 oa BA OA HZ
    have HZ := Lib.hid hz5; clear hz5
    go_loop [14, 87] (fun v i => v = va ∧ i = .int .i64 0) (fun _ _ => 0)
    case atStart => exact ⟨rfl, rfl⟩
    case round =>
      obtain ⟨rfl, rfl⟩ := hrel
      go_wp2_with fail
      refine (equal_any _ _ ts ts w5 (isToks_own HZ.out) (isToks_own OA'.out) (by omega)).mono ?_
      rintro e w6 ⟨rfl, nd, rfl⟩
      rw [equalT_self]
      go_wp2_with fail
      go_ret
      exact ⟨rfl, below_drewN' nd (BW.out.trans (BA5.out.mono (by have := BW.out.size; omega)))⟩
  · have ty := tokAt_own hy4
    have gy4 : gy < w4.heap.size := (Array.getElem?_eq_some_iff.1 hyg).1
    have TY := Lib.hid ty; clear ty hy4 hyg
    generalize hnn : us.length = n at *
    have HN := Lib.hid hnn; clear hnn
    go_wp2_with (at_builtin; refine wpList_append_rows rfl (.tmp 82) (.tmp 83) 23 rfl w4.heap.size 35 i _ 4 40 Tryd.underlying23 HI.out HZ0.out HZ1.out HZ2.out rfl (by decide) (.slice (some ⟨w4.heap.size, 0, none⟩) 0 0) 0 [] (by simp [Act.eval]) ⟨rfl, Or.inr ⟨w4.heap.size, 0, #[], rfl, Nat.le_refl _, heap_alloc_new _ _, Nat.le_refl _, by decide, rfl, rfl⟩⟩ vx w1.heap.size ts.length (cellsOf ts) (by simp [Act.eval]) (HX.out.alloc _) (cellsOf_one ts) (by unfold maxLen; omega) (by omega) (by simp) ?_; intro va w5 oa ba; have OA := Lib.hid oa; have BA := Lib.hid ba; clear oa ba)
    have oa := OA.out
    rw [Nat.zero_add, List.nil_append] at oa
    have ba5 : Below w4.heap.size w4 w5 := ((Below.refl _ w4).alloc (Nat.le_refl _) _).trans BA.out
    have BA5 := Lib.hid ba5
    have OA' := Lib.hid oa
    clear ba5 oa BA OA
    go_loopw [14, 87] (fun v i wr => ∃ k : Nat, k ≤ n ∧ i = .int .i64 k ∧ Hid (wr.ownsRow w4.heap.size 35 4 v (ts.length + k) (cellsOf (ts ++ (us.take k).map (shiftT (s.size + 1))))) ∧ Hid (Below w4.heap.size w4 wr)) (fun _ i _ => n - (intOf i).toNat)
    case atStart => exact ⟨0, Nat.zero_le _, rfl, by simpa using OA', BA5⟩
    case round =>
      obtain ⟨k, hk, rfl, hov, hbw⟩ := hrel
      by_cases hlt : k < n
      · obtain ⟨x, hx⟩ : ∃ x, us[k]? = some x := ⟨_, List.getElem?_eq_getElem (by rw [HN.out]; exact hlt)⟩
        have hxp := HPOS.out x (List.mem_of_getElem? hx)
        obtain ⟨p0, p1, p2, p3⟩ := (TY.out.below hbw.out gy4) k x hx
        have HX2 := Lib.hid hx; clear hx
        rw [Nat.zero_add] at p0 p1 p2 p3
        have hx1 : 0 ≤ x.pos := hxp.1
        have hx2 : x.pos ≤ 3000 := by have := hxp.2; rw [list_size] at this; omega
        clear hxp
        have hlt' : (k : Int) < (n : Int) := by omega
        have hS := hbw.out.size
        have hkk : k * 4 < 12000 := by omega
        go_wp2_with (at_builtin; go_loud (refine wpList_append_own _ rfl (.tmp 98) (.tmp 100) 23 rfl w4.heap.size 35 i _ 4 40 Tryd.underlying23 HI.out HZ0.out HZ1.out HZ2.out rfl (by decide) _ (ts.length + k) _ rfl ((hov.out.alloc _).alloc _) ⟨wr.heap.size + 1, 0, none⟩ 1 1 [.int .i64 x.kind, .string ⟨x.text.toArray⟩, .int .i64 x.num, .int .i64 (x.pos + (s.size + 1))] rfl ?c3 ?c4 ?c5 ?c6 ?c7 ?c8 ?next))
        case c3 => rfl
        case c4 => exact news_cells (two_new _ _ _)
        case c5 => exact (four_one _ _ _ _ rfl rfl rfl rfl)
        case c6 => (unfold maxLen; omega)
        case c7 => omega
        case c8 => (simp; omega)
        case next =>
          intro v' w6 hO6 hg6 hn6
          have hgb : Below w4.heap.size wr w6 := (((Below.refl _ wr).alloc hS _).alloc (by simp; omega) _).trans ((Below.refl _ _).grown hg6 (by simp; omega) (fun q hq => (hov.out.lt q hq).1))
          have HGB := Lib.hid hgb; have HO6 := Lib.hid hO6
          clear hgb hO6 hg6 hn6
          go_wp2_with fail
          go_roundw
          case rel =>
            refine ⟨k + 1, by omega, by go_num, ?_, Lib.hid (hbw.out.trans HGB.out)⟩
            have := HO6.out
            rw [shift_step HX2.out]
            rw [← List.map_take] at this
            exact Lib.hid this
          case measure => simp [intOf]; omega
      · obtain rfl : k = n := by omega
        have hzr := ownsRow_below HZ.out hbw.out
        have hov2 := hov.out
        rw [← HN.out, List.take_length] at hov2
        have hll : (ts ++ us.map (shiftT (s.size + 1))).length = ts.length + us.length := by simp
        rw [← hll] at hov2
        have HA := Lib.hid (isToks_own hzr); have HB := Lib.hid (isToks_own hov2)
        clear hzr hov2 hll
        have hin : ¬ (k : Int) < (k : Int) := by omega
        go_wp2_with fail
        refine (equal_any _ _ _ _ wr HA.out HB.out (by simp only [List.length_append, List.length_map]; rw [HN.out]; omega)).mono ?_
        rintro e w6 ⟨rfl, nd, rfl⟩
        rw [equalT_self]
        go_wp2_with fail
        go_ret
        exact ⟨rfl, below_drewN' nd (BW.out.trans (hbw.out.mono (by have := BW.out.size; omega)))⟩

theorem lexJoined_any (s m : ByteArray) (w : World) (hE : Env w) (hs : s.size ≤ 140737488351232) (hm : m.size ≤ 140737488351232) :
    Calls Tryd.prog 7 #[.string s, .string m] w fun e w' => e = .returned (.bool true) ∧ Below w.heap.size w w' := by
  by_cases hbig : 3000 < s.size + m.size
  · exact lexJoined_long s m w hE hs hm hbig
  cases h : lexAt 0 s.data.toList with
  | error p => exact lexJoined_err s m w hE (by omega) p h
  | ok ts =>
    cases h2 : lexAt 0 m.data.toList with
    | error p => exact lexJoined_err2 s m w hE (by omega) p ts h h2
    | ok us => exact lexJoined_ok s m w hE (by omega) ts us h h2
end Go.Proofs.YtabdpmcdlojliaaDoor
