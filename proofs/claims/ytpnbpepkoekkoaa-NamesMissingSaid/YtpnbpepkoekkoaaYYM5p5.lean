/- The walk of the statement: part 5. -/
import Derived.Test.YtpnbpepkoekkoaaYYM5p1
import Derived.Test.YtpnbpepkoekkoaaYYM5p3
import Derived.Test.YtpnbpepkoekkoaaYYM5p4
import Derived.StillTailTactics
import Derived.Laws.Rows
import Derived.BigQuiet
import Derived.BigCall
import Derived.BigGuard
set_option linter.unusedVariables false
set_option linter.unusedSimpArgs false
section
namespace Go.Proofs.Ytpnbpepkoekkoaa
open Go Go.RowKit Go.Deep
theorem region_tail {P : Program} (S : World → Prop) {id : Nat} {Q : Exit → Act → World → Prop} {a : Act} {w : World} {l : List Oper} (n : Nat) (hm : P.follows .mixedOrders = true) (hB : Region.lexTailB .any l.toArray n = true) (hS : S w.drew)
  (h : ∀ w2, S w2 → wpStill P l.toArray w2 (fun a' => wpList P l.toArray Q (l.drop n) a' w2) (l.take n) a) : (Code.region id l.toArray true).wp P Q a w :=
 wp_region_still_tail n hm hB (h _ hS)
structure TurnR (rs row : List Rol) (i : Nat) : Prop where
 len : row.length = rs.length
 get : ∀ j, j < rs.length → row[j]? = if rs.length ≤ j + i then rs[rs.length - 1 - j]? else rs[j]?
theorem TurnR.zero (rs : List Rol) : TurnR rs rs 0 := ⟨rfl, fun j hj => by rw [if_neg (by omega)]⟩
theorem TurnR.next {rs row : List Rol} {i k : Nat} {p : Rol} (h : TurnR rs row i) (hp : rs[i]? = some p) (hk : rs.length = k + 1 + i) : TurnR rs (row.set k p) (i + 1) := by
 refine ⟨by rw [List.length_set]; exact h.len, fun j hj => ?_⟩
 rw [List.getElem?_set]
 by_cases e : k = j
 ·subst e
  rw [if_pos rfl, if_pos (by rw [h.len]; exact hj), if_pos (by omega), show rs.length - 1 - k = i by omega, hp]
 ·rw [if_neg e, h.get j hj]
  by_cases h1 : rs.length ≤ j + i
  ·rw [if_pos h1, if_pos (by omega)]
  ·rw [if_neg h1, if_neg (by omega)]
theorem TurnR.done {rs row : List Rol} (h : TurnR rs row rs.length) : row = rs.reverse := by
 refine List.ext_getElem? fun j => ?_
 by_cases hj : j < rs.length
 ·rw [h.get j hj, if_pos (by omega), List.getElem?_reverse hj]
 ·rw [List.getElem?_eq_none (by rw [h.len]; omega), List.getElem?_eq_none (by rw [List.length_reverse]; omega)]
end Go.Proofs.Ytpnbpepkoekkoaa
end
section
namespace Go.Proofs.Ytpnbpepkoekkoaa
open Go Go.RowKit Go.Deep
def chgN (f : RefL → Int → Int) : List RefL → List Int → List Int
 | r :: rs, k :: ks => f r k :: chgN f rs ks
 | _, _ => []
theorem chgN_append {f : RefL → Int → Int} : ∀ {a b : List RefL} {ks ls : List Int}, ks.length = a.length → chgN f (a ++ b) (ks ++ ls) = chgN f a ks ++ chgN f b ls
 | [], _, [], _, _ => rfl
 | _ :: a, b, _ :: ks, ls, h => by
  simp only [List.cons_append, chgN]
  rw [chgN_append (by simpa using h)]
theorem chgN_len {f : RefL → Int → Int} : ∀ {a : List RefL} {ks : List Int}, ks.length = a.length → (chgN f a ks).length = a.length
 | [], [], _ => rfl
 | _ :: a, _ :: ks, h => by simp only [chgN, List.length_cons]; rw [chgN_len (by simpa using h)]
theorem chgN_id {f : RefL → Int → Int} : ∀ {a : List RefL} {ks : List Int}, ks.length = a.length → (∀ r ∈ a, ∀ k, f r k = k) → chgN f a ks = ks
 | [], [], _, _ => rfl
 | r :: a, k :: ks, h, hf => by simp only [chgN]; rw [hf r (by simp), chgN_id (by simpa using h) fun r hr => hf r (by simp [hr])]
theorem NsAt.cut {w : World} {xs ys : List RefL} {ks ls : List Int} (h : NsAt w (xs ++ ys) (ks ++ ls)) (hl : ks.length = xs.length) : NsAt w xs ks ∧ NsAt w ys ls := by
 obtain ⟨a, b, e, h1, h2⟩ := h.split
 obtain ⟨rfl, rfl⟩ := List.append_inj e (by rw [hl, h1.len])
 exact ⟨h1, h2⟩
structure ChgW (f : RefL → Int → Int) (Wb : World) (Z B0 : Nat) (z : Ls) (ks : List Int) (v : Value) (i : Nat) (W : World) : Prop where
 below : Below Wb.heap.size Wb W
 ph : phAt W (blk z.fa) (off z.fa) z.phrases
 da : danAt W (blk z.da) (off z.da) z.dances
 box : W.heap[Z]? = some (.cells z.cells 30 (0, 0))
 free : ∀ r ∈ z.refs, FreeB W r.b
 row : W.ownsRow B0 48 2 v (ptrs z.refs).length ((ptrs z.refs).flatMap encQ)
 ns : ∃ pre rest kp kr, z.refs = pre ++ rest ∧ ptrs rest = (ptrs z.refs).drop i ∧ ks = kp ++ kr ∧ kp.length = pre.length ∧ NsAt W z.refs (chgN f pre kp ++ kr)
structure ChgB (f : RefL → Int → Int) (Wb : World) (Z B0 : Nat) (z : Ls) : Prop where
 sep : z.Sep
 ge : ∀ r ∈ z.refs, Wb.heap.size ≤ r.b ∧ r.b ≠ Z ∧ r.b < B0
 id : ∀ r k, r.to = 0 → f r k = k
variable {f : RefL → Int → Int} {Wb : World} {Z B0 : Nat} {z : Ls} {ks : List Int} {v : Value} {i : Nat} {W : World}
theorem ChgW.alloc (h : ChgW f Wb Z B0 z ks v i W) {W' : World} (hb : Below W.heap.size W W') : ChgW f Wb Z B0 z ks v i W' := by
 obtain ⟨pre, rest, kp, kr, h1, h2, h3, h4, h5⟩ := h.ns
 exact ⟨h.below.trans (hb.mono h.below.size), phAt_below hb h.ph, danAt_below hb h.da, keepO hb h.box, fun r hr => (h.free r hr).below hb, own_below h.row hb, pre, rest, kp, kr, h1, h2, h3, h4, h5.below hb⟩
theorem ChgW.at_ (hB : ChgB f Wb Z B0 z) (h : ChgW f Wb Z B0 z ks v i W) {r : RefL} (hr : (ptrs z.refs)[i]? = some r) :
  r.to ≠ 0 ∧ ∃ pre rest kp k kr, z.refs = pre ++ r :: rest ∧ ptrs rest = (ptrs z.refs).drop (i + 1) ∧ ks = kp ++ k :: kr ∧ kp.length = pre.length ∧ NsAt W z.refs (chgN f pre kp ++ k :: kr) := by
 obtain ⟨pre, rest, kp, kr, h1, h2, h3, h4, h5⟩ := h.ns
 rw [drop_at hr] at h2
 unfold ptrs at h2
 obtain ⟨zs, rest', rfl, hz, hp, hd⟩ := List.filter_eq_cons_iff.1 h2
 rw [h1] at h5
 obtain ⟨_, h7⟩ := h5.cut (chgN_len h4)
 obtain ⟨kz, kr', rfl, h8, h9⟩ := h7.split
 cases kr' with
 | nil => exact h9.elim
 | cons k kr' =>
 have hzl := h8.len
 refine ⟨by simpa using hp, pre ++ zs, rest', kp ++ kz, k, kr', by rw [h1]; simp, ?_, by rw [h3]; simp, by simp [h4, hzl], ?_⟩
 ·unfold ptrs; rw [hd]
 ·rw [chgN_append h4, chgN_id (f := f) hzl fun r hr k => hB.id r k (by simpa using hz r hr), h1, List.append_assoc]
  exact h5
theorem ChgW.cell (hB : ChgB f Wb Z B0 z) (h : ChgW f Wb Z B0 z ks v i W) {r : RefL} (hr : (ptrs z.refs)[i]? = some r) :
  ∃ pre rest kp k kr, z.refs = pre ++ r :: rest ∧ ks = kp ++ k :: kr ∧ kp.length = pre.length ∧ W.cell? ⟨r.b, r.o + 1, none⟩ = some (.int .i64 k) ∧
   (f r k = k → ChgW f Wb Z B0 z ks v (i + 1) W) ∧ ChgW f Wb Z B0 z ks v (i + 1) (W.setCell ⟨r.b, r.o + 1, none⟩ (.int .i64 (f r k))) := by
 obtain ⟨_, pre, rest, kp, k, kr, h1, h2, h3, h4, h5⟩ := h.at_ hB hr
 have h6 := h5
 rw [h1] at h6
 obtain ⟨h7, h8⟩ := h6.cut (chgN_len h4)
 have hm : r ∈ z.refs := by rw [h1]; simp
 obtain ⟨g1, g2, g3⟩ := hB.ge r hm
 have hk1 : (kp ++ [k]).length = (pre ++ [r]).length := by simp [h4]
 have hc : ∀ x : Int, x = f r k → chgN f (pre ++ [r]) (kp ++ [k]) ++ kr = chgN f pre kp ++ x :: kr := fun x hx => by
  rw [chgN_append h4, hx]; simp [chgN]
 refine ⟨pre, rest, kp, k, kr, h1, h3, h4, h8.1, fun hid => ⟨h.below, h.ph, h.da, h.box, h.free, h.row, pre ++ [r], rest, kp ++ [k], kr, by rw [h1]; simp, h2, by rw [h3]; simp, hk1, by rw [hc k hid.symm]; exact h5⟩, ?_⟩
 obtain ⟨s1, s2⟩ := hB.sep.set (v := .int .i64 (f r k)) hm h.ph h.da
 refine ⟨h.below.setCell (p := ⟨r.b, r.o + 1, none⟩) g1 _, s1, s2, (Below.heap_setCell _ _ _ _ (fun e => g2 e.symm)).trans h.box, fun x hx => (h.free x hx).set _ _, own_same h.row (fun g hg => Below.heap_setCell _ _ _ _ (fun e => ?_)), pre ++ [r], rest, kp ++ [k], kr, by rw [h1]; simp, h2, by rw [h3]; simp, hk1, ?_⟩
 ·have := (own_lt h.row hg).1
  have e2 : g = r.b := e
  omega
 ·rw [hc _ rfl, h1]
  have hap : PlacesApart (pre ++ r :: rest) := by rw [← h1]; exact hB.sep.apart
  obtain ⟨n1, n2⟩ := NsAt.set (n := f r k) hap h7 h8
  exact n1.append n2
end Go.Proofs.Ytpnbpepkoekkoaa
end
section
namespace Go.Proofs.Ytpnbpepkoekkoaa
open Go Go.RowKit Go.Deep
theorem ChgW.done {f : RefL → Int → Int} {Wb : World} {Z B0 : Nat} {z : Ls} {ks : List Int} {v : Value} {W : World} (hB : ChgB f Wb Z B0 z) (h : ChgW f Wb Z B0 z ks v (ptrs z.refs).length W) : NsAt W z.refs (chgN f z.refs ks) := by
 obtain ⟨pre, rest, kp, kr, h1, h2, h3, h4, h5⟩ := h.ns
 rw [List.drop_of_length_le (Nat.le_refl _)] at h2
 have hz : ∀ r ∈ rest, r.to = 0 := fun r hr => by
  have := (List.filter_eq_nil_iff.1 h2) r hr
  simpa using this
 have h6 := h5
 rw [h1] at h6
 obtain ⟨_, h7⟩ := h6.cut (chgN_len h4)
 have e : chgN f z.refs ks = chgN f pre kp ++ kr := by
  rw [h3, h1, chgN_append h4, chgN_id (f := f) h7.len fun r hr k => hB.id r k (hz r hr)]
 rw [e]; exact h5
theorem ChgW.first {f : RefL → Int → Int} {Wb : World} {Z B0 : Nat} {z : Ls} {ks : List Int} {v : Value} {W : World} (hb : Below Wb.heap.size Wb W) (hA : z.At W) (hZ : W.heap[Z]? = some (.cells z.cells 30 (0, 0))) (hF : ∀ r ∈ z.refs, FreeB W r.b) (hr : W.ownsRow B0 48 2 v (ptrs z.refs).length ((ptrs z.refs).flatMap encQ)) (hN : NsAt W z.refs ks) : ChgW f Wb Z B0 z ks v 0 W :=
 ⟨hb, hA.phrases, hA.dances, hZ, hF, hr, [], z.refs, [], ks, rfl, rfl, rfl, rfl, hN⟩
end Go.Proofs.Ytpnbpepkoekkoaa
end
section
namespace Go.Proofs.Ytpnbpepkoekkoaa
open Go Go.RowKit Go.Deep
theorem row_keep {α : Type} {enc : α → List Value} {k g n c : Nat} {W W' : World} {xs : List α} (h : IsRow enc k W (.slice (some ⟨g, 0, none⟩) n c) xs) (hb : W'.heap[g]? = W.heap[g]?) (hl : W.heap.size ≤ W'.heap.size) : IsRow enc k W' (.slice (some ⟨g, 0, none⟩) n c) xs := by
 obtain ⟨ao, c', e, h1, h2⟩ := h
 refine ⟨ao, c', e, h1, ?_⟩
 rcases h2 with h2 | ⟨b, o, e2, h3, h4⟩
 ·exact Or.inl h2
 ·injection e with e3 _ _
  rw [← e3] at e2
  injection e2 with e2
  injection e2 with e4 e5
  subst e4
  exact Or.inr ⟨g, o, by rw [← e3, ← e5], fun i x hx j v hv => (World.cell?_of_block hb).trans (h3 i x hx j v hv), by omega⟩
def zeroR (r : RefL) (k : Int) : Int := if r.to = 0 then k else 0
def KeepR (z : Ls) (W0 W : World) : Prop := W0.heap.size ≤ W.heap.size ∧ ∀ b, b < W0.heap.size → (∀ r ∈ z.refs, r.b ≠ b) → W.heap[b]? = W0.heap[b]?
theorem KeepR.below {z : Ls} {W0 W W' : World} (h : KeepR z W0 W) (hb : Below W.heap.size W W') : KeepR z W0 W' := ⟨Nat.le_trans h.1 hb.size, fun b hl hr => (hb.block b (Nat.lt_of_lt_of_le hl h.1)).trans (h.2 b hl hr)⟩
theorem KeepR.set {z : Ls} {W0 W : World} (h : KeepR z W0 W) {r : RefL} (hr : r ∈ z.refs) (q : Nat) (v : Value) : KeepR z W0 (W.setCell ⟨r.b, q, none⟩ v) := ⟨by simpa [World.setCell] using h.1, fun b hl hb => (Below.heap_setCell _ _ _ _ (fun e => hb r hr e.symm)).trans (h.2 b hl hb)⟩
noncomputable def code18 : Code := (Try.f18.body).getD .skip
noncomputable def elem18n2 : Code := fst2 (lastPart 2 code18)
noncomputable def loop18 : Code := loopC (blkC (snd2 elem18n2))
noncomputable def inner18 : Code := snd2 (blkC (fst2 (snd2 (snd2 loop18))))
set_option maxRecDepth 100000 in
set_option maxHeartbeats 16000000 in
theorem alk_inner (Z : Nat) (z : Ls) (ks : List Int) (Wb W : World) (hb : Below Wb.heap.size Wb W) (hZ : W.heap[Z]? = some (.cells z.cells 30 (0, 0))) (hz : z.At W) (hN : NsAt W z.refs ks) (hsep : z.Sep) (hrefs : ∀ r ∈ z.refs, Wb.heap.size ≤ r.b ∧ r.b ≠ Z ∧ FreeB W r.b) (hR : IsRow encT 3 Wb (.slice z.ta z.tempos.length z.tc) z.tempos ∧ IsRow encP 4 Wb (.slice z.ua z.pauses.length z.uc) z.pauses ∧ IsRow encC 4 Wb (.slice z.sa z.spans.length z.sc) z.spans) (g : Nat) (hra : z.ra = some ⟨g, 0, none⟩) (hgl : g < W.heap.size) (hgr : ∀ r ∈ z.refs, r.b ≠ g) (hlen : (ptrs z.refs).length ≤ 1000000) (e0 e1 e2 e3 e4 e5 e7 e8 e9 e10 e11 e12 e13 e14 e15 e16 e17 e18 e19 e20 e21 e22 e23 e24 e25 e26 e27 e28 e29 e30 e31 e32 e33 e34 : Value) (K : Act → World → Prop)
  (hK : ∀ W', NsAt W' z.refs (chgN zeroR z.refs ks) → z.At W' → W'.heap[Z]? = some (.cells z.cells 30 (0, 0)) → Below Wb.heap.size Wb W' → KeepR z W W' → (∀ r ∈ z.refs, FreeB W' r.b) → ∀ (f8 f19 f20 f21 f22 f23 f24 f25 f26 f27 f28 f29 f30 : Value), K { tmps := #[e0, e1, e2, e3, e4, e5, .pointer (some ⟨Z, 0, none⟩), e7, f8, e9, e10, e11, e12, e13, e14, e15, e16, e17, e18, f19, f20, f21, f22, f23, f24, f25, f26, f27, f28, f29, f30, e31, e32, e33, e34], defers := [] } W') :
  inner18.wp Try.prog (Exit.then K (fun _ _ _ => False)) { tmps := #[e0, e1, e2, e3, e4, e5, .pointer (some ⟨Z, 0, none⟩), e7, e8, e9, e10, e11, e12, e13, e14, e15, e16, e17, e18, e19, e20, e21, e22, e23, e24, e25, e26, e27, e28, e29, e30, e31, e32, e33, e34], defers := [] } W := by
 have C := pointers_any z Z W hZ hz hlen
 unfold PtrP at C
 have hC2 : Calls Try.prog 21 #[.pointer (some ⟨Z, 0, none⟩)] W fun e w' => ∃ v, e = .returned v ∧ w'.ownsRow W.heap.size 48 2 v (ptrs z.refs).length ((ptrs z.refs).flatMap encQ) ∧ Below W.heap.size W w' := C
 have hcB : ChgB zeroR Wb Z W.heap.size z := ⟨hsep, fun r hr => ⟨(hrefs r hr).1, (hrefs r hr).2.1, (hrefs r hr).2.2.lt⟩, fun r k h => by unfold zeroR; rw [if_pos h]⟩
 have hW0 : ∀ v w', w'.ownsRow W.heap.size 48 2 v (ptrs z.refs).length ((ptrs z.refs).flatMap encQ) → Below W.heap.size W w' → ChgW zeroR Wb Z W.heap.size z ks v 0 w' ∧ KeepR z W w' := fun v w' hr hb2 => ⟨ChgW.first (hb.trans (hb2.mono hb.size)) (hz.below hb2) (keepO hb2 hZ) (fun r hm => (hrefs r hm).2.2.below hb2) hr (hN.below hb2), hb2.size, fun b hl _ => hb2.block b hl⟩
 have hzb : ∀ W' : World, Below Wb.heap.size Wb W' → KeepR z W W' → phAt W' (blk z.fa) (off z.fa) z.phrases → danAt W' (blk z.da) (off z.da) z.dances → z.At W' := fun W' hb2 hk h1 h2 => ⟨by have := hz.roles; rw [hra] at this ⊢; exact row_keep this (hk.2 g hgl hgr) hk.1, hR.1.below hb2 (Nat.le_refl _), hR.2.1.below hb2 (Nat.le_refl _), hR.2.2.below hb2 (Nat.le_refl _), hz.pform, hz.plen, h1, hz.dform, hz.dlen, h2⟩
 have HC := Lib.hid hC2; have HCB := Lib.hid hcB; have HW0 := Lib.hid hW0; have HK0 := Lib.hid hK; have HZB := Lib.hid hzb
 clear hR C hC2 hcB hW0 hK hzb hz hN hsep hrefs hZ hb hra hgl hgr
 generalize hm : (ptrs z.refs).length = m at *
 have HM := Lib.hid hm
 clear hm
 obtain ⟨Wk, hWk⟩ : ∃ Wk, Wk = W := ⟨_, rfl⟩
 have HW0' : Hid (∀ v w', w'.ownsRow W.heap.size 48 2 v m ((ptrs z.refs).flatMap encQ) → Below W.heap.size W w' → ChgW zeroR Wb Z W.heap.size z ks v 0 w' ∧ KeepR z Wk w') := by rw [hWk]; exact HW0
 have HK1 : Hid (∀ W', NsAt W' z.refs (chgN zeroR z.refs ks) → z.At W' → W'.heap[Z]? = some (.cells z.cells 30 (0, 0)) → Below Wb.heap.size Wb W' → KeepR z Wk W' → (∀ r ∈ z.refs, FreeB W' r.b) → ∀ (f8 f19 f20 f21 f22 f23 f24 f25 f26 f27 f28 f29 f30 : Value), K { tmps := #[e0, e1, e2, e3, e4, e5, .pointer (some ⟨Z, 0, none⟩), e7, f8, e9, e10, e11, e12, e13, e14, e15, e16, e17, e18, f19, f20, f21, f22, f23, f24, f25, f26, f27, f28, f29, f30, e31, e32, e33, e34], defers := [] } W') := by rw [hWk]; exact HK0
 have HZ1 : Hid (∀ W' : World, Below Wb.heap.size Wb W' → KeepR z Wk W' → phAt W' (blk z.fa) (off z.fa) z.phrases → danAt W' (blk z.da) (off z.da) z.dances → z.At W') := by rw [hWk]; exact HZB
 clear HW0 HK0 HZB hWk
 generalize W.heap.size = B0 at *
 unfold inner18 loop18 elem18n2 code18
 conv => arg 2; whnf
 go_wp2_with (go_at_call 21; refine HC.out.mono ?_; rintro e w5 ⟨v5, rfl, ho5, hb5⟩; obtain ⟨ao5, c5, rfl, hform, _, _, _, _⟩ := own_new (by omega) ho5; have HCW := Lib.hid (HW0'.out _ _ ho5 hb5); have HF := Lib.hid hform; clear ho5 hb5 hform)
 go_loopw [22] (fun iv wr => ∃ i : Nat, iv = .int .i64 i ∧ i ≤ m ∧ Hid (ChgW zeroR Wb Z B0 z ks (.slice ao5 m c5) i wr ∧ KeepR z Wk wr)) (fun iv _ => m + 1 - (intOf iv).toNat)
 case atStart => exact ⟨0, rfl, Nat.zero_le _, HCW⟩
 case round =>
  obtain ⟨i, rfl, hin, hW⟩ := hrel
  by_cases hlt : i < m
  ·have hji : (i : Int) < (m : Int) := by omega
   obtain ⟨r, hr⟩ : ∃ r, (ptrs z.refs)[i]? = some r := ⟨_, List.getElem?_eq_getElem (by rw [HM.out]; exact hlt)⟩
   obtain ⟨ea, _, _⟩ := HF.out.resolve_left (by omega)
   have hrow := hW.out.1.row
   rw [ea, HM.out] at hrow
   have hrv := own_rowV hrow
   have q0 := hrv.get encQ_len (r := 0) hr rfl
   have q1 := hrv.get encQ_len (r := 1) hr rfl
   simp only [Nat.add_zero] at q0
   have hm : r ∈ z.refs := (List.mem_filter.1 (show r ∈ z.refs.filter _ from List.mem_of_getElem? hr)).1
   obtain ⟨W1, hW1, gW1, bW1, sW1⟩ := mk_cells wr #[.pointer (some ⟨r.b, r.o, none⟩), .bool (decide (r.to = 2))] 48
   have hC1 := hW.out.1.alloc bW1
   have hto := (hC1.at_ HCB.out hr).1
   obtain ⟨pre, rest, kp, k, kr, h1, h3, h4, hc, _, hset⟩ := hC1.cell HCB.out hr
   rw [show zeroR r k = 0 by unfold zeroR; rw [if_neg hto]] at hset
   have hkp : KeepR z Wk (W1.setCell ⟨r.b, r.o + 1, none⟩ (.int .i64 0)) := (hW.out.2.below bW1).set hm _ _
   have HS1 := Lib.hid (And.intro hset hkp)
   have z0 : ∀ q, (wr.alloc (.cells #[.pointer (some ⟨r.b, r.o, none⟩), .bool (decide (r.to = 2))] 48)).frozen? ⟨r.b, q, none⟩ = false := by rw [hW1]; exact (hC1.free r hm).free
   have b1 : (wr.alloc (.cells #[.pointer (some ⟨r.b, r.o, none⟩), .bool (decide (r.to = 2))] 48)).cell? ⟨wr.heap.size, 0, none⟩ = some (.pointer (some ⟨r.b, r.o, none⟩)) := by rw [hW1]; exact cell_at gW1 0 rfl
   have hc1 : (wr.alloc (.cells #[.pointer (some ⟨r.b, r.o, none⟩), .bool (decide (r.to = 2))] 48)).cell? ⟨r.b, r.o + 1, none⟩ = some (.int .i64 k) := by rw [hW1]; exact hc
   have HW1 := Lib.hid hW1
   have HEA := Lib.hid ea
   clear hW hr hrow hrv hm gW1 bW1 sW1 hC1 hset hkp hW1 ea hto h1 h3 h4 hc
   rw [HEA.out]
   go_wp2_with fail
   rw [HW1.out]
   go_roundw
   case rel => exact ⟨i + 1, by go_num, by omega, by rw [← HEA.out]; exact HS1⟩
   case measure => simp [intOf]; omega
  ·obtain rfl : i = m := by omega
   have hz : ¬ (i : Int) < (i : Int) := by omega
   have hd := hW.out.1
   rw [← HM.out] at hd
   go_wp2_with fail
   exact HK1.out _ (hd.done HCB.out) (HZ1.out _ hd.below hW.out.2 hd.ph hd.da) hd.box hd.below hW.out.2 hd.free _ _ _ _ _ _ _ _ _ _ _ _ _
end Go.Proofs.Ytpnbpepkoekkoaa
end
section
namespace Go.Proofs.Ytpnbpepkoekkoaa
open Go Go.RowKit Go.Deep
noncomputable def elem18n1 : Code := fst2 (lastPart 1 code18)
structure TwoCp (a b : Ls) (ka kb : List Int) (W : World) (a' b' : Ls) (V1 V2 : World) : Prop where
 ca : CpW a ka W a' V1
 cb : CpW b kb V1 b' V2
set_option maxRecDepth 100000 in
set_option maxHeartbeats 16000000 in
theorem alk_reg1 (a b : Ls) (ka kb : List Int) (A B : Nat) (W : World) (hAB : A ≠ B) (hA : W.heap[A]? = some (.cells a.cells 30 (0, 0))) (hB : W.heap[B]? = some (.cells b.cells 30 (0, 0))) (ha : a.At W) (hb : b.At W) (hna : NsAt W a.refs ka) (hnb : NsAt W b.refs kb) (hca : a.cpOk) (hcb : b.cpOk) (e0 e1 e4 e5 e6 e7 e8 e9 e10 e11 e12 e13 e14 e15 e16 e17 e18 e19 e20 e21 e22 e23 e24 e25 e26 e27 e28 e29 e30 e31 e32 e33 e34 : Value) (K : Act → World → Prop)
  (hK : ∀ (a' b' : Ls) (V1 V2 W' : World) (v10 v12 : Value), TwoCp a b ka kb W.drew a' b' V1 V2 → W'.heap[A]? = some (.cells a'.cells 30 (0, 0)) → W'.heap[B]? = some (.cells b'.cells 30 (0, 0)) → W'.heap.size = V2.heap.size → (∀ q, q ≠ A → q ≠ B → W'.heap[q]? = V2.heap[q]?) → (∀ B0 w0, Below B0 w0 V2 → B0 ≤ A → B0 ≤ B → Below B0 w0 W') → K { tmps := #[e0, e1, .pointer (some ⟨A, 0, none⟩), .pointer (some ⟨B, 0, none⟩), e4, e5, e6, e7, e8, .agg #[sv a.name, .int .i64 a.wd, .int .i64 a.dp, .int .i64 a.bars, .int .i64 a.t0, .int .i64 a.t1, .slice a.ra a.roles.length a.rc, .slice a.ta a.tempos.length a.tc, .slice a.ua a.pauses.length a.uc, .slice a.sa a.spans.length a.sc, .slice a.fa a.phrases.length a.fc, .slice a.da a.dances.length a.dc], v10, .agg #[sv b.name, .int .i64 b.wd, .int .i64 b.dp, .int .i64 b.bars, .int .i64 b.t0, .int .i64 b.t1, .slice b.ra b.roles.length b.rc, .slice b.ta b.tempos.length b.tc, .slice b.ua b.pauses.length b.uc, .slice b.sa b.spans.length b.sc, .slice b.fa b.phrases.length b.fc, .slice b.da b.dances.length b.dc], v12, e13, e14, e15, e16, e17, e18, e19, e20, e21, e22, e23, e24, e25, e26, e27, e28, e29, e30, e31, e32, e33, e34], defers := [] } W') :
  elem18n1.wp Try.prog (Exit.then K (fun _ _ _ => False)) { tmps := #[e0, e1, .pointer (some ⟨A, 0, none⟩), .pointer (some ⟨B, 0, none⟩), e4, e5, e6, e7, e8, e9, e10, e11, e12, e13, e14, e15, e16, e17, e18, e19, e20, e21, e22, e23, e24, e25, e26, e27, e28, e29, e30, e31, e32, e33, e34], defers := [] } W := by
 have hC1 := fun V (h : Below W.heap.size W V) => copied_any a ka V (ha.below h) (hna.below h) hca
 have hC2 := fun V (h : Below W.heap.size W V) => copied_any b kb V (hb.below h) (hnb.below h) hcb
 unfold Ls.val Ls.cells at hC1 hC2
 have HC1 := Lib.hid hC1; have HC2 := Lib.hid hC2; have HK0 := Lib.hid hK
 have hAl : A < W.heap.size := (Array.getElem?_eq_some_iff.1 hA).1
 have hBl : B < W.heap.size := (Array.getElem?_eq_some_iff.1 hB).1
 clear hC1 hC2 hK ha hb hna hnb hca hcb
 unfold elem18n1 code18
 conv => arg 2; whnf
 refine wp_region_D 4 5 (fun V => V.heap[A]? = some (.cells a.cells 30 (0, 0))) (fun V => V.heap[B]? = some (.cells b.cells 30 (0, 0))) (by kernel_rfl) ?_
 have hS1 : W.drew.heap[A]? = some (.cells a.cells 30 (0, 0)) := hA
 have hS2 : W.drew.heap[B]? = some (.cells b.cells 30 (0, 0)) := hB
 have HBd : Hid (Below W.heap.size W W.drew) := Lib.hid (Below.refl _ _).drew
 have hsd : W.drew.heap.size = W.heap.size := rfl
 clear hA hB
 generalize W.drew = Wd at *
 dsimp only
 refine wpAnyD_take1 [4] (i := 0) (oi := _) (v := .agg #[sv a.name, .int .i64 a.wd, .int .i64 a.dp, .int .i64 a.bars, .int .i64 a.t0, .int .i64 a.t1, .slice a.ra a.roles.length a.rc, .slice a.ta a.tempos.length a.tc, .slice a.ua a.pauses.length a.uc, .slice a.sa a.spans.length a.sc, .slice a.fa a.phrases.length a.fc, .slice a.da a.dances.length a.dc]) rfl (by kernel_rfl) (fun _ _ _ h => h) (Or.inl ⟨by kernel_rfl, fun V hb => by obtain ⟨y0, y1, y2, y3, y4, y5, y6, y7, y8, y9, y10, y11⟩ := all_cells hb; go_simp⟩) hS1 (fun _ => hS2) ?_
 try simp only [Act.put, List.getElem_toArray, List.getElem_cons_zero, List.getElem_cons_succ, List.setIfInBounds_toArray, List.set_cons_zero, List.set_cons_succ]
 refine wpAnyD_take2 [5] (i := 2) (oi := _) (v := .agg #[sv b.name, .int .i64 b.wd, .int .i64 b.dp, .int .i64 b.bars, .int .i64 b.t0, .int .i64 b.t1, .slice b.ra b.roles.length b.rc, .slice b.ta b.tempos.length b.tc, .slice b.ua b.pauses.length b.uc, .slice b.sa b.spans.length b.sc, .slice b.fa b.phrases.length b.fc, .slice b.da b.dances.length b.dc]) rfl (by kernel_rfl) (fun _ _ _ h => h) (Or.inl ⟨by kernel_rfl, fun V hb => by obtain ⟨y0, y1, y2, y3, y4, y5, y6, y7, y8, y9, y10, y11⟩ := all_cells hb; go_simp⟩) (fun _ => hS1) hS2 ?_
 try simp only [Act.put, List.getElem_toArray, List.getElem_cons_zero, List.getElem_cons_succ, List.setIfInBounds_toArray, List.set_cons_zero, List.set_cons_succ]
 refine wpAnyD_one (i := 1) (by kernel_rfl) rfl (fun K1 hK => ?_)
 have HK := Lib.hid hK
 clear hK
 go_simp
 go_at_call 20
 refine (HC1.out _ HBd.out).mono ?_
 intro e V1 hv
 obtain ⟨a', rfl, hca⟩ := CpW.of hv
 have hS1b := keepO hca.below hS1
 have hS2b := keepO hca.below hS2
 have HCA := Lib.hid hca
 have HB1 := Lib.hid (thenB HBd.out hca.below)
 clear hv hca
 refine HK.out _ _ (fun _ => hS1b) (fun _ => hS2b) ?_
 try simp only [Act.put, List.getElem_toArray, List.getElem_cons_zero, List.getElem_cons_succ, List.setIfInBounds_toArray, List.set_cons_zero, List.set_cons_succ]
 clear HK K1
 refine wpAnyD_one (i := 3) (by kernel_rfl) rfl (fun K1 hK => ?_)
 have HK := Lib.hid hK
 clear hK
 go_simp
 go_at_call 20
 refine (HC2.out _ HB1.out).mono ?_
 intro e V2 hv
 obtain ⟨b', rfl, hcb⟩ := CpW.of hv
 have hS1c := keepO hcb.below hS1b
 have hS2c := keepO hcb.below hS2b
 have HCB := Lib.hid hcb
 clear hv hcb
 refine HK.out _ _ (fun _ => hS1c) (fun _ => hS2c) ?_
 try simp only [Act.put, List.getElem_toArray, List.getElem_cons_zero, List.getElem_cons_succ, List.setIfInBounds_toArray, List.set_cons_zero, List.set_cons_succ]
 clear HK K1
 refine wpAnyD_one (i := 4) (by kernel_rfl) rfl (fun K1 hK => ?_)
 have HK := Lib.hid hK
 clear hK
 obtain ⟨y0, y1, y2, y3, y4, y5, y6, y7, y8, y9, y10, y11⟩ := all_cells hS1c
 have f0 : ∀ q, V2.frozen? ⟨A, q, none⟩ = false := fun q => by simp [World.frozen?, hS1c]
 obtain ⟨W4, hW4, g4, k4, p4, s4⟩ := set_score hS1c rfl (sv a'.name) (.int .i64 a'.wd) (.int .i64 a'.dp) (.int .i64 a'.bars) (.int .i64 a'.t0) (.int .i64 a'.t1) (.slice a'.ra a'.roles.length a'.rc) (.slice a'.ta a'.tempos.length a'.tc) (.slice a'.ua a'.pauses.length a'.uc) (.slice a'.sa a'.spans.length a'.sc) (.slice a'.fa a'.phrases.length a'.fc) (.slice a'.da a'.dances.length a'.dc)
 have hS2d : W4.heap[B]? = some (.cells b.cells 30 (0, 0)) := (k4 B (fun e => hAB e.symm)).trans hS2c
 have HW4 := Lib.hid hW4
 have G4 := Lib.hid g4; have K4 := Lib.hid k4; have S4 := Lib.hid s4; have P4 := Lib.hid p4
 unfold Ls.val Ls.cells
 clear hS1c hS1 hS1b hS2 hS2b hS2c hW4 g4 k4 s4 p4
 go_simp
 rw [HW4.out]
 clear HW4 f0 y0 y1 y2 y3 y4 y5 y6 y7 y8 y9 y10 y11
 refine HK.out _ _ (fun h => absurd (show true = false from h) (by decide)) (fun _ => hS2d) ?_
 try simp only [Act.put, List.getElem_toArray, List.getElem_cons_zero, List.getElem_cons_succ, List.setIfInBounds_toArray, List.set_cons_zero, List.set_cons_succ]
 clear HK K1
 refine wpAnyD_one (i := 5) (by kernel_rfl) rfl (fun K1 hK => ?_)
 have HK := Lib.hid hK
 clear hK
 obtain ⟨y0, y1, y2, y3, y4, y5, y6, y7, y8, y9, y10, y11⟩ := all_cells hS2d
 have f0 : ∀ q, W4.frozen? ⟨B, q, none⟩ = false := fun q => by simp [World.frozen?, hS2d]
 obtain ⟨W5, hW5, g5, k5, p5, s5⟩ := set_score hS2d rfl (sv b'.name) (.int .i64 b'.wd) (.int .i64 b'.dp) (.int .i64 b'.bars) (.int .i64 b'.t0) (.int .i64 b'.t1) (.slice b'.ra b'.roles.length b'.rc) (.slice b'.ta b'.tempos.length b'.tc) (.slice b'.ua b'.pauses.length b'.uc) (.slice b'.sa b'.spans.length b'.sc) (.slice b'.fa b'.phrases.length b'.fc) (.slice b'.da b'.dances.length b'.dc)
 have HW5 := Lib.hid hW5
 have G5 := Lib.hid g5; have K5 := Lib.hid k5; have S5 := Lib.hid s5; have P5 := Lib.hid p5
 clear hS2d hW5 g5 k5 s5 p5
 go_simp
 rw [HW5.out]
 clear HW5 f0 y0 y1 y2 y3 y4 y5 y6 y7 y8 y9 y10 y11
 refine HK.out _ _ (fun h => absurd (show true = false from h) (by decide)) (fun h => absurd (show true = false from h) (by decide)) ?_
 try simp only [Act.put, List.getElem_toArray, List.getElem_cons_zero, List.getElem_cons_succ, List.setIfInBounds_toArray, List.set_cons_zero, List.set_cons_succ]
 clear HK K1
 refine wpAnyD_done (by kernel_rfl) ?_ _
 exact HK0.out a' b' V1 V2 W5 _ _ ⟨HCA.out, HCB.out⟩ ((K5.out A hAB).trans G4.out) G5.out (S5.out.trans S4.out) (fun q h1 h2 => (K5.out q h2).trans (K4.out q h1)) (fun B0 w0 h h1 h2 => P5.out B0 w0 (P4.out B0 w0 h h1) h2)
end Go.Proofs.Ytpnbpepkoekkoaa
end
section
namespace Go.Proofs.Ytpnbpepkoekkoaa
open Go Go.RowKit Go.Deep
theorem Lt.refsL_size : ∀ (T : Lt) (b o : Nat), (T.refsL b o).length = T.size + T.movs
 | .nil, _, _ => rfl
 | .cons k n un ia ic its ma mc ms r, b, o => by
  simp only [Lt.refsL, List.length_cons, List.length_append, movRefs_len, Lt.size, Lt.movs]
  rw [its.refsL_size, r.refsL_size]; omega
theorem phRefs_bound : ∀ (ps : List Ph), (∀ p ∈ ps, p.its.size ≤ 300 ∧ p.its.movs ≤ 300) → (phRefs ps).length ≤ ps.length * 600
 | [], _ => by simp [phRefs]
 | p :: r, h => by
  have h1 := h p (by simp)
  have h2 := phRefs_bound r fun q hq => h q (by simp [hq])
  simp only [phRefs, List.length_append, Ph.refsL, List.length_cons]
  rw [Lt.refsL_size]; omega
theorem danRefs_len (b : Nat) : ∀ (o : Nat) (ds : List Dan), (danRefs b o ds).length = ds.length * 2
 | _, [] => rfl
 | o, d :: r => by simp only [danRefs, List.length_cons]; rw [danRefs_len b (o + 6) r]; omega
theorem Ls.small.refs {s : Ls} (h : s.small) : s.refs.length ≤ 200000 := by
 have h1 := phRefs_bound s.phrases h.items
 have h2 := danRefs_len (blk s.da) (off s.da) s.dances
 have h3 := h.phrases; have h4 := h.dances
 unfold Ls.refs
 rw [List.length_append]; omega
theorem Ls.refs_same {x y : Ls} (h : x.strip.refs = y.strip.refs) : x.refs.length = y.refs.length := by
 have e1 := congrArg List.length x.refs_key
 have e2 := congrArg List.length y.refs_key
 rw [List.length_map] at e1 e2
 rw [e1, e2, h]
theorem ptrs_le (rs : List RefL) : (ptrs rs).length ≤ rs.length := List.length_filter_le _ _
theorem movTo_le2 (k : Int) : movTo k ≤ 2 := by unfold movTo; split <;> omega
theorem itemTo_le2 (k : Int) : itemTo k ≤ 2 := by unfold itemTo; split <;> omega
theorem Its.refs_to : ∀ (t : Its), ∀ r ∈ t.refs, r.1 ≤ 2
 | .nil, _, h => by cases h
 | .cons k n un its ms rest, r, h => by
  simp only [Its.refs, List.mem_cons, List.mem_append, List.mem_map] at h
  rcases h with rfl | ⟨m, _, rfl⟩ | h | h
  ·exact itemTo_le2 k
  ·exact movTo_le2 m.kind
  ·exact its.refs_to r h
  ·exact rest.refs_to r h
theorem Sc.refs_to (s : Sc) : ∀ r ∈ s.refs, r.1 ≤ 2 := by
 intro r h
 unfold Sc.refs at h
 rcases List.mem_append.1 h with h | h
 ·obtain ⟨p, _, h⟩ := List.mem_flatMap.1 h
  exact p.items.refs_to r h
 ·obtain ⟨d, _, h⟩ := List.mem_flatMap.1 h
  simp only [List.mem_cons, List.mem_nil_iff, or_false] at h
  rcases h with rfl | rfl <;> simp
theorem Ls.refs_to2 (s : Ls) : ∀ r ∈ s.refs, r.to ≤ 2 := fun r h => by
 have : r.key ∈ s.strip.refs := by rw [← s.refs_key]; exact List.mem_map.2 ⟨r, h, rfl⟩
 exact s.strip.refs_to _ this
end Go.Proofs.Ytpnbpepkoekkoaa
end
section
namespace Go.Proofs.Ytpnbpepkoekkoaa
open Go Go.RowKit Go.Deep
theorem CpW.rows {s : Ls} {ns : List Int} {w : World} {x : Ls} {W : World} (h : CpW s ns w x W) (hs : s.At w) : IsRow encT 3 w (.slice x.ta x.tempos.length x.tc) x.tempos ∧ IsRow encP 4 w (.slice x.ua x.pauses.length x.uc) x.pauses ∧ IsRow encC 4 w (.slice x.sa x.spans.length x.sc) x.spans := by
 have e := h.tup
 unfold Ls.tup at e
 simp only [Prod.mk.injEq, List.cons.injEq, and_true] at e
 obtain ⟨⟨e1, e2, e3⟩, ⟨e4, e5, e6⟩, e7, e8, e9⟩ := e
 rw [e1, e2, e3, e4, e5, e6, e7, e8, e9]
 exact ⟨hs.tempos, hs.pauses, hs.spans⟩
end Go.Proofs.Ytpnbpepkoekkoaa
end
section
namespace Go.Proofs.Ytpnbpepkoekkoaa
open Go Go.RowKit Go.Deep
theorem CpW.stay {s : Ls} {ns : List Int} {w0 : World} {x : Ls} {V W' wz : World} (h : CpW s ns w0 x V)
  (hR : IsRow encT 3 wz (.slice x.ta x.tempos.length x.tc) x.tempos ∧ IsRow encP 4 wz (.slice x.ua x.pauses.length x.uc) x.pauses ∧ IsRow encC 4 wz (.slice x.sa x.spans.length x.sc) x.spans)
  (hb : Below wz.heap.size wz W') (hl : V.heap.size ≤ W'.heap.size) (hk : ∀ b, w0.heap.size ≤ b → b < V.heap.size → W'.heap[b]? = V.heap[b]?) : x.At W' ∧ NsAt W' x.refs ns ∧ ∀ r ∈ x.refs, FreeB W' r.b := by
 obtain ⟨⟨a1, a2⟩, ⟨a3, a4⟩⟩ := h.own.lt
 have hfree : ∀ r ∈ x.refs, FreeB W' r.b := fun r hr => by
  obtain ⟨h1, cur, t, h2⟩ := h.refs r hr
  exact ⟨cur, t, (hk _ h1 (Array.getElem?_eq_some_iff.1 h2).1).trans h2⟩
 refine ⟨⟨?_, hR.1.below hb (Nat.le_refl _), hR.2.1.below hb (Nat.le_refl _), hR.2.2.below hb (Nat.le_refl _), h.at_.pform, h.at_.plen, phAt_kept h.at_.phrases (fun q v _ hc => cell_blk (hk _ a3 a4) q v hc) (fun c hc q v hv => cell_blk (hk c (h.pown c hc) (cell_lt hv)) q v hv), h.at_.dform, h.at_.dlen, ?_⟩, h.ns.kept fun y hy v hv => cell_blk (hk _ (h.refs y hy).1 (cell_lt hv)) _ v hv, hfree⟩
 ·have := h.at_.roles
  rw [h.own.raf] at this ⊢
  exact row_keep this (hk _ a1 a2) hl
 ·have hd := h.at_.dances
  cases hq : x.dances with
  | nil => trivial
  | cons d r =>
   have hm : (⟨blk x.da, off x.da, 1, d.rn⟩ : RefL) ∈ x.refs := by
    unfold Ls.refs
    rw [hq]
    exact List.mem_append.2 (Or.inr (List.mem_cons_self ..))
   obtain ⟨h1, h2⟩ := h.refs _ hm
   rw [← hq]
   exact danAt_kept hd fun q v _ hc => cell_blk (hk _ h1 h2.lt) q v hc
theorem CpW.refs_ra {s : Ls} {ns : List Int} {w0 : World} {x : Ls} {V : World} (h : CpW s ns w0 x V) : ∀ r ∈ x.refs, r.b ≠ blk x.ra := fun r hr e => by
 rcases List.mem_append.1 hr with h1 | h1
 ·exact h.own.ra (by rw [← e]; exact phRefs_own h1)
 ·exact h.own.rd (by rw [← (danRefs_mem h1).1]; exact e.symm)
end Go.Proofs.Ytpnbpepkoekkoaa
end
section
namespace Go.Proofs.Ytpnbpepkoekkoaa
open Go Go.RowKit Go.Deep
def Ls.Blk (x : Ls) (b : Nat) : Prop := b = blk x.ra ∨ b = blk x.fa ∨ b ∈ phOwn x.phrases ∨ ∃ r ∈ x.refs, r.b = b
theorem Ls.stay {x : Ls} {ns : List Int} {V W' wz : World} (hat : x.At V) (hns : NsAt V x.refs ns) (hraf : x.ra = some ⟨blk x.ra, 0, none⟩) (hg : blk x.ra < V.heap.size) (hfr : ∀ r ∈ x.refs, FreeB V r.b)
  (hR : IsRow encT 3 wz (.slice x.ta x.tempos.length x.tc) x.tempos ∧ IsRow encP 4 wz (.slice x.ua x.pauses.length x.uc) x.pauses ∧ IsRow encC 4 wz (.slice x.sa x.spans.length x.sc) x.spans)
  (hb : Below wz.heap.size wz W') (hl : V.heap.size ≤ W'.heap.size) (hk : ∀ b, x.Blk b → b < V.heap.size → W'.heap[b]? = V.heap[b]?) : x.At W' ∧ NsAt W' x.refs ns ∧ ∀ r ∈ x.refs, FreeB W' r.b := by
 have hre : ∀ r ∈ x.refs, x.Blk r.b := fun r hr => Or.inr (Or.inr (Or.inr ⟨r, hr, rfl⟩))
 have hfree : ∀ r ∈ x.refs, FreeB W' r.b := fun r hr => by
  obtain ⟨cur, t, h2⟩ := hfr r hr
  exact ⟨cur, t, (hk _ (hre r hr) (Array.getElem?_eq_some_iff.1 h2).1).trans h2⟩
 refine ⟨⟨?_, hR.1.below hb (Nat.le_refl _), hR.2.1.below hb (Nat.le_refl _), hR.2.2.below hb (Nat.le_refl _), hat.pform, hat.plen, phAt_kept hat.phrases (fun q v _ hc => cell_blk (hk _ (Or.inr (Or.inl rfl)) (cell_lt hc)) q v hc) (fun c hc q v hv => cell_blk (hk c (Or.inr (Or.inr (Or.inl hc))) (cell_lt hv)) q v hv), hat.dform, hat.dlen, ?_⟩, hns.kept fun y hy v hv => cell_blk (hk _ (hre y hy) (cell_lt hv)) _ v hv, hfree⟩
 ·have := hat.roles
  rw [hraf] at this ⊢
  exact row_keep this (hk _ (Or.inl rfl) hg) hl
 ·have hd := hat.dances
  cases hq : x.dances with
  | nil => trivial
  | cons d r =>
   have hm : (⟨blk x.da, off x.da, 1, d.rn⟩ : RefL) ∈ x.refs := by
    unfold Ls.refs
    rw [hq]
    exact List.mem_append.2 (Or.inr (List.mem_cons_self ..))
   rw [← hq]
   exact danAt_kept hd fun q v _ hc => cell_blk (hk _ (hre _ hm) (cell_lt hc)) q v hc
theorem CpW.blk_in {s : Ls} {ns : List Int} {w0 : World} {x : Ls} {V : World} (h : CpW s ns w0 x V) : ∀ b, x.Blk b → w0.heap.size ≤ b ∧ b < V.heap.size := by
 obtain ⟨⟨a1, a2⟩, ⟨a3, a4⟩⟩ := h.own.lt
 rintro b (rfl | rfl | hb | ⟨r, hr, rfl⟩)
 ·exact ⟨a1, a2⟩
 ·exact ⟨a3, a4⟩
 ·exact ⟨h.pown b hb, phOwn_lt h.at_.phrases b hb⟩
 ·exact ⟨(h.refs r hr).1, (h.refs r hr).2.lt⟩
end Go.Proofs.Ytpnbpepkoekkoaa
end
section
namespace Go.Proofs.Ytpnbpepkoekkoaa
open Go Go.RowKit Go.Deep
theorem tup_rows {s x : Ls} {w : World} (e : x.tup = s.tup) (hs : s.At w) : IsRow encT 3 w (.slice x.ta x.tempos.length x.tc) x.tempos ∧ IsRow encP 4 w (.slice x.ua x.pauses.length x.uc) x.pauses ∧ IsRow encC 4 w (.slice x.sa x.spans.length x.sc) x.spans := by
 unfold Ls.tup at e
 simp only [Prod.mk.injEq, List.cons.injEq, and_true] at e
 obtain ⟨⟨e1, e2, e3⟩, ⟨e4, e5, e6⟩, e7, e8, e9⟩ := e
 rw [e1, e2, e3, e4, e5, e6, e7, e8, e9]
 exact ⟨hs.tempos, hs.pauses, hs.spans⟩
def zeroK : List (Nat × Nm) → List Int → List Int
 | r :: rs, k :: ks => (if r.1 = 0 then k else 0) :: zeroK rs ks
 | _, _ => []
theorem chg_zero : ∀ (rs : List RefL) (ks : List Int), chgN zeroR rs ks = zeroK (rs.map RefL.key) ks
 | [], _ => by simp [chgN, zeroK]
 | _ :: _, [] => by simp [chgN, zeroK]
 | r :: rs, k :: ks => by
  simp only [chgN, zeroK, List.map_cons]
  rw [chg_zero rs ks]
  rfl
structure OneW (w : World) (A : Nat) (x : Ls) (ks : List Int) (W : World) : Prop where
 at_ : x.At W
 ns : NsAt W x.refs ks
 free : ∀ r ∈ x.refs, FreeB W r.b
 box : W.heap[A]? = some (.cells x.cells 30 (0, 0))
structure OneB (w : World) (A lo hi : Nat) (x : Ls) : Prop where
 rows : IsRow encT 3 w (.slice x.ta x.tempos.length x.tc) x.tempos ∧ IsRow encP 4 w (.slice x.ua x.pauses.length x.uc) x.pauses ∧ IsRow encC 4 w (.slice x.sa x.spans.length x.sc) x.spans
 sep : x.Sep
 raf : x.ra = some ⟨blk x.ra, 0, none⟩
 ra : ∀ r ∈ x.refs, r.b ≠ blk x.ra
 blk_ : ∀ b, x.Blk b → lo ≤ b ∧ b < hi
 low : w.heap.size ≤ lo ∧ A < lo
theorem OneB.ref {w : World} {A lo hi : Nat} {x : Ls} (h : OneB w A lo hi x) {r : RefL} (hr : r ∈ x.refs) : lo ≤ r.b ∧ r.b < hi := h.blk_ _ (Or.inr (Or.inr (Or.inr ⟨r, hr, rfl⟩)))
theorem OneW.stay {w : World} {A A2 lo hi lo2 hi2 : Nat} {x y : Ls} {ks : List Int} {W W' : World} (h : OneW w A x ks W) (hB : OneB w A lo hi x) (hC : OneB w A2 lo2 hi2 y) (hd : hi ≤ lo2 ∨ hi2 ≤ lo) (hA : A < lo2) (hhi : hi ≤ W.heap.size) (hb : Below w.heap.size w W') (hk : KeepR y W W') : OneW w A x ks W' := by
 have hkk : ∀ b, x.Blk b → b < W.heap.size → W'.heap[b]? = W.heap[b]? := fun b hb1 hb2 => hk.2 b hb2 fun r hr e => by
  have h1 := hC.ref hr
  have h2 := hB.blk_ b hb1
  omega
 have hg := (hB.blk_ (blk x.ra) (Or.inl rfl)).2
 obtain ⟨h1, h2, h3⟩ := Ls.stay h.at_ h.ns hB.raf (by omega) h.free hB.rows hb hk.1 hkk
 have hAl : A < W.heap.size := (Array.getElem?_eq_some_iff.1 h.box).1
 exact ⟨h1, h2, h3, (hk.2 A hAl fun r hr e => by have := hC.ref hr; omega).trans h.box⟩
end Go.Proofs.Ytpnbpepkoekkoaa
end
section
namespace Go.Proofs.Ytpnbpepkoekkoaa
open Go Go.RowKit Go.Deep
set_option maxRecDepth 100000 in
set_option maxHeartbeats 16000000 in
theorem alk_e2 (A B lo1 hi1 lo2 hi2 : Nat) (x y : Ls) (kx ky : List Int) (w W : World) (hBx : OneB w A lo1 hi1 x) (hBy : OneB w B lo2 hi2 y) (hd : hi1 ≤ lo2) (hA2 : A < lo2) (hB1 : B < lo1) (hx : OneW w A x kx W) (hy : OneW w B y ky W) (hb : Below w.heap.size w W) (hh1 : hi1 ≤ W.heap.size) (hh2 : hi2 ≤ W.heap.size) (hlx : (ptrs x.refs).length ≤ 1000000) (hly : (ptrs y.refs).length ≤ 1000000) (e0 e1 e4 e5 e6 e7 e8 e9 e10 e11 e12 e13 e14 e15 e16 e17 e18 e19 e20 e21 e22 e23 e24 e25 e26 e27 e28 e29 e30 e31 e32 e33 e34 : Value) (K : Act → World → Prop)
  (hK : ∀ W', OneW w A x (chgN zeroR x.refs kx) W' → OneW w B y (chgN zeroR y.refs ky) W' → Below w.heap.size w W' → ∀ (f6 f8 f13 f14 f15 f16 f17 f18 f19 f20 f21 f22 f23 f24 f25 f26 f27 f28 f29 f30 f31 : Value), K { tmps := #[e0, e1, .pointer (some ⟨A, 0, none⟩), .pointer (some ⟨B, 0, none⟩), e4, e5, f6, e7, f8, e9, e10, e11, e12, f13, f14, f15, f16, f17, f18, f19, f20, f21, f22, f23, f24, f25, f26, f27, f28, f29, f30, f31, e32, e33, e34], defers := [] } W') :
  elem18n2.wp Try.prog (Exit.then K (fun _ _ _ => False)) { tmps := #[e0, e1, .pointer (some ⟨A, 0, none⟩), .pointer (some ⟨B, 0, none⟩), e4, e5, e6, e7, e8, e9, e10, e11, e12, e13, e14, e15, e16, e17, e18, e19, e20, e21, e22, e23, e24, e25, e26, e27, e28, e29, e30, e31, e32, e33, e34], defers := [] } W := by
 obtain ⟨W1, hW1, gW1, bW1, sW1⟩ := mk_cells W #[.pointer (some ⟨A, 0, none⟩), .pointer (some ⟨B, 0, none⟩)] 43
 have hx1 : OneW w A x kx W1 := ⟨hx.at_.below bW1, hx.ns.below bW1, fun r hr => (hx.free r hr).below bW1, keepO bW1 hx.box⟩
 have hy1 : OneW w B y ky W1 := ⟨hy.at_.below bW1, hy.ns.below bW1, fun r hr => (hy.free r hr).below bW1, keepO bW1 hy.box⟩
 have hb1 : Below w.heap.size w W1 := thenB hb bW1
 have HBX := Lib.hid hBx; have HBY := Lib.hid hBy; have HX1 := Lib.hid hx1; have HY1 := Lib.hid hy1; have HB1 := Lib.hid hb1; have HW1 := Lib.hid hW1; have HK0 := Lib.hid hK; have HL1 := Lib.hid gW1
 obtain ⟨L, hLe⟩ : ∃ L, W.heap.size = L := ⟨_, rfl⟩
 have hhL1 : hi1 ≤ L := by omega
 have hhL2 : hi2 ≤ L := by omega
 rw [hLe] at HL1
 have HLE := Lib.hid hLe
 clear hBx hBy hx hy hb hh1 hh2 hK hx1 hy1 hb1 hW1 gW1 bW1 sW1 hLe
 unfold elem18n2 code18
 conv => arg 2; whnf
 refine wp_seq_thenQ (fun K0 hK => ?_)
 have HKa := Lib.hid hK
 clear hK
 go_wp2_with fail
 refine HKa.out _ _ ?_
 rw [HW1.out, HLE.out]
 clear HKa K0 HW1
 go_wp2_with fail
 go_loopw [15] (fun iv wr => ∃ (i : Nat) (la lb : List Int), iv = .int .i64 i ∧ Hid ((i = 0 ∧ la = kx ∧ lb = ky) ∨ (i = 1 ∧ la = chgN zeroR x.refs kx ∧ lb = ky) ∨ (i = 2 ∧ la = chgN zeroR x.refs kx ∧ lb = chgN zeroR y.refs ky)) ∧ Hid (OneW w A x la wr) ∧ Hid (OneW w B y lb wr) ∧ Hid (Below w.heap.size w wr) ∧ Hid (wr.heap[L]? = some (.cells #[.pointer (some ⟨A, 0, none⟩), .pointer (some ⟨B, 0, none⟩)] 43 (0, 0)))) (fun iv _ => 3 - (intOf iv).toNat)
 case atStart => exact ⟨0, kx, ky, rfl, Lib.hid (Or.inl ⟨rfl, rfl, rfl⟩), HX1, HY1, HB1, HL1⟩
 case round =>
  obtain ⟨i, la, lb, rfl, hi, hX, hY, hBw, hLb⟩ := hrel
  have hLl : L < wr.heap.size := (Array.getElem?_eq_some_iff.1 hLb.out).1
  have cL0 := cell_at hLb.out 0 rfl
  have cL1 := cell_at hLb.out 1 rfl
  rcases hi.out with ⟨rfl, rfl, rfl⟩ | ⟨rfl, rfl, rfl⟩ | ⟨rfl, rfl, rfl⟩
  ·refine wp_seq_thenQ (fun K1 hK => ?_)
   have HK1 := Lib.hid hK
   clear hK
   go_wp2_with fail
   refine HK1.out _ _ ?_
   clear HK1 K1
   refine wp_seq_thenQ (fun K2 hK => ?_)
   have HK2 := Lib.hid hK
   clear hK
   go_wp2_with fail
   refine HK2.out _ _ ?_
   clear HK2 K2
   refine wp_seq_thenQ (fun K3 hK => ?_)
   have HK3 := Lib.hid hK
   clear hK
   refine wp_block ?_
   refine wp_seq_thenQ (fun K4 hK => ?_)
   have HK4 := Lib.hid hK
   clear hK
   go_wp2_with fail
   refine HK4.out _ _ ?_
   clear HK4 K4
   change Code.wp Try.prog inner18 _ _ _
   refine wp_mono (alk_inner A x _ w wr hBw.out hX.out.box hX.out.at_ hX.out.ns HBX.out.sep (fun r hr => ⟨by have := HBX.out.ref hr; have := HBX.out.low; omega, by have := HBX.out.ref hr; have := HBX.out.low; omega, hX.out.free r hr⟩) HBX.out.rows (blk x.ra) HBX.out.raf (by have := (HBX.out.blk_ (blk x.ra) (Or.inl rfl)).2; omega) HBX.out.ra hlx _ _ _ _ _ _ _ _ _ _ _ _ _ _ _ _ _ _ _ _ _ _ _ _ _ _ _ _ _ _ _ _ _ _ K3 (fun W' q1 q2 q3 q4 q5 q6 => ?_)) (fun e a w h => by cases e <;> first | exact h | exact False.elim h)
   intros
   refine HK3.out _ _ ?_
   clear HK3 K3
   have hX2 : OneW w A x (chgN zeroR x.refs la) W' := ⟨q2, q1, q6, q3⟩
   have hY2 : OneW w B y lb W' := hY.out.stay HBY.out HBX.out (Or.inr hd) (by have := HBX.out.low; omega) (by omega) q4 q5
   have hL2 := (q5.2 L hLl fun r hr e => by have := HBX.out.ref hr; omega).trans hLb.out
   have HX2 := Lib.hid hX2; have HY2 := Lib.hid hY2; have HL2 := Lib.hid hL2; have HB2 := Lib.hid q4
   clear hX2 hY2 hL2 q1 q2 q3 q4 q5 q6 cL0 cL1 hX hY hBw hLb hi
   go_wp2_with fail
   go_roundw
   case rel => exact ⟨1, _, _, by go_num, Lib.hid (Or.inr (Or.inl ⟨rfl, rfl, rfl⟩)), HX2, HY2, HB2, HL2⟩
   case measure => simp [intOf]
  ·refine wp_seq_thenQ (fun K1 hK => ?_)
   have HK1 := Lib.hid hK
   clear hK
   go_wp2_with fail
   refine HK1.out _ _ ?_
   clear HK1 K1
   refine wp_seq_thenQ (fun K2 hK => ?_)
   have HK2 := Lib.hid hK
   clear hK
   go_wp2_with fail
   refine HK2.out _ _ ?_
   clear HK2 K2
   refine wp_seq_thenQ (fun K3 hK => ?_)
   have HK3 := Lib.hid hK
   clear hK
   refine wp_block ?_
   refine wp_seq_thenQ (fun K4 hK => ?_)
   have HK4 := Lib.hid hK
   clear hK
   go_wp2_with fail
   refine HK4.out _ _ ?_
   clear HK4 K4
   change Code.wp Try.prog inner18 _ _ _
   refine wp_mono (alk_inner B y _ w wr hBw.out hY.out.box hY.out.at_ hY.out.ns HBY.out.sep (fun r hr => ⟨by have := HBY.out.ref hr; have := HBY.out.low; omega, by have := HBY.out.ref hr; have := HBY.out.low; omega, hY.out.free r hr⟩) HBY.out.rows (blk y.ra) HBY.out.raf (by have := (HBY.out.blk_ (blk y.ra) (Or.inl rfl)).2; omega) HBY.out.ra hly _ _ _ _ _ _ _ _ _ _ _ _ _ _ _ _ _ _ _ _ _ _ _ _ _ _ _ _ _ _ _ _ _ _ K3 (fun W' q1 q2 q3 q4 q5 q6 => ?_)) (fun e a w h => by cases e <;> first | exact h | exact False.elim h)
   intros
   refine HK3.out _ _ ?_
   clear HK3 K3
   have hY2 : OneW w B y (chgN zeroR y.refs lb) W' := ⟨q2, q1, q6, q3⟩
   have hX2 := hX.out.stay HBX.out HBY.out (Or.inl hd) hA2 (by omega) q4 q5
   have hL2 := (q5.2 L hLl fun r hr e => by have := HBY.out.ref hr; omega).trans hLb.out
   have HX2 := Lib.hid hX2; have HY2 := Lib.hid hY2; have HL2 := Lib.hid hL2; have HB2 := Lib.hid q4
   clear hX2 hY2 hL2 q1 q2 q3 q4 q5 q6 cL0 cL1 hX hY hBw hLb hi
   go_wp2_with fail
   go_roundw
   case rel => exact ⟨2, _, _, by go_num, Lib.hid (Or.inr (Or.inr ⟨rfl, rfl, rfl⟩)), HX2, HY2, HB2, HL2⟩
   case measure => simp [intOf]
  ·go_wp2_with fail
   exact HK0.out _ hX.out hY.out hBw.out _ _ _ _ _ _ _ _ _ _ _ _ _ _ _ _ _ _ _ _ _
end Go.Proofs.Ytpnbpepkoekkoaa
end
section
namespace Go.Proofs.Ytpnbpepkoekkoaa
open Go Go.RowKit Go.Deep
theorem akstep1 : lastPart 1 code18 = .seq elem18n1 (lastPart 2 code18) := rfl
theorem akstep2 : lastPart 2 code18 = .seq elem18n2 (lastPart 3 code18) := rfl
theorem CpW.one {s : Ls} {ns : List Int} {w0 : World} {x : Ls} {V : World} (h : CpW s ns w0 x V) {w : World} (hs : s.At w) {A : Nat} (h1 : w.heap.size ≤ w0.heap.size) (h2 : A < w0.heap.size) : OneB w A w0.heap.size V.heap.size x := ⟨tup_rows h.tup hs, h.sep, h.own.raf, h.refs_ra, h.blk_in, h1, h2⟩
set_option maxRecDepth 100000 in
set_option maxHeartbeats 16000000 in
theorem alike_any (a b : Ls) (ka kb : List Int) (w : World) (ha : a.At w) (hb : b.At w) (hna : NsAt w a.refs ka) (hnb : NsAt w b.refs kb) (hca : a.cpOk) (hcb : b.cpOk) (hs : a.strip = b.strip) (hz : zeroK a.strip.refs ka = zeroK b.strip.refs kb) (hla : a.refs.length ≤ 200000) (hlb : b.refs.length ≤ 200000) :
  Calls Try.prog 18 #[a.val, b.val] w fun e w' => e = .returned (.bool true) ∧ Below w.heap.size w w' := by
 obtain ⟨W1, hW1, hX, hY, hB, hS⟩ := two_box w a.cells b.cells
 have hsv : a.val = .agg a.cells := rfl
 have hsv' : b.val = .agg b.cells := rfl
 rw [hsv, hsv']
 obtain ⟨A, hAe⟩ : ∃ A, w.heap.size = A := ⟨_, rfl⟩
 rw [hAe] at hX hY
 have HW1 := Lib.hid hW1; have HAE := Lib.hid hAe
 have HS := Lib.hid (And.intro ha (And.intro hb (And.intro hna (And.intro hnb (And.intro hca (And.intro hcb (And.intro hs (And.intro hz (And.intro hX (And.intro hY (And.intro hB hS)))))))))))
 clear ha hb hna hnb hca hcb hs hz hX hY hB hS hW1 hsv hsv' hAe
 go_enter Try.func18, Try.ntmps18
 change Code.wp Try.prog (.seq (fst2 code18) (lastPart 1 code18)) _ _ _
 generalize hxa : a.cells = xs at *
 generalize hxb : b.cells = ys at *
 have HXA := Lib.hid hxa; have HXB := Lib.hid hxb
 clear hxa hxb
 refine wp_seq_thenQ (fun K hK => ?_)
 have HK := Lib.hid hK
 clear hK
 conv => arg 2; whnf
 go_wp2_with fail
 have e0 : (w.alloc (.cells xs 30)).alloc (.cells ys 30) = W1 := HW1.out
 rw [e0, HAE.out]
 refine HK.out _ _ ?_
 clear HK K e0 HW1
 obtain ⟨ha, hb, hna, hnb, hca, hcb, hs, hz, hX, hY, hB, hS⟩ := HS.out
 rw [← HXA.out] at hX
 rw [← HXB.out] at hY
 have hAE := HAE.out
 rw [akstep1]
 refine wp_seq_then (fun K hK => alk_reg1 a b ka kb A (A + 1) W1 (by omega) hX hY (ha.below hB) (hb.below hB) (hna.below hB) (hnb.below hB) hca hcb _ _ _ _ _ _ _ _ _ _ _ _ _ _ _ _ _ _ _ _ _ _ _ _ _ _ _ _ _ _ _ _ _ K (fun a' b' V1 V2 W' v10 v12 hcp hX2 hY2 hsz hbl hbel => ?_))
 refine hK _ _ ?_
 clear hK K
 dsimp only
 obtain ⟨c1, c2⟩ := hcp
 have hd1 : W1.drew.heap.size = W1.heap.size := rfl
 have b1 := c1.below.size; have b2 := c2.below.size
 have bw1 : Below w.heap.size w W1.drew := hB.drew
 have bw2 : Below w.heap.size w V2 := thenB bw1 (thenB c1.below c2.below)
 have bw : Below w.heap.size w W' := hbel _ _ bw2 (by omega) (by omega)
 have hBa : OneB w A W1.drew.heap.size V1.heap.size a' := c1.one ha (by omega) (by omega)
 have hBb : OneB w (A + 1) V1.heap.size V2.heap.size b' := c2.one hb (by omega) (by omega)
 have ga := (hBa.blk_ (blk a'.ra) (Or.inl rfl)).2
 have gb := (hBb.blk_ (blk b'.ra) (Or.inl rfl)).2
 obtain ⟨p1, p2, p3⟩ := Ls.stay c1.at_ c1.ns hBa.raf ga (fun r hr => (c1.refs r hr).2) hBa.rows bw (by omega) (fun q hq hl => by
  have := hBa.blk_ q hq
  exact (hbl q (by omega) (by omega)).trans (c2.below.block q hl))
 obtain ⟨r1, r2, r3⟩ := Ls.stay c2.at_ c2.ns hBb.raf gb (fun r hr => (c2.refs r hr).2) hBb.rows bw (by omega) (fun q hq hl => by
  have := hBb.blk_ q hq
  exact hbl q (by omega) (by omega))
 have hka : a'.refs.map RefL.key = a.strip.refs := by rw [a'.refs_key, c1.strip]
 have hkb : b'.refs.map RefL.key = b.strip.refs := by rw [b'.refs_key, c2.strip]
 have hpa : (ptrs a'.refs).length ≤ 1000000 := by
  have h1 := ptrs_le a'.refs
  have h2 := Ls.refs_same (x := a') (y := a) (by rw [c1.strip])
  omega
 have hpb : (ptrs b'.refs).length ≤ 1000000 := by
  have h1 := ptrs_le b'.refs
  have h2 := Ls.refs_same (x := b') (y := b) (by rw [c2.strip])
  omega
 have hst : a'.strip = b'.strip := by rw [c1.strip, c2.strip, hs]
 have hzz : chgN zeroR a'.refs ka = chgN zeroR b'.refs kb := by rw [chg_zero, chg_zero, hka, hkb, hz]
 rw [akstep2]
 refine wp_seq_then (fun K hK => alk_e2 A (A + 1) _ _ _ _ a' b' ka kb w W' hBa hBb (Nat.le_refl _) (by omega) (by omega) ⟨p1, p2, p3, hX2⟩ ⟨r1, r2, r3, hY2⟩ bw (by omega) (by omega) hpa hpb _ _ _ _ _ _ _ _ _ _ _ _ _ _ _ _ _ _ _ _ _ _ _ _ _ _ _ _ _ _ _ _ _ K (fun W3 o1 o2 bw3 => ?_))
 intros
 refine hK _ _ ?_
 have n1 := o1.ns
 rw [hzz] at n1
 have C := same_any a' b' _ W3 o1.at_ o2.at_ hst n1 o2.ns
 unfold Ls.val at C
 have HC := Lib.hid C; have HL1 := Lib.hid o1.box; have HL2 := Lib.hid o2.box; have HB3 := Lib.hid bw3
 clear C hK K n1 o1 o2 bw3 hzz hst hpa hpb hka hkb p1 p2 p3 r1 r2 r3 ga gb hBa hBb bw bw2 bw1 b1 b2 hd1 c1 c2 hX2 hY2 hsz hbl hbel ha hb hna hnb hca hcb hs hz hX hY hB hS HS
 conv => arg 2; whnf
 go_wp2_with (first
  | (go_at_call 17; refine HC.out.mono ?_; rintro e V ⟨rfl, hv⟩)
  | (refine wpList_load_row rfl 30 _ rfl A rfl 30 a'.cells (0, 0) _ HL1.out Try.underlying30 rfl (by kernel_rfl) ?_; simp only [Act.put, List.setIfInBounds_toArray, List.set_cons_zero, List.set_cons_succ])
  | (refine wpList_load_row rfl 30 _ rfl (A + 1) rfl 30 b'.cells (0, 0) _ HL2.out Try.underlying30 rfl (by kernel_rfl) ?_; simp only [Act.put, List.setIfInBounds_toArray, List.set_cons_zero, List.set_cons_succ]))
 go_ret
 exact ⟨rfl, thenB HB3.out hv⟩
end Go.Proofs.Ytpnbpepkoekkoaa
end
section
namespace Go.Proofs.Ytpnbpepkoekkoaa
open Go Go.RowKit Go.Deep
theorem refsIdx_get {R P : List Nm} : ∀ {pre : List (Nat × Nm)} {r : Nat × Nm} {rest : List (Nat × Nm)} {ns kp : List Int} {k : Int} {kr : List Int}, refsIdx R P (pre ++ r :: rest) ns = some (kp ++ k :: kr) → kp.length = pre.length → ∃ n, refIdx R P r n = some k
 | [], r, rest, [], kp, k, kr, h, _ => by simp [refsIdx] at h
 | _ :: _, r, rest, [], kp, k, kr, h, _ => by simp [refsIdx] at h
 | [], r, rest, n :: ns, kp, k, kr, h, hl => by
  obtain rfl : kp = [] := by simpa using hl
  simp only [List.nil_append, refsIdx] at h
  cases hq : refIdx R P r n with
  | none => rw [hq] at h; simp at h
  | some k' =>
   rw [hq] at h
   cases hs : refsIdx R P rest ns with
   | none => rw [hs] at h; simp at h
   | some ks' =>
    rw [hs] at h
    simp only [Option.some.injEq, List.cons.injEq] at h
    obtain ⟨rfl, _⟩ := h
    exact ⟨n, hq⟩
 | p :: pre, r, rest, n :: ns, kp, k, kr, h, hl => by
  cases kp with
  | nil => simp at hl
  | cons k0 kp =>
  simp only [List.cons_append, refsIdx] at h
  cases hq : refIdx R P p n with
  | none => rw [hq] at h; simp at h
  | some k' =>
   rw [hq] at h
   cases hs : refsIdx R P (pre ++ r :: rest) ns with
   | none => rw [hs] at h; simp at h
   | some ks' =>
    rw [hs] at h
    simp only [Option.some.injEq, List.cons.injEq] at h
    obtain ⟨_, rfl⟩ := h
    exact refsIdx_get hs (by simpa using hl)
theorem getElem_idxOf {l : List Nm} {a : Nm} (h : a ∈ l) : l[l.idxOf a]? = some a := by
 have hl := List.idxOf_lt_length_of_mem h
 rw [List.getElem?_eq_getElem hl, List.getElem_idxOf]
theorem idx_right {x : Ls} {ns ks : List Int} (h : x.strip.idx ns = some ks) (pre : List RefL) (r : RefL) (rest : List RefL) (kp : List Int) (k : Int) (kr : List Int) (h1 : x.refs = pre ++ r :: rest) (h2 : ks = kp ++ k :: kr) (h3 : kp.length = pre.length) (h4 : r.to ≠ 0) :
  ∃ j : Nat, k = (j : Int) ∧ (x.namesOf (decide (r.to = 2)))[j]? = some r.nm := by
 have h5 := Ls.refs_to (s := x) (r := r) (by rw [h1]; simp)
 unfold Sc.idx at h
 split at h
 ·rw [← x.refs_key, h1, List.map_append, List.map_cons, h2] at h
  obtain ⟨n, hn⟩ := refsIdx_get h (by rw [List.length_map]; exact h3)
  have hr : x.strip.rnames = x.roles.map fun p => p.name := rfl
  have hp : x.strip.pnames = x.phrases.map fun p => p.name := by simp [Sc.pnames, Ls.strip, Ph.strip]
  unfold refIdx RefL.key at hn
  rw [if_neg h4] at hn
  by_cases h6 : r.to = 1
  ·rw [if_pos h6, hr] at hn
   split at hn
   ·rename_i hm
    injection hn with hn
    refine ⟨_, hn.symm, ?_⟩
    unfold Ls.namesOf
    rw [decide_eq_false (by omega), if_neg (by decide)]
    exact getElem_idxOf hm
   ·cases hn
  ·rw [if_neg h6, hp] at hn
   split at hn
   ·rename_i hm
    injection hn with hn
    refine ⟨_, hn.symm, ?_⟩
    unfold Ls.namesOf
    rw [decide_eq_true (by omega), if_pos rfl]
    exact getElem_idxOf hm
   ·cases hn
 ·cases h
theorem refsIdx_zero {R P : List Nm} : ∀ {rs : List (Nat × Nm)} {ns ks : List Int}, refsIdx R P rs ns = some ks → zeroK rs ks = zeroK rs ns
 | [], [], ks, h => by simp [refsIdx] at h; rw [← h]
 | [], _ :: _, ks, h => by simp [refsIdx] at h
 | _ :: _, [], ks, h => by simp [refsIdx] at h
 | r :: rs, n :: ns, ks, h => by
  simp only [refsIdx] at h
  cases hq : refIdx R P r n with
  | none => rw [hq] at h; simp at h
  | some k' =>
   rw [hq] at h
   cases hs : refsIdx R P rs ns with
   | none => rw [hs] at h; simp at h
   | some ks' =>
    rw [hs] at h
    simp only [Option.some.injEq] at h
    subst h
    simp only [zeroK]
    rw [refsIdx_zero hs]
    congr 1
    by_cases h0 : r.1 = 0
    ·rw [if_pos h0, if_pos h0]
     unfold refIdx at hq
     rw [if_pos h0] at hq
     split at hq
     ·rename_i hm
      injection hq with hq
      rw [← hq, hm.2]
     ·cases hq
    ·rw [if_neg h0, if_neg h0]
theorem idx_zero {s : Sc} {ns ks : List Int} (h : s.idx ns = some ks) : zeroK s.refs ks = zeroK s.refs ns := by
 unfold Sc.idx at h
 split at h
 ·exact refsIdx_zero h
 ·cases h
end Go.Proofs.Ytpnbpepkoekkoaa
end
section
namespace Go.Proofs.Ytpnbpepkoekkoaa
open Go Go.RowKit Go.Deep
def ResO (s : Ls) (ns : List Int) (w : World) (e : Ending) (w' : World) : Prop := ∃ (x : Ls) (ks : List Int), e = .returned (.tuple #[x.val, .int .i64 0]) ∧ x.strip = s.strip ∧ x.At w' ∧ NsAt w' x.refs ks ∧ s.strip.idx ns = some ks ∧ Below w.heap.size w w'
theorem res_ok (s : Ls) (ns : List Int) (w : World) (hA : s.At w) (hN : NsAt w s.refs ns) (he : Env w) (h0 : resE s.strip ns = 0) : Calls Try.prog 15 #[s.val] w (ResO s ns w) := by
 refine (res_any s ns w hA hN he).mono fun e w' h => ?_
 obtain ⟨h | h, hb⟩ := h
 ·obtain ⟨_, x, ks, h1, h2, h3, h4, h5, _⟩ := h
  exact ⟨x, ks, h1, h2, h3, h4, h5, hb⟩
 ·exact absurd h0 h.1
end Go.Proofs.Ytpnbpepkoekkoaa
end
section
namespace Go.Proofs.Ytpnbpepkoekkoaa
open Go Go.RowKit Go.Deep
theorem wpList_load_row_at {P : Program} {ops : Array Oper} {rest : List Oper} {o : Oper} {a : Act} {w : World} {Q : Exit → Act → World → Prop} (hgd : Region.wanted o (yielded ops a.tmps) = true) (ty : TypeId) (x : Operand) (ho : o.op = .load ty x)
  (g : Nat) (hx : a.eval x = .pointer (some ⟨g, 0, none⟩)) (t : TypeId) (cs : Array Value) (fr : Nat × Nat) (d : TypeDesc) (hg : w.heap[g]? = some (.cells cs t fr))
  (hu : P.underlying ty = some d) (hd : (match d with | .struct _ | .array _ _ => true | _ => false) = true) (hi : (P.info? ty).map (·.size) = some cs.size)
  (h : wpList P ops Q rest (a.put o.dst (.agg cs)) w) : wpList P ops Q (o :: rest) a w :=
 wpList_step fun K hK => by rw [if_pos hgd]; exact wp_load_row ty x ho g hx t cs fr d hg hu hd hi (hK _ _ h)
structure Bx (x : Ls) (ks : List Int) (X : Nat) (W : World) : Prop where
 box : W.heap[X]? = some (.cells x.cells 30 (0, 0))
 at_ : x.At W
 ns : NsAt W x.refs ks
theorem Bx.next {x : Ls} {ks : List Int} {X : Nat} {W W' : World} (h : Bx x ks X W) (hb : Below W.heap.size W W') : Bx x ks X W' := ⟨keepO hb h.box, h.at_.below hb, h.ns.below hb⟩
end Go.Proofs.Ytpnbpepkoekkoaa
end
section
namespace Go.Proofs.Ytpnbpepkoekkoaa
open Go Go.RowKit Go.Deep
theorem flat_take {α : Type} {enc : α → List Value} {k : Nat} (hk : ∀ x, (enc x).length = k) : ∀ (xs : List α) (i : Nat), (xs.take i).flatMap enc = (xs.flatMap enc).take (i * k)
  | [], i => by simp
  | x :: r, 0 => by simp
  | x :: r, i + 1 => by
    simp only [List.take_succ_cons, List.flatMap_cons, flat_take hk r i]
    have h1 : (enc x).take ((i + 1) * k) = enc x := List.take_of_length_le (by rw [hk x, Nat.add_mul]; omega)
    rw [List.take_append, hk x, show (i + 1) * k - k = i * k by rw [Nat.add_mul]; omega, h1]
theorem flat_drop {α : Type} {enc : α → List Value} {k : Nat} (hk : ∀ x, (enc x).length = k) : ∀ (xs : List α) (i : Nat), (xs.drop i).flatMap enc = (xs.flatMap enc).drop (i * k)
  | [], i => by simp
  | x :: r, 0 => by simp
  | x :: r, i + 1 => by
    simp only [List.drop_succ_cons, List.flatMap_cons, flat_drop hk r i]
    have h1 : (enc x).drop ((i + 1) * k) = [] := List.drop_of_length_le (by rw [hk x, Nat.add_mul]; omega)
    rw [List.drop_append, hk x, show (i + 1) * k - k = i * k by rw [Nat.add_mul]; omega, h1, List.nil_append]
theorem elem23 : Try.prog.underlying 23 = some (.slice (Try.prog.elem 23)) := by kernel_rfl
theorem size59 (W : World) : (sizeOf (Try.prog.elem 23)).run Try.prog W = .ok 4 W := by
  have h1 : Try.prog.elem 23 = 59 := by kernel_rfl
  obtain ⟨i0, hi, _, hz1, _⟩ := info_parts info59
  rw [h1]
  simp [sizeOf, typeInfo, hi, hz1]
theorem slice_rest23 (g n c k : Nat) (hk : k + 1 ≤ n) (hn : n ≤ c) : ∃ ad : Addr, (0 < n - (k + 1) → ad = ⟨g, (k + 1) * 4, none⟩) ∧ ∀ W, (Instr.slice 23 (.slice (some ⟨g, 0, none⟩) n c) (some (.int .i64 ((k : Int) + 1))) none none).run Try.prog W = .ok (.slice (some ad) (n - (k + 1)) (c - (k + 1))) W := by
  have e : ((k : Int) + 1).toNat = k + 1 := by omega
  refine ⟨if c = k + 1 then ⟨g, 0, none⟩ else (⟨g, 0, none⟩ : Addr).add ((k + 1) * 4), fun h1 => ?_, fun W => ?_⟩
  · rw [if_neg (by omega), addr_plain, Nat.zero_add]
  · rw [run_slice_l W 23 (some ⟨g, 0, none⟩) n c elem23 .i64 ((k : Int) + 1) (by omega) (by omega), size59]
    simp only [Result.andThen, sliced, e]
    by_cases h : c = k + 1
    · rw [if_pos h, if_pos h]
    · rw [if_neg h, if_neg h]; rfl
theorem slice_first23 (g n c k : Nat) (hk : k ≤ n) (hn : n ≤ c) (h0 : 0 < n) (W : World) : (Instr.slice 23 (.slice (some ⟨g, 0, none⟩) n c) none (some (.int .i64 (k : Int))) none).run Try.prog W = .ok (.slice (some ⟨g, 0, none⟩) k c) W := by
  rw [run_slice_h W 23 (some ⟨g, 0, none⟩) n c elem23 .i64 (k : Int) (by omega) (by omega), size59]
  have e : ((k : Int)).toNat = k := by omega
  simp only [Result.andThen, sliced, e]
  rw [if_neg (by omega), Nat.sub_zero, Nat.sub_zero]
  simp [Addr.add]
theorem elem27 : Try.prog.underlying 27 = some (.slice (Try.prog.elem 27)) := by kernel_rfl
theorem size57 (W : World) : (sizeOf (Try.prog.elem 27)).run Try.prog W = .ok 2 W := by
  have h1 : Try.prog.elem 27 = 57 := by kernel_rfl
  obtain ⟨i0, hi, _, hz1, _⟩ := info_parts info57
  rw [h1]
  simp [sizeOf, typeInfo, hi, hz1]
theorem slice_rest27 (g n c k : Nat) (hk : k + 1 ≤ n) (hn : n ≤ c) : ∃ ad : Addr, (0 < n - (k + 1) → ad = ⟨g, (k + 1) * 2, none⟩) ∧ ∀ W, (Instr.slice 27 (.slice (some ⟨g, 0, none⟩) n c) (some (.int .i64 ((k : Int) + 1))) none none).run Try.prog W = .ok (.slice (some ad) (n - (k + 1)) (c - (k + 1))) W := by
  have e : ((k : Int) + 1).toNat = k + 1 := by omega
  refine ⟨if c = k + 1 then ⟨g, 0, none⟩ else (⟨g, 0, none⟩ : Addr).add ((k + 1) * 2), fun h1 => ?_, fun W => ?_⟩
  · rw [if_neg (by omega), addr_plain, Nat.zero_add]
  · rw [run_slice_l W 27 (some ⟨g, 0, none⟩) n c elem27 .i64 ((k : Int) + 1) (by omega) (by omega), size57]
    simp only [Result.andThen, sliced, e]
    by_cases h : c = k + 1
    · rw [if_pos h, if_pos h]
    · rw [if_neg h, if_neg h]; rfl
theorem slice_first27 (g n c k : Nat) (hk : k ≤ n) (hn : n ≤ c) (h0 : 0 < n) (W : World) : (Instr.slice 27 (.slice (some ⟨g, 0, none⟩) n c) none (some (.int .i64 (k : Int))) none).run Try.prog W = .ok (.slice (some ⟨g, 0, none⟩) k c) W := by
  rw [run_slice_h W 27 (some ⟨g, 0, none⟩) n c elem27 .i64 (k : Int) (by omega) (by omega), size57]
  have e : ((k : Int)).toNat = k := by omega
  simp only [Result.andThen, sliced, e]
  rw [if_neg (by omega), Nat.sub_zero, Nat.sub_zero]
  simp [Addr.add]
theorem after_app {W W1 : World} {B e k a n' g Z : Nat} {cs : Array Value} {v1 : Value} {rows : List Value} (hZ : W.heap[Z]? = some (.cells cs 30 (0, 0))) (hgZ : g ≠ Z) (hk : 0 < k) (hn : a = n') (ho1 : W1.ownsRow B e k v1 a rows) (hg1 : W.drew.grownBy W1 (some g)) (hat1 : v1.ownBlock = some g ∨ v1.ownBlock = some W.heap.size) :
    ∃ g1 c1, v1 = .slice (some ⟨g1, 0, none⟩) n' c1 ∧ (g1 = g ∨ g1 = W.heap.size) ∧ g1 ≠ Z ∧ W1.heap[Z]? = some (.cells cs 30 (0, 0)) ∧ g1 < W1.heap.size ∧ (∀ j u, rows[j]? = some u → W1.cell? ⟨g1, j, none⟩ = some u) ∧ (∀ b, b < W.heap.size → b ≠ g → W1.heap[b]? = W.heap[b]?) ∧ ∀ B', B' ≤ g → B' ≤ W.heap.size → Below B' W W1 := by
  subst hn
  have hZl : Z < W.heap.size := (Array.getElem?_eq_some_iff.1 hZ).1
  have hkeep : ∀ b, b < W.heap.size → b ≠ g → W1.heap[b]? = W.heap[b]? := fun b hb hbg => hg1.block b hb (fun e => hbg (Option.some.inj e))
  obtain ⟨ao, c1, rfl, _, _, hform, _, _⟩ := own_new hk ho1
  obtain ⟨g1, rfl⟩ : ∃ g1, ao = some ⟨g1, 0, none⟩ := by
    rcases hform with e | e
    · rw [e] at hat1; rcases hat1 with h | h <;> cases h
    · exact ⟨_, e⟩
  have h1 : g1 = g ∨ g1 = W.heap.size := by
    rcases hat1 with h | h
    · exact Or.inl (Option.some.inj h)
    · exact Or.inr (Option.some.inj h)
  refine ⟨g1, c1, rfl, h1, by rcases h1 with h | h <;> omega, (hkeep Z hZl (Ne.symm hgZ)).trans hZ, (own_lt ho1 rfl).2, fun j u hj => ?_, hkeep, fun B' h2 h3 => ?_⟩
  · have := ho1.cells (g := g1) rfl j u hj
    rw [addr_plain, Nat.zero_add] at this; exact this
  · exact ((Below.refl B' W).drew).grown hg1 h3 (fun k hk => by have : g = k := Option.some.inj hk; omega)
noncomputable def code6 : Code := (Try.f6.body).getD .skip
noncomputable def elem6n0 : Code := match lastPart 0 code6 with
  | .seq a _ => a
  | c => c
noncomputable def elem6n1 : Code := match lastPart 1 code6 with
  | .seq a _ => a
  | c => c
noncomputable def elem6n2 : Code := match lastPart 2 code6 with
  | .seq a _ => a
  | c => c
noncomputable def elem6n3 : Code := match lastPart 3 code6 with
  | .seq a _ => a
  | c => c
noncomputable def elem6n4 : Code := match lastPart 4 code6 with
  | .seq a _ => a
  | c => c
noncomputable def elem6n5 : Code := match lastPart 5 code6 with
  | .seq a _ => a
  | c => c
noncomputable def elem6n6 : Code := match lastPart 6 code6 with
  | .seq a _ => a
  | c => c
noncomputable def elem6n7 : Code := match lastPart 7 code6 with
  | .seq a _ => a
  | c => c
noncomputable def elem6n8 : Code := match lastPart 8 code6 with
  | .seq a _ => a
  | c => c
noncomputable def elem6n9 : Code := match lastPart 9 code6 with
  | .seq a _ => a
  | c => c
noncomputable def elem6n10 : Code := match lastPart 10 code6 with
  | .seq a _ => a
  | c => c
noncomputable def elem6n11 : Code := match lastPart 11 code6 with
  | .seq a _ => a
  | c => c
theorem msstep1 : lastPart 1 code6 = .seq elem6n1 (lastPart 2 code6) := rfl
theorem msstep2 : lastPart 2 code6 = .seq elem6n2 (lastPart 3 code6) := rfl
theorem msstep3 : lastPart 3 code6 = .seq elem6n3 (lastPart 4 code6) := rfl
theorem msstep4 : lastPart 4 code6 = .seq elem6n4 (lastPart 5 code6) := rfl
theorem msstep5 : lastPart 5 code6 = .seq elem6n5 (lastPart 6 code6) := rfl
theorem msstep6 : lastPart 6 code6 = .seq elem6n6 (lastPart 7 code6) := rfl
theorem msstep7 : lastPart 7 code6 = .seq elem6n7 (lastPart 8 code6) := rfl
theorem msstep8 : lastPart 8 code6 = .seq elem6n8 (lastPart 9 code6) := rfl
theorem msstep9 : lastPart 9 code6 = .seq elem6n9 (lastPart 10 code6) := rfl
theorem msstep10 : lastPart 10 code6 = .seq elem6n10 (lastPart 11 code6) := rfl
theorem msstep11 : lastPart 11 code6 = .seq elem6n11 (lastPart 12 code6) := rfl
def fstM : Code → Code | .seq a _ => a | c => c
def sndM : Code → Code | .seq _ b => b | c => c
def thenM : Code → Code | .cond _ a _ => a | c => c
def elseM : Code → Code | .cond _ _ b => b | c => c
noncomputable def reg6n12 : Code := thenM (sndM elem6n7)
noncomputable def reg6n13 : Code := elseM (sndM elem6n7)
set_option maxRecDepth 100000 in
set_option maxHeartbeats 16000000 in
theorem mis_r13 (Z g n c i B : Nat) (cs : Array Value) (xs : List Rol) (W : World) (hZ : W.heap[Z]? = some (.cells cs 30 (0, 0))) (h6 : cs[6]? = some (.slice (some ⟨g, 0, none⟩) n c)) (hrow : RowV encR W g xs) (hsh : Shape W g 59 (c * 4)) (hn : xs.length = n) (hnc : n ≤ c) (hc : c ≤ maxLen) (hi : i < n) (hgZ : g ≠ Z) (hn1 : n ≤ 1000) (hB : B ≤ g) (hB2 : B ≤ W.heap.size) (e0 e1 e2 e3 e4 e5 e6 e7 e8 e9 e12 e13 e14 e15 e16 e17 e18 e19 e20 e21 e22 e23 e24 e25 e26 e27 e28 e29 e30 e31 e32 e33 e34 e35 e36 e37 e38 e39 e40 e41 e42 e43 e44 e45 e46 e47 e48 e49 e50 e51 e52 e53 e54 e55 e56 e57 e58 e59 e60 e61 e62 e63 e64 e65 e66 e67 e68 e69 e70 e71 e72 e73 e74 e75 e76 e77 e78 e79 e80 e81 e82 e83 e84 e85 e86 e87 e88 e89 e90 e91 e92 e93 e94 e95 e96 e97 e98 e99 e100 e101 e102 e103 e104 e105 e106 e107 e108 e109 e110 e111 : Value) (K : Act → World → Prop)
    (hK : ∀ (g1 c1 : Nat) (W' : World), RowV encR W' g1 (xs.eraseIdx i) → g1 < W'.heap.size → W'.heap[Z]? = some (.cells (cs.setIfInBounds 6 (.slice (some ⟨g1, 0, none⟩) (n - 1) c1)) 30 (0, 0)) → (∀ b, b < W.heap.size → b ≠ Z → b ≠ g → W'.heap[b]? = W.heap[b]?) → (g1 = g ∨ W.heap.size ≤ g1) → (∀ B', B' ≤ Z → B' ≤ g → B' ≤ W.heap.size → Below B' W W') →
      ∀ (f56 f57 f58 f59 f60 f61 f62 f63 f64 f65 f66 : Value), K { tmps := #[e0, e1, e2, e3, e4, e5, e6, e7, e8, e9, .int .i64 (i : Nat), .pointer (some ⟨Z, 0, none⟩), e12, e13, e14, e15, e16, e17, e18, e19, e20, e21, e22, e23, e24, e25, e26, e27, e28, e29, e30, e31, e32, e33, e34, e35, e36, e37, e38, e39, e40, e41, e42, e43, e44, e45, e46, e47, e48, e49, e50, e51, e52, e53, e54, e55, f56, f57, f58, f59, f60, f61, f62, f63, f64, f65, f66, e67, e68, e69, e70, e71, e72, e73, e74, e75, e76, e77, e78, e79, e80, e81, e82, e83, e84, e85, e86, e87, e88, e89, e90, e91, e92, e93, e94, e95, e96, e97, e98, e99, e100, e101, e102, e103, e104, e105, e106, e107, e108, e109, e110, e111], defers := [] } W') :
    reg6n13.wp Try.prog (Exit.then K (fun _ _ _ => False)) { tmps := #[e0, e1, e2, e3, e4, e5, e6, e7, e8, e9, .int .i64 (i : Nat), .pointer (some ⟨Z, 0, none⟩), e12, e13, e14, e15, e16, e17, e18, e19, e20, e21, e22, e23, e24, e25, e26, e27, e28, e29, e30, e31, e32, e33, e34, e35, e36, e37, e38, e39, e40, e41, e42, e43, e44, e45, e46, e47, e48, e49, e50, e51, e52, e53, e54, e55, e56, e57, e58, e59, e60, e61, e62, e63, e64, e65, e66, e67, e68, e69, e70, e71, e72, e73, e74, e75, e76, e77, e78, e79, e80, e81, e82, e83, e84, e85, e86, e87, e88, e89, e90, e91, e92, e93, e94, e95, e96, e97, e98, e99, e100, e101, e102, e103, e104, e105, e106, e107, e108, e109, e110, e111], defers := [] } W := by
  obtain ⟨i0, hi85, hz0, hz1, hz2⟩ := info_parts info59
  have hgl : g < W.heap.size := hsh.lt
  have hZl : Z < W.heap.size := (Array.getElem?_eq_some_iff.1 hZ).1
  have c6 := cell_at hZ 6 h6
  obtain ⟨ad, had, hsl2⟩ := slice_rest23 g n c i (by omega) hnc
  have hsl1 := slice_first23 g n c i (by omega) hnc (by omega)
  have hwi : IntKind.i64.wrap ((i : Int) + 1) = (i : Int) + 1 := IntWalk.i64_in _ (by omega)
  have hfl : (xs.flatMap encR).length = n * 4 := by rw [flat_len encR_len, hn]
  have hown : W.drew.ownsRow B 59 4 (.slice (some ⟨g, 0, none⟩) i c) i ((xs.take i).flatMap encR) := own_of_shape (W := W.drew) hsh (by omega) hc hB (by rw [flat_len encR_len, List.length_take, hn]; congr 1; omega) (fun j u hj => by
    rw [flat_take encR_len] at hj
    exact hrow j u (by rw [List.getElem?_take] at hj; split at hj; · exact hj
                       · cases hj))
  have hnl : ((xs.drop (i + 1)).flatMap encR).length = (n - (i + 1)) * 4 := by rw [flat_len encR_len, List.length_drop, hn]
  have hnews : ∀ j u, ((xs.drop (i + 1)).flatMap encR)[j]? = some u → W.drew.cell? (ad.add j) = some u := fun j u hj => by
    have hjl := (List.getElem?_eq_some_iff.1 hj).1
    rw [hnl] at hjl
    rw [had (by rcases Nat.eq_zero_or_pos (n - (i + 1)) with h | h
                · rw [h] at hjl; omega
                · exact h), addr_plain]
    rw [flat_drop encR_len, List.getElem?_drop] at hj
    exact hrow _ u hj
  have herase : (xs.take i).flatMap encR ++ (xs.drop (i + 1)).flatMap encR = (xs.eraseIdx i).flatMap encR := by rw [List.eraseIdx_eq_take_drop_succ, List.flatMap_append]
  have HH := Lib.hid (And.intro hi85 (And.intro hz0 (And.intro hz1 (And.intro hz2 (And.intro hown (And.intro hnl (And.intro hnews (And.intro herase (And.intro hK (And.intro hZ (And.intro h6 (And.intro hrow (And.intro hsh hn)))))))))))))
  clear hK hZ h6 hrow hsh hown hnl hnews herase had hfl hz0 hz1 hz2 hi85 hn
  unfold reg6n13 elem6n7 code6
  conv => arg 2; whnf
  refine region_tail (fun w2 => w2 = W.drew) 9 (by kernel_rfl) (by kernel_rfl) rfl ?_
  intro w2 hS
  subst hS
  simp only [List.take_succ_cons, List.take_zero, List.drop_succ_cons, List.drop_zero]
  have c6d : W.drew.cell? ⟨Z, 6, none⟩ = some (.slice (some ⟨g, 0, none⟩) n c) := c6
  repeat still_step
  refine wpStill_nil ?_
  go_wp2_with (refine wpList_append_row rfl _ _ 23 rfl B 59 i0 _ 4 40 Try.underlying23 HH.out.1 HH.out.2.1 HH.out.2.2.1 HH.out.2.2.2.1 rfl (by decide) (.slice (some ⟨g, 0, none⟩) i c) i _ rfl HH.out.2.2.2.2.1 (some ad) (n - (i + 1)) (c - (i + 1)) _ rfl HH.out.2.2.2.2.2.1 (fun h => by cases h) (fun ad' h => by cases h; exact HH.out.2.2.2.2.2.2.1) (encR_one _) (by unfold maxLen; omega) (by omega) (by simpa using hB2) ?_; intro v1 W1 ho1 hg1 hat1; obtain ⟨g1, c1, rfl, p1, p2, p3, p4, p5, p6, p7⟩ := after_app (n' := n - 1) HH.out.2.2.2.2.2.2.2.2.2.1 hgZ (by decide) (by omega) ho1 hg1 hat1; have q1 := cell_at p3 6 HH.out.2.2.2.2.2.2.2.2.2.2.1; have z1 := (show FreeB W1 Z from ⟨_, _, p3⟩).free 6; have HP := Lib.hid (And.intro p1 (And.intro p2 (And.intro p3 (And.intro p4 (And.intro p5 (And.intro p6 p7)))))); clear ho1 hg1 hat1 p1 p2 p3 p4 p5 p6 p7)
  obtain ⟨p1, p2, p3, p4, p5, p6, p7⟩ := HP.out
  have hK := HH.out.2.2.2.2.2.2.2.2.1
  have herase := HH.out.2.2.2.2.2.2.2.1
  refine hK g1 c1 _ ?_ ?_ ?_ ?_ ?_ ?_ _ _ _ _ _ _ _ _ _ _ _
  · intro j u hj
    exact cell_set_ne (p5 j u (by rw [herase]; exact hj)) (addr_ne (Or.inl fun e => p2 e.symm))
  · simpa [World.setCell] using p4
  · exact set_blk p3 6 _
  · intro b hb hbZ hbg
    rw [Below.heap_setCell _ _ _ _ hbZ]
    exact p6 b hb hbg
  · rcases p1 with e | e
    · exact Or.inl e
    · right; omega
  · intro B' h1 h2 h3
    exact (p7 B' h2 h3).setCell (p := ⟨Z, 6, none⟩) h1 _
set_option maxRecDepth 100000 in
set_option maxHeartbeats 16000000 in
theorem mis_r12 (Z g n c i B : Nat) (cs : Array Value) (xs : List Ph) (W : World) (hZ : W.heap[Z]? = some (.cells cs 30 (0, 0))) (h6 : cs[10]? = some (.slice (some ⟨g, 0, none⟩) n c)) (hrow : RowV phCell W g xs) (hsh : Shape W g 57 (c * 2)) (hn : xs.length = n) (hnc : n ≤ c) (hc : c ≤ maxLen) (hi : i < n) (hgZ : g ≠ Z) (hn1 : n ≤ 1000) (hB : B ≤ g) (hB2 : B ≤ W.heap.size) (e0 e1 e2 e3 e4 e5 e6 e7 e8 e9 e12 e13 e14 e15 e16 e17 e18 e19 e20 e21 e22 e23 e24 e25 e26 e27 e28 e29 e30 e31 e32 e33 e34 e35 e36 e37 e38 e39 e40 e41 e42 e43 e44 e45 e46 e47 e48 e49 e50 e51 e52 e53 e54 e55 e56 e57 e58 e59 e60 e61 e62 e63 e64 e65 e66 e67 e68 e69 e70 e71 e72 e73 e74 e75 e76 e77 e78 e79 e80 e81 e82 e83 e84 e85 e86 e87 e88 e89 e90 e91 e92 e93 e94 e95 e96 e97 e98 e99 e100 e101 e102 e103 e104 e105 e106 e107 e108 e109 e110 e111 : Value) (K : Act → World → Prop)
    (hK : ∀ (g1 c1 : Nat) (W' : World), RowV phCell W' g1 (xs.eraseIdx i) → g1 < W'.heap.size → W'.heap[Z]? = some (.cells (cs.setIfInBounds 10 (.slice (some ⟨g1, 0, none⟩) (n - 1) c1)) 30 (0, 0)) → (∀ b, b < W.heap.size → b ≠ Z → b ≠ g → W'.heap[b]? = W.heap[b]?) → (g1 = g ∨ W.heap.size ≤ g1) → (∀ B', B' ≤ Z → B' ≤ g → B' ≤ W.heap.size → Below B' W W') →
      ∀ (f45 f46 f47 f48 f49 f50 f51 f52 f53 f54 f55 : Value), K { tmps := #[e0, e1, e2, e3, e4, e5, e6, e7, e8, e9, .int .i64 (i : Nat), .pointer (some ⟨Z, 0, none⟩), e12, e13, e14, e15, e16, e17, e18, e19, e20, e21, e22, e23, e24, e25, e26, e27, e28, e29, e30, e31, e32, e33, e34, e35, e36, e37, e38, e39, e40, e41, e42, e43, e44, f45, f46, f47, f48, f49, f50, f51, f52, f53, f54, f55, e56, e57, e58, e59, e60, e61, e62, e63, e64, e65, e66, e67, e68, e69, e70, e71, e72, e73, e74, e75, e76, e77, e78, e79, e80, e81, e82, e83, e84, e85, e86, e87, e88, e89, e90, e91, e92, e93, e94, e95, e96, e97, e98, e99, e100, e101, e102, e103, e104, e105, e106, e107, e108, e109, e110, e111], defers := [] } W') :
    reg6n12.wp Try.prog (Exit.then K (fun _ _ _ => False)) { tmps := #[e0, e1, e2, e3, e4, e5, e6, e7, e8, e9, .int .i64 (i : Nat), .pointer (some ⟨Z, 0, none⟩), e12, e13, e14, e15, e16, e17, e18, e19, e20, e21, e22, e23, e24, e25, e26, e27, e28, e29, e30, e31, e32, e33, e34, e35, e36, e37, e38, e39, e40, e41, e42, e43, e44, e45, e46, e47, e48, e49, e50, e51, e52, e53, e54, e55, e56, e57, e58, e59, e60, e61, e62, e63, e64, e65, e66, e67, e68, e69, e70, e71, e72, e73, e74, e75, e76, e77, e78, e79, e80, e81, e82, e83, e84, e85, e86, e87, e88, e89, e90, e91, e92, e93, e94, e95, e96, e97, e98, e99, e100, e101, e102, e103, e104, e105, e106, e107, e108, e109, e110, e111], defers := [] } W := by
  obtain ⟨i0, hi85, hz0, hz1, hz2⟩ := info_parts info57
  have hgl : g < W.heap.size := hsh.lt
  have hZl : Z < W.heap.size := (Array.getElem?_eq_some_iff.1 hZ).1
  have c6 := cell_at hZ 10 h6
  obtain ⟨ad, had, hsl2⟩ := slice_rest27 g n c i (by omega) hnc
  have hsl1 := slice_first27 g n c i (by omega) hnc (by omega)
  have hwi : IntKind.i64.wrap ((i : Int) + 1) = (i : Int) + 1 := IntWalk.i64_in _ (by omega)
  have hfl : (xs.flatMap phCell).length = n * 2 := by rw [flat_len phCell_len, hn]
  have hown : W.drew.ownsRow B 57 2 (.slice (some ⟨g, 0, none⟩) i c) i ((xs.take i).flatMap phCell) := own_of_shape (W := W.drew) hsh (by omega) hc hB (by rw [flat_len phCell_len, List.length_take, hn]; congr 1; omega) (fun j u hj => by
    rw [flat_take phCell_len] at hj
    exact hrow j u (by rw [List.getElem?_take] at hj; split at hj; · exact hj
                       · cases hj))
  have hnl : ((xs.drop (i + 1)).flatMap phCell).length = (n - (i + 1)) * 2 := by rw [flat_len phCell_len, List.length_drop, hn]
  have hnews : ∀ j u, ((xs.drop (i + 1)).flatMap phCell)[j]? = some u → W.drew.cell? (ad.add j) = some u := fun j u hj => by
    have hjl := (List.getElem?_eq_some_iff.1 hj).1
    rw [hnl] at hjl
    rw [had (by rcases Nat.eq_zero_or_pos (n - (i + 1)) with h | h
                · rw [h] at hjl; omega
                · exact h), addr_plain]
    rw [flat_drop phCell_len, List.getElem?_drop] at hj
    exact hrow _ u hj
  have herase : (xs.take i).flatMap phCell ++ (xs.drop (i + 1)).flatMap phCell = (xs.eraseIdx i).flatMap phCell := by rw [List.eraseIdx_eq_take_drop_succ, List.flatMap_append]
  have HH := Lib.hid (And.intro hi85 (And.intro hz0 (And.intro hz1 (And.intro hz2 (And.intro hown (And.intro hnl (And.intro hnews (And.intro herase (And.intro hK (And.intro hZ (And.intro h6 (And.intro hrow (And.intro hsh hn)))))))))))))
  clear hK hZ h6 hrow hsh hown hnl hnews herase had hfl hz0 hz1 hz2 hi85 hn
  unfold reg6n12 elem6n7 code6
  conv => arg 2; whnf
  refine region_tail (fun w2 => w2 = W.drew) 9 (by kernel_rfl) (by kernel_rfl) rfl ?_
  intro w2 hS
  subst hS
  simp only [List.take_succ_cons, List.take_zero, List.drop_succ_cons, List.drop_zero]
  have c6d : W.drew.cell? ⟨Z, 10, none⟩ = some (.slice (some ⟨g, 0, none⟩) n c) := c6
  repeat still_step
  refine wpStill_nil ?_
  go_wp2_with (refine wpList_append_row rfl _ _ 27 rfl B 57 i0 _ 2 40 Try.underlying27 HH.out.1 HH.out.2.1 HH.out.2.2.1 HH.out.2.2.2.1 rfl (by decide) (.slice (some ⟨g, 0, none⟩) i c) i _ rfl HH.out.2.2.2.2.1 (some ad) (n - (i + 1)) (c - (i + 1)) _ rfl HH.out.2.2.2.2.2.1 (fun h => by cases h) (fun ad' h => by cases h; exact HH.out.2.2.2.2.2.2.1) (phCell_one _) (by unfold maxLen; omega) (by omega) (by simpa using hB2) ?_; intro v1 W1 ho1 hg1 hat1; obtain ⟨g1, c1, rfl, p1, p2, p3, p4, p5, p6, p7⟩ := after_app (n' := n - 1) HH.out.2.2.2.2.2.2.2.2.2.1 hgZ (by decide) (by omega) ho1 hg1 hat1; have q1 := cell_at p3 10 HH.out.2.2.2.2.2.2.2.2.2.2.1; have z1 := (show FreeB W1 Z from ⟨_, _, p3⟩).free 10; have HP := Lib.hid (And.intro p1 (And.intro p2 (And.intro p3 (And.intro p4 (And.intro p5 (And.intro p6 p7)))))); clear ho1 hg1 hat1 p1 p2 p3 p4 p5 p6 p7)
  obtain ⟨p1, p2, p3, p4, p5, p6, p7⟩ := HP.out
  have hK := HH.out.2.2.2.2.2.2.2.2.1
  have herase := HH.out.2.2.2.2.2.2.2.1
  refine hK g1 c1 _ ?_ ?_ ?_ ?_ ?_ ?_ _ _ _ _ _ _ _ _ _ _ _
  · intro j u hj
    exact cell_set_ne (p5 j u (by rw [herase]; exact hj)) (addr_ne (Or.inl fun e => p2 e.symm))
  · simpa [World.setCell] using p4
  · exact set_blk p3 10 _
  · intro b hb hbZ hbg
    rw [Below.heap_setCell _ _ _ _ hbZ]
    exact p6 b hb hbg
  · rcases p1 with e | e
    · exact Or.inl e
    · right; omega
  · intro B' h1 h2 h3
    exact (p7 B' h2 h3).setCell (p := ⟨Z, 10, none⟩) h1 _
end Go.Proofs.Ytpnbpepkoekkoaa
end
section
namespace Go.Proofs.Ytpnbpepkoekkoaa
open Go Go.RowKit Go.Deep
theorem drop_role {s x : Ls} {ns : List Int} {w V W' : World} {g1 c1 i : Nat} (h : Kept s ns w x V W' (blk x.ra)) (hs : s.At w) (hv : RowV encR W' g1 (x.roles.eraseIdx i)) (hg : g1 < W'.heap.size) (hl : (x.roles.eraseIdx i).length ≤ maxLen) :
  ({ x with ra := some ⟨g1, 0, none⟩, rc := c1, roles := x.roles.eraseIdx i } : Ls).At W' ∧ NsAt W' x.refs ns :=
 ⟨(rol_at h hs hv hg hl).1, h.cp.ns.kept fun y hy _ hv => cell_blk (h.keep _ (cell_lt hv) (h.cp.refs_ra y hy)) _ _ hv⟩
theorem CpW.refs_fa {s : Ls} {ns : List Int} {w0 : World} {x : Ls} {V : World} (h : CpW s ns w0 x V) : ∀ r ∈ x.refs, r.b ≠ blk x.fa := fun r hr e => by
 rcases List.mem_append.1 hr with h1 | h1
 ·exact h.sep.fa (by rw [← e]; exact phRefs_own h1)
 ·exact h.own.fd (by rw [← (danRefs_mem h1).1]; exact e.symm)
theorem drop_phr {s x : Ls} {ns : List Int} {w V W' : World} {g1 c1 : Nat} {a c : List Ph} {p : Ph} (h : Kept s ns w x V W' (blk x.fa)) (hs : s.At w) (hr : x.roles.length ≤ maxLen) (hsp : x.phrases = a ++ p :: c) (hv : RowV phCell W' g1 (a ++ c)) (hl : (a ++ c).length ≤ maxLen) :
  ({ x with fa := some ⟨g1, 0, none⟩, fc := c1, phrases := a ++ c } : Ls).At W' ∧ ∃ nA nB nC, ns = nA ++ (nB ++ nC) ∧ nA.length = (phRefs a).length ∧ nB.length = p.refsL.length ∧ NsAt W' ({ x with fa := some ⟨g1, 0, none⟩, fc := c1, phrases := a ++ c } : Ls).refs (nA ++ nC) := by
 have hmem : ∀ q ∈ a ++ c, q ∈ x.phrases := fun q hq => by
  rw [hsp]
  rcases List.mem_append.1 hq with h | h
  ·exact List.mem_append.2 (Or.inl h)
  ·exact List.mem_append.2 (Or.inr (List.mem_cons_of_mem _ h))
 refine ⟨(phr_at h hs hr hv hl fun q hq => Or.inl (hmem q hq)).1, ?_⟩
 have hx : x.refs = phRefs a ++ (p.refsL ++ (phRefs c ++ danRefs (blk x.da) (off x.da) x.dances)) := by
  unfold Ls.refs
  rw [hsp, phRefs_app]
  simp [phRefs]
 have hn := h.cp.ns
 rw [hx] at hn
 obtain ⟨nA, n1, rfl, h1, h2⟩ := hn.split
 obtain ⟨nB, nC, rfl, h3, h4⟩ := h2.split
 have hk : ∀ r ∈ x.refs, ∀ v, V.cell? ⟨r.b, r.o + 1, none⟩ = some v → W'.cell? ⟨r.b, r.o + 1, none⟩ = some v := fun r hr v hv => cell_blk (h.keep _ (cell_lt hv) (h.cp.refs_fa r hr)) _ _ hv
 refine ⟨nA, nB, nC, rfl, h1.len, h3.len, ?_⟩
 unfold Ls.refs
 rw [phRefs_app, List.append_assoc]
 refine (h1.kept fun r hr v hv => hk r ?_ v hv).append (h4.kept fun r hr v hv => hk r ?_ v hv)
 ·rw [hx]; exact List.mem_append.2 (Or.inl hr)
 ·rw [hx]; exact List.mem_append.2 (Or.inr (List.mem_append.2 (Or.inr hr)))
def hitB (phrase : Bool) (nm : Nm) (r : RefL) : Bool := (decide (r.to = 2) == phrase) && decide (r.nm = nm)
theorem hit_iff {l : Ls} {phrase : Bool} {nm : Nm} : (ptrs l.refs).any (hitB phrase nm) = true ↔ ∃ r ∈ l.strip.refs, (if phrase then r.1 ≠ 0 ∧ r.1 ≠ 1 else r.1 = 1) ∧ r.2 = nm := by
 rw [List.any_eq_true, ← l.refs_key]
 constructor
 ·rintro ⟨r, hr, h⟩
  obtain ⟨h1, h2⟩ := List.mem_filter.1 (show r ∈ l.refs.filter _ from hr)
  have h2 : r.to ≠ 0 := by simpa using h2
  have h3 := l.refs_to2 r h1
  unfold hitB at h
  rw [Bool.and_eq_true, decide_eq_true_eq] at h
  refine ⟨r.key, List.mem_map.2 ⟨r, h1, rfl⟩, ?_, h.2⟩
  have h4 := h.1
  cases phrase with
  | true =>
   have : r.to = 2 := by simpa using h4
   rw [if_pos rfl]
   exact ⟨by show r.to ≠ 0; omega, by show r.to ≠ 1; omega⟩
  | false =>
   have : ¬ r.to = 2 := by simpa using h4
   rw [if_neg (by decide)]
   show r.to = 1
   omega
 ·rintro ⟨k, hk, h1, h2⟩
  obtain ⟨r, hr, rfl⟩ := List.mem_map.1 hk
  have h3 := l.refs_to2 r hr
  have h2 : r.nm = nm := h2
  have h4 : r.to ≠ 0 ∧ (decide (r.to = 2) == phrase) = true := by
   cases phrase with
   | true =>
    rw [if_pos rfl] at h1
    have a1 : r.to ≠ 0 := h1.1
    have a2 : r.to ≠ 1 := h1.2
    exact ⟨a1, by simp; omega⟩
   | false =>
    rw [if_neg (by decide)] at h1
    have a1 : r.to = 1 := h1
    exact ⟨by omega, by simp; omega⟩
  refine ⟨r, List.mem_filter.2 ⟨hr, by simpa using h4.1⟩, ?_⟩
  unfold hitB
  rw [h4.2, decide_eq_true h2]; rfl
theorem any_step {rs : List RefL} {f : RefL → Bool} {i : Nat} {r : RefL} (h : rs[i]? = some r) : (rs.take (i + 1)).any f = ((rs.take i).any f || f r) := by
 rw [List.take_add_one, h]
 simp
theorem any_all {rs : List RefL} {f : RefL → Bool} {i : Nat} (h : i = rs.length) : (rs.take i).any f = rs.any f := by
 rw [h, List.take_length]
set_option maxRecDepth 100000 in
set_option maxHeartbeats 16000000 in
theorem mis_e9 (l : Ls) (kl : List Int) (Z gN nN cN j : Nat) (phrase : Bool) (nm : Nm) (W : World) (hl : Bx l kl Z W) (hml : (ptrs l.refs).length ≤ 1000000) (hnm : W.cell? ⟨gN, j, none⟩ = some (sv nm)) (hj : j < nN) (e0 e2 e3 e4 e5 e6 e8 e9 e13 e14 e15 e16 e17 e18 e19 e20 e21 e22 e23 e24 e25 e26 e27 e28 e29 e30 e31 e32 e33 e34 e35 e36 e37 e38 e39 e40 e41 e42 e43 e44 e45 e46 e47 e48 e49 e50 e51 e52 e53 e54 e55 e56 e57 e58 e59 e60 e61 e62 e63 e64 e65 e66 e67 e68 e69 e70 e71 e72 e73 e74 e75 e76 e77 e78 e79 e80 e81 e82 e83 e84 e85 e86 e87 e88 e89 e90 e91 e92 e93 e94 e95 e96 e97 e98 e99 e100 e101 e102 e103 e104 e105 e106 e107 e108 e109 e110 e111 : Value) (K : Act → World → Prop)
  (hK : ∀ W', Below W.heap.size W W' → ∀ (f14 f67 f68 f69 f70 f71 f72 f73 f74 f75 f76 f77 f78 f79 f80 f81 f82 f83 f84 f85 f86 f87 f88 f89 f90 f91 f92 : Value), K { tmps := #[e0, .bool phrase, e2, e3, e4, e5, e6, .slice (some ⟨gN, 0, none⟩) nN cN, e8, e9, .int .i64 (j : Nat), .pointer (some ⟨Z, 0, none⟩), .bool ((ptrs l.refs).any (hitB phrase nm)), e13, f14, e15, e16, e17, e18, e19, e20, e21, e22, e23, e24, e25, e26, e27, e28, e29, e30, e31, e32, e33, e34, e35, e36, e37, e38, e39, e40, e41, e42, e43, e44, e45, e46, e47, e48, e49, e50, e51, e52, e53, e54, e55, e56, e57, e58, e59, e60, e61, e62, e63, e64, e65, e66, f67, f68, f69, f70, f71, f72, f73, f74, f75, f76, f77, f78, f79, f80, f81, f82, f83, f84, f85, f86, f87, f88, f89, f90, f91, f92, e93, e94, e95, e96, e97, e98, e99, e100, e101, e102, e103, e104, e105, e106, e107, e108, e109, e110, e111], defers := [] } W') :
  elem6n9.wp Try.prog (Exit.then K (fun _ _ _ => False)) { tmps := #[e0, .bool phrase, e2, e3, e4, e5, e6, .slice (some ⟨gN, 0, none⟩) nN cN, e8, e9, .int .i64 (j : Nat), .pointer (some ⟨Z, 0, none⟩), .bool false, e13, e14, e15, e16, e17, e18, e19, e20, e21, e22, e23, e24, e25, e26, e27, e28, e29, e30, e31, e32, e33, e34, e35, e36, e37, e38, e39, e40, e41, e42, e43, e44, e45, e46, e47, e48, e49, e50, e51, e52, e53, e54, e55, e56, e57, e58, e59, e60, e61, e62, e63, e64, e65, e66, e67, e68, e69, e70, e71, e72, e73, e74, e75, e76, e77, e78, e79, e80, e81, e82, e83, e84, e85, e86, e87, e88, e89, e90, e91, e92, e93, e94, e95, e96, e97, e98, e99, e100, e101, e102, e103, e104, e105, e106, e107, e108, e109, e110, e111], defers := [] } W := by
 have C := pointers_any l Z W hl.box hl.at_ hml
 unfold PtrP at C
 have hC2 : Calls Try.prog 21 #[.pointer (some ⟨Z, 0, none⟩)] W fun e w' => ∃ v, e = .returned v ∧ w'.ownsRow W.heap.size 48 2 v (ptrs l.refs).length ((ptrs l.refs).flatMap encQ) ∧ Below W.heap.size W w' := C
 have HC := Lib.hid hC2; have HN := Lib.hid hnm; have HK0 := Lib.hid hK; have HL := Lib.hid hl
 clear C hC2 hnm hK hl
 generalize hm : (ptrs l.refs).length = m at *
 have HM := Lib.hid hm
 clear hm
 unfold elem6n9 code6
 conv => arg 2; whnf
 go_wp2_with (go_at_call 21; refine HC.out.mono ?_; rintro e w5 ⟨v5, rfl, ho5, hb5⟩; obtain ⟨ao5, c5, rfl, hform, _, _, _, _⟩ := own_new (by omega) ho5; have HO := Lib.hid ho5; have H5 := Lib.hid hb5; have HF := Lib.hid hform; clear ho5 hb5 hform)
 go_loopw [12, 69] (fun uv iv wr => ∃ (i : Nat) (u : Bool), iv = .int .i64 i ∧ uv = .bool u ∧ i ≤ m ∧ Hid (u = ((ptrs l.refs).take i).any (hitB phrase nm)) ∧ Hid (Below w5.heap.size w5 wr)) (fun _ iv _ => m + 1 - (intOf iv).toNat)
 case atStart => exact ⟨0, false, rfl, rfl, Nat.zero_le _, Lib.hid rfl, Lib.hid (Below.refl _ _)⟩
 case round =>
  obtain ⟨i, u, rfl, rfl, hin, hu, hW⟩ := hrel
  by_cases hlt : i < m
  ·have hji : (i : Int) < (m : Int) := by omega
   obtain ⟨r, hr⟩ : ∃ r, (ptrs l.refs)[i]? = some r := ⟨_, List.getElem?_eq_getElem (by rw [HM.out]; exact hlt)⟩
   obtain ⟨ea, _, _⟩ := HF.out.resolve_left (by omega)
   have hrow := HO.out
   rw [ea] at hrow
   have hrv := own_rowV hrow
   have q0 := keep_cell hW.out (hrv.get encQ_len (r := 0) hr rfl)
   simp only [Nat.add_zero] at q0
   obtain ⟨hmr, _⟩ := List.mem_filter.1 (show r ∈ l.refs.filter _ from List.mem_of_getElem? hr)
   have b1w : Below W.heap.size W wr := thenB H5.out hW.out
   have cM := keep_cell b1w (score_nm HL.out.at_.phrases HL.out.at_.dances r hmr)
   have cN := keep_cell b1w HN.out
   obtain ⟨ph, hph⟩ : ∃ ph, decide (r.to = 2) = ph := ⟨_, rfl⟩
   have q1 : wr.cell? ⟨blk ao5, i * 2 + 1, none⟩ = some (.bool ph) := by
    have := keep_cell hW.out (hrv.get encQ_len (r := 1) (u := .bool (decide (r.to = 2))) hr rfl)
    rw [hph] at this; exact this
   obtain ⟨W2, hW2, gW2, bW2, sW2⟩ := mk_cells wr #[.pointer (some ⟨r.b, r.o, none⟩), .bool ph] 48
   have hnext : ∀ u', u' = (u || ((ph == phrase) && decide (r.nm = nm))) → u' = ((ptrs l.refs).take (i + 1)).any (hitB phrase nm) := fun u' h => by
    rw [h, any_step hr, ← hu.out]
    unfold hitB
    rw [hph]
   have b0 : W2.cell? ⟨wr.heap.size, 0, none⟩ = some (.pointer (some ⟨r.b, r.o, none⟩)) := cell_at gW2 0 rfl
   have b1 : W2.cell? ⟨wr.heap.size, 1, none⟩ = some (.bool ph) := cell_at gW2 1 rfl
   have cM2 : W2.cell? ⟨r.b, r.o, none⟩ = some (sv r.nm) := keep_cell bW2 cM
   have cN2 : W2.cell? ⟨gN, j, none⟩ = some (sv nm) := keep_cell bW2 cN
   have HW2 := Lib.hid hW2; have HB2 := Lib.hid bW2; have HNX := Lib.hid hnext; have HEA := Lib.hid ea
   have HCELL := Lib.hid (And.intro b0 (And.intro b1 (And.intro cM2 cN2)))
   have hjN : (j : Int) < (nN : Int) := by omega
   have hjN2 : ¬ ((nN : Int) ≤ (j : Int)) := by omega
   have hj0 : ¬ ((j : Int) < 0) := by omega
   clear hW2 gW2 bW2 hnext ea hrow hrv hmr b1w cM cN b0 b1 cM2 cN2 hph hr
   rw [HEA.out]
   go_wp2_with fail
   rw [HW2.out]
   obtain ⟨b0, b1, cM2, cN2⟩ := HCELL.out
   clear q0 q1
   obtain ⟨e, he⟩ : ∃ e, (r.nm == nm) = e := ⟨_, rfl⟩
   have hed : decide (r.nm = nm) = e := by rw [← he]; by_cases h : r.nm = nm <;> simp [h]
   rw [hed] at HNX
   have HB2' := Lib.hid (hW.out.trans (HB2.out.mono hW.out.size))
   clear hed hW HB2 HCELL hu
   cases u <;> cases ph <;> cases phrase <;> cases e
   all_goals
    go_quiet (fail)
    go_wp2_with fail
    go_roundw
    case rel => exact ⟨i + 1, _, by go_num, rfl, by omega, Lib.hid (HNX.out _ (by simp)), Lib.hid ⟨HB2'.out.os, HB2'.out.tape, HB2'.out.output, HB2'.out.size, HB2'.out.block⟩⟩
    case measure => simp [intOf]; omega
  ·obtain rfl : i = m := by omega
   have hz : ¬ (i : Int) < (i : Int) := by omega
   have e := hu.out
   rw [any_all HM.out.symm] at e
   subst e
   go_wp2_with fail
   exact HK0.out _ (thenB H5.out hW.out) _ _ _ _ _ _ _ _ _ _ _ _ _ _ _ _ _ _ _ _ _ _ _ _ _ _ _
end Go.Proofs.Ytpnbpepkoekkoaa
end
