/- The walk of the statement: part 5. -/
import Derived.Test.YtpnbpepkoekkoaaYY5p1
import Derived.Test.YtpnbpepkoekkoaaYY5p3
import Derived.Test.YtpnbpepkoekkoaaYY5p4
import Derived.StillTailTactics
import Derived.Laws.Rows
set_option linter.unusedVariables false
set_option linter.unusedSimpArgs false
section
namespace Go.Proofs.Ytpnbpepkoekkoaa
open Go Go.RowKit Go.Deep
structure TurnR (rs row : List Rol) (i : Nat) : Prop where
 len : row.length = rs.length
 get : ∀ j, j < rs.length → row[j]? = if rs.length ≤ j + i then rs[rs.length - 1 - j]? else rs[j]?
theorem TurnR.zero (rs : List Rol) : TurnR rs rs 0 := ⟨rfl, fun j hj => by rw [if_neg (by omega)]⟩
theorem TurnR.next {rs row : List Rol} {i k : Nat} {p : Rol} (h : TurnR rs row i) (hp : rs[i]? = some p) (hk : rs.length = k + 1 + i) : TurnR rs (row.set k p) (i + 1) := by
 refine ⟨by rw [List.length_set]; exact h.len, fun j hj => ?_⟩
 rw [List.getElem?_set]
 by_cases e : k = j
 ·subst e
  rw [if_pos rfl, if_pos (by rw [h.len]; exact hj), if_pos (by omega), show rs.length - 1 - k = i by omega, hp]
 ·rw [if_neg e, h.get j hj]
  by_cases h1 : rs.length ≤ j + i
  ·rw [if_pos h1, if_pos (by omega)]
  ·rw [if_neg h1, if_neg (by omega)]
theorem TurnR.done {rs row : List Rol} (h : TurnR rs row rs.length) : row = rs.reverse := by
 refine List.ext_getElem? fun j => ?_
 by_cases hj : j < rs.length
 ·rw [h.get j hj, if_pos (by omega), List.getElem?_reverse hj]
 ·rw [List.getElem?_eq_none (by rw [h.len]; omega), List.getElem?_eq_none (by rw [List.length_reverse]; omega)]
end Go.Proofs.Ytpnbpepkoekkoaa
end
section
namespace Go.Proofs.Ytpnbpepkoekkoaa
open Go Go.RowKit Go.Deep
def chgN (f : RefL → Int → Int) : List RefL → List Int → List Int
 | r :: rs, k :: ks => f r k :: chgN f rs ks
 | _, _ => []
theorem chgN_append {f : RefL → Int → Int} : ∀ {a b : List RefL} {ks ls : List Int}, ks.length = a.length → chgN f (a ++ b) (ks ++ ls) = chgN f a ks ++ chgN f b ls
 | [], _, [], _, _ => rfl
 | _ :: a, b, _ :: ks, ls, h => by
  simp only [List.cons_append, chgN]
  rw [chgN_append (by simpa using h)]
theorem chgN_len {f : RefL → Int → Int} : ∀ {a : List RefL} {ks : List Int}, ks.length = a.length → (chgN f a ks).length = a.length
 | [], [], _ => rfl
 | _ :: a, _ :: ks, h => by simp only [chgN, List.length_cons]; rw [chgN_len (by simpa using h)]
theorem chgN_id {f : RefL → Int → Int} : ∀ {a : List RefL} {ks : List Int}, ks.length = a.length → (∀ r ∈ a, ∀ k, f r k = k) → chgN f a ks = ks
 | [], [], _, _ => rfl
 | r :: a, k :: ks, h, hf => by simp only [chgN]; rw [hf r (by simp), chgN_id (by simpa using h) fun r hr => hf r (by simp [hr])]
theorem NsAt.cut {w : World} {xs ys : List RefL} {ks ls : List Int} (h : NsAt w (xs ++ ys) (ks ++ ls)) (hl : ks.length = xs.length) : NsAt w xs ks ∧ NsAt w ys ls := by
 obtain ⟨a, b, e, h1, h2⟩ := h.split
 obtain ⟨rfl, rfl⟩ := List.append_inj e (by rw [hl, h1.len])
 exact ⟨h1, h2⟩
structure ChgW (f : RefL → Int → Int) (Wb : World) (Z B0 : Nat) (z : Ls) (ks : List Int) (v : Value) (i : Nat) (W : World) : Prop where
 below : Below Wb.heap.size Wb W
 ph : phAt W (blk z.fa) (off z.fa) z.phrases
 da : danAt W (blk z.da) (off z.da) z.dances
 box : W.heap[Z]? = some (.cells z.cells 30 (0, 0))
 free : ∀ r ∈ z.refs, FreeB W r.b
 row : W.ownsRow B0 48 2 v (ptrs z.refs).length ((ptrs z.refs).flatMap encQ)
 ns : ∃ pre rest kp kr, z.refs = pre ++ rest ∧ ptrs rest = (ptrs z.refs).drop i ∧ ks = kp ++ kr ∧ kp.length = pre.length ∧ NsAt W z.refs (chgN f pre kp ++ kr)
structure ChgB (f : RefL → Int → Int) (Wb : World) (Z B0 : Nat) (z : Ls) : Prop where
 sep : z.Sep
 ge : ∀ r ∈ z.refs, Wb.heap.size ≤ r.b ∧ r.b ≠ Z ∧ r.b < B0
 id : ∀ r k, r.to = 0 → f r k = k
variable {f : RefL → Int → Int} {Wb : World} {Z B0 : Nat} {z : Ls} {ks : List Int} {v : Value} {i : Nat} {W : World}
theorem ChgW.alloc (h : ChgW f Wb Z B0 z ks v i W) {W' : World} (hb : Below W.heap.size W W') : ChgW f Wb Z B0 z ks v i W' := by
 obtain ⟨pre, rest, kp, kr, h1, h2, h3, h4, h5⟩ := h.ns
 exact ⟨h.below.trans (hb.mono h.below.size), phAt_below hb h.ph, danAt_below hb h.da, keepO hb h.box, fun r hr => (h.free r hr).below hb, own_below h.row hb, pre, rest, kp, kr, h1, h2, h3, h4, h5.below hb⟩
theorem ChgW.at_ (hB : ChgB f Wb Z B0 z) (h : ChgW f Wb Z B0 z ks v i W) {r : RefL} (hr : (ptrs z.refs)[i]? = some r) :
  r.to ≠ 0 ∧ ∃ pre rest kp k kr, z.refs = pre ++ r :: rest ∧ ptrs rest = (ptrs z.refs).drop (i + 1) ∧ ks = kp ++ k :: kr ∧ kp.length = pre.length ∧ NsAt W z.refs (chgN f pre kp ++ k :: kr) := by
 obtain ⟨pre, rest, kp, kr, h1, h2, h3, h4, h5⟩ := h.ns
 rw [drop_at hr] at h2
 unfold ptrs at h2
 obtain ⟨zs, rest', rfl, hz, hp, hd⟩ := List.filter_eq_cons_iff.1 h2
 rw [h1] at h5
 obtain ⟨_, h7⟩ := h5.cut (chgN_len h4)
 obtain ⟨kz, kr', rfl, h8, h9⟩ := h7.split
 cases kr' with
 | nil => exact h9.elim
 | cons k kr' =>
 have hzl := h8.len
 refine ⟨by simpa using hp, pre ++ zs, rest', kp ++ kz, k, kr', by rw [h1]; simp, ?_, by rw [h3]; simp, by simp [h4, hzl], ?_⟩
 ·unfold ptrs; rw [hd]
 ·rw [chgN_append h4, chgN_id (f := f) hzl fun r hr k => hB.id r k (by simpa using hz r hr), h1, List.append_assoc]
  exact h5
theorem ChgW.cell (hB : ChgB f Wb Z B0 z) (h : ChgW f Wb Z B0 z ks v i W) {r : RefL} (hr : (ptrs z.refs)[i]? = some r) :
  ∃ pre rest kp k kr, z.refs = pre ++ r :: rest ∧ ks = kp ++ k :: kr ∧ kp.length = pre.length ∧ W.cell? ⟨r.b, r.o + 1, none⟩ = some (.int .i64 k) ∧
   (f r k = k → ChgW f Wb Z B0 z ks v (i + 1) W) ∧ ChgW f Wb Z B0 z ks v (i + 1) (W.setCell ⟨r.b, r.o + 1, none⟩ (.int .i64 (f r k))) := by
 obtain ⟨_, pre, rest, kp, k, kr, h1, h2, h3, h4, h5⟩ := h.at_ hB hr
 have h6 := h5
 rw [h1] at h6
 obtain ⟨h7, h8⟩ := h6.cut (chgN_len h4)
 have hm : r ∈ z.refs := by rw [h1]; simp
 obtain ⟨g1, g2, g3⟩ := hB.ge r hm
 have hk1 : (kp ++ [k]).length = (pre ++ [r]).length := by simp [h4]
 have hc : ∀ x : Int, x = f r k → chgN f (pre ++ [r]) (kp ++ [k]) ++ kr = chgN f pre kp ++ x :: kr := fun x hx => by
  rw [chgN_append h4, hx]; simp [chgN]
 refine ⟨pre, rest, kp, k, kr, h1, h3, h4, h8.1, fun hid => ⟨h.below, h.ph, h.da, h.box, h.free, h.row, pre ++ [r], rest, kp ++ [k], kr, by rw [h1]; simp, h2, by rw [h3]; simp, hk1, by rw [hc k hid.symm]; exact h5⟩, ?_⟩
 obtain ⟨s1, s2⟩ := hB.sep.set (v := .int .i64 (f r k)) hm h.ph h.da
 refine ⟨h.below.setCell (p := ⟨r.b, r.o + 1, none⟩) g1 _, s1, s2, (Below.heap_setCell _ _ _ _ (fun e => g2 e.symm)).trans h.box, fun x hx => (h.free x hx).set _ _, own_same h.row (fun g hg => Below.heap_setCell _ _ _ _ (fun e => ?_)), pre ++ [r], rest, kp ++ [k], kr, by rw [h1]; simp, h2, by rw [h3]; simp, hk1, ?_⟩
 ·have := (own_lt h.row hg).1
  have e2 : g = r.b := e
  omega
 ·rw [hc _ rfl, h1]
  have hap : PlacesApart (pre ++ r :: rest) := by rw [← h1]; exact hB.sep.apart
  obtain ⟨n1, n2⟩ := NsAt.set (n := f r k) hap h7 h8
  exact n1.append n2
end Go.Proofs.Ytpnbpepkoekkoaa
end
section
namespace Go.Proofs.Ytpnbpepkoekkoaa
open Go Go.RowKit Go.Deep
theorem ChgW.done {f : RefL → Int → Int} {Wb : World} {Z B0 : Nat} {z : Ls} {ks : List Int} {v : Value} {W : World} (hB : ChgB f Wb Z B0 z) (h : ChgW f Wb Z B0 z ks v (ptrs z.refs).length W) : NsAt W z.refs (chgN f z.refs ks) := by
 obtain ⟨pre, rest, kp, kr, h1, h2, h3, h4, h5⟩ := h.ns
 rw [List.drop_of_length_le (Nat.le_refl _)] at h2
 have hz : ∀ r ∈ rest, r.to = 0 := fun r hr => by
  have := (List.filter_eq_nil_iff.1 h2) r hr
  simpa using this
 have h6 := h5
 rw [h1] at h6
 obtain ⟨_, h7⟩ := h6.cut (chgN_len h4)
 have e : chgN f z.refs ks = chgN f pre kp ++ kr := by
  rw [h3, h1, chgN_append h4, chgN_id (f := f) h7.len fun r hr k => hB.id r k (hz r hr)]
 rw [e]; exact h5
theorem ChgW.first {f : RefL → Int → Int} {Wb : World} {Z B0 : Nat} {z : Ls} {ks : List Int} {v : Value} {W : World} (hb : Below Wb.heap.size Wb W) (hA : z.At W) (hZ : W.heap[Z]? = some (.cells z.cells 30 (0, 0))) (hF : ∀ r ∈ z.refs, FreeB W r.b) (hr : W.ownsRow B0 48 2 v (ptrs z.refs).length ((ptrs z.refs).flatMap encQ)) (hN : NsAt W z.refs ks) : ChgW f Wb Z B0 z ks v 0 W :=
 ⟨hb, hA.phrases, hA.dances, hZ, hF, hr, [], z.refs, [], ks, rfl, rfl, rfl, rfl, hN⟩
end Go.Proofs.Ytpnbpepkoekkoaa
end
section
namespace Go.Proofs.Ytpnbpepkoekkoaa
open Go Go.RowKit Go.Deep
theorem row_keep {α : Type} {enc : α → List Value} {k g n c : Nat} {W W' : World} {xs : List α} (h : IsRow enc k W (.slice (some ⟨g, 0, none⟩) n c) xs) (hb : W'.heap[g]? = W.heap[g]?) (hl : W.heap.size ≤ W'.heap.size) : IsRow enc k W' (.slice (some ⟨g, 0, none⟩) n c) xs := by
 obtain ⟨ao, c', e, h1, h2⟩ := h
 refine ⟨ao, c', e, h1, ?_⟩
 rcases h2 with h2 | ⟨b, o, e2, h3, h4⟩
 ·exact Or.inl h2
 ·injection e with e3 _ _
  rw [← e3] at e2
  injection e2 with e2
  injection e2 with e4 e5
  subst e4
  exact Or.inr ⟨g, o, by rw [← e3, ← e5], fun i x hx j v hv => (World.cell?_of_block hb).trans (h3 i x hx j v hv), by omega⟩
def zeroR (r : RefL) (k : Int) : Int := if r.to = 0 then k else 0
def KeepR (z : Ls) (W0 W : World) : Prop := W0.heap.size ≤ W.heap.size ∧ ∀ b, b < W0.heap.size → (∀ r ∈ z.refs, r.b ≠ b) → W.heap[b]? = W0.heap[b]?
theorem KeepR.below {z : Ls} {W0 W W' : World} (h : KeepR z W0 W) (hb : Below W.heap.size W W') : KeepR z W0 W' := ⟨Nat.le_trans h.1 hb.size, fun b hl hr => (hb.block b (Nat.lt_of_lt_of_le hl h.1)).trans (h.2 b hl hr)⟩
theorem KeepR.set {z : Ls} {W0 W : World} (h : KeepR z W0 W) {r : RefL} (hr : r ∈ z.refs) (q : Nat) (v : Value) : KeepR z W0 (W.setCell ⟨r.b, q, none⟩ v) := ⟨by simpa [World.setCell] using h.1, fun b hl hb => (Below.heap_setCell _ _ _ _ (fun e => hb r hr e.symm)).trans (h.2 b hl hb)⟩
noncomputable def code18 : Code := (Try.f18.body).getD .skip
noncomputable def elem18n2 : Code := fst2 (lastPart 2 code18)
noncomputable def loop18 : Code := loopC (blkC (snd2 elem18n2))
noncomputable def inner18 : Code := snd2 (blkC (fst2 (snd2 (snd2 loop18))))
set_option maxRecDepth 100000 in
set_option maxHeartbeats 16000000 in
theorem alk_inner (Z : Nat) (z : Ls) (ks : List Int) (Wb W : World) (hb : Below Wb.heap.size Wb W) (hZ : W.heap[Z]? = some (.cells z.cells 30 (0, 0))) (hz : z.At W) (hN : NsAt W z.refs ks) (hsep : z.Sep) (hrefs : ∀ r ∈ z.refs, Wb.heap.size ≤ r.b ∧ r.b ≠ Z ∧ FreeB W r.b) (hR : IsRow encT 3 Wb (.slice z.ta z.tempos.length z.tc) z.tempos ∧ IsRow encP 4 Wb (.slice z.ua z.pauses.length z.uc) z.pauses ∧ IsRow encC 4 Wb (.slice z.sa z.spans.length z.sc) z.spans) (g : Nat) (hra : z.ra = some ⟨g, 0, none⟩) (hgl : g < W.heap.size) (hgr : ∀ r ∈ z.refs, r.b ≠ g) (hlen : (ptrs z.refs).length ≤ 1000000) (e0 e1 e2 e3 e4 e5 e7 e8 e9 e10 e11 e12 e13 e14 e15 e16 e17 e18 e19 e20 e21 e22 e23 e24 e25 e26 e27 e28 e29 e30 e31 e32 e33 e34 : Value) (K : Act → World → Prop)
  (hK : ∀ W', NsAt W' z.refs (chgN zeroR z.refs ks) → z.At W' → W'.heap[Z]? = some (.cells z.cells 30 (0, 0)) → Below Wb.heap.size Wb W' → KeepR z W W' → (∀ r ∈ z.refs, FreeB W' r.b) → ∀ (f8 f19 f20 f21 f22 f23 f24 f25 f26 f27 f28 f29 f30 : Value), K { tmps := #[e0, e1, e2, e3, e4, e5, .pointer (some ⟨Z, 0, none⟩), e7, f8, e9, e10, e11, e12, e13, e14, e15, e16, e17, e18, f19, f20, f21, f22, f23, f24, f25, f26, f27, f28, f29, f30, e31, e32, e33, e34], defers := [] } W') :
  inner18.wp Try.prog (Exit.then K (fun _ _ _ => False)) { tmps := #[e0, e1, e2, e3, e4, e5, .pointer (some ⟨Z, 0, none⟩), e7, e8, e9, e10, e11, e12, e13, e14, e15, e16, e17, e18, e19, e20, e21, e22, e23, e24, e25, e26, e27, e28, e29, e30, e31, e32, e33, e34], defers := [] } W := by
 have C := pointers_any z Z W hZ hz hlen
 unfold PtrP at C
 have hC2 : Calls Try.prog 21 #[.pointer (some ⟨Z, 0, none⟩)] W fun e w' => ∃ v, e = .returned v ∧ w'.ownsRow W.heap.size 48 2 v (ptrs z.refs).length ((ptrs z.refs).flatMap encQ) ∧ Below W.heap.size W w' := C
 have hcB : ChgB zeroR Wb Z W.heap.size z := ⟨hsep, fun r hr => ⟨(hrefs r hr).1, (hrefs r hr).2.1, (hrefs r hr).2.2.lt⟩, fun r k h => by unfold zeroR; rw [if_pos h]⟩
 have hW0 : ∀ v w', w'.ownsRow W.heap.size 48 2 v (ptrs z.refs).length ((ptrs z.refs).flatMap encQ) → Below W.heap.size W w' → ChgW zeroR Wb Z W.heap.size z ks v 0 w' ∧ KeepR z W w' := fun v w' hr hb2 => ⟨ChgW.first (hb.trans (hb2.mono hb.size)) (hz.below hb2) (keepO hb2 hZ) (fun r hm => (hrefs r hm).2.2.below hb2) hr (hN.below hb2), hb2.size, fun b hl _ => hb2.block b hl⟩
 have hzb : ∀ W' : World, Below Wb.heap.size Wb W' → KeepR z W W' → phAt W' (blk z.fa) (off z.fa) z.phrases → danAt W' (blk z.da) (off z.da) z.dances → z.At W' := fun W' hb2 hk h1 h2 => ⟨by have := hz.roles; rw [hra] at this ⊢; exact row_keep this (hk.2 g hgl hgr) hk.1, hR.1.below hb2 (Nat.le_refl _), hR.2.1.below hb2 (Nat.le_refl _), hR.2.2.below hb2 (Nat.le_refl _), hz.pform, hz.plen, h1, hz.dform, hz.dlen, h2⟩
 have HC := Lib.hid hC2; have HCB := Lib.hid hcB; have HW0 := Lib.hid hW0; have HK0 := Lib.hid hK; have HZB := Lib.hid hzb
 clear hR C hC2 hcB hW0 hK hzb hz hN hsep hrefs hZ hb hra hgl hgr
 generalize hm : (ptrs z.refs).length = m at *
 have HM := Lib.hid hm
 clear hm
 obtain ⟨Wk, hWk⟩ : ∃ Wk, Wk = W := ⟨_, rfl⟩
 have HW0' : Hid (∀ v w', w'.ownsRow W.heap.size 48 2 v m ((ptrs z.refs).flatMap encQ) → Below W.heap.size W w' → ChgW zeroR Wb Z W.heap.size z ks v 0 w' ∧ KeepR z Wk w') := by rw [hWk]; exact HW0
 have HK1 : Hid (∀ W', NsAt W' z.refs (chgN zeroR z.refs ks) → z.At W' → W'.heap[Z]? = some (.cells z.cells 30 (0, 0)) → Below Wb.heap.size Wb W' → KeepR z Wk W' → (∀ r ∈ z.refs, FreeB W' r.b) → ∀ (f8 f19 f20 f21 f22 f23 f24 f25 f26 f27 f28 f29 f30 : Value), K { tmps := #[e0, e1, e2, e3, e4, e5, .pointer (some ⟨Z, 0, none⟩), e7, f8, e9, e10, e11, e12, e13, e14, e15, e16, e17, e18, f19, f20, f21, f22, f23, f24, f25, f26, f27, f28, f29, f30, e31, e32, e33, e34], defers := [] } W') := by rw [hWk]; exact HK0
 have HZ1 : Hid (∀ W' : World, Below Wb.heap.size Wb W' → KeepR z Wk W' → phAt W' (blk z.fa) (off z.fa) z.phrases → danAt W' (blk z.da) (off z.da) z.dances → z.At W') := by rw [hWk]; exact HZB
 clear HW0 HK0 HZB hWk
 generalize W.heap.size = B0 at *
 unfold inner18 loop18 elem18n2 code18
 conv => arg 2; whnf
 go_wp2_with (go_at_call 21; refine HC.out.mono ?_; rintro e w5 ⟨v5, rfl, ho5, hb5⟩; obtain ⟨ao5, c5, rfl, hform, _, _, _, _⟩ := own_new (by omega) ho5; have HCW := Lib.hid (HW0'.out _ _ ho5 hb5); have HF := Lib.hid hform; clear ho5 hb5 hform)
 go_loopw [22] (fun iv wr => ∃ i : Nat, iv = .int .i64 i ∧ i ≤ m ∧ Hid (ChgW zeroR Wb Z B0 z ks (.slice ao5 m c5) i wr ∧ KeepR z Wk wr)) (fun iv _ => m + 1 - (intOf iv).toNat)
 case atStart => exact ⟨0, rfl, Nat.zero_le _, HCW⟩
 case round =>
  obtain ⟨i, rfl, hin, hW⟩ := hrel
  by_cases hlt : i < m
  ·have hji : (i : Int) < (m : Int) := by omega
   obtain ⟨r, hr⟩ : ∃ r, (ptrs z.refs)[i]? = some r := ⟨_, List.getElem?_eq_getElem (by rw [HM.out]; exact hlt)⟩
   obtain ⟨ea, _, _⟩ := HF.out.resolve_left (by omega)
   have hrow := hW.out.1.row
   rw [ea, HM.out] at hrow
   have hrv := own_rowV hrow
   have q0 := hrv.get encQ_len (r := 0) hr rfl
   have q1 := hrv.get encQ_len (r := 1) hr rfl
   simp only [Nat.add_zero] at q0
   have hm : r ∈ z.refs := (List.mem_filter.1 (show r ∈ z.refs.filter _ from List.mem_of_getElem? hr)).1
   obtain ⟨W1, hW1, gW1, bW1, sW1⟩ := mk_cells wr #[.pointer (some ⟨r.b, r.o, none⟩), .bool (decide (r.to = 2))] 48
   have hC1 := hW.out.1.alloc bW1
   have hto := (hC1.at_ HCB.out hr).1
   obtain ⟨pre, rest, kp, k, kr, h1, h3, h4, hc, _, hset⟩ := hC1.cell HCB.out hr
   rw [show zeroR r k = 0 by unfold zeroR; rw [if_neg hto]] at hset
   have hkp : KeepR z Wk (W1.setCell ⟨r.b, r.o + 1, none⟩ (.int .i64 0)) := (hW.out.2.below bW1).set hm _ _
   have HS1 := Lib.hid (And.intro hset hkp)
   have z0 : ∀ q, (wr.alloc (.cells #[.pointer (some ⟨r.b, r.o, none⟩), .bool (decide (r.to = 2))] 48)).frozen? ⟨r.b, q, none⟩ = false := by rw [hW1]; exact (hC1.free r hm).free
   have b1 : (wr.alloc (.cells #[.pointer (some ⟨r.b, r.o, none⟩), .bool (decide (r.to = 2))] 48)).cell? ⟨wr.heap.size, 0, none⟩ = some (.pointer (some ⟨r.b, r.o, none⟩)) := by rw [hW1]; exact cell_at gW1 0 rfl
   have hc1 : (wr.alloc (.cells #[.pointer (some ⟨r.b, r.o, none⟩), .bool (decide (r.to = 2))] 48)).cell? ⟨r.b, r.o + 1, none⟩ = some (.int .i64 k) := by rw [hW1]; exact hc
   have HW1 := Lib.hid hW1
   have HEA := Lib.hid ea
   clear hW hr hrow hrv hm gW1 bW1 sW1 hC1 hset hkp hW1 ea hto h1 h3 h4 hc
   rw [HEA.out]
   go_wp2_with fail
   rw [HW1.out]
   go_roundw
   case rel => exact ⟨i + 1, by go_num, by omega, by rw [← HEA.out]; exact HS1⟩
   case measure => simp [intOf]; omega
  ·obtain rfl : i = m := by omega
   have hz : ¬ (i : Int) < (i : Int) := by omega
   have hd := hW.out.1
   rw [← HM.out] at hd
   go_wp2_with fail
   exact HK1.out _ (hd.done HCB.out) (HZ1.out _ hd.below hW.out.2 hd.ph hd.da) hd.box hd.below hW.out.2 hd.free _ _ _ _ _ _ _ _ _ _ _ _ _
end Go.Proofs.Ytpnbpepkoekkoaa
end
section
namespace Go.Proofs.Ytpnbpepkoekkoaa
open Go Go.RowKit Go.Deep
noncomputable def elem18n1 : Code := fst2 (lastPart 1 code18)
structure TwoCp (a b : Ls) (ka kb : List Int) (W : World) (a' b' : Ls) (V1 V2 : World) : Prop where
 ca : CpW a ka W a' V1
 cb : CpW b kb V1 b' V2
set_option maxRecDepth 100000 in
set_option maxHeartbeats 16000000 in
theorem alk_reg1 (a b : Ls) (ka kb : List Int) (A B : Nat) (W : World) (hAB : A ≠ B) (hA : W.heap[A]? = some (.cells a.cells 30 (0, 0))) (hB : W.heap[B]? = some (.cells b.cells 30 (0, 0))) (ha : a.At W) (hb : b.At W) (hna : NsAt W a.refs ka) (hnb : NsAt W b.refs kb) (hca : a.cpOk) (hcb : b.cpOk) (e0 e1 e4 e5 e6 e7 e8 e9 e10 e11 e12 e13 e14 e15 e16 e17 e18 e19 e20 e21 e22 e23 e24 e25 e26 e27 e28 e29 e30 e31 e32 e33 e34 : Value) (K : Act → World → Prop)
  (hK : ∀ (a' b' : Ls) (V1 V2 W' : World) (v10 v12 : Value), TwoCp a b ka kb W.drew a' b' V1 V2 → W'.heap[A]? = some (.cells a'.cells 30 (0, 0)) → W'.heap[B]? = some (.cells b'.cells 30 (0, 0)) → W'.heap.size = V2.heap.size → (∀ q, q ≠ A → q ≠ B → W'.heap[q]? = V2.heap[q]?) → (∀ B0 w0, Below B0 w0 V2 → B0 ≤ A → B0 ≤ B → Below B0 w0 W') → K { tmps := #[e0, e1, .pointer (some ⟨A, 0, none⟩), .pointer (some ⟨B, 0, none⟩), e4, e5, e6, e7, e8, .agg #[sv a.name, .int .i64 a.wd, .int .i64 a.dp, .int .i64 a.bars, .int .i64 a.t0, .int .i64 a.t1, .slice a.ra a.roles.length a.rc, .slice a.ta a.tempos.length a.tc, .slice a.ua a.pauses.length a.uc, .slice a.sa a.spans.length a.sc, .slice a.fa a.phrases.length a.fc, .slice a.da a.dances.length a.dc], v10, .agg #[sv b.name, .int .i64 b.wd, .int .i64 b.dp, .int .i64 b.bars, .int .i64 b.t0, .int .i64 b.t1, .slice b.ra b.roles.length b.rc, .slice b.ta b.tempos.length b.tc, .slice b.ua b.pauses.length b.uc, .slice b.sa b.spans.length b.sc, .slice b.fa b.phrases.length b.fc, .slice b.da b.dances.length b.dc], v12, e13, e14, e15, e16, e17, e18, e19, e20, e21, e22, e23, e24, e25, e26, e27, e28, e29, e30, e31, e32, e33, e34], defers := [] } W') :
  elem18n1.wp Try.prog (Exit.then K (fun _ _ _ => False)) { tmps := #[e0, e1, .pointer (some ⟨A, 0, none⟩), .pointer (some ⟨B, 0, none⟩), e4, e5, e6, e7, e8, e9, e10, e11, e12, e13, e14, e15, e16, e17, e18, e19, e20, e21, e22, e23, e24, e25, e26, e27, e28, e29, e30, e31, e32, e33, e34], defers := [] } W := by
 have hC1 := fun V (h : Below W.heap.size W V) => copied_any a ka V (ha.below h) (hna.below h) hca
 have hC2 := fun V (h : Below W.heap.size W V) => copied_any b kb V (hb.below h) (hnb.below h) hcb
 unfold Ls.val Ls.cells at hC1 hC2
 have HC1 := Lib.hid hC1; have HC2 := Lib.hid hC2; have HK0 := Lib.hid hK
 have hAl : A < W.heap.size := (Array.getElem?_eq_some_iff.1 hA).1
 have hBl : B < W.heap.size := (Array.getElem?_eq_some_iff.1 hB).1
 clear hC1 hC2 hK ha hb hna hnb hca hcb
 unfold elem18n1 code18
 conv => arg 2; whnf
 refine wp_region_D 4 5 (fun V => V.heap[A]? = some (.cells a.cells 30 (0, 0))) (fun V => V.heap[B]? = some (.cells b.cells 30 (0, 0))) (by kernel_rfl) ?_
 have hS1 : W.drew.heap[A]? = some (.cells a.cells 30 (0, 0)) := hA
 have hS2 : W.drew.heap[B]? = some (.cells b.cells 30 (0, 0)) := hB
 have HBd : Hid (Below W.heap.size W W.drew) := Lib.hid (Below.refl _ _).drew
 have hsd : W.drew.heap.size = W.heap.size := rfl
 clear hA hB
 generalize W.drew = Wd at *
 dsimp only
 refine wpAnyD_take1 [4] (i := 0) (oi := _) (v := .agg #[sv a.name, .int .i64 a.wd, .int .i64 a.dp, .int .i64 a.bars, .int .i64 a.t0, .int .i64 a.t1, .slice a.ra a.roles.length a.rc, .slice a.ta a.tempos.length a.tc, .slice a.ua a.pauses.length a.uc, .slice a.sa a.spans.length a.sc, .slice a.fa a.phrases.length a.fc, .slice a.da a.dances.length a.dc]) rfl (by kernel_rfl) (fun _ _ _ h => h) (Or.inl ⟨by kernel_rfl, fun V hb => by obtain ⟨y0, y1, y2, y3, y4, y5, y6, y7, y8, y9, y10, y11⟩ := all_cells hb; go_simp⟩) hS1 (fun _ => hS2) ?_
 try simp only [Act.put, List.getElem_toArray, List.getElem_cons_zero, List.getElem_cons_succ, List.setIfInBounds_toArray, List.set_cons_zero, List.set_cons_succ]
 refine wpAnyD_take2 [5] (i := 2) (oi := _) (v := .agg #[sv b.name, .int .i64 b.wd, .int .i64 b.dp, .int .i64 b.bars, .int .i64 b.t0, .int .i64 b.t1, .slice b.ra b.roles.length b.rc, .slice b.ta b.tempos.length b.tc, .slice b.ua b.pauses.length b.uc, .slice b.sa b.spans.length b.sc, .slice b.fa b.phrases.length b.fc, .slice b.da b.dances.length b.dc]) rfl (by kernel_rfl) (fun _ _ _ h => h) (Or.inl ⟨by kernel_rfl, fun V hb => by obtain ⟨y0, y1, y2, y3, y4, y5, y6, y7, y8, y9, y10, y11⟩ := all_cells hb; go_simp⟩) (fun _ => hS1) hS2 ?_
 try simp only [Act.put, List.getElem_toArray, List.getElem_cons_zero, List.getElem_cons_succ, List.setIfInBounds_toArray, List.set_cons_zero, List.set_cons_succ]
 refine wpAnyD_one (i := 1) (by kernel_rfl) rfl (fun K1 hK => ?_)
 have HK := Lib.hid hK
 clear hK
 go_simp
 go_at_call 20
 refine (HC1.out _ HBd.out).mono ?_
 intro e V1 hv
 obtain ⟨a', rfl, hca⟩ := CpW.of hv
 have hS1b := keepO hca.below hS1
 have hS2b := keepO hca.below hS2
 have HCA := Lib.hid hca
 have HB1 := Lib.hid (thenB HBd.out hca.below)
 clear hv hca
 refine HK.out _ _ (fun _ => hS1b) (fun _ => hS2b) ?_
 try simp only [Act.put, List.getElem_toArray, List.getElem_cons_zero, List.getElem_cons_succ, List.setIfInBounds_toArray, List.set_cons_zero, List.set_cons_succ]
 clear HK K1
 refine wpAnyD_one (i := 3) (by kernel_rfl) rfl (fun K1 hK => ?_)
 have HK := Lib.hid hK
 clear hK
 go_simp
 go_at_call 20
 refine (HC2.out _ HB1.out).mono ?_
 intro e V2 hv
 obtain ⟨b', rfl, hcb⟩ := CpW.of hv
 have hS1c := keepO hcb.below hS1b
 have hS2c := keepO hcb.below hS2b
 have HCB := Lib.hid hcb
 clear hv hcb
 refine HK.out _ _ (fun _ => hS1c) (fun _ => hS2c) ?_
 try simp only [Act.put, List.getElem_toArray, List.getElem_cons_zero, List.getElem_cons_succ, List.setIfInBounds_toArray, List.set_cons_zero, List.set_cons_succ]
 clear HK K1
 refine wpAnyD_one (i := 4) (by kernel_rfl) rfl (fun K1 hK => ?_)
 have HK := Lib.hid hK
 clear hK
 obtain ⟨y0, y1, y2, y3, y4, y5, y6, y7, y8, y9, y10, y11⟩ := all_cells hS1c
 have f0 : ∀ q, V2.frozen? ⟨A, q, none⟩ = false := fun q => by simp [World.frozen?, hS1c]
 obtain ⟨W4, hW4, g4, k4, p4, s4⟩ := set_score hS1c rfl (sv a'.name) (.int .i64 a'.wd) (.int .i64 a'.dp) (.int .i64 a'.bars) (.int .i64 a'.t0) (.int .i64 a'.t1) (.slice a'.ra a'.roles.length a'.rc) (.slice a'.ta a'.tempos.length a'.tc) (.slice a'.ua a'.pauses.length a'.uc) (.slice a'.sa a'.spans.length a'.sc) (.slice a'.fa a'.phrases.length a'.fc) (.slice a'.da a'.dances.length a'.dc)
 have hS2d : W4.heap[B]? = some (.cells b.cells 30 (0, 0)) := (k4 B (fun e => hAB e.symm)).trans hS2c
 have HW4 := Lib.hid hW4
 have G4 := Lib.hid g4; have K4 := Lib.hid k4; have S4 := Lib.hid s4; have P4 := Lib.hid p4
 unfold Ls.val Ls.cells
 clear hS1c hS1 hS1b hS2 hS2b hS2c hW4 g4 k4 s4 p4
 go_simp
 rw [HW4.out]
 clear HW4 f0 y0 y1 y2 y3 y4 y5 y6 y7 y8 y9 y10 y11
 refine HK.out _ _ (fun h => absurd (show true = false from h) (by decide)) (fun _ => hS2d) ?_
 try simp only [Act.put, List.getElem_toArray, List.getElem_cons_zero, List.getElem_cons_succ, List.setIfInBounds_toArray, List.set_cons_zero, List.set_cons_succ]
 clear HK K1
 refine wpAnyD_one (i := 5) (by kernel_rfl) rfl (fun K1 hK => ?_)
 have HK := Lib.hid hK
 clear hK
 obtain ⟨y0, y1, y2, y3, y4, y5, y6, y7, y8, y9, y10, y11⟩ := all_cells hS2d
 have f0 : ∀ q, W4.frozen? ⟨B, q, none⟩ = false := fun q => by simp [World.frozen?, hS2d]
 obtain ⟨W5, hW5, g5, k5, p5, s5⟩ := set_score hS2d rfl (sv b'.name) (.int .i64 b'.wd) (.int .i64 b'.dp) (.int .i64 b'.bars) (.int .i64 b'.t0) (.int .i64 b'.t1) (.slice b'.ra b'.roles.length b'.rc) (.slice b'.ta b'.tempos.length b'.tc) (.slice b'.ua b'.pauses.length b'.uc) (.slice b'.sa b'.spans.length b'.sc) (.slice b'.fa b'.phrases.length b'.fc) (.slice b'.da b'.dances.length b'.dc)
 have HW5 := Lib.hid hW5
 have G5 := Lib.hid g5; have K5 := Lib.hid k5; have S5 := Lib.hid s5; have P5 := Lib.hid p5
 clear hS2d hW5 g5 k5 s5 p5
 go_simp
 rw [HW5.out]
 clear HW5 f0 y0 y1 y2 y3 y4 y5 y6 y7 y8 y9 y10 y11
 refine HK.out _ _ (fun h => absurd (show true = false from h) (by decide)) (fun h => absurd (show true = false from h) (by decide)) ?_
 try simp only [Act.put, List.getElem_toArray, List.getElem_cons_zero, List.getElem_cons_succ, List.setIfInBounds_toArray, List.set_cons_zero, List.set_cons_succ]
 clear HK K1
 refine wpAnyD_done (by kernel_rfl) ?_ _
 exact HK0.out a' b' V1 V2 W5 _ _ ⟨HCA.out, HCB.out⟩ ((K5.out A hAB).trans G4.out) G5.out (S5.out.trans S4.out) (fun q h1 h2 => (K5.out q h2).trans (K4.out q h1)) (fun B0 w0 h h1 h2 => P5.out B0 w0 (P4.out B0 w0 h h1) h2)
end Go.Proofs.Ytpnbpepkoekkoaa
end
section
namespace Go.Proofs.Ytpnbpepkoekkoaa
open Go Go.RowKit Go.Deep
theorem Lt.refsL_size : ∀ (T : Lt) (b o : Nat), (T.refsL b o).length = T.size + T.movs
 | .nil, _, _ => rfl
 | .cons k n un ia ic its ma mc ms r, b, o => by
  simp only [Lt.refsL, List.length_cons, List.length_append, movRefs_len, Lt.size, Lt.movs]
  rw [its.refsL_size, r.refsL_size]; omega
theorem phRefs_bound : ∀ (ps : List Ph), (∀ p ∈ ps, p.its.size ≤ 300 ∧ p.its.movs ≤ 300) → (phRefs ps).length ≤ ps.length * 600
 | [], _ => by simp [phRefs]
 | p :: r, h => by
  have h1 := h p (by simp)
  have h2 := phRefs_bound r fun q hq => h q (by simp [hq])
  simp only [phRefs, List.length_append, Ph.refsL, List.length_cons]
  rw [Lt.refsL_size]; omega
theorem danRefs_len (b : Nat) : ∀ (o : Nat) (ds : List Dan), (danRefs b o ds).length = ds.length * 2
 | _, [] => rfl
 | o, d :: r => by simp only [danRefs, List.length_cons]; rw [danRefs_len b (o + 6) r]; omega
theorem Ls.small.refs {s : Ls} (h : s.small) : s.refs.length ≤ 200000 := by
 have h1 := phRefs_bound s.phrases h.items
 have h2 := danRefs_len (blk s.da) (off s.da) s.dances
 have h3 := h.phrases; have h4 := h.dances
 unfold Ls.refs
 rw [List.length_append]; omega
theorem Ls.refs_same {x y : Ls} (h : x.strip.refs = y.strip.refs) : x.refs.length = y.refs.length := by
 have e1 := congrArg List.length x.refs_key
 have e2 := congrArg List.length y.refs_key
 rw [List.length_map] at e1 e2
 rw [e1, e2, h]
theorem ptrs_le (rs : List RefL) : (ptrs rs).length ≤ rs.length := List.length_filter_le _ _
theorem movTo_le2 (k : Int) : movTo k ≤ 2 := by unfold movTo; split <;> omega
theorem itemTo_le2 (k : Int) : itemTo k ≤ 2 := by unfold itemTo; split <;> omega
theorem Its.refs_to : ∀ (t : Its), ∀ r ∈ t.refs, r.1 ≤ 2
 | .nil, _, h => by cases h
 | .cons k n un its ms rest, r, h => by
  simp only [Its.refs, List.mem_cons, List.mem_append, List.mem_map] at h
  rcases h with rfl | ⟨m, _, rfl⟩ | h | h
  ·exact itemTo_le2 k
  ·exact movTo_le2 m.kind
  ·exact its.refs_to r h
  ·exact rest.refs_to r h
theorem Sc.refs_to (s : Sc) : ∀ r ∈ s.refs, r.1 ≤ 2 := by
 intro r h
 unfold Sc.refs at h
 rcases List.mem_append.1 h with h | h
 ·obtain ⟨p, _, h⟩ := List.mem_flatMap.1 h
  exact p.items.refs_to r h
 ·obtain ⟨d, _, h⟩ := List.mem_flatMap.1 h
  simp only [List.mem_cons, List.mem_nil_iff, or_false] at h
  rcases h with rfl | rfl <;> simp
end Go.Proofs.Ytpnbpepkoekkoaa
end
section
namespace Go.Proofs.Ytpnbpepkoekkoaa
open Go Go.RowKit Go.Deep
theorem CpW.rows {s : Ls} {ns : List Int} {w : World} {x : Ls} {W : World} (h : CpW s ns w x W) (hs : s.At w) : IsRow encT 3 w (.slice x.ta x.tempos.length x.tc) x.tempos ∧ IsRow encP 4 w (.slice x.ua x.pauses.length x.uc) x.pauses ∧ IsRow encC 4 w (.slice x.sa x.spans.length x.sc) x.spans := by
 have e := h.tup
 unfold Ls.tup at e
 simp only [Prod.mk.injEq, List.cons.injEq, and_true] at e
 obtain ⟨⟨e1, e2, e3⟩, ⟨e4, e5, e6⟩, e7, e8, e9⟩ := e
 rw [e1, e2, e3, e4, e5, e6, e7, e8, e9]
 exact ⟨hs.tempos, hs.pauses, hs.spans⟩
end Go.Proofs.Ytpnbpepkoekkoaa
end
section
namespace Go.Proofs.Ytpnbpepkoekkoaa
open Go Go.RowKit Go.Deep
theorem CpW.stay {s : Ls} {ns : List Int} {w0 : World} {x : Ls} {V W' wz : World} (h : CpW s ns w0 x V)
  (hR : IsRow encT 3 wz (.slice x.ta x.tempos.length x.tc) x.tempos ∧ IsRow encP 4 wz (.slice x.ua x.pauses.length x.uc) x.pauses ∧ IsRow encC 4 wz (.slice x.sa x.spans.length x.sc) x.spans)
  (hb : Below wz.heap.size wz W') (hl : V.heap.size ≤ W'.heap.size) (hk : ∀ b, w0.heap.size ≤ b → b < V.heap.size → W'.heap[b]? = V.heap[b]?) : x.At W' ∧ NsAt W' x.refs ns ∧ ∀ r ∈ x.refs, FreeB W' r.b := by
 obtain ⟨⟨a1, a2⟩, ⟨a3, a4⟩⟩ := h.own.lt
 have hfree : ∀ r ∈ x.refs, FreeB W' r.b := fun r hr => by
  obtain ⟨h1, cur, t, h2⟩ := h.refs r hr
  exact ⟨cur, t, (hk _ h1 (Array.getElem?_eq_some_iff.1 h2).1).trans h2⟩
 refine ⟨⟨?_, hR.1.below hb (Nat.le_refl _), hR.2.1.below hb (Nat.le_refl _), hR.2.2.below hb (Nat.le_refl _), h.at_.pform, h.at_.plen, phAt_kept h.at_.phrases (fun q v _ hc => cell_blk (hk _ a3 a4) q v hc) (fun c hc q v hv => cell_blk (hk c (h.pown c hc) (cell_lt hv)) q v hv), h.at_.dform, h.at_.dlen, ?_⟩, h.ns.kept fun y hy v hv => cell_blk (hk _ (h.refs y hy).1 (cell_lt hv)) _ v hv, hfree⟩
 ·have := h.at_.roles
  rw [h.own.raf] at this ⊢
  exact row_keep this (hk _ a1 a2) hl
 ·have hd := h.at_.dances
  cases hq : x.dances with
  | nil => trivial
  | cons d r =>
   have hm : (⟨blk x.da, off x.da, 1, d.rn⟩ : RefL) ∈ x.refs := by
    unfold Ls.refs
    rw [hq]
    exact List.mem_append.2 (Or.inr (List.mem_cons_self ..))
   obtain ⟨h1, h2⟩ := h.refs _ hm
   rw [← hq]
   exact danAt_kept hd fun q v _ hc => cell_blk (hk _ h1 h2.lt) q v hc
theorem CpW.refs_ra {s : Ls} {ns : List Int} {w0 : World} {x : Ls} {V : World} (h : CpW s ns w0 x V) : ∀ r ∈ x.refs, r.b ≠ blk x.ra := fun r hr e => by
 rcases List.mem_append.1 hr with h1 | h1
 ·exact h.own.ra (by rw [← e]; exact phRefs_own h1)
 ·exact h.own.rd (by rw [← (danRefs_mem h1).1]; exact e.symm)
end Go.Proofs.Ytpnbpepkoekkoaa
end
section
namespace Go.Proofs.Ytpnbpepkoekkoaa
open Go Go.RowKit Go.Deep
def Ls.Blk (x : Ls) (b : Nat) : Prop := b = blk x.ra ∨ b = blk x.fa ∨ b ∈ phOwn x.phrases ∨ ∃ r ∈ x.refs, r.b = b
theorem Ls.stay {x : Ls} {ns : List Int} {V W' wz : World} (hat : x.At V) (hns : NsAt V x.refs ns) (hraf : x.ra = some ⟨blk x.ra, 0, none⟩) (hg : blk x.ra < V.heap.size) (hfr : ∀ r ∈ x.refs, FreeB V r.b)
  (hR : IsRow encT 3 wz (.slice x.ta x.tempos.length x.tc) x.tempos ∧ IsRow encP 4 wz (.slice x.ua x.pauses.length x.uc) x.pauses ∧ IsRow encC 4 wz (.slice x.sa x.spans.length x.sc) x.spans)
  (hb : Below wz.heap.size wz W') (hl : V.heap.size ≤ W'.heap.size) (hk : ∀ b, x.Blk b → b < V.heap.size → W'.heap[b]? = V.heap[b]?) : x.At W' ∧ NsAt W' x.refs ns ∧ ∀ r ∈ x.refs, FreeB W' r.b := by
 have hre : ∀ r ∈ x.refs, x.Blk r.b := fun r hr => Or.inr (Or.inr (Or.inr ⟨r, hr, rfl⟩))
 have hfree : ∀ r ∈ x.refs, FreeB W' r.b := fun r hr => by
  obtain ⟨cur, t, h2⟩ := hfr r hr
  exact ⟨cur, t, (hk _ (hre r hr) (Array.getElem?_eq_some_iff.1 h2).1).trans h2⟩
 refine ⟨⟨?_, hR.1.below hb (Nat.le_refl _), hR.2.1.below hb (Nat.le_refl _), hR.2.2.below hb (Nat.le_refl _), hat.pform, hat.plen, phAt_kept hat.phrases (fun q v _ hc => cell_blk (hk _ (Or.inr (Or.inl rfl)) (cell_lt hc)) q v hc) (fun c hc q v hv => cell_blk (hk c (Or.inr (Or.inr (Or.inl hc))) (cell_lt hv)) q v hv), hat.dform, hat.dlen, ?_⟩, hns.kept fun y hy v hv => cell_blk (hk _ (hre y hy) (cell_lt hv)) _ v hv, hfree⟩
 ·have := hat.roles
  rw [hraf] at this ⊢
  exact row_keep this (hk _ (Or.inl rfl) hg) hl
 ·have hd := hat.dances
  cases hq : x.dances with
  | nil => trivial
  | cons d r =>
   have hm : (⟨blk x.da, off x.da, 1, d.rn⟩ : RefL) ∈ x.refs := by
    unfold Ls.refs
    rw [hq]
    exact List.mem_append.2 (Or.inr (List.mem_cons_self ..))
   rw [← hq]
   exact danAt_kept hd fun q v _ hc => cell_blk (hk _ (hre _ hm) (cell_lt hc)) q v hc
theorem CpW.blk_in {s : Ls} {ns : List Int} {w0 : World} {x : Ls} {V : World} (h : CpW s ns w0 x V) : ∀ b, x.Blk b → w0.heap.size ≤ b ∧ b < V.heap.size := by
 obtain ⟨⟨a1, a2⟩, ⟨a3, a4⟩⟩ := h.own.lt
 rintro b (rfl | rfl | hb | ⟨r, hr, rfl⟩)
 ·exact ⟨a1, a2⟩
 ·exact ⟨a3, a4⟩
 ·exact ⟨h.pown b hb, phOwn_lt h.at_.phrases b hb⟩
 ·exact ⟨(h.refs r hr).1, (h.refs r hr).2.lt⟩
end Go.Proofs.Ytpnbpepkoekkoaa
end
section
namespace Go.Proofs.Ytpnbpepkoekkoaa
open Go Go.RowKit Go.Deep
theorem tup_rows {s x : Ls} {w : World} (e : x.tup = s.tup) (hs : s.At w) : IsRow encT 3 w (.slice x.ta x.tempos.length x.tc) x.tempos ∧ IsRow encP 4 w (.slice x.ua x.pauses.length x.uc) x.pauses ∧ IsRow encC 4 w (.slice x.sa x.spans.length x.sc) x.spans := by
 unfold Ls.tup at e
 simp only [Prod.mk.injEq, List.cons.injEq, and_true] at e
 obtain ⟨⟨e1, e2, e3⟩, ⟨e4, e5, e6⟩, e7, e8, e9⟩ := e
 rw [e1, e2, e3, e4, e5, e6, e7, e8, e9]
 exact ⟨hs.tempos, hs.pauses, hs.spans⟩
def zeroK : List (Nat × Nm) → List Int → List Int
 | r :: rs, k :: ks => (if r.1 = 0 then k else 0) :: zeroK rs ks
 | _, _ => []
theorem chg_zero : ∀ (rs : List RefL) (ks : List Int), chgN zeroR rs ks = zeroK (rs.map RefL.key) ks
 | [], _ => by simp [chgN, zeroK]
 | _ :: _, [] => by simp [chgN, zeroK]
 | r :: rs, k :: ks => by
  simp only [chgN, zeroK, List.map_cons]
  rw [chg_zero rs ks]
  rfl
structure OneW (w : World) (A : Nat) (x : Ls) (ks : List Int) (W : World) : Prop where
 at_ : x.At W
 ns : NsAt W x.refs ks
 free : ∀ r ∈ x.refs, FreeB W r.b
 box : W.heap[A]? = some (.cells x.cells 30 (0, 0))
structure OneB (w : World) (A lo hi : Nat) (x : Ls) : Prop where
 rows : IsRow encT 3 w (.slice x.ta x.tempos.length x.tc) x.tempos ∧ IsRow encP 4 w (.slice x.ua x.pauses.length x.uc) x.pauses ∧ IsRow encC 4 w (.slice x.sa x.spans.length x.sc) x.spans
 sep : x.Sep
 raf : x.ra = some ⟨blk x.ra, 0, none⟩
 ra : ∀ r ∈ x.refs, r.b ≠ blk x.ra
 blk_ : ∀ b, x.Blk b → lo ≤ b ∧ b < hi
 low : w.heap.size ≤ lo ∧ A < lo
theorem OneB.ref {w : World} {A lo hi : Nat} {x : Ls} (h : OneB w A lo hi x) {r : RefL} (hr : r ∈ x.refs) : lo ≤ r.b ∧ r.b < hi := h.blk_ _ (Or.inr (Or.inr (Or.inr ⟨r, hr, rfl⟩)))
theorem OneW.stay {w : World} {A A2 lo hi lo2 hi2 : Nat} {x y : Ls} {ks : List Int} {W W' : World} (h : OneW w A x ks W) (hB : OneB w A lo hi x) (hC : OneB w A2 lo2 hi2 y) (hd : hi ≤ lo2 ∨ hi2 ≤ lo) (hA : A < lo2) (hhi : hi ≤ W.heap.size) (hb : Below w.heap.size w W') (hk : KeepR y W W') : OneW w A x ks W' := by
 have hkk : ∀ b, x.Blk b → b < W.heap.size → W'.heap[b]? = W.heap[b]? := fun b hb1 hb2 => hk.2 b hb2 fun r hr e => by
  have h1 := hC.ref hr
  have h2 := hB.blk_ b hb1
  omega
 have hg := (hB.blk_ (blk x.ra) (Or.inl rfl)).2
 obtain ⟨h1, h2, h3⟩ := Ls.stay h.at_ h.ns hB.raf (by omega) h.free hB.rows hb hk.1 hkk
 have hAl : A < W.heap.size := (Array.getElem?_eq_some_iff.1 h.box).1
 exact ⟨h1, h2, h3, (hk.2 A hAl fun r hr e => by have := hC.ref hr; omega).trans h.box⟩
end Go.Proofs.Ytpnbpepkoekkoaa
end
section
namespace Go.Proofs.Ytpnbpepkoekkoaa
open Go Go.RowKit Go.Deep
set_option maxRecDepth 100000 in
set_option maxHeartbeats 16000000 in
theorem alk_e2 (A B lo1 hi1 lo2 hi2 : Nat) (x y : Ls) (kx ky : List Int) (w W : World) (hBx : OneB w A lo1 hi1 x) (hBy : OneB w B lo2 hi2 y) (hd : hi1 ≤ lo2) (hA2 : A < lo2) (hB1 : B < lo1) (hx : OneW w A x kx W) (hy : OneW w B y ky W) (hb : Below w.heap.size w W) (hh1 : hi1 ≤ W.heap.size) (hh2 : hi2 ≤ W.heap.size) (hlx : (ptrs x.refs).length ≤ 1000000) (hly : (ptrs y.refs).length ≤ 1000000) (e0 e1 e4 e5 e6 e7 e8 e9 e10 e11 e12 e13 e14 e15 e16 e17 e18 e19 e20 e21 e22 e23 e24 e25 e26 e27 e28 e29 e30 e31 e32 e33 e34 : Value) (K : Act → World → Prop)
  (hK : ∀ W', OneW w A x (chgN zeroR x.refs kx) W' → OneW w B y (chgN zeroR y.refs ky) W' → Below w.heap.size w W' → ∀ (f6 f8 f13 f14 f15 f16 f17 f18 f19 f20 f21 f22 f23 f24 f25 f26 f27 f28 f29 f30 f31 : Value), K { tmps := #[e0, e1, .pointer (some ⟨A, 0, none⟩), .pointer (some ⟨B, 0, none⟩), e4, e5, f6, e7, f8, e9, e10, e11, e12, f13, f14, f15, f16, f17, f18, f19, f20, f21, f22, f23, f24, f25, f26, f27, f28, f29, f30, f31, e32, e33, e34], defers := [] } W') :
  elem18n2.wp Try.prog (Exit.then K (fun _ _ _ => False)) { tmps := #[e0, e1, .pointer (some ⟨A, 0, none⟩), .pointer (some ⟨B, 0, none⟩), e4, e5, e6, e7, e8, e9, e10, e11, e12, e13, e14, e15, e16, e17, e18, e19, e20, e21, e22, e23, e24, e25, e26, e27, e28, e29, e30, e31, e32, e33, e34], defers := [] } W := by
 obtain ⟨W1, hW1, gW1, bW1, sW1⟩ := mk_cells W #[.pointer (some ⟨A, 0, none⟩), .pointer (some ⟨B, 0, none⟩)] 43
 have hx1 : OneW w A x kx W1 := ⟨hx.at_.below bW1, hx.ns.below bW1, fun r hr => (hx.free r hr).below bW1, keepO bW1 hx.box⟩
 have hy1 : OneW w B y ky W1 := ⟨hy.at_.below bW1, hy.ns.below bW1, fun r hr => (hy.free r hr).below bW1, keepO bW1 hy.box⟩
 have hb1 : Below w.heap.size w W1 := thenB hb bW1
 have HBX := Lib.hid hBx; have HBY := Lib.hid hBy; have HX1 := Lib.hid hx1; have HY1 := Lib.hid hy1; have HB1 := Lib.hid hb1; have HW1 := Lib.hid hW1; have HK0 := Lib.hid hK; have HL1 := Lib.hid gW1
 obtain ⟨L, hLe⟩ : ∃ L, W.heap.size = L := ⟨_, rfl⟩
 have hhL1 : hi1 ≤ L := by omega
 have hhL2 : hi2 ≤ L := by omega
 rw [hLe] at HL1
 have HLE := Lib.hid hLe
 clear hBx hBy hx hy hb hh1 hh2 hK hx1 hy1 hb1 hW1 gW1 bW1 sW1 hLe
 unfold elem18n2 code18
 conv => arg 2; whnf
 refine wp_seq_thenQ (fun K0 hK => ?_)
 have HKa := Lib.hid hK
 clear hK
 go_wp2_with fail
 refine HKa.out _ _ ?_
 rw [HW1.out, HLE.out]
 clear HKa K0 HW1
 go_wp2_with fail
 go_loopw [15] (fun iv wr => ∃ (i : Nat) (la lb : List Int), iv = .int .i64 i ∧ Hid ((i = 0 ∧ la = kx ∧ lb = ky) ∨ (i = 1 ∧ la = chgN zeroR x.refs kx ∧ lb = ky) ∨ (i = 2 ∧ la = chgN zeroR x.refs kx ∧ lb = chgN zeroR y.refs ky)) ∧ Hid (OneW w A x la wr) ∧ Hid (OneW w B y lb wr) ∧ Hid (Below w.heap.size w wr) ∧ Hid (wr.heap[L]? = some (.cells #[.pointer (some ⟨A, 0, none⟩), .pointer (some ⟨B, 0, none⟩)] 43 (0, 0)))) (fun iv _ => 3 - (intOf iv).toNat)
 case atStart => exact ⟨0, kx, ky, rfl, Lib.hid (Or.inl ⟨rfl, rfl, rfl⟩), HX1, HY1, HB1, HL1⟩
 case round =>
  obtain ⟨i, la, lb, rfl, hi, hX, hY, hBw, hLb⟩ := hrel
  have hLl : L < wr.heap.size := (Array.getElem?_eq_some_iff.1 hLb.out).1
  have cL0 := cell_at hLb.out 0 rfl
  have cL1 := cell_at hLb.out 1 rfl
  rcases hi.out with ⟨rfl, rfl, rfl⟩ | ⟨rfl, rfl, rfl⟩ | ⟨rfl, rfl, rfl⟩
  ·refine wp_seq_thenQ (fun K1 hK => ?_)
   have HK1 := Lib.hid hK
   clear hK
   go_wp2_with fail
   refine HK1.out _ _ ?_
   clear HK1 K1
   refine wp_seq_thenQ (fun K2 hK => ?_)
   have HK2 := Lib.hid hK
   clear hK
   go_wp2_with fail
   refine HK2.out _ _ ?_
   clear HK2 K2
   refine wp_seq_thenQ (fun K3 hK => ?_)
   have HK3 := Lib.hid hK
   clear hK
   refine wp_block ?_
   refine wp_seq_thenQ (fun K4 hK => ?_)
   have HK4 := Lib.hid hK
   clear hK
   go_wp2_with fail
   refine HK4.out _ _ ?_
   clear HK4 K4
   change Code.wp Try.prog inner18 _ _ _
   refine wp_mono (alk_inner A x _ w wr hBw.out hX.out.box hX.out.at_ hX.out.ns HBX.out.sep (fun r hr => ⟨by have := HBX.out.ref hr; have := HBX.out.low; omega, by have := HBX.out.ref hr; have := HBX.out.low; omega, hX.out.free r hr⟩) HBX.out.rows (blk x.ra) HBX.out.raf (by have := (HBX.out.blk_ (blk x.ra) (Or.inl rfl)).2; omega) HBX.out.ra hlx _ _ _ _ _ _ _ _ _ _ _ _ _ _ _ _ _ _ _ _ _ _ _ _ _ _ _ _ _ _ _ _ _ _ K3 (fun W' q1 q2 q3 q4 q5 q6 => ?_)) (fun e a w h => by cases e <;> first | exact h | exact False.elim h)
   intros
   refine HK3.out _ _ ?_
   clear HK3 K3
   have hX2 : OneW w A x (chgN zeroR x.refs la) W' := ⟨q2, q1, q6, q3⟩
   have hY2 : OneW w B y lb W' := hY.out.stay HBY.out HBX.out (Or.inr hd) (by have := HBX.out.low; omega) (by omega) q4 q5
   have hL2 := (q5.2 L hLl fun r hr e => by have := HBX.out.ref hr; omega).trans hLb.out
   have HX2 := Lib.hid hX2; have HY2 := Lib.hid hY2; have HL2 := Lib.hid hL2; have HB2 := Lib.hid q4
   clear hX2 hY2 hL2 q1 q2 q3 q4 q5 q6 cL0 cL1 hX hY hBw hLb hi
   go_wp2_with fail
   go_roundw
   case rel => exact ⟨1, _, _, by go_num, Lib.hid (Or.inr (Or.inl ⟨rfl, rfl, rfl⟩)), HX2, HY2, HB2, HL2⟩
   case measure => simp [intOf]
  ·refine wp_seq_thenQ (fun K1 hK => ?_)
   have HK1 := Lib.hid hK
   clear hK
   go_wp2_with fail
   refine HK1.out _ _ ?_
   clear HK1 K1
   refine wp_seq_thenQ (fun K2 hK => ?_)
   have HK2 := Lib.hid hK
   clear hK
   go_wp2_with fail
   refine HK2.out _ _ ?_
   clear HK2 K2
   refine wp_seq_thenQ (fun K3 hK => ?_)
   have HK3 := Lib.hid hK
   clear hK
   refine wp_block ?_
   refine wp_seq_thenQ (fun K4 hK => ?_)
   have HK4 := Lib.hid hK
   clear hK
   go_wp2_with fail
   refine HK4.out _ _ ?_
   clear HK4 K4
   change Code.wp Try.prog inner18 _ _ _
   refine wp_mono (alk_inner B y _ w wr hBw.out hY.out.box hY.out.at_ hY.out.ns HBY.out.sep (fun r hr => ⟨by have := HBY.out.ref hr; have := HBY.out.low; omega, by have := HBY.out.ref hr; have := HBY.out.low; omega, hY.out.free r hr⟩) HBY.out.rows (blk y.ra) HBY.out.raf (by have := (HBY.out.blk_ (blk y.ra) (Or.inl rfl)).2; omega) HBY.out.ra hly _ _ _ _ _ _ _ _ _ _ _ _ _ _ _ _ _ _ _ _ _ _ _ _ _ _ _ _ _ _ _ _ _ _ K3 (fun W' q1 q2 q3 q4 q5 q6 => ?_)) (fun e a w h => by cases e <;> first | exact h | exact False.elim h)
   intros
   refine HK3.out _ _ ?_
   clear HK3 K3
   have hY2 : OneW w B y (chgN zeroR y.refs lb) W' := ⟨q2, q1, q6, q3⟩
   have hX2 := hX.out.stay HBX.out HBY.out (Or.inl hd) hA2 (by omega) q4 q5
   have hL2 := (q5.2 L hLl fun r hr e => by have := HBY.out.ref hr; omega).trans hLb.out
   have HX2 := Lib.hid hX2; have HY2 := Lib.hid hY2; have HL2 := Lib.hid hL2; have HB2 := Lib.hid q4
   clear hX2 hY2 hL2 q1 q2 q3 q4 q5 q6 cL0 cL1 hX hY hBw hLb hi
   go_wp2_with fail
   go_roundw
   case rel => exact ⟨2, _, _, by go_num, Lib.hid (Or.inr (Or.inr ⟨rfl, rfl, rfl⟩)), HX2, HY2, HB2, HL2⟩
   case measure => simp [intOf]
  ·go_wp2_with fail
   exact HK0.out _ hX.out hY.out hBw.out _ _ _ _ _ _ _ _ _ _ _ _ _ _ _ _ _ _ _ _ _
end Go.Proofs.Ytpnbpepkoekkoaa
end
section
namespace Go.Proofs.Ytpnbpepkoekkoaa
open Go Go.RowKit Go.Deep
theorem akstep1 : lastPart 1 code18 = .seq elem18n1 (lastPart 2 code18) := rfl
theorem akstep2 : lastPart 2 code18 = .seq elem18n2 (lastPart 3 code18) := rfl
theorem CpW.one {s : Ls} {ns : List Int} {w0 : World} {x : Ls} {V : World} (h : CpW s ns w0 x V) {w : World} (hs : s.At w) {A : Nat} (h1 : w.heap.size ≤ w0.heap.size) (h2 : A < w0.heap.size) : OneB w A w0.heap.size V.heap.size x := ⟨tup_rows h.tup hs, h.sep, h.own.raf, h.refs_ra, h.blk_in, h1, h2⟩
set_option maxRecDepth 100000 in
set_option maxHeartbeats 16000000 in
theorem alike_any (a b : Ls) (ka kb : List Int) (w : World) (ha : a.At w) (hb : b.At w) (hna : NsAt w a.refs ka) (hnb : NsAt w b.refs kb) (hca : a.cpOk) (hcb : b.cpOk) (hs : a.strip = b.strip) (hz : zeroK a.strip.refs ka = zeroK b.strip.refs kb) (hla : a.refs.length ≤ 200000) (hlb : b.refs.length ≤ 200000) :
  Calls Try.prog 18 #[a.val, b.val] w fun e w' => e = .returned (.bool true) ∧ Below w.heap.size w w' := by
 obtain ⟨W1, hW1, hX, hY, hB, hS⟩ := two_box w a.cells b.cells
 have hsv : a.val = .agg a.cells := rfl
 have hsv' : b.val = .agg b.cells := rfl
 rw [hsv, hsv']
 obtain ⟨A, hAe⟩ : ∃ A, w.heap.size = A := ⟨_, rfl⟩
 rw [hAe] at hX hY
 have HW1 := Lib.hid hW1; have HAE := Lib.hid hAe
 have HS := Lib.hid (And.intro ha (And.intro hb (And.intro hna (And.intro hnb (And.intro hca (And.intro hcb (And.intro hs (And.intro hz (And.intro hX (And.intro hY (And.intro hB hS)))))))))))
 clear ha hb hna hnb hca hcb hs hz hX hY hB hS hW1 hsv hsv' hAe
 go_enter Try.func18, Try.ntmps18
 change Code.wp Try.prog (.seq (fst2 code18) (lastPart 1 code18)) _ _ _
 generalize hxa : a.cells = xs at *
 generalize hxb : b.cells = ys at *
 have HXA := Lib.hid hxa; have HXB := Lib.hid hxb
 clear hxa hxb
 refine wp_seq_thenQ (fun K hK => ?_)
 have HK := Lib.hid hK
 clear hK
 conv => arg 2; whnf
 go_wp2_with fail
 have e0 : (w.alloc (.cells xs 30)).alloc (.cells ys 30) = W1 := HW1.out
 rw [e0, HAE.out]
 refine HK.out _ _ ?_
 clear HK K e0 HW1
 obtain ⟨ha, hb, hna, hnb, hca, hcb, hs, hz, hX, hY, hB, hS⟩ := HS.out
 rw [← HXA.out] at hX
 rw [← HXB.out] at hY
 have hAE := HAE.out
 rw [akstep1]
 refine wp_seq_then (fun K hK => alk_reg1 a b ka kb A (A + 1) W1 (by omega) hX hY (ha.below hB) (hb.below hB) (hna.below hB) (hnb.below hB) hca hcb _ _ _ _ _ _ _ _ _ _ _ _ _ _ _ _ _ _ _ _ _ _ _ _ _ _ _ _ _ _ _ _ _ K (fun a' b' V1 V2 W' v10 v12 hcp hX2 hY2 hsz hbl hbel => ?_))
 refine hK _ _ ?_
 clear hK K
 dsimp only
 obtain ⟨c1, c2⟩ := hcp
 have hd1 : W1.drew.heap.size = W1.heap.size := rfl
 have b1 := c1.below.size; have b2 := c2.below.size
 have bw1 : Below w.heap.size w W1.drew := hB.drew
 have bw2 : Below w.heap.size w V2 := thenB bw1 (thenB c1.below c2.below)
 have bw : Below w.heap.size w W' := hbel _ _ bw2 (by omega) (by omega)
 have hBa : OneB w A W1.drew.heap.size V1.heap.size a' := c1.one ha (by omega) (by omega)
 have hBb : OneB w (A + 1) V1.heap.size V2.heap.size b' := c2.one hb (by omega) (by omega)
 have ga := (hBa.blk_ (blk a'.ra) (Or.inl rfl)).2
 have gb := (hBb.blk_ (blk b'.ra) (Or.inl rfl)).2
 obtain ⟨p1, p2, p3⟩ := Ls.stay c1.at_ c1.ns hBa.raf ga (fun r hr => (c1.refs r hr).2) hBa.rows bw (by omega) (fun q hq hl => by
  have := hBa.blk_ q hq
  exact (hbl q (by omega) (by omega)).trans (c2.below.block q hl))
 obtain ⟨r1, r2, r3⟩ := Ls.stay c2.at_ c2.ns hBb.raf gb (fun r hr => (c2.refs r hr).2) hBb.rows bw (by omega) (fun q hq hl => by
  have := hBb.blk_ q hq
  exact hbl q (by omega) (by omega))
 have hka : a'.refs.map RefL.key = a.strip.refs := by rw [a'.refs_key, c1.strip]
 have hkb : b'.refs.map RefL.key = b.strip.refs := by rw [b'.refs_key, c2.strip]
 have hpa : (ptrs a'.refs).length ≤ 1000000 := by
  have h1 := ptrs_le a'.refs
  have h2 := Ls.refs_same (x := a') (y := a) (by rw [c1.strip])
  omega
 have hpb : (ptrs b'.refs).length ≤ 1000000 := by
  have h1 := ptrs_le b'.refs
  have h2 := Ls.refs_same (x := b') (y := b) (by rw [c2.strip])
  omega
 have hst : a'.strip = b'.strip := by rw [c1.strip, c2.strip, hs]
 have hzz : chgN zeroR a'.refs ka = chgN zeroR b'.refs kb := by rw [chg_zero, chg_zero, hka, hkb, hz]
 rw [akstep2]
 refine wp_seq_then (fun K hK => alk_e2 A (A + 1) _ _ _ _ a' b' ka kb w W' hBa hBb (Nat.le_refl _) (by omega) (by omega) ⟨p1, p2, p3, hX2⟩ ⟨r1, r2, r3, hY2⟩ bw (by omega) (by omega) hpa hpb _ _ _ _ _ _ _ _ _ _ _ _ _ _ _ _ _ _ _ _ _ _ _ _ _ _ _ _ _ _ _ _ _ K (fun W3 o1 o2 bw3 => ?_))
 intros
 refine hK _ _ ?_
 have n1 := o1.ns
 rw [hzz] at n1
 have C := same_any a' b' _ W3 o1.at_ o2.at_ hst n1 o2.ns
 unfold Ls.val at C
 have HC := Lib.hid C; have HL1 := Lib.hid o1.box; have HL2 := Lib.hid o2.box; have HB3 := Lib.hid bw3
 clear C hK K n1 o1 o2 bw3 hzz hst hpa hpb hka hkb p1 p2 p3 r1 r2 r3 ga gb hBa hBb bw bw2 bw1 b1 b2 hd1 c1 c2 hX2 hY2 hsz hbl hbel ha hb hna hnb hca hcb hs hz hX hY hB hS HS
 conv => arg 2; whnf
 go_wp2_with (first
  | (go_at_call 17; refine HC.out.mono ?_; rintro e V ⟨rfl, hv⟩)
  | (refine wpList_load_row rfl 30 _ rfl A rfl 30 a'.cells (0, 0) _ HL1.out Try.underlying30 rfl (by kernel_rfl) ?_; simp only [Act.put, List.setIfInBounds_toArray, List.set_cons_zero, List.set_cons_succ])
  | (refine wpList_load_row rfl 30 _ rfl (A + 1) rfl 30 b'.cells (0, 0) _ HL2.out Try.underlying30 rfl (by kernel_rfl) ?_; simp only [Act.put, List.setIfInBounds_toArray, List.set_cons_zero, List.set_cons_succ]))
 go_ret
 exact ⟨rfl, thenB HB3.out hv⟩
end Go.Proofs.Ytpnbpepkoekkoaa
end
section
namespace Go.Proofs.Ytpnbpepkoekkoaa
open Go Go.RowKit Go.Deep
theorem refsIdx_get {R P : List Nm} : ∀ {pre : List (Nat × Nm)} {r : Nat × Nm} {rest : List (Nat × Nm)} {ns kp : List Int} {k : Int} {kr : List Int}, refsIdx R P (pre ++ r :: rest) ns = some (kp ++ k :: kr) → kp.length = pre.length → ∃ n, refIdx R P r n = some k
 | [], r, rest, [], kp, k, kr, h, _ => by simp [refsIdx] at h
 | _ :: _, r, rest, [], kp, k, kr, h, _ => by simp [refsIdx] at h
 | [], r, rest, n :: ns, kp, k, kr, h, hl => by
  obtain rfl : kp = [] := by simpa using hl
  simp only [List.nil_append, refsIdx] at h
  cases hq : refIdx R P r n with
  | none => rw [hq] at h; simp at h
  | some k' =>
   rw [hq] at h
   cases hs : refsIdx R P rest ns with
   | none => rw [hs] at h; simp at h
   | some ks' =>
    rw [hs] at h
    simp only [Option.some.injEq, List.cons.injEq] at h
    obtain ⟨rfl, _⟩ := h
    exact ⟨n, hq⟩
 | p :: pre, r, rest, n :: ns, kp, k, kr, h, hl => by
  cases kp with
  | nil => simp at hl
  | cons k0 kp =>
  simp only [List.cons_append, refsIdx] at h
  cases hq : refIdx R P p n with
  | none => rw [hq] at h; simp at h
  | some k' =>
   rw [hq] at h
   cases hs : refsIdx R P (pre ++ r :: rest) ns with
   | none => rw [hs] at h; simp at h
   | some ks' =>
    rw [hs] at h
    simp only [Option.some.injEq, List.cons.injEq] at h
    obtain ⟨_, rfl⟩ := h
    exact refsIdx_get hs (by simpa using hl)
theorem getElem_idxOf {l : List Nm} {a : Nm} (h : a ∈ l) : l[l.idxOf a]? = some a := by
 have hl := List.idxOf_lt_length_of_mem h
 rw [List.getElem?_eq_getElem hl, List.getElem_idxOf]
theorem idx_right {x : Ls} {ns ks : List Int} (h : x.strip.idx ns = some ks) (pre : List RefL) (r : RefL) (rest : List RefL) (kp : List Int) (k : Int) (kr : List Int) (h1 : x.refs = pre ++ r :: rest) (h2 : ks = kp ++ k :: kr) (h3 : kp.length = pre.length) (h4 : r.to ≠ 0) :
  ∃ j : Nat, k = (j : Int) ∧ (x.namesOf (decide (r.to = 2)))[j]? = some r.nm := by
 have h5 := Ls.refs_to (s := x) (r := r) (by rw [h1]; simp)
 unfold Sc.idx at h
 split at h
 ·rw [← x.refs_key, h1, List.map_append, List.map_cons, h2] at h
  obtain ⟨n, hn⟩ := refsIdx_get h (by rw [List.length_map]; exact h3)
  have hr : x.strip.rnames = x.roles.map fun p => p.name := rfl
  have hp : x.strip.pnames = x.phrases.map fun p => p.name := by simp [Sc.pnames, Ls.strip, Ph.strip]
  unfold refIdx RefL.key at hn
  rw [if_neg h4] at hn
  by_cases h6 : r.to = 1
  ·rw [if_pos h6, hr] at hn
   split at hn
   ·rename_i hm
    injection hn with hn
    refine ⟨_, hn.symm, ?_⟩
    unfold Ls.namesOf
    rw [decide_eq_false (by omega), if_neg (by decide)]
    exact getElem_idxOf hm
   ·cases hn
  ·rw [if_neg h6, hp] at hn
   split at hn
   ·rename_i hm
    injection hn with hn
    refine ⟨_, hn.symm, ?_⟩
    unfold Ls.namesOf
    rw [decide_eq_true (by omega), if_pos rfl]
    exact getElem_idxOf hm
   ·cases hn
 ·cases h
theorem refsIdx_zero {R P : List Nm} : ∀ {rs : List (Nat × Nm)} {ns ks : List Int}, refsIdx R P rs ns = some ks → zeroK rs ks = zeroK rs ns
 | [], [], ks, h => by simp [refsIdx] at h; rw [← h]
 | [], _ :: _, ks, h => by simp [refsIdx] at h
 | _ :: _, [], ks, h => by simp [refsIdx] at h
 | r :: rs, n :: ns, ks, h => by
  simp only [refsIdx] at h
  cases hq : refIdx R P r n with
  | none => rw [hq] at h; simp at h
  | some k' =>
   rw [hq] at h
   cases hs : refsIdx R P rs ns with
   | none => rw [hs] at h; simp at h
   | some ks' =>
    rw [hs] at h
    simp only [Option.some.injEq] at h
    subst h
    simp only [zeroK]
    rw [refsIdx_zero hs]
    congr 1
    by_cases h0 : r.1 = 0
    ·rw [if_pos h0, if_pos h0]
     unfold refIdx at hq
     rw [if_pos h0] at hq
     split at hq
     ·rename_i hm
      injection hq with hq
      rw [← hq, hm.2]
     ·cases hq
    ·rw [if_neg h0, if_neg h0]
theorem idx_zero {s : Sc} {ns ks : List Int} (h : s.idx ns = some ks) : zeroK s.refs ks = zeroK s.refs ns := by
 unfold Sc.idx at h
 split at h
 ·exact refsIdx_zero h
 ·cases h
end Go.Proofs.Ytpnbpepkoekkoaa
end
section
namespace Go.Proofs.Ytpnbpepkoekkoaa
open Go Go.RowKit Go.Deep
def ResO (s : Ls) (ns : List Int) (w : World) (e : Ending) (w' : World) : Prop := ∃ (x : Ls) (ks : List Int), e = .returned (.tuple #[x.val, .int .i64 0]) ∧ x.strip = s.strip ∧ x.At w' ∧ NsAt w' x.refs ks ∧ s.strip.idx ns = some ks ∧ Below w.heap.size w w'
theorem res_ok (s : Ls) (ns : List Int) (w : World) (hA : s.At w) (hN : NsAt w s.refs ns) (he : Env w) (h0 : resE s.strip ns = 0) : Calls Try.prog 15 #[s.val] w (ResO s ns w) := by
 refine (res_any s ns w hA hN he).mono fun e w' h => ?_
 obtain ⟨h | h, hb⟩ := h
 ·obtain ⟨_, x, ks, h1, h2, h3, h4, h5, _⟩ := h
  exact ⟨x, ks, h1, h2, h3, h4, h5, hb⟩
 ·exact absurd h0 h.1
end Go.Proofs.Ytpnbpepkoekkoaa
end
section
namespace Go.Proofs.Ytpnbpepkoekkoaa
open Go Go.RowKit Go.Deep
theorem refIdx_free {R P : List Nm} {r : Nat × Nm} (h : r.1 ≠ 0) (n m : Int) : refIdx R P r n = refIdx R P r m := by
 unfold refIdx
 rw [if_neg h, if_neg h]
theorem refIdx_again {R P : List Nm} {r : Nat × Nm} {n k : Int} (h : refIdx R P r n = some k) : refIdx R P r k = some k := by
 by_cases h0 : r.1 = 0
 ·unfold refIdx at h ⊢
  rw [if_pos h0] at h ⊢
  split at h
  ·rename_i hm
   injection h with h
   rw [← h, if_pos ⟨hm.1, rfl⟩]
  ·cases h
 ·rw [refIdx_free h0 k n]; exact h
theorem refsIdx_again {R P : List Nm} : ∀ {rs : List (Nat × Nm)} {ns ks : List Int}, refsIdx R P rs ns = some ks → refsIdx R P rs ks = some ks
 | [], [], ks, h => by
  simp only [refsIdx, Option.some.injEq] at h
  rw [← h]; rfl
 | [], _ :: _, ks, h => by simp [refsIdx] at h
 | _ :: _, [], ks, h => by simp [refsIdx] at h
 | r :: rs, n :: ns, ks, h => by
  simp only [refsIdx] at h
  cases hq : refIdx R P r n with
  | none => rw [hq] at h; simp at h
  | some k' =>
   rw [hq] at h
   cases hs : refsIdx R P rs ns with
   | none => rw [hs] at h; simp at h
   | some ks' =>
    rw [hs] at h
    simp only [Option.some.injEq] at h
    rw [← h]
    simp only [refsIdx]
    rw [refIdx_again hq, refsIdx_again hs]
theorem refsIdx_chg {R P : List Nm} {r : Nat × Nm} (h0 : r.1 ≠ 0) (k k' : Int) {rest : List (Nat × Nm)} {kr : List Int} : ∀ {pre : List (Nat × Nm)} {kp : List Int}, kp.length = pre.length → refsIdx R P (pre ++ r :: rest) (kp ++ k :: kr) = refsIdx R P (pre ++ r :: rest) (kp ++ k' :: kr)
 | [], [], _ => by
  simp only [List.nil_append, refsIdx]
  rw [refIdx_free h0 k k']
 | p :: pre, q :: kp, h => by
  simp only [List.cons_append, refsIdx]
  rw [refsIdx_chg h0 k k' (by simpa using h)]
theorem idx_again {s : Sc} {ns ks : List Int} (h : s.idx ns = some ks) : s.idx ks = some ks := by
 unfold Sc.idx at h ⊢
 split at h
 ·rename_i hk
  rw [if_pos hk]; exact refsIdx_again h
 ·cases h
theorem idx_chg {z : Ls} {pre rest : List RefL} {r : RefL} {kp kr : List Int} (k k' : Int) (h1 : z.refs = pre ++ r :: rest) (hl : kp.length = pre.length) (h0 : r.to ≠ 0) : z.strip.idx (kp ++ k :: kr) = z.strip.idx (kp ++ k' :: kr) := by
 unfold Sc.idx
 rw [← z.refs_key, h1, List.map_append, List.map_cons, refsIdx_chg (r := r.key) h0 k k' (by rw [List.length_map]; exact hl)]
theorem res_again {s : Sc} {ns ks : List Int} (h : resE s ns = 0) (hi : (s.idx ks).isSome = true) : resE s ks = 0 := by
 obtain ⟨a, b, c, _⟩ := res_zero h
 exact res_of a b c hi
theorem chk_ok {s : Sc} {ks : List Int} (h : resE s ks = 0) (hi : s.idx ks = some ks) : chkE s ks = 0 := by
 unfold chkE
 rw [if_pos h, if_pos hi]
theorem chk_bad {s : Sc} {kz ks : List Int} (h : resE s kz = 0) (hi : s.idx kz = some ks) (hne : ks ≠ kz) : chkE s kz = 170 := by
 unfold chkE
 rw [if_pos h, if_neg (by rw [hi]; intro e; injection e with e; exact hne e)]
theorem chk_err {s : Sc} {ns : List Int} (h : resE s ns ≠ 0) : chkE s ns = resE s ns := by
 unfold chkE
 rw [if_neg h]
theorem wpList_load_row_at {P : Program} {ops : Array Oper} {rest : List Oper} {o : Oper} {a : Act} {w : World} {Q : Exit → Act → World → Prop} (hgd : Region.wanted o (yielded ops a.tmps) = true) (ty : TypeId) (x : Operand) (ho : o.op = .load ty x)
  (g : Nat) (hx : a.eval x = .pointer (some ⟨g, 0, none⟩)) (t : TypeId) (cs : Array Value) (fr : Nat × Nat) (d : TypeDesc) (hg : w.heap[g]? = some (.cells cs t fr))
  (hu : P.underlying ty = some d) (hd : (match d with | .struct _ | .array _ _ => true | _ => false) = true) (hi : (P.info? ty).map (·.size) = some cs.size)
  (h : wpList P ops Q rest (a.put o.dst (.agg cs)) w) : wpList P ops Q (o :: rest) a w :=
 wpList_step fun K hK => by rw [if_pos hgd]; exact wp_load_row ty x ho g hx t cs fr d hg hu hd hi (hK _ _ h)
structure Bx (x : Ls) (ks : List Int) (X : Nat) (W : World) : Prop where
 box : W.heap[X]? = some (.cells x.cells 30 (0, 0))
 at_ : x.At W
 ns : NsAt W x.refs ks
theorem Bx.next {x : Ls} {ks : List Int} {X : Nat} {W W' : World} (h : Bx x ks X W) (hb : Below W.heap.size W W') : Bx x ks X W' := ⟨keepO hb h.box, h.at_.below hb, h.ns.below hb⟩
theorem copy_set {s z : Ls} {ns : List Int} {w0 V W : World} {Z : Nat} (hcp : CpW s ns w0 z V) (hs : s.At w0) (hb : Below V.heap.size V W) (hz : Bx z ns Z W) (hZ : V.heap.size ≤ Z) {pre rest : List RefL} {r : RefL} {kp kr : List Int} {k : Int} (h1 : z.refs = pre ++ r :: rest) (h2 : ns = kp ++ k :: kr) (hl : kp.length = pre.length) (k' : Int) :
  Bx z (kp ++ k' :: kr) Z (W.setCell ⟨r.b, r.o + 1, none⟩ (.int .i64 k')) ∧ Below w0.heap.size w0 (W.setCell ⟨r.b, r.o + 1, none⟩ (.int .i64 k')) := by
 have hm : r ∈ z.refs := by rw [h1]; simp
 obtain ⟨g1, g2⟩ := hcp.refs r hm
 have g3 := g2.lt
 have h0 := hcp.below.size
 have hsz := hb.size
 have hb0 : Below w0.heap.size w0 W := hcp.below.trans (hb.mono h0)
 have hbw : Below w0.heap.size w0 (W.setCell ⟨r.b, r.o + 1, none⟩ (.int .i64 k')) := hb0.setCell (p := ⟨r.b, r.o + 1, none⟩) g1 _
 obtain ⟨s1, s2⟩ := hcp.sep.set (v := .int .i64 k') hm hz.at_.phrases hz.at_.dances
 obtain ⟨t1, t2, t3⟩ := tup_rows hcp.tup hs
 obtain ⟨a1, a2⟩ := hcp.own.lt.1
 have hk : ∀ b, b ≠ r.b → (W.setCell ⟨r.b, r.o + 1, none⟩ (.int .i64 k')).heap[b]? = W.heap[b]? := fun b hb => Below.heap_setCell _ _ _ _ hb
 refine ⟨⟨(hk Z (by omega)).trans hz.box, ⟨?_, t1.below hbw (Nat.le_refl _), t2.below hbw (Nat.le_refl _), t3.below hbw (Nat.le_refl _), hz.at_.pform, hz.at_.plen, s1, hz.at_.dform, hz.at_.dlen, s2⟩, ?_⟩, hbw⟩
 ·have := hz.at_.roles
  rw [hcp.own.raf] at this ⊢
  exact row_keep this (hk _ fun e => hcp.refs_ra r hm e.symm) (by simp [World.setCell])
 ·have h6 := hz.ns
  rw [h1, h2] at h6
  obtain ⟨h7, h8⟩ := h6.cut hl
  have hap : PlacesApart (pre ++ r :: rest) := by rw [← h1]; exact hcp.sep.apart
  obtain ⟨n1, n2⟩ := NsAt.set (n := k') hap h7 h8
  rw [h1]
  exact n1.append n2
noncomputable def code3 : Code := (Try.f3.body).getD .skip
noncomputable def elem3n0 : Code := match lastPart 0 code3 with
 | .seq a _ => a
 | c => c
noncomputable def elem3n1 : Code := match lastPart 1 code3 with
 | .seq a _ => a
 | c => c
noncomputable def elem3n2 : Code := match lastPart 2 code3 with
 | .seq a _ => a
 | c => c
noncomputable def elem3n3 : Code := match lastPart 3 code3 with
 | .seq a _ => a
 | c => c
noncomputable def elem3n4 : Code := match lastPart 4 code3 with
 | .seq a _ => a
 | c => c
noncomputable def elem3n5 : Code := match lastPart 5 code3 with
 | .seq a _ => a
 | c => c
noncomputable def elem3n6 : Code := match lastPart 6 code3 with
 | .seq a _ => a
 | c => c
noncomputable def elem3n7 : Code := match lastPart 7 code3 with
 | .seq a _ => a
 | c => c
noncomputable def elem3n8 : Code := match lastPart 8 code3 with
 | .seq a _ => a
 | c => c
noncomputable def elem3n9 : Code := match lastPart 9 code3 with
 | .seq a _ => a
 | c => c
noncomputable def elem3n10 : Code := match lastPart 10 code3 with
 | .seq a _ => a
 | c => c
noncomputable def elem3n11 : Code := match lastPart 11 code3 with
 | .seq a _ => a
 | c => c
noncomputable def elem3n12 : Code := match lastPart 12 code3 with
 | .seq a _ => a
 | c => c
theorem rsstep1 : lastPart 1 code3 = .seq elem3n1 (lastPart 2 code3) := rfl
theorem rsstep2 : lastPart 2 code3 = .seq elem3n2 (lastPart 3 code3) := rfl
theorem rsstep3 : lastPart 3 code3 = .seq elem3n3 (lastPart 4 code3) := rfl
theorem rsstep4 : lastPart 4 code3 = .seq elem3n4 (lastPart 5 code3) := rfl
theorem rsstep5 : lastPart 5 code3 = .seq elem3n5 (lastPart 6 code3) := rfl
theorem rsstep6 : lastPart 6 code3 = .seq elem3n6 (lastPart 7 code3) := rfl
theorem rsstep7 : lastPart 7 code3 = .seq elem3n7 (lastPart 8 code3) := rfl
theorem rsstep8 : lastPart 8 code3 = .seq elem3n8 (lastPart 9 code3) := rfl
theorem rsstep9 : lastPart 9 code3 = .seq elem3n9 (lastPart 10 code3) := rfl
theorem rsstep10 : lastPart 10 code3 = .seq elem3n10 (lastPart 11 code3) := rfl
theorem rsstep11 : lastPart 11 code3 = .seq elem3n11 (lastPart 12 code3) := rfl
theorem rsstep12 : lastPart 12 code3 = .seq elem3n12 (lastPart 13 code3) := rfl
set_option maxRecDepth 100000 in
set_option maxHeartbeats 16000000 in
theorem rsv_e12 (x z : Ls) (ks kz : List Int) (w W : World) (X Z : Nat) (he : ∀ V, Below w.heap.size w V → Env V) (hb : Below w.heap.size w W) (hx : Bx x ks X W) (hz : Bx z kz Z W) (h0 : resE z.strip kz = 0) (hi : z.strip.idx kz = some ks) (hne : ks ≠ kz) (hst : z.strip = x.strip) (e0 e1 e2 e3 e4 e5 e6 e8 e9 e10 e12 e13 e14 e15 e16 e17 e18 e19 e20 e21 e22 e23 e24 e25 e26 e27 e28 e29 e30 e31 e32 e33 e34 e35 e36 e37 e38 e39 e40 e41 e42 e43 e44 e45 e46 e47 e48 e49 e50 e51 e52 e53 e54 e55 e56 e57 e58 e59 e60 e61 e62 e63 e64 e65 e66 e67 e68 e69 e70 e71 e72 e73 e74 e75 e76 e77 e78 e79 e80 e81 e82 e83 e84 e85 e86 e87 e88 e89 e90 e91 e92 e93 e94 e95 e96 e97 e98 e99 e100 e101 e102 e103 e104 e105 e106 : Value) :
  (lastPart 12 code3).wp Try.prog (bodyPost Try.prog Try.f3 (fun e w' => e = .returned (.bool true) ∧ Below w.heap.size w w')) { tmps := #[e0, e1, e2, e3, e4, e5, e6, .pointer (some ⟨X, 0, none⟩), e8, e9, e10, .pointer (some ⟨Z, 0, none⟩), e12, e13, e14, e15, e16, e17, e18, e19, e20, e21, e22, e23, e24, e25, e26, e27, e28, e29, e30, e31, e32, e33, e34, e35, e36, e37, e38, e39, e40, e41, e42, e43, e44, e45, e46, e47, e48, e49, e50, e51, e52, e53, e54, e55, e56, e57, e58, e59, e60, e61, e62, e63, e64, e65, e66, e67, e68, e69, e70, e71, e72, e73, e74, e75, e76, e77, e78, e79, e80, e81, e82, e83, e84, e85, e86, e87, e88, e89, e90, e91, e92, e93, e94, e95, e96, e97, e98, e99, e100, e101, e102, e103, e104, e105, e106], defers := [] } W := by
 have C := res_ok z kz W hz.at_ hz.ns (he _ hb) h0
 unfold Ls.val at C
 have HC := Lib.hid C; have HL := Lib.hid hz.box
 have HS := Lib.hid (And.intro he (And.intro hb (And.intro hx (And.intro hz (And.intro h0 (And.intro hi (And.intro hne hst)))))))
 clear C hb hx hz h0 hi hne hst he
 rw [rsstep12]
 refine wp_seq_thenQ (fun K hK => ?_)
 have HK := Lib.hid hK
 clear hK
 conv => arg 2; whnf
 go_wp2_with (refine wpList_load_row rfl 30 _ rfl Z rfl 30 z.cells (0, 0) _ HL.out Try.underlying30 rfl (by kernel_rfl) ?_; simp only [Act.put, List.setIfInBounds_toArray, List.set_cons_zero, List.set_cons_succ])
 refine HC.out.mono ?_
 rintro e V ⟨yy, kb, rfl, q1, q2, q3, q4, q5⟩
 unfold Ls.val
 obtain ⟨W6, hW6, hX6, hb6⟩ : ∃ W6, V.alloc (.cells yy.cells 30) = W6 ∧ W6.heap[V.heap.size]? = some (.cells yy.cells 30 (0, 0)) ∧ Below V.heap.size V W6 := ⟨_, rfl, heap_alloc_new V _, (Below.refl _ _).alloc (Nat.le_refl _) _⟩
 have HQ := Lib.hid (And.intro q1 (And.intro q2 (And.intro q3 (And.intro q4 (And.intro q5 (And.intro hX6 hb6))))))
 unfold Ls.cells at hW6 ⊢
 have HW6 := Lib.hid hW6
 clear HC q1 q2 q3 q4 q5 hX6 hb6 hW6 HL
 dsimp only
 go_wp2_with fail
 have e5 := HW6.out
 simp only [sv] at e5 ⊢
 refine HK.out _ _ ?_
 rw [e5]
 clear HK K e5 HW6
 obtain ⟨he, hb, hx, hz, h0, hi, hne, hst⟩ := HS.out
 obtain ⟨q1, q2, q3, q4, q5, hX6, hb6⟩ := HQ.out
 have b6 : Below W.heap.size W W6 := thenB q5 hb6
 have hb6w : Below w.heap.size w W6 := thenB hb b6
 obtain rfl : kb = ks := by rw [hi] at q4; injection q4 with q4; exact q4.symm
 have hy6 : Bx yy kb V.heap.size W6 := ⟨hX6, q2.below hb6, q3.below hb6⟩
 have hz6 := hz.next b6
 have hx6 := hx.next b6
 have C2 := chk_any z kz W6 hz6.at_ hz6.ns (he _ hb6w)
 unfold ChkP at C2
 rw [chk_bad h0 hi hne] at C2
 have C3 : ∀ V', Below W6.heap.size W6 V' → Calls Try.prog 17 #[yy.val, x.val] V' (fun e w' => e = .returned (.bool true) ∧ Below V'.heap.size V' w') := fun V' hv => same_any yy x kb V' (hy6.next hv).at_ (hx6.next hv).at_ (q1.trans hst) (hy6.next hv).ns (hx6.next hv).ns
 have hbx : ∀ V', Below W6.heap.size W6 V' → V'.heap[V.heap.size]? = some (.cells yy.cells 30 (0, 0)) ∧ V'.heap[X]? = some (.cells x.cells 30 (0, 0)) := fun V' hv => ⟨(hy6.next hv).box, (hx6.next hv).box⟩
 unfold Ls.val at C2 C3
 have HC2 := Lib.hid C2; have HC3 := Lib.hid C3; have HBX := Lib.hid hbx; have HL := Lib.hid hz6.box; have HB := Lib.hid hb6w
 clear C2 C3 hbx hz6 hx6 hy6 hb6w b6 he hb hx hz h0 hi hne hst q1 q2 q3 q4 q5 hX6 hb6 HS HQ
 generalize V.heap.size = Y at *
 conv => arg 2; whnf
 go_wp2_with (refine wpList_load_row rfl 30 _ rfl Z rfl 30 z.cells (0, 0) _ HL.out Try.underlying30 rfl (by kernel_rfl) ?_; simp only [Act.put, List.setIfInBounds_toArray, List.set_cons_zero, List.set_cons_succ])
 refine HC2.out.mono ?_
 rintro e V2 ⟨rfl, hv2⟩
 obtain ⟨hy, hx⟩ := HBX.out _ hv2
 have HY := Lib.hid hy; have HX := Lib.hid hx; have HC4 := Lib.hid (HC3.out _ hv2); have HV2 := Lib.hid hv2
 clear HC2 HC3 HBX HL hy hx hv2
 go_wp2_with (first | (refine wpList_load_row_at (by kernel_rfl) 30 _ rfl Y rfl 30 yy.cells (0, 0) _ HY.out Try.underlying30 rfl (by kernel_rfl) ?_; simp only [Act.put, List.setIfInBounds_toArray, List.set_cons_zero, List.set_cons_succ]) | (refine wpList_load_row_at (by kernel_rfl) 30 _ rfl X rfl 30 x.cells (0, 0) _ HX.out Try.underlying30 rfl (by kernel_rfl) ?_; simp only [Act.put, List.setIfInBounds_toArray, List.set_cons_zero, List.set_cons_succ]))
 refine HC4.out.mono ?_
 rintro e V3 ⟨rfl, hv3⟩
 have HV3 := Lib.hid hv3
 clear HC4 HY HX hv3
 go_wp2_with fail
 try simp only [Exit.then]
 go_ret
 exact ⟨rfl, thenB HB.out (thenB HV2.out HV3.out)⟩
end Go.Proofs.Ytpnbpepkoekkoaa
end
section
namespace Go.Proofs.Ytpnbpepkoekkoaa
open Go Go.RowKit Go.Deep
set_option maxRecDepth 100000 in
set_option maxHeartbeats 16000000 in
theorem rsv_e11 (x z : Ls) (ks : List Int) (w Wc V W : World) (X Z g m c at_ : Nat) (by_ : Int) (he : ∀ V, Below w.heap.size w V → Env V) (hb : Below w.heap.size w Wc) (hx : Bx x ks X Wc) (hcp : CpW x ks Wc z V) (hbV : Below V.heap.size V W) (hz : Bx z ks Z W) (hZ : V.heap.size ≤ Z) (hrow : RowV encQ W g (ptrs z.refs)) (hm : (ptrs z.refs).length = m) (hm0 : 0 < m) (h0 : resE x.strip ks = 0) (hi : x.strip.idx ks = some ks) (hl1 : z.roles.length ≤ 300) (hl2 : z.phrases.length ≤ 300) (ha : at_ < 65536) (hby : -128 ≤ by_ ∧ by_ < 128) (hby0 : ¬ by_ = 0) (e0 e3 e4 e5 e6 e8 e9 e10 e13 e14 e15 e16 e17 e18 e19 e20 e21 e22 e23 e24 e25 e26 e27 e28 e29 e30 e31 e32 e33 e34 e35 e36 e37 e38 e39 e40 e41 e42 e43 e44 e45 e46 e47 e48 e49 e50 e51 e52 e53 e54 e55 e56 e57 e58 e59 e60 e61 e62 e63 e64 e65 e66 e67 e68 e69 e70 e71 e72 e73 e74 e75 e76 e77 e78 e79 e80 e81 e82 e83 e84 e85 e86 e87 e88 e89 e90 e91 e92 e93 e94 e95 e96 e97 e98 e99 e100 e101 e102 e103 e104 e105 e106 : Value) :
  (lastPart 11 code3).wp Try.prog (bodyPost Try.prog Try.f3 (fun e w' => e = .returned (.bool true) ∧ Below w.heap.size w w')) { tmps := #[e0, .int .u16 (at_ : Nat), .int .i8 by_, e3, e4, e5, e6, .pointer (some ⟨X, 0, none⟩), e8, e9, e10, .pointer (some ⟨Z, 0, none⟩), .slice (some ⟨g, 0, none⟩) m c, e13, e14, e15, e16, e17, e18, e19, e20, e21, e22, e23, e24, e25, e26, e27, e28, e29, e30, e31, e32, e33, e34, e35, e36, e37, e38, e39, e40, e41, e42, e43, e44, e45, e46, e47, e48, e49, e50, e51, e52, e53, e54, e55, e56, e57, e58, e59, e60, e61, e62, e63, e64, e65, e66, e67, e68, e69, e70, e71, e72, e73, e74, e75, e76, e77, e78, e79, e80, e81, e82, e83, e84, e85, e86, e87, e88, e89, e90, e91, e92, e93, e94, e95, e96, e97, e98, e99, e100, e101, e102, e103, e104, e105, e106], defers := [] } W := by
 have hjl : at_ % m < m := Nat.mod_lt _ hm0
 obtain ⟨j, hj⟩ : ∃ j, at_ % m = j := ⟨_, rfl⟩
 rw [hj] at hjl
 obtain ⟨r, hr⟩ : ∃ r, (ptrs z.refs)[j]? = some r := ⟨_, List.getElem?_eq_getElem (by rw [hm]; exact hjl)⟩
 have hmem := List.mem_filter.1 (show r ∈ z.refs.filter _ from List.mem_of_getElem? hr)
 have hto : r.to ≠ 0 := by simpa using hmem.2
 obtain ⟨pre, rest, h1⟩ := List.append_of_mem hmem.1
 have hns := hz.ns
 rw [h1] at hns
 obtain ⟨kp, kl, h2, n1, n2⟩ := hns.split
 cases kl with
 | nil => exact n2.elim
 | cons k kr =>
 have hl : kp.length = pre.length := n1.len
 have hstr := hcp.strip
 have hiz : z.strip.idx ks = some ks := by rw [hstr]; exact hi
 obtain ⟨q, hkq, hq⟩ := idx_right hiz pre r rest kp k kr h1 h2 hl hto
 have hql : q < 300 := by
  have := (List.getElem?_eq_some_iff.1 hq).1
  unfold Ls.namesOf at this
  split at this
  ·simp only [List.length_map] at this; omega
  ·simp only [List.length_map] at this; omega
 obtain ⟨hset, hbs⟩ := copy_set hcp hx.at_ hbV hz hZ h1 h2 hl (k + by_)
 have hb' := thenB hb hbs
 have hxs := hx.next hbs
 have hik : z.strip.idx (kp ++ (k + by_) :: kr) = some ks := by
  rw [idx_chg (k + by_) k h1 hl hto, ← h2]; exact hiz
 have hrk : resE z.strip (kp ++ (k + by_) :: kr) = 0 := res_again (ns := ks) (by rw [hstr]; exact h0) (by rw [hik]; rfl)
 have hne : ks ≠ kp ++ (k + by_) :: kr := by
  rw [h2]
  intro e
  have := List.append_cancel_left e
  injection this with e1 _
  omega
 have q0 := hrow.get encQ_len (r := 0) hr rfl
 simp only [Nat.add_zero] at q0
 have q1 : W.cell? ⟨r.b, r.o + 1, none⟩ = some (.int .i64 k) := n2.1
 have z0 := ((hcp.refs r hmem.1).2.below hbV).free (r.o + 1)
 have HE := Lib.hid (fun (K : Act → World → Prop) => rsv_e12 x z ks (kp ++ (k + by_) :: kr) w _ X Z he hb' hxs hset hrk hik hne hstr)
 have hmod : (at_ : Int).tmod (m : Int) = (j : Int) := by
  rw [← hj]; exact Int.ofNat_tmod at_ m
 have hmz : ¬ (m : Int) = 0 := by omega
 have hmz2 : ¬ m = 0 := by omega
 have hji : (j : Int) < (m : Int) := by omega
 have hwa : IntKind.i64.wrap (at_ : Int) = (at_ : Int) := IntWalk.i64_in _ (by omega)
 have hwb : IntKind.i64.wrap by_ = by_ := IntWalk.i64_in _ (by omega)
 have hwk : IntKind.i64.wrap (k + by_) = k + by_ := IntWalk.i64_in _ (by omega)
 have HH := Lib.hid (And.intro hkq hj)
 clear hkq hj hm hm0 hr hmem hto h1 hns h2 n1 n2 hl hstr hiz hq hql hset hbs hb' hxs hik hrk hne hrow h0 hi hl1 hl2 ha hby hby0 he hb hx hcp hbV hz hZ
 rw [rsstep11]
 refine wp_seq_thenQ (fun K hK => ?_)
 have HK := Lib.hid hK
 clear hK
 conv => arg 2; whnf
 go_wp2_with fail
 refine HK.out _ _ ?_
 exact HE.out (fun _ _ => True) _ _ _ _ _ _ _ _ _ _ _ _ _ _ _ _ _ _ _ _ _ _ _ _ _ _ _ _ _ _ _ _ _ _ _ _ _ _ _ _ _ _ _ _ _ _ _ _ _ _ _ _ _ _ _ _ _ _ _ _ _ _ _ _ _ _ _ _ _ _ _ _ _ _ _ _ _ _ _ _ _ _ _ _ _ _ _ _ _ _ _ _ _ _ _ _ _ _ _ _ _ _ _ _ _
set_option maxRecDepth 100000 in
set_option maxHeartbeats 16000000 in
theorem rsv_e9 (x z : Ls) (ks : List Int) (w Wc V W : World) (X Z at_ : Nat) (by_ : Int) (he : ∀ V, Below w.heap.size w V → Env V) (hb : Below w.heap.size w Wc) (hx : Bx x ks X Wc) (hcp : CpW x ks Wc z V) (hbV : Below V.heap.size V W) (hz : Bx z ks Z W) (hZ : V.heap.size ≤ Z) (hml : (ptrs z.refs).length ≤ 1000000) (h0 : resE x.strip ks = 0) (hi : x.strip.idx ks = some ks) (hl1 : z.roles.length ≤ 300) (hl2 : z.phrases.length ≤ 300) (ha : at_ < 65536) (hby : -128 ≤ by_ ∧ by_ < 128) (e0 e3 e4 e5 e6 e8 e9 e10 e12 e13 e14 e15 e16 e17 e18 e19 e20 e21 e22 e23 e24 e25 e26 e27 e28 e29 e30 e31 e32 e33 e34 e35 e36 e37 e38 e39 e40 e41 e42 e43 e44 e45 e46 e47 e48 e49 e50 e51 e52 e53 e54 e55 e56 e57 e58 e59 e60 e61 e62 e63 e64 e65 e66 e67 e68 e69 e70 e71 e72 e73 e74 e75 e76 e77 e78 e79 e80 e81 e82 e83 e84 e85 e86 e87 e88 e89 e90 e91 e92 e93 e94 e95 e96 e97 e98 e99 e100 e101 e102 e103 e104 e105 e106 : Value) :
  (lastPart 9 code3).wp Try.prog (bodyPost Try.prog Try.f3 (fun e w' => e = .returned (.bool true) ∧ Below w.heap.size w w')) { tmps := #[e0, .int .u16 (at_ : Nat), .int .i8 by_, e3, e4, e5, e6, .pointer (some ⟨X, 0, none⟩), e8, e9, e10, .pointer (some ⟨Z, 0, none⟩), e12, e13, e14, e15, e16, e17, e18, e19, e20, e21, e22, e23, e24, e25, e26, e27, e28, e29, e30, e31, e32, e33, e34, e35, e36, e37, e38, e39, e40, e41, e42, e43, e44, e45, e46, e47, e48, e49, e50, e51, e52, e53, e54, e55, e56, e57, e58, e59, e60, e61, e62, e63, e64, e65, e66, e67, e68, e69, e70, e71, e72, e73, e74, e75, e76, e77, e78, e79, e80, e81, e82, e83, e84, e85, e86, e87, e88, e89, e90, e91, e92, e93, e94, e95, e96, e97, e98, e99, e100, e101, e102, e103, e104, e105, e106], defers := [] } W := by
 have C := pointers_any z Z W hz.box hz.at_ hml
 unfold PtrP at C
 have hC2 : Calls Try.prog 21 #[.pointer (some ⟨Z, 0, none⟩)] W fun e w' => ∃ v, e = .returned v ∧ w'.ownsRow W.heap.size 48 2 v (ptrs z.refs).length ((ptrs z.refs).flatMap encQ) ∧ Below W.heap.size W w' := C
 have HC := Lib.hid hC2
 have HS := Lib.hid (And.intro he (And.intro hb (And.intro hx (And.intro hcp (And.intro hbV (And.intro hz (And.intro hZ (And.intro hml (And.intro h0 (And.intro hi (And.intro hl1 (And.intro hl2 (And.intro ha hby)))))))))))))
 have hby := HS.out.2.2.2.2.2.2.2.2.2.2.2.2.2
 clear C hC2 hb hx hcp hbV hz hZ h0 hi hl1 hl2 ha he hby
 generalize hm : (ptrs z.refs).length = m at *
 have HM := Lib.hid hm
 clear hm
 rw [rsstep9]
 refine wp_seq_thenQ (fun K hK => ?_)
 have HK := Lib.hid hK
 clear hK
 conv => arg 2; whnf
 go_wp2_with (go_at_call 21; refine HC.out.mono ?_; rintro e W5 ⟨v5, rfl, ho5, hb5⟩; obtain ⟨ao5, c5, rfl, hform, _, _, _, _⟩ := own_new (by omega) ho5; have HO := Lib.hid (And.intro ho5 (And.intro hb5 hform)); clear ho5 hb5 hform)
 refine HK.out _ _ ?_
 clear HK K HC
 rw [rsstep10]
 refine wp_seq_thenQ (fun K hK => ?_)
 have HK := Lib.hid hK
 clear hK
 conv => arg 2; whnf
 by_cases hm0 : m = 0
 ·subst hm0
  have hbb := thenB HS.out.2.1 (thenB HS.out.2.2.2.1.below (thenB HS.out.2.2.2.2.1 HO.out.2.1))
  have HBB := Lib.hid hbb
  clear hbb
  go_wp2_with fail
  try simp only [Exit.then]
  go_ret
  exact ⟨rfl, HBB.out⟩
 ·have hmz : ¬ (m : Int) = 0 := by omega
  by_cases hb0 : by_ = 0
  ·subst hb0
   have hbb := thenB HS.out.2.1 (thenB HS.out.2.2.2.1.below (thenB HS.out.2.2.2.2.1 HO.out.2.1))
   have HBB := Lib.hid hbb
   clear hbb
   go_wp2_with fail
   try simp only [Exit.then]
   go_ret
   exact ⟨rfl, HBB.out⟩
  ·have hbe : (by_ == 0) = false := by simpa using hb0
   go_wp2_with fail
   refine HK.out _ _ ?_
   obtain ⟨he, hb, hx, hcp, hbV, hz, hZ, hml, h0, hi, hl1, hl2, ha, hby⟩ := HS.out
   obtain ⟨ho5, hb5, hform⟩ := HO.out
   obtain ⟨ea, _, _⟩ := hform.resolve_left (by omega)
   have hrow := ho5
   rw [ea] at hrow ⊢
   have hrv := own_rowV hrow
   exact rsv_e11 x z ks w Wc V W5 X Z (blk ao5) m c5 at_ by_ he hb hx hcp (hbV.trans (hb5.mono hbV.size)) (hz.next hb5) hZ hrv HM.out (by omega) h0 hi hl1 hl2 ha hby hb0 _ _ _ _ _ _ _ _ _ _ _ _ _ _ _ _ _ _ _ _ _ _ _ _ _ _ _ _ _ _ _ _ _ _ _ _ _ _ _ _ _ _ _ _ _ _ _ _ _ _ _ _ _ _ _ _ _ _ _ _ _ _ _ _ _ _ _ _ _ _ _ _ _ _ _ _ _ _ _ _ _ _ _ _ _ _ _ _ _ _ _ _ _ _ _ _ _ _ _ _ _ _
set_option maxRecDepth 100000 in
set_option maxHeartbeats 16000000 in
theorem rsv_e8 (x : Ls) (ks : List Int) (w W : World) (X at_ : Nat) (by_ : Int) (he : ∀ V, Below w.heap.size w V → Env V) (hb : Below w.heap.size w W) (hx : Bx x ks X W) (hc : x.cpOk) (hml : x.refs.length ≤ 200000) (h0 : resE x.strip ks = 0) (hi : x.strip.idx ks = some ks) (hl1 : x.roles.length ≤ 300) (hl2 : x.phrases.length ≤ 300) (ha : at_ < 65536) (hby : -128 ≤ by_ ∧ by_ < 128) (e0 e3 e4 e5 e6 e8 e9 e10 e11 e12 e13 e14 e15 e16 e17 e18 e19 e20 e21 e22 e23 e24 e25 e26 e27 e28 e29 e30 e31 e32 e33 e34 e35 e36 e37 e38 e39 e40 e41 e42 e43 e44 e45 e46 e47 e48 e49 e50 e51 e52 e53 e54 e55 e56 e57 e58 e59 e60 e61 e62 e63 e64 e65 e66 e67 e68 e69 e70 e71 e72 e73 e74 e75 e76 e77 e78 e79 e80 e81 e82 e83 e84 e85 e86 e87 e88 e89 e90 e91 e92 e93 e94 e95 e96 e97 e98 e99 e100 e101 e102 e103 e104 e105 e106 : Value) :
  (lastPart 8 code3).wp Try.prog (bodyPost Try.prog Try.f3 (fun e w' => e = .returned (.bool true) ∧ Below w.heap.size w w')) { tmps := #[e0, .int .u16 (at_ : Nat), .int .i8 by_, e3, e4, e5, e6, .pointer (some ⟨X, 0, none⟩), e8, e9, e10, e11, e12, e13, e14, e15, e16, e17, e18, e19, e20, e21, e22, e23, e24, e25, e26, e27, e28, e29, e30, e31, e32, e33, e34, e35, e36, e37, e38, e39, e40, e41, e42, e43, e44, e45, e46, e47, e48, e49, e50, e51, e52, e53, e54, e55, e56, e57, e58, e59, e60, e61, e62, e63, e64, e65, e66, e67, e68, e69, e70, e71, e72, e73, e74, e75, e76, e77, e78, e79, e80, e81, e82, e83, e84, e85, e86, e87, e88, e89, e90, e91, e92, e93, e94, e95, e96, e97, e98, e99, e100, e101, e102, e103, e104, e105, e106], defers := [] } W := by
 have C := copied_any x ks W hx.at_ hx.ns hc
 have HC := Lib.hid C; have HL := Lib.hid hx.box
 have HS := Lib.hid (And.intro he (And.intro hb (And.intro hx (And.intro hc (And.intro hml (And.intro h0 (And.intro hi (And.intro hl1 (And.intro hl2 (And.intro ha hby))))))))))
 clear C hb hx hc h0 hi hl1 hl2 ha he hby hml
 unfold Ls.val at HC
 rw [rsstep8]
 refine wp_seq_thenQ (fun K hK => ?_)
 have HK := Lib.hid hK
 clear hK
 conv => arg 2; whnf
 go_wp2_with (refine wpList_load_row rfl 30 _ rfl X rfl 30 x.cells (0, 0) _ HL.out Try.underlying30 rfl (by kernel_rfl) ?_; simp only [Act.put, List.setIfInBounds_toArray, List.set_cons_zero, List.set_cons_succ])
 refine HC.out.mono ?_
 intro e V hv
 obtain ⟨z, rfl, hcp⟩ := CpW.of hv
 unfold Ls.val
 obtain ⟨W4, hW4, hX4, hb4⟩ : ∃ W4, V.alloc (.cells z.cells 30) = W4 ∧ W4.heap[V.heap.size]? = some (.cells z.cells 30 (0, 0)) ∧ Below V.heap.size V W4 := ⟨_, rfl, heap_alloc_new V _, (Below.refl _ _).alloc (Nat.le_refl _) _⟩
 have HX4 := Lib.hid hX4; have HB4 := Lib.hid hb4
 unfold Ls.cells at hW4 ⊢
 have HW4 := Lib.hid hW4
 dsimp only
 have HCP := Lib.hid hcp
 clear HC HL hv hcp hX4 hb4 hW4
 go_wp2_with fail
 have e5 := HW4.out
 simp only [sv] at e5 ⊢
 refine HK.out _ _ ?_
 rw [e5]
 clear HK K e5 HW4
 obtain ⟨he, hb, hx, hc, hml, h0, hi, hl1, hl2, ha, hby⟩ := HS.out
 have hcp := HCP.out
 have er : z.roles = x.roles := by
  have : z.strip.roles = x.strip.roles := by rw [hcp.strip]
  exact this
 have ep : z.phrases.length = x.phrases.length := by
  have : z.strip.phrases.length = x.strip.phrases.length := by rw [hcp.strip]
  simpa [Ls.strip] using this
 have em : (ptrs z.refs).length ≤ 1000000 := by
  have h1 := ptrs_le z.refs
  have h2 := Ls.refs_same (x := z) (y := x) (by rw [hcp.strip])
  omega
 exact rsv_e9 x z ks w W V W4 X V.heap.size at_ by_ he hb hx hcp HB4.out ⟨HX4.out, hcp.at_.below HB4.out, hcp.ns.below HB4.out⟩ (Nat.le_refl _) em h0 hi (by rw [er]; exact hl1) (by rw [ep]; exact hl2) ha hby _ _ _ _ _ _ _ _ _ _ _ _ _ _ _ _ _ _ _ _ _ _ _ _ _ _ _ _ _ _ _ _ _ _ _ _ _ _ _ _ _ _ _ _ _ _ _ _ _ _ _ _ _ _ _ _ _ _ _ _ _ _ _ _ _ _ _ _ _ _ _ _ _ _ _ _ _ _ _ _ _ _ _ _ _ _ _ _ _ _ _ _ _ _ _ _ _ _ _ _ _ _ _
end Go.Proofs.Ytpnbpepkoekkoaa
end
