/- The walk of the statement: part 4. -/
import Derived.Test.YtpnbpepkoekkoaaYX9p1
import Derived.Test.YtpnbpepkoekkoaaYX9p3
import Derived.StillTailTactics
set_option linter.unusedVariables false
set_option linter.unusedSimpArgs false
section
namespace Go.Proofs.Ytpnbpepkoekkoaa
open Go Go.RowKit Go.Deep
theorem region_tail {P : Program} (S : World → Prop) {id : Nat} {Q : Exit → Act → World → Prop} {a : Act} {w : World} {l : List Oper} (n : Nat) (hm : P.follows .mixedOrders = true) (hB : Region.lexTailB .any l.toArray n = true) (hS : S w.drew)
  (h : ∀ w2, S w2 → wpStill P l.toArray w2 (fun a' => wpList P l.toArray Q (l.drop n) a' w2) (l.take n) a) : (Code.region id l.toArray true).wp P Q a w :=
 wp_region_still_tail n hm hB (h _ hS)
structure TurnR (rs row : List Rol) (i : Nat) : Prop where
 len : row.length = rs.length
 get : ∀ j, j < rs.length → row[j]? = if rs.length ≤ j + i then rs[rs.length - 1 - j]? else rs[j]?
theorem TurnR.zero (rs : List Rol) : TurnR rs rs 0 := ⟨rfl, fun j hj => by rw [if_neg (by omega)]⟩
theorem TurnR.next {rs row : List Rol} {i k : Nat} {p : Rol} (h : TurnR rs row i) (hp : rs[i]? = some p) (hk : rs.length = k + 1 + i) : TurnR rs (row.set k p) (i + 1) := by
 refine ⟨by rw [List.length_set]; exact h.len, fun j hj => ?_⟩
 rw [List.getElem?_set]
 by_cases e : k = j
 ·subst e
  rw [if_pos rfl, if_pos (by rw [h.len]; exact hj), if_pos (by omega), show rs.length - 1 - k = i by omega, hp]
 ·rw [if_neg e, h.get j hj]
  by_cases h1 : rs.length ≤ j + i
  ·rw [if_pos h1, if_pos (by omega)]
  ·rw [if_neg h1, if_neg (by omega)]
theorem TurnR.done {rs row : List Rol} (h : TurnR rs row rs.length) : row = rs.reverse := by
 refine List.ext_getElem? fun j => ?_
 by_cases hj : j < rs.length
 ·rw [h.get j hj, if_pos (by omega), List.getElem?_reverse hj]
 ·rw [List.getElem?_eq_none (by rw [h.len]; omega), List.getElem?_eq_none (by rw [List.length_reverse]; omega)]
noncomputable def code5 : Code := (Try.f5.body).getD .skip
noncomputable def elem5n0 : Code := match lastPart 0 code5 with
 | .seq a _ => a
 | c => c
noncomputable def elem5n1 : Code := match lastPart 1 code5 with
 | .seq a _ => a
 | c => c
noncomputable def elem5n2 : Code := match lastPart 2 code5 with
 | .seq a _ => a
 | c => c
noncomputable def elem5n3 : Code := match lastPart 3 code5 with
 | .seq a _ => a
 | c => c
noncomputable def elem5n4 : Code := match lastPart 4 code5 with
 | .seq a _ => a
 | c => c
noncomputable def elem5n5 : Code := match lastPart 5 code5 with
 | .seq a _ => a
 | c => c
noncomputable def elem5n6 : Code := match lastPart 6 code5 with
 | .seq a _ => a
 | c => c
noncomputable def elem5n7 : Code := match lastPart 7 code5 with
 | .seq a _ => a
 | c => c
noncomputable def elem5n8 : Code := match lastPart 8 code5 with
 | .seq a _ => a
 | c => c
noncomputable def elem5n9 : Code := match lastPart 9 code5 with
 | .seq a _ => a
 | c => c
noncomputable def elem5n10 : Code := match lastPart 10 code5 with
 | .seq a _ => a
 | c => c
set_option maxRecDepth 100000 in
set_option maxHeartbeats 16000000 in
theorem ord_e4 (A T g n cs ct sz : Nat) (ra : Option Addr) (rs : List Rol) (W : World) (hA : W.cell? ⟨A, 6, none⟩ = some (.slice ra n cs)) (hT : W.cell? ⟨T, 6, none⟩ = some (.slice (some ⟨g, 0, none⟩) n ct)) (hR : IsRow encR 4 W (.slice ra n cs) rs) (hn : rs.length = n) (hn2 : n ≤ 1000) (hrow : RowV encR W g rs) (hsh : Shape W g 59 sz) (hgA : A ≠ g) (hgT : T ≠ g) (hgb : 0 < n → ∀ b o, ra = some ⟨b, o, none⟩ → b ≠ g) (e0 e2 e4 e5 e6 e7 e8 e9 e10 e11 e12 e13 e14 e15 e16 e17 e18 e19 e20 e21 e22 e23 e24 e25 e26 e27 e28 e29 e30 e31 e32 e33 e34 e35 e36 e37 e38 e39 e40 e41 e42 e43 e44 e45 e46 e47 e48 e49 e50 e51 e52 e53 e54 e55 e56 e57 e58 e59 e60 e61 e62 e63 e64 e65 e66 e67 e68 e69 e70 e71 e72 e73 e74 e75 e76 e77 e78 e79 e80 e81 e82 e83 e84 e85 e86 e87 e88 e89 e90 e91 : Value) (K : Act → World → Prop)
  (hK : ∀ W', RowV encR W' g rs.reverse → Shape W' g 59 sz → ButOne g W W' → ∀ (f4 f19 f20 f21 f22 f23 f24 f25 f26 f27 f28 f29 f30 f31 f32 f33 f34 f35 f36 f37 f38 f39 : Value), K { tmps := #[e0, .pointer (some ⟨A, 0, none⟩), e2, .pointer (some ⟨T, 0, none⟩), f4, e5, e6, e7, e8, e9, e10, e11, e12, e13, e14, e15, e16, e17, e18, f19, f20, f21, f22, f23, f24, f25, f26, f27, f28, f29, f30, f31, f32, f33, f34, f35, f36, f37, f38, f39, e40, e41, e42, e43, e44, e45, e46, e47, e48, e49, e50, e51, e52, e53, e54, e55, e56, e57, e58, e59, e60, e61, e62, e63, e64, e65, e66, e67, e68, e69, e70, e71, e72, e73, e74, e75, e76, e77, e78, e79, e80, e81, e82, e83, e84, e85, e86, e87, e88, e89, e90, e91], defers := [] } W') :
  elem5n4.wp Try.prog (Exit.then K (fun _ _ _ => False)) { tmps := #[e0, .pointer (some ⟨A, 0, none⟩), e2, .pointer (some ⟨T, 0, none⟩), e4, e5, e6, e7, e8, e9, e10, e11, e12, e13, e14, e15, e16, e17, e18, e19, e20, e21, e22, e23, e24, e25, e26, e27, e28, e29, e30, e31, e32, e33, e34, e35, e36, e37, e38, e39, e40, e41, e42, e43, e44, e45, e46, e47, e48, e49, e50, e51, e52, e53, e54, e55, e56, e57, e58, e59, e60, e61, e62, e63, e64, e65, e66, e67, e68, e69, e70, e71, e72, e73, e74, e75, e76, e77, e78, e79, e80, e81, e82, e83, e84, e85, e86, e87, e88, e89, e90, e91], defers := [] } W := by
 have HA := Lib.hid hA; have HT := Lib.hid hT; have HR := Lib.hid hR; have HN := Lib.hid hn; have HRW := Lib.hid hrow; have HSH := Lib.hid hsh; have HGB := Lib.hid hgb; have HK0 := Lib.hid hK
 clear hT hR hn hrow hsh hgb hK
 unfold elem5n4 code5
 conv => arg 2; whnf
 go_wp2_with fail
 clear hA
 go_loopw [22] (fun iv wr => ∃ (i : Nat) (row : List Rol), iv = .int .i64 i ∧ i ≤ n ∧ Hid (TurnR rs row i) ∧ Hid (RowV encR wr g row) ∧ Hid (Shape wr g 59 sz) ∧ Hid (ButOne g W wr)) (fun iv _ => n + 1 - (intOf iv).toNat)
 case atStart => exact ⟨0, rs, rfl, Nat.zero_le _, Lib.hid (TurnR.zero rs), HRW, HSH, Lib.hid (ButOne.refl g W)⟩
 case round =>
  obtain ⟨i, row, rfl, hin, hTR, hRW, hSH, hB⟩ := hrel
  by_cases hlt : i < n
  ·have hji : (i : Int) < (n : Int) := by omega
   obtain ⟨p, hp⟩ : ∃ p, rs[i]? = some p := ⟨_, List.getElem?_eq_getElem (by rw [HN.out]; exact hlt)⟩
   obtain ⟨k, hk⟩ : ∃ k, n = k + 1 + i := ⟨n - 1 - i, by omega⟩
   obtain ⟨q, hq⟩ : ∃ q, row[k]? = some q := ⟨_, List.getElem?_eq_getElem (by rw [hTR.out.len, HN.out]; omega)⟩
   obtain ⟨b, o, ea, hat, hlb⟩ := HR.out.block hp
   have hbg := HGB.out (by omega) b o ea
   have cA := hB.out.cell HA.out hgA
   have cT := hB.out.cell HT.out hgT
   obtain ⟨f0, f1, f2, f3⟩ := at_roles hat hp
   have f0 := hB.out.cell f0 hbg
   have f1 := hB.out.cell f1 hbg
   have f2 := hB.out.cell f2 hbg
   have f3 := hB.out.cell f3 hbg
   rw [ea] at cA
   have d0 := hRW.out.get encR_len (r := 0) hq rfl
   have d1 := hRW.out.get encR_len (r := 1) hq rfl
   have d2 := hRW.out.get encR_len (r := 2) hq rfl
   have d3 := hRW.out.get encR_len (r := 3) hq rfl
   simp only [Nat.add_zero] at d0
   have z0 := hSH.out.free.free
   have hrow2 := putRol_row (W := wr.drew) (p := p) hRW.out (show k < row.length by rw [hTR.out.len, HN.out]; omega)
   have hsh2 := putRol_shape (W := wr.drew) (i := k) (p := p) hSH.out
   have hb2 : ButOne g W (putRol wr.drew g k p) := hB.out.trans ((ButOne.of_below (Below.refl _ _).drew).trans (putRol_but wr.drew g k p))
   have htr := hTR.out.next hp (by rw [HN.out]; exact hk)
   have HNX := Lib.hid (And.intro htr (And.intro hrow2 (And.intro hsh2 hb2)))
   have hwa : IntKind.i64.wrap ((n : Int) - 1) = ((k + i : Nat) : Int) := by rw [IntWalk.i64_in _ (by omega)]; omega
   have hwb : IntKind.i64.wrap (((k + i : Nat) : Int) - (i : Int)) = ((k : Nat) : Int) := by rw [IntWalk.i64_in _ (by omega)]; omega
   have hwc : IntKind.i64.wrap ((k : Nat) : Int) = ((k : Nat) : Int) := IntWalk.i64_in _ (by omega)
   have hkn : ((k : Nat) : Int) < (n : Int) := by omega
   clear hTR hRW hSH hB hp hq ea hat hlb hrow2 hsh2 hb2 htr hk
   go_wp2_with fail
   refine region_tail (fun w2 => w2 = wr.drew) 14 (by kernel_rfl) (by kernel_rfl) rfl ?_
   intro w2 hS
   subst hS
   simp only [List.take_succ_cons, List.take_zero, List.drop_succ_cons, List.drop_zero]
   repeat still_step
   refine wpStill_nil ?_
   go_wp2_with fail
   go_roundw
   case rel => exact ⟨i + 1, _, by go_num, by omega, Lib.hid HNX.out.1, Lib.hid HNX.out.2.1, Lib.hid HNX.out.2.2.1, Lib.hid HNX.out.2.2.2⟩
   case measure => simp [intOf]; omega
  ·obtain rfl : i = n := by omega
   have hz : ¬ (i : Int) < (i : Int) := by omega
   have hrv : row = rs.reverse := by have := hTR.out; rw [← HN.out] at this; exact this.done
   subst hrv
   go_wp2_with fail
   exact HK0.out _ hRW.out hSH.out hB.out _ _ _ _ _ _ _ _ _ _ _ _ _ _ _ _ _ _ _ _ _ _
end Go.Proofs.Ytpnbpepkoekkoaa
end
section
namespace Go.Proofs.Ytpnbpepkoekkoaa
open Go Go.RowKit Go.Deep
def chgN (f : RefL → Int → Int) : List RefL → List Int → List Int
 | r :: rs, k :: ks => f r k :: chgN f rs ks
 | _, _ => []
theorem chgN_append {f : RefL → Int → Int} : ∀ {a b : List RefL} {ks ls : List Int}, ks.length = a.length → chgN f (a ++ b) (ks ++ ls) = chgN f a ks ++ chgN f b ls
 | [], _, [], _, _ => rfl
 | _ :: a, b, _ :: ks, ls, h => by
  simp only [List.cons_append, chgN]
  rw [chgN_append (by simpa using h)]
theorem chgN_len {f : RefL → Int → Int} : ∀ {a : List RefL} {ks : List Int}, ks.length = a.length → (chgN f a ks).length = a.length
 | [], [], _ => rfl
 | _ :: a, _ :: ks, h => by simp only [chgN, List.length_cons]; rw [chgN_len (by simpa using h)]
theorem chgN_id {f : RefL → Int → Int} : ∀ {a : List RefL} {ks : List Int}, ks.length = a.length → (∀ r ∈ a, ∀ k, f r k = k) → chgN f a ks = ks
 | [], [], _, _ => rfl
 | r :: a, k :: ks, h, hf => by simp only [chgN]; rw [hf r (by simp), chgN_id (by simpa using h) fun r hr => hf r (by simp [hr])]
theorem NsAt.cut {w : World} {xs ys : List RefL} {ks ls : List Int} (h : NsAt w (xs ++ ys) (ks ++ ls)) (hl : ks.length = xs.length) : NsAt w xs ks ∧ NsAt w ys ls := by
 obtain ⟨a, b, e, h1, h2⟩ := h.split
 obtain ⟨rfl, rfl⟩ := List.append_inj e (by rw [hl, h1.len])
 exact ⟨h1, h2⟩
structure ChgW (f : RefL → Int → Int) (Wb : World) (Z B0 : Nat) (z : Ls) (ks : List Int) (v : Value) (i : Nat) (W : World) : Prop where
 below : Below Wb.heap.size Wb W
 ph : phAt W (blk z.fa) (off z.fa) z.phrases
 da : danAt W (blk z.da) (off z.da) z.dances
 box : W.heap[Z]? = some (.cells z.cells 30 (0, 0))
 free : ∀ r ∈ z.refs, FreeB W r.b
 row : W.ownsRow B0 48 2 v (ptrs z.refs).length ((ptrs z.refs).flatMap encQ)
 ns : ∃ pre rest kp kr, z.refs = pre ++ rest ∧ ptrs rest = (ptrs z.refs).drop i ∧ ks = kp ++ kr ∧ kp.length = pre.length ∧ NsAt W z.refs (chgN f pre kp ++ kr)
structure ChgB (f : RefL → Int → Int) (Wb : World) (Z B0 : Nat) (z : Ls) : Prop where
 sep : z.Sep
 ge : ∀ r ∈ z.refs, Wb.heap.size ≤ r.b ∧ r.b ≠ Z ∧ r.b < B0
 id : ∀ r k, r.to = 0 → f r k = k
variable {f : RefL → Int → Int} {Wb : World} {Z B0 : Nat} {z : Ls} {ks : List Int} {v : Value} {i : Nat} {W : World}
theorem ChgW.alloc (h : ChgW f Wb Z B0 z ks v i W) {W' : World} (hb : Below W.heap.size W W') : ChgW f Wb Z B0 z ks v i W' := by
 obtain ⟨pre, rest, kp, kr, h1, h2, h3, h4, h5⟩ := h.ns
 exact ⟨h.below.trans (hb.mono h.below.size), phAt_below hb h.ph, danAt_below hb h.da, keepO hb h.box, fun r hr => (h.free r hr).below hb, own_below h.row hb, pre, rest, kp, kr, h1, h2, h3, h4, h5.below hb⟩
theorem ChgW.at_ (hB : ChgB f Wb Z B0 z) (h : ChgW f Wb Z B0 z ks v i W) {r : RefL} (hr : (ptrs z.refs)[i]? = some r) :
  r.to ≠ 0 ∧ ∃ pre rest kp k kr, z.refs = pre ++ r :: rest ∧ ptrs rest = (ptrs z.refs).drop (i + 1) ∧ ks = kp ++ k :: kr ∧ kp.length = pre.length ∧ NsAt W z.refs (chgN f pre kp ++ k :: kr) := by
 obtain ⟨pre, rest, kp, kr, h1, h2, h3, h4, h5⟩ := h.ns
 rw [drop_at hr] at h2
 unfold ptrs at h2
 obtain ⟨zs, rest', rfl, hz, hp, hd⟩ := List.filter_eq_cons_iff.1 h2
 rw [h1] at h5
 obtain ⟨_, h7⟩ := h5.cut (chgN_len h4)
 obtain ⟨kz, kr', rfl, h8, h9⟩ := h7.split
 cases kr' with
 | nil => exact h9.elim
 | cons k kr' =>
 have hzl := h8.len
 refine ⟨by simpa using hp, pre ++ zs, rest', kp ++ kz, k, kr', by rw [h1]; simp, ?_, by rw [h3]; simp, by simp [h4, hzl], ?_⟩
 ·unfold ptrs; rw [hd]
 ·rw [chgN_append h4, chgN_id (f := f) hzl fun r hr k => hB.id r k (by simpa using hz r hr), h1, List.append_assoc]
  exact h5
theorem ChgW.cell (hB : ChgB f Wb Z B0 z) (h : ChgW f Wb Z B0 z ks v i W) {r : RefL} (hr : (ptrs z.refs)[i]? = some r) :
  ∃ pre rest kp k kr, z.refs = pre ++ r :: rest ∧ ks = kp ++ k :: kr ∧ kp.length = pre.length ∧ W.cell? ⟨r.b, r.o + 1, none⟩ = some (.int .i64 k) ∧
   (f r k = k → ChgW f Wb Z B0 z ks v (i + 1) W) ∧ ChgW f Wb Z B0 z ks v (i + 1) (W.setCell ⟨r.b, r.o + 1, none⟩ (.int .i64 (f r k))) := by
 obtain ⟨_, pre, rest, kp, k, kr, h1, h2, h3, h4, h5⟩ := h.at_ hB hr
 have h6 := h5
 rw [h1] at h6
 obtain ⟨h7, h8⟩ := h6.cut (chgN_len h4)
 have hm : r ∈ z.refs := by rw [h1]; simp
 obtain ⟨g1, g2, g3⟩ := hB.ge r hm
 have hk1 : (kp ++ [k]).length = (pre ++ [r]).length := by simp [h4]
 have hc : ∀ x : Int, x = f r k → chgN f (pre ++ [r]) (kp ++ [k]) ++ kr = chgN f pre kp ++ x :: kr := fun x hx => by
  rw [chgN_append h4, hx]; simp [chgN]
 refine ⟨pre, rest, kp, k, kr, h1, h3, h4, h8.1, fun hid => ⟨h.below, h.ph, h.da, h.box, h.free, h.row, pre ++ [r], rest, kp ++ [k], kr, by rw [h1]; simp, h2, by rw [h3]; simp, hk1, by rw [hc k hid.symm]; exact h5⟩, ?_⟩
 obtain ⟨s1, s2⟩ := hB.sep.set (v := .int .i64 (f r k)) hm h.ph h.da
 refine ⟨h.below.setCell (p := ⟨r.b, r.o + 1, none⟩) g1 _, s1, s2, (Below.heap_setCell _ _ _ _ (fun e => g2 e.symm)).trans h.box, fun x hx => (h.free x hx).set _ _, own_same h.row (fun g hg => Below.heap_setCell _ _ _ _ (fun e => ?_)), pre ++ [r], rest, kp ++ [k], kr, by rw [h1]; simp, h2, by rw [h3]; simp, hk1, ?_⟩
 ·have := (own_lt h.row hg).1
  have e2 : g = r.b := e
  omega
 ·rw [hc _ rfl, h1]
  have hap : PlacesApart (pre ++ r :: rest) := by rw [← h1]; exact hB.sep.apart
  obtain ⟨n1, n2⟩ := NsAt.set (n := f r k) hap h7 h8
  exact n1.append n2
end Go.Proofs.Ytpnbpepkoekkoaa
end
section
namespace Go.Proofs.Ytpnbpepkoekkoaa
open Go Go.RowKit Go.Deep
theorem ChgW.done {f : RefL → Int → Int} {Wb : World} {Z B0 : Nat} {z : Ls} {ks : List Int} {v : Value} {W : World} (hB : ChgB f Wb Z B0 z) (h : ChgW f Wb Z B0 z ks v (ptrs z.refs).length W) : NsAt W z.refs (chgN f z.refs ks) := by
 obtain ⟨pre, rest, kp, kr, h1, h2, h3, h4, h5⟩ := h.ns
 rw [List.drop_of_length_le (Nat.le_refl _)] at h2
 have hz : ∀ r ∈ rest, r.to = 0 := fun r hr => by
  have := (List.filter_eq_nil_iff.1 h2) r hr
  simpa using this
 have h6 := h5
 rw [h1] at h6
 obtain ⟨_, h7⟩ := h6.cut (chgN_len h4)
 have e : chgN f z.refs ks = chgN f pre kp ++ kr := by
  rw [h3, h1, chgN_append h4, chgN_id (f := f) h7.len fun r hr k => hB.id r k (hz r hr)]
 rw [e]; exact h5
theorem ChgW.first {f : RefL → Int → Int} {Wb : World} {Z B0 : Nat} {z : Ls} {ks : List Int} {v : Value} {W : World} (hb : Below Wb.heap.size Wb W) (hA : z.At W) (hZ : W.heap[Z]? = some (.cells z.cells 30 (0, 0))) (hF : ∀ r ∈ z.refs, FreeB W r.b) (hr : W.ownsRow B0 48 2 v (ptrs z.refs).length ((ptrs z.refs).flatMap encQ)) (hN : NsAt W z.refs ks) : ChgW f Wb Z B0 z ks v 0 W :=
 ⟨hb, hA.phrases, hA.dances, hZ, hF, hr, [], z.refs, [], ks, rfl, rfl, rfl, rfl, hN⟩
def flipR (n : Nat) (r : RefL) (k : Int) : Int := if r.to = 0 ∨ r.to = 2 then k else (n : Int) - 1 - k
set_option maxRecDepth 100000 in
set_option maxHeartbeats 16000000 in
theorem ord_e10 (A Z n cs : Nat) (ra : Option Addr) (z : Ls) (ks : List Int) (Wb W : World) (hA : W.cell? ⟨A, 6, none⟩ = some (.slice ra n cs)) (hAb : A < Wb.heap.size) (hb : Below Wb.heap.size Wb W) (hZ : W.heap[Z]? = some (.cells z.cells 30 (0, 0))) (hz : z.At W) (hN : NsAt W z.refs ks) (hsep : z.Sep) (hrefs : ∀ r ∈ z.refs, Wb.heap.size ≤ r.b ∧ r.b ≠ Z ∧ FreeB W r.b) (hR : IsRow encR 4 Wb (.slice z.ra z.roles.length z.rc) z.roles ∧ IsRow encT 3 Wb (.slice z.ta z.tempos.length z.tc) z.tempos ∧ IsRow encP 4 Wb (.slice z.ua z.pauses.length z.uc) z.pauses ∧ IsRow encC 4 Wb (.slice z.sa z.spans.length z.sc) z.spans) (hlen : (ptrs z.refs).length ≤ 1000000) (hn : n ≤ 1000)
  (hk : ∀ (pre : List RefL) (r : RefL) (rest : List RefL) (kp : List Int) (k : Int) (kr : List Int), z.refs = pre ++ r :: rest → ks = kp ++ k :: kr → kp.length = pre.length → ¬ (r.to = 0 ∨ r.to = 2) → 0 ≤ k ∧ k < n) (e0 e2 e3 e4 e5 e6 e7 e8 e10 e11 e12 e13 e14 e15 e16 e17 e18 e19 e20 e21 e22 e23 e24 e25 e26 e27 e28 e29 e30 e31 e32 e33 e34 e35 e36 e37 e38 e39 e40 e41 e42 e43 e44 e45 e46 e47 e48 e49 e50 e51 e52 e53 e54 e55 e56 e57 e58 e59 e60 e61 e62 e63 e64 e65 e66 e67 e68 e69 e70 e71 e72 e73 e74 e75 e76 e77 e78 e79 e80 e81 e82 e83 e84 e85 e86 e87 e88 e89 e90 e91 : Value) (K : Act → World → Prop)
  (hK : ∀ W', NsAt W' z.refs (chgN (flipR n) z.refs ks) → z.At W' → W'.heap[Z]? = some (.cells z.cells 30 (0, 0)) → Below Wb.heap.size Wb W' → ∀ (f11 f65 f66 f67 f68 f69 f70 f71 f72 f73 f74 f75 f76 f77 f78 f79 f80 f81 f82 f83 f84 f85 f86 f87 f88 : Value), K { tmps := #[e0, .pointer (some ⟨A, 0, none⟩), e2, e3, e4, e5, e6, e7, e8, .pointer (some ⟨Z, 0, none⟩), e10, f11, e12, e13, e14, e15, e16, e17, e18, e19, e20, e21, e22, e23, e24, e25, e26, e27, e28, e29, e30, e31, e32, e33, e34, e35, e36, e37, e38, e39, e40, e41, e42, e43, e44, e45, e46, e47, e48, e49, e50, e51, e52, e53, e54, e55, e56, e57, e58, e59, e60, e61, e62, e63, e64, f65, f66, f67, f68, f69, f70, f71, f72, f73, f74, f75, f76, f77, f78, f79, f80, f81, f82, f83, f84, f85, f86, f87, f88, e89, e90, e91], defers := [] } W') :
  elem5n10.wp Try.prog (Exit.then K (fun _ _ _ => False)) { tmps := #[e0, .pointer (some ⟨A, 0, none⟩), e2, e3, e4, e5, e6, e7, e8, .pointer (some ⟨Z, 0, none⟩), e10, e11, e12, e13, e14, e15, e16, e17, e18, e19, e20, e21, e22, e23, e24, e25, e26, e27, e28, e29, e30, e31, e32, e33, e34, e35, e36, e37, e38, e39, e40, e41, e42, e43, e44, e45, e46, e47, e48, e49, e50, e51, e52, e53, e54, e55, e56, e57, e58, e59, e60, e61, e62, e63, e64, e65, e66, e67, e68, e69, e70, e71, e72, e73, e74, e75, e76, e77, e78, e79, e80, e81, e82, e83, e84, e85, e86, e87, e88, e89, e90, e91], defers := [] } W := by
 have HR := Lib.hid hR
 have C := pointers_any z Z W hZ hz hlen
 unfold PtrP at C
 have hC2 : Calls Try.prog 21 #[.pointer (some ⟨Z, 0, none⟩)] W fun e w' => ∃ v, e = .returned v ∧ w'.ownsRow W.heap.size 48 2 v (ptrs z.refs).length ((ptrs z.refs).flatMap encQ) ∧ Below W.heap.size W w' := C
 have hcB : ChgB (flipR n) Wb Z W.heap.size z := ⟨hsep, fun r hr => ⟨(hrefs r hr).1, (hrefs r hr).2.1, (hrefs r hr).2.2.lt⟩, fun r k h => by unfold flipR; rw [if_pos (Or.inl h)]⟩
 have hA0 : Wb.cell? ⟨A, 6, none⟩ = some (.slice ra n cs) := (hb.cell (p := ⟨A, 6, none⟩) hAb).symm.trans hA
 have hW0 : ∀ v w', w'.ownsRow W.heap.size 48 2 v (ptrs z.refs).length ((ptrs z.refs).flatMap encQ) → Below W.heap.size W w' → ChgW (flipR n) Wb Z W.heap.size z ks v 0 w' := fun v w' hr hb2 => ChgW.first (hb.trans (hb2.mono hb.size)) (hz.below hb2) (keepO hb2 hZ) (fun r hm => (hrefs r hm).2.2.below hb2) hr (hN.below hb2)
 have hzb : ∀ W' : World, Below Wb.heap.size Wb W' → phAt W' (blk z.fa) (off z.fa) z.phrases → danAt W' (blk z.da) (off z.da) z.dances → z.At W' := fun W' hb2 h1 h2 => ⟨HR.out.1.below hb2 (Nat.le_refl _), HR.out.2.1.below hb2 (Nat.le_refl _), HR.out.2.2.1.below hb2 (Nat.le_refl _), HR.out.2.2.2.below hb2 (Nat.le_refl _), hz.pform, hz.plen, h1, hz.dform, hz.dlen, h2⟩
 have HC := Lib.hid hC2; have HCB := Lib.hid hcB; have HA0 := Lib.hid hA0; have HW0 := Lib.hid hW0; have HK0 := Lib.hid hK; have HKR := Lib.hid hk; have HZB := Lib.hid hzb
 clear hR C hC2 hcB hA0 hW0 hK hk hzb hz hN hsep hrefs hZ hb hA
 generalize hm : (ptrs z.refs).length = m at *
 have HM := Lib.hid hm
 clear hm
 generalize W.heap.size = B0 at *
 unfold elem5n10 code5
 conv => arg 2; whnf
 go_wp2_with (go_at_call 21; refine HC.out.mono ?_; rintro e w5 ⟨v5, rfl, ho5, hb5⟩; obtain ⟨ao5, c5, rfl, hform, _, _, _, _⟩ := own_new (by omega) ho5; have HCW := Lib.hid (HW0.out _ _ ho5 hb5); have HF := Lib.hid hform; clear ho5 hb5 hform)
 go_loopw [67] (fun iv wr => ∃ i : Nat, iv = .int .i64 i ∧ i ≤ m ∧ Hid (ChgW (flipR n) Wb Z B0 z ks (.slice ao5 m c5) i wr)) (fun iv _ => m + 1 - (intOf iv).toNat)
 case atStart => exact ⟨0, rfl, Nat.zero_le _, HCW⟩
 case round =>
  obtain ⟨i, rfl, hin, hW⟩ := hrel
  by_cases hlt : i < m
  ·have hji : (i : Int) < (m : Int) := by omega
   obtain ⟨r, hr⟩ : ∃ r, (ptrs z.refs)[i]? = some r := ⟨_, List.getElem?_eq_getElem (by rw [HM.out]; exact hlt)⟩
   obtain ⟨ea, _, _⟩ := HF.out.resolve_left (by omega)
   have hrow := hW.out.row
   rw [ea, HM.out] at hrow
   have hrv := own_rowV hrow
   have q0 := hrv.get encQ_len (r := 0) hr rfl
   have q1 := hrv.get encQ_len (r := 1) hr rfl
   simp only [Nat.add_zero] at q0
   have hm : r ∈ z.refs := (List.mem_filter.1 (show r ∈ z.refs.filter _ from List.mem_of_getElem? hr)).1
   have cA := (hW.out.below.cell (p := ⟨A, 6, none⟩) hAb).trans HA0.out
   by_cases hp : r.to = 2
   ·have hdt : decide (r.to = 2) = true := decide_eq_true hp
    rw [hdt] at q1
    obtain ⟨W1, hW1, gW1, bW1, sW1⟩ := mk_cells wr #[.pointer (some ⟨r.b, r.o, none⟩), .bool true] 48
    have hC1 := hW.out.alloc bW1
    obtain ⟨_, _, _, k1, _, _, _, _, _, hsame, _⟩ := hC1.cell HCB.out hr
    have HS1 := Lib.hid (hsame (by unfold flipR; rw [if_pos (Or.inr hp)]))
    have b1 : (wr.alloc (.cells #[.pointer (some ⟨r.b, r.o, none⟩), .bool true] 48)).cell? ⟨wr.heap.size, 1, none⟩ = some (.bool true) := by rw [hW1]; exact cell_at gW1 1 rfl
    have HW1 := Lib.hid hW1
    have HEA := Lib.hid ea
    clear hW hr hrow hrv hm cA gW1 bW1 sW1 hC1 hsame hW1 ea hdt hp
    rw [HEA.out]
    go_wp2_with fail
    rw [HW1.out]
    go_roundw
    case rel => exact ⟨i + 1, by go_num, by omega, by rw [← HEA.out]; exact HS1⟩
    case measure => simp [intOf]; omega
   ·have hdt : decide (r.to = 2) = false := decide_eq_false hp
    rw [hdt] at q1
    obtain ⟨W1, hW1, gW1, bW1, sW1⟩ := mk_cells wr #[.pointer (some ⟨r.b, r.o, none⟩), .bool false] 48
    have hbd : Below wr.heap.size wr W1.drew := bW1.drew
    have hC1 := hW.out.alloc hbd
    have hto := (hC1.at_ HCB.out hr).1
    obtain ⟨pre, rest, kp, k, kr, h1, h3, h4, hc, _, hset⟩ := hC1.cell HCB.out hr
    have hkr := HKR.out pre r rest kp k kr h1 h3 h4 (by omega)
    rw [show flipR n r k = (n : Int) - 1 - k by unfold flipR; rw [if_neg (by omega)]] at hset
    have HS1 := Lib.hid hset
    have z0 := (hC1.free r hm).free
    have b0 : (wr.alloc (.cells #[.pointer (some ⟨r.b, r.o, none⟩), .bool false] 48)).cell? ⟨wr.heap.size, 1, none⟩ = some (.bool false) := by rw [hW1]; exact cell_at gW1 1 rfl
    have b1 : W1.cell? ⟨wr.heap.size, 0, none⟩ = some (.pointer (some ⟨r.b, r.o, none⟩)) := cell_at gW1 0 rfl
    have cA1 : W1.cell? ⟨A, 6, none⟩ = some (.slice ra n cs) := keep_cell bW1 cA
    have hc1 : W1.cell? ⟨r.b, r.o + 1, none⟩ = some (.int .i64 k) := hc
    have hwa : IntKind.i64.wrap ((n : Int) - 1) = (n : Int) - 1 := IntWalk.i64_in _ (by omega)
    have hwb : IntKind.i64.wrap ((n : Int) - 1 - k) = (n : Int) - 1 - k := IntWalk.i64_in _ (by omega)
    have HW1 := Lib.hid hW1
    have HEA := Lib.hid ea
    clear hW hr hrow hrv hm cA gW1 bW1 sW1 hC1 hset hW1 ea hdt hp hto h1 h3 h4 hc hbd hkr
    rw [HEA.out]
    go_wp2_with fail
    rw [HW1.out]
    clear q0 q1 b0
    refine region_tail (fun w2 => w2 = W1.drew) 14 (by kernel_rfl) (by kernel_rfl) rfl ?_
    intro w2 hS
    subst hS
    simp only [List.take_succ_cons, List.take_zero, List.drop_succ_cons, List.drop_zero]
    repeat still_step
    refine wpStill_nil ?_
    go_wp2_with fail
    go_roundw
    case rel => exact ⟨i + 1, by go_num, by omega, by rw [← HEA.out]; exact HS1⟩
    case measure => simp [intOf]; omega
  ·obtain rfl : i = m := by omega
   have hz : ¬ (i : Int) < (i : Int) := by omega
   have hd := hW.out
   rw [← HM.out] at hd
   go_wp2_with fail
   exact HK0.out _ (hd.done HCB.out) (HZB.out _ hd.below hd.ph hd.da) hd.box hd.below _ _ _ _ _ _ _ _ _ _ _ _ _ _ _ _ _ _ _ _ _ _ _ _ _
end Go.Proofs.Ytpnbpepkoekkoaa
end
section
namespace Go.Proofs.Ytpnbpepkoekkoaa
open Go Go.RowKit Go.Deep
theorem Lt.refsL_size : ∀ (T : Lt) (b o : Nat), (T.refsL b o).length = T.size + T.movs
 | .nil, _, _ => rfl
 | .cons k n un ia ic its ma mc ms r, b, o => by
  simp only [Lt.refsL, List.length_cons, List.length_append, movRefs_len, Lt.size, Lt.movs]
  rw [its.refsL_size, r.refsL_size]; omega
theorem phRefs_bound : ∀ (ps : List Ph), (∀ p ∈ ps, p.its.size ≤ 300 ∧ p.its.movs ≤ 300) → (phRefs ps).length ≤ ps.length * 600
 | [], _ => by simp [phRefs]
 | p :: r, h => by
  have h1 := h p (by simp)
  have h2 := phRefs_bound r fun q hq => h q (by simp [hq])
  simp only [phRefs, List.length_append, Ph.refsL, List.length_cons]
  rw [Lt.refsL_size]; omega
theorem danRefs_len (b : Nat) : ∀ (o : Nat) (ds : List Dan), (danRefs b o ds).length = ds.length * 2
 | _, [] => rfl
 | o, d :: r => by simp only [danRefs, List.length_cons]; rw [danRefs_len b (o + 6) r]; omega
theorem Ls.small.refs {s : Ls} (h : s.small) : s.refs.length ≤ 200000 := by
 have h1 := phRefs_bound s.phrases h.items
 have h2 := danRefs_len (blk s.da) (off s.da) s.dances
 have h3 := h.phrases; have h4 := h.dances
 unfold Ls.refs
 rw [List.length_append]; omega
theorem Ls.refs_same {x y : Ls} (h : x.strip.refs = y.strip.refs) : x.refs.length = y.refs.length := by
 have e1 := congrArg List.length x.refs_key
 have e2 := congrArg List.length y.refs_key
 rw [List.length_map] at e1 e2
 rw [e1, e2, h]
theorem ptrs_le (rs : List RefL) : (ptrs rs).length ≤ rs.length := List.length_filter_le _ _
theorem movTo_le2 (k : Int) : movTo k ≤ 2 := by unfold movTo; split <;> omega
theorem itemTo_le2 (k : Int) : itemTo k ≤ 2 := by unfold itemTo; split <;> omega
theorem Its.refs_to : ∀ (t : Its), ∀ r ∈ t.refs, r.1 ≤ 2
 | .nil, _, h => by cases h
 | .cons k n un its ms rest, r, h => by
  simp only [Its.refs, List.mem_cons, List.mem_append, List.mem_map] at h
  rcases h with rfl | ⟨m, _, rfl⟩ | h | h
  ·exact itemTo_le2 k
  ·exact movTo_le2 m.kind
  ·exact its.refs_to r h
  ·exact rest.refs_to r h
theorem Sc.refs_to (s : Sc) : ∀ r ∈ s.refs, r.1 ≤ 2 := by
 intro r h
 unfold Sc.refs at h
 rcases List.mem_append.1 h with h | h
 ·obtain ⟨p, _, h⟩ := List.mem_flatMap.1 h
  exact p.items.refs_to r h
 ·obtain ⟨d, _, h⟩ := List.mem_flatMap.1 h
  simp only [List.mem_cons, List.mem_nil_iff, or_false] at h
  rcases h with rfl | rfl <;> simp
theorem Ls.refs_to2 (s : Ls) : ∀ r ∈ s.refs, r.to ≤ 2 := fun r h => by
 have : r.key ∈ s.strip.refs := by rw [← s.refs_key]; exact List.mem_map.2 ⟨r, h, rfl⟩
 exact s.strip.refs_to _ this
theorem chg_flip (n : Nat) : ∀ (rs : List RefL) (ks : List Int), (∀ r ∈ rs, r.to ≤ 2) → chgN (flipR n) rs ks = flipN n (rs.map RefL.key) ks
 | [], _, _ => by simp [chgN, flipN]
 | _ :: _, [], _ => by simp [chgN, flipN]
 | r :: rs, k :: ks, h => by
  simp only [chgN, flipN, List.map_cons]
  rw [chg_flip n rs ks fun q hq => h q (by simp [hq])]
  have h2 := h r (by simp)
  congr 1
  unfold flipR RefL.key
  by_cases h1 : r.to = 1
  ·rw [if_neg (by omega), if_pos h1]
  ·rw [if_pos (by omega), if_neg h1]
theorem refsIdx_range {R P : List Nm} : ∀ {pre : List (Nat × Nm)} {r : Nat × Nm} {rest : List (Nat × Nm)} {ns kp : List Int} {k : Int} {kr : List Int}, refsIdx R P (pre ++ r :: rest) ns = some (kp ++ k :: kr) → kp.length = pre.length → r.1 = 1 → 0 ≤ k ∧ k < R.length
 | [], r, rest, [], kp, k, kr, h, _, _ => by simp [refsIdx] at h
 | _ :: _, r, rest, [], kp, k, kr, h, _, _ => by simp [refsIdx] at h
 | [], r, rest, n :: ns, kp, k, kr, h, hl, h1 => by
  obtain rfl : kp = [] := by simpa using hl
  simp only [List.nil_append, refsIdx] at h
  cases hq : refIdx R P r n with
  | none => rw [hq] at h; simp at h
  | some k' =>
   rw [hq] at h
   cases hs : refsIdx R P rest ns with
   | none => rw [hs] at h; simp at h
   | some ks' =>
    rw [hs] at h
    simp only [Option.some.injEq, List.cons.injEq] at h
    obtain ⟨rfl, _⟩ := h
    unfold refIdx at hq
    rw [if_neg (by omega), if_pos h1] at hq
    split at hq
    ·rename_i hm
     have := List.idxOf_lt_length_of_mem hm
     injection hq with hq
     omega
    ·cases hq
 | p :: pre, r, rest, n :: ns, kp, k, kr, h, hl, h1 => by
  cases kp with
  | nil => simp at hl
  | cons k0 kp =>
  simp only [List.cons_append, refsIdx] at h
  cases hq : refIdx R P p n with
  | none => rw [hq] at h; simp at h
  | some k' =>
   rw [hq] at h
   cases hs : refsIdx R P (pre ++ r :: rest) ns with
   | none => rw [hs] at h; simp at h
   | some ks' =>
    rw [hs] at h
    simp only [Option.some.injEq, List.cons.injEq] at h
    obtain ⟨_, rfl⟩ := h
    exact refsIdx_range hs (by simpa using hl) h1
theorem idx_range {x : Ls} {s : Sc} {ns ks : List Int} (hs : x.strip.refs = s.refs) (h : s.idx ns = some ks) (pre : List RefL) (r : RefL) (rest : List RefL) (kp : List Int) (k : Int) (kr : List Int) (h1 : x.refs = pre ++ r :: rest) (h2 : ks = kp ++ k :: kr) (h3 : kp.length = pre.length) (h4 : ¬ (r.to = 0 ∨ r.to = 2)) : 0 ≤ k ∧ k < s.roles.length := by
 have hl : s.rnames.length = s.roles.length := by simp [Sc.rnames]
 unfold Sc.idx at h
 split at h
 ·rw [← hs, ← x.refs_key, h1, List.map_append, List.map_cons, h2] at h
  have h5 := x.refs_to2 r (by rw [h1]; simp)
  rw [← hl]
  exact refsIdx_range h (by rw [List.length_map]; exact h3) (show r.to = 1 by omega)
 ·cases h
end Go.Proofs.Ytpnbpepkoekkoaa
end
section
namespace Go.Proofs.Ytpnbpepkoekkoaa
open Go Go.RowKit Go.Deep
theorem ostep1 : lastPart 1 code5 = .seq elem5n1 (lastPart 2 code5) := rfl
theorem ostep2 : lastPart 2 code5 = .seq elem5n2 (lastPart 3 code5) := rfl
theorem ostep3 : lastPart 3 code5 = .seq elem5n3 (lastPart 4 code5) := rfl
theorem ostep4 : lastPart 4 code5 = .seq elem5n4 (lastPart 5 code5) := rfl
theorem ostep5 : lastPart 5 code5 = .seq elem5n5 (lastPart 6 code5) := rfl
theorem ostep6 : lastPart 6 code5 = .seq elem5n6 (lastPart 7 code5) := rfl
theorem ostep7 : lastPart 7 code5 = .seq elem5n7 (lastPart 8 code5) := rfl
theorem ostep8 : lastPart 8 code5 = .seq elem5n8 (lastPart 9 code5) := rfl
theorem ostep9 : lastPart 9 code5 = .seq elem5n9 (lastPart 10 code5) := rfl
theorem ostep10 : lastPart 10 code5 = .seq elem5n10 (lastPart 11 code5) := rfl
theorem heap_setCell_row {w : World} {X : Nat} {xs : Array Value} {t : TypeId} (h : w.heap[X]? = some (.cells xs t (0, 0))) (q : Nat) (v : Value) : (w.setCell ⟨X, q, none⟩ v).heap[X]? = some (.cells (xs.setIfInBounds q v) t (0, 0)) := by
 simp [World.setCell, Array.getElem?_modify, h]
theorem CpW.rows {s : Ls} {ns : List Int} {w : World} {x : Ls} {W : World} (h : CpW s ns w x W) (hs : s.At w) : IsRow encT 3 w (.slice x.ta x.tempos.length x.tc) x.tempos ∧ IsRow encP 4 w (.slice x.ua x.pauses.length x.uc) x.pauses ∧ IsRow encC 4 w (.slice x.sa x.spans.length x.sc) x.spans := by
 have e := h.tup
 unfold Ls.tup at e
 simp only [Prod.mk.injEq, List.cons.injEq, and_true] at e
 obtain ⟨⟨e1, e2, e3⟩, ⟨e4, e5, e6⟩, e7, e8, e9⟩ := e
 rw [e1, e2, e3, e4, e5, e6, e7, e8, e9]
 exact ⟨hs.tempos, hs.pauses, hs.spans⟩
set_option maxRecDepth 100000 in
set_option maxHeartbeats 16000000 in
theorem ord_e11 (A T X Y Z : Nat) (z yy : Ls) (ms : List Int) (w W : World) (hbw : Below w.heap.size w W) (hZ : W.heap[Z]? = some (.cells z.cells 30 (0, 0))) (hY : W.heap[Y]? = some (.cells yy.cells 30 (0, 0))) (hz : z.At W) (hy : yy.At W) (hs : z.strip = yy.strip) (hzn : NsAt W z.refs ms) (hyn : NsAt W yy.refs ms) (e0 e2 e4 e6 e8 e10 e11 e12 e13 e14 e15 e16 e17 e18 e19 e20 e21 e22 e23 e24 e25 e26 e27 e28 e29 e30 e31 e32 e33 e34 e35 e36 e37 e38 e39 e40 e41 e42 e43 e44 e45 e46 e47 e48 e49 e50 e51 e52 e53 e54 e55 e56 e57 e58 e59 e60 e61 e62 e63 e64 e65 e66 e67 e68 e69 e70 e71 e72 e73 e74 e75 e76 e77 e78 e79 e80 e81 e82 e83 e84 e85 e86 e87 e88 e89 e90 e91 : Value) :
  (lastPart 11 code5).wp Try.prog (bodyPost Try.prog Try.f5 (fun e w' => e = .returned (.bool true) ∧ Below w.heap.size w w')) { tmps := #[e0, .pointer (some ⟨A, 0, none⟩), e2, .pointer (some ⟨T, 0, none⟩), e4, .pointer (some ⟨X, 0, none⟩), e6, .pointer (some ⟨Y, 0, none⟩), e8, .pointer (some ⟨Z, 0, none⟩), e10, e11, e12, e13, e14, e15, e16, e17, e18, e19, e20, e21, e22, e23, e24, e25, e26, e27, e28, e29, e30, e31, e32, e33, e34, e35, e36, e37, e38, e39, e40, e41, e42, e43, e44, e45, e46, e47, e48, e49, e50, e51, e52, e53, e54, e55, e56, e57, e58, e59, e60, e61, e62, e63, e64, e65, e66, e67, e68, e69, e70, e71, e72, e73, e74, e75, e76, e77, e78, e79, e80, e81, e82, e83, e84, e85, e86, e87, e88, e89, e90, e91], defers := [] } W := by
 have C := same_any z yy ms W hz hy hs hzn hyn
 unfold Ls.val at C
 have HC := Lib.hid C; have HB := Lib.hid hbw; have HZ := Lib.hid hZ; have HY := Lib.hid hY
 clear C hbw hZ hY hz hy hs hzn hyn
 conv => arg 2; whnf
 go_wp2_with (first
  | (go_at_call 17; refine HC.out.mono ?_; rintro e V ⟨rfl, hv⟩)
  | (refine wpList_load_row rfl 30 _ rfl Z rfl 30 z.cells (0, 0) _ HZ.out Try.underlying30 rfl (by kernel_rfl) ?_; simp only [Act.put, List.setIfInBounds_toArray, List.set_cons_zero, List.set_cons_succ])
  | (refine wpList_load_row rfl 30 _ rfl Y rfl 30 yy.cells (0, 0) _ HY.out Try.underlying30 rfl (by kernel_rfl) ?_; simp only [Act.put, List.setIfInBounds_toArray, List.set_cons_zero, List.set_cons_succ]))
 go_ret
 exact ⟨rfl, thenB HB.out hv⟩
set_option maxRecDepth 100000 in
set_option maxHeartbeats 16000000 in
theorem ord_e8 (A T X Y g n cs ct : Nat) (ra : Option Addr) (ks : List Int) (xx yy : Ls) (s : Sc) (rev : List Rol) (ns : List Int) (w W : World) (hbw : Below w.heap.size w W) (hA : W.cell? ⟨A, 6, none⟩ = some (.slice ra n cs)) (hT : W.cell? ⟨T, 6, none⟩ = some (.slice (some ⟨g, 0, none⟩) n ct)) (hX : W.heap[X]? = some (.cells xx.cells 30 (0, 0))) (hY : W.heap[Y]? = some (.cells yy.cells 30 (0, 0)))
  (hx : xx.At W) (hxn : NsAt W xx.refs ks) (hxc : xx.cpOk) (hy : yy.At W) (hyn : NsAt W yy.refs (flipN n s.refs ks)) (hrow : IsRow encR 4 W (.slice (some ⟨g, 0, none⟩) n ct) rev) (hxs : xx.strip = s) (hys : yy.strip = { s with roles := rev }) (hrl : rev.length = n) (hsl : s.roles.length = n) (hidx : s.idx ns = some ks) (hlen : xx.refs.length ≤ 200000) (hn : n ≤ 1000) (e0 e2 e4 e6 e8 e9 e10 e11 e12 e13 e14 e15 e16 e17 e18 e19 e20 e21 e22 e23 e24 e25 e26 e27 e28 e29 e30 e31 e32 e33 e34 e35 e36 e37 e38 e39 e40 e41 e42 e43 e44 e45 e46 e47 e48 e49 e50 e51 e52 e53 e54 e55 e56 e57 e58 e59 e60 e61 e62 e63 e64 e65 e66 e67 e68 e69 e70 e71 e72 e73 e74 e75 e76 e77 e78 e79 e80 e81 e82 e83 e84 e85 e86 e87 e88 e89 e90 e91 : Value) :
  (lastPart 8 code5).wp Try.prog (bodyPost Try.prog Try.f5 (fun e w' => e = .returned (.bool true) ∧ Below w.heap.size w w')) { tmps := #[e0, .pointer (some ⟨A, 0, none⟩), e2, .pointer (some ⟨T, 0, none⟩), e4, .pointer (some ⟨X, 0, none⟩), e6, .pointer (some ⟨Y, 0, none⟩), e8, e9, e10, e11, e12, e13, e14, e15, e16, e17, e18, e19, e20, e21, e22, e23, e24, e25, e26, e27, e28, e29, e30, e31, e32, e33, e34, e35, e36, e37, e38, e39, e40, e41, e42, e43, e44, e45, e46, e47, e48, e49, e50, e51, e52, e53, e54, e55, e56, e57, e58, e59, e60, e61, e62, e63, e64, e65, e66, e67, e68, e69, e70, e71, e72, e73, e74, e75, e76, e77, e78, e79, e80, e81, e82, e83, e84, e85, e86, e87, e88, e89, e90, e91], defers := [] } W := by
 have hAlt : A < W.heap.size := cell_lt hA
 have hTlt : T < W.heap.size := cell_lt hT
 have hYlt : Y < W.heap.size := (Array.getElem?_eq_some_iff.1 hY).1
 have C := copied_any xx ks W hx hxn hxc
 unfold Ls.val at C
 have HC := Lib.hid C
 have HS := Lib.hid (And.intro hA (And.intro hT (And.intro hY (And.intro hx (And.intro hy (And.intro hyn (And.intro hrow (And.intro hxs (And.intro hys (And.intro hrl (And.intro hsl hidx)))))))))))
 have HB := Lib.hid hbw; have HX := Lib.hid hX
 clear C hA hT hX hY hx hxn hxc hy hyn hrow hxs hys hrl hsl hidx hbw
 rw [ostep8]
 refine wp_seq_thenQ (fun K hK => ?_)
 have HK := Lib.hid hK
 clear hK
 conv => arg 2; whnf
 go_wp2_with (refine wpList_load_row rfl 30 _ rfl X rfl 30 xx.cells (0, 0) _ HX.out Try.underlying30 rfl (by kernel_rfl) ?_; simp only [Act.put, List.setIfInBounds_toArray, List.set_cons_zero, List.set_cons_succ])
 refine HC.out.mono ?_
 intro e V hv
 obtain ⟨zz, rfl, hcp⟩ := CpW.of hv
 unfold Ls.val
 obtain ⟨W9, hW9, hZ9, hb9⟩ : ∃ W9, V.alloc (.cells zz.cells 30) = W9 ∧ W9.heap[V.heap.size]? = some (.cells zz.cells 30 (0, 0)) ∧ Below V.heap.size V W9 := ⟨_, rfl, heap_alloc_new V _, (Below.refl _ _).alloc (Nat.le_refl _) _⟩
 have HZ9 := Lib.hid hZ9; have HB9 := Lib.hid hb9
 unfold Ls.cells at hW9 ⊢
 have HW9 := Lib.hid hW9
 dsimp only
 have HCP := Lib.hid hcp
 clear HC hv hcp hZ9 hb9 hW9
 go_wp2_with fail
 have e5 := HW9.out
 simp only [sv] at e5 ⊢
 refine HK.out _ _ ?_
 rw [e5]
 clear HK K e5 HW9 HX
 obtain ⟨hA, hT, hY, hx, hy, hyn, hrow, hxs, hys, hrl, hsl, hidx⟩ := HS.out
 have hcp := HCP.out
 have hb9 := HB9.out
 have bWV := hcp.below
 have bW9 : Below W.heap.size W W9 := thenB bWV hb9
 have hVs := hb9.size
 have hWs := bWV.size
 obtain ⟨Z, hZe⟩ : ∃ Z, V.heap.size = Z := ⟨_, rfl⟩
 have hZ9 : W9.heap[Z]? = some (.cells zz.cells 30 (0, 0)) := by rw [← hZe]; exact HZ9.out
 have hzl : zz.roles.length = n := by
  have : zz.strip.roles = xx.strip.roles := by rw [hcp.strip]
  have h2 : zz.roles = s.roles := by rw [hxs] at this; exact this
  rw [h2, hsl]
 obtain ⟨z, hze⟩ : ∃ z : Ls, ({ zz with ra := some ⟨g, 0, none⟩, rc := ct, roles := rev } : Ls) = z := ⟨_, rfl⟩
 have hzc : z.cells = zz.cells.setIfInBounds 6 (.slice (some ⟨g, 0, none⟩) n ct) := by rw [← hze]; unfold Ls.cells; simp [hrl]
 obtain ⟨W10, hW10⟩ : ∃ W10, W9.setCell ⟨Z, 6, none⟩ (.slice (some ⟨g, 0, none⟩) n ct) = W10 := ⟨_, rfl⟩
 have hZ10 : W10.heap[Z]? = some (.cells z.cells 30 (0, 0)) := by rw [← hW10, hzc]; exact heap_setCell_row hZ9 6 _
 have b10 : Below V.heap.size V W10 := by rw [← hW10]; exact hb9.setCell (p := ⟨Z, 6, none⟩) (by rw [hZe]; exact Nat.le_refl _) _
 have bW10 : Below W.heap.size W W10 := thenB bWV b10
 have hz10 : z.At W10 := by
  have h1 := hcp.at_.below b10
  rw [← hze]
  refine ⟨?_, h1.tempos, h1.pauses, h1.spans, h1.pform, h1.plen, h1.phrases, h1.dform, h1.dlen, h1.dances⟩
  show IsRow encR 4 W10 (.slice (some ⟨g, 0, none⟩) rev.length ct) rev
  rw [hrl]
  exact hrow.below bW10 (Nat.le_refl _)
 have hrefs : z.refs = zz.refs := by rw [← hze]; rfl
 have hN10 : NsAt W10 z.refs ks := by rw [hrefs]; exact hcp.ns.below b10
 have hsep : z.Sep := by rw [← hze]; exact ⟨hcp.sep.own, hcp.sep.fa, hcp.sep.da, hcp.sep.fd⟩
 have hrf : ∀ r ∈ z.refs, W.heap.size ≤ r.b ∧ r.b ≠ Z ∧ FreeB W10 r.b := fun r hr => by
  rw [hrefs] at hr
  obtain ⟨h1, h2⟩ := hcp.refs r hr
  have := h2.lt
  exact ⟨h1, by omega, h2.below b10⟩
 have hRw : IsRow encR 4 W (.slice z.ra z.roles.length z.rc) z.roles ∧ IsRow encT 3 W (.slice z.ta z.tempos.length z.tc) z.tempos ∧ IsRow encP 4 W (.slice z.ua z.pauses.length z.uc) z.pauses ∧ IsRow encC 4 W (.slice z.sa z.spans.length z.sc) z.spans := by
  obtain ⟨r1, r2, r3⟩ := hcp.rows hx
  rw [← hze]
  refine ⟨?_, r1, r2, r3⟩
  show IsRow encR 4 W (.slice (some ⟨g, 0, none⟩) rev.length ct) rev
  rw [hrl]; exact hrow
 have hzs : z.strip = yy.strip := by
  rw [hys, ← hxs, ← hcp.strip, ← hze]; rfl
 have hkey : z.refs.map RefL.key = s.refs := by rw [hrefs, zz.refs_key, hcp.strip, hxs]
 have hplen : (ptrs z.refs).length ≤ 1000000 := by
  have h1 := ptrs_le z.refs
  have h2 : z.refs.length = xx.refs.length := by
   have e1 := congrArg List.length hkey
   have e2 := congrArg List.length xx.refs_key
   rw [List.length_map] at e1 e2
   rw [e1, e2, hxs]
  omega
 have hkk := fun pre r rest kp k kr h1 h2 h3 h4 => by
  have := idx_range (x := z) (s := s) (by rw [← z.refs_key, hkey]) hidx pre r rest kp k kr h1 h2 h3 h4
  rw [hsl] at this; exact this
 have cT9 : W9.cell? ⟨T, 6, none⟩ = some (.slice (some ⟨g, 0, none⟩) n ct) := keep_cell bW9 hT
 have cZ9 : W9.cell? ⟨Z, 6, none⟩ = some (.slice zz.ra n zz.rc) := by have := cell_at hZ9 6 (v := .slice zz.ra zz.roles.length zz.rc) rfl; rw [hzl] at this; exact this
 have hfZ : FreeB W9 Z := ⟨_, _, hZ9⟩
 have fZ9 : ∀ q, W9.frozen? ⟨Z, q, none⟩ = false := hfZ.free
 have hfl := chg_flip n z.refs ks (fun r hr => Ls.refs_to hr)
 have HE10 := Lib.hid (And.intro (keep_cell bW10 hA) (And.intro (bW10) (And.intro (hZ10) (And.intro (hz10) (And.intro (hN10) (And.intro (hsep) (And.intro (hrf) (And.intro (hRw) (And.intro (hplen) (hkk))))))))))
 have HW10 := Lib.hid hW10
 have HFIN : Hid (∀ W', NsAt W' z.refs (chgN (flipR n) z.refs ks) → z.At W' → W'.heap[Z]? = some (.cells z.cells 30 (0, 0)) → Below W.heap.size W W' → ∀ (e0 e2 e4 e6 e8 e10 e11 e12 e13 e14 e15 e16 e17 e18 e19 e20 e21 e22 e23 e24 e25 e26 e27 e28 e29 e30 e31 e32 e33 e34 e35 e36 e37 e38 e39 e40 e41 e42 e43 e44 e45 e46 e47 e48 e49 e50 e51 e52 e53 e54 e55 e56 e57 e58 e59 e60 e61 e62 e63 e64 e65 e66 e67 e68 e69 e70 e71 e72 e73 e74 e75 e76 e77 e78 e79 e80 e81 e82 e83 e84 e85 e86 e87 e88 e89 e90 e91 : Value), (lastPart 11 code5).wp Try.prog (bodyPost Try.prog Try.f5 (fun e w' => e = .returned (.bool true) ∧ Below w.heap.size w w')) { tmps := #[e0, .pointer (some ⟨A, 0, none⟩), e2, .pointer (some ⟨T, 0, none⟩), e4, .pointer (some ⟨X, 0, none⟩), e6, .pointer (some ⟨Y, 0, none⟩), e8, .pointer (some ⟨Z, 0, none⟩), e10, e11, e12, e13, e14, e15, e16, e17, e18, e19, e20, e21, e22, e23, e24, e25, e26, e27, e28, e29, e30, e31, e32, e33, e34, e35, e36, e37, e38, e39, e40, e41, e42, e43, e44, e45, e46, e47, e48, e49, e50, e51, e52, e53, e54, e55, e56, e57, e58, e59, e60, e61, e62, e63, e64, e65, e66, e67, e68, e69, e70, e71, e72, e73, e74, e75, e76, e77, e78, e79, e80, e81, e82, e83, e84, e85, e86, e87, e88, e89, e90, e91], defers := [] } W') := Lib.hid (fun W' h1 h2 h3 h4 => by
  rw [hfl, hkey] at h1
  intros
  exact ord_e11 A T X Y Z z yy _ w W' (thenB HB.out h4) h3 (keepO h4 hY) h2 (hy.below h4) hzs h1 (hyn.below h4) _ _ _ _ _ _ _ _ _ _ _ _ _ _ _ _ _ _ _ _ _ _ _ _ _ _ _ _ _ _ _ _ _ _ _ _ _ _ _ _ _ _ _ _ _ _ _ _ _ _ _ _ _ _ _ _ _ _ _ _ _ _ _ _ _ _ _ _ _ _ _ _ _ _ _ _ _ _ _ _ _ _ _ _ _ _ _)
 rw [hZe]
 clear hfZ hfl hkk hplen hkey hzs hRw hrf hsep hN10 hrefs hz10 bW10 b10 hZ10 hW10 hzc hze hzl hZ9 hZe bW9 bWV hb9 hcp hA hT hY hx hy hyn hrow hxs hys hrl hsl hidx HS HZ9 HB9 HCP
 rw [ostep9]
 refine wp_seq_thenQ (fun K hK => ?_)
 have HK := Lib.hid hK
 clear hK
 conv => arg 2; whnf
 go_wp2_with fail
 refine HK.out _ _ ?_
 rw [HW10.out]
 clear HK K cT9 cZ9 fZ9 HW10
 rw [ostep10]
 obtain ⟨p1, p2, p3, p4, p5, p6, p7, p8, p9, p10⟩ := HE10.out
 refine wp_seq_then (fun K hK => ord_e10 A Z n cs ra z ks W W10 p1 hAlt p2 p3 p4 p5 p6 p7 p8 p9 hn p10 _ _ _ _ _ _ _ _ _ _ _ _ _ _ _ _ _ _ _ _ _ _ _ _ _ _ _ _ _ _ _ _ _ _ _ _ _ _ _ _ _ _ _ _ _ _ _ _ _ _ _ _ _ _ _ _ _ _ _ _ _ _ _ _ _ _ _ _ _ _ _ _ _ _ _ _ _ _ _ _ _ _ _ _ _ _ _ _ _ _ K ?_)
 intro W' h1 h2 h3 h4
 intros
 refine hK _ _ ?_
 exact HFIN.out W' h1 h2 h3 h4 _ _ _ _ _ _ _ _ _ _ _ _ _ _ _ _ _ _ _ _ _ _ _ _ _ _ _ _ _ _ _ _ _ _ _ _ _ _ _ _ _ _ _ _ _ _ _ _ _ _ _ _ _ _ _ _ _ _ _ _ _ _ _ _ _ _ _ _ _ _ _ _ _ _ _ _ _ _ _ _ _ _ _ _ _ _ _
end Go.Proofs.Ytpnbpepkoekkoaa
end
section
namespace Go.Proofs.Ytpnbpepkoekkoaa
open Go Go.RowKit Go.Deep
theorem CpW.turn {s : Ls} {ns : List Int} {w : World} {x : Ls} {V W4 W5 : World} {rev : List Rol} (hcp : CpW s ns w x V) (hs : s.At w) (hb4 : Below V.heap.size V W4) (hb5 : ButOne (blk x.ra) W4 W5) (hrow : RowV encR W5 (blk x.ra) rev) (hl : rev.length ≤ maxLen) :
  ({ x with ra := some ⟨blk x.ra, 0, none⟩, rc := x.rc, roles := rev } : Ls).At W5 ∧ NsAt W5 x.refs ns := by
 obtain ⟨⟨l1, l2⟩, _⟩ := hcp.own.lt
 have hw := hcp.below.size
 have h4 := hb4.size
 have h5 := hb5.size
 have hk : Kept s ns w x V W5 (blk x.ra) := ⟨hcp, (hcp.below.trans (hb4.mono hw)).trans (hb5.below l1 (by omega)), fun b hb hne => (hb5.block b (by omega) hne).trans (hb4.block b hb)⟩
 refine ⟨(rol_at hk hs hrow (by omega) hl).1, hcp.ns.kept fun y hy v hv => cell_blk (hk.keep _ (cell_lt hv) (fun e => ?_)) _ v hv⟩
 rcases List.mem_append.1 hy with h | h
 ·exact hcp.own.ra (by rw [← show y.b = blk x.ra from e]; exact phRefs_own h)
 ·exact hcp.own.rd (by rw [← (danRefs_mem h).1]; exact e.symm)
def ResO (s : Ls) (ns : List Int) (w : World) (e : Ending) (w' : World) : Prop := ∃ (x : Ls) (ks : List Int), e = .returned (.tuple #[x.val, .int .i64 0]) ∧ x.strip = s.strip ∧ x.At w' ∧ NsAt w' x.refs ks ∧ s.strip.idx ns = some ks ∧ Below w.heap.size w w'
theorem res_ok (s : Ls) (ns : List Int) (w : World) (hA : s.At w) (hN : NsAt w s.refs ns) (he : Env w) (h0 : resE s.strip ns = 0) : Calls Try.prog 15 #[s.val] w (ResO s ns w) := by
 refine (res_any s ns w hA hN he).mono fun e w' h => ?_
 obtain ⟨h | h, hb⟩ := h
 ·obtain ⟨_, x, ks, h1, h2, h3, h4, h5, _⟩ := h
  exact ⟨x, ks, h1, h2, h3, h4, h5, hb⟩
 ·exact absurd h0 h.1
set_option maxRecDepth 100000 in
set_option maxHeartbeats 16000000 in
theorem ord_e5a (s x : Ls) (ns : List Int) (g n : Nat) (w W : World) (T : Nat) (he : ∀ V, Below w.heap.size w V → Env V) (hW : LawW s w W) (hs : s.At w) (hsn : NsAt w s.refs ns) (hT : W.heap[T]? = some (.cells x.cells 30 (0, 0))) (hx : x.At W) (hxn : NsAt W x.refs ns) (hxs : x.strip = s.strip.turned) (hxr : x.ra = some ⟨g, 0, none⟩) (hn : s.roles.length = n) (hxl : x.roles.length = n) (hsm : s.small) (h0 : resE s.strip ns = 0) (e0 e2 e4 e5 e6 e7 e8 e9 e10 e11 e12 e13 e14 e15 e16 e17 e18 e19 e20 e21 e22 e23 e24 e25 e26 e27 e28 e29 e30 e31 e32 e33 e34 e35 e36 e37 e38 e39 e40 e41 e42 e43 e44 e45 e46 e47 e48 e49 e50 e51 e52 e53 e54 e55 e56 e57 e58 e59 e60 e61 e62 e63 e64 e65 e66 e67 e68 e69 e70 e71 e72 e73 e74 e75 e76 e77 e78 e79 e80 e81 e82 e83 e84 e85 e86 e87 e88 e89 e90 e91 : Value) :
  (lastPart 5 code5).wp Try.prog (bodyPost Try.prog Try.f5 (fun e w' => e = .returned (.bool true) ∧ Below w.heap.size w w')) { tmps := #[e0, .pointer (some ⟨w.heap.size, 0, none⟩), e2, .pointer (some ⟨T, 0, none⟩), e4, e5, e6, e7, e8, e9, e10, e11, e12, e13, e14, e15, e16, e17, e18, e19, e20, e21, e22, e23, e24, e25, e26, e27, e28, e29, e30, e31, e32, e33, e34, e35, e36, e37, e38, e39, e40, e41, e42, e43, e44, e45, e46, e47, e48, e49, e50, e51, e52, e53, e54, e55, e56, e57, e58, e59, e60, e61, e62, e63, e64, e65, e66, e67, e68, e69, e70, e71, e72, e73, e74, e75, e76, e77, e78, e79, e80, e81, e82, e83, e84, e85, e86, e87, e88, e89, e90, e91], defers := [] } W := by
 have hbw := hW.below
 have hsW := hs.below hbw; have hsnW := hsn.below hbw
 have C := res_ok s ns W hsW hsnW (he _ hbw) h0
 unfold Ls.val at C
 have HC := Lib.hid C; have HL := Lib.hid hW.box
 rw [ostep5]
 refine wp_seq_thenQ (fun K hK => ?_)
 have HK := Lib.hid hK
 clear hK
 conv => arg 2; whnf
 go_wp2_with (refine wpList_load_row rfl 30 _ rfl w.heap.size rfl 30 s.cells (0, 0) _ HL.out Try.underlying30 rfl (by kernel_rfl) ?_; simp only [Act.put, List.setIfInBounds_toArray, List.set_cons_zero, List.set_cons_succ])
 refine HC.out.mono ?_
 rintro e V ⟨xx, ks, rfl, q1, q2, q3, q4, q5⟩
 unfold Ls.val
 obtain ⟨W6, hW6, hX6, hb6⟩ : ∃ W6, V.alloc (.cells xx.cells 30) = W6 ∧ W6.heap[V.heap.size]? = some (.cells xx.cells 30 (0, 0)) ∧ Below V.heap.size V W6 := ⟨_, rfl, heap_alloc_new V _, (Below.refl _ _).alloc (Nat.le_refl _) _⟩
 have HQ := Lib.hid (And.intro q1 (And.intro q2 (And.intro q3 (And.intro q4 (And.intro q5 (And.intro hX6 hb6))))))
 unfold Ls.cells at hW6 ⊢
 have HW6 := Lib.hid hW6
 have HS := Lib.hid (And.intro hW (And.intro hs (And.intro hT (And.intro hx (And.intro hxn (And.intro hxs (And.intro hxr (And.intro hn (And.intro hxl (And.intro hsm (And.intro h0 he)))))))))))
 clear HC C q1 q2 q3 q4 q5 hX6 hb6 hW6 HL hW hs hsn hT hx hxn hxs hxr hn hxl hsm h0 he hbw hsW hsnW
 dsimp only
 go_wp2_with fail
 have e5 := HW6.out
 simp only [sv] at e5 ⊢
 refine HK.out _ _ ?_
 rw [e5]
 clear HK K e5 HW6
 obtain ⟨hW, hs, hT, hx, hxn, hxs, hxr, hn, hxl, hsm, h0, he⟩ := HS.out
 obtain ⟨q1, q2, q3, q4, q5, hX6, hb6⟩ := HQ.out
 have bW6 : Below W.heap.size W W6 := thenB q5 hb6
 have hW6 := hW.next bW6
 have h0' : resE x.strip ns = 0 := by rw [hxs, res_turned]; exact h0
 have C := res_ok x ns W6 (hx.below bW6) (hxn.below bW6) (he _ hW6.below) h0'
 unfold Ls.val at C
 have HC := Lib.hid C; have HL := Lib.hid (keepO bW6 hT)
 have HS6 := Lib.hid (And.intro bW6 hW6)
 clear C hW hs hT hx hxn hxs hxr hn hxl hsm h0 he q1 q2 q3 q4 q5 hX6 hb6 bW6 hW6 h0'
 rw [ostep6]
 refine wp_seq_thenQ (fun K hK => ?_)
 have HK := Lib.hid hK
 clear hK
 conv => arg 2; whnf
 go_wp2_with (refine wpList_load_row rfl 30 _ rfl T rfl 30 x.cells (0, 0) _ HL.out Try.underlying30 rfl (by kernel_rfl) ?_; simp only [Act.put, List.setIfInBounds_toArray, List.set_cons_zero, List.set_cons_succ])
 refine HC.out.mono ?_
 rintro e V7 ⟨yy, ks', rfl, y1, y2, y3, y4, y5⟩
 unfold Ls.val
 obtain ⟨W7, hW7, hY7, hb7⟩ : ∃ W7, V7.alloc (.cells yy.cells 30) = W7 ∧ W7.heap[V7.heap.size]? = some (.cells yy.cells 30 (0, 0)) ∧ Below V7.heap.size V7 W7 := ⟨_, rfl, heap_alloc_new V7 _, (Below.refl _ _).alloc (Nat.le_refl _) _⟩
 have HY := Lib.hid (And.intro y1 (And.intro y2 (And.intro y3 (And.intro y4 (And.intro y5 (And.intro hY7 hb7))))))
 unfold Ls.cells at hW7 ⊢
 have HW7 := Lib.hid hW7
 clear HC y1 y2 y3 y4 y5 hY7 hb7 hW7 HL
 dsimp only
 go_wp2_with fail
 have e5 := HW7.out
 simp only [sv] at e5 ⊢
 refine HK.out _ _ ?_
 rw [e5]
 clear HK K e5 HW7
 rw [ostep7]
 refine wp_seq_thenQ (fun K hK => ?_)
 have HK := Lib.hid hK
 clear hK
 conv => arg 2; whnf
 go_wp2_with fail
 refine HK.out _ _ ?_
 clear HK K
 obtain ⟨hW, hs, hT, hx, hxn, hxs, hxr, hn, hxl, hsm, h0, he⟩ := HS.out
 obtain ⟨q1, q2, q3, q4, q5, hX6, hb6⟩ := HQ.out
 obtain ⟨y1, y2, y3, y4, y5, hY7, hb7⟩ := HY.out
 obtain ⟨bW6, hW6⟩ := HS6.out
 have b67 : Below W6.heap.size W6 W7 := thenB y5 hb7
 have bV7 : Below V.heap.size V W7 := thenB hb6 b67
 have bW7 : Below W.heap.size W W7 := thenB bW6 b67
 have hW7 := hW6.next b67
 have hrz := res_zero h0
 have hi' : ks' = flipN n s.strip.refs ks := by
  rw [hxs, idx_turned hrz.2.2.1, q4] at y4
  have hl : s.strip.roles.length = n := hn
  rw [hl] at y4
  injection y4 with y4
  exact y4.symm
 rw [hi'] at y3
 have hrow := hx.roles.below bW7 (Nat.le_refl _)
 rw [hxr, hxl] at hrow
 have cT : W7.cell? ⟨T, 6, none⟩ = some (.slice (some ⟨g, 0, none⟩) n x.rc) := by
  have := cell_at (keepO bW7 hT) 6 (v := .slice x.ra x.roles.length x.rc) rfl
  rw [hxr, hxl] at this; exact this
 have cA : W7.cell? ⟨w.heap.size, 6, none⟩ = some (.slice s.ra n s.rc) := by
  have := cell_at hW7.box 6 (v := .slice s.ra s.roles.length s.rc) rfl
  rw [hn] at this; exact this
 refine ord_e8 w.heap.size T V.heap.size V7.heap.size g n s.rc x.rc s.ra ks xx yy s.strip x.roles ns w W7 hW7.below cA cT (keepO b67 hX6) hY7 (q2.below bV7) (q3.below bV7) (Ls.lims_cp (by rw [q1]; exact hrz.1)) (y2.below hb7) (y3.below hb7) hrow q1 ?_ hxl hn q4 ?_ ?_ _ _ _ _ _ _ _ _ _ _ _ _ _ _ _ _ _ _ _ _ _ _ _ _ _ _ _ _ _ _ _ _ _ _ _ _ _ _ _ _ _ _ _ _ _ _ _ _ _ _ _ _ _ _ _ _ _ _ _ _ _ _ _ _ _ _ _ _ _ _ _ _ _ _ _ _ _ _ _ _ _ _ _ _ _ _ _ _
 ·rw [y1, hxs]
  unfold Sc.turned
  rw [show x.roles = s.strip.roles.reverse from by
   have : x.strip.roles = s.strip.turned.roles := by rw [hxs]
   exact this]
 ·rw [Ls.refs_same (x := xx) (y := s) (by rw [q1])]
  exact hsm.refs
 ·have := hsm.roles
  omega
end Go.Proofs.Ytpnbpepkoekkoaa
end
section
namespace Go.Proofs.Ytpnbpepkoekkoaa
open Go Go.RowKit Go.Deep
set_option maxRecDepth 100000 in
set_option maxHeartbeats 16000000 in
theorem ord_e5b (s x : Ls) (ns : List Int) (w W : World) (T : Nat) (he : ∀ V, Below w.heap.size w V → Env V) (hW : LawW s w W) (hs : s.At w) (hsn : NsAt w s.refs ns) (hT : W.heap[T]? = some (.cells x.cells 30 (0, 0))) (hx : x.At W) (hxn : NsAt W x.refs ns) (hxs : x.strip = s.strip.turned) (h0 : resE s.strip ns ≠ 0) (e0 e2 e4 e5 e6 e7 e8 e9 e10 e11 e12 e13 e14 e15 e16 e17 e18 e19 e20 e21 e22 e23 e24 e25 e26 e27 e28 e29 e30 e31 e32 e33 e34 e35 e36 e37 e38 e39 e40 e41 e42 e43 e44 e45 e46 e47 e48 e49 e50 e51 e52 e53 e54 e55 e56 e57 e58 e59 e60 e61 e62 e63 e64 e65 e66 e67 e68 e69 e70 e71 e72 e73 e74 e75 e76 e77 e78 e79 e80 e81 e82 e83 e84 e85 e86 e87 e88 e89 e90 e91 : Value) :
  (lastPart 5 code5).wp Try.prog (bodyPost Try.prog Try.f5 (fun e w' => e = .returned (.bool true) ∧ Below w.heap.size w w')) { tmps := #[e0, .pointer (some ⟨w.heap.size, 0, none⟩), e2, .pointer (some ⟨T, 0, none⟩), e4, e5, e6, e7, e8, e9, e10, e11, e12, e13, e14, e15, e16, e17, e18, e19, e20, e21, e22, e23, e24, e25, e26, e27, e28, e29, e30, e31, e32, e33, e34, e35, e36, e37, e38, e39, e40, e41, e42, e43, e44, e45, e46, e47, e48, e49, e50, e51, e52, e53, e54, e55, e56, e57, e58, e59, e60, e61, e62, e63, e64, e65, e66, e67, e68, e69, e70, e71, e72, e73, e74, e75, e76, e77, e78, e79, e80, e81, e82, e83, e84, e85, e86, e87, e88, e89, e90, e91], defers := [] } W := by
 have hbw := hW.below
 have C := res_code s ns W (hs.below hbw) (hsn.below hbw) (he _ hbw) _ rfl
 have hC2 : ∀ V, Below W.heap.size W V → Calls Try.prog 15 #[x.val] V (CodeP (resE s.strip ns) V) := fun V hv => res_code x ns V (hx.below hv) (hxn.below hv) (he _ (thenB hbw hv)) _ (by rw [hxs, res_turned])
 unfold Ls.val at C hC2
 generalize resE s.strip ns = c at *
 have HC := Lib.hid C; have HC2 := Lib.hid hC2; have HL := Lib.hid hW.box; have HT := Lib.hid hT; have HB := Lib.hid hbw
 have hne : (c != 0) = true := by simpa using h0
 clear C hC2 hW hs hsn hT hx hxn hxs h0 he hbw
 unfold CodeP at HC HC2
 rw [ostep5]
 refine wp_seq_thenQ (fun K hK => ?_)
 have HK := Lib.hid hK
 clear hK
 conv => arg 2; whnf
 go_wp2_with (refine wpList_load_row rfl 30 _ rfl w.heap.size rfl 30 s.cells (0, 0) _ HL.out Try.underlying30 rfl (by kernel_rfl) ?_; simp only [Act.put, List.setIfInBounds_toArray, List.set_cons_zero, List.set_cons_succ])
 refine HC.out.mono ?_
 rintro e V ⟨n, i1, i2, i3, i4, i5, a6, a7, a8, a9, a10, a11, n6, n7, n8, n9, n10, n11, q6, q7, q8, q9, q10, q11, rfl, hv⟩
 dsimp only
 have HV := Lib.hid (thenB hv ((Below.refl V.heap.size V).alloc (Nat.le_refl _) (.cells #[sv n, .int .i64 i1, .int .i64 i2, .int .i64 i3, .int .i64 i4, .int .i64 i5, .slice a6 n6 q6, .slice a7 n7 q7, .slice a8 n8 q8, .slice a9 n9 q9, .slice a10 n10 q10, .slice a11 n11 q11] 30)))
 clear HC HL hv
 go_wp2_with fail
 refine HK.out _ _ ?_
 clear HK K
 generalize V.alloc (.cells #[sv n, .int .i64 i1, .int .i64 i2, .int .i64 i3, .int .i64 i4, .int .i64 i5, .slice a6 n6 q6, .slice a7 n7 q7, .slice a8 n8 q8, .slice a9 n9 q9, .slice a10 n10 q10, .slice a11 n11 q11] 30) = W6 at *
 have HC := Lib.hid (HC2.out W6 HV.out)
 have HL := Lib.hid (keepO HV.out HT.out)
 rw [ostep6]
 refine wp_seq_thenQ (fun K hK => ?_)
 have HK := Lib.hid hK
 clear hK
 conv => arg 2; whnf
 go_wp2_with (refine wpList_load_row rfl 30 _ rfl T rfl 30 x.cells (0, 0) _ HL.out Try.underlying30 rfl (by kernel_rfl) ?_; simp only [Act.put, List.setIfInBounds_toArray, List.set_cons_zero, List.set_cons_succ])
 refine HC.out.mono ?_
 rintro e V7 ⟨np, i1p, i2p, i3p, i4p, i5p, a6p, a7p, a8p, a9p, a10p, a11p, n6p, n7p, n8p, n9p, n10p, n11p, q6p, q7p, q8p, q9p, q10p, q11p, rfl, hv⟩
 dsimp only
 have HV7 := Lib.hid (thenB hv ((Below.refl V7.heap.size V7).alloc (Nat.le_refl _) (.cells #[sv np, .int .i64 i1p, .int .i64 i2p, .int .i64 i3p, .int .i64 i4p, .int .i64 i5p, .slice a6p n6p q6p, .slice a7p n7p q7p, .slice a8p n8p q8p, .slice a9p n9p q9p, .slice a10p n10p q10p, .slice a11p n11p q11p] 30)))
 clear HC HL hv HC2
 go_wp2_with fail
 refine HK.out _ _ ?_
 clear HK K
 generalize V7.alloc (.cells #[sv np, .int .i64 i1p, .int .i64 i2p, .int .i64 i3p, .int .i64 i4p, .int .i64 i5p, .slice a6p n6p q6p, .slice a7p n7p q7p, .slice a8p n8p q8p, .slice a9p n9p q9p, .slice a10p n10p q10p, .slice a11p n11p q11p] 30) = W7 at *
 rw [ostep7]
 refine wp_seq_thenQ (fun K hK => ?_)
 clear hK
 conv => arg 2; whnf
 go_wp2_with fail
 try simp only [Exit.then]
 go_ret
 exact ⟨rfl, thenB HB.out (thenB HV.out HV7.out)⟩
set_option maxRecDepth 100000 in
set_option maxHeartbeats 16000000 in
theorem order_any (s : Ls) (ns : List Int) (w : World) (h : LawIn s ns w) : Calls Try.prog 5 #[s.val] w (fun e w' => e = .returned (.bool true) ∧ Below w.heap.size w w') := by
 obtain ⟨hA, hN, he, hm⟩ := h
 obtain ⟨W1, hW1, h1⟩ : ∃ W1, w.alloc (.cells s.cells 30) = W1 ∧ LawW s w W1 := ⟨_, rfl, (Below.refl _ w).alloc (Nat.le_refl _) _, heap_alloc_new w _⟩
 obtain ⟨cs, hcs⟩ : ∃ cs, s.cells = cs := ⟨_, rfl⟩
 have hsv : s.val = .agg cs := by rw [← hcs]; rfl
 have hW1' : w.alloc (.cells cs 30) = W1 := by rw [← hcs]; exact hW1
 rw [hsv]
 have HW1 := Lib.hid hW1'; have HCS := Lib.hid hcs; have HA := Lib.hid hA; have HN := Lib.hid hN; have HE := Lib.hid he; have HM := Lib.hid hm
 have H1 := Lib.hid h1
 clear hA hN he hm hcs hW1 hW1' hsv h1
 go_enter Try.func5, Try.ntmps5
 change Code.wp Try.prog (.seq elem5n0 (lastPart 1 code5)) _ _ _
 refine wp_seq_thenQ (fun K hK => ?_)
 have HK := Lib.hid hK
 clear hK
 conv => arg 2; whnf
 go_wp2_with fail
 refine HK.out _ _ ?_
 clear HK K
 rw [HW1.out]
 rw [ostep1]
 refine wp_seq_thenQ (fun K hK => ?_)
 have HK := Lib.hid hK
 clear hK
 conv => arg 2; whnf
 have C := sane_any W1 (HE.out _ H1.out.below)
 have HC := Lib.hid C
 clear C
 go_wp2_with (go_at_call 13; refine HC.out.mono ?_; rintro e V ⟨rfl, hv⟩)
 refine HK.out _ _ ?_
 have H2 := Lib.hid (H1.out.next hv)
 clear HK K HC H1 HW1 hv
 generalize V = W2 at *
 rw [ostep2]
 refine wp_seq_thenQ (fun K hK => ?_)
 have HK := Lib.hid hK
 clear hK
 conv => arg 2; whnf
 have C := few_any s W2 (HA.out.below H2.out.below) HM.out
 have HC := Lib.hid C
 have HL := Lib.hid H2.out.box
 clear C
 go_wp2_with (refine wpList_load_row rfl 30 _ rfl w.heap.size rfl 30 s.cells (0, 0) _ HL.out Try.underlying30 rfl (by kernel_rfl) ?_; simp only [Act.put, List.setIfInBounds_toArray, List.set_cons_zero, List.set_cons_succ])
 unfold Ls.val at HC
 refine HC.out.mono ?_
 rintro e V ⟨b, rfl, hsm, hv⟩
 have H3 := Lib.hid (H2.out.next hv)
 have HSM := Lib.hid hsm
 clear HC HL H2 hv hsm W1 W2
 cases b with
 | false =>
  go_wp2_with fail
  try simp only [Exit.then]
  go_ret
  exact ⟨rfl, H3.out.below⟩
 | true =>
 go_wp2_with fail
 refine HK.out _ _ ?_
 clear HK K
 generalize V = W3 at *
 rw [ostep3]
 refine wp_seq_thenQ (fun K hK => ?_)
 have HK := Lib.hid hK
 clear hK
 conv => arg 2; whnf
 have hb3 := H3.out.below
 have C := copied_any s ns W3 (HA.out.below hb3) (HN.out.below hb3) (HSM.out (by trivial)).cp
 have HC := Lib.hid C
 have HL := Lib.hid H3.out.box
 clear C hb3
 unfold Ls.val at HC
 go_wp2_with (refine wpList_load_row rfl 30 _ rfl w.heap.size rfl 30 s.cells (0, 0) _ HL.out Try.underlying30 rfl (by kernel_rfl) ?_; simp only [Act.put, List.setIfInBounds_toArray, List.set_cons_zero, List.set_cons_succ])
 refine HC.out.mono ?_
 intro e V hv
 obtain ⟨x, rfl, hcp⟩ := CpW.of hv
 unfold Ls.val
 obtain ⟨W4, hW4, hX4, hb4⟩ : ∃ W4, V.alloc (.cells x.cells 30) = W4 ∧ W4.heap[V.heap.size]? = some (.cells x.cells 30 (0, 0)) ∧ Below V.heap.size V W4 := ⟨_, rfl, heap_alloc_new V _, (Below.refl _ _).alloc (Nat.le_refl _) _⟩
 have HX4 := Lib.hid hX4; have HB4 := Lib.hid hb4
 unfold Ls.cells at hW4 ⊢
 have HW4 := Lib.hid hW4
 dsimp only
 have HCP := Lib.hid hcp
 clear HC HL hv hcp hX4 hb4 hW4
 go_wp2_with fail
 have e5 := HW4.out
 simp only [sv] at e5 ⊢
 refine HK.out _ _ ?_
 rw [e5]
 clear HK K e5 HW4
 have hcp := HCP.out; have hb4 := HB4.out; have h3 := H3.out; have hsm := HSM.out (by trivial); have hA := HA.out
 have hb3 := h3.below
 have b34 : Below W3.heap.size W3 W4 := thenB hcp.below hb4
 have h4 := h3.next b34
 obtain ⟨g, hg⟩ : ∃ g, blk x.ra = g := ⟨_, rfl⟩
 have hraf : x.ra = some ⟨g, 0, none⟩ := by rw [← hg]; exact hcp.own.raf
 obtain ⟨⟨l1, l2⟩, _⟩ := hcp.own.lt
 rw [hg] at l1 l2
 have hxr : x.roles = s.roles := by
  have : x.strip.roles = s.strip.roles := by rw [hcp.strip]
  exact this
 obtain ⟨n, hn⟩ : ∃ n, s.roles.length = n := ⟨_, rfl⟩
 have hxl : x.roles.length = n := by rw [hxr, hn]
 have hA3 : w.heap.size < W3.heap.size := (Array.getElem?_eq_some_iff.1 h3.box).1
 have hown := own_below hcp.own.roles hb4
 obtain ⟨cap, hcapv, hsh, _⟩ := shape_of_own hown (g := g) (by rw [hraf]; rfl)
 rw [hraf, hxl] at hown
 have hrv := own_rowV hown
 rw [hxr] at hrv
 have hR4 := (hA.below h4.below).roles
 rw [hn] at hR4
 have cA : W4.cell? ⟨w.heap.size, 6, none⟩ = some (.slice s.ra n s.rc) := by
  have := cell_at h4.box 6 (v := .slice s.ra s.roles.length s.rc) rfl
  rw [hn] at this; exact this
 have cT : W4.cell? ⟨V.heap.size, 6, none⟩ = some (.slice (some ⟨g, 0, none⟩) n x.rc) := by
  have := cell_at HX4.out 6 (v := .slice x.ra x.roles.length x.rc) rfl
  rw [hraf, hxl] at this; exact this
 have hn2 : n ≤ 1000 := by have := hsm.roles; omega
 have hgb : 0 < n → ∀ b o, s.ra = some ⟨b, o, none⟩ → b ≠ g := fun h0 b o e1 e2 => by
  obtain ⟨p, hp⟩ : ∃ p, s.roles[0]? = some p := ⟨_, List.getElem?_eq_getElem (by omega)⟩
  obtain ⟨b', o', e3, _, hlt⟩ := hA.roles.block hp
  rw [e1] at e3
  injection e3 with e3
  injection e3 with e3 _
  omega
 rw [ostep4]
 refine wp_seq_then (fun K hK => ord_e4 w.heap.size V.heap.size g n s.rc x.rc (cap * 4) s.ra s.roles W4 cA cT hR4 hn hn2 hrv hsh (by omega) (by omega) hgb _ _ _ _ _ _ _ _ _ _ _ _ _ _ _ _ _ _ _ _ _ _ _ _ _ _ _ _ _ _ _ _ _ _ _ _ _ _ _ _ _ _ _ _ _ _ _ _ _ _ _ _ _ _ _ _ _ _ _ _ _ _ _ _ _ _ _ _ _ _ _ _ _ _ _ _ _ _ _ _ _ _ _ _ _ _ _ _ _ _ K ?_)
 intro W5 hrow hsh5 hb5
 intros
 refine hK _ _ ?_
 clear hK K
 have hb5' : ButOne (blk x.ra) W4 W5 := by rw [hg]; exact hb5
 have ht := CpW.turn (rev := s.roles.reverse) hcp (hA.below hb3) hb4 hb5' (by rw [hg]; exact hrow) (by rw [List.length_reverse]; unfold maxLen; omega)
 rw [hg] at ht
 obtain ⟨x', hx'⟩ : ∃ x' : Ls, ({ x with ra := some ⟨g, 0, none⟩, rc := x.rc, roles := s.roles.reverse } : Ls) = x' := ⟨_, rfl⟩
 rw [hx'] at ht
 have hcells : x'.cells = x.cells := by
  rw [← hx']
  unfold Ls.cells
  simp only [hraf, hxl, List.length_reverse, hn]
 have b45 : Below w.heap.size w W5 := h4.below.trans (hb5.below (by have := hb3.size; omega) h4.below.size)
 have hW5 : LawW s w W5 := ⟨b45, (hb5.block _ (by have := b34.size; omega) (by omega)).trans h4.box⟩
 have hT5 : W5.heap[V.heap.size]? = some (.cells x'.cells 30 (0, 0)) := by
  rw [hcells]
  exact (hb5.block _ (Array.getElem?_eq_some_iff.1 HX4.out).1 (by omega)).trans HX4.out
 have hst : x'.strip = s.strip.turned := by
  rw [← hx']
  show ({ x.strip with roles := s.roles.reverse } : Sc) = _
  rw [hcp.strip]; rfl
 have hnx : NsAt W5 x'.refs ns := by rw [← hx']; exact ht.2
 by_cases h0 : resE s.strip ns = 0
 ·exact ord_e5a s x' ns g n w W5 V.heap.size HE.out hW5 hA HN.out hT5 ht.1 hnx hst (by rw [← hx']) hn (by rw [← hx']; show s.roles.reverse.length = n; rw [List.length_reverse, hn]) hsm h0 _ _ _ _ _ _ _ _ _ _ _ _ _ _ _ _ _ _ _ _ _ _ _ _ _ _ _ _ _ _ _ _ _ _ _ _ _ _ _ _ _ _ _ _ _ _ _ _ _ _ _ _ _ _ _ _ _ _ _ _ _ _ _ _ _ _ _ _ _ _ _ _ _ _ _ _ _ _ _ _ _ _ _ _ _ _ _ _ _ _
 ·exact ord_e5b s x' ns w W5 V.heap.size HE.out hW5 hA HN.out hT5 ht.1 hnx hst h0 _ _ _ _ _ _ _ _ _ _ _ _ _ _ _ _ _ _ _ _ _ _ _ _ _ _ _ _ _ _ _ _ _ _ _ _ _ _ _ _ _ _ _ _ _ _ _ _ _ _ _ _ _ _ _ _ _ _ _ _ _ _ _ _ _ _ _ _ _ _ _ _ _ _ _ _ _ _ _ _ _ _ _ _ _ _ _ _ _ _
end Go.Proofs.Ytpnbpepkoekkoaa
end
