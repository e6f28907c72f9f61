/- The walk of the statement: part 1. -/
import Derived.Test.YtpnbpepkoekkoaaZ37
import Derived.Test.YtpnbpepkoekkoaaZ28
import Derived.Test.YtpnbpepkoekkoaaZ31
import Derived.Test.YtpnbpepkoekkoaaZ3
set_option linter.unusedVariables false
set_option linter.unusedSimpArgs false
set_option maxRecDepth 100000
set_option maxHeartbeats 16000000
namespace Go.Proofs.Ytpnbpepkoekkoaa
open Go.Value (int)
open Go.IntKind (i64)
section
open Go Go.RowKit Go.Deep
noncomputable def Qq : Code := (Try.f12.body).getD .skip
noncomputable def QI : Code := match Ab 0 Qq with
 | .seq a _ => a
 | c => c
noncomputable def QJ : Code := match Ab 1 Qq with
 | .seq a _ => a
 | c => c
noncomputable def QK : Code := match Ab 2 Qq with
 | .seq a _ => a
 | c => c
noncomputable def QL : Code := match Ab 3 Qq with
 | .seq a _ => a
 | c => c
noncomputable def QM : Code := match Ab 4 Qq with
 | .seq a _ => a
 | c => c
noncomputable def Qt : Code := match Ab 5 Qq with
 | .seq a _ => a
 | c => c
theorem QS : Ab 1 Qq = .seq QJ (Ab 2 Qq) := rfl
theorem QT : Ab 2 Qq = .seq QK (Ab 3 Qq) := rfl
theorem QU : Ab 3 Qq = .seq QL (Ab 4 Qq) := rfl
theorem QV : Ab 4 Qq = .seq QM (Ab 5 Qq) := rfl
theorem QW : Ab 5 Qq = .seq Qt (Ab 6 Qq) := rfl
theorem R9 (s : Ls) (ns : List Int) (w W : World) (n1 : Nat) (n2 : Nat) (h : LawIn s ns w) (hW : LawW s w W) (hrest : ∀ (V : World) (e0 e4 e5 e6 e7 e8 e9 ea eb ec ed ee ef eg eh ei ej ek el em en eo ep eq er es et eu ev ew ex ey ez eA eB eC eD eE eF eG eH eI eJ eK eL eM eN eO eP eQ eR eS eT eU eV eW eX eY eZ aa ab ac ad ae af ag ah ai aj ak al am an ao ap aq ar au av aw ax ay az aA aB aC aD aE aF aG aH aI : Value), LawW s w V → AE s ns = 0 → s.phrases.length ≤ 12 ∧ s.roles.length ≤ 70 ∧ s.dances.length ≤ 300 → (Ab 3 Qq).wp Try.prog (bodyPost Try.prog Try.f12 (fun e w' => e = .returned (.bool true) ∧ Below w.heap.size w w')) { tmps := #[e0, .int .u8 (n1 : Nat), .int .u8 (n2 : Nat), .pointer (some ⟨w.heap.size, 0, none⟩), e4, e5, e6, e7, e8, e9, ea, eb, ec, ed, ee, ef, eg, eh, ei, ej, ek, el, em, en, eo, ep, eq, er, es, et, eu, ev, ew, ex, ey, ez, eA, eB, eC, eD, eE, eF, eG, eH, eI, eJ, eK, eL, eM, eN, eO, eP, eQ, eR, eS, eT, eU, eV, eW, eX, eY, eZ, aa, ab, ac, ad, ae, af, ag, ah, ai, aj, ak, al, am, an, ao, ap, aq, ar, au, av, aw, ax, ay, az, aA, aB, aC, aD, aE, aF, aG, aH, aI], defers := [] } V) (e0 e4 e5 e6 e7 e8 e9 ea eb ec ed ee ef eg eh ei ej ek el em en eo ep eq er es et eu ev ew ex ey ez eA eB eC eD eE eF eG eH eI eJ eK eL eM eN eO eP eQ eR eS eT eU eV eW eX eY eZ aa ab ac ad ae af ag ah ai aj ak al am an ao ap aq ar au av aw ax ay az aA aB aC aD aE aF aG aH aI : Value) :
  (Ab 2 Qq).wp Try.prog (bodyPost Try.prog Try.f12 (fun e w' => e = .returned (.bool true) ∧ Below w.heap.size w w')) { tmps := #[e0, .int .u8 (n1 : Nat), .int .u8 (n2 : Nat), .pointer (some ⟨w.heap.size, 0, none⟩), e4, e5, e6, e7, e8, e9, ea, eb, ec, ed, ee, ef, eg, eh, ei, ej, ek, el, em, en, eo, ep, eq, er, es, et, eu, ev, ew, ex, ey, ez, eA, eB, eC, eD, eE, eF, eG, eH, eI, eJ, eK, eL, eM, eN, eO, eP, eQ, eR, eS, eT, eU, eV, eW, eX, eY, eZ, aa, ab, ac, ad, ae, af, ag, ah, ai, aj, ak, al, am, an, ao, ap, aq, ar, au, av, aw, ax, ay, az, aA, aB, aC, aD, aE, aF, aG, aH, aI], defers := [] } W := by
 have C := OU s W (h.at_.below hW.below) h.fit; unfold Ls.val at C; have HC := qh C; have HL := qh hW.box; have HW := qh hW; have HH := qh h; have HR := qh hrest; clear C h hW hrest; rw [QT]; refine Ac (fun K hK => ?_); have HK := qh hK; clear hK
 conv => arg 2; whnf
 go_wp2_with (refine wpList_load_row rfl 30 _ rfl w.heap.size rfl 30 s.cells (0, 0) _ HL.out Try.underlying30 rfl (by kernel_rfl) ?_; simp only [Act.put, qD, qE, qF]); refine HC.out.mono ?_; rintro e V ⟨b, rfl, hf, hv⟩; have H3 := qh (HW.out.next hv); have HF := qh hf; clear HC HL hv hf HW
 cases b with
 | false =>
  go_wp2_with fail
  try simp only [Exit.then]
  go_ret; exact ⟨rfl, H3.out.below⟩
 | true =>
 have C := Ck s ns V (HH.out.at_.below H3.out.below) (HH.out.ns.below H3.out.below) (HH.out.env _ H3.out.below); obtain ⟨c, hc⟩ : ∃ c, AE s ns = c := ⟨_, rfl⟩; unfold DD at C; rw [hc] at C; unfold Ls.val at C; have HC := qh C; have HL := qh H3.out.box; have HCE := qh hc; clear C hc
 go_wp2_with (refine BP (by kernel_rfl) 30 _ rfl w.heap.size rfl 30 s.cells (0, 0) _ HL.out Try.underlying30 rfl (by kernel_rfl) ?_; simp only [Act.put, qD, qE, qF]); refine HC.out.mono ?_; rintro e V2 ⟨rfl, hv⟩; have H4 := qh (H3.out.next hv); clear HC HL hv H3; by_cases hz : c = 0
 ·subst hz
  go_wp2_with fail; refine HK.out _ _ ?_; exact HR.out _ _ _ _ _ _ _ _ _ _ _ _ _ _ _ _ _ _ _ _ _ _ _ _ _ _ _ _ _ _ _ _ _ _ _ _ _ _ _ _ _ _ _ _ _ _ _ _ _ _ _ _ _ _ _ _ _ _ _ _ _ _ _ _ _ _ _ _ _ _ _ _ _ _ _ _ _ _ _ _ _ _ _ _ _ _ _ _ _ _ _ _ _ H4.out HCE.out (HF.out trivial)
 ·have hne : (c != 0) = true := by simpa using hz
  have hne2 : (c == 0) = false := by simpa using hz
  go_wp2_with fail
  try simp only [Exit.then]
  go_ret; exact ⟨rfl, H4.out.below⟩
theorem QR (s : Ls) (ns : List Int) (w : World) (n1 : Nat) (n2 : Nat) (h : LawIn s ns w) (hrest : ∀ (V : World) (e0 e4 e5 e6 e7 e8 e9 ea eb ec ed ee ef eg eh ei ej ek el em en eo ep eq er es et eu ev ew ex ey ez eA eB eC eD eE eF eG eH eI eJ eK eL eM eN eO eP eQ eR eS eT eU eV eW eX eY eZ aa ab ac ad ae af ag ah ai aj ak al am an ao ap aq ar au av aw ax ay az aA aB aC aD aE aF aG aH aI : Value), LawW s w V → AE s ns = 0 → s.phrases.length ≤ 12 ∧ s.roles.length ≤ 70 ∧ s.dances.length ≤ 300 → (Ab 3 Qq).wp Try.prog (bodyPost Try.prog Try.f12 (fun e w' => e = .returned (.bool true) ∧ Below w.heap.size w w')) { tmps := #[e0, .int .u8 (n1 : Nat), .int .u8 (n2 : Nat), .pointer (some ⟨w.heap.size, 0, none⟩), e4, e5, e6, e7, e8, e9, ea, eb, ec, ed, ee, ef, eg, eh, ei, ej, ek, el, em, en, eo, ep, eq, er, es, et, eu, ev, ew, ex, ey, ez, eA, eB, eC, eD, eE, eF, eG, eH, eI, eJ, eK, eL, eM, eN, eO, eP, eQ, eR, eS, eT, eU, eV, eW, eX, eY, eZ, aa, ab, ac, ad, ae, af, ag, ah, ai, aj, ak, al, am, an, ao, ap, aq, ar, au, av, aw, ax, ay, az, aA, aB, aC, aD, aE, aF, aG, aH, aI], defers := [] } V) : Calls Try.prog 12 #[s.val, .int .u8 (n1 : Nat), .int .u8 (n2 : Nat)] w (fun e w' => e = .returned (.bool true) ∧ Below w.heap.size w w') := by
 obtain ⟨W1, hW1, h1⟩ : ∃ W1, w.alloc (.cells s.cells 30) = W1 ∧ LawW s w W1 := ⟨_, rfl, (Below.refl _ w).alloc (qn _) _, heap_alloc_new w _⟩; obtain ⟨cs, hcs⟩ : ∃ cs, s.cells = cs := ⟨_, rfl⟩; have hsv : s.val = .agg cs := by rw [← hcs]; rfl
 have hW1' : w.alloc (.cells cs 30) = W1 := by rw [← hcs]; exact hW1
 rw [hsv]; have HW1 := qh hW1'; have HCS := qh hcs; have HH := qh h; have HR := qh hrest; have H1 := qh h1; clear hcs hW1 hW1' hsv h1 h hrest; go_enter Try.func12, Try.ntmps12; change Code.wp Try.prog (.seq QI (Ab 1 Qq)) _ _ _; refine Ac (fun K hK => ?_); have HK := qh hK; clear hK
 conv => arg 2; whnf
 go_wp2_with fail; refine HK.out _ _ ?_; clear HK K; rw [HW1.out]; rw [QS]; refine Ac (fun K hK => ?_); have HK := qh hK; clear hK
 conv => arg 2; whnf
 have C := OK W1 (fun V hV => HH.out.env _ (Ag H1.out.below hV)); have HC := qh C; clear C
 go_wp2_with (go_at_call 25; refine HC.out.mono ?_; rintro e V ⟨rfl, hv⟩); refine HK.out _ _ ?_; have H2 := qh (H1.out.next hv); clear HK K HC H1 HW1 hv; exact R9 s ns w V n1 n2 HH.out H2.out HR.out _ _ _ _ _ _ _ _ _ _ _ _ _ _ _ _ _ _ _ _ _ _ _ _ _ _ _ _ _ _ _ _ _ _ _ _ _ _ _ _ _ _ _ _ _ _ _ _ _ _ _ _ _ _ _ _ _ _ _ _ _ _ _ _ _ _ _ _ _ _ _ _ _ _ _ _ _ _ _ _ _ _ _ _ _ _ _ _ _ _ _ _
end
section
open Go Go.RowKit Go.Deep
theorem Qs {x : Ls} {ks : List Int} (h1 : Bp x.strip ks = 0) (h2 : ¬ FB x (AG x.strip) = true) : AE x ks = 180 := by
 unfold AE; rw [if_pos h1, if_neg h2]
theorem Qr {s : Ls} {f : Nm → Int} (h : FB s f = true) : (inB s.wd 1 1000 = true ∧ inB s.dp 1 1000 = true ∧ inB s.t0 1 127 = true ∧ inB s.t1 0 s.t0 = true) ∧ s.roles.all (BD s) = true ∧ BL ⟨s.bars, s.tempos, s.pauses, s.spans⟩ = 0 ∧ s.dances.all (C6 s f (C7 s.itsL f)) = true := by
 unfold FB at h; simp only [Bool.and_eq_true, decide_eq_true_eq] at h; obtain ⟨⟨a1, a2⟩, ⟨a3, a4⟩, a5, a6, _, _, a9⟩ := h; exact ⟨⟨a1, a2, a3, a4⟩, a5, a6, a9⟩
theorem Qx {b : Bool} (h : b = false) : ¬ b = true := by rw [h]; decide
theorem R8 {s : Ls} {ns : List Int} {n : Int} (h : AE s ns = 0) (hf : Po n) : AE { s with wd := n } ns = 180 :=
 Qs (x := { s with wd := n }) (GR (Dw h).1 n s.dp s.bars s.t0 s.t1 s.tempos s.pauses s.spans (qn _) (qn _) (qn _)) fun hs => Qx (PX hf (by omega) (by omega)) (Qr hs).1.1
theorem R3 {s : Ls} {ns : List Int} {n : Int} (h : AE s ns = 0) (hf : Po n) : AE { s with dp := n } ns = 180 :=
 Qs (x := { s with dp := n }) (GR (Dw h).1 s.wd n s.bars s.t0 s.t1 s.tempos s.pauses s.spans (qn _) (qn _) (qn _)) fun hs => Qx (PX hf (by omega) (by omega)) (Qr hs).1.2.1
theorem QO {s : Ls} {ns : List Int} {n : Int} (h : AE s ns = 0) (hf : Po n) : AE { s with bars := n } ns = 180 :=
 Qs (x := { s with bars := n }) (GR (Dw h).1 s.wd s.dp n s.t0 s.t1 s.tempos s.pauses s.spans (qn _) (qn _) (qn _)) fun hs => PW hf (Qr hs).2.2.1
theorem R4 {s : Ls} {ns : List Int} {n : Int} (h : AE s ns = 0) (hf : Po n) : AE { s with t0 := n } ns = 180 :=
 Qs (x := { s with t0 := n }) (GR (Dw h).1 s.wd s.dp s.bars n s.t1 s.tempos s.pauses s.spans (qn _) (qn _) (qn _)) fun hs => Qx (PX hf (by omega) (by omega)) (Qr hs).1.2.2.1
theorem R6 {s : Ls} {ns : List Int} {n : Int} (h : AE s ns = 0) (hf : Po n) : AE { s with t1 := n } ns = 180 :=
 Qs (x := { s with t1 := n }) (GR (Dw h).1 s.wd s.dp s.bars s.t0 n s.tempos s.pauses s.spans (qn _) (qn _) (qn _)) fun hs => by
  obtain ⟨_, _, h3, h4⟩ := (Qr hs).1; have h3' : inB s.t0 1 127 = true := h3; have h4' : inB n 0 s.t0 = true := h4; rw [PX hf (Int.le_refl _) (by rw [AY] at h3'; omega)] at h4'; exact absurd h4' (by decide)
theorem QP {s : Ls} {ns : List Int} (h : AE s ns = 0) : AE { s with ta := none, tc := 0, tempos := [] } ns = 180 :=
 Qs (x := { s with ta := none, tc := 0, tempos := [] }) (GR (Dw h).1 s.wd s.dp s.bars s.t0 s.t1 [] s.pauses s.spans (Nat.zero_le _) (qn _) (qn _)) fun hs => Pe (Qr hs).2.2.1
def Ls.withRD (s : Ls) (g c : Nat) (rs : List Rol) (g2 c2 : Nat) (ds : List Dan) : Ls := { s with ra := some ⟨g, 0, none⟩, rc := c, roles := rs, da := some ⟨g2, 0, none⟩, dc := c2, dances := ds }
def Ls.nsRD (s : Ls) (rs : List Rol) (ds : List Dan) : List Int := ({ s.strip with roles := rs, dances := ds } : Sc).refs.map (BJ s.strip.rnames s.strip.pnames)
theorem QH {s : Ls} {ns : List Int} (h : Bp s.strip ns = 0) (g c g2 c2 : Nat) {rs : List Rol} {ds : List Dan} (hr : rs.map Rol.name = s.roles.map Rol.name) (hd : ds.map (fun d => (d.rn, d.pn)) = s.dances.map fun d => (d.rn, d.pn)) : Bp (s.withRD g c rs g2 c2 ds).strip (s.nsRD rs ds) = 0 := by
 obtain ⟨h1, h2, h3, h4, h5, _⟩ := En h; have e1 : (s.withRD g c rs g2 c2 ds).strip.rnames = s.strip.rnames := hr; have e2 : (s.withRD g c rs g2 c2 ds).strip.pnames = s.strip.pnames := rfl; have l1 : rs.length = s.roles.length := by simpa using congrArg List.length hr
 have l2 : ds.length = s.dances.length := by simpa using congrArg List.length hd
 have e3 : (s.withRD g c rs g2 c2 ds).strip.refs = s.strip.refs := by
  have := congrArg (List.flatMap fun x : Nm × Nm => [(1, x.1), (2, x.2)]) hd; simp only [List.flatMap_map] at this; unfold Sc.refs; exact congrArg _ this
 have := GQ (s := (s.withRD g c rs g2 c2 ds).strip) ?_ ?_ ?_ h4 ?_
 ·rw [e1, e2] at this
  exact this
 ·unfold Sc.lims Sc.fit at h1 ⊢
  simp only [Bool.and_eq_true, decide_eq_true_eq] at h1 ⊢; obtain ⟨⟨b1, b2, b3, b4, b5, b6⟩, b7⟩ := h1; have b1' : s.roles.length ≤ 64 := b1; have b6' : s.dances.length ≤ 256 := b6; exact ⟨⟨show rs.length ≤ 64 by omega, b2, b3, b4, b5, show ds.length ≤ 256 by omega⟩, b7⟩
 ·unfold Sc.named at h2 ⊢
  rw [e1, e2]; exact h2
 ·unfold Sc.apart at h3 ⊢
  rw [e1, e2]; exact h3
 ·rw [e1, e2, e3]; exact h5
theorem Qv {s : Ls} {ns : List Int} (h : AE s ns = 0) (g c g2 c2 : Nat) {i : Nat} {r r' : Rol} (hr : s.roles[i]? = some r) (hn : r'.name = r.name) (hb : BD s r' = false) : AE (s.withRD g c (s.roles.set i r') g2 c2 s.dances) (s.nsRD (s.roles.set i r') s.dances) = 180 := by
 have hi := (ql.1 hr).1; refine Qs (QH (Dw h).1 g c g2 c2 ?_ rfl) fun hs => ?_
 ·rw [List.map_set, hn]
  refine List.ext_getElem? fun j => ?_
  rw [List.getElem?_set]
  split
  ·rename_i e; subst e
   rw [if_pos (by simpa using hi), List.getElem?_map, hr]; rfl
  ·rfl
 ·have h1 := List.all_eq_true.1 (Qr hs).2.1 r' (List.mem_of_getElem? (i := i) (show (s.roles.set i r')[i]? = some r' by rw [List.getElem?_set, if_pos rfl, if_pos hi]))
  have h2 : BD s r' = true := h1; rw [hb] at h2; exact absurd h2 (by decide)
theorem QG {s : Ls} {ns : List Int} (h : AE s ns = 0) (g c g2 c2 : Nat) {i : Nat} {d : Dan} {n : Int} (hd : s.dances[i]? = some d) (hf : Po n) : AE (s.withRD g c s.roles g2 c2 (s.dances.set i { d with bar := n })) (s.nsRD s.roles (s.dances.set i { d with bar := n })) = 180 := by
 have hi := (ql.1 hd).1; refine Qs (QH (Dw h).1 g c g2 c2 rfl ?_) fun hs => ?_
 ·rw [List.map_set]
  refine List.ext_getElem? fun j => ?_
  rw [List.getElem?_set]
  split
  ·rename_i e; subst e
   rw [if_pos (by simpa using hi), List.getElem?_map, hd]; rfl
  ·rfl
 ·have h1 := List.all_eq_true.1 (Qr hs).2.2.2 { d with bar := n } (List.mem_of_getElem? (i := i) (show (s.dances.set i { d with bar := n })[i]? = some { d with bar := n } by rw [List.getElem?_set, if_pos rfl, if_pos hi]))
  unfold C6 at h1; simp only [Bool.and_eq_true] at h1; have h2 : inB n 0 (s.bars - 1) = true := h1.1; have h3 := GS (Dw h).2.2.2.1; rw [PX hf (Int.le_refl _) (by omega)] at h2; exact absurd h2 (by decide)
theorem Ri {s : Ls} {W : World} {g c g2 c2 : Nat} {rs : List Rol} {ds : List Dan} (hA : s.At W) (hN : NumsBy s.num W s.refs) (hl : rs.length ≤ maxLen) (hl2 : ds.length ≤ maxLen) (hg : g < W.heap.size) (hv : RowV FO W g rs) (hv2 : RowV (JE s.num) W g2 ds) :
  (s.withRD g c rs g2 c2 ds).At W ∧ NsAt W (s.withRD g c rs g2 c2 ds).refs (s.nsRD rs ds) := by
 obtain ⟨d1, d2⟩ := Hc (g := s.num) (W := W) (b := g2) (o := 0) (ds := ds) (fun j u hj => by rw [Nat.zero_add]; exact hv2 j u hj); refine ⟨⟨⟨_, c, rfl, hl, Or.inr ⟨g, 0, rfl, (Fy Le).2 fun j u hj => by rw [Nat.zero_add]; exact hv j u hj, hg⟩⟩, hA.tempos, hA.pauses, hA.spans, hA.pform, hA.plen, hA.phrases, Or.inr rfl, hl2, d1⟩, ?_⟩
 have hb : NumsBy s.num W (s.withRD g c rs g2 c2 ds).refs := fun x hx => by
  rcases List.mem_append.1 hx with hx | hx
  ·exact OZ hN x hx
  ·exact d2 x hx
 have := J1 hb; rw [Ls.refs_key] at this; exact this
theorem Qy {α : Type} {enc : α → List Value} {k : Nat} (hk : ∀ x, (enc x).length = k) {W : World} {g i q : Nat} {xs : List α} {x x' : α} {v : Value} (h : RowV enc W g xs) (hx : xs[i]? = some x) (hq : (enc x')[q]? = some v) (hsame : ∀ r, r ≠ q → (enc x')[r]? = (enc x)[r]?) : RowV enc (W.setCell ⟨g, i * k + q, none⟩ v) g (xs.set i x') := by
 have hi := (ql.1 hx).1; have hql : q < k := by rw [← hk x']; exact (ql.1 hq).1
 have hg := fun r u hr => h.get hk (r := r) (u := u) hx hr
 refine h.set hk hi (fun r u hr => ?_) (fun q' v' hq' hc => Ad hc (Av (Or.inr (by omega)))); by_cases h4 : r = q
 ·subst h4
  rw [hq] at hr; cases hr; obtain ⟨u0, hu0⟩ : ∃ u, (enc x)[r]? = some u := ⟨_, qg (by rw [hk x]; exact hql)⟩; exact World.cell?_setCell_same _ _ _ (hg r _ hu0)
 ·rw [hsame r h4] at hr
  exact Ad (hg r u hr) (Av (Or.inr (by omega)))
end
section
open Go Go.RowKit Go.Deep
end
section
open Go Go.RowKit Go.Deep
theorem Qw {w : World} {B e k n : Nat} {v : Value} {xs : List Value} (h : w.ownsRow B e k v n xs) (hv : ∃ g, v.ownBlock = some g) : ∃ g c, v = .slice (some ⟨g, 0, none⟩) n c ∧ B ≤ g ∧ FreeB w g ∧ ∀ j u, xs[j]? = some u → w.cell? ⟨g, j, none⟩ = some u := by
 rcases h.2 with ⟨rfl, rfl⟩ | ⟨g, cap, cur, rfl, hg, hh, _⟩
 ·obtain ⟨g, hg⟩ := hv; cases hg
 ·refine ⟨g, cap, rfl, hg, ⟨cur, _, hh⟩, fun j u hj => ?_⟩
  have := h.cells (g := g) rfl j u hj; rw [AX, Nat.zero_add] at this; exact this
end
end Go.Proofs.Ytpnbpepkoekkoaa
