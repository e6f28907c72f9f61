/- The walk of the statement: part 6. -/
import Derived.Test.YtpnbpepkoekkoaaZ37
import Derived.Test.YtpnbpepkoekkoaaYYR15p3
import Derived.ChangeKeysEq
import Derived.BigQuiet
import Derived.BigCall
import Derived.BigGuard
set_option linter.unusedVariables false
set_option linter.unusedSimpArgs false
section
namespace Go.Proofs.Ytpnbpepkoekkoaa
open Go Go.RowKit Go.Deep
end Go.Proofs.Ytpnbpepkoekkoaa
end
section
namespace Go.Proofs.Ytpnbpepkoekkoaa
open Go Go.RowKit Go.Deep
end Go.Proofs.Ytpnbpepkoekkoaa
end
section
namespace Go.Proofs.Ytpnbpepkoekkoaa
open Go Go.RowKit Go.Deep
theorem Lt.small_ok : ∀ (T : Lt) (d : Nat), T.strip.ok d = true → T.size ≤ 100000 → T.small
 | .nil, _, _, _ => trivial
 | .cons _ _ _ _ _ its _ _ ms r, d, h1, h2 => by
  obtain ⟨h3, _, h4, h5⟩ := (Its.ok_cons ..).1 h1
  simp only [Lt.size] at h2
  have h6 := its.strip.len_le_size
  rw [its.strip_len, its.strip_size] at h6
  exact ⟨by omega, by omega, its.small_ok _ h4 (by omega), r.small_ok d h5 (by omega)⟩
theorem mem_sizeP {ps : List Phr} {p : Phr} (h : p ∈ ps) : p.items.size ≤ sizeP ps := by
 induction ps with
 | nil => cases h
 | cons q r ih =>
  have e : sizeP (q :: r) = q.items.size + sizeP r := by simp [sizeP]
  rcases List.mem_cons.1 h with rfl | h
  ·omega
  ·have := ih h; omega
theorem Ls.lims_cp {s : Ls} (h : s.strip.lims = true) : s.cpOk := by
 obtain ⟨h1, h2, h3⟩ := (lims_iff _).1 h
 obtain ⟨f1, _, _, _, f5, f6⟩ := (fitIff _).1 h1
 have f5' : s.phrases.length ≤ 64 := by
  have e : s.strip.phrases.length = s.phrases.length := by simp [Ls.strip]
  rw [← e]; exact f5
 have f1' : s.roles.length ≤ 64 := f1
 have f6' : s.dances.length ≤ 256 := f6
 refine ⟨by omega, by omega, by omega, fun p hp => ?_⟩
 have hm : p.strip ∈ s.strip.phrases := List.mem_map.2 ⟨p, hp, rfl⟩
 have h4 : p.its.strip.ok 1 = true := h2 _ hm
 have h5 : p.its.strip.size ≤ 4096 := Nat.le_trans (mem_sizeP hm) h3
 have h6 := p.its.strip.len_le_size
 rw [p.its.strip_size] at h5
 rw [p.its.strip_len, p.its.strip_size] at h6
 exact ⟨by omega, p.its.small_ok 1 h4 (by omega)⟩
theorem wp_seq_thenQ {P : Program} {x y : Code} {Q : Exit → Act → World → Prop} {a : Act} {w : World} (h : ∀ K : Act → World → Prop, (∀ a w, y.wp P Q a w → K a w) → x.wp P (Exit.then K Q) a w) : (Code.seq x y).wp P Q a w := wp_seq (h _ fun _ _ h => h)
end Go.Proofs.Ytpnbpepkoekkoaa
end
section
namespace Go.Proofs.Ytpnbpepkoekkoaa
open Go Go.RowKit Go.Deep
theorem two_box (w : World) (xs ys : Array Value) : ∃ W1, (w.alloc (.cells xs 30)).alloc (.cells ys 30) = W1 ∧ W1.heap[w.heap.size]? = some (.cells xs 30 (0, 0)) ∧ W1.heap[w.heap.size + 1]? = some (.cells ys 30 (0, 0)) ∧ Below w.heap.size w W1 ∧ W1.heap.size = w.heap.size + 2 := by
 refine ⟨_, rfl, (heap_alloc_old _ _ (by simp)).trans (heap_alloc_new w _), ?_, ((Below.refl _ w).alloc (Nat.le_refl _) _).alloc (by simp) _, by simp⟩
 have := heap_alloc_new (w.alloc (.cells xs 30)) (.cells ys 30)
 simpa using this
theorem at_roles {w : World} {b o i : Nat} {xs : List Rol} {p : Rol} (h : AtRow encR 4 w b o xs) (hp : xs[i]? = some p) : w.cell? ⟨b, o + i * 4, none⟩ = some (sv p.name) ∧ w.cell? ⟨b, o + i * 4 + 1, none⟩ = some (.int .i64 p.x) ∧ w.cell? ⟨b, o + i * 4 + 2, none⟩ = some (.int .i64 p.y) ∧ w.cell? ⟨b, o + i * 4 + 3, none⟩ = some (.int .i64 p.face) :=
 ⟨h i p hp 0 _ rfl, h i p hp 1 _ rfl, h i p hp 2 _ rfl, h i p hp 3 _ rfl⟩
theorem at_tempos {w : World} {b o i : Nat} {xs : List Tmp} {p : Tmp} (h : AtRow encT 3 w b o xs) (hp : xs[i]? = some p) : w.cell? ⟨b, o + i * 3, none⟩ = some (.int .i64 p.bar) ∧ w.cell? ⟨b, o + i * 3 + 1, none⟩ = some (.int .i64 p.ticks) ∧ w.cell? ⟨b, o + i * 3 + 2, none⟩ = some (.int .i64 p.step) :=
 ⟨h i p hp 0 _ rfl, h i p hp 1 _ rfl, h i p hp 2 _ rfl⟩
theorem at_pauses {w : World} {b o i : Nat} {xs : List Pau} {p : Pau} (h : AtRow encP 4 w b o xs) (hp : xs[i]? = some p) : w.cell? ⟨b, o + i * 4, none⟩ = some (.int .i64 p.bar) ∧ w.cell? ⟨b, o + i * 4 + 1, none⟩ = some (.int .i64 p.kind) ∧ w.cell? ⟨b, o + i * 4 + 2, none⟩ = some (.int .i64 p.lo) ∧ w.cell? ⟨b, o + i * 4 + 3, none⟩ = some (.int .i64 p.hi) :=
 ⟨h i p hp 0 _ rfl, h i p hp 1 _ rfl, h i p hp 2 _ rfl, h i p hp 3 _ rfl⟩
theorem at_spans {w : World} {b o i : Nat} {xs : List Con} {p : Con} (h : AtRow encC 4 w b o xs) (hp : xs[i]? = some p) : w.cell? ⟨b, o + i * 4, none⟩ = some (.int .i64 p.frm) ∧ w.cell? ⟨b, o + i * 4 + 1, none⟩ = some (.int .i64 p.to) ∧ w.cell? ⟨b, o + i * 4 + 2, none⟩ = some (.int .i64 p.lo) ∧ w.cell? ⟨b, o + i * 4 + 3, none⟩ = some (.int .i64 p.hi) :=
 ⟨h i p hp 0 _ rfl, h i p hp 1 _ rfl, h i p hp 2 _ rfl, h i p hp 3 _ rfl⟩
theorem box_cells {w : World} {A : Nat} {s : Ls} (h : w.heap[A]? = some (.cells s.cells 30 (0, 0))) : w.cell? ⟨A, 6, none⟩ = some (.slice s.ra s.roles.length s.rc) ∧ w.cell? ⟨A, 7, none⟩ = some (.slice s.ta s.tempos.length s.tc) ∧ w.cell? ⟨A, 8, none⟩ = some (.slice s.ua s.pauses.length s.uc) ∧ w.cell? ⟨A, 9, none⟩ = some (.slice s.sa s.spans.length s.sc) ∧ w.cell? ⟨A, 11, none⟩ = some (.slice s.da s.dances.length s.dc) :=
 ⟨cell_at h 6 rfl, cell_at h 7 rfl, cell_at h 8 rfl, cell_at h 9 rfl, cell_at h 11 rfl⟩
set_option maxRecDepth 100000 in
set_option maxHeartbeats 16000000 in
theorem sameTimes_any (x y : Ls) (ks : List Int) (w : World) (hA : x.At w) (hA' : y.At w) (hs : x.strip = y.strip) (hN : NsAt w (danRefs (blk x.da) (off x.da) x.dances) ks) (hN' : NsAt w (danRefs (blk y.da) (off y.da) y.dances) ks) :
  Calls Try.prog 77 #[x.val, y.val] w fun e w' => e = .returned (.bool true) ∧ Below w.heap.size w w' := by
 obtain ⟨W1, hW1, hX, hY, hB, hS⟩ := two_box w x.cells y.cells
 have eroles : y.roles = x.roles := (congrArg Sc.roles hs).symm
 have etempos : y.tempos = x.tempos := (congrArg Sc.tempos hs).symm
 have epauses : y.pauses = x.pauses := (congrArg Sc.pauses hs).symm
 have espans : y.spans = x.spans := (congrArg Sc.spans hs).symm
 have edances : y.dances = x.dances := (congrArg Sc.dances hs).symm
 have hAW := hA.below hB; have hAW' := hA'.below hB
 obtain ⟨x6, x7, x8, x9, x11⟩ := box_cells hX
 obtain ⟨y6, y7, y8, y9, y11⟩ := box_cells hY
 rw [eroles] at y6
 rw [etempos] at y7
 rw [epauses] at y8
 rw [espans] at y9
 rw [edances] at y11
 have hrroles := hAW'.roles
 rw [eroles] at hrroles
 have HXroles := Lib.hid hAW.roles; have HYroles := Lib.hid hrroles
 clear hrroles
 have hrtempos := hAW'.tempos
 rw [etempos] at hrtempos
 have HXtempos := Lib.hid hAW.tempos; have HYtempos := Lib.hid hrtempos
 clear hrtempos
 have hrpauses := hAW'.pauses
 rw [epauses] at hrpauses
 have HXpauses := Lib.hid hAW.pauses; have HYpauses := Lib.hid hrpauses
 clear hrpauses
 have hrspans := hAW'.spans
 rw [espans] at hrspans
 have HXspans := Lib.hid hAW.spans; have HYspans := Lib.hid hrspans
 clear hrspans
 have hd := hAW'.dances; have hdf := hAW'.dform; have hN2 := hN'.below hB
 rw [edances] at hd hdf hN2
 have HD := Lib.hid hAW.dances; have HD' := Lib.hid hd; have HDF := Lib.hid hAW.dform; have HDF' := Lib.hid hdf; have HN := Lib.hid (hN.below hB); have HN' := Lib.hid hN2
 have hlroles := (HXroles.out).choose_spec.choose_spec.2.1
 unfold maxLen at hlroles
 have hltempos := (HXtempos.out).choose_spec.choose_spec.2.1
 unfold maxLen at hltempos
 have hlpauses := (HXpauses.out).choose_spec.choose_spec.2.1
 unfold maxLen at hlpauses
 have hlspans := (HXspans.out).choose_spec.choose_spec.2.1
 unfold maxLen at hlspans
 have hldances := hAW.dlen
 unfold maxLen at hldances
 have hsv : x.val = .agg x.cells := rfl
 have hsv' : y.val = .agg y.cells := rfl
 rw [hsv, hsv']
 have HB := Lib.hid hB
 have HCroles := Lib.hid (And.intro x6 y6)
 clear x6 y6
 have HCtempos := Lib.hid (And.intro x7 y7)
 clear x7 y7
 have HCpauses := Lib.hid (And.intro x8 y8)
 clear x8 y8
 have HCspans := Lib.hid (And.intro x9 y9)
 clear x9 y9
 have HCdances := Lib.hid (And.intro x11 y11)
 clear x11 y11
 clear hsv hsv' hN2 hd hdf hA hA' hAW hAW' hX hY hB hS hN hN' hs eroles etempos epauses espans edances
 generalize hcx : x.cells = xs at *
 generalize hcy : y.cells = ys at *
 have HW1 := Lib.hid hW1
 clear hcx hcy hW1
 generalize hnroles : x.roles.length = nroles at *
 have HLroles := Lib.hid hnroles
 clear hnroles
 generalize hntempos : x.tempos.length = ntempos at *
 have HLtempos := Lib.hid hntempos
 clear hntempos
 generalize hnpauses : x.pauses.length = npauses at *
 have HLpauses := Lib.hid hnpauses
 clear hnpauses
 generalize hnspans : x.spans.length = nspans at *
 have HLspans := Lib.hid hnspans
 clear hnspans
 generalize hndances : x.dances.length = ndances at *
 have HLdances := Lib.hid hndances
 clear hndances
 go_enter Try.func77, Try.ntmps77
 refine wp_seq_thenQ (fun K hK => ?_)
 have HK := Lib.hid hK
 clear hK
 go_wp2_with fail
 have e0 : (w.alloc (.cells xs 30)).alloc (.cells ys 30) = W1 := HW1.out
 rw [e0]
 refine HK.out _ _ ?_
 clear HK K e0 HW1
 obtain ⟨x6, y6⟩ := HCroles.out
 obtain ⟨x7, y7⟩ := HCtempos.out
 obtain ⟨x8, y8⟩ := HCpauses.out
 obtain ⟨x9, y9⟩ := HCspans.out
 obtain ⟨x11, y11⟩ := HCdances.out
 go_wp2_with fail
 clear x6 y6 x7 y7 x8 y8 x9 y9 x11 y11
 go_loopw [5, 6] (fun sv iv wr => ∃ (i q : Nat), sv = .bool true ∧ iv = .int .i64 i ∧ i ≤ nroles ∧ wr = W1.drewN q) (fun _ iv _ => nroles + 1 - (intOf iv).toNat)
 case atStart => exact ⟨0, 0, rfl, rfl, Nat.zero_le _, rfl⟩
 case round =>
  obtain ⟨i0, q0, rfl, rfl, hi0, rfl⟩ := hrel
  by_cases hlt : i0 < nroles
  ·have hji : (i0 : Int) < (nroles : Int) := by omega
   obtain ⟨p, hp⟩ : ∃ p, x.roles[i0]? = some p := ⟨_, List.getElem?_eq_getElem (by rw [HLroles.out]; exact hlt)⟩
   obtain ⟨b1, o1, ea, hat, _⟩ := HXroles.out.block hp
   obtain ⟨b2, o2, ea2, hat2, _⟩ := (by have := HYroles.out; rw [← HLroles.out] at this; exact this : IsRow _ _ _ (.slice y.ra x.roles.length y.rc) _).block hp
   obtain ⟨f0, f1, f2, f3⟩ := at_roles hat hp
   obtain ⟨g0, g1, g2, g3⟩ := at_roles hat2 hp
   obtain ⟨hx, hy⟩ := HCroles.out
   rw [ea] at hx
   rw [ea2] at hy
   clear ea ea2 hat hat2 hp
   go_wp2_with fail
   go_quiet (fail)
   go_wp2_with fail
   go_roundw
   case rel => exact ⟨i0 + 1, _, rfl, by go_num, by omega, rfl⟩
   case measure => simp [intOf]; omega
  ·obtain rfl : i0 = nroles := by omega
   have hz : ¬ (i0 : Int) < (i0 : Int) := by omega
   obtain ⟨hx, hy⟩ := HCroles.out
   obtain ⟨hx2, hy2⟩ := HCtempos.out
   go_wp2_with fail
   clear hx hy hx2 hy2 hz
   go_loopw [5, 7] (fun sv iv wr => ∃ (i q : Nat), sv = .bool true ∧ iv = .int .i64 i ∧ i ≤ ntempos ∧ wr = W1.drewN q) (fun _ iv _ => ntempos + 1 - (intOf iv).toNat)
   case atStart => exact ⟨0, q0, rfl, rfl, Nat.zero_le _, rfl⟩
   case round =>
    obtain ⟨i1, q1, rfl, rfl, hi1, rfl⟩ := hrel
    by_cases hlt : i1 < ntempos
    ·have hji : (i1 : Int) < (ntempos : Int) := by omega
     obtain ⟨p, hp⟩ : ∃ p, x.tempos[i1]? = some p := ⟨_, List.getElem?_eq_getElem (by rw [HLtempos.out]; exact hlt)⟩
     obtain ⟨b1, o1, ea, hat, _⟩ := HXtempos.out.block hp
     obtain ⟨b2, o2, ea2, hat2, _⟩ := (by have := HYtempos.out; rw [← HLtempos.out] at this; exact this : IsRow _ _ _ (.slice y.ta x.tempos.length y.tc) _).block hp
     obtain ⟨f0, f1, f2⟩ := at_tempos hat hp
     obtain ⟨g0, g1, g2⟩ := at_tempos hat2 hp
     obtain ⟨hx, hy⟩ := HCtempos.out
     rw [ea] at hx
     rw [ea2] at hy
     clear ea ea2 hat hat2 hp
     go_wp2_with fail
     go_quiet (fail)
     go_wp2_with fail
     go_roundw
     case rel => exact ⟨i1 + 1, _, rfl, by go_num, by omega, rfl⟩
     case measure => simp [intOf]; omega
    ·obtain rfl : i1 = ntempos := by omega
     have hz : ¬ (i1 : Int) < (i1 : Int) := by omega
     obtain ⟨hx, hy⟩ := HCtempos.out
     obtain ⟨hx2, hy2⟩ := HCpauses.out
     go_wp2_with fail
     clear hx hy hx2 hy2 hz
     go_loopw [5, 8] (fun sv iv wr => ∃ (i q : Nat), sv = .bool true ∧ iv = .int .i64 i ∧ i ≤ npauses ∧ wr = W1.drewN q) (fun _ iv _ => npauses + 1 - (intOf iv).toNat)
     case atStart => exact ⟨0, q1, rfl, rfl, Nat.zero_le _, rfl⟩
     case round =>
      obtain ⟨i2, q2, rfl, rfl, hi2, rfl⟩ := hrel
      by_cases hlt : i2 < npauses
      ·have hji : (i2 : Int) < (npauses : Int) := by omega
       obtain ⟨p, hp⟩ : ∃ p, x.pauses[i2]? = some p := ⟨_, List.getElem?_eq_getElem (by rw [HLpauses.out]; exact hlt)⟩
       obtain ⟨b1, o1, ea, hat, _⟩ := HXpauses.out.block hp
       obtain ⟨b2, o2, ea2, hat2, _⟩ := (by have := HYpauses.out; rw [← HLpauses.out] at this; exact this : IsRow _ _ _ (.slice y.ua x.pauses.length y.uc) _).block hp
       obtain ⟨f0, f1, f2, f3⟩ := at_pauses hat hp
       obtain ⟨g0, g1, g2, g3⟩ := at_pauses hat2 hp
       obtain ⟨hx, hy⟩ := HCpauses.out
       rw [ea] at hx
       rw [ea2] at hy
       clear ea ea2 hat hat2 hp
       go_wp2_with fail
       go_quiet (fail)
       go_wp2_with fail
       go_roundw
       case rel => exact ⟨i2 + 1, _, rfl, by go_num, by omega, rfl⟩
       case measure => simp [intOf]; omega
      ·obtain rfl : i2 = npauses := by omega
       have hz : ¬ (i2 : Int) < (i2 : Int) := by omega
       obtain ⟨hx, hy⟩ := HCpauses.out
       obtain ⟨hx2, hy2⟩ := HCspans.out
       go_wp2_with fail
       clear hx hy hx2 hy2 hz
       go_loopw [5, 9] (fun sv iv wr => ∃ (i q : Nat), sv = .bool true ∧ iv = .int .i64 i ∧ i ≤ nspans ∧ wr = W1.drewN q) (fun _ iv _ => nspans + 1 - (intOf iv).toNat)
       case atStart => exact ⟨0, q2, rfl, rfl, Nat.zero_le _, rfl⟩
       case round =>
        obtain ⟨i3, q3, rfl, rfl, hi3, rfl⟩ := hrel
        by_cases hlt : i3 < nspans
        ·have hji : (i3 : Int) < (nspans : Int) := by omega
         obtain ⟨p, hp⟩ : ∃ p, x.spans[i3]? = some p := ⟨_, List.getElem?_eq_getElem (by rw [HLspans.out]; exact hlt)⟩
         obtain ⟨b1, o1, ea, hat, _⟩ := HXspans.out.block hp
         obtain ⟨b2, o2, ea2, hat2, _⟩ := (by have := HYspans.out; rw [← HLspans.out] at this; exact this : IsRow _ _ _ (.slice y.sa x.spans.length y.sc) _).block hp
         obtain ⟨f0, f1, f2, f3⟩ := at_spans hat hp
         obtain ⟨g0, g1, g2, g3⟩ := at_spans hat2 hp
         obtain ⟨hx, hy⟩ := HCspans.out
         rw [ea] at hx
         rw [ea2] at hy
         clear ea ea2 hat hat2 hp
         go_wp2_with fail
         go_quiet (fail)
         go_wp2_with fail
         go_roundw
         case rel => exact ⟨i3 + 1, _, rfl, by go_num, by omega, rfl⟩
         case measure => simp [intOf]; omega
        ·obtain rfl : i3 = nspans := by omega
         have hz : ¬ (i3 : Int) < (i3 : Int) := by omega
         obtain ⟨hx, hy⟩ := HCspans.out
         obtain ⟨hx2, hy2⟩ := HCdances.out
         go_wp2_with fail
         clear hx hy hx2 hy2 hz
         go_loopw [5, 10] (fun sv iv wr => ∃ (i q : Nat) (R : List Dan) (ls : List Int), sv = .bool true ∧ iv = .int .i64 i ∧ i + R.length = ndances ∧ wr = W1.drewN q ∧ Hid (danAt W1 (blk x.da) (off x.da + i * 6) R) ∧ Hid (danAt W1 (blk y.da) (off y.da + i * 6) R) ∧ Hid (NsAt W1 (danRefs (blk x.da) (off x.da + i * 6) R) ls) ∧ Hid (NsAt W1 (danRefs (blk y.da) (off y.da + i * 6) R) ls)) (fun _ iv _ => ndances + 1 - (intOf iv).toNat)
         case atStart => exact ⟨0, q3, x.dances, ks, rfl, rfl, by rw [HLdances.out]; omega, rfl, by simpa [Hid] using HD.out, by simpa [Hid] using HD'.out, by simpa [Hid] using HN.out, by simpa [Hid] using HN'.out⟩
         case round =>
          obtain ⟨i, q, R, ls, rfl, rfl, hin, rfl, h1, h2, h3, h4⟩ := hrel
          obtain ⟨hx, hy⟩ := HCdances.out
          cases R with
          | nil =>
           simp only [List.length_nil, Nat.add_zero] at hin
           subst hin
           go_wp2_with fail
           go_ret
           exact ⟨rfl, below_drewN HB.out _⟩
          | cons d R =>
           simp only [List.length_cons] at hin
           have hji : (i : Int) < (ndances : Int) := by omega
           have ea := HDF.out.resolve_left (fun e => by have := HLdances.out; rw [e] at this; simp at this; omega)
           have ea2 := HDF'.out.resolve_left (fun e => by have := HLdances.out; rw [e] at this; simp at this; omega)
           obtain ⟨⟨f0, f2, f4, f5⟩, hr1⟩ := h1.out
           obtain ⟨⟨g0, g2, g4, g5⟩, hr2⟩ := h2.out
           match ls, h3.out, h4.out with
           | n1 :: n2 :: ls, ⟨f1, f3, hr3⟩, ⟨g1, g3, hr4⟩ =>
           have HNY : Hid (danAt W1 (blk x.da) (off x.da + (i + 1) * 6) R ∧ danAt W1 (blk y.da) (off y.da + (i + 1) * 6) R ∧ NsAt W1 (danRefs (blk x.da) (off x.da + (i + 1) * 6) R) ls ∧ NsAt W1 (danRefs (blk y.da) (off y.da + (i + 1) * 6) R) ls) := Lib.hid (by
            rw [show off x.da + (i + 1) * 6 = off x.da + i * 6 + 6 by omega, show off y.da + (i + 1) * 6 = off y.da + i * 6 + 6 by omega]
            exact ⟨hr1, hr2, hr3, hr4⟩)
           rw [ea] at hx
           rw [ea2] at hy
           clear h1 h2 h3 h4 hr1 hr2 hr3 hr4 ea ea2
           have f3' : W1.cell? ⟨blk x.da, off x.da + i * 6 + 3, none⟩ = some (.int .i64 n2) := f3
           have g3' : W1.cell? ⟨blk y.da, off y.da + i * 6 + 3, none⟩ = some (.int .i64 n2) := g3
           have f1' : W1.cell? ⟨blk x.da, off x.da + i * 6 + 1, none⟩ = some (.int .i64 n1) := f1
           have g1' : W1.cell? ⟨blk y.da, off y.da + i * 6 + 1, none⟩ = some (.int .i64 n1) := g1
           clear f1 g1 f3 g3
           go_wp2_with fail
           go_quiet (fail)
           go_wp2_with fail
           go_roundw
           case rel => exact ⟨i + 1, _, R, ls, rfl, by go_num, by omega, rfl, Lib.hid HNY.out.1, Lib.hid HNY.out.2.1, Lib.hid HNY.out.2.2.1, Lib.hid HNY.out.2.2.2⟩
           case measure => simp [intOf]; omega
end Go.Proofs.Ytpnbpepkoekkoaa
end
section
namespace Go.Proofs.Ytpnbpepkoekkoaa
open Go Go.RowKit Go.Deep
theorem all_cells {w : World} {A : Nat} {s : Ls} (h : w.heap[A]? = some (.cells s.cells 30 (0, 0))) : w.cell? ⟨A, 0, none⟩ = some (sv s.name) ∧ w.cell? ⟨A, 1, none⟩ = some (.int .i64 s.wd) ∧ w.cell? ⟨A, 2, none⟩ = some (.int .i64 s.dp) ∧ w.cell? ⟨A, 3, none⟩ = some (.int .i64 s.bars) ∧ w.cell? ⟨A, 4, none⟩ = some (.int .i64 s.t0) ∧ w.cell? ⟨A, 5, none⟩ = some (.int .i64 s.t1) ∧ w.cell? ⟨A, 6, none⟩ = some (.slice s.ra s.roles.length s.rc) ∧ w.cell? ⟨A, 7, none⟩ = some (.slice s.ta s.tempos.length s.tc) ∧ w.cell? ⟨A, 8, none⟩ = some (.slice s.ua s.pauses.length s.uc) ∧ w.cell? ⟨A, 9, none⟩ = some (.slice s.sa s.spans.length s.sc) ∧ w.cell? ⟨A, 10, none⟩ = some (.slice s.fa s.phrases.length s.fc) ∧ w.cell? ⟨A, 11, none⟩ = some (.slice s.da s.dances.length s.dc) :=
 ⟨cell_at h 0 rfl, cell_at h 1 rfl, cell_at h 2 rfl, cell_at h 3 rfl, cell_at h 4 rfl, cell_at h 5 rfl, cell_at h 6 rfl, cell_at h 7 rfl, cell_at h 8 rfl, cell_at h 9 rfl, cell_at h 10 rfl, cell_at h 11 rfl⟩
theorem phRefs_len2 : ∀ {ps qs : List Ph}, ps.map Ph.strip = qs.map Ph.strip → (phRefs ps).length = (phRefs qs).length := by
 intro ps qs h
 have e1 := congrArg List.length (phRefs_key ps)
 have e2 := congrArg List.length (phRefs_key qs)
 rw [List.length_map] at e1 e2
 rw [e1, e2, h]
theorem eq_same22 (a b : Int) (w : World) : (Op.equalIn 10000 22 (.agg #[.int .i64 a, .int .i64 b]) (.agg #[.int .i64 a, .int .i64 b])).run Try.prog w = .ok true w := by
 have u3 := Try.underlying3
 have a3 := Try.isAgg3
 have z3 := Try.sizeOf3
 have hc : Try.prog.cellsOf 3 = 1 := by kernel_rfl
 have hq : (Try.prog.info? 3).isSome = true := by kernel_rfl
 obtain ⟨i3, hi3⟩ := Option.isSome_iff_exists.1 hq
 rw [show (10000 : Nat) = 9998 + 1 + 1 from rfl, run_equalIn_array w (9998 + 1) _ _ Try.underlying22 hi3, hc]
 simp only [List.range, List.range.loop, Op.eqItems]
 go_simp
attribute [local go_sem] eq_same22
set_option maxRecDepth 100000 in
set_option maxHeartbeats 16000000 in
theorem same_any50 (x y : Ls) (ns : List Int) (w : World) (hA : x.At w) (hA' : y.At w) (hs : x.strip = y.strip) (hN : NsAt w x.refs ns) (hN' : NsAt w y.refs ns) :
  Calls Try.prog 50 #[x.val, y.val] w fun e w' => e = .returned (.bool true) ∧ Below w.heap.size w w' := by
 obtain ⟨W1, hW1, hX, hY, hB, hS⟩ := two_box w x.cells y.cells
 have hps : y.phrases.map Ph.strip = x.phrases.map Ph.strip := (congrArg Sc.phrases hs).symm
 have ephrases : y.phrases.length = x.phrases.length := by have := congrArg List.length hps; simpa using this
 obtain ⟨k1, k2, hP, hD, hP', hD'⟩ := hN.split2 hN' (phRefs_len2 hps.symm)
 have ename : y.name = x.name := (congrArg Sc.name hs).symm
 have ewd : y.wd = x.wd := (congrArg Sc.wd hs).symm
 have edp : y.dp = x.dp := (congrArg Sc.dp hs).symm
 have ebars : y.bars = x.bars := (congrArg Sc.bars hs).symm
 have et0 : y.t0 = x.t0 := (congrArg Sc.t0 hs).symm
 have et1 : y.t1 = x.t1 := (congrArg Sc.t1 hs).symm
 have eroles : y.roles = x.roles := (congrArg Sc.roles hs).symm
 have etempos : y.tempos = x.tempos := (congrArg Sc.tempos hs).symm
 have epauses : y.pauses = x.pauses := (congrArg Sc.pauses hs).symm
 have espans : y.spans = x.spans := (congrArg Sc.spans hs).symm
 have edances : y.dances = x.dances := (congrArg Sc.dances hs).symm
 have bW := below_drewN (Below.refl w.heap.size w)
 have hAW := hA.below hB; have hAW' := hA'.below hB; have hDW := hD.below hB; have hDW' := hD'.below hB
 have hT := fun q => sameTimes_any x y k2 (W1.drewN q) (hAW.below (below_drewN (Below.refl _ W1) q)) (hAW'.below (below_drewN (Below.refl _ W1) q)) hs (hDW.dn q) (hDW'.dn q)
 unfold Ls.val Ls.cells at hT
 obtain ⟨x0, x1, x2, x3, x4, x5, x6, x7, x8, x9, x10, x11⟩ := all_cells hX
 obtain ⟨y0, y1, y2, y3, y4, y5, y6, y7, y8, y9, y10, y11⟩ := all_cells hY
 rw [ename, ewd, edp, ebars, et0, et1, eroles, etempos, epauses, espans, ephrases, edances] at hT
 rw [ename] at y0
 rw [ewd] at y1
 rw [edp] at y2
 rw [ebars] at y3
 rw [et0] at y4
 rw [et1] at y5
 rw [eroles] at y6
 rw [etempos] at y7
 rw [epauses] at y8
 rw [espans] at y9
 rw [ephrases] at y10
 rw [edances] at y11
 have HT := Lib.hid hT
 have HP := Lib.hid (hAW.phrases); have HP' := Lib.hid (hAW'.phrases); have HPF := Lib.hid hAW.pform; have HPF' := Lib.hid hAW'.pform
 have HN := Lib.hid (hP.below hB); have HN' := Lib.hid (hP'.below hB)
 have HYL := Lib.hid ephrases
 have HPS := Lib.hid hps; have HB := Lib.hid hB
 have hlp := hAW.plen
 unfold maxLen at hlp
 have hlroles : x.roles.length ≤ 9223372036854775807 := (hAW.roles).choose_spec.choose_spec.2.1
 have hltempos : x.tempos.length ≤ 9223372036854775807 := (hAW.tempos).choose_spec.choose_spec.2.1
 have hlpauses : x.pauses.length ≤ 9223372036854775807 := (hAW.pauses).choose_spec.choose_spec.2.1
 have hlspans : x.spans.length ≤ 9223372036854775807 := (hAW.spans).choose_spec.choose_spec.2.1
 have hldances : x.dances.length ≤ 9223372036854775807 := hAW.dlen
 have hsv : x.val = .agg x.cells := rfl
 have hsv' : y.val = .agg y.cells := rfl
 rw [hsv, hsv']
 have HC := Lib.hid (And.intro x0 (And.intro x1 (And.intro x2 (And.intro x3 (And.intro x4 (And.intro x5 (And.intro x6 (And.intro x7 (And.intro x8 (And.intro x9 (And.intro x10 (And.intro x11 (And.intro y0 (And.intro y1 (And.intro y2 (And.intro y3 (And.intro y4 (And.intro y5 (And.intro y6 (And.intro y7 (And.intro y8 (And.intro y9 (And.intro y10 y11)))))))))))))))))))))))
 clear x0 y0 x1 y1 x2 y2 x3 y3 x4 y4 x5 y5 x6 y6 x7 y7 x8 y8 x9 y9 x10 y10 x11 y11
 clear hsv hsv' hT hAW hAW' hDW hDW' hA hA' hX hY hB hS hN hN' hs hps hP hP' hD hD' bW ename ewd edp ebars et0 et1 eroles etempos epauses espans ephrases edances
 generalize hcx : x.cells = xs at *
 generalize hcy : y.cells = ys at *
 have HW1 := Lib.hid hW1
 clear hcx hcy hW1
 generalize hnp : x.phrases.length = n at *
 have HNP := Lib.hid hnp
 clear hnp
 generalize x.name = vname at *
 generalize x.wd = vwd at *
 generalize x.dp = vdp at *
 generalize x.bars = vbars at *
 generalize x.t0 = vt0 at *
 generalize x.t1 = vt1 at *
 generalize x.roles.length = nroles at *
 generalize x.ra = lra at *
 generalize x.rc = krc at *
 generalize y.ra = mra at *
 generalize y.rc = orc at *
 generalize x.tempos.length = ntempos at *
 generalize x.ta = lta at *
 generalize x.tc = ktc at *
 generalize y.ta = mta at *
 generalize y.tc = otc at *
 generalize x.pauses.length = npauses at *
 generalize x.ua = lua at *
 generalize x.uc = kuc at *
 generalize y.ua = mua at *
 generalize y.uc = ouc at *
 generalize x.spans.length = nspans at *
 generalize x.sa = lsa at *
 generalize x.sc = ksc at *
 generalize y.sa = msa at *
 generalize y.sc = osc at *
 generalize x.dances.length = ndances at *
 generalize x.da = lda at *
 generalize x.dc = kdc at *
 generalize y.da = mda at *
 generalize y.dc = odc at *
 go_enter Try.func50, Try.ntmps50
 refine wp_seq_thenQ (fun K hK => ?_)
 have HK := Lib.hid hK
 clear hK
 go_wp2_with fail
 have e0 : (w.alloc (.cells xs 30)).alloc (.cells ys 30) = W1 := HW1.out
 rw [e0]
 refine HK.out _ _ ?_
 clear HK K e0 HW1
 obtain ⟨x0, x1, x2, x3, x4, x5, x6, x7, x8, x9, x10, x11, y0, y1, y2, y3, y4, y5, y6, y7, y8, y9, y10, y11⟩ := HC.out
 go_wp2_with fail
 clear x0 y0 x1 y1 x2 y2 x3 y3 x4 y4 x5 y5 x6 y6 x7 y7 x8 y8 x9 y9 x10 y10 x11 y11
 go_loopw [5] (fun iv wr => ∃ (i q : Nat) (R R' : List Ph) (ks : List Int), iv = .int .i64 i ∧ i + R.length = n ∧ wr = W1.drewN q ∧ Hid (R.map Ph.strip = R'.map Ph.strip) ∧ Hid (phAt W1 (blk x.fa) (off x.fa + i * 2) R) ∧ Hid (phAt W1 (blk y.fa) (off y.fa + i * 2) R') ∧ Hid (NsAt W1 (phRefs R) ks) ∧ Hid (NsAt W1 (phRefs R') ks)) (fun iv _ => n + 1 - (intOf iv).toNat)
 case atStart => exact ⟨0, 0, x.phrases, y.phrases, k1, rfl, by rw [HNP.out]; omega, rfl, Lib.hid HPS.out.symm, by simpa [Hid] using HP.out, by simpa [Hid] using HP'.out, HN, HN'⟩
 case round =>
  obtain ⟨i, q, R, R', ks, rfl, hin, rfl, hS, h1, h2, h3, h4⟩ := hrel
  obtain ⟨x0, x1, x2, x3, x4, x5, x6, x7, x8, x9, x10, x11, y0, y1, y2, y3, y4, y5, y6, y7, y8, y9, y10, y11⟩ := HC.out
  cases R with
  | nil =>
   simp only [List.length_nil, Nat.add_zero] at hin
   subst hin
   go_wp2_with (go_at_call 77; refine (HT.out q).mono ?_; rintro e w5 ⟨rfl, hb5⟩)
   go_ret
   exact ⟨rfl, (below_drewN HB.out q).trans (hb5.mono HB.out.size)⟩
  | cons p R =>
   cases R' with
   | nil => exact absurd hS.out (by simp)
   | cons p' R' =>
   simp only [List.length_cons] at hin
   have hji : (i : Int) < (n : Int) := by omega
   have hss := hS.out
   rw [List.map_cons, List.map_cons] at hss
   injection hss with es esr
   have en : p'.name = p.name := (congrArg Phr.name es).symm
   have ei : p.its.strip = p'.its.strip := congrArg Phr.items es
   have eln : p'.its.len = p.its.len := by rw [← p'.its.strip_len, ← p.its.strip_len, ei]
   have ea := HPF.out.resolve_left (fun e => by have := HNP.out; rw [e] at this; simp at this; omega)
   have ea2 := HPF'.out.resolve_left (fun e => by have := HYL.out; rw [e] at this; simp at this; omega)
   obtain ⟨⟨f0, f1, i1, i2, i3⟩, hr1⟩ := h1.out
   obtain ⟨⟨g0, g1, j1, j2, j3⟩, hr2⟩ := h2.out
   obtain ⟨ka, kb, hn1, hn2, hn3, hn4⟩ := (show NsAt W1 (p.refsL ++ phRefs R) ks from h3.out).split2 (show NsAt W1 (p'.refsL ++ phRefs R') ks from h4.out) (Lt.refsL_len ei)
   rw [en] at g0
   unfold Ph.val at f1 g1
   rw [eln] at g1
   have C : ∀ q n : Nat, Calls Try.prog 76 #[.slice p.ia p.its.len p.ic, .slice p'.ia p.its.len p'.ic] (W1.drewN (q + n)) fun e w' => e = .returned (.bool true) ∧ ∃ m, w' = W1.drewN (q + m) := fun q n => by
    have := (sameItems_any _ p.its p'.its (Nat.le_refl _) ei p.ia p.ic p'.ia p'.ic ka (W1.drewN (q + n)) i2 i1 (i3.dn _) j1 (j3.dn _) (hn1.dn _) (hn3.dn _)).mono fun e w' h => (⟨h.1, by obtain ⟨m, hm⟩ := h.2; exact ⟨n + m, by rw [hm, World.drewN_drewN, Nat.add_assoc]⟩⟩ : e = .returned (.bool true) ∧ ∃ m, w' = W1.drewN (q + m))
    rw [eln] at this
    exact this
   have HCI := Lib.hid C
   have HNY : Hid (R.map Ph.strip = R'.map Ph.strip ∧ phAt W1 (blk x.fa) (off x.fa + (i + 1) * 2) R ∧ phAt W1 (blk y.fa) (off y.fa + (i + 1) * 2) R' ∧ NsAt W1 (phRefs R) kb ∧ NsAt W1 (phRefs R') kb) := Lib.hid (by
    rw [show off x.fa + (i + 1) * 2 = off x.fa + i * 2 + 2 by omega, show off y.fa + (i + 1) * 2 = off y.fa + i * 2 + 2 by omega]
    exact ⟨esr, hr1, hr2, hn2, hn4⟩)
   rw [ea] at x10
   rw [ea2] at y10
   clear h1 h2 h3 h4 hr1 hr2 ea ea2 C i1 i2 i3 j1 j2 j3 hn1 hn2 hn3 hn4 hS es esr en ei eln x0 x1 x2 x3 x4 x5 x6 x7 x8 x9 x11 y0 y1 y2 y3 y4 y5 y6 y7 y8 y9 y11
   go_wp2_with fail
   go_quiet (first | (go_at_call 76; exact HCI.out _ _))
   go_wp2_with fail
   go_roundw
   case rel => exact ⟨i + 1, _, R, R', kb, by go_num, by omega, rfl, Lib.hid HNY.out.1, Lib.hid HNY.out.2.1, Lib.hid HNY.out.2.2.1, Lib.hid HNY.out.2.2.2.1, Lib.hid HNY.out.2.2.2.2⟩
   case measure => simp [intOf]; omega
set_option maxRecDepth 100000 in
set_option maxHeartbeats 16000000 in
theorem same_any (x y : Ls) (ns : List Int) (w : World) (hA : x.At w) (hA' : y.At w) (hs : x.strip = y.strip) (hN : NsAt w x.refs ns) (hN' : NsAt w y.refs ns) :
  Calls Try.prog 17 #[x.val, y.val] w fun e w' => e = .returned (.bool true) ∧ Below w.heap.size w w' := by
 obtain ⟨W1, hW1, hX, hY, hB, hS⟩ := two_box w x.cells y.cells
 have hT := same_any50 x y ns W1 (hA.below hB) (hA'.below hB) hs (hN.below hB) (hN'.below hB)
 unfold Ls.val at hT ⊢
 have HT := Lib.hid hT; have HB := Lib.hid hB
 obtain ⟨x0, x1, x2, x3, x4, x5, x6, x7, x8, x9, x10, x11⟩ := all_cells hX
 obtain ⟨y0, y1, y2, y3, y4, y5, y6, y7, y8, y9, y10, y11⟩ := all_cells hY
 have HC := Lib.hid (And.intro x0 (And.intro x1 (And.intro x2 (And.intro x3 (And.intro x4 (And.intro x5 (And.intro x6 (And.intro x7 (And.intro x8 (And.intro x9 (And.intro x10 (And.intro x11 (And.intro y0 (And.intro y1 (And.intro y2 (And.intro y3 (And.intro y4 (And.intro y5 (And.intro y6 (And.intro y7 (And.intro y8 (And.intro y9 (And.intro y10 y11)))))))))))))))))))))))
 clear x0 y0 x1 y1 x2 y2 x3 y3 x4 y4 x5 y5 x6 y6 x7 y7 x8 y8 x9 y9 x10 y10 x11 y11 hT hB hX hY hS hA hA' hs hN hN'
 have HW1 := Lib.hid hW1
 clear hW1
 go_enter Try.func17, Try.ntmps17
 generalize hcx : x.cells = xs at *
 generalize hcy : y.cells = ys at *
 have HX := Lib.hid hcx; have HY := Lib.hid hcy
 clear hcx hcy
 refine wp_seq_thenQ (fun K hK => ?_)
 have HK := Lib.hid hK
 clear hK
 go_wp2_with fail
 have e0 : (w.alloc (.cells xs 30)).alloc (.cells ys 30) = W1 := HW1.out
 rw [e0]
 refine HK.out _ _ ?_
 clear HK K e0 HW1
 rw [← HX.out, ← HY.out] at HT
 unfold Ls.cells at HT
 obtain ⟨x0, x1, x2, x3, x4, x5, x6, x7, x8, x9, x10, x11, y0, y1, y2, y3, y4, y5, y6, y7, y8, y9, y10, y11⟩ := HC.out
 go_wp2_with (go_at_call 50; refine HT.out.mono ?_; rintro e w5 ⟨rfl, hb5⟩)
 go_ret
 exact ⟨rfl, HB.out.trans (hb5.mono HB.out.size)⟩
end Go.Proofs.Ytpnbpepkoekkoaa
end
section
namespace Go.Proofs.Ytpnbpepkoekkoaa
open Go Go.RowKit Go.Deep
end Go.Proofs.Ytpnbpepkoekkoaa
end
section
namespace Go.Proofs.Ytpnbpepkoekkoaa
open Go Go.RowKit Go.Deep
structure LawIn (s : Ls) (ns : List Int) (w : World) : Prop where
 at_ : s.At w
 ns : NsAt w s.refs ns
 env : ∀ V, Below w.heap.size w V → Env V
 fit : s.mfit
structure LawW (s : Ls) (w W : World) : Prop where
 below : Below w.heap.size w W
 box : W.heap[w.heap.size]? = some (.cells s.cells 30 (0, 0))
theorem LawW.next {s : Ls} {w W W' : World} (h : LawW s w W) (hb : Below W.heap.size W W') : LawW s w W' := ⟨thenB h.below hb, keepO hb h.box⟩
end Go.Proofs.Ytpnbpepkoekkoaa
end
section
namespace Go.Proofs.Ytpnbpepkoekkoaa
open Go Go.RowKit Go.Deep
def encQ (r : RefL) : List Value := [.pointer (some ⟨r.b, r.o, none⟩), .bool (decide (r.to = 2))]
theorem encQ_len (r : RefL) : (encQ r).length = 2 := rfl
theorem encQ_one (rs : List RefL) : ∀ u ∈ rs.flatMap encQ, u.oneCell' = true := by
 intro u hu
 obtain ⟨x, _, h⟩ := List.mem_flatMap.1 hu
 simp only [encQ, List.mem_cons, List.mem_nil_iff, or_false] at h
 rcases h with rfl | rfl <;> rfl
theorem own_src {w : World} {B e k n c : Nat} {ao : Option Addr} {xs : List Value} (h : w.ownsRow B e k (.slice ao n c) n xs) : ∀ ad, ao = some ad → ∀ j u, xs[j]? = some u → w.cell? (ad.add j) = some u := by
 intro ad ha j u hj
 rcases h.2 with ⟨e, _⟩ | ⟨g, cap, cur, e, _⟩
 ·injection e with e _ _
  rw [e] at ha; cases ha
 ·injection e with e _ _
  rw [e] at ha; cases ha
  exact h.cells (g := g) (by rw [e]; rfl) j u hj
def ptrs (rs : List RefL) : List RefL := rs.filter fun r => decide (r.to ≠ 0)
theorem ptrs_app (a b : List RefL) : ptrs (a ++ b) = ptrs a ++ ptrs b := List.filter_append ..
def PtrP (rs : List RefL) (w : World) (e : Ending) (w' : World) : Prop := ∃ v, e = .returned v ∧ w'.ownsRow w.heap.size 48 2 v rs.length (rs.flatMap encQ) ∧ Below w.heap.size w w'
theorem info48 : (Try.prog.info? 48).map (fun i => (i.zero, i.size, i.bytes)) = some (some (.agg #[.pointer none, .bool false]), 2, 16) := by kernel_rfl
def blkC : Code → Code | .block _ a => a | c => c
def loopC : Code → Code | .loop a => a | c => c
def fst2 : Code → Code | .seq a _ => a | c => c
def snd2 : Code → Code | .seq _ b => b | c => c
noncomputable def code52 : Code := (Try.f52.body).getD .skip
noncomputable def body52 : Code := blkC (fst2 (snd2 (snd2 (loopC (blkC (snd2 (fst2 (snd2 code52))))))))
noncomputable def inner52 : Code := snd2 (snd2 (snd2 body52))
structure PtS (G acc rest : List RefL) (w : World) (v : Value) (W : World) : Prop where
 eq : acc ++ ptrs rest = G
 own : W.ownsRow w.heap.size 48 2 v acc.length (acc.flatMap encQ)
 below : Below w.heap.size w W
theorem PtS.one {G acc rest : List RefL} {r : RefL} {w W W' : World} {v v' : Value} (h : PtS G acc (r :: rest) w v W) (hr : r.to ≠ 0) (hw : Below W.heap.size W W') (hY : W.heap.size ≤ W'.heap.size) {W2 : World} (ho : W2.ownsRow w.heap.size 48 2 v' (acc.length + 1) (acc.flatMap encQ ++ encQ r)) (hg : W'.grownBy W2 v.ownBlock) :
  PtS G (acc ++ [r]) rest w v' W2 := by
 refine ⟨?_, ?_, ?_⟩
 ·rw [← h.eq]
  unfold ptrs
  rw [List.filter_cons, if_pos (by simpa using hr)]
  simp
 ·rw [List.length_append, List.flatMap_append]
  simpa using ho
 ·have hs := h.below.size
  exact (h.below.trans (hw.mono hs)).grown hg (by omega) fun k hk => (h.own.lt k hk).1
theorem PtS.skip {G acc rest : List RefL} {r : RefL} {w W : World} {v : Value} (h : PtS G acc (r :: rest) w v W) (hr : r.to = 0) : PtS G acc rest w v W := by
 refine ⟨?_, h.own, h.below⟩
 rw [← h.eq]
 unfold ptrs
 rw [List.filter_cons, if_neg (by simp [hr])]
theorem PtS.many {G acc rs rest : List RefL} {w W W' W2 : World} {v v' : Value} (h : PtS G acc (rs ++ rest) w v W) (hw : Below W.heap.size W W') (ho : W2.ownsRow w.heap.size 48 2 v' (acc.length + (ptrs rs).length) (acc.flatMap encQ ++ (ptrs rs).flatMap encQ)) (hg : W'.grownBy W2 v.ownBlock) :
  PtS G (acc ++ ptrs rs) rest w v' W2 := by
 refine ⟨?_, ?_, ?_⟩
 ·rw [← h.eq, ptrs_app, List.append_assoc]
 ·rw [List.length_append, List.flatMap_append]
  exact ho
 ·have hs := h.below.size
  have hs2 := hw.size
  exact (h.below.trans (hw.mono hs)).grown hg (by omega) fun k hk => (h.own.lt k hk).1
theorem PtS.len {G acc rest : List RefL} {w W : World} {v : Value} (h : PtS G acc rest w v W) : acc.length ≤ G.length := by
 rw [← h.eq, List.length_append]; omega
set_option maxRecDepth 100000 in
set_option maxHeartbeats 8000000 in
theorem in_inner (G : List RefL) (w : World) (b p : Nat) (k n : Int) (un : Nm) (ia : Option Addr) (ic : Nat) (its : Lt) (ma : Option Addr) (mc : Nat) (ms : List Mov) (rest acc : List RefL) (ov : Value) (W : World) (hG : G.length ≤ 1000000)
  (hA : (Lt.cons k n un ia ic its ma mc ms .nil).At w b p) (hS : PtS G acc (movRefs (blk ma) (off ma) ms ++ (its.refsL (blk ia) (off ia) ++ rest)) w ov W)
  (hI : ∀ W, Below w.heap.size w W → Calls Try.prog 52 #[.slice ia its.len ic] W (PtrP (ptrs (its.refsL (blk ia) (off ia))) W)) (e0 e1 e3 e5 e6 e7 e8 e9 e10 e11 e12 e13 e14 e15 e16 e17 e18 e19 e20 e21 e22 e23 e24 e25 e26 e27 e28 e29 e30 e31 e32 e33 e34 e35 e36 e37 e38 e39 e40 e41 e42 e43 e44 e45 e46 e47 e48 e49 e50 e51 e52 e53 e54 e55 e56 e57 e58 e59 e60 e61 e62 e63 e64 e65 e66 e67 e68 e69 : Value) (Q : Exit → Act → World → Prop)
  (hQ : ∀ (acc2 : List RefL) (ov2 : Value) (W2 : World), PtS G acc2 rest w ov2 W2 → ∀ (f5 f6 f27 f28 f29 f30 f31 f32 f33 f34 f35 f36 f37 f38 f39 f40 f41 f42 f43 f44 f45 f46 f47 f48 f49 f50 f51 f52 f53 f54 f55 f56 f57 f58 f59 f60 f61 f62 f63 f64 f65 f66 f67 : Value), Q .normal { tmps := #[e0, e1, ov2, e3, .pointer (some ⟨b, p, none⟩), f5, f6, e7, e8, e9, e10, e11, e12, e13, e14, e15, e16, e17, e18, e19, e20, e21, e22, e23, e24, e25, e26, f27, f28, f29, f30, f31, f32, f33, f34, f35, f36, f37, f38, f39, f40, f41, f42, f43, f44, f45, f46, f47, f48, f49, f50, f51, f52, f53, f54, f55, f56, f57, f58, f59, f60, f61, f62, f63, f64, f65, f66, f67, e68, e69], defers := [] } W2) :
  inner52.wp Try.prog Q { tmps := #[e0, e1, ov, e3, .pointer (some ⟨b, p, none⟩), e5, e6, e7, e8, e9, e10, e11, e12, e13, e14, e15, e16, e17, e18, e19, e20, e21, e22, e23, e24, e25, e26, e27, e28, e29, e30, e31, e32, e33, e34, e35, e36, e37, e38, e39, e40, e41, e42, e43, e44, e45, e46, e47, e48, e49, e50, e51, e52, e53, e54, e55, e56, e57, e58, e59, e60, e61, e62, e63, e64, e65, e66, e67, e68, e69], defers := [] } W := by
 obtain ⟨⟨a0, a1, a2, a4, a5⟩, ⟨m1, m2, m3⟩, ⟨i1, i2, i3⟩, _⟩ := hA
 obtain ⟨i0, hi, hz0, hz1, hz2⟩ := info_parts info48
 have HIN := Lib.hid (And.intro hi (And.intro hz0 (And.intro hz1 hz2)))
 have HS := Lib.hid hS; have HI := Lib.hid hI; have HQ := Lib.hid hQ; have HM := Lib.hid m3; have HA4 := Lib.hid a4; have HA5 := Lib.hid a5
 have HF := Lib.hid m1
 clear hS hI hQ m3 hi hz0 hz1 hz2 a0 a1 a2 i1 i3 m1
 unfold maxLen at m2
 generalize hn : ms.length = nm at *
 have HN := Lib.hid hn
 clear hn
 have c5 := keep_cell HS.out.below a5
 clear a4 a5
 unfold inner52 body52 code52
 conv => arg 2; whnf
 go_wp2_with fail
 clear c5
 go_loopw [2, 32] (fun ov iv wr => ∃ (j : Nat) (r : List Mov) (acc : List RefL), iv = .int .i64 j ∧ j + r.length = nm ∧ Hid (movAt w (blk ma) (off ma + j * 12) r) ∧ Hid (PtS G acc (movRefs (blk ma) (off ma + j * 12) r ++ (its.refsL (blk ia) (off ia) ++ rest)) w ov wr)) (fun _ iv _ => nm + 1 - (intOf iv).toNat)
 case atStart => exact ⟨0, ms, acc, rfl, by rw [HN.out]; omega, by simpa [Hid] using HM.out, by simpa [Hid] using HS.out⟩
 case round =>
  rename_i u2
  obtain ⟨j, r, acc, rfl, hj, hr, hP⟩ := hrel
  have hbw := hP.out.below
  have c5 := keep_cell hbw HA5.out
  have c4 := keep_cell hbw HA4.out
  have hlo := hbw.size
  cases r with
  | nil =>
   simp only [List.length_nil, Nat.add_zero] at hj
   subst hj
   have hP2 : PtS G acc (its.refsL (blk ia) (off ia) ++ rest) w u2 wr := hP.out
   have hlen : acc.length + (ptrs (its.refsL (blk ia) (off ia))).length ≤ 1000000 := by
    have := congrArg List.length hP2.eq
    rw [ptrs_app, List.length_append, List.length_append] at this
    omega
   have C := HI.out wr hbw
   unfold PtrP at C
   have HC := Lib.hid C; have HP2 := Lib.hid hP2
   clear C hP2 hP hr
   go_wp2_with (first
    | (go_at_call 52; refine HC.out.mono ?_; rintro e w5 ⟨v5, rfl, ho5, hb5⟩; obtain ⟨ao5, c5', rfl, _, hno5, _, _, hcl5⟩ := own_new (by omega) ho5; have HB5 := Lib.hid hb5; have HO5 := Lib.hid (own_below HP2.out.own hb5); have HCL := Lib.hid (own_src ho5); have HNO := Lib.hid hno5; have hs5 := hb5.size; clear ho5 hb5 hcl5 hno5)
    | (at_builtin; refine wpList_append_row rfl _ _ 41 rfl w.heap.size 48 i0 _ 2 16 Try.underlying41 HIN.out.1 HIN.out.2.1 HIN.out.2.2.1 HIN.out.2.2.2 rfl (by decide) _ acc.length _ rfl HO5.out ao5 _ c5' _ rfl (flat_len encQ_len _) HNO.out HCL.out (encQ_one _) (by unfold maxLen; omega) (by omega) (by omega) ?_; intro v9 w9 ho9 hg9 _; have hQ9 := Lib.hid (HQ.out _ v9 w9 (HP2.out.many HB5.out ho9 hg9)); clear ho9 hg9))
   exact hQ9.out _ _ _ _ _ _ _ _ _ _ _ _ _ _ _ _ _ _ _ _ _ _ _ _ _ _ _ _ _ _ _ _ _ _ _ _ _ _ _ _ _ _ _
  | cons m r =>
   simp only [List.length_cons] at hj
   have hji : (j : Int) < (nm : Int) := by omega
   have hma := HF.out.resolve_left (fun e => by have := HN.out; rw [e] at this; simp at this; omega)
   have ck := keep_cell hbw hr.out.1.2.1
   have hrr := hr.out.2
   have hP1 : PtS G acc (⟨blk ma, off ma + j * 12 + 6, movTo m.kind, m.wn⟩ :: (movRefs (blk ma) (off ma + j * 12 + 12) r ++ (its.refsL (blk ia) (off ia) ++ rest))) w u2 wr := hP.out
   have hacc := hP1.len
   have hlen : acc.length + 1 ≤ 1000001 := by omega
   have e12 : off ma + (j + 1) * 12 = off ma + j * 12 + 12 := by omega
   have hnext : ∀ acc' v' W', PtS G acc' (movRefs (blk ma) (off ma + j * 12 + 12) r ++ (its.refsL (blk ia) (off ia) ++ rest)) w v' W' → Hid (movAt w (blk ma) (off ma + (j + 1) * 12) r) ∧ Hid (PtS G acc' (movRefs (blk ma) (off ma + (j + 1) * 12) r ++ (its.refsL (blk ia) (off ia) ++ rest)) w v' W') := fun acc' v' W' h => by
    rw [e12]; exact ⟨Lib.hid hrr, Lib.hid h⟩
   have HNX := Lib.hid hnext; have HP1 := Lib.hid hP1
   clear hnext hP1 hP hr hrr e12 hacc c4
   generalize hb0 : blk ma = mb at *
   generalize ho0 : off ma = mo at *
   rw [hma] at c5
   clear hb0 ho0
   by_cases hk : m.kind = 7 ∨ m.kind = 8
   ·have hto : movTo m.kind = 1 := by unfold movTo; rw [if_pos hk]
    have heq : encQ ⟨mb, mo + j * 12 + 6, movTo m.kind, m.wn⟩ = [.pointer (some ⟨mb, mo + j * 12 + 6, none⟩), .bool false] := by
     unfold encQ; rw [hto]; rfl
    have HEQ := Lib.hid heq
    have hne : (⟨mb, mo + j * 12 + 6, movTo m.kind, m.wn⟩ : RefL).to ≠ 0 := by show movTo m.kind ≠ 0; rw [hto]; decide
    have hbA := (Below.refl wr.heap.size wr).alloc (Nat.le_refl _) (.cells #[.pointer (some ⟨mb, mo + j * 12 + 6, none⟩), .bool false] 48)
    have HOA := Lib.hid (own_below HP1.out.own hbA)
    have HBA := Lib.hid hbA
    have HGA : Hid ((wr.alloc (.cells #[.pointer (some ⟨mb, mo + j * 12 + 6, none⟩), .bool false] 48)).heap[wr.heap.size]? = some (.cells #[.pointer (some ⟨mb, mo + j * 12 + 6, none⟩), .bool false] 48 (0, 0))) := Lib.hid (heap_alloc_new wr _)
    clear hto heq hbA
    rcases hk with hk | hk
    all_goals
     rw [hk] at ck
     go_wp2_with (at_builtin; refine wpList_append_row rfl _ _ 41 rfl w.heap.size 48 i0 _ 2 16 Try.underlying41 HIN.out.1 HIN.out.2.1 HIN.out.2.2.1 HIN.out.2.2.2 rfl (by decide) _ acc.length _ rfl HOA.out (some ⟨wr.heap.size, 0, none⟩) 1 1 [.pointer (some ⟨mb, mo + j * 12 + 6, none⟩), .bool false] rfl rfl (fun e => by cases e) (fun ad ha q u hq => by cases ha; rw [addr_plain, Nat.zero_add]; exact cell_at HGA.out q (by rw [← List.getElem?_toArray] at hq; exact hq)) (by intro u hu; simp only [List.mem_cons, List.mem_nil_iff, or_false] at hu; rcases hu with rfl | rfl <;> rfl) (by unfold maxLen; omega) (by omega) (by simp; omega) ?_; intro v9 w9 ho9 hg9 ha9; clear ha9; rw [← HEQ.out] at ho9; have hP9 := Lib.hid (HP1.out.one hne HBA.out HBA.out.size ho9 hg9); clear ho9 hg9)
     go_roundw
     case rel =>
      obtain ⟨n1, n2⟩ := HNX.out _ _ _ hP9.out
      exact ⟨v9, _, _, _, ⟨j + 1, by go_num, r, by omega, n1, _, n2⟩, rfl, rfl, rfl, rfl⟩
     case measure => simp [intOf]; omega
   ·have hto : movTo m.kind = 0 := by unfold movTo; rw [if_neg hk]
    have hk7 : (m.kind == 7) = false := by simp; omega
    have hk8 : (m.kind == 8) = false := by simp; omega
    have hP9 := Lib.hid (HP1.out.skip hto)
    clear hto hk
    go_wp2_with fail
    go_roundw
    case rel => exact ⟨j + 1, r, _, by go_num, by omega, HNX.out _ _ _ hP9.out⟩
    case measure => simp [intOf]; omega
end Go.Proofs.Ytpnbpepkoekkoaa
end
section
namespace Go.Proofs.Ytpnbpepkoekkoaa
open Go Go.RowKit Go.Deep
set_option maxRecDepth 100000 in
set_option maxHeartbeats 8000000 in
theorem in_nil2 (ia : Option Addr) (ic : Nat) (W : World) : Calls Try.prog 52 #[.slice ia 0 ic] W (PtrP [] W) := by
 go_enter Try.func52, Try.ntmps52
 go_wp2_with fail
 go_loopw [2, 9] (fun ov iv wr => iv = .int .i64 0 ∧ ov = .slice none 0 0 ∧ wr = W) (fun _ _ _ => 0)
 case atStart => exact ⟨rfl, rfl, rfl⟩
 case round =>
  obtain ⟨rfl, rfl, rfl⟩ := hrel
  go_wp2_with fail
  go_ret
  exact ⟨_, rfl, World.ownsRow_nil _ _ _ _, Below.refl _ _⟩
set_option maxRecDepth 100000 in
set_option maxHeartbeats 8000000 in
theorem in_step2 (G : List RefL) (w : World) (T : Lt) (b o ic : Nat) (hG : G.length ≤ 1000000) (hl : T.len ≤ maxLen) (hA : T.At w b o) (hE : ptrs (T.refsL b o) = G)
  (hI : ∀ T' : Lt, T'.size < T.size → ∀ (ia : Option Addr) (ic : Nat) (W : World), T'.len ≤ maxLen → (T'.len = 0 ∨ ia = some ⟨blk ia, off ia, none⟩) → T'.At W (blk ia) (off ia) → (ptrs (T'.refsL (blk ia) (off ia))).length ≤ 1000000 → Calls Try.prog 52 #[.slice ia T'.len ic] W (PtrP (ptrs (T'.refsL (blk ia) (off ia))) W)) :
  Calls Try.prog 52 #[.slice (some ⟨b, o, none⟩) T.len ic] w (PtrP G w) := by
 obtain ⟨i0, hi, hz0, hz1, hz2⟩ := info_parts info48
 have HIN := Lib.hid (And.intro hi (And.intro hz0 (And.intro hz1 hz2)))
 have hS0 : PtS G [] (T.refsL b o) w (.slice none 0 0) w := ⟨by simpa using hE, World.ownsRow_nil _ _ _ _, Below.refl _ _⟩
 have HS := Lib.hid hS0; have HI := Lib.hid hI; have HA := Lib.hid hA
 clear hI hi hz0 hz1 hz2 hA hE hS0
 unfold maxLen at hl
 generalize hn : T.len = n at *
 have HN := Lib.hid hn
 clear hn
 go_enter Try.func52, Try.ntmps52
 go_wp2_with fail
 go_loopw [2, 9] (fun ov iv wr => ∃ (i : Nat) (R : Lt) (acc : List RefL), iv = .int .i64 i ∧ i + R.len = n ∧ Hid (R.size ≤ T.size) ∧ Hid (R.At w b (o + i * 6)) ∧ Hid (PtS G acc (R.refsL b (o + i * 6)) w ov wr)) (fun _ iv _ => n + 1 - (intOf iv).toNat)
 case atStart => exact ⟨0, T, [], rfl, by rw [HN.out]; omega, Lib.hid (Nat.le_refl _), by simpa [Hid] using HA.out, by simpa [Hid] using HS.out⟩
 case round =>
  obtain ⟨i, R, acc, rfl, hin, hsz, hR, hP⟩ := hrel
  cases R with
  | nil =>
   simp only [Lt.len, Nat.add_zero] at hin
   subst hin
   have hP2 := hP.out
   have hacc : acc = G := by have := hP2.eq; simpa [Lt.refsL, ptrs] using this
   subst hacc
   have HP2 := Lib.hid hP2
   clear hP2 hP
   go_wp2_with fail
   go_ret
   exact ⟨_, rfl, HP2.out.own, HP2.out.below⟩
  | cons k n' un ia ic' its ma mc ms r =>
   simp only [Lt.len] at hin
   have hi : (i : Int) < (n : Int) := by omega
   have h := hR.out
   have hbw := hP.out.below
   have ck := keep_cell hbw h.1.1
   have hone : (Lt.cons k n' un ia ic' its ma mc ms .nil).At w b (o + i * 6) := ⟨h.1, h.2.1, h.2.2.1, trivial⟩
   have hits := h.2.2.1
   have hr := h.2.2.2
   have hszi : its.size < T.size := by have := hsz.out; simp only [Lt.size] at this; omega
   have hP1 : PtS G acc (⟨b, o + i * 6 + 2, itemTo k, un⟩ :: (movRefs (blk ma) (off ma) ms ++ (its.refsL (blk ia) (off ia) ++ r.refsL b (o + i * 6 + 6)))) w u2 wr := hP.out
   have hacc := hP1.len
   have hbd : (ptrs (its.refsL (blk ia) (off ia))).length ≤ 1000000 := by
    have := congrArg List.length hP1.eq
    unfold ptrs at this
    rw [List.filter_cons, List.filter_append, List.filter_append] at this
    unfold ptrs
    split at this <;> simp only [List.length_append, List.length_cons] at this <;> omega
   have hIi : ∀ W, Below w.heap.size w W → Calls Try.prog 52 #[.slice ia its.len ic'] W (PtrP (ptrs (its.refsL (blk ia) (off ia))) W) := fun W hb => HI.out its hszi ia ic' W hits.2.1 hits.1 (hits.2.2.below hb) hbd
   have e6 : o + (i + 1) * 6 = o + i * 6 + 6 := by omega
   have HONE := Lib.hid hone; have HII := Lib.hid hIi; have HP1 := Lib.hid hP1; have HRR := Lib.hid hr
   have hsz2 : Hid (r.size ≤ T.size) := Lib.hid (by have := hsz.out; simp only [Lt.size] at this; omega)
   have hlo := hbw.size
   clear h hone hits hr hP1 hIi hP hR hsz hbd
   refine wp_seq_thenQ (fun K1 hK => ?_)
   have HK1 := Lib.hid hK
   clear hK
   go_wp2_with fail
   refine HK1.out _ _ ?_
   clear HK1 K1
   refine wp_seq_thenQ (fun K2 hK => ?_)
   have HK2 := Lib.hid hK
   clear hK
   go_wp2_with fail
   refine HK2.out _ _ ?_
   clear HK2 K2
   refine wp_seq_thenQ (fun K3 hK => ?_)
   have HK3 := Lib.hid hK
   clear hK
   refine wp_block ?_
   refine wp_seq_thenQ (fun K4 hK => ?_)
   have HK4 := Lib.hid hK
   clear hK
   go_wp2_with fail
   refine HK4.out _ _ ?_
   clear HK4 K4
   refine wp_seq_thenQ (fun K5 hK => ?_)
   have HK5 := Lib.hid hK
   clear hK
   go_wp2_with fail
   refine HK5.out _ _ ?_
   clear HK5 K5
   refine wp_seq_thenQ (fun K6 hK => ?_)
   have HK6 := Lib.hid hK
   clear hK
   have HFIN : Hid (∀ (acc1 : List RefL) (v1 : Value) (w1 : World), PtS G acc1 (movRefs (blk ma) (off ma) ms ++ (its.refsL (blk ia) (off ia) ++ r.refsL b (o + i * 6 + 6))) w v1 w1 → ∀ (f3 f5 f6 f10 f11 f12 f13 f14 f15 f16 f17 f18 f19 f20 f21 f22 f23 f24 f25 f26 f27 f28 f29 f30 f31 f32 f33 f34 f35 f36 f37 f38 f39 f40 f41 f42 f43 f44 f45 f46 f47 f48 f49 f50 f51 f52 f53 f54 f55 f56 f57 f58 f59 f60 f61 f62 f63 f64 f65 f66 f67 f68 : Value), K6 { tmps := #[.slice (some ⟨b, o, none⟩) n ic, undef, v1, f3, .pointer (some ⟨b, o + i * 6, none⟩), f5, f6, .slice (some ⟨b, o, none⟩) n ic, .int .i64 (n : Nat), .int .i64 (i : Nat), f10, f11, f12, f13, f14, f15, f16, f17, f18, f19, f20, f21, f22, f23, f24, f25, f26, f27, f28, f29, f30, f31, f32, f33, f34, f35, f36, f37, f38, f39, f40, f41, f42, f43, f44, f45, f46, f47, f48, f49, f50, f51, f52, f53, f54, f55, f56, f57, f58, f59, f60, f61, f62, f63, f64, f65, f66, f67, f68, undef], defers := [] } w1) := by
    refine Lib.hid (fun acc1 v1 w1 h1 => ?_)
    intros
    refine HK6.out _ _ ?_
    refine in_inner G w b (o + i * 6) k n' un ia ic' its ma mc ms (r.refsL b (o + i * 6 + 6)) acc1 v1 w1 hG HONE.out h1 HII.out _ _ _ _ _ _ _ _ _ _ _ _ _ _ _ _ _ _ _ _ _ _ _ _ _ _ _ _ _ _ _ _ _ _ _ _ _ _ _ _ _ _ _ _ _ _ _ _ _ _ _ _ _ _ _ _ _ _ _ _ _ _ _ _ _ _ _ _ _ (fun acc2 v2 w2 h2 => ?_)
    intros
    simp only [Exit.inBlock, Exit.then]
    refine HK3.out _ _ ?_
    have H2 := Lib.hid h2
    clear h2 h1 HK3 HK6
    go_wp2_with fail
    go_roundw
    case rel =>
     have HR2 : Hid (r.At w b (o + (i + 1) * 6)) := by rw [e6]; exact HRR
     have H22 : Hid (PtS G acc2 (r.refsL b (o + (i + 1) * 6)) w v2 w2) := by rw [e6]; exact H2
     exact ⟨i + 1, r, acc2, by go_num, by omega, hsz2, HR2, H22⟩
    case measure => simp [intOf]; omega
   clear HK6 HK3 HONE HII HRR hsz2 hin
   by_cases hk : k = 4
   ·subst hk
    have heq : encQ ⟨b, o + i * 6 + 2, itemTo 4, un⟩ = [.pointer (some ⟨b, o + i * 6 + 2, none⟩), .bool true] := rfl
    have HEQ := Lib.hid heq
    have hbA := (Below.refl wr.heap.size wr).alloc (Nat.le_refl _) (.cells #[.pointer (some ⟨b, o + i * 6 + 2, none⟩), .bool true] 48)
    have HOA := Lib.hid (own_below HP1.out.own hbA)
    have HBA := Lib.hid hbA
    have HGA : Hid ((wr.alloc (.cells #[.pointer (some ⟨b, o + i * 6 + 2, none⟩), .bool true] 48)).heap[wr.heap.size]? = some (.cells #[.pointer (some ⟨b, o + i * 6 + 2, none⟩), .bool true] 48 (0, 0))) := Lib.hid (heap_alloc_new wr _)
    clear heq hbA
    go_wp2_with (at_builtin; refine wpList_append_row rfl _ _ 41 rfl w.heap.size 48 i0 _ 2 16 Try.underlying41 HIN.out.1 HIN.out.2.1 HIN.out.2.2.1 HIN.out.2.2.2 rfl (by decide) _ acc.length _ rfl HOA.out (some ⟨wr.heap.size, 0, none⟩) 1 1 [.pointer (some ⟨b, o + i * 6 + 2, none⟩), .bool true] rfl rfl (fun e => by cases e) (fun ad ha q u hq => by cases ha; rw [addr_plain, Nat.zero_add]; exact cell_at HGA.out q (by rw [← List.getElem?_toArray] at hq; exact hq)) (by intro u hu; simp only [List.mem_cons, List.mem_nil_iff, or_false] at hu; rcases hu with rfl | rfl <;> rfl) (by unfold maxLen; omega) (by omega) (by simp; omega) ?_; intro v9 w9 ho9 hg9 ha9; clear ha9; rw [← HEQ.out] at ho9; have hP9 := Lib.hid (HP1.out.one (show itemTo 4 ≠ 0 by decide) HBA.out HBA.out.size ho9 hg9); clear ho9 hg9)
    exact HFIN.out _ v9 w9 hP9.out _ _ _ _ _ _ _ _ _ _ _ _ _ _ _ _ _ _ _ _ _ _ _ _ _ _ _ _ _ _ _ _ _ _ _ _ _ _ _ _ _ _ _ _ _ _ _ _ _ _ _ _ _ _ _ _ _ _ _ _ _ _
   ·have hto : itemTo k = 0 := by unfold itemTo; rw [if_neg hk]
    have hk4 : (k == 4) = false := by simpa using hk
    have hP9 := Lib.hid (HP1.out.skip hto)
    clear hto hk
    go_wp2_with fail
    exact HFIN.out _ _ _ hP9.out _ _ _ _ _ _ _ _ _ _ _ _ _ _ _ _ _ _ _ _ _ _ _ _ _ _ _ _ _ _ _ _ _ _ _ _ _ _ _ _ _ _ _ _ _ _ _ _ _ _ _ _ _ _ _ _ _ _ _ _ _ _
theorem inItems_any : ∀ (s : Nat) (T : Lt), T.size ≤ s → ∀ (ia : Option Addr) (ic : Nat) (W : World), T.len ≤ maxLen → (T.len = 0 ∨ ia = some ⟨blk ia, off ia, none⟩) → T.At W (blk ia) (off ia) → (ptrs (T.refsL (blk ia) (off ia))).length ≤ 1000000 → Calls Try.prog 52 #[.slice ia T.len ic] W (PtrP (ptrs (T.refsL (blk ia) (off ia))) W) := by
 intro s
 induction s with
 | zero =>
  intro T hs ia ic W hl hf hA hb
  cases T with
  | nil => exact in_nil2 ia ic W
  | cons => simp [Lt.size] at hs
 | succ s ih =>
  intro T hs ia ic W hl hf hA hb
  by_cases h0 : T.len = 0
  ·obtain rfl := Lt.len_zero h0
   exact in_nil2 ia ic W
  ·have e := hf.resolve_left h0
   have := in_step2 _ W T (blk ia) (off ia) ic hb hl hA rfl (fun T' hlt => ih T' (by omega))
   rw [← e] at this
   exact this
end Go.Proofs.Ytpnbpepkoekkoaa
end
section
namespace Go.Proofs.Ytpnbpepkoekkoaa
open Go Go.RowKit Go.Deep
noncomputable def code21 : Code := (Try.f21.body).getD .skip
noncomputable def loop21 : Code := loopC (blkC (snd2 (fst2 (snd2 (snd2 code21)))))
noncomputable def reg21n9 : Code := snd2 (blkC (fst2 (snd2 (snd2 loop21))))
theorem dan_drop {ds : List Dan} {i : Nat} {d : Dan} (h : ds[i]? = some d) : ds.drop i = d :: ds.drop (i + 1) := drop_at h
theorem PtS.two {G acc rest : List RefL} {r1 r2 : RefL} {w W W' W2 : World} {v v' : Value} (h : PtS G acc (r1 :: r2 :: rest) w v W) (h1 : r1.to ≠ 0) (h2 : r2.to ≠ 0) (hw : Below W.heap.size W W') (ho : W2.ownsRow w.heap.size 48 2 v' (acc.length + 2) (acc.flatMap encQ ++ (encQ r1 ++ encQ r2))) (hg : W'.grownBy W2 v.ownBlock) :
  PtS G (acc ++ [r1, r2]) rest w v' W2 := by
 have e : ptrs [r1, r2] = [r1, r2] := by unfold ptrs; simp [h1, h2]
 have := PtS.many (rs := [r1, r2]) h hw (by rw [e]; simpa using ho) hg
 rwa [e] at this
set_option maxRecDepth 100000 in
set_option maxHeartbeats 16000000 in
theorem ptr_reg9 (X b o i n dc : Nat) (acc : List RefL) (w W : World) (ov : Value) (hX : W.cell? ⟨X, 11, none⟩ = some (.slice (some ⟨b, o, none⟩) n dc)) (hown : W.ownsRow w.heap.size 48 2 ov acc.length (acc.flatMap encQ)) (hacc : acc.length ≤ 1000000) (hlo : w.heap.size ≤ W.heap.size) (hi : i < n) (e1 e3 e5 e6 e7 e8 e9 e10 e11 e12 e13 e14 e15 e16 e17 e18 e19 e20 e21 e22 e23 e24 e25 e26 e27 e28 e29 e30 e31 e32 e33 e34 e35 e36 e37 e38 e39 e40 e41 e42 e43 e44 e45 e46 e47 e48 e49 e50 e51 e52 e53 : Value) (K : Act → World → Prop)
  (hK : ∀ (v9 : Value) (W' W2 : World), Below W.heap.size W W' → W2.ownsRow w.heap.size 48 2 v9 (acc.length + 2) (acc.flatMap encQ ++ [.pointer (some ⟨b, o + i * 6, none⟩), .bool false, .pointer (some ⟨b, o + i * 6 + 2, none⟩), .bool true]) → W'.grownBy W2 ov.ownBlock → ∀ (f33 f34 f35 f36 f37 f38 f39 f40 f41 f42 f43 f44 f45 f46 f47 f48 f49 f50 f51 : Value), K { tmps := #[.pointer (some ⟨X, 0, none⟩), e1, v9, e3, .int .i64 (i : Nat), e5, e6, e7, e8, e9, e10, e11, e12, e13, e14, e15, e16, e17, e18, e19, e20, e21, e22, e23, e24, e25, e26, e27, e28, e29, e30, e31, e32, f33, f34, f35, f36, f37, f38, f39, f40, f41, f42, f43, f44, f45, f46, f47, f48, f49, f50, f51, e52, e53], defers := [] } W2) :
  reg21n9.wp Try.prog (Exit.then K (fun _ _ _ => False)) { tmps := #[.pointer (some ⟨X, 0, none⟩), e1, ov, e3, .int .i64 (i : Nat), e5, e6, e7, e8, e9, e10, e11, e12, e13, e14, e15, e16, e17, e18, e19, e20, e21, e22, e23, e24, e25, e26, e27, e28, e29, e30, e31, e32, e33, e34, e35, e36, e37, e38, e39, e40, e41, e42, e43, e44, e45, e46, e47, e48, e49, e50, e51, e52, e53], defers := [] } W := by
 obtain ⟨i0, hi48, hz0, hz1, hz2⟩ := info_parts info48
 have HIN := Lib.hid (And.intro hi48 (And.intro hz0 (And.intro hz1 hz2)))
 have hji : (i : Int) < (n : Int) := by omega
 have HK0 := Lib.hid hK; have HOWN := Lib.hid hown
 clear hK hown hi48 hz0 hz1 hz2
 unfold reg21n9 loop21 code21
 conv => arg 2; whnf
 refine wp_region_D 18 18 (fun V => V.cell? ⟨X, 11, none⟩ = some (.slice (some ⟨b, o, none⟩) n dc)) (fun V => V.cell? ⟨X, 11, none⟩ = some (.slice (some ⟨b, o, none⟩) n dc)) (by kernel_rfl) ?_
 have hS1 : W.drew.cell? ⟨X, 11, none⟩ = some (.slice (some ⟨b, o, none⟩) n dc) := hX
 have hS2 : W.drew.cell? ⟨X, 11, none⟩ = some (.slice (some ⟨b, o, none⟩) n dc) := hX
 have HOd : Hid (W.drew.ownsRow w.heap.size 48 2 ov acc.length (acc.flatMap encQ)) := HOWN
 have HBd : Hid (Below W.heap.size W W.drew) := Lib.hid (Below.refl _ _).drew
 have hlod : w.heap.size ≤ W.drew.heap.size := hlo
 have hsd : W.drew.heap.size = W.heap.size := rfl
 have HSD := Lib.hid hsd
 clear hsd HOWN
 generalize W.drew = Wd at *
 dsimp only
 refine wpAnyD_take2 [18] (i := 0) (oi := _) (v := ov) rfl (by kernel_rfl) (fun _ _ _ h => h) (Or.inl ⟨by kernel_rfl, fun V hb => by go_simp⟩) (fun _ => hS1) hS2 ?_
 try simp only [Act.put, List.getElem_toArray, List.getElem_cons_zero, List.getElem_cons_succ, List.setIfInBounds_toArray, List.set_cons_zero, List.set_cons_succ]
 refine wpAnyD_take2 [2, 3, 4, 6, 7, 8, 17, 18] (i := 1) (oi := _) (v := .pointer (some ⟨X, 0, none⟩)) rfl (by kernel_rfl) (fun _ _ _ h => h) (Or.inl ⟨by kernel_rfl, fun V hb => by go_simp⟩) (fun _ => hS1) hS2 ?_
 try simp only [Act.put, List.getElem_toArray, List.getElem_cons_zero, List.getElem_cons_succ, List.setIfInBounds_toArray, List.set_cons_zero, List.set_cons_succ]
 refine wpAnyD_take2 [3, 4, 6, 7, 8, 17, 18] (i := 2) (oi := _) (v := .pointer (some ⟨X, 0, none⟩)) rfl (by kernel_rfl) (fun _ _ _ h => h) (Or.inl ⟨by kernel_rfl, fun V hb => by go_simp⟩) (fun _ => hS1) hS2 ?_
 try simp only [Act.put, List.getElem_toArray, List.getElem_cons_zero, List.getElem_cons_succ, List.setIfInBounds_toArray, List.set_cons_zero, List.set_cons_succ]
 refine wpAnyD_take2 [4, 6, 7, 8, 17, 18] (i := 3) (oi := _) (v := .pointer (some ⟨X, 11, none⟩)) rfl (by kernel_rfl) (fun _ _ _ h => h) (Or.inl ⟨by kernel_rfl, fun V hb => by go_simp⟩) (fun _ => hS1) hS2 ?_
 try simp only [Act.put, List.getElem_toArray, List.getElem_cons_zero, List.getElem_cons_succ, List.setIfInBounds_toArray, List.set_cons_zero, List.set_cons_succ]
 refine wpAnyD_take2 [6, 7, 8, 17, 18] (i := 4) (oi := _) (v := .slice (some ⟨b, o, none⟩) n dc) rfl (by kernel_rfl) (fun _ _ _ h => h) (Or.inl ⟨by kernel_rfl, fun V hb => by have q0 : V.cell? ⟨X, 11, none⟩ = some (.slice (some ⟨b, o, none⟩) n dc) := hb; go_simp⟩) (fun _ => hS1) hS2 ?_
 try simp only [Act.put, List.getElem_toArray, List.getElem_cons_zero, List.getElem_cons_succ, List.setIfInBounds_toArray, List.set_cons_zero, List.set_cons_succ]
 refine wpAnyD_take2 [6, 7, 8, 17, 18] (i := 5) (oi := _) (v := .int .i64 (i : Nat)) rfl (by kernel_rfl) (fun _ _ _ h => h) (Or.inl ⟨by kernel_rfl, fun V hb => by go_simp⟩) (fun _ => hS1) hS2 ?_
 try simp only [Act.put, List.getElem_toArray, List.getElem_cons_zero, List.getElem_cons_succ, List.setIfInBounds_toArray, List.set_cons_zero, List.set_cons_succ]
 refine wpAnyD_take2 [7, 8, 17, 18] (i := 6) (oi := _) (v := .pointer (some ⟨b, o + i * 6, none⟩)) rfl (by kernel_rfl) (fun _ _ _ h => h) (Or.inl ⟨by kernel_rfl, fun V hb => by go_simp⟩) (fun _ => hS1) hS2 ?_
 try simp only [Act.put, List.getElem_toArray, List.getElem_cons_zero, List.getElem_cons_succ, List.setIfInBounds_toArray, List.set_cons_zero, List.set_cons_succ]
 refine wpAnyD_take2 [8, 17, 18] (i := 7) (oi := _) (v := .pointer (some ⟨b, o + i * 6, none⟩)) rfl (by kernel_rfl) (fun _ _ _ h => h) (Or.inl ⟨by kernel_rfl, fun V hb => by go_simp⟩) (fun _ => hS1) hS2 ?_
 try simp only [Act.put, List.getElem_toArray, List.getElem_cons_zero, List.getElem_cons_succ, List.setIfInBounds_toArray, List.set_cons_zero, List.set_cons_succ]
 refine wpAnyD_take2 [17, 18] (i := 8) (oi := _) (v := .agg #[.pointer (some ⟨b, o + i * 6, none⟩), .bool false]) rfl (by kernel_rfl) (fun _ _ _ h => h) (Or.inl ⟨by kernel_rfl, fun V hb => by go_simp⟩) (fun _ => hS1) hS2 ?_
 try simp only [Act.put, List.getElem_toArray, List.getElem_cons_zero, List.getElem_cons_succ, List.setIfInBounds_toArray, List.set_cons_zero, List.set_cons_succ]
 refine wpAnyD_take2 [10, 11, 12, 14, 15, 16, 17, 18] (i := 9) (oi := _) (v := .pointer (some ⟨X, 0, none⟩)) rfl (by kernel_rfl) (fun _ _ _ h => h) (Or.inl ⟨by kernel_rfl, fun V hb => by go_simp⟩) (fun _ => hS1) hS2 ?_
 try simp only [Act.put, List.getElem_toArray, List.getElem_cons_zero, List.getElem_cons_succ, List.setIfInBounds_toArray, List.set_cons_zero, List.set_cons_succ]
 refine wpAnyD_take2 [11, 12, 14, 15, 16, 17, 18] (i := 10) (oi := _) (v := .pointer (some ⟨X, 0, none⟩)) rfl (by kernel_rfl) (fun _ _ _ h => h) (Or.inl ⟨by kernel_rfl, fun V hb => by go_simp⟩) (fun _ => hS1) hS2 ?_
 try simp only [Act.put, List.getElem_toArray, List.getElem_cons_zero, List.getElem_cons_succ, List.setIfInBounds_toArray, List.set_cons_zero, List.set_cons_succ]
 refine wpAnyD_take2 [12, 14, 15, 16, 17, 18] (i := 11) (oi := _) (v := .pointer (some ⟨X, 11, none⟩)) rfl (by kernel_rfl) (fun _ _ _ h => h) (Or.inl ⟨by kernel_rfl, fun V hb => by go_simp⟩) (fun _ => hS1) hS2 ?_
 try simp only [Act.put, List.getElem_toArray, List.getElem_cons_zero, List.getElem_cons_succ, List.setIfInBounds_toArray, List.set_cons_zero, List.set_cons_succ]
 refine wpAnyD_take2 [14, 15, 16, 17, 18] (i := 12) (oi := _) (v := .slice (some ⟨b, o, none⟩) n dc) rfl (by kernel_rfl) (fun _ _ _ h => h) (Or.inl ⟨by kernel_rfl, fun V hb => by have q0 : V.cell? ⟨X, 11, none⟩ = some (.slice (some ⟨b, o, none⟩) n dc) := hb; go_simp⟩) (fun _ => hS1) hS2 ?_
 try simp only [Act.put, List.getElem_toArray, List.getElem_cons_zero, List.getElem_cons_succ, List.setIfInBounds_toArray, List.set_cons_zero, List.set_cons_succ]
 refine wpAnyD_take2 [14, 15, 16, 17, 18] (i := 13) (oi := _) (v := .int .i64 (i : Nat)) rfl (by kernel_rfl) (fun _ _ _ h => h) (Or.inl ⟨by kernel_rfl, fun V hb => by go_simp⟩) (fun _ => hS1) hS2 ?_
 try simp only [Act.put, List.getElem_toArray, List.getElem_cons_zero, List.getElem_cons_succ, List.setIfInBounds_toArray, List.set_cons_zero, List.set_cons_succ]
 refine wpAnyD_take2 [15, 16, 17, 18] (i := 14) (oi := _) (v := .pointer (some ⟨b, o + i * 6, none⟩)) rfl (by kernel_rfl) (fun _ _ _ h => h) (Or.inl ⟨by kernel_rfl, fun V hb => by go_simp⟩) (fun _ => hS1) hS2 ?_
 try simp only [Act.put, List.getElem_toArray, List.getElem_cons_zero, List.getElem_cons_succ, List.setIfInBounds_toArray, List.set_cons_zero, List.set_cons_succ]
 refine wpAnyD_take2 [16, 17, 18] (i := 15) (oi := _) (v := .pointer (some ⟨b, o + i * 6 + 2, none⟩)) rfl (by kernel_rfl) (fun _ _ _ h => h) (Or.inl ⟨by kernel_rfl, fun V hb => by go_simp⟩) (fun _ => hS1) hS2 ?_
 try simp only [Act.put, List.getElem_toArray, List.getElem_cons_zero, List.getElem_cons_succ, List.setIfInBounds_toArray, List.set_cons_zero, List.set_cons_succ]
 refine wpAnyD_take2 [17, 18] (i := 16) (oi := _) (v := .agg #[.pointer (some ⟨b, o + i * 6 + 2, none⟩), .bool true]) rfl (by kernel_rfl) (fun _ _ _ h => h) (Or.inl ⟨by kernel_rfl, fun V hb => by go_simp⟩) (fun _ => hS1) hS2 ?_
 try simp only [Act.put, List.getElem_toArray, List.getElem_cons_zero, List.getElem_cons_succ, List.setIfInBounds_toArray, List.set_cons_zero, List.set_cons_succ]
 refine wpAnyD_one (i := 17) (by kernel_rfl) rfl (fun K1 hK => ?_)
 have HK := Lib.hid hK
 clear hK
 obtain ⟨Wb, xWb, gWb, bWb, sWb⟩ := mk_cells Wd #[.pointer (some ⟨b, o + i * 6, none⟩), .bool false, .pointer (some ⟨b, o + i * 6 + 2, none⟩), .bool true] 48
 have GWb := Lib.hid gWb; have BWb := Lib.hid bWb; have SWb := Lib.hid sWb
 have hS1b := keep_cell bWb hS1; have hS2b := keep_cell bWb hS2
 clear gWb bWb sWb
 go_simp
 refine HK.out _ _ (fun _ => hS1b) (fun _ => hS2b) ?_
 try simp only [Act.put, List.getElem_toArray, List.getElem_cons_zero, List.getElem_cons_succ, List.setIfInBounds_toArray, List.set_cons_zero, List.set_cons_succ]
 clear HK K1
 refine wpAnyD_one (i := 18) (by kernel_rfl) rfl (fun K1 hK => ?_)
 have HK := Lib.hid hK
 clear hK
 rw [if_pos (by rfl)]
 refine wp_append_at _ _ 41 rfl w.heap.size 48 i0 _ 2 16 Try.underlying41 HIN.out.1 HIN.out.2.1 HIN.out.2.2.1 HIN.out.2.2.2 rfl (by decide) ov acc.length _ rfl (own_below HOd.out BWb.out) ⟨Wd.heap.size, 0, none⟩ 2 2 [.pointer (some ⟨b, o + i * 6, none⟩), .bool false, .pointer (some ⟨b, o + i * 6 + 2, none⟩), .bool true] rfl rfl (fun j u hj => by rw [addr_plain, Nat.zero_add]; exact cell_at GWb.out j (by rw [← List.getElem?_toArray] at hj; exact hj)) (by intro u hu; simp only [List.mem_cons, List.mem_nil_iff, or_false] at hu; rcases hu with rfl | rfl | rfl | rfl <;> rfl) (by unfold maxLen; omega) (by omega) (by have := SWb.out; omega) ?_
 intro v9 W2 ho hg _
 have hfin := HK0.out v9 Wb W2 (HBd.out.trans (BWb.out.mono (by have := HSD.out; omega))) ho hg
 have HFIN := Lib.hid hfin
 clear ho hg hfin
 refine HK.out _ _ (fun h => absurd (show true = false from h) (by decide)) (fun h => absurd (show true = false from h) (by decide)) ?_
 try simp only [Act.put, List.getElem_toArray, List.getElem_cons_zero, List.getElem_cons_succ, List.setIfInBounds_toArray, List.set_cons_zero, List.set_cons_succ]
 clear HK K1
 refine wpAnyD_one (i := 19) (by kernel_rfl) rfl (fun K1 hK => ?_)
 have HK := Lib.hid hK
 clear hK
 go_simp
 refine HK.out _ _ (fun h => absurd (show true = false from h) (by decide)) (fun h => absurd (show true = false from h) (by decide)) ?_
 try simp only [Act.put, List.getElem_toArray, List.getElem_cons_zero, List.getElem_cons_succ, List.setIfInBounds_toArray, List.set_cons_zero, List.set_cons_succ]
 clear HK K1
 refine wpAnyD_done (by kernel_rfl) ?_ _
 exact HFIN.out _ _ _ _ _ _ _ _ _ _ _ _ _ _ _ _ _ _ _
set_option maxRecDepth 100000 in
set_option maxHeartbeats 16000000 in
theorem pointers_any (x : Ls) (X : Nat) (w : World) (hX : w.heap[X]? = some (.cells x.cells 30 (0, 0))) (hA : x.At w) (hb : (ptrs x.refs).length ≤ 1000000) : Calls Try.prog 21 #[.pointer (some ⟨X, 0, none⟩)] w (PtrP (ptrs x.refs) w) := by
 obtain ⟨G, hG⟩ : ∃ G, ptrs x.refs = G := ⟨_, rfl⟩
 rw [hG] at hb ⊢
 obtain ⟨i0, hi, hz0, hz1, hz2⟩ := info_parts info48
 have HIN := Lib.hid (And.intro hi (And.intro hz0 (And.intro hz1 hz2)))
 have hS0 : PtS G [] (phRefs (x.phrases.drop 0) ++ danRefs (blk x.da) (off x.da) x.dances) w (.slice none 0 0) w := ⟨by simpa [Ls.refs] using hG, World.ownsRow_nil _ _ _ _, Below.refl _ _⟩
 have HS := Lib.hid hS0; have HA := Lib.hid hA; have HX := Lib.hid hX
 have c10 : w.cell? ⟨X, 10, none⟩ = some (.slice x.fa x.phrases.length x.fc) := cell_at hX 10 rfl
 have hpl := hA.plen
 have hdl := hA.dlen
 clear hi hz0 hz1 hz2 hG hS0 hA hX
 unfold maxLen at hpl hdl
 generalize hn : x.phrases.length = n at *
 have HN := Lib.hid hn
 clear hn
 go_enter Try.func21, Try.ntmps21
 go_wp2_with fail
 clear c10
 go_loopw [2, 10] (fun ov iv wr => ∃ (i : Nat) (acc : List RefL), iv = .int .i64 i ∧ i ≤ n ∧ Hid (PtS G acc (phRefs (x.phrases.drop i) ++ danRefs (blk x.da) (off x.da) x.dances) w ov wr)) (fun _ iv _ => n + 1 - (intOf iv).toNat)
 case atStart => exact ⟨0, [], rfl, Nat.zero_le _, HS⟩
 case round =>
  obtain ⟨i, acc, rfl, hin, hP⟩ := hrel
  have hbw := hP.out.below
  have hlo := hbw.size
  have hacc := hP.out.len
  by_cases hlt : i < n
  ·have hii : (i : Int) < (n : Int) := by omega
   obtain ⟨p, hp⟩ : ∃ p, x.phrases[i]? = some p := ⟨_, List.getElem?_eq_getElem (by rw [HN.out]; exact hlt)⟩
   have hfa := HA.out.pform.resolve_left (fun e => by rw [e] at hp; cases hp)
   obtain ⟨_, c1⟩ := phAt_get HA.out.phrases hp
   obtain ⟨i1, i2, i3⟩ := phAt_its HA.out.phrases hp
   unfold Ph.val at c1
   have c1' := keep_cell hbw c1
   have c10 : wr.cell? ⟨X, 10, none⟩ = some (.slice x.fa n x.fc) := keep_cell hbw (by have := cell_at HX.out 10 (v := .slice x.fa x.phrases.length x.fc) rfl; rw [HN.out] at this; exact this)
   have hP2 : PtS G acc (p.refsL ++ (phRefs (x.phrases.drop (i + 1)) ++ danRefs (blk x.da) (off x.da) x.dances)) w u2 wr := by
    have := hP.out
    rw [drop_at hp] at this
    simpa [phRefs] using this
   have hlen : acc.length + (ptrs p.refsL).length ≤ 1000000 := by
    have := congrArg List.length hP2.eq
    rw [ptrs_app, List.length_append, List.length_append] at this
    omega
   have C := inItems_any _ p.its (Nat.le_refl _) p.ia p.ic wr i2 i1 (i3.below hbw) (by show (ptrs p.refsL).length ≤ _; omega)
   unfold PtrP at C
   have HC : Hid (Calls Try.prog 52 #[.slice p.ia p.its.len p.ic] wr fun e w' => ∃ v, e = .returned v ∧ w'.ownsRow wr.heap.size 48 2 v (ptrs p.refsL).length ((ptrs p.refsL).flatMap encQ) ∧ Below wr.heap.size wr w') := C
   have HP2 := Lib.hid hP2
   clear C hP2 hP hp c1 i1 i3
   generalize hb0 : blk x.fa = fb at *
   generalize ho0 : off x.fa = fo at *
   rw [hfa] at c10
   clear hfa hb0 ho0
   go_wp2_with (first
    | (go_at_call 52; refine HC.out.mono ?_; rintro e w5 ⟨v5, rfl, ho5, hb5⟩; obtain ⟨ao5, c5', rfl, _, hno5, _, _, hcl5⟩ := own_new (by omega) ho5; have HB5 := Lib.hid hb5; have HO5 := Lib.hid (own_below HP2.out.own hb5); have HCL := Lib.hid (own_src ho5); have HNO := Lib.hid hno5; have hs5 := hb5.size; clear ho5 hb5 hcl5 hno5)
    | (at_builtin; refine wpList_append_row rfl _ _ 41 rfl w.heap.size 48 i0 _ 2 16 Try.underlying41 HIN.out.1 HIN.out.2.1 HIN.out.2.2.1 HIN.out.2.2.2 rfl (by decide) _ acc.length _ rfl HO5.out ao5 _ c5' _ rfl (flat_len encQ_len _) HNO.out HCL.out (encQ_one _) (by unfold maxLen; omega) (by omega) (by omega) ?_; intro v9 w9 ho9 hg9 ha9; clear ha9; have hP9 := Lib.hid (HP2.out.many HB5.out ho9 hg9); clear ho9 hg9))
   go_roundw
   case rel => exact ⟨i + 1, _, by go_num, by omega, hP9⟩
   case measure => simp [intOf]; omega
  ·obtain rfl : i = n := by omega
   have hz : ¬ (i : Int) < (i : Int) := by omega
   have hP2 : PtS G acc (danRefs (blk x.da) (off x.da) x.dances) w u2 wr := by
    have := hP.out
    rw [List.drop_of_length_le (by rw [HN.out]; exact Nat.le_refl _)] at this
    exact this
   have HP := Lib.hid hP2
   have c11 : wr.cell? ⟨X, 11, none⟩ = some (.slice x.da x.dances.length x.dc) := keep_cell hbw (cell_at HX.out 11 rfl)
   clear hP hP2 HS
   generalize hm : x.dances.length = m at *
   have HM := Lib.hid hm
   clear hm
   go_wp2_with fail
   clear c11
   go_loopw [2, 30] (fun ov jv wq => ∃ (j : Nat) (acc : List RefL), jv = .int .i64 j ∧ j ≤ m ∧ Hid (PtS G acc (danRefs (blk x.da) (off x.da + j * 6) (x.dances.drop j)) w ov wq)) (fun _ jv _ => m + 1 - (intOf jv).toNat)
   case atStart => exact ⟨0, acc, rfl, Nat.zero_le _, by simpa [Hid] using HP.out⟩
   case round =>
    obtain ⟨j, acc2, rfl, hjn, hQ⟩ := hrel
    have hbq := hQ.out.below
    have hloq := hbq.size
    have hacc2 := hQ.out.len
    by_cases hlt : j < m
    ·have hjj : (j : Int) < (m : Int) := by omega
     obtain ⟨d, hd⟩ : ∃ d, x.dances[j]? = some d := ⟨_, List.getElem?_eq_getElem (by rw [HM.out]; exact hlt)⟩
     have hda := HA.out.dform.resolve_left (fun e => by rw [e] at hd; cases hd)
     have e6 : off x.da + (j + 1) * 6 = off x.da + j * 6 + 6 := by omega
     have hQ1 := hQ.out
     rw [dan_drop hd] at hQ1
     unfold danRefs at hQ1
     have c11 : wr.cell? ⟨X, 11, none⟩ = some (.slice (some ⟨blk x.da, off x.da, none⟩) m x.dc) := keep_cell hbq (by have := cell_at HX.out 11 (v := .slice x.da x.dances.length x.dc) rfl; rw [HM.out, hda] at this; exact this)
     have HQ1 := Lib.hid hQ1; have HC11 := Lib.hid c11
     clear hQ hQ1 c11 hd
     refine wp_seq_thenQ (fun K1 hK => ?_)
     have HK1 := Lib.hid hK
     clear hK
     go_wp2_with fail
     refine HK1.out _ _ ?_
     clear HK1 K1
     refine wp_seq_thenQ (fun K2 hK => ?_)
     have HK2 := Lib.hid hK
     clear hK
     go_wp2_with fail
     refine HK2.out _ _ ?_
     clear HK2 K2
     refine wp_seq_thenQ (fun K3 hK => ?_)
     have HK3 := Lib.hid hK
     clear hK
     refine wp_block ?_
     refine wp_seq_thenQ (fun K4 hK => ?_)
     have HK4 := Lib.hid hK
     clear hK
     go_wp2_with fail
     refine HK4.out _ _ ?_
     clear HK4 K4
     change Code.wp Try.prog reg21n9 _ _ _
     refine wp_mono (ptr_reg9 X (blk x.da) (off x.da) j m x.dc acc2 w wr _ HC11.out HQ1.out.own (by omega) hloq hlt _ _ _ _ _ _ _ _ _ _ _ _ _ _ _ _ _ _ _ _ _ _ _ _ _ _ _ _ _ _ _ _ _ _ _ _ _ _ _ _ _ _ _ _ _ _ _ _ _ _ _ K3 (fun v9 W' W2 hb9 ho9 hg9 => ?_)) (fun e a w h => by cases e <;> first | exact h | exact False.elim h)
     intros
     refine HK3.out _ _ ?_
     have HP9 := Lib.hid (HQ1.out.two (by show (1 : Nat) ≠ 0; decide) (by show (2 : Nat) ≠ 0; decide) hb9 ho9 hg9)
     clear HK3 K3 hb9 ho9 hg9 HQ1 HC11
     dsimp only
     go_wp2_with fail
     go_roundw
     case rel => exact ⟨j + 1, _, by go_num, by omega, by rw [e6]; exact HP9⟩
     case measure => simp [intOf]; omega
    ·obtain rfl : j = m := by omega
     have hz : ¬ (j : Int) < (j : Int) := by omega
     have hQ2 : acc2 = G := by
      have := hQ.out.eq
      rw [List.drop_of_length_le (by rw [HM.out]; exact Nat.le_refl _)] at this
      simpa [danRefs, ptrs] using this
     subst hQ2
     go_wp2_with fail
     go_ret
     exact ⟨_, rfl, hQ.out.own, hQ.out.below⟩
end Go.Proofs.Ytpnbpepkoekkoaa
end
section
namespace Go.Proofs.Ytpnbpepkoekkoaa
open Go Go.RowKit Go.Deep
theorem info9 : (Try.prog.info? 9).map (fun i => (i.zero, i.size, i.bytes)) = some (some (.string ⟨#[]⟩), 1, 16) := by kernel_rfl
def NamesP (ns : List Nm) (w : World) (e : Ending) (w' : World) : Prop := ∃ v, e = .returned v ∧ w'.ownsRow w.heap.size 9 1 v ns.length (ns.map sv) ∧ Below w.heap.size w w'
theorem take_map {α : Type} {f : α → Value} {l : List α} {i : Nat} {x : α} (h : l[i]? = some x) : (l.take (i + 1)).map f = (l.take i).map f ++ [f x] := by
 have hi : i < l.length := (List.getElem?_eq_some_iff.1 h).1
 rw [List.take_add_one, h]
 simp
set_option maxRecDepth 100000 in
set_option maxHeartbeats 8000000 in
theorem roles_any54 (s : Ls) (w : World) (hA : s.At w) (hl : s.roles.length ≤ 4000000000000) : Calls Try.prog 54 #[s.val] w (NamesP (s.roles.map fun p => p.name) w) := by
 obtain ⟨i0, hi9, hz0, hz1, hz2⟩ := info_parts info9
 have HIN := Lib.hid (And.intro hi9 (And.intro hz0 (And.intro hz1 hz2)))
 obtain ⟨W1, hW1, hX, hB, hS⟩ : ∃ W1, w.alloc (.cells s.cells 30) = W1 ∧ W1.heap[w.heap.size]? = some (.cells s.cells 30 (0, 0)) ∧ Below w.heap.size w W1 ∧ W1.heap.size = w.heap.size + 1 := ⟨_, rfl, heap_alloc_new w _, (Below.refl _ w).alloc (Nat.le_refl _) _, by simp⟩
 have hAW := hA.below hB
 have cA := cell_at hX 6 (v := .slice s.ra s.roles.length s.rc) rfl
 have hsv : s.val = .agg s.cells := rfl
 rw [hsv]
 generalize hcs : s.cells = cs at *
 have HA := Lib.hid hAW; have HW1 := Lib.hid hW1; have HB := Lib.hid hB; have HC := Lib.hid cA; have HS := Lib.hid hS
 have HO := Lib.hid (World.ownsRow_nil W1 W1.heap.size 9 1 : W1.ownsRow W1.heap.size 9 1 (.slice none 0 0) 0 [])
 clear hcs hi9 hz0 hz1 hz2 hA hAW hX hB hW1 hsv cA hS
 generalize hn : s.roles.length = n at *
 have HN := Lib.hid hn
 clear hn
 go_enter Try.func54, Try.ntmps54
 refine wp_seq_thenQ (fun K hK => ?_)
 have HK := Lib.hid hK
 clear hK
 go_wp2_with fail
 have e0 : w.alloc (.cells cs 30) = W1 := HW1.out
 rw [e0]
 refine HK.out _ _ ?_
 clear HK K e0 HW1
 go_wp2_with fail
 go_loopw [3, 4] (fun lv iv wr => ∃ i : Nat, iv = .int .i64 i ∧ i ≤ n ∧ Hid (wr.ownsRow W1.heap.size 9 1 lv i (((s.roles.map fun p => p.name).take i).map sv)) ∧ Hid (Below W1.heap.size W1 wr)) (fun _ iv _ => n + 1 - (intOf iv).toNat)
 case atStart => exact ⟨0, rfl, Nat.zero_le _, by simpa [Hid] using HO.out, Lib.hid (Below.refl _ _)⟩
 case round =>
  obtain ⟨i, rfl, hin, hO, hBW⟩ := hrel
  rename_i u3
  have hlo := hBW.out.size
  have cA := keep_cell hBW.out HC.out
  by_cases hlt : i < n
  ·have hji : (i : Int) < (n : Int) := by omega
   obtain ⟨p, hp⟩ : ∃ p, s.roles[i]? = some p := ⟨_, List.getElem?_eq_getElem (by rw [HN.out]; exact hlt)⟩
   have htk := take_map (f := sv) (l := s.roles.map fun p => p.name) (i := i) (x := p.name) (by rw [List.getElem?_map, hp]; rfl)
   obtain ⟨b, o, ea, hat, hlb⟩ := (by have := HA.out.roles; rw [HN.out] at this; exact this : IsRow encR 4 W1 (.slice s.ra n s.rc) s.roles).block hp
   obtain ⟨f0, _⟩ := at_roles hat hp
   have f0 := keep_cell hBW.out f0
   rw [ea] at cA
   clear ea hat hlb
   have HT := Lib.hid htk
   have hbA := (Below.refl wr.heap.size wr).alloc (Nat.le_refl _) (.cells #[sv p.name] 9)
   have HOA := Lib.hid (own_below hO.out hbA)
   have HBA := Lib.hid hbA
   have HGA : Hid ((wr.alloc (.cells #[sv p.name] 9)).heap[wr.heap.size]? = some (.cells #[sv p.name] 9 (0, 0))) := Lib.hid (heap_alloc_new wr _)
   clear hbA htk hp
   go_wp2_with (at_builtin; refine wpList_append_row rfl _ _ 50 rfl W1.heap.size 9 i0 _ 1 16 Try.underlying50 HIN.out.1 HIN.out.2.1 HIN.out.2.2.1 HIN.out.2.2.2 rfl (by decide) _ i _ rfl HOA.out (some ⟨wr.heap.size, 0, none⟩) 1 1 [sv p.name] rfl rfl (fun e => by cases e) (fun ad ha q u hq => by cases ha; rw [addr_plain, Nat.zero_add]; exact cell_at HGA.out q (by rw [← List.getElem?_toArray] at hq; exact hq)) (by intro u hu; simp only [List.mem_cons, List.mem_nil_iff, or_false] at hu; rcases hu with rfl; rfl) (by unfold maxLen; omega) (by omega) (by simp; omega) ?_; intro v9 w9 ho9 hg9 ha9; clear ha9; have hO9 := Lib.hid ho9; have hb9 := Lib.hid ((hBW.out.trans (HBA.out.mono hlo)).grown hg9 (by simp; omega) fun k hk => (hO.out.lt k hk).1); clear ho9 hg9)
   go_roundw
   case rel => exact ⟨i + 1, by go_num, by omega, by rw [HT.out]; exact hO9, hb9⟩
   case measure => simp [intOf]; omega
  ·obtain rfl : i = n := by omega
   have hz : ¬ (i : Int) < (i : Int) := by omega
   have ho := hO.out
   rw [List.take_of_length_le (by rw [List.length_map, HN.out]; exact Nat.le_refl _)] at ho
   have hfin := HB.out.trans (hBW.out.mono HB.out.size)
   go_wp2_with fail
   go_ret
   exact ⟨_, rfl, by rw [List.length_map, HN.out]; exact own_base ho (by rw [HS.out]; omega), hfin⟩
set_option maxRecDepth 100000 in
set_option maxHeartbeats 8000000 in
theorem phrases_any53 (s : Ls) (w : World) (hA : s.At w) (hl : s.phrases.length ≤ 4000000000000) : Calls Try.prog 53 #[s.val] w (NamesP (s.phrases.map fun p => p.name) w) := by
 obtain ⟨i0, hi9, hz0, hz1, hz2⟩ := info_parts info9
 have HIN := Lib.hid (And.intro hi9 (And.intro hz0 (And.intro hz1 hz2)))
 obtain ⟨W1, hW1, hX, hB, hS⟩ : ∃ W1, w.alloc (.cells s.cells 30) = W1 ∧ W1.heap[w.heap.size]? = some (.cells s.cells 30 (0, 0)) ∧ Below w.heap.size w W1 ∧ W1.heap.size = w.heap.size + 1 := ⟨_, rfl, heap_alloc_new w _, (Below.refl _ w).alloc (Nat.le_refl _) _, by simp⟩
 have hAW := hA.below hB
 have cA := cell_at hX 10 (v := .slice s.fa s.phrases.length s.fc) rfl
 have hsv : s.val = .agg s.cells := rfl
 rw [hsv]
 generalize hcs : s.cells = cs at *
 have HA := Lib.hid hAW; have HW1 := Lib.hid hW1; have HB := Lib.hid hB; have HC := Lib.hid cA; have HS := Lib.hid hS
 have HO := Lib.hid (World.ownsRow_nil W1 W1.heap.size 9 1 : W1.ownsRow W1.heap.size 9 1 (.slice none 0 0) 0 [])
 clear hcs hi9 hz0 hz1 hz2 hA hAW hX hB hW1 hsv cA hS
 generalize hn : s.phrases.length = n at *
 have HN := Lib.hid hn
 clear hn
 go_enter Try.func53, Try.ntmps53
 refine wp_seq_thenQ (fun K hK => ?_)
 have HK := Lib.hid hK
 clear hK
 go_wp2_with fail
 have e0 : w.alloc (.cells cs 30) = W1 := HW1.out
 rw [e0]
 refine HK.out _ _ ?_
 clear HK K e0 HW1
 go_wp2_with fail
 go_loopw [3, 4] (fun lv iv wr => ∃ i : Nat, iv = .int .i64 i ∧ i ≤ n ∧ Hid (wr.ownsRow W1.heap.size 9 1 lv i (((s.phrases.map fun p => p.name).take i).map sv)) ∧ Hid (Below W1.heap.size W1 wr)) (fun _ iv _ => n + 1 - (intOf iv).toNat)
 case atStart => exact ⟨0, rfl, Nat.zero_le _, by simpa [Hid] using HO.out, Lib.hid (Below.refl _ _)⟩
 case round =>
  obtain ⟨i, rfl, hin, hO, hBW⟩ := hrel
  rename_i u3
  have hlo := hBW.out.size
  have cA := keep_cell hBW.out HC.out
  by_cases hlt : i < n
  ·have hji : (i : Int) < (n : Int) := by omega
   obtain ⟨p, hp⟩ : ∃ p, s.phrases[i]? = some p := ⟨_, List.getElem?_eq_getElem (by rw [HN.out]; exact hlt)⟩
   have htk := take_map (f := sv) (l := s.phrases.map fun p => p.name) (i := i) (x := p.name) (by rw [List.getElem?_map, hp]; rfl)
   have ea := HA.out.pform.resolve_left (fun e => by rw [e] at hp; cases hp)
   obtain ⟨c0, _⟩ := phAt_get HA.out.phrases hp
   have f0 := keep_cell hBW.out c0
   generalize hb0 : blk s.fa = b at *
   generalize ho0 : off s.fa = o at *
   rw [ea] at cA
   clear ea hb0 ho0
   have HT := Lib.hid htk
   have hbA := (Below.refl wr.heap.size wr).alloc (Nat.le_refl _) (.cells #[sv p.name] 9)
   have HOA := Lib.hid (own_below hO.out hbA)
   have HBA := Lib.hid hbA
   have HGA : Hid ((wr.alloc (.cells #[sv p.name] 9)).heap[wr.heap.size]? = some (.cells #[sv p.name] 9 (0, 0))) := Lib.hid (heap_alloc_new wr _)
   clear hbA htk hp
   go_wp2_with (at_builtin; refine wpList_append_row rfl _ _ 50 rfl W1.heap.size 9 i0 _ 1 16 Try.underlying50 HIN.out.1 HIN.out.2.1 HIN.out.2.2.1 HIN.out.2.2.2 rfl (by decide) _ i _ rfl HOA.out (some ⟨wr.heap.size, 0, none⟩) 1 1 [sv p.name] rfl rfl (fun e => by cases e) (fun ad ha q u hq => by cases ha; rw [addr_plain, Nat.zero_add]; exact cell_at HGA.out q (by rw [← List.getElem?_toArray] at hq; exact hq)) (by intro u hu; simp only [List.mem_cons, List.mem_nil_iff, or_false] at hu; rcases hu with rfl; rfl) (by unfold maxLen; omega) (by omega) (by simp; omega) ?_; intro v9 w9 ho9 hg9 ha9; clear ha9; have hO9 := Lib.hid ho9; have hb9 := Lib.hid ((hBW.out.trans (HBA.out.mono hlo)).grown hg9 (by simp; omega) fun k hk => (hO.out.lt k hk).1); clear ho9 hg9)
   go_roundw
   case rel => exact ⟨i + 1, by go_num, by omega, by rw [HT.out]; exact hO9, hb9⟩
   case measure => simp [intOf]; omega
  ·obtain rfl : i = n := by omega
   have hz : ¬ (i : Int) < (i : Int) := by omega
   have ho := hO.out
   rw [List.take_of_length_le (by rw [List.length_map, HN.out]; exact Nat.le_refl _)] at ho
   have hfin := HB.out.trans (hBW.out.mono HB.out.size)
   go_wp2_with fail
   go_ret
   exact ⟨_, rfl, by rw [List.length_map, HN.out]; exact own_base ho (by rw [HS.out]; omega), hfin⟩
set_option maxRecDepth 100000 in
set_option maxHeartbeats 8000000 in
theorem list_any (s : Ls) (phrase : Bool) (w : World) (hA : s.At w) (h1 : s.roles.length ≤ 4000000000000) (h2 : s.phrases.length ≤ 4000000000000) : Calls Try.prog 22 #[s.val, .bool phrase] w (NamesP (if phrase then s.phrases.map (fun p => p.name) else s.roles.map fun p => p.name) w) := by
 obtain ⟨W1, hW1, hX, hB⟩ : ∃ W1, w.alloc (.cells s.cells 30) = W1 ∧ W1.heap[w.heap.size]? = some (.cells s.cells 30 (0, 0)) ∧ Below w.heap.size w W1 := ⟨_, rfl, heap_alloc_new w _, (Below.refl _ w).alloc (Nat.le_refl _) _⟩
 have C1 := roles_any54 s W1 (hA.below hB) h1
 have C2 := phrases_any53 s W1 (hA.below hB) h2
 obtain ⟨cs, hcs⟩ : ∃ cs, s.cells = cs := ⟨_, rfl⟩
 have hsv : s.val = .agg cs := by rw [← hcs]; rfl
 have hW1' : w.alloc (.cells cs 30) = W1 := by rw [← hcs]; exact hW1
 have hs0 := hB.size
 rw [hsv]
 unfold Ls.val at C1 C2
 have HC1 := Lib.hid C1; have HC2 := Lib.hid C2; have HX := Lib.hid hX; have HB := Lib.hid hB; have HW1 := Lib.hid hW1'
 clear C1 C2 hX hB hW1 hW1' hsv hcs hA
 go_enter Try.func22, Try.ntmps22
 refine wp_seq_thenQ (fun K hK => ?_)
 have HK := Lib.hid hK
 clear hK
 go_wp2_with fail
 refine HK.out _ _ ?_
 rw [HW1.out]
 clear HK K HW1
 cases phrase with
 | true =>
  go_wp2_with (first
   | (go_at_call 53; refine HC2.out.mono ?_; rintro e w5 ⟨v5, rfl, ho5, hb5⟩; have HO := Lib.hid ho5; have H5 := Lib.hid hb5; clear ho5 hb5)
   | (refine wpList_load_row rfl 30 _ rfl w.heap.size rfl 30 s.cells (0, 0) _ HX.out Try.underlying30 rfl (by kernel_rfl) ?_; simp only [Act.put, List.setIfInBounds_toArray, List.set_cons_zero, List.set_cons_succ]))
  go_ret
  exact ⟨_, rfl, own_base HO.out hs0, thenB HB.out H5.out⟩
 | false =>
  go_wp2_with (first
   | (go_at_call 54; refine HC1.out.mono ?_; rintro e w5 ⟨v5, rfl, ho5, hb5⟩; have HO := Lib.hid ho5; have H5 := Lib.hid hb5; clear ho5 hb5)
   | (refine wpList_load_row rfl 30 _ rfl w.heap.size rfl 30 s.cells (0, 0) _ HX.out Try.underlying30 rfl (by kernel_rfl) ?_; simp only [Act.put, List.setIfInBounds_toArray, List.set_cons_zero, List.set_cons_succ]))
  go_ret
  exact ⟨_, rfl, own_base HO.out hs0, thenB HB.out H5.out⟩
end Go.Proofs.Ytpnbpepkoekkoaa
end
section
namespace Go.Proofs.Ytpnbpepkoekkoaa
open Go Go.RowKit Go.Deep
def Ls.namesOf (x : Ls) (phrase : Bool) : List Nm := if phrase then x.phrases.map (fun p => p.name) else x.roles.map fun p => p.name
end Go.Proofs.Ytpnbpepkoekkoaa
end
