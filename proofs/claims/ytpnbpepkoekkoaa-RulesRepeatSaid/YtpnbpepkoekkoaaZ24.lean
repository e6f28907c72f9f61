/- Contracts and plain laws on the way to the statement: part 24. -/
import Derived.Test.YtpnbpepkoekkoaaZ18
import Derived.Test.YtpnbpepkoekkoaaZ10
import Derived.Test.YtpnbpepkoekkoaaZ3
set_option linter.unusedVariables false
set_option linter.unusedSimpArgs false
set_option maxRecDepth 100000
set_option maxHeartbeats 16000000
namespace Go.Proofs.Ytpnbpepkoekkoaa
open Go.Value (int)
open Go.IntKind (i64)
section
open Go Go.RowKit
theorem F2 {α : Type} {l : List α} {k : Nat} {x : α} (h : l[k]? = some x) : l.drop k = x :: l.drop (k + 1) := by
 obtain ⟨h1, h2⟩ := ql.1 h; rw [← h2]; exact List.drop_eq_getElem_cons h1
theorem CO {w : World} {b : Nat} : ∀ {o : Nat} {ps : List Ph} {i : Nat} {p : Ph}, AZ w b o ps → ps[i]? = some p → w.cell? ⟨b, o + i * 2, none⟩ = some (sv p.name) ∧ w.cell? ⟨b, o + i * 2 + 1, none⟩ = some p.val
 | _, [], _, _, _, h => by cases h
 | o, _ :: _, 0, _, ⟨⟨h1, h2, _⟩, _⟩, h => by cases h; simpa using ⟨h1, h2⟩
 | o, _ :: r, i + 1, p, ⟨_, h⟩, hi => by
  have := CO (ps := r) (i := i) h (by simpa using hi); rw [show o + (i + 1) * 2 = o + 2 + i * 2 by omega]; exact this
def GG (l : List Nm) (w : World) (e : Ending) (w' : World) : Prop :=
 ((l.all Au = true ∧ ∃ b, w.heap.size ≤ b ∧ e = .returned (.map (some b)) ∧ MapAt sv w' b (AL l)) ∨ (l.all Au = false ∧ e = Af 170)) ∧ Below w.heap.size w w'
theorem Nr (xs : List Rol) (ao : Option Addr) (c : Nat) (w : World) (he : Env w) (hx : IsRow FO 4 w (.slice ao xs.length c) xs) :
  Calls Try.prog 41 #[.slice ao xs.length c, .func (.func 42) #[] #[]] w (GG (xs.map Rol.name) w) := by
 obtain ⟨_, _, _, hmax, _⟩ := id hx; unfold maxLen at hmax
 have hrow : ∀ (i : Nat) (x : Rol), xs[i]? = some x → ∃ b o, ao = some ⟨b, o, none⟩ ∧ AtRow FO 4 w b o xs := fun i x h => by
  obtain ⟨b, o, h1, h2, _⟩ := IsRow.block hx h; exact ⟨b, o, h1, h2⟩
 have HROW := qh hrow; clear hrow; have hmm := @run_makeMap Try.prog; have hM0 : MapAt sv (w.alloc (.map #[] 0)) w.heap.size [] := MapAt.new w; have hb0 : Below w.heap.size w (w.alloc (.map #[] 0)) := (Below.refl _ w).alloc (qn _) _; generalize htab : AL (xs.map Rol.name) = tab; have HTAB := qh htab; have HE := qh he; have HM0 := qh hM0; have HB0 := qh hb0; clear hx he hM0 hb0 htab; generalize hn : xs.length = n at *; have HN := qh hn; clear hn; unfold GG; go_enter Try.func41, Try.ntmps41; go_wp2_with fail; generalize w.alloc (.map #[] 0) = w1 at *; go_loopw [12] (fun iv wr => ∃ (i : Nat) (kvs : List (Nm × Value)), iv = int i64 i ∧ i ≤ n ∧ Hid (Cq ((xs.drop i).map Rol.name) i kvs = tab) ∧ Hid (((xs.take i).map Rol.name).all Au = true) ∧ Hid (MapAt sv wr w.heap.size kvs) ∧ Hid (Az kvs) ∧ Hid (Below w.heap.size w wr)) (fun iv _ => n + 1 - (intOf iv).toNat)
 case atStart => exact ⟨0, [], rfl, Nat.zero_le _, HTAB, qh (by simp), HM0, qh List.nodup_nil, HB0⟩
 case round =>
  obtain ⟨i, kvs, rfl, hin, htg, hall, hM, hK, hbw⟩ := hrel; by_cases hlt : i < n
  ·have hi : (i : Int) < (n : Int) := by omega
   obtain ⟨x, hxi⟩ : ∃ x, xs[i]? = some x := ⟨_, qg (by rw [HN.out]; exact hlt)⟩; have hdrop : xs.drop i = x :: xs.drop (i + 1) := F2 hxi; have htake : xs.take (i + 1) = xs.take i ++ [x] := by rw [List.take_add_one, hxi]; rfl
   have HDR := qh hdrop; have HTK := qh htake; have HXI := qh hxi; obtain ⟨b, o, hao, hrow⟩ := HROW.out i x hxi; subst hao; have q0 := Ae hbw.out (hrow i x hxi 0 _ rfl); have q1 := Ae hbw.out (hrow i x hxi 1 _ rfl); have q2 := Ae hbw.out (hrow i x hxi 2 _ rfl); have q3 := Ae hbw.out (hrow i x hxi 3 _ rfl); simp only [Nat.add_zero] at q0; clear hrow; have hmx : x ∈ xs := List.mem_of_getElem? hxi; have HMX := qh hmx; clear hdrop htake hxi hmx; obtain ⟨w2, hw2⟩ : ∃ w2, wr.alloc (.cells #[sv x.name, int i64 x.x, int i64 x.y, int i64 x.face] 59) = w2 := ⟨_, rfl⟩; have hb2 : Below wr.heap.size wr w2 := by rw [← hw2]; exact (Below.refl _ _).alloc (qn _) _
   have d0 : w2.cell? ⟨wr.heap.size, 0, none⟩ = some (sv x.name) := by rw [← hw2]; exact Aa (heap_alloc_new wr _) 0 rfl
   have d1 : w2.cell? ⟨wr.heap.size, 1, none⟩ = some (int i64 x.x) := by rw [← hw2]; exact Aa (heap_alloc_new wr _) 1 rfl
   have d2 : w2.cell? ⟨wr.heap.size, 2, none⟩ = some (int i64 x.y) := by rw [← hw2]; exact Aa (heap_alloc_new wr _) 2 rfl
   have d3 : w2.cell? ⟨wr.heap.size, 3, none⟩ = some (int i64 x.face) := by rw [← hw2]; exact Aa (heap_alloc_new wr _) 3 rfl
   have hBW := qh (hbw.out.trans (hb2.mono hbw.out.size)); have hM2 := qh (hM.out.below hb2 hM.out.lt); clear hb2
   have hbad : Au (x.name) = false → (xs.map Rol.name).all Au = false := fun h => by
    rw [List.all_eq_false]; exact ⟨_, List.mem_map.2 ⟨x, HMX.out, rfl⟩, by simp [h]⟩
   have HBAD := qh hbad; clear hbad; by_cases hok : Bo (x.name) = true
   ·have hsz := DX hok
    by_cases hct : Lib.contains words (32 :: ((x.name) ++ [32])) = true
    ·have hnb : Au (x.name) = false := by unfold Au; rw [hok, hct]; rfl
     have HNB := qh (HBAD.out hnb); clear hnb
     go_wp2_with (first
      | (go_at_call 42; refine (IC _ _ _ _ _).mono ?_; rintro e w3 ⟨rfl, hb3⟩; have hbe : Below w.heap.size w w3 := hBW.out.trans (hb3.mono hBW.out.size))
      | (go_at_call 70; refine (BY _ _).mono ?_; rintro e w4 ⟨rfl, rfl⟩; rw [hok])
      | (go_at_call 71; refine (BF _ _ (HE.out.below (by assumption))).mono ?_; rintro e w5 ⟨rfl, rfl⟩; rw [hct])
      | (go_at_call 45; refine (AK _ _).mono ?_; unfold Af; rintro e w6 ⟨rfl, rfl⟩))
     exact ⟨rfl, Or.inr ⟨HNB.out, rfl⟩, by assumption⟩
    ·have hct' : Lib.contains words (32 :: ((x.name) ++ [32])) = false := by simpa using hct
     have hnb : Au (x.name) = true := by unfold Au; rw [hok, hct']; rfl
     have HNB := qh hnb; clear hnb hct
     go_wp2_with (first
      | (go_at_call 42; refine (IC _ _ _ _ _).mono ?_; rintro e w3 ⟨rfl, hb3⟩; have hbe : Below w.heap.size w w3 := hBW.out.trans (hb3.mono hBW.out.size))
      | (go_at_call 70; refine (BY _ _).mono ?_; rintro e w4 ⟨rfl, rfl⟩; rw [hok])
      | (go_at_call 71; refine (BF _ _ (HE.out.below (by assumption))).mono ?_; rintro e w5 ⟨rfl, rfl⟩; rw [hct'])
      | (go_at_call 45; refine (Bn _ _).mono ?_; rintro e w6 ⟨rfl, rfl⟩; obtain ⟨ob, hrun, hMu⟩ := AB (P := Try.prog) (T := 90) GD Try.underlying90 Try.underlying9 (hM2.out.below hb3 hM2.out.lt) hK.out x.name (int i64 i); have hMap := qh hMu; have hBel := qh (hbe.trans (An _ w.heap.size ob (qn _))); clear hMu))
     go_roundw
     case rel => exact ⟨i + 1, AW kvs (x.name) (int i64 i), by go_num, hlt, qh (by have := htg.out; rw [HDR.out] at this; exact this), qh (by rw [HTK.out, List.map_append, List.all_append, hall.out]; simp [HNB.out]), hMap.out, qh (AH hK.out _ _), hBel.out⟩
     case measure => simp [intOf]; omega
   ·have hok' : Bo (x.name) = false := by simpa using hok
    have hnb : Au (x.name) = false := by unfold Au; rw [hok']; rfl
    have HNB := qh (HBAD.out hnb); clear hnb hok
    go_wp2_with (first
     | (go_at_call 42; refine (IC _ _ _ _ _).mono ?_; rintro e w3 ⟨rfl, hb3⟩; have hbe : Below w.heap.size w w3 := hBW.out.trans (hb3.mono hBW.out.size))
     | (go_at_call 70; refine (BY _ _).mono ?_; rintro e w4 ⟨rfl, rfl⟩; rw [hok'])
     | (go_at_call 45; refine (AK _ _).mono ?_; unfold Af; rintro e w6 ⟨rfl, rfl⟩))
    exact ⟨rfl, Or.inr ⟨HNB.out, rfl⟩, by assumption⟩
  ·obtain rfl : i = n := by omega
   have hMf := hM.out; have htf := htg.out; have haf := hall.out; rw [List.drop_eq_nil_of_le (by rw [HN.out]; exact qn _)] at htf; rw [List.take_of_length_le (by rw [HN.out]; exact qn _)] at haf; simp only [List.map_nil, Cq] at htf; rw [htf] at hMf; have HMF := qh hMf; have HAF := qh haf; clear hMf htf haf; go_wp2_with fail; go_ret; exact ⟨Or.inl ⟨HAF.out, w.heap.size, qn _, rfl, by rw [HTAB.out]; exact HMF.out⟩, hbw.out⟩
theorem Ns (xs : List Ph) (ao : Option Addr) (c : Nat) (w : World) (he : Env w) (hx : (xs = [] ∨ ao = some ⟨blk ao, off ao, none⟩) ∧ xs.length ≤ maxLen ∧ AZ w (blk ao) (off ao) xs) :
  Calls Try.prog 43 #[.slice ao xs.length c, .func (.func 44) #[] #[]] w (GG (xs.map Ph.name) w) := by
 obtain ⟨hform, hmax, hph⟩ := hx; unfold maxLen at hmax
 have hrow : ∀ (i : Nat) (x : Ph), xs[i]? = some x → ∃ b o, ao = some ⟨b, o, none⟩ ∧ w.cell? ⟨b, o + i * 2, none⟩ = some (sv x.name) ∧ w.cell? ⟨b, o + i * 2 + 1, none⟩ = some x.val := fun i x h => by
  obtain ⟨h1, h2⟩ := CO hph h; refine ⟨_, _, hform.resolve_left (fun e => by rw [e] at h; cases h), h1, h2⟩
 have HROW := qh hrow; clear hrow hph hform; have hmm := @run_makeMap Try.prog; have hM0 : MapAt sv (w.alloc (.map #[] 0)) w.heap.size [] := MapAt.new w; have hb0 : Below w.heap.size w (w.alloc (.map #[] 0)) := (Below.refl _ w).alloc (qn _) _; generalize htab : AL (xs.map Ph.name) = tab; have HTAB := qh htab; have HE := qh he; have HM0 := qh hM0; have HB0 := qh hb0; clear he hM0 hb0 htab; generalize hn : xs.length = n at *; have HN := qh hn; clear hn; unfold GG; go_enter Try.func43, Try.ntmps43; go_wp2_with fail; generalize w.alloc (.map #[] 0) = w1 at *; go_loopw [12] (fun iv wr => ∃ (i : Nat) (kvs : List (Nm × Value)), iv = int i64 i ∧ i ≤ n ∧ Hid (Cq ((xs.drop i).map Ph.name) i kvs = tab) ∧ Hid (((xs.take i).map Ph.name).all Au = true) ∧ Hid (MapAt sv wr w.heap.size kvs) ∧ Hid (Az kvs) ∧ Hid (Below w.heap.size w wr)) (fun iv _ => n + 1 - (intOf iv).toNat)
 case atStart => exact ⟨0, [], rfl, Nat.zero_le _, HTAB, qh (by simp), HM0, qh List.nodup_nil, HB0⟩
 case round =>
  obtain ⟨i, kvs, rfl, hin, htg, hall, hM, hK, hbw⟩ := hrel; by_cases hlt : i < n
  ·have hi : (i : Int) < (n : Int) := by omega
   obtain ⟨x, hxi⟩ : ∃ x, xs[i]? = some x := ⟨_, qg (by rw [HN.out]; exact hlt)⟩; have hdrop : xs.drop i = x :: xs.drop (i + 1) := F2 hxi; have htake : xs.take (i + 1) = xs.take i ++ [x] := by rw [List.take_add_one, hxi]; rfl
   have HDR := qh hdrop; have HTK := qh htake; have HXI := qh hxi; obtain ⟨b, o, hao, r0, r1⟩ := HROW.out i x hxi; subst hao; have q0 := Ae hbw.out r0; have q1 := Ae hbw.out r1; unfold Ph.val at q1; clear r0 r1; have hmx : x ∈ xs := List.mem_of_getElem? hxi; have HMX := qh hmx; clear hdrop htake hxi hmx; obtain ⟨w2, hw2⟩ : ∃ w2, wr.alloc (.cells #[sv x.name, .slice x.ia x.its.len x.ic] 57) = w2 := ⟨_, rfl⟩; have hb2 : Below wr.heap.size wr w2 := by rw [← hw2]; exact (Below.refl _ _).alloc (qn _) _
   have d0 : w2.cell? ⟨wr.heap.size, 0, none⟩ = some (sv x.name) := by rw [← hw2]; exact Aa (heap_alloc_new wr _) 0 rfl
   have d1 : w2.cell? ⟨wr.heap.size, 1, none⟩ = some (.slice x.ia x.its.len x.ic) := by rw [← hw2]; exact Aa (heap_alloc_new wr _) 1 rfl
   have hBW := qh (hbw.out.trans (hb2.mono hbw.out.size)); have hM2 := qh (hM.out.below hb2 hM.out.lt); clear hb2
   have hbad : Au (x.name) = false → (xs.map Ph.name).all Au = false := fun h => by
    rw [List.all_eq_false]; exact ⟨_, List.mem_map.2 ⟨x, HMX.out, rfl⟩, by simp [h]⟩
   have HBAD := qh hbad; clear hbad; by_cases hok : Bo (x.name) = true
   ·have hsz := DX hok
    by_cases hct : Lib.contains words (32 :: ((x.name) ++ [32])) = true
    ·have hnb : Au (x.name) = false := by unfold Au; rw [hok, hct]; rfl
     have HNB := qh (HBAD.out hnb); clear hnb
     go_wp2_with (first
      | (go_at_call 44; refine (ID _ _ _ _ _).mono ?_; rintro e w3 ⟨rfl, hb3⟩; have hbe : Below w.heap.size w w3 := hBW.out.trans (hb3.mono hBW.out.size))
      | (go_at_call 70; refine (BY _ _).mono ?_; rintro e w4 ⟨rfl, rfl⟩; rw [hok])
      | (go_at_call 71; refine (BF _ _ (HE.out.below (by assumption))).mono ?_; rintro e w5 ⟨rfl, rfl⟩; rw [hct])
      | (go_at_call 45; refine (AK _ _).mono ?_; unfold Af; rintro e w6 ⟨rfl, rfl⟩))
     exact ⟨rfl, Or.inr ⟨HNB.out, rfl⟩, by assumption⟩
    ·have hct' : Lib.contains words (32 :: ((x.name) ++ [32])) = false := by simpa using hct
     have hnb : Au (x.name) = true := by unfold Au; rw [hok, hct']; rfl
     have HNB := qh hnb; clear hnb hct
     go_wp2_with (first
      | (go_at_call 44; refine (ID _ _ _ _ _).mono ?_; rintro e w3 ⟨rfl, hb3⟩; have hbe : Below w.heap.size w w3 := hBW.out.trans (hb3.mono hBW.out.size))
      | (go_at_call 70; refine (BY _ _).mono ?_; rintro e w4 ⟨rfl, rfl⟩; rw [hok])
      | (go_at_call 71; refine (BF _ _ (HE.out.below (by assumption))).mono ?_; rintro e w5 ⟨rfl, rfl⟩; rw [hct'])
      | (go_at_call 45; refine (Bn _ _).mono ?_; rintro e w6 ⟨rfl, rfl⟩; obtain ⟨ob, hrun, hMu⟩ := AB (P := Try.prog) (T := 90) GD Try.underlying90 Try.underlying9 (hM2.out.below hb3 hM2.out.lt) hK.out x.name (int i64 i); have hMap := qh hMu; have hBel := qh (hbe.trans (An _ w.heap.size ob (qn _))); clear hMu))
     go_roundw
     case rel => exact ⟨i + 1, AW kvs (x.name) (int i64 i), by go_num, hlt, qh (by have := htg.out; rw [HDR.out] at this; exact this), qh (by rw [HTK.out, List.map_append, List.all_append, hall.out]; simp [HNB.out]), hMap.out, qh (AH hK.out _ _), hBel.out⟩
     case measure => simp [intOf]; omega
   ·have hok' : Bo (x.name) = false := by simpa using hok
    have hnb : Au (x.name) = false := by unfold Au; rw [hok']; rfl
    have HNB := qh (HBAD.out hnb); clear hnb hok
    go_wp2_with (first
     | (go_at_call 44; refine (ID _ _ _ _ _).mono ?_; rintro e w3 ⟨rfl, hb3⟩; have hbe : Below w.heap.size w w3 := hBW.out.trans (hb3.mono hBW.out.size))
     | (go_at_call 70; refine (BY _ _).mono ?_; rintro e w4 ⟨rfl, rfl⟩; rw [hok'])
     | (go_at_call 45; refine (AK _ _).mono ?_; unfold Af; rintro e w6 ⟨rfl, rfl⟩))
    exact ⟨rfl, Or.inr ⟨HNB.out, rfl⟩, by assumption⟩
  ·obtain rfl : i = n := by omega
   have hMf := hM.out; have htf := htg.out; have haf := hall.out; rw [List.drop_eq_nil_of_le (by rw [HN.out]; exact qn _)] at htf; rw [List.take_of_length_le (by rw [HN.out]; exact qn _)] at haf; simp only [List.map_nil, Cq] at htf; rw [htf] at hMf; have HMF := qh hMf; have HAF := qh haf; clear hMf htf haf; go_wp2_with fail; go_ret; exact ⟨Or.inl ⟨HAF.out, w.heap.size, qn _, rfl, by rw [HTAB.out]; exact HMF.out⟩, hbw.out⟩
theorem Nq (xs : List Nm) (ao : Option Addr) (c : Nat) (w : World) (he : Env w) (hx : ∃ b o, ao = some ⟨b, o, none⟩ ∧ xs.length ≤ maxLen ∧ ∀ (i : Nat) (x : Nm), xs[i]? = some x → w.cell? ⟨b, o + i, none⟩ = some (sv x)) :
  Calls Try.prog 39 #[.slice ao xs.length c, .func (.func 40) #[] #[]] w (GG (xs.map id) w) := by
 obtain ⟨b, o, hao, hmax, hrow⟩ := hx; subst hao; unfold maxLen at hmax; have HROW := qh hrow; clear hrow; have hmm := @run_makeMap Try.prog; have hM0 : MapAt sv (w.alloc (.map #[] 0)) w.heap.size [] := MapAt.new w; have hb0 : Below w.heap.size w (w.alloc (.map #[] 0)) := (Below.refl _ w).alloc (qn _) _; generalize htab : AL (xs.map id) = tab; have HTAB := qh htab; have HE := qh he; have HM0 := qh hM0; have HB0 := qh hb0; clear he hM0 hb0 htab; generalize hn : xs.length = n at *; have HN := qh hn; clear hn; unfold GG; go_enter Try.func39, Try.ntmps39; go_wp2_with fail; generalize w.alloc (.map #[] 0) = w1 at *; go_loopw [12] (fun iv wr => ∃ (i : Nat) (kvs : List (Nm × Value)), iv = int i64 i ∧ i ≤ n ∧ Hid (Cq ((xs.drop i).map id) i kvs = tab) ∧ Hid (((xs.take i).map id).all Au = true) ∧ Hid (MapAt sv wr w.heap.size kvs) ∧ Hid (Az kvs) ∧ Hid (Below w.heap.size w wr)) (fun iv _ => n + 1 - (intOf iv).toNat)
 case atStart => exact ⟨0, [], rfl, Nat.zero_le _, HTAB, qh (by simp), HM0, qh List.nodup_nil, HB0⟩
 case round =>
  obtain ⟨i, kvs, rfl, hin, htg, hall, hM, hK, hbw⟩ := hrel; by_cases hlt : i < n
  ·have hi : (i : Int) < (n : Int) := by omega
   obtain ⟨x, hxi⟩ : ∃ x, xs[i]? = some x := ⟨_, qg (by rw [HN.out]; exact hlt)⟩; have hdrop : xs.drop i = x :: xs.drop (i + 1) := F2 hxi; have htake : xs.take (i + 1) = xs.take i ++ [x] := by rw [List.take_add_one, hxi]; rfl
   have HDR := qh hdrop; have HTK := qh htake; have HXI := qh hxi; have q0 := Ae hbw.out (HROW.out i x hxi); have hmx : x ∈ xs := List.mem_of_getElem? hxi; have HMX := qh hmx; clear hdrop htake hxi hmx; have hBW := hbw; have hM2 := hM
   have hbad : Au (x) = false → (xs.map id).all Au = false := fun h => by
    rw [List.all_eq_false]; exact ⟨_, List.mem_map.2 ⟨x, HMX.out, rfl⟩, by simp [h]⟩
   have HBAD := qh hbad; clear hbad; by_cases hok : Bo (x) = true
   ·have hsz := DX hok
    by_cases hct : Lib.contains words (32 :: ((x) ++ [32])) = true
    ·have hnb : Au (x) = false := by unfold Au; rw [hok, hct]; rfl
     have HNB := qh (HBAD.out hnb); clear hnb
     go_wp2_with (first
      | (go_at_call 40; refine (IB _ _).mono ?_; rintro e w3 ⟨rfl, rfl⟩; have hbe : Below w.heap.size w wr := hBW.out)
      | (go_at_call 70; refine (BY _ _).mono ?_; rintro e w4 ⟨rfl, rfl⟩; rw [hok])
      | (go_at_call 71; refine (BF _ _ (HE.out.below (by assumption))).mono ?_; rintro e w5 ⟨rfl, rfl⟩; rw [hct])
      | (go_at_call 45; refine (AK _ _).mono ?_; unfold Af; rintro e w6 ⟨rfl, rfl⟩))
     exact ⟨rfl, Or.inr ⟨HNB.out, rfl⟩, by assumption⟩
    ·have hct' : Lib.contains words (32 :: ((x) ++ [32])) = false := by simpa using hct
     have hnb : Au (x) = true := by unfold Au; rw [hok, hct']; rfl
     have HNB := qh hnb; clear hnb hct
     go_wp2_with (first
      | (go_at_call 40; refine (IB _ _).mono ?_; rintro e w3 ⟨rfl, rfl⟩; have hbe : Below w.heap.size w wr := hBW.out)
      | (go_at_call 70; refine (BY _ _).mono ?_; rintro e w4 ⟨rfl, rfl⟩; rw [hok])
      | (go_at_call 71; refine (BF _ _ (HE.out.below (by assumption))).mono ?_; rintro e w5 ⟨rfl, rfl⟩; rw [hct'])
      | (go_at_call 45; refine (Bn _ _).mono ?_; rintro e w6 ⟨rfl, rfl⟩; obtain ⟨ob, hrun, hMu⟩ := AB (P := Try.prog) (T := 90) GD Try.underlying90 Try.underlying9 hM2.out hK.out x (int i64 i); have hMap := qh hMu; have hBel := qh (hbe.trans (An _ w.heap.size ob (qn _))); clear hMu))
     go_roundw
     case rel => exact ⟨i + 1, AW kvs (x) (int i64 i), by go_num, hlt, qh (by have := htg.out; rw [HDR.out] at this; exact this), qh (by rw [HTK.out, List.map_append, List.all_append, hall.out]; simp [HNB.out]), hMap.out, qh (AH hK.out _ _), hBel.out⟩
     case measure => simp [intOf]; omega
   ·have hok' : Bo (x) = false := by simpa using hok
    have hnb : Au (x) = false := by unfold Au; rw [hok']; rfl
    have HNB := qh (HBAD.out hnb); clear hnb hok
    go_wp2_with (first
     | (go_at_call 40; refine (IB _ _).mono ?_; rintro e w3 ⟨rfl, rfl⟩; have hbe : Below w.heap.size w wr := hBW.out)
     | (go_at_call 70; refine (BY _ _).mono ?_; rintro e w4 ⟨rfl, rfl⟩; rw [hok'])
     | (go_at_call 45; refine (AK _ _).mono ?_; unfold Af; rintro e w6 ⟨rfl, rfl⟩))
    exact ⟨rfl, Or.inr ⟨HNB.out, rfl⟩, by assumption⟩
  ·obtain rfl : i = n := by omega
   have hMf := hM.out; have htf := htg.out; have haf := hall.out; rw [List.drop_eq_nil_of_le (by rw [HN.out]; exact qn _)] at htf; rw [List.take_of_length_le (by rw [HN.out]; exact qn _)] at haf; simp only [List.map_nil, Cq] at htf; rw [htf] at hMf; have HMF := qh hMf; have HAF := qh haf; clear hMf htf haf; go_wp2_with fail; go_ret; exact ⟨Or.inl ⟨HAF.out, w.heap.size, qn _, rfl, by rw [HTAB.out]; exact HMF.out⟩, hbw.out⟩
end
end Go.Proofs.Ytpnbpepkoekkoaa
