/- Contracts and plain laws on the way to the statement: part 36. -/
import Derived.Test.YtpnbpepkoekkoaaZ13
import Derived.Test.YtpnbpepkoekkoaaZ29
import Derived.Test.YtpnbpepkoekkoaaZ23
set_option linter.unusedVariables false
set_option linter.unusedSimpArgs false
section
namespace Go.Proofs.Ytpnbpepkoekkoaa
open Go Go.RowKit
structure Ls.small (s : Ls) : Prop where
 roles : s.roles.length ≤ 300
 tempos : s.tempos.length ≤ 300
 pauses : s.pauses.length ≤ 300
 spans : s.spans.length ≤ 300
 phrases : s.phrases.length ≤ 300
 dances : s.dances.length ≤ 300
 items : ∀ p ∈ s.phrases, p.its.size ≤ 300 ∧ p.its.movs ≤ 300
def Ls.mfit (s : Ls) : Prop := ∀ p ∈ s.phrases, p.its.mfit
def FewP (s : Ls) (w : World) (e : Ending) (w' : World) : Prop := ∃ b : Bool, e = .returned (.bool b) ∧ (b = true → s.small) ∧ Below w.heap.size w w'
structure FewS (s : Ls) (w : World) (B : Nat) (W : World) : Prop where
 at_ : s.At W
 fit : s.mfit
 box : W.heap[B]? = some (.cells s.cells 30 (0, 0))
 below : Below w.heap.size w W
theorem FewS.next {s : Ls} {w : World} {B : Nat} {W W' : World} (h : FewS s w B W) (hb : Below W.heap.size W W') : FewS s w B W' := ⟨h.at_.below hb, h.fit, keepO hb h.box, thenB h.below hb⟩
theorem phAt_its {w : World} {b : Nat} : ∀ {o : Nat} {ps : List Ph} {i : Nat} {p : Ph}, phAt w b o ps → ps[i]? = some p → p.Its w
 | _, [], _, _, _, h => by cases h
 | _, _ :: _, 0, _, ⟨⟨_, _, h3⟩, _⟩, h => by cases h; exact h3
 | _, _ :: r, i + 1, _, ⟨_, h⟩, hi => phAt_its (ps := r) (i := i) h (by simpa using hi)
theorem FewS.phrase {s : Ls} {w : World} {B : Nat} {W : World} (h : FewS s w B W) {i : Nat} {p : Ph} (hi : s.phrases[i]? = some p) : s.fa = some ⟨blk s.fa, off s.fa, none⟩ ∧ W.cell? ⟨blk s.fa, off s.fa + i * 2, none⟩ = some (sv p.name) ∧ W.cell? ⟨blk s.fa, off s.fa + i * 2 + 1, none⟩ = some p.val ∧ p.Its W := by
 obtain ⟨h1, h2⟩ := phAt_get h.at_.phrases hi
 refine ⟨h.at_.pform.resolve_left (fun e => by rw [e] at hi; cases hi), h1, h2, phAt_its h.at_.phrases hi⟩
noncomputable def code14 : Code := (Try.f14.body).getD .skip
noncomputable def part14n3 : Code := lastPart 3 code14
noncomputable def part14n5 : Code := lastPart 5 code14
noncomputable def part14n8 : Code := lastPart 8 code14
set_option maxRecDepth 100000 in
set_option maxHeartbeats 16000000 in
theorem few_e8 (s : Ls) (w : World) (B : Nat) (h1 : s.roles.length ≤ 300 ∧ s.tempos.length ≤ 300 ∧ s.pauses.length ≤ 300 ∧ s.spans.length ≤ 300 ∧ s.phrases.length ≤ 300 ∧ s.dances.length ≤ 300) (h2 : ∀ p ∈ s.phrases, p.its.size ≤ 300) (W : World) (hF : FewS s w B W) (e0 e2 e3 e4 e5 e6 e7 e8 e9 e10 e11 e12 e13 e14 e15 e16 e17 e18 e19 e20 e21 e22 e23 e24 e25 e26 e27 e28 e29 e30 e31 e32 e33 e34 e35 e36 e37 e38 e39 e40 e41 e42 e43 e44 e45 e46 e47 e48 e49 e50 e51 e52 e53 e54 e55 e56 e57 e58 e59 e60 e61 e62 e63 e64 e65 e66 e67 e68 e69 e70 e71 e72 e73 e74 e75 e76 e77 e78 e79 e80 e81 e82 e83 e84 e85 e86 e87 e88 e89 e90 e91 e92 e93 e94 e95 e96 e97 e98 e99 e100 e101 e102 e103 e104 e105 e106 e107 e108 e109 e110 e111 e112 e113 e114 e115 e116 e117 e118 e119 e120 e121 e122 e123 e124 e125 : Value) :
  part14n8.wp Try.prog (bodyPost Try.prog Try.f14 (FewP s w)) { tmps := #[e0, .pointer (some ⟨B, 0, none⟩), e2, e3, e4, e5, e6, e7, e8, e9, e10, e11, e12, e13, e14, e15, e16, e17, e18, e19, e20, e21, e22, e23, e24, e25, e26, e27, e28, e29, e30, e31, e32, e33, e34, e35, e36, e37, e38, e39, e40, e41, e42, e43, e44, e45, e46, e47, e48, e49, e50, e51, e52, e53, e54, e55, e56, e57, e58, e59, e60, e61, e62, e63, e64, e65, e66, e67, e68, e69, e70, e71, e72, e73, e74, e75, e76, e77, e78, e79, e80, e81, e82, e83, e84, e85, e86, e87, e88, e89, e90, e91, e92, e93, e94, e95, e96, e97, e98, e99, e100, e101, e102, e103, e104, e105, e106, e107, e108, e109, e110, e111, e112, e113, e114, e115, e116, e117, e118, e119, e120, e121, e122, e123, e124, e125], defers := [] } W := by
 have HF := Lib.hid hF; have H1 := Lib.hid h1; have H2 := Lib.hid h2
 have hn3 := h1.2.2.2.2.1
 clear hF h1 h2
 generalize hn : s.phrases.length = n at *
 have HN := Lib.hid hn
 clear hn
 unfold part14n8 code14
 conv => arg 2; whnf
 go_wp2_with fail
 go_loopw [8] (fun iv wr => ∃ i : Nat, iv = .int .i64 i ∧ i ≤ n ∧ Hid (∀ p ∈ s.phrases.take i, p.its.movs ≤ 300) ∧ Hid (FewS s w B wr)) (fun iv _ => n + 1 - (intOf iv).toNat)
 case atStart => exact ⟨0, rfl, Nat.zero_le _, Lib.hid (by simp), HF⟩
 case round =>
  obtain ⟨i, rfl, hin, hM, hS⟩ := hrel
  have y10 : wr.cell? ⟨B, 10, none⟩ = some (.slice s.fa s.phrases.length s.fc) := cell_at hS.out.box 10 rfl
  rw [HN.out] at y10
  by_cases hlt : i < n
  ·have hi : (i : Int) < (n : Int) := by omega
   obtain ⟨p, hp⟩ : ∃ p, s.phrases[i]? = some p := ⟨_, List.getElem?_eq_getElem (by rw [HN.out]; exact hlt)⟩
   obtain ⟨hfa, c0, c1, ⟨hp1, hp2, hp3⟩⟩ := hS.out.phrase hp
   unfold Ph.val at c1
   have C := moving_any p.its.size p.its (Nat.le_refl _) p.ia p.ic 0 wr (hS.out.fit p (List.mem_of_getElem? hp)) (by omega) (by omega) hp1 hp2 hp3
   have HC := Lib.hid C; have HP := Lib.hid hp
   rw [hfa] at y10
   clear C hp1 hp3 hp hfa
   go_wp2_with (go_at_call 36; refine HC.out.mono ?_; rintro e w5 ⟨k5, hk5, hk6, rfl, hb5⟩; have HK6 := Lib.hid hk6; have HB5 := Lib.hid hb5; clear hk6 hb5)
   ·go_ret
    exact ⟨false, rfl, fun h => (by cases h), (hS.out.next HB5.out).below⟩
   ·rename_i hle
    go_roundw
    case rel =>
     refine ⟨i + 1, by go_num, by omega, Lib.hid ?_, Lib.hid (hS.out.next HB5.out)⟩
     intro q hq
     rw [List.take_add_one, HP.out] at hq
     rcases List.mem_append.1 hq with hq | hq
     ·exact hM.out q hq
     ·have := HK6.out
      simp at hq
      subst hq
      omega
    case measure => simp [intOf]; omega
  ·have : i = n := by omega
   subst this
   have hz : ¬ (i : Int) < (i : Int) := by omega
   go_wp2_with fail
   go_ret
   obtain ⟨a1, a2, a3, a4, _, a6⟩ := H1.out
   refine ⟨true, rfl, fun _ => ⟨a1, a2, a3, a4, by rw [HN.out]; exact hn3, a6, fun p hp => ⟨H2.out p hp, hM.out p ?_⟩⟩, hS.out.below⟩
   rw [List.take_of_length_le (by rw [HN.out]; exact Nat.le_refl _)]
   exact hp
set_option maxRecDepth 100000 in
set_option maxHeartbeats 16000000 in
theorem few_e5 (s : Ls) (w : World) (B : Nat) (m : Int) (h1 : s.roles.length ≤ 300 ∧ s.tempos.length ≤ 300 ∧ s.pauses.length ≤ 300 ∧ s.spans.length ≤ 300 ∧ s.phrases.length ≤ 300 ∧ s.dances.length ≤ 300) (W : World) (hF : FewS s w B W) (e0 e2 e4 e5 e6 e7 e8 e9 e10 e11 e12 e13 e14 e15 e16 e17 e18 e19 e20 e21 e22 e23 e24 e25 e26 e27 e28 e29 e30 e31 e32 e33 e34 e35 e36 e37 e38 e39 e40 e41 e42 e43 e44 e45 e46 e47 e48 e49 e50 e51 e52 e53 e54 e55 e56 e57 e58 e59 e60 e61 e62 e63 e64 e65 e66 e67 e68 e69 e70 e71 e72 e73 e74 e75 e76 e77 e78 e79 e80 e81 e82 e83 e84 e85 e86 e87 e88 e89 e90 e91 e92 e93 e94 e95 e96 e97 e98 e99 e100 e101 e102 e103 e104 e105 e106 e107 e108 e109 e110 e111 e112 e113 e114 e115 e116 e117 e118 e119 e120 e121 e122 e123 e124 e125 : Value) :
  part14n5.wp Try.prog (bodyPost Try.prog Try.f14 (FewP s w)) { tmps := #[e0, .pointer (some ⟨B, 0, none⟩), e2, .int .i64 m, e4, e5, e6, e7, e8, e9, e10, e11, e12, e13, e14, e15, e16, e17, e18, e19, e20, e21, e22, e23, e24, e25, e26, e27, e28, e29, e30, e31, e32, e33, e34, e35, e36, e37, e38, e39, e40, e41, e42, e43, e44, e45, e46, e47, e48, e49, e50, e51, e52, e53, e54, e55, e56, e57, e58, e59, e60, e61, e62, e63, e64, e65, e66, e67, e68, e69, e70, e71, e72, e73, e74, e75, e76, e77, e78, e79, e80, e81, e82, e83, e84, e85, e86, e87, e88, e89, e90, e91, e92, e93, e94, e95, e96, e97, e98, e99, e100, e101, e102, e103, e104, e105, e106, e107, e108, e109, e110, e111, e112, e113, e114, e115, e116, e117, e118, e119, e120, e121, e122, e123, e124, e125], defers := [] } W := by
 have HF := Lib.hid hF; have H1 := Lib.hid h1
 have hn3 := h1.2.2.2.2.1
 clear hF h1
 generalize hn : s.phrases.length = n at *
 have HN := Lib.hid hn
 clear hn
 change Code.wp Try.prog (withLast 3 (lastPart 5 code14) part14n8) _ _ _
 conv => arg 2; whnf
 go_wp2_with fail
 conv => arg 2; whnf
 go_wp2_with fail
 go_loopw [6, 7] (fun kv iv wr => ∃ (i : Nat) (k : Int), iv = .int .i64 i ∧ kv = .int .i64 k ∧ i ≤ n ∧ 0 ≤ k ∧ Hid (5000 ≤ k ∨ ∀ p ∈ s.phrases.take i, (p.its.size : Int) ≤ k) ∧ Hid (FewS s w B wr)) (fun _ iv _ => n + 1 - (intOf iv).toNat)
 case atStart => exact ⟨0, 0, rfl, rfl, Nat.zero_le _, by omega, Lib.hid (Or.inr (by simp)), HF⟩
 case round =>
  obtain ⟨i, k, rfl, rfl, hin, hk0, hM, hS⟩ := hrel
  have y10 : wr.cell? ⟨B, 10, none⟩ = some (.slice s.fa s.phrases.length s.fc) := cell_at hS.out.box 10 rfl
  rw [HN.out] at y10
  have hend : (5000 ≤ k ∨ i = n) → (k ≤ 300 → ∀ p ∈ s.phrases, p.its.size ≤ 300) := fun h1 h2 p hp => by
   rcases h1 with h1 | h1
   ·omega
   ·rcases hM.out with h3 | h3
    ·omega
    ·have := h3 p (by rw [List.take_of_length_le (by rw [HN.out]; omega)]; exact hp)
     omega
  have HEND := Lib.hid hend
  clear hend
  by_cases hlt : i < n
  ·have hi : (i : Int) < (n : Int) := by omega
   by_cases hk : k < 5000
   ·obtain ⟨p, hp⟩ : ∃ p, s.phrases[i]? = some p := ⟨_, List.getElem?_eq_getElem (by rw [HN.out]; exact hlt)⟩
    obtain ⟨hfa, c0, c1, ⟨hp1, hp2, hp3⟩⟩ := hS.out.phrase hp
    unfold Ph.val at c1
    have C := shallow_any p.its.size p.its (Nat.le_refl _) p.ia p.ic 1 k wr (by omega) (by omega) hk0 (by omega) hp1 hp2 hp3
    have HC := Lib.hid C; have HP := Lib.hid hp
    rw [hfa] at y10
    clear C hp1 hp3 hp hfa
    go_wp2_with (go_at_call 35; refine HC.out.mono ?_; rintro e w5 ⟨k5, hk5, hk6, rfl, hb5⟩; have HK6 := Lib.hid hk6; have HB5 := Lib.hid hb5; clear hk6 hb5)
    go_roundw
    case rel =>
     refine ⟨i + 1, k5, by go_num, rfl, by omega, hk5, Lib.hid ?_, Lib.hid (hS.out.next HB5.out)⟩
     have h6 := HK6.out
     rcases hM.out with h3 | h3
     ·omega
     ·rcases h6 with h6 | h6
      ·exact Or.inl h6
      ·right
       intro q hq
       rw [List.take_add_one, HP.out] at hq
       rcases List.mem_append.1 hq with hq | hq
       ·have := h3 q hq; omega
       ·simp at hq
        subst hq
        omega
    case measure => simp [intOf]; omega
   ·have hz : ¬ (k : Int) ≤ 300 := by omega
    have hz2 : 300 < k := by omega
    go_wp2_with fail
    conv => arg 2; whnf
    go_wp2_with fail
    all_goals
     go_ret
     exact ⟨false, rfl, fun h => (by cases h), hS.out.below⟩
  ·have hz : ¬ (i : Int) < (n : Int) := by omega
   by_cases hk3 : k ≤ 300
   ·by_cases hm : m ≤ 6000
    ·go_wp2_with fail
     conv => arg 2; whnf
     go_wp2_with fail
     conv => arg 2; whnf
     exact few_e8 s w B (by rw [HN.out]; exact H1.out) (HEND.out (Or.inr (by omega)) hk3) wr hS.out _ _ _ _ _ _ _ _ _ _ _ _ _ _ _ _ _ _ _ _ _ _ _ _ _ _ _ _ _ _ _ _ _ _ _ _ _ _ _ _ _ _ _ _ _ _ _ _ _ _ _ _ _ _ _ _ _ _ _ _ _ _ _ _ _ _ _ _ _ _ _ _ _ _ _ _ _ _ _ _ _ _ _ _ _ _ _ _ _ _ _ _ _ _ _ _ _ _ _ _ _ _ _ _ _ _ _ _ _ _ _ _ _ _ _ _ _ _ _ _ _ _ _ _ _
    ·have hm2 : 6000 < m := by omega
     go_wp2_with fail
     conv => arg 2; whnf
     go_wp2_with fail
     go_ret
     exact ⟨false, rfl, fun h => (by cases h), hS.out.below⟩
   ·have hk4 : 300 < k := by omega
    go_wp2_with fail
    conv => arg 2; whnf
    go_wp2_with fail
    all_goals
     go_ret
     exact ⟨false, rfl, fun h => (by cases h), hS.out.below⟩
noncomputable def part14n4 : Code := lastPart 4 code14
set_option maxRecDepth 100000 in
set_option maxHeartbeats 16000000 in
theorem few_e4 (s : Ls) (w : World) (B : Nat) (m : Int) (h1 : s.roles.length ≤ 300 ∧ s.tempos.length ≤ 300 ∧ s.pauses.length ≤ 300 ∧ s.spans.length ≤ 300 ∧ s.phrases.length ≤ 300 ∧ s.dances.length ≤ 300) (W : World) (hF : FewS s w B W) (e0 e2 e4 e5 e6 e7 e8 e9 e10 e11 e12 e13 e14 e15 e16 e17 e18 e19 e20 e21 e22 e23 e24 e25 e26 e27 e28 e29 e30 e31 e32 e33 e34 e35 e36 e37 e38 e39 e40 e41 e42 e43 e44 e45 e46 e47 e48 e49 e50 e51 e52 e53 e54 e55 e56 e57 e58 e59 e60 e61 e62 e63 e64 e65 e66 e67 e68 e69 e70 e71 e72 e73 e74 e75 e76 e77 e78 e79 e80 e81 e82 e83 e84 e85 e86 e87 e88 e89 e90 e91 e92 e93 e94 e95 e96 e97 e98 e99 e100 e101 e102 e103 e104 e105 e106 e107 e108 e109 e110 e111 e112 e113 e114 e115 e116 e117 e118 e119 e120 e121 e122 e123 e124 e125 : Value) :
  part14n4.wp Try.prog (bodyPost Try.prog Try.f14 (FewP s w)) { tmps := #[e0, .pointer (some ⟨B, 0, none⟩), e2, .int .i64 m, e4, e5, e6, e7, e8, e9, e10, e11, e12, e13, e14, e15, e16, e17, e18, e19, e20, e21, e22, e23, e24, e25, e26, e27, e28, e29, e30, e31, e32, e33, e34, e35, e36, e37, e38, e39, e40, e41, e42, e43, e44, e45, e46, e47, e48, e49, e50, e51, e52, e53, e54, e55, e56, e57, e58, e59, e60, e61, e62, e63, e64, e65, e66, e67, e68, e69, e70, e71, e72, e73, e74, e75, e76, e77, e78, e79, e80, e81, e82, e83, e84, e85, e86, e87, e88, e89, e90, e91, e92, e93, e94, e95, e96, e97, e98, e99, e100, e101, e102, e103, e104, e105, e106, e107, e108, e109, e110, e111, e112, e113, e114, e115, e116, e117, e118, e119, e120, e121, e122, e123, e124, e125], defers := [] } W := by
 have HF := Lib.hid hF
 have y : W.cell? ⟨B, 10, none⟩ = some (.slice s.fa s.phrases.length s.fc) := cell_at hF.box 10 rfl
 have hn1 := h1.2.2.2.2.1
 have hrow : ∀ (i : Nat) (x : Ph), s.phrases[i]? = some x → ∃ b o, s.fa = some ⟨b, o, none⟩ ∧ W.cell? ⟨b, o + i * 2, none⟩ = some (sv x.name) := fun i x h => by
  obtain ⟨h1, h2, _⟩ := hF.phrase h
  exact ⟨_, _, h1, h2⟩
 have HROW := Lib.hid hrow
 have HGO : Hid (∀ (m : Int) (W : World) (_ : FewS s w B W) (e0 e2 e4 e5 e6 e7 e8 e9 e10 e11 e12 e13 e14 e15 e16 e17 e18 e19 e20 e21 e22 e23 e24 e25 e26 e27 e28 e29 e30 e31 e32 e33 e34 e35 e36 e37 e38 e39 e40 e41 e42 e43 e44 e45 e46 e47 e48 e49 e50 e51 e52 e53 e54 e55 e56 e57 e58 e59 e60 e61 e62 e63 e64 e65 e66 e67 e68 e69 e70 e71 e72 e73 e74 e75 e76 e77 e78 e79 e80 e81 e82 e83 e84 e85 e86 e87 e88 e89 e90 e91 e92 e93 e94 e95 e96 e97 e98 e99 e100 e101 e102 e103 e104 e105 e106 e107 e108 e109 e110 e111 e112 e113 e114 e115 e116 e117 e118 e119 e120 e121 e122 e123 e124 e125 : Value), part14n5.wp Try.prog (bodyPost Try.prog Try.f14 (FewP s w)) { tmps := #[e0, .pointer (some ⟨B, 0, none⟩), e2, .int .i64 m, e4, e5, e6, e7, e8, e9, e10, e11, e12, e13, e14, e15, e16, e17, e18, e19, e20, e21, e22, e23, e24, e25, e26, e27, e28, e29, e30, e31, e32, e33, e34, e35, e36, e37, e38, e39, e40, e41, e42, e43, e44, e45, e46, e47, e48, e49, e50, e51, e52, e53, e54, e55, e56, e57, e58, e59, e60, e61, e62, e63, e64, e65, e66, e67, e68, e69, e70, e71, e72, e73, e74, e75, e76, e77, e78, e79, e80, e81, e82, e83, e84, e85, e86, e87, e88, e89, e90, e91, e92, e93, e94, e95, e96, e97, e98, e99, e100, e101, e102, e103, e104, e105, e106, e107, e108, e109, e110, e111, e112, e113, e114, e115, e116, e117, e118, e119, e120, e121, e122, e123, e124, e125], defers := [] } W) := Lib.hid (fun m => few_e5 s w B m h1)
 clear hF h1 hrow
 generalize hr : s.phrases.length = nr at *
 have HR := Lib.hid hr
 clear hr
 change Code.wp Try.prog (withLast 1 (lastPart 4 code14) part14n5) _ _ _
 conv => arg 2; whnf
 go_wp2_with fail
 go_loopw [3, 5] (fun kv iv wr => ∃ (i : Nat) (k : Int), iv = .int .i64 i ∧ kv = .int .i64 k ∧ i ≤ nr ∧ wr = W) (fun _ iv _ => nr + 1 - (intOf iv).toNat)
 case atStart => exact ⟨0, m, rfl, rfl, Nat.zero_le _, rfl⟩
 case round =>
  obtain ⟨i, k, rfl, rfl, hin, rfl⟩ := hrel
  by_cases hx : i = nr
  ·subst hx
   have hz : ¬ (i : Int) < (i : Int) := by omega
   go_wp2_with fail
   exact HGO.out k wr HF.out _ _ _ _ _ _ _ _ _ _ _ _ _ _ _ _ _ _ _ _ _ _ _ _ _ _ _ _ _ _ _ _ _ _ _ _ _ _ _ _ _ _ _ _ _ _ _ _ _ _ _ _ _ _ _ _ _ _ _ _ _ _ _ _ _ _ _ _ _ _ _ _ _ _ _ _ _ _ _ _ _ _ _ _ _ _ _ _ _ _ _ _ _ _ _ _ _ _ _ _ _ _ _ _ _ _ _ _ _ _ _ _ _ _ _ _ _ _ _ _ _ _ _ _
  ·have hi : (i : Int) < (nr : Int) := by omega
   by_cases hk : k ≤ 6000
   ·obtain ⟨x, hp⟩ : ∃ x, s.phrases[i]? = some x := ⟨_, List.getElem?_eq_getElem (by rw [HR.out]; omega)⟩
    obtain ⟨b, o, hao, c0⟩ := HROW.out i x hp
    rw [hao] at y
    clear hp hao
    go_wp2_with fail
    go_roundw
    case rel => exact ⟨i + 1, _, by go_num, rfl, by omega, trivial⟩
    case measure => simp [intOf]; omega
   ·go_wp2_with fail
    exact HGO.out k wr HF.out _ _ _ _ _ _ _ _ _ _ _ _ _ _ _ _ _ _ _ _ _ _ _ _ _ _ _ _ _ _ _ _ _ _ _ _ _ _ _ _ _ _ _ _ _ _ _ _ _ _ _ _ _ _ _ _ _ _ _ _ _ _ _ _ _ _ _ _ _ _ _ _ _ _ _ _ _ _ _ _ _ _ _ _ _ _ _ _ _ _ _ _ _ _ _ _ _ _ _ _ _ _ _ _ _ _ _ _ _ _ _ _ _ _ _ _ _ _ _ _ _ _ _ _
set_option maxRecDepth 100000 in
set_option maxHeartbeats 16000000 in
theorem few_e3 (s : Ls) (w : World) (B : Nat) (m : Int) (h1 : s.roles.length ≤ 300 ∧ s.tempos.length ≤ 300 ∧ s.pauses.length ≤ 300 ∧ s.spans.length ≤ 300 ∧ s.phrases.length ≤ 300 ∧ s.dances.length ≤ 300) (W : World) (hF : FewS s w B W) (e0 e2 e4 e5 e6 e7 e8 e9 e10 e11 e12 e13 e14 e15 e16 e17 e18 e19 e20 e21 e22 e23 e24 e25 e26 e27 e28 e29 e30 e31 e32 e33 e34 e35 e36 e37 e38 e39 e40 e41 e42 e43 e44 e45 e46 e47 e48 e49 e50 e51 e52 e53 e54 e55 e56 e57 e58 e59 e60 e61 e62 e63 e64 e65 e66 e67 e68 e69 e70 e71 e72 e73 e74 e75 e76 e77 e78 e79 e80 e81 e82 e83 e84 e85 e86 e87 e88 e89 e90 e91 e92 e93 e94 e95 e96 e97 e98 e99 e100 e101 e102 e103 e104 e105 e106 e107 e108 e109 e110 e111 e112 e113 e114 e115 e116 e117 e118 e119 e120 e121 e122 e123 e124 e125 : Value) :
  part14n3.wp Try.prog (bodyPost Try.prog Try.f14 (FewP s w)) { tmps := #[e0, .pointer (some ⟨B, 0, none⟩), e2, .int .i64 m, e4, e5, e6, e7, e8, e9, e10, e11, e12, e13, e14, e15, e16, e17, e18, e19, e20, e21, e22, e23, e24, e25, e26, e27, e28, e29, e30, e31, e32, e33, e34, e35, e36, e37, e38, e39, e40, e41, e42, e43, e44, e45, e46, e47, e48, e49, e50, e51, e52, e53, e54, e55, e56, e57, e58, e59, e60, e61, e62, e63, e64, e65, e66, e67, e68, e69, e70, e71, e72, e73, e74, e75, e76, e77, e78, e79, e80, e81, e82, e83, e84, e85, e86, e87, e88, e89, e90, e91, e92, e93, e94, e95, e96, e97, e98, e99, e100, e101, e102, e103, e104, e105, e106, e107, e108, e109, e110, e111, e112, e113, e114, e115, e116, e117, e118, e119, e120, e121, e122, e123, e124, e125], defers := [] } W := by
 have HF := Lib.hid hF
 have y : W.cell? ⟨B, 6, none⟩ = some (.slice s.ra s.roles.length s.rc) := cell_at hF.box 6 rfl
 have hn1 := h1.1
 have hrow : ∀ (i : Nat) (x : Rol), s.roles[i]? = some x → ∃ b o, s.ra = some ⟨b, o, none⟩ ∧ W.cell? ⟨b, o + i * 4, none⟩ = some (sv x.name) := fun i x h => by
  obtain ⟨b, o, h1, h2, _⟩ := IsRow.block hF.at_.roles h
  exact ⟨b, o, h1, h2 i x h 0 _ rfl⟩
 have HROW := Lib.hid hrow
 have HGO : Hid (∀ (m : Int) (W : World) (_ : FewS s w B W) (e0 e2 e4 e5 e6 e7 e8 e9 e10 e11 e12 e13 e14 e15 e16 e17 e18 e19 e20 e21 e22 e23 e24 e25 e26 e27 e28 e29 e30 e31 e32 e33 e34 e35 e36 e37 e38 e39 e40 e41 e42 e43 e44 e45 e46 e47 e48 e49 e50 e51 e52 e53 e54 e55 e56 e57 e58 e59 e60 e61 e62 e63 e64 e65 e66 e67 e68 e69 e70 e71 e72 e73 e74 e75 e76 e77 e78 e79 e80 e81 e82 e83 e84 e85 e86 e87 e88 e89 e90 e91 e92 e93 e94 e95 e96 e97 e98 e99 e100 e101 e102 e103 e104 e105 e106 e107 e108 e109 e110 e111 e112 e113 e114 e115 e116 e117 e118 e119 e120 e121 e122 e123 e124 e125 : Value), part14n4.wp Try.prog (bodyPost Try.prog Try.f14 (FewP s w)) { tmps := #[e0, .pointer (some ⟨B, 0, none⟩), e2, .int .i64 m, e4, e5, e6, e7, e8, e9, e10, e11, e12, e13, e14, e15, e16, e17, e18, e19, e20, e21, e22, e23, e24, e25, e26, e27, e28, e29, e30, e31, e32, e33, e34, e35, e36, e37, e38, e39, e40, e41, e42, e43, e44, e45, e46, e47, e48, e49, e50, e51, e52, e53, e54, e55, e56, e57, e58, e59, e60, e61, e62, e63, e64, e65, e66, e67, e68, e69, e70, e71, e72, e73, e74, e75, e76, e77, e78, e79, e80, e81, e82, e83, e84, e85, e86, e87, e88, e89, e90, e91, e92, e93, e94, e95, e96, e97, e98, e99, e100, e101, e102, e103, e104, e105, e106, e107, e108, e109, e110, e111, e112, e113, e114, e115, e116, e117, e118, e119, e120, e121, e122, e123, e124, e125], defers := [] } W) := Lib.hid (fun m => few_e4 s w B m h1)
 clear hF h1 hrow
 generalize hr : s.roles.length = nr at *
 have HR := Lib.hid hr
 clear hr
 change Code.wp Try.prog (withLast 1 (lastPart 3 code14) part14n4) _ _ _
 conv => arg 2; whnf
 go_wp2_with fail
 go_loopw [3, 4] (fun kv iv wr => ∃ (i : Nat) (k : Int), iv = .int .i64 i ∧ kv = .int .i64 k ∧ i ≤ nr ∧ wr = W) (fun _ iv _ => nr + 1 - (intOf iv).toNat)
 case atStart => exact ⟨0, m, rfl, rfl, Nat.zero_le _, rfl⟩
 case round =>
  obtain ⟨i, k, rfl, rfl, hin, rfl⟩ := hrel
  by_cases hx : i = nr
  ·subst hx
   have hz : ¬ (i : Int) < (i : Int) := by omega
   go_wp2_with fail
   exact HGO.out k wr HF.out _ _ _ _ _ _ _ _ _ _ _ _ _ _ _ _ _ _ _ _ _ _ _ _ _ _ _ _ _ _ _ _ _ _ _ _ _ _ _ _ _ _ _ _ _ _ _ _ _ _ _ _ _ _ _ _ _ _ _ _ _ _ _ _ _ _ _ _ _ _ _ _ _ _ _ _ _ _ _ _ _ _ _ _ _ _ _ _ _ _ _ _ _ _ _ _ _ _ _ _ _ _ _ _ _ _ _ _ _ _ _ _ _ _ _ _ _ _ _ _ _ _ _ _
  ·have hi : (i : Int) < (nr : Int) := by omega
   by_cases hk : k ≤ 6000
   ·obtain ⟨x, hp⟩ : ∃ x, s.roles[i]? = some x := ⟨_, List.getElem?_eq_getElem (by rw [HR.out]; omega)⟩
    obtain ⟨b, o, hao, c0⟩ := HROW.out i x hp
    rw [hao] at y
    clear hp hao
    go_wp2_with fail
    go_roundw
    case rel => exact ⟨i + 1, _, by go_num, rfl, by omega, trivial⟩
    case measure => simp [intOf]; omega
   ·go_wp2_with fail
    exact HGO.out k wr HF.out _ _ _ _ _ _ _ _ _ _ _ _ _ _ _ _ _ _ _ _ _ _ _ _ _ _ _ _ _ _ _ _ _ _ _ _ _ _ _ _ _ _ _ _ _ _ _ _ _ _ _ _ _ _ _ _ _ _ _ _ _ _ _ _ _ _ _ _ _ _ _ _ _ _ _ _ _ _ _ _ _ _ _ _ _ _ _ _ _ _ _ _ _ _ _ _ _ _ _ _ _ _ _ _ _ _ _ _ _ _ _ _ _ _ _ _ _ _ _ _ _ _ _ _
set_option maxRecDepth 100000 in
set_option maxHeartbeats 16000000 in
theorem few_any (s : Ls) (w : World) (hA : s.At w) (hm : s.mfit) : Calls Try.prog 14 #[s.val] w (FewP s w) := by
 obtain ⟨W, hW, hB, hbW⟩ : ∃ W, w.alloc (.cells s.cells 30) = W ∧ W.heap[w.heap.size]? = some (.cells s.cells 30 (0, 0)) ∧ Below w.heap.size w W := ⟨_, rfl, heap_alloc_new w _, (Below.refl _ w).alloc (Nat.le_refl _) _⟩
 have hF : FewS s w w.heap.size W := ⟨hA.below hbW, hm, hB, hbW⟩
 have HF := Lib.hid hF
 have hno : (¬ (s.roles.length ≤ 300 ∧ s.tempos.length ≤ 300 ∧ s.pauses.length ≤ 300 ∧ s.spans.length ≤ 300 ∧ s.phrases.length ≤ 300 ∧ s.dances.length ≤ 300)) → FewP s w (.returned (.bool false)) W := fun _ => ⟨false, rfl, fun h => (by cases h), hF.below⟩
 have HNO := Lib.hid hno
 have y6 : W.cell? ⟨w.heap.size, 6, none⟩ = some (.slice s.ra s.roles.length s.rc) := cell_at hB 6 rfl; have y7 : W.cell? ⟨w.heap.size, 7, none⟩ = some (.slice s.ta s.tempos.length s.tc) := cell_at hB 7 rfl; have y8 : W.cell? ⟨w.heap.size, 8, none⟩ = some (.slice s.ua s.pauses.length s.uc) := cell_at hB 8 rfl; have y9 : W.cell? ⟨w.heap.size, 9, none⟩ = some (.slice s.sa s.spans.length s.sc) := cell_at hB 9 rfl; have y10 : W.cell? ⟨w.heap.size, 10, none⟩ = some (.slice s.fa s.phrases.length s.fc) := cell_at hB 10 rfl; have y11 : W.cell? ⟨w.heap.size, 11, none⟩ = some (.slice s.da s.dances.length s.dc) := cell_at hB 11 rfl
 have y0 : W.cell? ⟨w.heap.size, 0, none⟩ = some (sv s.name) := cell_at hB 0 rfl
 have HV : Hid (s.val = .agg s.cells) := Lib.hid rfl
 have hv : s.val = .agg s.cells := rfl
 rw [hv]
 unfold Ls.cells at hW ⊢
 clear hA hm hF hbW hno hv hB
 have HGO : Hid (∀ (h1 : s.roles.length ≤ 300 ∧ s.tempos.length ≤ 300 ∧ s.pauses.length ≤ 300 ∧ s.spans.length ≤ 300 ∧ s.phrases.length ≤ 300 ∧ s.dances.length ≤ 300) (m : Int) (W : World) (_ : FewS s w w.heap.size W) (e0 e2 e4 e5 e6 e7 e8 e9 e10 e11 e12 e13 e14 e15 e16 e17 e18 e19 e20 e21 e22 e23 e24 e25 e26 e27 e28 e29 e30 e31 e32 e33 e34 e35 e36 e37 e38 e39 e40 e41 e42 e43 e44 e45 e46 e47 e48 e49 e50 e51 e52 e53 e54 e55 e56 e57 e58 e59 e60 e61 e62 e63 e64 e65 e66 e67 e68 e69 e70 e71 e72 e73 e74 e75 e76 e77 e78 e79 e80 e81 e82 e83 e84 e85 e86 e87 e88 e89 e90 e91 e92 e93 e94 e95 e96 e97 e98 e99 e100 e101 e102 e103 e104 e105 e106 e107 e108 e109 e110 e111 e112 e113 e114 e115 e116 e117 e118 e119 e120 e121 e122 e123 e124 e125 : Value), part14n3.wp Try.prog (bodyPost Try.prog Try.f14 (FewP s w)) { tmps := #[e0, .pointer (some ⟨w.heap.size, 0, none⟩), e2, .int .i64 m, e4, e5, e6, e7, e8, e9, e10, e11, e12, e13, e14, e15, e16, e17, e18, e19, e20, e21, e22, e23, e24, e25, e26, e27, e28, e29, e30, e31, e32, e33, e34, e35, e36, e37, e38, e39, e40, e41, e42, e43, e44, e45, e46, e47, e48, e49, e50, e51, e52, e53, e54, e55, e56, e57, e58, e59, e60, e61, e62, e63, e64, e65, e66, e67, e68, e69, e70, e71, e72, e73, e74, e75, e76, e77, e78, e79, e80, e81, e82, e83, e84, e85, e86, e87, e88, e89, e90, e91, e92, e93, e94, e95, e96, e97, e98, e99, e100, e101, e102, e103, e104, e105, e106, e107, e108, e109, e110, e111, e112, e113, e114, e115, e116, e117, e118, e119, e120, e121, e122, e123, e124, e125], defers := [] } W) := Lib.hid (fun h1 m => few_e3 s w w.heap.size m h1)
 have HQ : Hid (s.roles.length ≤ 300 ∧ s.tempos.length ≤ 300 ∧ s.pauses.length ≤ 300 ∧ s.spans.length ≤ 300 ∧ s.phrases.length ≤ 300 ∧ s.dances.length ≤ 300 ∨ ¬ (s.roles.length ≤ 300 ∧ s.tempos.length ≤ 300 ∧ s.pauses.length ≤ 300 ∧ s.spans.length ≤ 300 ∧ s.phrases.length ≤ 300 ∧ s.dances.length ≤ 300)) := Lib.hid (by omega)
 by_cases q0 : s.roles.length ≤ 300
 ·skip
  by_cases q1 : s.phrases.length ≤ 300
  ·skip
   by_cases q2 : s.dances.length ≤ 300
   ·skip
    by_cases q3 : s.tempos.length ≤ 300
    ·skip
     by_cases q4 : s.pauses.length ≤ 300
     ·skip
      by_cases q5 : s.spans.length ≤ 300
      ·skip
       have HG2 := Lib.hid (HGO.out ⟨q0, q3, q4, q5, q1, q2⟩)
       clear HGO
       generalize s.roles.length = n0 at *; generalize s.phrases.length = n1 at *; generalize s.dances.length = n2 at *; generalize s.tempos.length = n3 at *; generalize s.pauses.length = n4 at *; generalize s.spans.length = n5 at *
       go_enter Try.func14, Try.ntmps14
       change Code.wp Try.prog (withLast 3 code14 part14n3) _ _ _
       conv => arg 2; whnf
       go_wp2_with fail
       conv => arg 2; whnf
       go_wp2_with fail
       conv => arg 2; whnf
       go_wp2_with fail
       conv => arg 2; whnf
       exact HG2.out _ _ HF.out _ _ _ _ _ _ _ _ _ _ _ _ _ _ _ _ _ _ _ _ _ _ _ _ _ _ _ _ _ _ _ _ _ _ _ _ _ _ _ _ _ _ _ _ _ _ _ _ _ _ _ _ _ _ _ _ _ _ _ _ _ _ _ _ _ _ _ _ _ _ _ _ _ _ _ _ _ _ _ _ _ _ _ _ _ _ _ _ _ _ _ _ _ _ _ _ _ _ _ _ _ _ _ _ _ _ _ _ _ _ _ _ _ _ _ _ _ _ _ _ _ _ _ _
      ·have q5n : 300 < s.spans.length := by omega
       have HX := Lib.hid (HNO.out (by omega))
       generalize s.roles.length = n0 at *; generalize s.phrases.length = n1 at *; generalize s.dances.length = n2 at *; generalize s.tempos.length = n3 at *; generalize s.pauses.length = n4 at *; generalize s.spans.length = n5 at *
       go_enter Try.func14, Try.ntmps14
       change Code.wp Try.prog (withLast 3 code14 part14n3) _ _ _
       conv => arg 2; whnf
       go_wp2_with fail
       conv => arg 2; whnf
       go_wp2_with fail
       go_ret
       exact HX.out
     ·have q4n : 300 < s.pauses.length := by omega
      have HX := Lib.hid (HNO.out (by omega))
      generalize s.roles.length = n0 at *; generalize s.phrases.length = n1 at *; generalize s.dances.length = n2 at *; generalize s.tempos.length = n3 at *; generalize s.pauses.length = n4 at *; generalize s.spans.length = n5 at *
      go_enter Try.func14, Try.ntmps14
      change Code.wp Try.prog (withLast 3 code14 part14n3) _ _ _
      conv => arg 2; whnf
      go_wp2_with fail
      conv => arg 2; whnf
      go_wp2_with fail
      go_ret
      exact HX.out
    ·have q3n : 300 < s.tempos.length := by omega
     have HX := Lib.hid (HNO.out (by omega))
     generalize s.roles.length = n0 at *; generalize s.phrases.length = n1 at *; generalize s.dances.length = n2 at *; generalize s.tempos.length = n3 at *; generalize s.pauses.length = n4 at *; generalize s.spans.length = n5 at *
     go_enter Try.func14, Try.ntmps14
     change Code.wp Try.prog (withLast 3 code14 part14n3) _ _ _
     conv => arg 2; whnf
     go_wp2_with fail
     conv => arg 2; whnf
     go_wp2_with fail
     go_ret
     exact HX.out
   ·have q2n : 300 < s.dances.length := by omega
    have HX := Lib.hid (HNO.out (by omega))
    generalize s.roles.length = n0 at *; generalize s.phrases.length = n1 at *; generalize s.dances.length = n2 at *; generalize s.tempos.length = n3 at *; generalize s.pauses.length = n4 at *; generalize s.spans.length = n5 at *
    go_enter Try.func14, Try.ntmps14
    change Code.wp Try.prog (withLast 3 code14 part14n3) _ _ _
    conv => arg 2; whnf
    go_wp2_with fail
    conv => arg 2; whnf
    go_wp2_with fail
    go_ret
    exact HX.out
  ·have q1n : 300 < s.phrases.length := by omega
   have HX := Lib.hid (HNO.out (by omega))
   generalize s.roles.length = n0 at *; generalize s.phrases.length = n1 at *; generalize s.dances.length = n2 at *; generalize s.tempos.length = n3 at *; generalize s.pauses.length = n4 at *; generalize s.spans.length = n5 at *
   go_enter Try.func14, Try.ntmps14
   change Code.wp Try.prog (withLast 3 code14 part14n3) _ _ _
   conv => arg 2; whnf
   go_wp2_with fail
   conv => arg 2; whnf
   go_wp2_with fail
   go_ret
   exact HX.out
 ·have q0n : 300 < s.roles.length := by omega
  have HX := Lib.hid (HNO.out (by omega))
  generalize s.roles.length = n0 at *; generalize s.phrases.length = n1 at *; generalize s.dances.length = n2 at *; generalize s.tempos.length = n3 at *; generalize s.pauses.length = n4 at *; generalize s.spans.length = n5 at *
  go_enter Try.func14, Try.ntmps14
  change Code.wp Try.prog (withLast 3 code14 part14n3) _ _ _
  conv => arg 2; whnf
  go_wp2_with fail
  conv => arg 2; whnf
  go_wp2_with fail
  go_ret
  exact HX.out
end Go.Proofs.Ytpnbpepkoekkoaa
end
