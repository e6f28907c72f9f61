/- The walk of the statement: part 10. -/
import Derived.Test.YtpnbpepkoekkoaaYRSCp9
import Derived.Test.YtpnbpepkoekkoaaZ14
set_option linter.unusedVariables false
set_option linter.unusedSimpArgs false
section
namespace Go.Proofs.Ytpnbpepkoekkoaa
open Go Go.RowKit
def stepJ (kss : List (List Int)) (i nn : Int) (j : Nat) (g : Int → Option Int) : Int → Option Int := if (g j).isSome = true then g else if hitS (kss.getD j []) i nn g = true then putF g j nn else g
def farJ (kss : List (List Int)) (i nn : Int) (g : Int → Option Int) : Nat → (Int → Option Int)
 | 0 => g
 | j + 1 => stepJ kss i nn j (farJ kss i nn g j)
def farN (kss : List (List Int)) (i : Int) : Nat → (Int → Option Int)
 | 0 => fun _ => none
 | m + 1 => farJ kss i (m + 1 : Nat) (farN kss i m) kss.length
noncomputable def body5 : Code := match lastPart 2 bodyB with
 | .seq (.seq _ (.block _ (.loop (.seq _ (.seq (.block _ c) _))))) _ => c
 | c => c
set_option maxRecDepth 100000 in
set_option maxHeartbeats 16000000 in
theorem rg_e15 (i nn : Int) (N G n F : Nat) (kss : List (List Int)) (ms : List Nat) (g : Int → Option Int) (w W : World) (hW : FarW w W N G n F kss ms g) (hn : n ≤ 1000) (hnn : 1 ≤ nn ∧ nn ≤ 1000) (Q : Exit → Act → World → Prop) (e0 e1 e2 e4 e5 e9 e10 e11 e12 e13 e14 e15 e16 e17 e18 e19 e20 e21 e22 e23 e24 e25 e26 e27 e28 e29 e30 e31 e32 e33 e34 e35 e36 e37 e38 e39 e40 e41 e42 e43 e44 e45 e46 e47 e48 e49 e50 e51 e52 e53 e54 e55 e56 e57 e58 e59 e60 e61 e62 e63 e64 e65 e66 e67 e68 e69 e70 e71 e72 e73 e74 e75 e76 e77 e78 e79 e80 e81 e82 e83 e84 e85 e86 e87 e88 e89 e90 e91 e92 e93 e94 e95 e96 e97 e98 e99 e100 e101 e102 e103 e104 e105 e106 e107 e108 e109 e110 e111 e112 e113 e114 e115 e116 e117 e118 e119 e120 e121 e122 e123 e124 e125 e126 e127 e128 e129 e130 e131 e132 e133 e134 e135 e136 e137 e138 e139 e140 e141 e142 e143 e144 e145 e146 e147 e148 e149 e150 : Value)
  (hQ : ∀ (x9 x10 x11 x12 x13 x14 x53 x54 x55 x56 x57 x58 x59 x60 x61 x62 x63 x64 x65 x66 x67 x68 x69 x70 x71 x72 x73 x74 x75 x76 x77 x78 x79 x80 x81 x82 x83 x84 x85 x86 x87 x88 x89 x90 x91 x92 x93 x94 x95 x96 x97 x98 x99 x100 x101 x102 x103 : Value) (V : World), FarW w V N G n F kss ms (farJ kss i nn g n) → Q .normal { tmps := #[e0, e1, e2, .pointer (some ⟨N, 0, none⟩), e4, e5, .int .i64 i, .map (some F), .int .i64 nn, x9, x10, x11, x12, x13, x14, e15, e16, e17, e18, e19, e20, e21, e22, e23, e24, e25, e26, e27, e28, e29, e30, e31, e32, e33, e34, e35, e36, e37, e38, e39, e40, e41, e42, e43, e44, e45, e46, e47, e48, e49, e50, e51, e52, x53, x54, x55, x56, x57, x58, x59, x60, x61, x62, x63, x64, x65, x66, x67, x68, x69, x70, x71, x72, x73, x74, x75, x76, x77, x78, x79, x80, x81, x82, x83, x84, x85, x86, x87, x88, x89, x90, x91, x92, x93, x94, x95, x96, x97, x98, x99, x100, x101, x102, x103, e104, e105, e106, e107, e108, e109, e110, e111, e112, e113, e114, e115, e116, e117, e118, e119, e120, e121, e122, e123, e124, e125, e126, e127, e128, e129, e130, e131, e132, e133, e134, e135, e136, e137, e138, e139, e140, e141, e142, e143, e144, e145, e146, e147, e148, e149, e150], defers := [] } V) :
  body5.wp Try.prog Q { tmps := #[e0, e1, e2, .pointer (some ⟨N, 0, none⟩), e4, e5, .int .i64 i, .map (some F), .int .i64 nn, e9, e10, e11, e12, e13, e14, e15, e16, e17, e18, e19, e20, e21, e22, e23, e24, e25, e26, e27, e28, e29, e30, e31, e32, e33, e34, e35, e36, e37, e38, e39, e40, e41, e42, e43, e44, e45, e46, e47, e48, e49, e50, e51, e52, e53, e54, e55, e56, e57, e58, e59, e60, e61, e62, e63, e64, e65, e66, e67, e68, e69, e70, e71, e72, e73, e74, e75, e76, e77, e78, e79, e80, e81, e82, e83, e84, e85, e86, e87, e88, e89, e90, e91, e92, e93, e94, e95, e96, e97, e98, e99, e100, e101, e102, e103, e104, e105, e106, e107, e108, e109, e110, e111, e112, e113, e114, e115, e116, e117, e118, e119, e120, e121, e122, e123, e124, e125, e126, e127, e128, e129, e130, e131, e132, e133, e134, e135, e136, e137, e138, e139, e140, e141, e142, e143, e144, e145, e146, e147, e148, e149, e150], defers := [] } W := by
 have y3 := cell_at hW.next.box 0 rfl
 have HQ := Lib.hid hQ; have HW0 := Lib.hid hW; have HNN := Lib.hid hnn
 clear hQ hW hnn
 conv => arg 2; whnf
 go_wp2_with fail
 go_loopw [55] (fun iv wr => ∃ j : Nat, iv = .int .i64 j ∧ j ≤ n ∧ Hid (FarW w wr N G n F kss ms (farJ kss i nn g j))) (fun iv _ => n + 1 - (intOf iv).toNat)
 case atStart => exact ⟨0, rfl, Nat.zero_le _, HW0⟩
 case round =>
  obtain ⟨j, rfl, hjn, hW⟩ := hrel
  by_cases hlt : j < n
  ·have hj : (j : Int) < (n : Int) := by omega
   obtain ⟨ks, hks⟩ : ∃ ks, kss[j]? = some ks := ⟨_, List.getElem?_eq_getElem (by have := hW.out.klen; omega)⟩
   have hgd : kss.getD j [] = ks := by rw [List.getD_eq_getElem?_getD, hks]; rfl
   obtain ⟨g', hg'⟩ : ∃ g', farJ kss i nn g j = g' := ⟨_, rfl⟩
   have hJ : farJ kss i nn g (j + 1) = stepJ kss i nn j g' := by rw [farJ, hg']
   have HJ := Lib.hid hJ
   rw [hg'] at hW
   clear hJ hg'
   have hlk := hW.out.far.lookup j
   cases hgj : g' j with
   | some v =>
    rw [hgj] at hlk
    have hst : stepJ kss i nn j g' = g' := by unfold stepJ; rw [hgj]; rfl
    have HST := Lib.hid hst
    clear hst hgj hgd hks
    go_wp2_with fail
    go_roundw
    case rel => exact ⟨j + 1, by go_num, by omega, Lib.hid (by rw [HJ.out, HST.out]; exact hW.out)⟩
    case measure => simp [intOf]; omega
   | none =>
    rw [hgj] at hlk
    have hst : stepJ kss i nn j g' = if hitS ks i nn g' = true then putF g' j nn else g' := by unfold stepJ; rw [hgj, hgd]; rfl
    have HST := Lib.hid hst; have HKS := Lib.hid hks; have HGJ := Lib.hid hgj
    clear hst hgj hgd hks
    refine wp_seq_thenQ (fun K1 hK => ?_)
    have HK1 := Lib.hid hK
    clear hK
    go_wp2_with fail
    refine HK1.out _ _ ?_
    clear HK1 K1
    refine wp_seq_thenQ (fun K2 hK => ?_)
    have HK2 := Lib.hid hK
    clear hK
    go_wp2_with fail
    refine HK2.out _ _ ?_
    clear HK2 K2
    refine wp_seq_thenQ (fun K3 hK => ?_)
    have HK3 := Lib.hid hK
    clear hK
    refine wp_block ?_
    change Code.wp Try.prog (.seq b7n0 (.seq b7n1 (lastPart 2 body7))) _ _ _
    refine wp_seq_thenQ (fun K4 hK => ?_)
    have HK4 := Lib.hid hK
    clear hK
    conv => arg 2; whnf
    go_wp2_with fail
    refine HK4.out _ _ ?_
    clear HK4 K4
    refine wp_seq_thenQ (fun K5 hK => ?_)
    have HK5 := Lib.hid hK
    clear hK
    conv => arg 2; whnf
    go_wp2_with fail
    refine HK5.out _ _ ?_
    clear HK5 K5
    refine rg_e20 i nn j N G n F kss ms ks g' w wr hW.out hlt HKS.out HGJ.out HNN.out _ _ _ _ _ _ _ _ _ _ _ _ _ _ _ _ _ _ _ _ _ _ _ _ _ _ _ _ _ _ _ _ _ _ _ _ _ _ _ _ _ _ _ _ _ _ _ _ _ _ _ _ _ _ _ _ _ _ _ _ _ _ _ _ _ _ _ _ _ _ _ _ _ _ _ _ _ _ _ _ _ _ _ _ _ _ _ _ _ _ _ _ _ _ _ _ _ _ _ _ _ _ _ _ _ _ _ _ _ _ _ _ _ _ _ _ _ _ _ _ _ _ _ _ _ _ _ _ _ _ _ _ _ _ _ _ _ _ _ _ _ _ _ _ _ _ _ ?_
    intros
    rename_i V hV
    refine HK3.out _ _ ?_
    rw [← HST.out, ← HJ.out] at hV
    have HV := Lib.hid hV
    clear hV HK3 K3 hlk
    go_wp2_with fail
    go_roundw
    case rel => exact ⟨j + 1, by go_num, by omega, HV⟩
    case measure => simp [intOf]; omega
  ·have : j = n := by omega
   subst this
   have hz : ¬ (j : Int) < (j : Int) := by omega
   go_wp2_with fail
   exact HQ.out _ _ _ _ _ _ _ _ _ _ _ _ _ _ _ _ _ _ _ _ _ _ _ _ _ _ _ _ _ _ _ _ _ _ _ _ _ _ _ _ _ _ _ _ _ _ _ _ _ _ _ _ _ _ _ _ _ wr hW.out
noncomputable def bBn (k : Nat) : Code := match lastPart k bodyB with
 | .seq a _ => a
 | c => c
theorem bBstep0 : bodyB = .seq (bBn 0) (lastPart 1 bodyB) := rfl
theorem bBstep1 : lastPart 1 bodyB = .seq (bBn 1) (lastPart 2 bodyB) := rfl
theorem bBstep2 : lastPart 2 bodyB = .seq (bBn 2) (lastPart 3 bodyB) := rfl
set_option maxRecDepth 100000 in
set_option maxHeartbeats 16000000 in
theorem rg_e12 (i : Int) (N G n F : Nat) (kss : List (List Int)) (ms : List Nat) (w W : World) (hW : FarW w W N G n F kss ms (fun _ => none)) (hn : n ≤ 1000) (Q : Exit → Act → World → Prop) (e0 e1 e2 e4 e5 e8 e9 e10 e11 e12 e13 e14 e15 e16 e17 e18 e19 e20 e21 e22 e23 e24 e25 e26 e27 e28 e29 e30 e31 e32 e33 e34 e35 e36 e37 e38 e39 e40 e41 e42 e43 e44 e45 e46 e47 e48 e49 e50 e51 e52 e53 e54 e55 e56 e57 e58 e59 e60 e61 e62 e63 e64 e65 e66 e67 e68 e69 e70 e71 e72 e73 e74 e75 e76 e77 e78 e79 e80 e81 e82 e83 e84 e85 e86 e87 e88 e89 e90 e91 e92 e93 e94 e95 e96 e97 e98 e99 e100 e101 e102 e103 e104 e105 e106 e107 e108 e109 e110 e111 e112 e113 e114 e115 e116 e117 e118 e119 e120 e121 e122 e123 e124 e125 e126 e127 e128 e129 e130 e131 e132 e133 e134 e135 e136 e137 e138 e139 e140 e141 e142 e143 e144 e145 e146 e147 e148 e149 e150 : Value)
  (hQ : ∀ (x8 x9 x10 x11 x12 x13 x14 x47 x48 x49 x50 x51 x52 x53 x54 x55 x56 x57 x58 x59 x60 x61 x62 x63 x64 x65 x66 x67 x68 x69 x70 x71 x72 x73 x74 x75 x76 x77 x78 x79 x80 x81 x82 x83 x84 x85 x86 x87 x88 x89 x90 x91 x92 x93 x94 x95 x96 x97 x98 x99 x100 x101 x102 x103 : Value) (V : World), FarW w V N G n F kss ms (farN kss i n) → Q .normal { tmps := #[e0, e1, e2, .pointer (some ⟨N, 0, none⟩), e4, e5, .int .i64 i, .map (some F), x8, x9, x10, x11, x12, x13, x14, e15, e16, e17, e18, e19, e20, e21, e22, e23, e24, e25, e26, e27, e28, e29, e30, e31, e32, e33, e34, e35, e36, e37, e38, e39, e40, e41, e42, e43, e44, e45, e46, x47, x48, x49, x50, x51, x52, x53, x54, x55, x56, x57, x58, x59, x60, x61, x62, x63, x64, x65, x66, x67, x68, x69, x70, x71, x72, x73, x74, x75, x76, x77, x78, x79, x80, x81, x82, x83, x84, x85, x86, x87, x88, x89, x90, x91, x92, x93, x94, x95, x96, x97, x98, x99, x100, x101, x102, x103, e104, e105, e106, e107, e108, e109, e110, e111, e112, e113, e114, e115, e116, e117, e118, e119, e120, e121, e122, e123, e124, e125, e126, e127, e128, e129, e130, e131, e132, e133, e134, e135, e136, e137, e138, e139, e140, e141, e142, e143, e144, e145, e146, e147, e148, e149, e150], defers := [] } V) :
  (bBn 2).wp Try.prog Q { tmps := #[e0, e1, e2, .pointer (some ⟨N, 0, none⟩), e4, e5, .int .i64 i, .map (some F), e8, e9, e10, e11, e12, e13, e14, e15, e16, e17, e18, e19, e20, e21, e22, e23, e24, e25, e26, e27, e28, e29, e30, e31, e32, e33, e34, e35, e36, e37, e38, e39, e40, e41, e42, e43, e44, e45, e46, e47, e48, e49, e50, e51, e52, e53, e54, e55, e56, e57, e58, e59, e60, e61, e62, e63, e64, e65, e66, e67, e68, e69, e70, e71, e72, e73, e74, e75, e76, e77, e78, e79, e80, e81, e82, e83, e84, e85, e86, e87, e88, e89, e90, e91, e92, e93, e94, e95, e96, e97, e98, e99, e100, e101, e102, e103, e104, e105, e106, e107, e108, e109, e110, e111, e112, e113, e114, e115, e116, e117, e118, e119, e120, e121, e122, e123, e124, e125, e126, e127, e128, e129, e130, e131, e132, e133, e134, e135, e136, e137, e138, e139, e140, e141, e142, e143, e144, e145, e146, e147, e148, e149, e150], defers := [] } W := by
 have HQ := Lib.hid hQ; have HW0 := Lib.hid hW
 clear hQ hW
 conv => arg 2; whnf
 go_wp2_with fail
 go_loopw [8] (fun iv wr => ∃ j : Nat, iv = .int .i64 (j + 1 : Nat) ∧ j ≤ n ∧ Hid (FarW w wr N G n F kss ms (farN kss i j))) (fun iv _ => n + 3 - (intOf iv).toNat)
 case atStart => exact ⟨0, rfl, Nat.zero_le _, HW0⟩
 case round =>
  obtain ⟨j, rfl, hjn, hW⟩ := hrel
  have y3 := cell_at hW.out.next.box 0 rfl
  by_cases hlt : j < n
  ·have hj : ((j + 1 : Nat) : Int) ≤ (n : Int) := by omega
   have hJ : farN kss i (j + 1) = farJ kss i (j + 1 : Nat) (farN kss i j) n := by rw [farN, hW.out.klen]
   have HJ := Lib.hid hJ
   clear hJ
   obtain ⟨nn, hnn⟩ : ∃ nn : Int, ((j + 1 : Nat) : Int) = nn := ⟨_, rfl⟩
   have HNE := Lib.hid hnn
   have h1 : 1 ≤ nn := by omega
   have h2 : nn ≤ 1000 := by omega
   rw [hnn] at hj
   rw [hnn]
   clear hnn
   refine wp_seq_thenQ (fun K1 hK => ?_)
   have HK1 := Lib.hid hK
   clear hK
   go_wp2_with fail
   refine HK1.out _ _ ?_
   clear HK1 K1
   refine wp_seq_thenQ (fun K3 hK => ?_)
   have HK3 := Lib.hid hK
   clear hK
   refine wp_block ?_
   change Code.wp Try.prog body5 _ _ _
   refine rg_e15 i nn N G n F kss ms (farN kss i j) w wr hW.out hn ⟨h1, h2⟩ _ _ _ _ _ _ _ _ _ _ _ _ _ _ _ _ _ _ _ _ _ _ _ _ _ _ _ _ _ _ _ _ _ _ _ _ _ _ _ _ _ _ _ _ _ _ _ _ _ _ _ _ _ _ _ _ _ _ _ _ _ _ _ _ _ _ _ _ _ _ _ _ _ _ _ _ _ _ _ _ _ _ _ _ _ _ _ _ _ _ _ _ _ _ _ _ _ _ _ _ _ _ _ _ _ _ _ _ _ _ _ _ _ _ _ _ _ _ _ _ _ _ _ _ _ _ _ _ _ _ _ _ _ _ _ _ _ _ _ _ _ _ _ _ _ _ _ _ ?_
   intros
   rename_i V hV
   refine HK3.out _ _ ?_
   rw [← HNE.out, ← HJ.out] at hV
   have HV := Lib.hid hV
   clear hV HK3 K3
   have hne := HNE.out
   subst hne
   go_wp2_with fail
   go_roundw
   case rel => exact ⟨j + 1, by go_num, by omega, HV⟩
   case measure => simp [intOf]; omega
  ·have : j = n := by omega
   subst this
   have hz : ¬ ((j + 1 : Nat) : Int) ≤ (j : Int) := by omega
   go_wp2_with fail
   exact HQ.out _ _ _ _ _ _ _ _ _ _ _ _ _ _ _ _ _ _ _ _ _ _ _ _ _ _ _ _ _ _ _ _ _ _ _ _ _ _ _ _ _ _ _ _ _ _ _ _ _ _ _ _ _ _ _ _ _ _ _ _ _ _ _ _ wr hW.out
end Go.Proofs.Ytpnbpepkoekkoaa
end
section
namespace Go.Proofs.Ytpnbpepkoekkoaa
open Go Go.RowKit
def onB (kss : List (List Int)) (g : Int → Option Int) (at_ left : Int) (k : Nat) : Bool := decide ((k : Int) ∈ kss.getD at_.toNat []) && decide ((g k).getD 0 = left)
def pickK (kss : List (List Int)) (g : Int → Option Int) (at_ left : Int) (n : Nat) : Option Nat := (List.range n).find? (onB kss g at_ left)
def walkP (kss : List (List Int)) (g : Int → Option Int) (n : Nat) : Nat → Int → List Int
 | 0, _ => []
 | left + 1, at_ => match pickK kss g at_ (left + 1 : Nat) n with
  | some k => (k : Int) :: walkP kss g n left k
  | none => walkP kss g n left at_
theorem pick_none {kss : List (List Int)} {g : Int → Option Int} {at_ left : Int} {n : Nat} (h : ∀ k, k < n → onB kss g at_ left k = false) : pickK kss g at_ left n = none := by
 unfold pickK
 rw [List.find?_eq_none]
 intro k hk
 rw [h k (by simpa using hk)]
 simp
theorem pick_some {kss : List (List Int)} {g : Int → Option Int} {at_ left : Int} {n k : Nat} (hk : k < n) (h : ∀ j, j < k → onB kss g at_ left j = false) (hy : onB kss g at_ left k = true) : pickK kss g at_ left n = some k := by
 unfold pickK
 rw [List.find?_range_eq_some]
 exact ⟨hy, by simpa using hk, fun j hj => by simpa using h j hj⟩
theorem SetB.lookup {w : World} {b : Nat} {ks : List Int} (h : SetB w b ks) (x : Int) : (Instr.lookup 137 (.map (some b)) (.int .i64 x) false).run Try.prog w = .ok (.bool (decide (x ∈ ks))) w := by
 have := run_lookup_kv (P := Try.prog) kI_key Try.underlying137 Try.underlying3 h.map_ x (z := .bool false) (by kernel_rfl) false
 rw [setGet] at this
 refine this.trans ?_
 by_cases hx : x ∈ ks
 ·simp [hx]
 ·simp [hx]
theorem info3r : (Try.prog.info? 3).map (fun i => (i.zero, i.size, i.bytes)) = some (some (.int .i64 0), 1, 8) := by kernel_rfl
def intsW (l : List Int) : List Value := l.map (Value.int .i64)
theorem own_low {w : World} {base e s n g : Nat} {v : Value} {xs : List Value} (h : w.ownsRow base e s v n xs) (hg : v.ownBlock = some g) : base ≤ g := by
 rcases h.2 with ⟨rfl, _⟩ | ⟨g', cap, cur, rfl, h1, _⟩
 ·cases hg
 ·cases hg; exact h1
theorem thenB' {A B C : World} {n : Nat} (h : Below n A B) (k : Below n B C) : Below n A C := h.trans k
structure WayW (w S W : World) (N G n F : Nat) (kss : List (List Int)) (ms : List Nat) (g : Int → Option Int) (v : Value) (l : List Int) : Prop where
 far : FarW w S N G n F kss ms g
 below : Below S.heap.size S W
 own : W.ownsRow S.heap.size 3 1 v l.length (intsW l)
 range : ∀ x ∈ l, 0 ≤ x ∧ x < n
theorem cell_one_new' (w : World) (v : Value) (t : TypeId) : ∀ j u, [v][j]? = some u → (w.alloc (.cells #[v] t)).cell? ((⟨w.heap.size, 0, none⟩ : Addr).add j) = some u := by
 intro j u hj
 cases j with
 | zero => simp at hj; subst hj; simp [Addr.add]
 | succ j => simp at hj
noncomputable def body11 : Code := match bBn 6 with
 | .seq _ (.block _ (.loop (.seq _ (.seq (.block _ c) _)))) => c
 | c => c
noncomputable def b11n0 : Code := match body11 with
 | .seq a _ => a
 | c => c
set_option maxRecDepth 100000 in
set_option maxHeartbeats 16000000 in
theorem rg_in (i left at_ : Int) (N G n F : Nat) (kss : List (List Int)) (ms : List Nat) (g : Int → Option Int) (v : Value) (l : List Int) (w S W : World) (hW : WayW w S W N G n F kss ms g v l) (hn : n ≤ 1000) (hl : l.length ≤ 1000) (ha : 0 ≤ at_ ∧ at_ < n) (Q : Exit → Act → World → Prop) (e0 e1 e2 e4 e5 e8 e9 e10 e11 e12 e13 e14 e16 e19 e20 e21 e22 e23 e24 e25 e26 e27 e28 e29 e30 e31 e32 e33 e34 e35 e36 e37 e38 e39 e40 e41 e42 e43 e44 e45 e46 e47 e48 e49 e50 e51 e52 e53 e54 e55 e56 e57 e58 e59 e60 e61 e62 e63 e64 e65 e66 e67 e68 e69 e70 e71 e72 e73 e74 e75 e76 e77 e78 e79 e80 e81 e82 e83 e84 e85 e86 e87 e88 e89 e90 e91 e92 e93 e94 e95 e96 e97 e98 e99 e100 e101 e102 e103 e104 e105 e106 e107 e108 e109 e110 e111 e112 e113 e114 e115 e116 e117 e118 e119 e120 e121 e122 e123 e124 e125 e126 e127 e128 e129 e130 e131 e132 e133 e134 e135 e136 e137 e138 e139 e140 e141 e142 e143 e144 e145 e146 e147 e148 e149 e150 : Value)
  (hQ : ∀ (v' : Value) (x19 x126 x127 x128 x129 x130 x131 x132 x133 x134 x135 x136 x137 x138 x139 x140 x141 x142 x143 x144 x145 x146 x147 x148 : Value) (V : World), WayW w S V N G n F kss ms g v' (l ++ ((pickK kss g at_ left n).toList.map fun k : Nat => (k : Int))) → Q .normal { tmps := #[e0, e1, e2, .pointer (some ⟨N, 0, none⟩), e4, e5, .int .i64 i, .map (some F), e8, e9, e10, e11, e12, e13, e14, .int .i64 left, e16, v', .int .i64 at_, x19, e20, e21, e22, e23, e24, e25, e26, e27, e28, e29, e30, e31, e32, e33, e34, e35, e36, e37, e38, e39, e40, e41, e42, e43, e44, e45, e46, e47, e48, e49, e50, e51, e52, e53, e54, e55, e56, e57, e58, e59, e60, e61, e62, e63, e64, e65, e66, e67, e68, e69, e70, e71, e72, e73, e74, e75, e76, e77, e78, e79, e80, e81, e82, e83, e84, e85, e86, e87, e88, e89, e90, e91, e92, e93, e94, e95, e96, e97, e98, e99, e100, e101, e102, e103, e104, e105, e106, e107, e108, e109, e110, e111, e112, e113, e114, e115, e116, e117, e118, e119, e120, e121, e122, e123, e124, e125, x126, x127, x128, x129, x130, x131, x132, x133, x134, x135, x136, x137, x138, x139, x140, x141, x142, x143, x144, x145, x146, x147, x148, e149, e150], defers := [] } V) :
  (lastPart 1 body11).wp Try.prog Q { tmps := #[e0, e1, e2, .pointer (some ⟨N, 0, none⟩), e4, e5, .int .i64 i, .map (some F), e8, e9, e10, e11, e12, e13, e14, .int .i64 left, e16, v, .int .i64 at_, e19, e20, e21, e22, e23, e24, e25, e26, e27, e28, e29, e30, e31, e32, e33, e34, e35, e36, e37, e38, e39, e40, e41, e42, e43, e44, e45, e46, e47, e48, e49, e50, e51, e52, e53, e54, e55, e56, e57, e58, e59, e60, e61, e62, e63, e64, e65, e66, e67, e68, e69, e70, e71, e72, e73, e74, e75, e76, e77, e78, e79, e80, e81, e82, e83, e84, e85, e86, e87, e88, e89, e90, e91, e92, e93, e94, e95, e96, e97, e98, e99, e100, e101, e102, e103, e104, e105, e106, e107, e108, e109, e110, e111, e112, e113, e114, e115, e116, e117, e118, e119, e120, e121, e122, e123, e124, e125, e126, e127, e128, e129, e130, e131, e132, e133, e134, e135, e136, e137, e138, e139, e140, e141, e142, e143, e144, e145, e146, e147, e148, e149, e150], defers := [] } W := by
 obtain ⟨a, rfl⟩ : ∃ a : Nat, at_ = a := ⟨at_.toNat, by omega⟩
 have ha2 : a < n := by omega
 have hF := hW.far.below hW.below
 obtain ⟨m, hm⟩ : ∃ m, ms[a]? = some m := ⟨_, List.getElem?_eq_getElem (by have := hF.whole; omega)⟩
 obtain ⟨ks, hks⟩ : ∃ ks, kss[a]? = some ks := ⟨_, List.getElem?_eq_getElem (by have := hF.klen; omega)⟩
 have hgd : kss.getD (a : Int).toNat [] = ks := by rw [Int.toNat_natCast, List.getD_eq_getElem?_getD, hks]; rfl
 have y3 := cell_at hF.next.box 0 rfl
 have yG := cell_at hF.next.row a (rowM_get ms ha2)
 rw [hm] at yG
 have hlm := hF.next.sets a m ks hm hks
 have hlf := hF.far
 have HQ := Lib.hid hQ; have HW := Lib.hid hW; have HLM := Lib.hid hlm.lookup; have HLF := Lib.hid hlf.lookup1; have HGD := Lib.hid hgd
 clear hQ hW hF hm hks hgd hlm hlf ha
 have hai : (a : Int) < (n : Int) := by omega
 conv => arg 2; whnf
 go_wp2_with fail
 go_loopw [17, 128] (fun lv iv wr => ∃ k : Nat, iv = .int .i64 k ∧ lv = v ∧ k ≤ n ∧ wr = W ∧ Hid (∀ j, j < k → onB kss g a left j = false)) (fun _ iv _ => n + 1 - (intOf iv).toNat)
 case atStart => exact ⟨0, rfl, rfl, Nat.zero_le _, rfl, Lib.hid (fun j hj => by omega)⟩
 case round =>
  obtain ⟨k, rfl, rfl, hkn, rfl, hno⟩ := hrel
  by_cases hlt : k < n
  ·have hk : (k : Int) < (n : Int) := by omega
   have hl1 := HLM.out k
   have hl2 := HLF.out k
   by_cases hmem : (k : Int) ∈ ks
   ·rw [decide_eq_true hmem] at hl1
    by_cases hv : (g k).getD 0 = left
    ·rw [hv] at hl2
     have hy : onB kss g a left k = true := by unfold onB; rw [HGD.out, decide_eq_true hmem, decide_eq_true hv]; rfl
     have hpk := pick_some hlt hno.out hy
     have HPK := Lib.hid hpk
     obtain ⟨i3, hi3, hz3, hs3, hb3⟩ := info_parts info3r
     have HO := Lib.hid (HW.out.own.alloc (.cells #[.int .i64 (k : Int)] 3))
     have hsz := HW.out.below.size
     clear hy hpk hmem hv
     go_wp2_with (at_builtin; go_loud (refine wpList_append_own _ rfl _ _ 63 rfl S.heap.size 3 i3 (.int .i64 0) 1 8 Try.underlying63 hi3 hz3 hs3 hb3 rfl (by decide) _ l.length (intsW l) rfl HO.out ⟨wr.heap.size, 0, none⟩ 1 1 [.int .i64 (k : Int)] rfl rfl (cell_one_new' _ _ _) (by intro u hu; simp at hu; subst hu; rfl) (by simp only [maxLen]; omega) (by omega) (by simp; omega) ?_; intro v' w4 hown hgrow _))
     refine HQ.out v' _ _ _ _ _ _ _ _ _ _ _ _ _ _ _ _ _ _ _ _ _ _ _ _ w4 ?_
     rw [HPK.out]
     refine ⟨HW.out.far, thenB' HW.out.below (((Below.refl S.heap.size wr).alloc hsz _).grown hgrow (by simp; omega) (fun b hb => own_low HW.out.own hb)), ?_, fun x hx => ?_⟩
     ·unfold intsW at hown ⊢
      simpa using hown
     ·rcases List.mem_append.1 hx with hx | hx
      ·exact HW.out.range x hx
      ·simp at hx; subst hx; omega
    ·have hy : onB kss g a left k = false := by unfold onB; rw [decide_eq_false hv, Bool.and_false]
     have HY := Lib.hid hy
     clear hy hmem
     go_wp2_with fail
     go_roundw
     case rel => exact ⟨k + 1, by go_num, by trivial, by omega, by trivial, Lib.hid (fun j hj => by rcases Nat.lt_or_ge j k with h | h; exact hno.out j h; rw [show j = k by omega]; exact HY.out)⟩
     case measure => simp [intOf]; omega
   ·rw [decide_eq_false hmem] at hl1
    have hy : onB kss g a left k = false := by unfold onB; rw [HGD.out, decide_eq_false hmem, Bool.false_and]
    have HY := Lib.hid hy
    clear hy hmem
    go_wp2_with fail
    go_roundw
    case rel => exact ⟨k + 1, by go_num, by trivial, by omega, by trivial, Lib.hid (fun j hj => by rcases Nat.lt_or_ge j k with h | h; exact hno.out j h; rw [show j = k by omega]; exact HY.out)⟩
    case measure => simp [intOf]; omega
  ·have : k = n := by omega
   subst this
   have hz : ¬ (k : Int) < (k : Int) := by omega
   have hpk : pickK kss g a left k = none := pick_none hno.out
   have HPK := Lib.hid hpk
   clear hpk
   go_wp2_with fail
   refine HQ.out _ _ _ _ _ _ _ _ _ _ _ _ _ _ _ _ _ _ _ _ _ _ _ _ _ wr ?_
   rw [HPK.out]
   simpa using HW.out
theorem own_some {w : World} {B n : Nat} {v : Value} {xs : List Value} (h : w.ownsRow B 3 1 v n xs) (hn : n ≠ 0) : ∃ g cap, v = .slice (some ⟨g, 0, none⟩) n cap ∧ ∀ (j : Nat) (u : Value), xs[j]? = some u → w.cell? ⟨g, j, none⟩ = some u := by
 have hc := h
 rcases h.2 with ⟨rfl, h0⟩ | ⟨g, cap, cur, rfl, _⟩
 ·exact absurd h0 hn
 ·refine ⟨g, cap, rfl, fun j u hj => ?_⟩
  have := hc.cells (g := g) rfl j u hj
  rw [addr_plain, Nat.zero_add] at this
  exact this
theorem way_next (kss : List (List Int)) (g : Int → Option Int) (n left : Nat) (l : List Int) (x : Int) (hx : l.getLast? = some x) (tot : List Int) (h : l ++ walkP kss g n (left + 1) x = tot) :
  ∃ y, (l ++ ((pickK kss g x (left + 1 : Nat) n).toList.map fun k : Nat => (k : Int))).getLast? = some y ∧ (l ++ ((pickK kss g x (left + 1 : Nat) n).toList.map fun k : Nat => (k : Int))) ++ walkP kss g n left y = tot := by
 unfold walkP at h
 cases hp : pickK kss g x (left + 1 : Nat) n with
 | none =>
  rw [hp] at h
  exact ⟨x, by simpa using hx, by simpa using h⟩
 | some k =>
  rw [hp] at h
  exact ⟨k, by simp, by simpa using h⟩
set_option maxRecDepth 100000 in
set_option maxHeartbeats 16000000 in
theorem rg_e30 (i : Int) (d N G n F : Nat) (kss : List (List Int)) (ms : List Nat) (g : Int → Option Int) (v : Value) (w S W : World) (hW : WayW w S W N G n F kss ms g v [i]) (hn : n ≤ 1000) (hd : d ≤ 998) (Q : Exit → Act → World → Prop) (e0 e1 e2 e4 e5 e8 e9 e10 e11 e12 e13 e14 e16 e18 e19 e20 e21 e22 e23 e24 e25 e26 e27 e28 e29 e30 e31 e32 e33 e34 e35 e36 e37 e38 e39 e40 e41 e42 e43 e44 e45 e46 e47 e48 e49 e50 e51 e52 e53 e54 e55 e56 e57 e58 e59 e60 e61 e62 e63 e64 e65 e66 e67 e68 e69 e70 e71 e72 e73 e74 e75 e76 e77 e78 e79 e80 e81 e82 e83 e84 e85 e86 e87 e88 e89 e90 e91 e92 e93 e94 e95 e96 e97 e98 e99 e100 e101 e102 e103 e104 e105 e106 e107 e108 e109 e110 e111 e112 e113 e114 e115 e116 e117 e118 e119 e120 e121 e122 e123 e124 e125 e126 e127 e128 e129 e130 e131 e132 e133 e134 e135 e136 e137 e138 e139 e140 e141 e142 e143 e144 e145 e146 e147 e148 e149 e150 : Value)
  (hQ : ∀ (v' : Value) (x15 x18 x19 x114 x115 x116 x117 x118 x119 x120 x121 x122 x123 x124 x125 x126 x127 x128 x129 x130 x131 x132 x133 x134 x135 x136 x137 x138 x139 x140 x141 x142 x143 x144 x145 x146 x147 x148 : Value) (V : World), WayW w S V N G n F kss ms g v' (i :: walkP kss g n d i) → Q .normal { tmps := #[e0, e1, e2, .pointer (some ⟨N, 0, none⟩), e4, e5, .int .i64 i, .map (some F), e8, e9, e10, e11, e12, e13, e14, x15, e16, v', x18, x19, e20, e21, e22, e23, e24, e25, e26, e27, e28, e29, e30, e31, e32, e33, e34, e35, e36, e37, e38, e39, e40, e41, e42, e43, e44, e45, e46, e47, e48, e49, e50, e51, e52, e53, e54, e55, e56, e57, e58, e59, e60, e61, e62, e63, e64, e65, e66, e67, e68, e69, e70, e71, e72, e73, e74, e75, e76, e77, e78, e79, e80, e81, e82, e83, e84, e85, e86, e87, e88, e89, e90, e91, e92, e93, e94, e95, e96, e97, e98, e99, e100, e101, e102, e103, e104, e105, e106, e107, e108, e109, e110, e111, e112, e113, x114, x115, x116, x117, x118, x119, x120, x121, x122, x123, x124, x125, x126, x127, x128, x129, x130, x131, x132, x133, x134, x135, x136, x137, x138, x139, x140, x141, x142, x143, x144, x145, x146, x147, x148, e149, e150], defers := [] } V) :
  (bBn 6).wp Try.prog Q { tmps := #[e0, e1, e2, .pointer (some ⟨N, 0, none⟩), e4, e5, .int .i64 i, .map (some F), e8, e9, e10, e11, e12, e13, e14, .int .i64 (d + 1 : Nat), e16, v, e18, e19, e20, e21, e22, e23, e24, e25, e26, e27, e28, e29, e30, e31, e32, e33, e34, e35, e36, e37, e38, e39, e40, e41, e42, e43, e44, e45, e46, e47, e48, e49, e50, e51, e52, e53, e54, e55, e56, e57, e58, e59, e60, e61, e62, e63, e64, e65, e66, e67, e68, e69, e70, e71, e72, e73, e74, e75, e76, e77, e78, e79, e80, e81, e82, e83, e84, e85, e86, e87, e88, e89, e90, e91, e92, e93, e94, e95, e96, e97, e98, e99, e100, e101, e102, e103, e104, e105, e106, e107, e108, e109, e110, e111, e112, e113, e114, e115, e116, e117, e118, e119, e120, e121, e122, e123, e124, e125, e126, e127, e128, e129, e130, e131, e132, e133, e134, e135, e136, e137, e138, e139, e140, e141, e142, e143, e144, e145, e146, e147, e148, e149, e150], defers := [] } W := by
 have HQ := Lib.hid hQ; have HW := Lib.hid hW
 obtain ⟨tot, htot⟩ : ∃ tot, i :: walkP kss g n d i = tot := ⟨_, rfl⟩
 have HT := Lib.hid htot
 clear hQ hW htot
 conv => arg 2; whnf
 go_wp2_with fail
 go_loopw [15, 17] (fun dv lv wr => ∃ (left : Nat) (l : List Int) (x : Int), dv = .int .i64 left ∧ left ≤ 998 ∧ Hid (l.length + left ≤ d + 1) ∧ Hid (l.getLast? = some x) ∧ Hid (l ++ walkP kss g n left x = tot) ∧ Hid (WayW w S wr N G n F kss ms g lv l)) (fun dv _ _ => (intOf dv).toNat)
 case atStart => exact ⟨d, [i], i, by go_num, hd, Lib.hid (by simp; omega), Lib.hid rfl, Lib.hid HT.out, HW⟩
 case round =>
  obtain ⟨left, l, x, rfl, hle, hlen, hx, hto, hW⟩ := hrel
  cases left with
  | zero =>
   have hz : ¬ ((0 : Nat) : Int) > 0 := by omega
   go_wp2_with fail
   refine HQ.out _ _ _ _ _ _ _ _ _ _ _ _ _ _ _ _ _ _ _ _ _ _ _ _ _ _ _ _ _ _ _ _ _ _ _ _ _ _ _ _ ?_
   have := hto.out
   rw [walkP, List.append_nil] at this
   rw [HT.out, ← this]
   exact hW.out
  | succ left =>
   have hp : (0 : Int) < ((left + 1 : Nat) : Int) := by omega
   obtain ⟨y, hy1, hy2⟩ := way_next kss g n left l x hx.out tot hto.out
   have hne : l ≠ [] := fun e => by rw [e] at hx; have := hx.out; cases this
   have hlp : 0 < l.length := List.length_pos_iff.2 hne
   have hxm : x ∈ l := List.mem_of_getLast? hx.out
   have hxr := hW.out.range x hxm
   obtain ⟨gb, cap, hv, hcell⟩ := own_some hW.out.own (by omega)
   have hlx : l[l.length - 1]? = some x := by rw [← List.getLast?_eq_getElem?]; exact hx.out
   have yl : wr.cell? ⟨gb, l.length - 1, none⟩ = some (.int .i64 x) := hcell _ _ (by unfold intsW; rw [List.getElem?_map, hlx]; rfl)
   have hll : l.length ≤ 1000 := by have := hlen.out; omega
   have hsub : IntKind.i64.wrap ((l.length : Int) - 1) = ((l.length - 1 : Nat) : Int) := by rw [IntWalk.i64_in _ (by omega)]; omega
   have HY1 := Lib.hid hy1; have HY2 := Lib.hid hy2; have HXR := Lib.hid hxr
   clear hy1 hy2 hne hxm hxr hcell hlx
   subst hv
   refine wp_seq_thenQ (fun K1 hK => ?_)
   have HK1 := Lib.hid hK
   clear hK
   go_wp2_with fail
   refine HK1.out _ _ ?_
   clear HK1 K1
   refine wp_seq_thenQ (fun K3 hK => ?_)
   have HK3 := Lib.hid hK
   clear hK
   refine wp_block ?_
   change Code.wp Try.prog (.seq b11n0 (lastPart 1 body11)) _ _ _
   refine wp_seq_thenQ (fun K4 hK => ?_)
   have HK4 := Lib.hid hK
   clear hK
   conv => arg 2; whnf
   go_wp2_with fail
   refine HK4.out _ _ ?_
   clear HK4 K4
   refine rg_in i (left + 1 : Nat) x N G n F kss ms g _ l w S wr hW.out hn hll HXR.out _ _ _ _ _ _ _ _ _ _ _ _ _ _ _ _ _ _ _ _ _ _ _ _ _ _ _ _ _ _ _ _ _ _ _ _ _ _ _ _ _ _ _ _ _ _ _ _ _ _ _ _ _ _ _ _ _ _ _ _ _ _ _ _ _ _ _ _ _ _ _ _ _ _ _ _ _ _ _ _ _ _ _ _ _ _ _ _ _ _ _ _ _ _ _ _ _ _ _ _ _ _ _ _ _ _ _ _ _ _ _ _ _ _ _ _ _ _ _ _ _ _ _ _ _ _ _ _ _ _ _ _ _ _ _ _ _ _ _ _ _ _ _ _ _ _ ?_
   intros
   rename_i V hV
   refine HK3.out _ _ ?_
   have HV := Lib.hid hV
   have HLN : Hid ((l ++ ((pickK kss g x (left + 1 : Nat) n).toList.map fun k : Nat => (k : Int))).length + left ≤ d + 1) := Lib.hid (by
    have h1 := hlen.out
    have h2 : (pickK kss g x (left + 1 : Nat) n).toList.length ≤ 1 := by cases pickK kss g x (left + 1 : Nat) n <;> simp
    rw [List.length_append, List.length_map]; omega)
   clear hV HK3 K3 yl
   go_wp2_with fail
   go_roundw
   case rel => exact ⟨left, _, _, by go_num, by omega, HLN, HY1, HY2, HV⟩
   case measure => simp [intOf]
end Go.Proofs.Ytpnbpepkoekkoaa
end
section
namespace Go.Proofs.Ytpnbpepkoekkoaa
open Go Go.RowKit
theorem stepJ_val {kss : List (List Int)} {i nn : Int} {j : Nat} {g : Int → Option Int} {x v : Int} (h : stepJ kss i nn j g x = some v) : g x = some v ∨ v = nn := by
 unfold stepJ at h
 split at h
 ·exact Or.inl h
 ·split at h
  ·unfold putF at h
   split at h
   ·right; cases h; rfl
   ·exact Or.inl h
  ·exact Or.inl h
theorem farJ_val {kss : List (List Int)} {i nn : Int} {g : Int → Option Int} {x v : Int} : ∀ {j : Nat}, farJ kss i nn g j x = some v → g x = some v ∨ v = nn
 | 0, h => Or.inl h
 | _ + 1, h => (stepJ_val h).elim farJ_val Or.inr
theorem farN_val {kss : List (List Int)} {i x v : Int} : ∀ {m : Nat}, farN kss i m x = some v → 1 ≤ v ∧ v ≤ m
 | 0, h => by cases h
 | m + 1, h => by
  rcases farJ_val h with h | h
  ·have := farN_val h; omega
  ·omega
def ringAt (kss : List (List Int)) (i : Nat) : Bool := (farN kss i kss.length i).isSome
def ringM (kss : List (List Int)) : List Int := match (List.range kss.length).find? (ringAt kss) with
 | none => []
 | some i => (i : Int) :: walkP kss (farN kss i kss.length) kss.length (((farN kss i kss.length i).getD 1 - 1).toNat) i
theorem ringM_none {kss : List (List Int)} (h : ∀ i, i < kss.length → ringAt kss i = false) : ringM kss = [] := by
 unfold ringM
 have : (List.range kss.length).find? (ringAt kss) = none := by
  rw [List.find?_eq_none]
  intro i hi
  rw [h i (by simpa using hi)]
  simp
 rw [this]
theorem ringM_some {kss : List (List Int)} {i : Nat} (hi : i < kss.length) (h : ∀ j, j < i → ringAt kss j = false) {d : Nat} (hy : farN kss i kss.length i = some ((d + 1 : Nat) : Int)) : ringM kss = (i : Int) :: walkP kss (farN kss i kss.length) kss.length d i := by
 unfold ringM
 have : (List.range kss.length).find? (ringAt kss) = some i := by
  rw [List.find?_range_eq_some]
  exact ⟨by unfold ringAt; rw [hy]; rfl, by simpa using hi, fun j hj => by simpa using h j hj⟩
 rw [this]
 simp only [hy, Option.getD_some]
 rw [show (((d + 1 : Nat) : Int) - 1).toNat = d by omega]
def IntRow (W : World) (v : Value) (l : List Int) : Prop := (l = [] ∧ v = .slice none 0 0) ∨ ∃ g cap, v = .slice (some ⟨g, 0, none⟩) l.length cap ∧ l ≠ [] ∧ l.length ≤ cap ∧ cap ≤ maxLen ∧ ∀ (j : Nat) (x : Int), l[j]? = some x → W.cell? ⟨g, j, none⟩ = some (.int .i64 x)
theorem own_row {w : World} {B : Nat} {v : Value} {l : List Int} (h : w.ownsRow B 3 1 v l.length (intsW l)) (hl : l ≠ []) : IntRow w v l := by
 have hp : l.length ≠ 0 := fun e => hl (List.length_eq_zero_iff.1 e)
 have hc := own_some h hp
 rcases h.2 with ⟨rfl, h0⟩ | ⟨g, cap, cur, rfl, _, _, h3, h4, _⟩
 ·exact absurd h0 hp
 ·obtain ⟨g', cap', e, hcell⟩ := hc
  cases e
  exact Or.inr ⟨g, cap, rfl, hl, h3, h4, fun j x hj => hcell j _ (by unfold intsW; rw [List.getElem?_map, hj]; rfl)⟩
theorem bBstep3 : lastPart 3 bodyB = .seq (bBn 3) (lastPart 4 bodyB) := rfl
theorem bBstep4 : lastPart 4 bodyB = .seq (bBn 4) (lastPart 5 bodyB) := rfl
theorem bBstep5 : lastPart 5 bodyB = .seq (bBn 5) (lastPart 6 bodyB) := rfl
theorem bBstep6 : lastPart 6 bodyB = .seq (bBn 6) (lastPart 7 bodyB) := rfl
theorem FarW.start {w W W1 : World} {N G n : Nat} {kss : List (List Int)} {ms : List Nat} (h : NextW w W N G n kss ms) (hl : ms.length = n) (hk : kss.length = n) (h1 : W.alloc (.map #[] 0) = W1) : FarW w W1 N G n W.heap.size kss ms (fun _ => none) := by
 have b1 : Below W.heap.size W W1 := by rw [← h1]; exact (Below.refl _ _).alloc (Nat.le_refl _) _
 have hN := (Array.getElem?_eq_some_iff.1 h.box).1
 have hG := (Array.getElem?_eq_some_iff.1 h.row).1
 exact ⟨h.keep b1, hl, hk, by rw [← h1]; exact FarM.new W, h.below.size, fun hm => by have := h.lts hk hm; omega, by omega, by omega⟩
set_option maxRecDepth 100000 in
set_option maxHeartbeats 16000000 in
theorem rg_body (i N G n : Nat) (kss : List (List Int)) (ms : List Nat) (w W : World) (hW : NextW w W N G n kss ms) (hl : ms.length = n) (hkl : kss.length = n) (hn : n ≤ 999) (hi : i < n) (Q : Exit → Act → World → Prop) (e0 e1 e2 e4 e5 e6 e7 e8 e9 e10 e11 e12 e13 e14 e15 e16 e17 e18 e19 e20 e21 e22 e23 e24 e25 e26 e27 e28 e29 e30 e31 e32 e33 e34 e35 e36 e37 e38 e39 e40 e41 e42 e44 e45 e46 e47 e48 e49 e50 e51 e52 e53 e54 e55 e56 e57 e58 e59 e60 e61 e62 e63 e64 e65 e66 e67 e68 e69 e70 e71 e72 e73 e74 e75 e76 e77 e78 e79 e80 e81 e82 e83 e84 e85 e86 e87 e88 e89 e90 e91 e92 e93 e94 e95 e96 e97 e98 e99 e100 e101 e102 e103 e104 e105 e106 e107 e108 e109 e110 e111 e112 e113 e114 e115 e116 e117 e118 e119 e120 e121 e122 e123 e124 e125 e126 e127 e128 e129 e130 e131 e132 e133 e134 e135 e136 e137 e138 e139 e140 e141 e142 e143 e144 e145 e146 e147 e148 e149 e150 : Value)
  (hN : farN kss i n i = none → ∀ (x2 x6 x7 x8 x9 x10 x11 x12 x13 x14 x15 x16 x17 x18 x19 x45 x46 x47 x48 x49 x50 x51 x52 x53 x54 x55 x56 x57 x58 x59 x60 x61 x62 x63 x64 x65 x66 x67 x68 x69 x70 x71 x72 x73 x74 x75 x76 x77 x78 x79 x80 x81 x82 x83 x84 x85 x86 x87 x88 x89 x90 x91 x92 x93 x94 x95 x96 x97 x98 x99 x100 x101 x102 x103 x104 x105 x106 x107 x108 x109 x110 x111 x112 x113 x114 x115 x116 x117 x118 x119 x120 x121 x122 x123 x124 x125 x126 x127 x128 x129 x130 x131 x132 x133 x134 x135 x136 x137 x138 x139 x140 x141 x142 x143 x144 x145 x146 x147 x148 x149 : Value) (V : World), NextW w V N G n kss ms → Q (.exit 3) { tmps := #[e0, e1, x2, .pointer (some ⟨N, 0, none⟩), e4, e5, x6, x7, x8, x9, x10, x11, x12, x13, x14, x15, x16, x17, x18, x19, e20, e21, e22, e23, e24, e25, e26, e27, e28, e29, e30, e31, e32, e33, e34, e35, e36, e37, e38, e39, e40, e41, e42, .int .i64 i, e44, x45, x46, x47, x48, x49, x50, x51, x52, x53, x54, x55, x56, x57, x58, x59, x60, x61, x62, x63, x64, x65, x66, x67, x68, x69, x70, x71, x72, x73, x74, x75, x76, x77, x78, x79, x80, x81, x82, x83, x84, x85, x86, x87, x88, x89, x90, x91, x92, x93, x94, x95, x96, x97, x98, x99, x100, x101, x102, x103, x104, x105, x106, x107, x108, x109, x110, x111, x112, x113, x114, x115, x116, x117, x118, x119, x120, x121, x122, x123, x124, x125, x126, x127, x128, x129, x130, x131, x132, x133, x134, x135, x136, x137, x138, x139, x140, x141, x142, x143, x144, x145, x146, x147, x148, x149, e150], defers := [] } V)
  (hR : ∀ d : Nat, farN kss i n i = some ((d + 1 : Nat) : Int) → ∀ (v' : Value) (x6 x7 x8 x9 x10 x11 x12 x13 x14 x15 x16 x17 x18 x19 x45 x46 x47 x48 x49 x50 x51 x52 x53 x54 x55 x56 x57 x58 x59 x60 x61 x62 x63 x64 x65 x66 x67 x68 x69 x70 x71 x72 x73 x74 x75 x76 x77 x78 x79 x80 x81 x82 x83 x84 x85 x86 x87 x88 x89 x90 x91 x92 x93 x94 x95 x96 x97 x98 x99 x100 x101 x102 x103 x104 x105 x106 x107 x108 x109 x110 x111 x112 x113 x114 x115 x116 x117 x118 x119 x120 x121 x122 x123 x124 x125 x126 x127 x128 x129 x130 x131 x132 x133 x134 x135 x136 x137 x138 x139 x140 x141 x142 x143 x144 x145 x146 x147 x148 x149 : Value) (V : World), Below w.heap.size w V → IntRow V v' ((i : Int) :: walkP kss (farN kss i n) n d i) → Q .ret { tmps := #[e0, e1, v', .pointer (some ⟨N, 0, none⟩), e4, e5, x6, x7, x8, x9, x10, x11, x12, x13, x14, x15, x16, x17, x18, x19, e20, e21, e22, e23, e24, e25, e26, e27, e28, e29, e30, e31, e32, e33, e34, e35, e36, e37, e38, e39, e40, e41, e42, .int .i64 i, e44, x45, x46, x47, x48, x49, x50, x51, x52, x53, x54, x55, x56, x57, x58, x59, x60, x61, x62, x63, x64, x65, x66, x67, x68, x69, x70, x71, x72, x73, x74, x75, x76, x77, x78, x79, x80, x81, x82, x83, x84, x85, x86, x87, x88, x89, x90, x91, x92, x93, x94, x95, x96, x97, x98, x99, x100, x101, x102, x103, x104, x105, x106, x107, x108, x109, x110, x111, x112, x113, x114, x115, x116, x117, x118, x119, x120, x121, x122, x123, x124, x125, x126, x127, x128, x129, x130, x131, x132, x133, x134, x135, x136, x137, x138, x139, x140, x141, x142, x143, x144, x145, x146, x147, x148, x149, e150], defers := [] } V) :
  bodyB.wp Try.prog Q { tmps := #[e0, e1, e2, .pointer (some ⟨N, 0, none⟩), e4, e5, e6, e7, e8, e9, e10, e11, e12, e13, e14, e15, e16, e17, e18, e19, e20, e21, e22, e23, e24, e25, e26, e27, e28, e29, e30, e31, e32, e33, e34, e35, e36, e37, e38, e39, e40, e41, e42, .int .i64 i, e44, e45, e46, e47, e48, e49, e50, e51, e52, e53, e54, e55, e56, e57, e58, e59, e60, e61, e62, e63, e64, e65, e66, e67, e68, e69, e70, e71, e72, e73, e74, e75, e76, e77, e78, e79, e80, e81, e82, e83, e84, e85, e86, e87, e88, e89, e90, e91, e92, e93, e94, e95, e96, e97, e98, e99, e100, e101, e102, e103, e104, e105, e106, e107, e108, e109, e110, e111, e112, e113, e114, e115, e116, e117, e118, e119, e120, e121, e122, e123, e124, e125, e126, e127, e128, e129, e130, e131, e132, e133, e134, e135, e136, e137, e138, e139, e140, e141, e142, e143, e144, e145, e146, e147, e148, e149, e150], defers := [] } W := by
 obtain ⟨W1, hW1⟩ : ∃ W1, W.alloc (.map #[] 0) = W1 := ⟨_, rfl⟩
 have hF := FarW.start hW hl hkl hW1
 have HN := Lib.hid hN; have HR := Lib.hid hR; have HF := Lib.hid hF
 clear hN hR hF hW
 have hmm := @run_makeMap Try.prog
 generalize hFF : W.heap.size = F at *
 rw [bBstep0]
 refine wp_seq_thenQ (fun K hK => ?_)
 have HK := Lib.hid hK
 clear hK
 conv => arg 2; whnf
 go_wp2_with fail
 refine HK.out _ _ ?_
 clear HK K
 rw [bBstep1]
 refine wp_seq_thenQ (fun K hK => ?_)
 have HK := Lib.hid hK
 clear hK
 conv => arg 2; whnf
 go_wp2_with fail
 refine HK.out _ _ ?_
 clear HK K hW1 hmm hFF
 rw [bBstep2]
 refine wp_seq_thenQ (fun K hK => ?_)
 have HK := Lib.hid hK
 clear hK
 refine rg_e12 i N G n F kss ms w W1 HF.out (by omega) _ _ _ _ _ _ _ _ _ _ _ _ _ _ _ _ _ _ _ _ _ _ _ _ _ _ _ _ _ _ _ _ _ _ _ _ _ _ _ _ _ _ _ _ _ _ _ _ _ _ _ _ _ _ _ _ _ _ _ _ _ _ _ _ _ _ _ _ _ _ _ _ _ _ _ _ _ _ _ _ _ _ _ _ _ _ _ _ _ _ _ _ _ _ _ _ _ _ _ _ _ _ _ _ _ _ _ _ _ _ _ _ _ _ _ _ _ _ _ _ _ _ _ _ _ _ _ _ _ _ _ _ _ _ _ _ _ _ _ _ _ _ _ _ _ _ _ _ _ ?_
 intros
 rename_i V hV
 refine HK.out _ _ ?_
 clear HK K
 have hlk := hV.far.lookup i
 have HV := Lib.hid hV
 clear hV
 rw [bBstep3]
 refine wp_seq_thenQ (fun K hK => ?_)
 have HK := Lib.hid hK
 clear hK
 cases hgi : farN kss i n i with
 | none =>
  rw [hgi] at hlk
  have HGI := Lib.hid hgi
  clear hgi
  conv => arg 2; whnf
  go_wp2_with fail
  refine HK.out _ _ ?_
  clear HK K hlk
  rw [bBstep4]
  refine wp_seq_thenQ (fun K hK => ?_)
  have HK := Lib.hid hK
  clear hK
  conv => arg 2; whnf
  go_wp2_with fail
  exact HN.out HGI.out _ _ _ _ _ _ _ _ _ _ _ _ _ _ _ _ _ _ _ _ _ _ _ _ _ _ _ _ _ _ _ _ _ _ _ _ _ _ _ _ _ _ _ _ _ _ _ _ _ _ _ _ _ _ _ _ _ _ _ _ _ _ _ _ _ _ _ _ _ _ _ _ _ _ _ _ _ _ _ _ _ _ _ _ _ _ _ _ _ _ _ _ _ _ _ _ _ _ _ _ _ _ _ _ _ _ _ _ _ _ _ _ _ _ _ _ _ _ _ _ _ HV.out.next
 | some v0 =>
  have hv0 := farN_val hgi
  obtain ⟨d, rfl⟩ : ∃ d : Nat, v0 = ((d + 1 : Nat) : Int) := ⟨(v0 - 1).toNat, by omega⟩
  rw [hgi] at hlk
  have HGI := Lib.hid hgi
  clear hgi
  conv => arg 2; whnf
  go_wp2_with fail
  refine HK.out _ _ ?_
  clear HK K hlk
  rw [bBstep4]
  refine wp_seq_thenQ (fun K hK => ?_)
  have HK := Lib.hid hK
  clear hK
  conv => arg 2; whnf
  go_wp2_with fail
  refine HK.out _ _ ?_
  clear HK K
  rw [bBstep5]
  refine wp_seq_thenQ (fun K hK => ?_)
  have HK := Lib.hid hK
  clear hK
  obtain ⟨W2, hW2⟩ : ∃ W2, V.alloc (.cells #[.int .i64 (i : Int)] 3) = W2 := ⟨_, rfl⟩
  have hway : WayW w V W2 N G n F kss ms (farN kss i n) (.slice (some ⟨V.heap.size, 0, none⟩) 1 1) [(i : Int)] := by
   refine ⟨HV.out, by rw [← hW2]; exact (Below.refl _ _).alloc (Nat.le_refl _) _, ?_, fun x hx => by simp at hx; subst hx; omega⟩
   rw [← hW2]
   exact World.ownsRow_lit V #[.int .i64 (i : Int)] 1 (Nat.le_refl _) (by unfold maxLen; omega) rfl
  have HY := Lib.hid hway
  clear hway
  conv => arg 2; whnf
  go_wp2_with fail
  refine HK.out _ _ ?_
  clear HK K hW2
  rw [bBstep6]
  refine wp_seq_thenQ (fun K hK => ?_)
  have HK := Lib.hid hK
  clear hK
  refine rg_e30 i d N G n F kss ms (farN kss i n) _ w V W2 HY.out (by omega) (by omega) _ _ _ _ _ _ _ _ _ _ _ _ _ _ _ _ _ _ _ _ _ _ _ _ _ _ _ _ _ _ _ _ _ _ _ _ _ _ _ _ _ _ _ _ _ _ _ _ _ _ _ _ _ _ _ _ _ _ _ _ _ _ _ _ _ _ _ _ _ _ _ _ _ _ _ _ _ _ _ _ _ _ _ _ _ _ _ _ _ _ _ _ _ _ _ _ _ _ _ _ _ _ _ _ _ _ _ _ _ _ _ _ _ _ _ _ _ _ _ _ _ _ _ _ _ _ _ _ _ _ _ _ _ _ _ _ _ _ _ _ _ _ _ _ _ _ _ ?_
  intros
  rename_i V2 hV2
  refine HK.out _ _ ?_
  clear HK K
  have hb := thenB HV.out.next.below (hV2.below.mono (Nat.le_refl _))
  have hrow := own_row hV2.own (by simp)
  have HB := Lib.hid hb; have HRW := Lib.hid hrow
  clear hV2 hb hrow
  conv => arg 2; whnf
  go_wp2_with fail
  exact HR.out d HGI.out _ _ _ _ _ _ _ _ _ _ _ _ _ _ _ _ _ _ _ _ _ _ _ _ _ _ _ _ _ _ _ _ _ _ _ _ _ _ _ _ _ _ _ _ _ _ _ _ _ _ _ _ _ _ _ _ _ _ _ _ _ _ _ _ _ _ _ _ _ _ _ _ _ _ _ _ _ _ _ _ _ _ _ _ _ _ _ _ _ _ _ _ _ _ _ _ _ _ _ _ _ _ _ _ _ _ _ _ _ _ _ _ _ _ _ _ _ _ _ _ _ HB.out HRW.out
end Go.Proofs.Ytpnbpepkoekkoaa
end
section
namespace Go.Proofs.Ytpnbpepkoekkoaa
open Go Go.RowKit
def RingP (kss : List (List Int)) (w : World) (e : Ending) (w' : World) : Prop := ∃ v, e = .returned v ∧ Below w.heap.size w w' ∧ IntRow w' v (ringM kss)
theorem rgl0 : code61 = .seq elem61n0 (lastPart 1 code61) := rfl
set_option maxRecDepth 100000 in
set_option maxHeartbeats 16000000 in
theorem rg_e3 (B N G n : Nat) (kss : List (List Int)) (ms : List Nat) (w0 w W : World) (hb0 : Below w0.heap.size w0 w) (hW : NextW w W N G n kss ms) (hl : ms.length = n) (hkl : kss.length = n) (hn : n ≤ 999) (e0 e4 e5 e6 e7 e8 e9 e10 e11 e12 e13 e14 e15 e16 e17 e18 e19 e20 e21 e22 e23 e24 e25 e26 e27 e28 e29 e30 e31 e32 e33 e34 e35 e36 e37 e38 e39 e40 e41 e42 e43 e44 e45 e46 e47 e48 e49 e50 e51 e52 e53 e54 e55 e56 e57 e58 e59 e60 e61 e62 e63 e64 e65 e66 e67 e68 e69 e70 e71 e72 e73 e74 e75 e76 e77 e78 e79 e80 e81 e82 e83 e84 e85 e86 e87 e88 e89 e90 e91 e92 e93 e94 e95 e96 e97 e98 e99 e100 e101 e102 e103 e104 e105 e106 e107 e108 e109 e110 e111 e112 e113 e114 e115 e116 e117 e118 e119 e120 e121 e122 e123 e124 e125 e126 e127 e128 e129 e130 e131 e132 e133 e134 e135 e136 e137 e138 e139 e140 e141 e142 e143 e144 e145 e146 e147 e148 e149 e150 : Value) :
  (lastPart 3 code61).wp Try.prog (bodyPost Try.prog Try.f61 (RingP kss w0)) { tmps := #[e0, .pointer (some ⟨B, 0, none⟩), .slice none 0 0, .pointer (some ⟨N, 0, none⟩), e4, e5, e6, e7, e8, e9, e10, e11, e12, e13, e14, e15, e16, e17, e18, e19, e20, e21, e22, e23, e24, e25, e26, e27, e28, e29, e30, e31, e32, e33, e34, e35, e36, e37, e38, e39, e40, e41, e42, e43, e44, e45, e46, e47, e48, e49, e50, e51, e52, e53, e54, e55, e56, e57, e58, e59, e60, e61, e62, e63, e64, e65, e66, e67, e68, e69, e70, e71, e72, e73, e74, e75, e76, e77, e78, e79, e80, e81, e82, e83, e84, e85, e86, e87, e88, e89, e90, e91, e92, e93, e94, e95, e96, e97, e98, e99, e100, e101, e102, e103, e104, e105, e106, e107, e108, e109, e110, e111, e112, e113, e114, e115, e116, e117, e118, e119, e120, e121, e122, e123, e124, e125, e126, e127, e128, e129, e130, e131, e132, e133, e134, e135, e136, e137, e138, e139, e140, e141, e142, e143, e144, e145, e146, e147, e148, e149, e150], defers := [] } W := by
 have y3 := cell_at hW.box 0 rfl
 have HW := Lib.hid hW; have HB0 := Lib.hid hb0
 clear hW hb0
 rw [rgstep3]
 refine wp_seq_thenQ (fun K hK => ?_)
 have HK := Lib.hid hK
 clear hK
 conv => arg 2; whnf
 go_wp2_with fail
 go_loopw [43] (fun iv wr => ∃ i : Nat, iv = .int .i64 i ∧ i ≤ n ∧ Hid (∀ j, j < i → ringAt kss j = false) ∧ Hid (NextW w wr N G n kss ms)) (fun iv _ => n + 1 - (intOf iv).toNat)
 case atStart => exact ⟨0, rfl, Nat.zero_le _, Lib.hid (fun j hj => by omega), HW⟩
 case round =>
  obtain ⟨i, rfl, hin, hno, hWr⟩ := hrel
  by_cases hlt : i < n
  ·have hi : (i : Int) < (n : Int) := by omega
   refine wp_seq_thenQ (fun K1 hK => ?_)
   have HK1 := Lib.hid hK
   clear hK
   go_wp2_with fail
   refine HK1.out _ _ ?_
   clear HK1 K1
   refine wp_seq_thenQ (fun K2 hK => ?_)
   have HK2 := Lib.hid hK
   clear hK
   go_wp2_with fail
   refine HK2.out _ _ ?_
   clear HK2 K2
   refine wp_seq_thenQ (fun K3 hK => ?_)
   have HK3 := Lib.hid hK
   clear hK
   refine wp_block ?_
   change Code.wp Try.prog bodyB _ _ _
   refine rg_body i N G n kss ms w wr hWr.out hl hkl hn hlt _ _ _ _ _ _ _ _ _ _ _ _ _ _ _ _ _ _ _ _ _ _ _ _ _ _ _ _ _ _ _ _ _ _ _ _ _ _ _ _ _ _ _ _ _ _ _ _ _ _ _ _ _ _ _ _ _ _ _ _ _ _ _ _ _ _ _ _ _ _ _ _ _ _ _ _ _ _ _ _ _ _ _ _ _ _ _ _ _ _ _ _ _ _ _ _ _ _ _ _ _ _ _ _ _ _ _ _ _ _ _ _ _ _ _ _ _ _ _ _ _ _ _ _ _ _ _ _ _ _ _ _ _ _ _ _ _ _ _ _ _ _ _ _ _ _ _ _ _ _ (fun hfn => ?_) (fun d hfs => ?_)
   ·intros
    rename_i V hV
    refine HK3.out _ _ ?_
    have HV := Lib.hid hV
    have hri : ringAt kss i = false := by unfold ringAt; rw [hkl, hfn]; rfl
    have HRI := Lib.hid hri
    clear hV HK3 K3 hfn hri
    go_wp2_with fail
    go_roundw
    case rel => exact ⟨i + 1, by go_num, by omega, Lib.hid (fun j hj => by rcases Nat.lt_or_ge j i with h | h; exact hno.out j h; rw [show j = i by omega]; exact HRI.out), HV⟩
    case measure => simp [intOf]; omega
   ·intros
    rename_i v' _ _ _ _ _ _ _ _ _ _ _ _ _ _ _ _ _ _ _ _ _ _ _ _ _ _ _ _ _ _ _ _ _ _ _ _ _ _ _ _ _ _ _ _ _ _ _ _ _ _ _ _ _ _ _ _ _ _ _ _ _ _ _ _ _ _ _ _ _ _ _ _ _ _ _ _ _ _ _ _ _ _ _ _ _ _ _ _ _ _ _ _ _ _ _ _ _ _ _ _ _ _ _ _ _ _ _ _ _ _ _ _ _ _ _ _ _ _ _ V hbV hrow
    rw [← hkl] at hfs hrow
    have hm := ringM_some (by omega) hno.out hfs
    rw [← hm] at hrow
    refine bodyPost_ret (v := v') ?_ rfl ⟨v', rfl, thenB HB0.out hbV, hrow⟩
    simp [results, Try.results61, go_sem]
  ·have : i = n := by omega
   subst this
   have hz : ¬ (i : Int) < (i : Int) := by omega
   have hm : ringM kss = [] := ringM_none (fun j hj => hno.out j (by omega))
   have HM := Lib.hid hm
   clear hm
   go_wp2_with fail
   refine HK.out _ _ ?_
   conv => arg 2; whnf
   go_wp2_with fail
   go_ret
   exact ⟨_, rfl, thenB HB0.out hWr.out.below, Or.inl ⟨HM.out, rfl⟩⟩
set_option maxRecDepth 100000 in
set_option maxHeartbeats 16000000 in
theorem ring_any (s : Ls) (f : Nm → Int) (w : World) (hA : s.At w) (hU : NumAt f w (phRefs s.phrases)) (hn : s.phrases.length ≤ 999) : Calls Try.prog 61 #[s.val] w (RingP (s.nexts f) w) := by
 obtain ⟨W, hW, hB, hbW⟩ : ∃ W, w.alloc (.cells s.cells 30) = W ∧ W.heap[w.heap.size]? = some (.cells s.cells 30 (0, 0)) ∧ Below w.heap.size w W := ⟨_, rfl, heap_alloc_new w _, (Below.refl _ w).alloc (Nat.le_refl _) _⟩
 have hS : RgS s f w.heap.size W := ⟨hA.below hbW, hB, hU.below hbW⟩
 have y9 : W.cell? ⟨w.heap.size, 10, none⟩ = some (.slice s.fa s.phrases.length s.fc) := cell_at hB 10 rfl
 have hkl : (s.nexts f).length = s.phrases.length := by simp [Ls.nexts]
 obtain ⟨n, hnn⟩ : ∃ n, s.phrases.length = n := ⟨_, rfl⟩
 obtain ⟨W1, hW1, gW1, bW1, sW1⟩ := mk_cells W (Array.replicate n (.map none)) 137
 obtain ⟨W2, hW2, gW2, bW2, sW2⟩ := mk_cells W1 #[.slice (some ⟨W.heap.size, 0, none⟩) n n] 136
 have hb2 := thenB bW1 bW2
 have hWn : NextW W W2 W1.heap.size W.heap.size n (s.nexts f) [] := by
  refine ⟨hb2, by omega, Nat.le_refl _, gW2, ?_, Nat.zero_le _, by simp, by simp, List.nodup_nil⟩
  rw [← rowM_zero]
  exact keepO bW2 gW1
 have hmk := make_maps n (by omega) W
 rw [hW1] at hmk
 have hv : s.val = .agg s.cells := rfl
 rw [hv]
 have HS := Lib.hid hS; have HWN := Lib.hid hWn; have HKL := Lib.hid hkl; have HNN := Lib.hid hnn; have HBW := Lib.hid hbW; have HW2 := Lib.hid hW2; have HMK := Lib.hid hmk
 rw [hnn] at y9
 have Hy9 := Lib.hid y9
 unfold Ls.cells at hW ⊢
 rw [hnn] at hW hn ⊢
 clear hA hU hS hWn hkl hv hB hW1 gW1 bW1 gW2 bW2 hb2 hnn hbW hW2 hmk y9 sW2
 go_enter Try.func61, Try.ntmps61
 change Code.wp Try.prog code61 _ _ _
 rw [rgl0]
 refine wp_seq_thenQ (fun K hK => ?_)
 have HK := Lib.hid hK
 clear hK
 conv => arg 2; whnf
 go_wp2_with fail
 refine HK.out _ _ ?_
 clear HK K hW
 have y9 := Hy9.out
 have hmk := HMK.out
 have hW2 := HW2.out
 rw [rgstep1]
 refine wp_seq_thenQ (fun K hK => ?_)
 have HK := Lib.hid hK
 clear hK
 conv => arg 2; whnf
 go_wp2_with fail
 rw [← sW1]
 refine HK.out _ _ ?_
 clear HK K hmk hW2 y9 HW2 HMK Hy9
 have hnn := HNN.out
 subst hnn
 rw [rgstep2]
 refine wp_seq_thenQ (fun K hK => ?_)
 have HK := Lib.hid hK
 clear hK
 refine rg_e2 s f w.heap.size W1.heap.size W.heap.size W W2 HS.out (by omega) HWN.out _ _ _ _ _ _ _ _ _ _ _ _ _ _ _ _ _ _ _ _ _ _ _ _ _ _ _ _ _ _ _ _ _ _ _ _ _ _ _ _ _ _ _ _ _ _ _ _ _ _ _ _ _ _ _ _ _ _ _ _ _ _ _ _ _ _ _ _ _ _ _ _ _ _ _ _ _ _ _ _ _ _ _ _ _ _ _ _ _ _ _ _ _ _ _ _ _ _ _ _ _ _ _ _ _ _ _ _ _ _ _ _ _ _ _ _ _ _ _ _ _ _ _ _ _ _ _ _ _ _ _ _ _ _ _ _ _ _ _ _ _ _ _ _ _ _ _ _ _ _ ?_
 intro ms x4 x5 x6 x7 x8 x9 x10 x11 x12 x13 x14 x15 x16 x17 x18 x19 x20 x21 x22 x23 x24 x25 x26 x27 x28 x29 x30 x31 x32 x33 x34 x35 x36 x37 x38 x39 x40 x41 x42 x43 x44 x45 x46 x47 x48 x49 x50 x51 x52 x53 x54 x55 x56 x57 x58 x59 x60 x61 x62 x63 x64 x65 x66 x67 x68 x69 x70 x71 x72 x73 x74 x75 x76 x77 x78 x79 x80 x81 x82 x83 x84 x85 x86 x87 x88 x89 x90 x91 x92 x93 x94 x95 x96 x97 x98 x99 x100 x101 x102 x103 x104 x105 x106 x107 x108 x109 x110 x111 x112 x113 x114 x115 x116 x117 x118 x119 x120 x121 x122 x123 x124 x125 x126 x127 x128 x129 x130 x131 x132 x133 x134 x135 x136 x137 x138 x139 x140 x141 x142 x143 x144 x145 x146 x147 x148 x149 x150 V hV hms
 refine HK.out _ _ ?_
 clear HK K
 exact rg_e3 w.heap.size W1.heap.size W.heap.size s.phrases.length (s.nexts f) ms w W V HBW.out hV hms HKL.out hn _ _ _ _ _ _ _ _ _ _ _ _ _ _ _ _ _ _ _ _ _ _ _ _ _ _ _ _ _ _ _ _ _ _ _ _ _ _ _ _ _ _ _ _ _ _ _ _ _ _ _ _ _ _ _ _ _ _ _ _ _ _ _ _ _ _ _ _ _ _ _ _ _ _ _ _ _ _ _ _ _ _ _ _ _ _ _ _ _ _ _ _ _ _ _ _ _ _ _ _ _ _ _ _ _ _ _ _ _ _ _ _ _ _ _ _ _ _ _ _ _ _ _ _ _ _ _ _ _ _ _ _ _ _ _ _ _ _ _ _ _ _ _ _ _ _ _ _
end Go.Proofs.Ytpnbpepkoekkoaa
end
section
namespace Go.Proofs.Ytpnbpepkoekkoaa
open Go Go.RowKit
def Its.sumF (f : Nm → Int) (F : Int → Int) : Its → Int → Int
 | .nil, n => n
 | .cons k nn un its _ r, n => r.sumF f F (min (n + (if k = 1 then 1 else if k = 2 then nn * its.sumF f F 0 else if k = 3 then its.sumF f F 0 else if k = 4 then F (f un) else 0)) 4097)
theorem Its.exB_parts {k n : Int} {un : Nm} {its : Its} {ms : List Mov} {r : Its} (h : (Its.cons k n un its ms r).exB = true) : numB k n = true ∧ its.exB = true ∧ r.exB = true := by
 simp only [Its.exB, Bool.and_eq_true] at h
 exact ⟨h.1, h.2.2.2.1.2, h.2.2.2.2⟩
theorem num_two {n : Int} (h : numB 2 n = true) : 1 ≤ n ∧ n ≤ 64 := by
 unfold numB inB at h
 simp at h
 omega
theorem Its.sumF_bound (f : Nm → Int) (F : Int → Int) : ∀ (T : Its) (n : Int), T.exB = true → (∀ u ∈ T.uses f, 0 ≤ F u ∧ F u ≤ 4097) → 0 ≤ n → n ≤ 4097 → 0 ≤ T.sumF f F n ∧ T.sumF f F n ≤ 4097
 | .nil, n, _, _, h0, h1 => ⟨h0, h1⟩
 | .cons k nn un its ms r, n, hx, hu, h0, h1 => by
  obtain ⟨hn, hi, hr⟩ := Its.exB_parts hx
  have hbi := its.sumF_bound f F 0 hi (fun u h => hu u (by simp [Its.uses, h])) (by omega) (by omega)
  have hF : k = 4 → 0 ≤ F (f un) := fun hk => (hu (f un) (by simp [Its.uses, hk])).1
  unfold Its.sumF
  have hv : 0 ≤ (if k = 1 then 1 else if k = 2 then nn * its.sumF f F 0 else if k = 3 then its.sumF f F 0 else if k = 4 then F (f un) else 0) := by
   split
   ·omega
   ·split
    ·rename_i h2
     subst h2
     exact Int.mul_nonneg (by have := num_two hn; omega) hbi.1
    ·split
     ·exact hbi.1
     ·split
      ·rename_i h4; exact hF h4
      ·omega
  exact r.sumF_bound f F _ hr (fun u h => hu u (by simp [Its.uses, h])) (by omega) (by omega)
structure LenW (W : World) (s : Ls) (f : Nm → Int) (B KB M SB PB : Nat) (len : Int → Int) : Prop where
 sc : ∃ w0, RgS s f B w0 ∧ Below w0.heap.size w0 W ∧ w0.heap.size ≤ M
 kb : W.heap[KB]? = some (.cells #[.map (some M)] 140 (0, 0))
 sb : W.heap[SB]? = some (.cells #[.func (.func 89) #[] #[.pointer (some ⟨SB, 0, none⟩), .pointer (some ⟨PB, 0, none⟩)]] 143 (0, 0))
 pb : W.heap[PB]? = some (.cells #[.func (.func 90) #[] #[.pointer (some ⟨KB, 0, none⟩), .pointer (some ⟨SB, 0, none⟩), .pointer (some ⟨B, 0, none⟩)]] 120 (0, 0))
 known : ∃ g, FarM W M g ∧ ∀ x v, g x = some v → v = len x
theorem LenW.score {W : World} {s : Ls} {f : Nm → Int} {B KB M SB PB : Nat} {len : Int → Int} (h : LenW W s f B KB M SB PB len) : RgS s f B W := by
 obtain ⟨w0, h1, h2, _⟩ := h.sc; exact h1.below h2
theorem FarM.isMap {W : World} {F : Nat} {g : Int → Option Int} (h : FarM W F g) : IsMap W F := by
 obtain ⟨kvs, h1, _⟩ := h
 obtain ⟨es, c, h2, _⟩ := h1
 exact ⟨es, c, h2⟩
theorem LenW.isMap {W : World} {s : Ls} {f : Nm → Int} {B KB M SB PB : Nat} {len : Int → Int} (h : LenW W s f B KB M SB PB len) : IsMap W M := by
 obtain ⟨g, h1, _⟩ := h.known; exact h1.isMap
theorem LenW.below {W V : World} {s : Ls} {f : Nm → Int} {B KB M SB PB : Nat} {len : Int → Int} (h : LenW W s f B KB M SB PB len) (hb : Below W.heap.size W V) : LenW V s f B KB M SB PB len := by
 obtain ⟨g, h1, h2⟩ := h.known
 obtain ⟨w0, a1, a2, a3⟩ := h.sc
 exact ⟨⟨w0, a1, thenB a2 hb, a3⟩, keepO hb h.kb, keepO hb h.sb, keepO hb h.pb, ⟨g, h1.of_block (hb.block M h1.lt), h2⟩⟩
theorem grown_below {w w' : World} {m : Nat} (hb : Below w.heap.size w w') : w.grownBy w' (some m) := ⟨hb.os, hb.tape, hb.output, hb.size, fun k hk _ => hb.block k hk⟩
def LthP (s : Ls) (f : Nm → Int) (B KB M SB PB : Nat) (len : Int → Int) (v : Int) (W : World) (e : Ending) (W' : World) : Prop := e = .returned (.int .i64 v) ∧ LenW W' s f B KB M SB PB len ∧ W.grownBy W' (some M)
def PhrC (s : Ls) (f : Nm → Int) (B KB M SB PB : Nat) (len : Int → Int) (us : List Int) : Prop := ∀ u ∈ us, ∀ V, LenW V s f B KB M SB PB len → Calls Try.prog 90 #[.int .i64 u, .pointer (some ⟨KB, 0, none⟩), .pointer (some ⟨SB, 0, none⟩), .pointer (some ⟨B, 0, none⟩)] V (LthP s f B KB M SB PB len (len u) V)
set_option maxRecDepth 100000 in
set_option maxHeartbeats 16000000 in
theorem sum_step (s : Ls) (f : Nm → Int) (B KB M SB PB : Nat) (len : Int → Int) (T : Lt)
  (hI : ∀ T' : Lt, T'.size < T.size → ∀ (ia : Option Addr) (ic : Nat) (W : World), T'.strip.exB = true → (∀ u ∈ T'.strip.uses f, 0 ≤ len u ∧ len u ≤ 4097) → PhrC s f B KB M SB PB len (T'.strip.uses f) → (T'.len = 0 ∨ ia = some ⟨blk ia, off ia, none⟩) → T'.len ≤ maxLen → T'.At W (blk ia) (off ia) → NumAt f W (T'.refsL (blk ia) (off ia)) → LenW W s f B KB M SB PB len → Calls Try.prog 89 #[.slice ia T'.len ic, .pointer (some ⟨SB, 0, none⟩), .pointer (some ⟨PB, 0, none⟩)] W (LthP s f B KB M SB PB len (T'.strip.sumF f len 0) W))
  (ia : Option Addr) (ic : Nat) (W : World) (hx : T.strip.exB = true) (hu : ∀ u ∈ T.strip.uses f, 0 ≤ len u ∧ len u ≤ 4097) (hP : PhrC s f B KB M SB PB len (T.strip.uses f)) (hf : T.len = 0 ∨ ia = some ⟨blk ia, off ia, none⟩) (hl : T.len ≤ maxLen) (hT : T.At W (blk ia) (off ia)) (hU : NumAt f W (T.refsL (blk ia) (off ia))) (hL : LenW W s f B KB M SB PB len) : Calls Try.prog 89 #[.slice ia T.len ic, .pointer (some ⟨SB, 0, none⟩), .pointer (some ⟨PB, 0, none⟩)] W (LthP s f B KB M SB PB len (T.strip.sumF f len 0) W) := by
 have HI := Lib.hid hI; have HT := Lib.hid hT; have HF := Lib.hid hf; have HU := Lib.hid hU; have HL := Lib.hid hL; have HX := Lib.hid hx; have HUB := Lib.hid hu; have HP := Lib.hid hP
 clear hI hT hf hU hL hx hu hP
 generalize hm : T.len = q at *
 have HM := Lib.hid hm
 clear hm
 unfold maxLen at hl
 go_enter Try.func89, Try.ntmps89
 go_wp2_with fail
 go_loopw [4, 9] (fun av iv wr => ∃ (j : Nat) (R : Lt) (a : Int), iv = .int .i64 j ∧ av = .int .i64 a ∧ j + R.len = q ∧ 0 ≤ a ∧ a ≤ 4097 ∧ Hid (R.size ≤ T.size) ∧ Hid (T.strip.sumF f len 0 = R.strip.sumF f len a) ∧ Hid (R.strip.exB = true) ∧ Hid (∀ u ∈ R.strip.uses f, u ∈ T.strip.uses f) ∧ Hid (R.At wr (blk ia) (off ia + j * 6)) ∧ Hid (NumAt f wr (R.refsL (blk ia) (off ia + j * 6))) ∧ Hid (LenW wr s f B KB M SB PB len) ∧ Hid (W.grownBy wr (some M))) (fun _ iv _ => q + 1 - (intOf iv).toNat)
 case atStart => exact ⟨0, T, 0, rfl, rfl, by rw [HM.out]; omega, by omega, by omega, Lib.hid (Nat.le_refl _), Lib.hid rfl, HX, Lib.hid (fun _ h => h), by simpa [Hid] using HT.out, by simpa [Hid] using HU.out, HL, Lib.hid (World.grownBy.refl _ _)⟩
 case round =>
  obtain ⟨j, R, a, rfl, rfl, hin, ha0, ha1, hsz, hsum, hex, hus, hR, hK, hLW, hB⟩ := hrel
  cases R with
  | nil =>
   simp only [Lt.len, Nat.add_zero] at hin
   subst hin
   go_wp2_with fail
   go_ret
   exact ⟨by rw [hsum.out]; rfl, hLW.out, hB.out⟩
  | cons kk nn un ja jc its ma mc ms r =>
   simp only [Lt.len] at hin
   have hi : (j : Int) < (q : Int) := by omega
   have e := HF.out.resolve_left (by omega)
   obtain ⟨⟨u, g3, hu⟩, _, k2, k3⟩ := hK.out.mov
   obtain ⟨⟨g0, g1, g2, g4, g5⟩, _, ⟨i1, i2, i3⟩, hr⟩ := hR.out
   obtain ⟨hxn, hxi, hxr⟩ := Its.exB_parts hex.out
   have hlt : its.size < T.size := by have := hsz.out; simp only [Lt.size] at this; omega
   have hszr : r.size ≤ T.size := by have := hsz.out; simp only [Lt.size] at this; omega
   obtain ⟨W2, hW2, gW2, bW2, sW2⟩ := mk_cells wr #[.int .i64 kk, .int .i64 nn, sv un, .int .i64 u, .slice ja its.len jc, .slice ma ms.length mc] 78
   have hL2 := hLW.out.below bW2
   have hM2 := hL2.isMap
   have hMr := hLW.out.isMap
   have hui : ∀ u ∈ its.strip.uses f, u ∈ T.strip.uses f := fun v hv => hus.out v (by simp [Lt.strip, Its.uses, hv])
   have hur : ∀ u ∈ r.strip.uses f, u ∈ T.strip.uses f := fun v hv => hus.out v (by simp [Lt.strip, Its.uses, hv])
   have hbi := Its.sumF_bound f len its.strip 0 hxi (fun u h => HUB.out u (hui u h)) (by omega) (by omega)
   have C := fun (V : World) (hv : W2.grownBy V (some M)) (hc : LenW V s f B KB M SB PB len) => HI.out its hlt ja jc V hxi (fun u h => HUB.out u (hui u h)) (fun u h => HP.out u (hui u h)) i1 i2 ((i3.below bW2).grown hM2 hv) ((k2.below bW2).grown hM2 hv) hc
   obtain ⟨si, hsi⟩ : ∃ si, its.strip.sumF f len 0 = si := ⟨_, rfl⟩
   rw [hsi] at C hbi
   have hsm : T.strip.sumF f len 0 = r.strip.sumF f len (min (a + (if kk = 1 then 1 else if kk = 2 then nn * si else if kk = 3 then si else if kk = 4 then len (f un) else 0)) 4097) := by
    rw [hsum.out]; simp only [Lt.strip, Its.sumF, hsi]
   have HSM := Lib.hid hsm
   have HC := Lib.hid C
   have HR : Hid (r.At wr (blk ia) (off ia + (j + 1) * 6) ∧ NumAt f wr (r.refsL (blk ia) (off ia + (j + 1) * 6))) := Lib.hid (by
    rw [show off ia + (j + 1) * 6 = off ia + j * 6 + 6 by omega]
    exact ⟨hr, k3⟩)
   have HG2 := Lib.hid gW2; have HB2 := Lib.hid bW2; have HL2 := Lib.hid hL2; have HM2 := Lib.hid hM2; have HSZ := Lib.hid hszr; have HMr := Lib.hid hMr; have HXR := Lib.hid hxr; have HUR := Lib.hid hur
   have HU4 : Hid (kk = 4 → u = f un ∧ u ∈ T.strip.uses f) := Lib.hid (fun h4 => ⟨hu h4, by rw [hu h4]; exact hus.out _ (by simp [Lt.strip, Its.uses, h4])⟩)
   have HN2 : Hid (kk = 2 → 1 ≤ nn ∧ nn ≤ 64) := Lib.hid (fun h2 => by subst h2; exact num_two hxn)
   have y0 := cell_at gW2 0 rfl; have y1 := cell_at gW2 1 rfl; have y3 := cell_at gW2 3 rfl; have y4 := cell_at gW2 4 rfl
   have zs := cell_at hL2.sb 0 rfl; have zp := cell_at hL2.pb 0 rfl
   obtain ⟨hb0, hb1⟩ := hbi
   clear C gW2 bW2 sW2 i1 i2 i3 hr hlt k2 k3 hR hK hus hsz hszr hL2 hM2 hMr hxr hxi hxn hex hsum hsm hur hui hsi hu hLW
   generalize hbb : blk ia = bb at *
   generalize hoo : off ia = oo at *
   subst e
   clear hbb hoo HF
   by_cases h1 : kk = 1
   ·subst h1
    have HSM2 : Hid (T.strip.sumF f len 0 = r.strip.sumF f len (min (a + 1) 4097)) := Lib.hid (by rw [HSM.out, if_pos rfl])
    have hgr := grown_below (m := M) HB2.out
    have HGR := Lib.hid hgr
    clear hgr
    go_wp2_with fail
    go_roundw
    case rel => exact ⟨j + 1, r, _, by go_num, rfl, by omega, by omega, by omega, HSZ, HSM2, HXR, HUR, Lib.hid (HR.out.1.grown HMr.out HGR.out), Lib.hid (HR.out.2.grown HMr.out HGR.out), HL2, Lib.hid (grown_two hB.out HGR.out)⟩
    case measure => simp [intOf]; omega
   ·by_cases h2 : kk = 2
    ·subst h2
     obtain ⟨hn0, hn1⟩ := HN2.out rfl
     have HSM2 : Hid (T.strip.sumF f len 0 = r.strip.sumF f len (min (a + nn * si) 4097)) := Lib.hid (by rw [HSM.out, if_neg h1, if_pos rfl])
     have hp0 : 0 ≤ nn * si := Int.mul_nonneg (by omega) hb0
     have hp1 : nn * si ≤ 64 * 4097 := Int.mul_le_mul hn1 hb1 hb0 (by omega)
     have hw1 : IntKind.i64.wrap (nn * si) = nn * si := IntWalk.i64_in _ (by omega)
     have hw2 : IntKind.i64.wrap (a + nn * si) = a + nn * si := IntWalk.i64_in _ (by omega)
     go_wp2_with fail
     have HD := Lib.hid (And.intro (grown_below (m := M) (drew_below W2 W2.heap.size)) (HL2.out.below (drew_below W2 W2.heap.size)))
     have HMD : Hid (IsMap W2.drew M) := Lib.hid HM2.out
     have HYD : Hid (W2.drew.cell? ⟨wr.heap.size, 1, none⟩ = some (.int .i64 nn)) := Lib.hid y1
     go_region_with (go_at_call 89; refine (HC.out _ HD.out.1 HD.out.2).mono ?_; rintro e V ⟨rfl, hv1, hv2⟩; have HV1 := Lib.hid hv1; have HV2 := Lib.hid hv2; have zz := grown_cell HYD.out HMD.out hv2; clear hv1 hv2)
     all_goals
      clear hw1 hw2
      go_wp2_with fail
      have hgr := grown_alloc HB2.out (grown_two HD.out.1 HV2.out)
      have HGR := Lib.hid hgr
      clear hgr
      go_roundw
      case rel => exact ⟨j + 1, r, _, by go_num, rfl, by omega, by omega, by omega, HSZ, HSM2, HXR, HUR, Lib.hid (HR.out.1.grown HMr.out HGR.out), Lib.hid (HR.out.2.grown HMr.out HGR.out), HV1, Lib.hid (grown_two hB.out HGR.out)⟩
      case measure => simp [intOf]; omega
    ·by_cases h3 : kk = 3
     ·subst h3
      have HSM2 : Hid (T.strip.sumF f len 0 = r.strip.sumF f len (min (a + si) 4097)) := Lib.hid (by rw [HSM.out, if_neg h1, if_neg h2, if_pos rfl])
      go_wp2_with (go_at_call 89; refine (HC.out _ (World.grownBy.refl _ _) HL2.out).mono ?_; rintro e V ⟨rfl, hv1, hv2⟩; have HV1 := Lib.hid hv1; have HV2 := Lib.hid hv2; clear hv1 hv2)
      have hgr := grown_alloc HB2.out HV2.out
      have HGR := Lib.hid hgr
      clear hgr
      go_roundw
      case rel => exact ⟨j + 1, r, _, by go_num, rfl, by omega, by omega, by omega, HSZ, HSM2, HXR, HUR, Lib.hid (HR.out.1.grown HMr.out HGR.out), Lib.hid (HR.out.2.grown HMr.out HGR.out), HV1, Lib.hid (grown_two hB.out HGR.out)⟩
      case measure => simp [intOf]; omega
     ·by_cases h4 : kk = 4
      ·subst h4
       obtain ⟨hu1, hu2⟩ := HU4.out rfl
       have HSM2 : Hid (T.strip.sumF f len 0 = r.strip.sumF f len (min (a + len u) 4097)) := Lib.hid (by rw [HSM.out, if_neg h1, if_neg h2, if_neg h3, if_pos rfl, ← hu1])
       have hlu := HUB.out u hu2
       have HCP := Lib.hid (HP.out u hu2 W2 HL2.out)
       clear hu1 hu2
       obtain ⟨lu, hlu2⟩ : ∃ lu, len u = lu := ⟨_, rfl⟩
       rw [hlu2] at HCP HSM2 hlu
       obtain ⟨l0, l1⟩ := hlu
       clear hlu2
       go_wp2_with (go_at_call 90; refine HCP.out.mono ?_; rintro e V ⟨rfl, hv1, hv2⟩; have HV1 := Lib.hid hv1; have HV2 := Lib.hid hv2; clear hv1 hv2)
       have hgr := grown_alloc HB2.out HV2.out
       have HGR := Lib.hid hgr
       clear hgr
       go_roundw
       case rel => exact ⟨j + 1, r, _, by go_num, rfl, by omega, by omega, by omega, HSZ, HSM2, HXR, HUR, Lib.hid (HR.out.1.grown HMr.out HGR.out), Lib.hid (HR.out.2.grown HMr.out HGR.out), HV1, Lib.hid (grown_two hB.out HGR.out)⟩
       case measure => simp [intOf]; omega
      ·have HSM2 : Hid (T.strip.sumF f len 0 = r.strip.sumF f len (min (a + 0) 4097)) := Lib.hid (by rw [HSM.out, if_neg h1, if_neg h2, if_neg h3, if_neg h4])
       have hgr := grown_below (m := M) HB2.out
       have HGR := Lib.hid hgr
       clear hgr
       go_wp2_with fail
       go_roundw
       case rel => exact ⟨j + 1, r, _, by go_num, by simp, by omega, by omega, by omega, HSZ, HSM2, HXR, HUR, Lib.hid (HR.out.1.grown HMr.out HGR.out), Lib.hid (HR.out.2.grown HMr.out HGR.out), HL2, Lib.hid (grown_two hB.out HGR.out)⟩
       case measure => simp [intOf]; omega
theorem sum_any (s : Ls) (f : Nm → Int) (B KB M SB PB : Nat) (len : Int → Int) : ∀ (z : Nat) (T : Lt), T.size ≤ z → ∀ (ia : Option Addr) (ic : Nat) (W : World), T.strip.exB = true → (∀ u ∈ T.strip.uses f, 0 ≤ len u ∧ len u ≤ 4097) → PhrC s f B KB M SB PB len (T.strip.uses f) → (T.len = 0 ∨ ia = some ⟨blk ia, off ia, none⟩) → T.len ≤ maxLen → T.At W (blk ia) (off ia) → NumAt f W (T.refsL (blk ia) (off ia)) → LenW W s f B KB M SB PB len → Calls Try.prog 89 #[.slice ia T.len ic, .pointer (some ⟨SB, 0, none⟩), .pointer (some ⟨PB, 0, none⟩)] W (LthP s f B KB M SB PB len (T.strip.sumF f len 0) W) := by
 intro z
 induction z with
 | zero => intro T hs; exact sum_step s f B KB M SB PB len T (fun T' hlt => absurd hlt (by omega))
 | succ z ih => intro T hs; exact sum_step s f B KB M SB PB len T (fun T' hlt => ih T' (by omega))
end Go.Proofs.Ytpnbpepkoekkoaa
end
section
namespace Go.Proofs.Ytpnbpepkoekkoaa
open Go Go.RowKit
theorem kv_set {kvs : List (Int × Value)} {k : Int} {x0 : Value} (h : kvGet kvs k = some x0) (v : Value) : kvGet (kvPut kvs k v) k = some v := by
 unfold kvPut; rw [h]
 simp only [Option.isSome_some, if_true]
 unfold kvGet at h ⊢
 rw [List.find?_map]
 have e : ((fun p => decide (p.1 = k)) ∘ fun p => if p.1 = k then (p.1, v) else p) = fun p : Int × Value => decide (p.1 = k) := by
  funext p; simp only [Function.comp]; split <;> rfl
 rw [e]
 cases hf : kvs.find? (fun p => decide (p.1 = k)) with
 | none => rw [hf] at h; cases h
 | some p =>
  have hp := List.find?_some hf
  have hpk : p.1 = k := by simpa using hp
  simp only [Option.map_some, if_pos hpk]
theorem FarM.set {W : World} {F : Nat} {g : Int → Option Int} (h : FarM W F g) (k v : Int) :
  ∃ W', (Instr.mapUpdate 140 (.map (some F)) (.int .i64 k) (.int .i64 v)).run Try.prog W = .ok () W' ∧ FarM W' F (putF g k v) ∧ W.grownBy W' (some F) := by
 obtain ⟨kvs, h1, h2, h3⟩ := h
 obtain ⟨o, hrun, hM⟩ := run_update_kv (P := Try.prog) kI_key Try.underlying140 Try.underlying3 h1 h2 k (.int .i64 v)
 refine ⟨_, hrun, ⟨_, hM, keysApart_put h2 k _, fun x => ?_⟩, setBlock_grown W F o⟩
 unfold putF
 by_cases hx : x = k
 ·subst hx
  rw [if_pos rfl]
  cases hg : kvGet kvs x with
  | none => rw [kv_new hg]; rfl
  | some y => rw [kv_set hg]; rfl
 ·rw [if_neg hx, ← h3 x]
  cases hg : kvGet kvs x with
  | none => exact kv_none hg (fun e => hx e.symm) _
  | some y => exact kv_old hg (fun e => hx e.symm) _
theorem LenW.grown {W V : World} {s : Ls} {f : Nm → Int} {B KB M SB PB : Nat} {len : Int → Int} {g : Int → Option Int} (h : LenW W s f B KB M SB PB len) (hg : W.grownBy V (some M)) (hf : FarM V M g) (hk : ∀ x v, g x = some v → v = len x) : LenW V s f B KB M SB PB len := by
 obtain ⟨w0, a1, a2, a3⟩ := h.sc
 exact ⟨⟨w0, a1, a2.grown hg a2.size (fun k hk => by cases hk; exact a3), a3⟩, grown_obj h.kb h.isMap hg, grown_obj h.sb h.isMap hg, grown_obj h.pb h.isMap hg, ⟨g, hf, hk⟩⟩
theorem LenW.set {W : World} {s : Ls} {f : Nm → Int} {B KB M SB PB : Nat} {len : Int → Int} (h : LenW W s f B KB M SB PB len) (j v : Int) (hv : len j = v) :
  ∃ W', (Instr.mapUpdate 140 (.map (some M)) (.int .i64 j) (.int .i64 v)).run Try.prog W = .ok () W' ∧ LenW W' s f B KB M SB PB len ∧ W.grownBy W' (some M) := by
 obtain ⟨g, h1, h2⟩ := h.known
 obtain ⟨W', r1, r2, r3⟩ := h1.set j v
 refine ⟨W', r1, h.grown r3 r2 (fun x y hxy => ?_), r3⟩
 unfold putF at hxy
 split at hxy
 ·rename_i e; subst e; cases hxy; exact hv.symm
 ·exact h2 x y hxy
set_option maxRecDepth 100000 in
set_option maxHeartbeats 16000000 in
theorem phr_any (s : Ls) (f : Nm → Int) (B KB M SB PB : Nat) (len : Int → Int) (j : Nat) (p : Ph) (hp : s.phrases[j]? = some p) (_hj : j ≤ 1000) (_hpl : s.phrases.length ≤ 1000) (hx : p.its.strip.exB = true) (hu : ∀ u ∈ p.its.strip.uses f, 0 ≤ len u ∧ len u ≤ 4097) (hP : PhrC s f B KB M SB PB len (p.its.strip.uses f)) (hlen : len j = p.its.strip.sumF f len 0)
  (W : World) (hL : LenW W s f B KB M SB PB len) : Calls Try.prog 90 #[.int .i64 j, .pointer (some ⟨KB, 0, none⟩), .pointer (some ⟨SB, 0, none⟩), .pointer (some ⟨B, 0, none⟩)] W (LthP s f B KB M SB PB len (len j) W) := by
 obtain ⟨g, hF, hgl⟩ := hL.known
 have hlk := hF.lookup j
 have y1 := cell_at hL.kb 0 rfl
 cases hgj : g j with
 | some v =>
  have hv := hgl _ _ hgj
  rw [hgj] at hlk
  have HV := Lib.hid hv; have HL := Lib.hid hL
  clear hp hx hu hP hlen hL hF hgl hgj hv
  go_enter Try.func90, Try.ntmps90
  go_wp2_with fail
  go_ret
  exact ⟨by rw [← HV.out]; rfl, HL.out, World.grownBy.refl _ _⟩
 | none =>
  rw [hgj] at hlk
  have ys := cell_at hL.sb 0 rfl
  have yb : W.cell? ⟨B, 10, none⟩ = some (.slice s.fa s.phrases.length s.fc) := cell_at hL.score.box 10 rfl
  obtain ⟨c0, c1⟩ := phAt_get hL.score.at_.phrases hp
  obtain ⟨i1, i2, i3⟩ := phAt_its hL.score.at_.phrases hp
  have hnum : NumAt f W (p.its.refsL (blk p.ia) (off p.ia)) := fun x hx => hL.score.nums x (phRefs_in hp hx)
  have hfa := hL.score.at_.pform.resolve_left (fun e => by rw [e] at hp; cases hp)
  have hjl : j < s.phrases.length := (List.getElem?_eq_some_iff.1 hp).1
  unfold Ph.val at c1
  have C := sum_any s f B KB M SB PB len _ p.its (Nat.le_refl _) p.ia p.ic W.drew hx hu hP i1 i2 (i3.below (drew_below W _)) (hnum.below (drew_below W _)) (hL.below (drew_below W _))
  rw [← hlen] at C
  have HC := Lib.hid C; have HL := Lib.hid hL
  have HGW : Hid (W.grownBy W.drew (some M)) := Lib.hid (grown_below (drew_below W _))
  obtain ⟨lj, hlj⟩ : ∃ lj, len j = lj := ⟨_, rfl⟩
  rw [hlj] at HC
  have HLJ := Lib.hid hlj
  have hji : (j : Int) < (s.phrases.length : Int) := by omega
  have HKB : Hid (∀ V, W.drew.grownBy V (some M) → V.cell? ⟨KB, 0, none⟩ = some (.map (some M))) := Lib.hid (fun V hg => cell_at (grown_obj (w := W.drew) hL.kb hL.isMap hg) 0 rfl)
  clear hp hx hu hP hL hF hgl hgj C i1 i2 i3 hnum hjl hlen c0
  generalize s.phrases.length = n at *
  generalize hga : s.fa = fa at *
  have HGA := Lib.hid hga
  clear hga
  generalize hbb : blk fa = fb at *
  generalize hoo : off fa = fo at *
  subst hfa
  clear hbb hoo
  have hmu := fun V (hV : LenW V s f B KB M SB PB len) => hV.set j lj hlj
  have HMU := Lib.hid hmu
  clear hmu hlj
  go_enter Try.func90, Try.ntmps90
  go_wp2_with fail
  refine region_tailQ (fun w2 => w2 = W.drew) 7 (by kernel_rfl) (by kernel_rfl) rfl ?_
  intro w2 hS
  subst hS
  simp only [List.take_succ_cons, List.take_zero, List.drop_succ_cons, List.drop_zero]
  repeat still_step
  refine wpStill_nil ?_
  go_wp2_with (go_at_call 89; refine HC.out.mono ?_; rintro e V ⟨rfl, hv1, hv2⟩; have HV1 := Lib.hid hv1; have HV2 := Lib.hid hv2; have yk := HKB.out V hv2; clear hv1 hv2; obtain ⟨V', hmu, hv3, hv4⟩ := HMU.out V HV1.out; have HV3 := Lib.hid hv3; have HV4 := Lib.hid hv4; clear hv3 hv4)
  go_ret
  exact ⟨by rw [HLJ.out]; rfl, HV3.out, grown_two HGW.out (grown_two HV2.out HV4.out)⟩
structure LenOk (ps : List Ph) (f : Nm → Int) (rk : Nat → Nat) (len : Int → Int) : Prop where
 ex : ∀ (j : Nat) (p : Ph), ps[j]? = some p → p.its.strip.exB = true
 fix : ∀ (j : Nat) (p : Ph), ps[j]? = some p → len j = p.its.strip.sumF f len 0
 bound : ∀ j : Nat, j < ps.length → 0 ≤ len j ∧ len j ≤ 4097
 down : ∀ (j : Nat) (p : Ph), ps[j]? = some p → ∀ u ∈ p.its.strip.uses f, ∃ i : Nat, u = i ∧ i < ps.length ∧ rk i < rk j
theorem phr_all (s : Ls) (f : Nm → Int) (B KB M SB PB : Nat) (rk : Nat → Nat) (len : Int → Int) (h : LenOk s.phrases f rk len) (hpl : s.phrases.length ≤ 1000) : ∀ (z j : Nat), rk j ≤ z → j < s.phrases.length → ∀ W, LenW W s f B KB M SB PB len → Calls Try.prog 90 #[.int .i64 j, .pointer (some ⟨KB, 0, none⟩), .pointer (some ⟨SB, 0, none⟩), .pointer (some ⟨B, 0, none⟩)] W (LthP s f B KB M SB PB len (len j) W) := by
 intro z
 induction z with
 | zero =>
  intro j hz hj W hL
  obtain ⟨p, hp⟩ : ∃ p, s.phrases[j]? = some p := ⟨_, List.getElem?_eq_getElem hj⟩
  exact phr_any s f B KB M SB PB len j p hp (by omega) hpl (h.ex j p hp) (fun u hu => by obtain ⟨i, rfl, hi, _⟩ := h.down j p hp u hu; exact h.bound i hi) (fun u hu => by obtain ⟨i, _, _, hr⟩ := h.down j p hp u hu; omega) (h.fix j p hp) W hL
 | succ z ih =>
  intro j hz hj W hL
  obtain ⟨p, hp⟩ : ∃ p, s.phrases[j]? = some p := ⟨_, List.getElem?_eq_getElem hj⟩
  exact phr_any s f B KB M SB PB len j p hp (by omega) hpl (h.ex j p hp) (fun u hu => by obtain ⟨i, rfl, hi, _⟩ := h.down j p hp u hu; exact h.bound i hi) (fun u hu V hV => by obtain ⟨i, rfl, hi, hr⟩ := h.down j p hp u hu; exact ih i (by omega) hi V hV) (h.fix j p hp) W hL
theorem run_store_f (W : World) (b : Nat) (fn : Fn) (f c : Array Value) (x : Value) (hx : W.cell? ⟨b, 0, none⟩ = some x) (hf : W.frozen? ⟨b, 0, none⟩ = false) : (store ⟨b, 0, none⟩ (.func fn f c)).run Try.prog W = .ok () (W.setCell ⟨b, 0, none⟩ (.func fn f c)) := by
 rw [run_store _ W _ _ _ rfl]
 simp [hx, hf]
def LngW (s : Ls) (f : Nm → Int) (len : Int → Int) (w : World) (e : Ending) (w' : World) : Prop := ∃ B KB M SB PB, e = .returned (.func (.func 90) #[] #[.pointer (some ⟨KB, 0, none⟩), .pointer (some ⟨SB, 0, none⟩), .pointer (some ⟨B, 0, none⟩)]) ∧ LenW w' s f B KB M SB PB len ∧ w.heap.size ≤ M ∧ Below w.heap.size w w'
set_option maxRecDepth 100000 in
set_option maxHeartbeats 16000000 in
theorem lengths_any (s : Ls) (f : Nm → Int) (len : Int → Int) (w : World) (hA : s.At w) (hU : NumAt f w (phRefs s.phrases)) : Calls Try.prog 67 #[s.val] w (LngW s f len w) := by
 obtain ⟨W0, hW0, gB, b0, s0⟩ := mk_cells w s.cells 30
 have hS : RgS s f w.heap.size W0 := ⟨hA.below b0, gB, hU.below b0⟩
 have hmm := @run_makeMap Try.prog
 obtain ⟨W1, hW1⟩ : ∃ W1, W0.alloc (.map #[] 0) = W1 := ⟨_, rfl⟩
 obtain ⟨W2, hW2, gK, b2, s2⟩ := mk_cells W1 #[.map (some W0.heap.size)] 140
 obtain ⟨W3, hW3, gP, b3, s3⟩ := mk_cells W2 #[.nilFunc] 120
 obtain ⟨W4, hW4, gS, b4, s4⟩ := mk_cells W3 #[.nilFunc] 143
 have b1 : Below W0.heap.size W0 W1 := by rw [← hW1]; exact (Below.refl _ _).alloc (Nat.le_refl _) _
 have s1 : W1.heap.size = W0.heap.size + 1 := by rw [← hW1]; simp
 obtain ⟨W5, hW5⟩ : ∃ W5, W4.setCell ⟨W3.heap.size, 0, none⟩ (.func (.func 89) #[] #[.pointer (some ⟨W3.heap.size, 0, none⟩), .pointer (some ⟨W2.heap.size, 0, none⟩)]) = W5 := ⟨_, rfl⟩
 obtain ⟨W6, hW6⟩ : ∃ W6, W5.setCell ⟨W2.heap.size, 0, none⟩ (.func (.func 90) #[] #[.pointer (some ⟨W1.heap.size, 0, none⟩), .pointer (some ⟨W3.heap.size, 0, none⟩), .pointer (some ⟨w.heap.size, 0, none⟩)]) = W6 := ⟨_, rfl⟩
 have gP4 := keepO b4 gP
 have gP5 : W5.heap[W2.heap.size]? = some (.cells #[.nilFunc] 120 (0, 0)) := by rw [← hW5, setCell_far _ (by omega)]; exact gP4
 have gS5 : W5.heap[W3.heap.size]? = some (.cells #[(.func (.func 89) #[] #[.pointer (some ⟨W3.heap.size, 0, none⟩), .pointer (some ⟨W2.heap.size, 0, none⟩)])] 143 (0, 0)) := by rw [← hW5, setCell_obj _ gS]; rfl
 have gP6 : W6.heap[W2.heap.size]? = some (.cells #[(.func (.func 90) #[] #[.pointer (some ⟨W1.heap.size, 0, none⟩), .pointer (some ⟨W3.heap.size, 0, none⟩), .pointer (some ⟨w.heap.size, 0, none⟩)])] 120 (0, 0)) := by rw [← hW6, setCell_obj _ gP5]; rfl
 have gS6 : W6.heap[W3.heap.size]? = some (.cells #[(.func (.func 89) #[] #[.pointer (some ⟨W3.heap.size, 0, none⟩), .pointer (some ⟨W2.heap.size, 0, none⟩)])] 143 (0, 0)) := by rw [← hW6, setCell_far _ (by omega)]; exact gS5
 have gK4 := keepO b4 (keepO b3 gK)
 have gK6 : W6.heap[W1.heap.size]? = some (.cells #[.map (some W0.heap.size)] 140 (0, 0)) := by rw [← hW6, setCell_far _ (by omega), ← hW5, setCell_far _ (by omega)]; exact gK4
 have hM1 : FarM W1 W0.heap.size (fun _ => none) := by rw [← hW1]; exact FarM.new W0
 have b14 := thenB b2 (thenB b3 b4)
 have hM4 := hM1.of_block (b14.block W0.heap.size hM1.lt)
 have hM6 : FarM W6 W0.heap.size (fun _ => none) := hM4.of_block (by rw [← hW6, setCell_far _ (by omega), ← hW5, setCell_far _ (by omega)])
 have b04 := thenB b1 b14
 have b06 : Below W0.heap.size W0 W6 := by
  rw [← hW6, ← hW5]
  exact (b04.setCell (p := ⟨W3.heap.size, 0, none⟩) (by show W0.heap.size ≤ W3.heap.size; omega) _).setCell (p := ⟨W2.heap.size, 0, none⟩) (by show W0.heap.size ≤ W2.heap.size; omega) _
 have hLW : LenW W6 s f w.heap.size W1.heap.size W0.heap.size W3.heap.size W2.heap.size len :=
  ⟨⟨W0, hS, b06, Nat.le_refl _⟩, gK6, gS6, gP6, ⟨_, hM6, fun x v h => by cases h⟩⟩
 have x4 : W4.cell? ⟨W3.heap.size, 0, none⟩ = some .nilFunc := cell_at gS 0 rfl
 have f4 : W4.frozen? ⟨W3.heap.size, 0, none⟩ = false := (show FreeB W4 W3.heap.size from ⟨_, _, gS⟩).free 0
 have x5 : W5.cell? ⟨W2.heap.size, 0, none⟩ = some .nilFunc := cell_at gP5 0 rfl
 have f5 : W5.frozen? ⟨W2.heap.size, 0, none⟩ = false := (show FreeB W5 W2.heap.size from ⟨_, _, gP5⟩).free 0
 have st5 := run_store_f W4 W3.heap.size (.func 89) #[] #[.pointer (some ⟨W3.heap.size, 0, none⟩), .pointer (some ⟨W2.heap.size, 0, none⟩)] _ x4 f4
 have st6 := run_store_f W5 W2.heap.size (.func 90) #[] #[.pointer (some ⟨W1.heap.size, 0, none⟩), .pointer (some ⟨W3.heap.size, 0, none⟩), .pointer (some ⟨w.heap.size, 0, none⟩)] _ x5 f5
 rw [hW5] at st5
 rw [hW6] at st6
 have x6 : W6.cell? ⟨W2.heap.size, 0, none⟩ = some (.func (.func 90) #[] #[.pointer (some ⟨W1.heap.size, 0, none⟩), .pointer (some ⟨W3.heap.size, 0, none⟩), .pointer (some ⟨w.heap.size, 0, none⟩)]) := cell_at gP6 0 rfl
 have hv : s.val = .agg s.cells := rfl
 rw [hv]
 have HL := Lib.hid hLW; have HB := Lib.hid (thenB b0 b06); have HLO : Hid (w.heap.size ≤ W0.heap.size) := Lib.hid (by omega)
 unfold Ls.cells at hW0 ⊢
 clear hLW hM6 hM4 hM1 b14 b04 b06 gK6 gK4 gS6 gP6 gS5 gP5 gP4 s0 s1 s2 s3 s4 b0 b1 b2 b3 b4 hS gB gK gP gS hA hU hv
 go_enter Try.func67, Try.ntmps67
 go_wp2_with fail
 go_ret
 exact ⟨_, _, _, _, _, rfl, HL.out, HLO.out, HB.out⟩
end Go.Proofs.Ytpnbpepkoekkoaa
end
