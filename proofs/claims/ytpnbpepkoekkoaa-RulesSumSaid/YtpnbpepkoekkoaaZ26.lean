/- Contracts and plain laws on the way to the statement: part 26. -/
import Derived.Test.YtpnbpepkoekkoaaZ25
set_option linter.unusedVariables false
set_option linter.unusedSimpArgs false
section
namespace Go.Proofs.Ytpnbpepkoekkoaa
open Go Go.RowKit Go.Deep
theorem kv_new {kvs : List (Int × Value)} {k : Int} (h : kvGet kvs k = none) (v : Value) : kvGet (kvPut kvs k v) k = some v := by
 unfold kvPut; rw [h]
 simp only [Option.isSome_none, Bool.false_eq_true, if_false]
 unfold kvGet at h ⊢
 rw [Option.map_eq_none_iff] at h
 rw [List.find?_append, h]; simp
theorem kv_old {kvs : List (Int × Value)} {k j : Int} {x : Value} (h : kvGet kvs k = some x) (hne : j ≠ k) (v : Value) : kvGet (kvPut kvs j v) k = some x := by
 unfold kvPut
 split
 ·unfold kvGet at h ⊢
  rw [List.find?_map]
  have e : ((fun p => decide (p.1 = k)) ∘ fun p => if p.1 = j then (p.1, v) else p) = fun p : Int × Value => decide (p.1 = k) := by
   funext p; simp only [Function.comp]; split <;> rfl
  rw [e]
  cases hf : kvs.find? (fun p => decide (p.1 = k)) with
  | none => rw [hf] at h; cases h
  | some p =>
   rw [hf] at h
   have hp := List.find?_some hf
   have hpk : p.1 = k := by simpa using hp
   simp only [Option.map_some, Option.some.injEq] at h ⊢
   rw [if_neg (by rw [hpk]; exact fun e => hne e.symm)]; exact h
 ·unfold kvGet at h ⊢
  rw [List.find?_append]
  cases hf : kvs.find? (fun p => decide (p.1 = k)) with
  | none => rw [hf] at h; cases h
  | some p => rw [hf] at h; simpa using h
theorem kv_none {kvs : List (Int × Value)} {k j : Int} (h : kvGet kvs k = none) (hne : j ≠ k) (v : Value) : kvGet (kvPut kvs j v) k = none := by
 unfold kvPut
 unfold kvGet at h
 rw [Option.map_eq_none_iff, List.find?_eq_none] at h
 split
 ·unfold kvGet
  rw [Option.map_eq_none_iff, List.find?_eq_none]
  intro p hp
  obtain ⟨q, hq, rfl⟩ := List.mem_map.1 hp
  have := h q hq
  split <;> exact this
 ·unfold kvGet
  rw [Option.map_eq_none_iff, List.find?_eq_none]
  intro p hp
  rcases List.mem_append.1 hp with hp | hp
  ·exact h p hp
  ·rw [List.mem_singleton.1 hp]; simpa using hne
def R4S (B1 : Nat) (ra fa : Option Addr) (rc fc nr np : Nat) (W : World) : Prop := W.cell? ⟨B1, 6, none⟩ = some (.slice ra nr rc) ∧ W.cell? ⟨B1, 10, none⟩ = some (.slice fa np fc)
structure R4G (B1 X E : Nat) (ra fa : Option Addr) (rc fc : Nat) (rs : List Rol) (ps : List Ph) (ds : List Deferred) (Wb : World) (Q : Exit → Act → World → Prop) : Prop where
 s : ∀ {W}, Below Wb.heap.size Wb W → R4S B1 ra fa rc fc rs.length ps.length W
 t41 : ∀ W, Below Wb.heap.size Wb W → Calls Try.prog 41 #[.slice ra rs.length rc, .func (.func 42) #[] #[]] W (TabP (rs.map Rol.name) W)
 t43 : ∀ W, Below Wb.heap.size Wb W → Calls Try.prog 43 #[.slice fa ps.length fc, .func (.func 44) #[] #[]] W (TabP (ps.map Ph.name) W)
 err : ∀ (t : Array Value) (d : List Deferred) W, Below Wb.heap.size Wb W → ((rs.map Rol.name).all nameB = false ∨ (ps.map Ph.name).all nameB = false) → t.getD 2 undef = .pointer (some ⟨X, 0, none⟩) → t.getD 3 undef = .pointer (some ⟨E, 0, none⟩) → d = ds → Q (.panic (errChain 170)) { tmps := t, defers := d } W
 q : ∀ W, Below Wb.heap.size Wb W → ∀ (MT mR mP TB : Nat) (kvs : List (Int × Value)), Wb.heap.size ≤ MT → Wb.heap.size ≤ mR → Wb.heap.size ≤ mP → Wb.heap.size ≤ TB → MapAt kI W MT kvs → kvGet kvs 1 = some (.map (some mR)) → kvGet kvs 2 = some (.map (some mP)) → MapAt sv W mR (tabOf (rs.map Rol.name)) → MapAt sv W mP (tabOf (ps.map Ph.name)) → (rs.map Rol.name).all nameB = true → (ps.map Ph.name).all nameB = true → W.heap[TB]? = some (.cells #[.map (some MT)] 98 (0, 0)) →
  ∀ (e0 e5 e6 e7 e8 e9 e10 e11 e12 e13 e14 e15 e16 e25 e26 e27 e28 e29 e30 e31 e32 e33 e34 e35 e36 e37 e38 e39 e40 e41 e42 e43 e44 e45 e46 e47 e48 e49 e50 e51 e52 e53 e54 e55 e56 e57 e58 e59 e60 e61 e62 e63 e64 e65 e66 e67 e68 e69 e70 e71 e72 e73 e74 e75 e76 e77 e78 e79 e80 e81 e82 e83 e84 e85 e86 e87 e88 e89 e90 e91 e92 e93 e94 e95 e96 e97 e98 : Value), Q .normal { tmps := #[e0, .pointer (some ⟨B1, 0, none⟩), .pointer (some ⟨X, 0, none⟩), .pointer (some ⟨E, 0, none⟩), .pointer (some ⟨TB, 0, none⟩), e5, e6, e7, e8, e9, e10, e11, e12, e13, e14, e15, e16, .map (some MT), .pointer (some ⟨B1, 6, none⟩), .slice ra rs.length rc, .map (some mR), .pointer (some ⟨B1, 10, none⟩), .slice fa ps.length fc, .map (some mP), .map (some MT), e25, e26, e27, e28, e29, e30, e31, e32, e33, e34, e35, e36, e37, e38, e39, e40, e41, e42, e43, e44, e45, e46, e47, e48, e49, e50, e51, e52, e53, e54, e55, e56, e57, e58, e59, e60, e61, e62, e63, e64, e65, e66, e67, e68, e69, e70, e71, e72, e73, e74, e75, e76, e77, e78, e79, e80, e81, e82, e83, e84, e85, e86, e87, e88, e89, e90, e91, e92, e93, e94, e95, e96, e97, e98], defers := ds } W
noncomputable def ops15r4 : Array Oper := match lastPart 4 code15 with
 | .seq (.region _ ops _) _ => ops
 | _ => #[]
set_option maxRecDepth 100000 in
set_option maxHeartbeats 2000000 in
theorem r4_0_3_4_7_8_9_10 {ds : List Deferred} {Q : Exit → Act → World → Prop} (B1 X E : Nat) (ra fa : Option Addr) (rc fc : Nat) (rs : List Rol) (ps : List Ph) (Wb : World) (hG : R4G B1 X E ra fa rc fc rs ps ds Wb Q) (W : World) (hb : Below Wb.heap.size Wb W) (MT : Nat) (kvs : List (Int × Value)) (gMT : Wb.heap.size ≤ MT) (hM : MapAt kI W MT kvs) (hA : KeysApart kvs) (mR : Nat) (gR : Wb.heap.size ≤ mR) (hR : MapAt sv W mR (tabOf (rs.map Rol.name))) (okR : (rs.map Rol.name).all nameB = true) (mP : Nat) (gP : Wb.heap.size ≤ mP) (hP : MapAt sv W mP (tabOf (ps.map Ph.name))) (okP : (ps.map Ph.name).all nameB = true) (nR : MT ≠ mR) (nP : MT ≠ mP) (g1 : kvGet kvs 1 = some (.map (some mR))) (g2 : kvGet kvs 2 = some (.map (some mP))) (TB : Nat) (gTB : Wb.heap.size ≤ TB) (hTB : W.heap[TB]? = some (.cells #[.map none] 98 (0, 0))) (e0 e5 e6 e7 e8 e9 e10 e11 e12 e13 e14 e15 e16 e25 e26 e27 e28 e29 e30 e31 e32 e33 e34 e35 e36 e37 e38 e39 e40 e41 e42 e43 e44 e45 e46 e47 e48 e49 e50 e51 e52 e53 e54 e55 e56 e57 e58 e59 e60 e61 e62 e63 e64 e65 e66 e67 e68 e69 e70 e71 e72 e73 e74 e75 e76 e77 e78 e79 e80 e81 e82 e83 e84 e85 e86 e87 e88 e89 e90 e91 e92 e93 e94 e95 e96 e97 e98 : Value) :
  wpAnyH Try.prog .any ops15r4 Q (R4S B1 ra fa rc fc rs.length ps.length) 1 #[true, true, true, true, true, true, true, true, true, true, true, false] { tmps := #[e0, .pointer (some ⟨B1, 0, none⟩), .pointer (some ⟨X, 0, none⟩), .pointer (some ⟨E, 0, none⟩), .pointer (some ⟨TB, 0, none⟩), e5, e6, e7, e8, e9, e10, e11, e12, e13, e14, e15, e16, .map (some MT), .pointer (some ⟨B1, 6, none⟩), .slice ra rs.length rc, .map (some mR), .pointer (some ⟨B1, 10, none⟩), .slice fa ps.length fc, .map (some mP), .map (some MT), e25, e26, e27, e28, e29, e30, e31, e32, e33, e34, e35, e36, e37, e38, e39, e40, e41, e42, e43, e44, e45, e46, e47, e48, e49, e50, e51, e52, e53, e54, e55, e56, e57, e58, e59, e60, e61, e62, e63, e64, e65, e66, e67, e68, e69, e70, e71, e72, e73, e74, e75, e76, e77, e78, e79, e80, e81, e82, e83, e84, e85, e86, e87, e88, e89, e90, e91, e92, e93, e94, e95, e96, e97, e98], defers := ds } W := by
 dsimp only
 unfold ops15r4 code15
 conv => arg 3; whnf
 have hS : R4S B1 ra fa rc fc rs.length ps.length W := hG.s hb
 obtain ⟨W2, x2, g2x, o2, b2, s2⟩ := set_box hTB (.map (some MT))
 have cTB : W.cell? ⟨TB, 0, none⟩ = some (.map none) := cell_at hTB 0 rfl
 have fTB : W.frozen? ⟨TB, 0, none⟩ = false := by simp [World.frozen?, hTB]
 have hm2 : ∀ {κ : Type} [DecidableEq κ] {f : κ → Value} {b : Nat} {l : List (κ × Value)}, MapAt f W b l → MapAt f W2 b l := fun {κ _ f b l} h => h.of_block (o2 b (fun e => by obtain ⟨es, cl, h3, _⟩ := h; rw [e, hTB] at h3; cases h3))
 have hq := hG.q W2 (b2 _ _ hb gTB) MT mR mP TB kvs gMT gR gP gTB (hm2 hM) g1 g2 (hm2 hR) (hm2 hP) okR okP g2x
 have HQ := Lib.hid hq
 have HS2 := Lib.hid (hG.s (b2 _ _ hb gTB))
 clear hq hm2 hM hA hR hP okR okP nR nP g1 g2 gMT gR gP g2x o2 b2 s2 hTB hG
 refine wpAnyH_ready (rs := [11]) (by kernel_rfl) (by simp) ?_
 refine AllReadyH.cons (o := _) rfl (fun K hK => ?_) AllReadyH.nil
 go_simp
 refine hK.out _ _ HS2.out (fun _ => ?_)
 clear hK K
 try (simp only [Act.put, List.getElem_toArray, List.getElem_cons_zero, List.getElem_cons_succ, List.setIfInBounds_toArray, List.set_cons_zero, List.set_cons_succ])
 refine wpAnyH_done (by kernel_rfl) ?_ _
 exact HQ.out _ _ _ _ _ _ _ _ _ _ _ _ _ _ _ _ _ _ _ _ _ _ _ _ _ _ _ _ _ _ _ _ _ _ _ _ _ _ _ _ _ _ _ _ _ _ _ _ _ _ _ _ _ _ _ _ _ _ _ _ _ _ _ _ _ _ _ _ _ _ _ _ _ _ _ _ _ _ _ _ _ _ _ _ _ _ _
set_option maxRecDepth 100000 in
set_option maxHeartbeats 2000000 in
theorem r4_0_3_4_7_8_9 {ds : List Deferred} {Q : Exit → Act → World → Prop} (B1 X E : Nat) (ra fa : Option Addr) (rc fc : Nat) (rs : List Rol) (ps : List Ph) (Wb : World) (hG : R4G B1 X E ra fa rc fc rs ps ds Wb Q) (W : World) (hb : Below Wb.heap.size Wb W) (MT : Nat) (kvs : List (Int × Value)) (gMT : Wb.heap.size ≤ MT) (hM : MapAt kI W MT kvs) (hA : KeysApart kvs) (mR : Nat) (gR : Wb.heap.size ≤ mR) (hR : MapAt sv W mR (tabOf (rs.map Rol.name))) (okR : (rs.map Rol.name).all nameB = true) (mP : Nat) (gP : Wb.heap.size ≤ mP) (hP : MapAt sv W mP (tabOf (ps.map Ph.name))) (okP : (ps.map Ph.name).all nameB = true) (nR : MT ≠ mR) (nP : MT ≠ mP) (g1 : kvGet kvs 1 = some (.map (some mR))) (g2 : kvGet kvs 2 = some (.map (some mP))) (e0 e4 e5 e6 e7 e8 e9 e10 e11 e12 e13 e14 e15 e16 e25 e26 e27 e28 e29 e30 e31 e32 e33 e34 e35 e36 e37 e38 e39 e40 e41 e42 e43 e44 e45 e46 e47 e48 e49 e50 e51 e52 e53 e54 e55 e56 e57 e58 e59 e60 e61 e62 e63 e64 e65 e66 e67 e68 e69 e70 e71 e72 e73 e74 e75 e76 e77 e78 e79 e80 e81 e82 e83 e84 e85 e86 e87 e88 e89 e90 e91 e92 e93 e94 e95 e96 e97 e98 : Value) :
  wpAnyH Try.prog .any ops15r4 Q (R4S B1 ra fa rc fc rs.length ps.length) 2 #[true, true, true, true, true, true, true, true, true, true, false, false] { tmps := #[e0, .pointer (some ⟨B1, 0, none⟩), .pointer (some ⟨X, 0, none⟩), .pointer (some ⟨E, 0, none⟩), e4, e5, e6, e7, e8, e9, e10, e11, e12, e13, e14, e15, e16, .map (some MT), .pointer (some ⟨B1, 6, none⟩), .slice ra rs.length rc, .map (some mR), .pointer (some ⟨B1, 10, none⟩), .slice fa ps.length fc, .map (some mP), .map (some MT), e25, e26, e27, e28, e29, e30, e31, e32, e33, e34, e35, e36, e37, e38, e39, e40, e41, e42, e43, e44, e45, e46, e47, e48, e49, e50, e51, e52, e53, e54, e55, e56, e57, e58, e59, e60, e61, e62, e63, e64, e65, e66, e67, e68, e69, e70, e71, e72, e73, e74, e75, e76, e77, e78, e79, e80, e81, e82, e83, e84, e85, e86, e87, e88, e89, e90, e91, e92, e93, e94, e95, e96, e97, e98], defers := ds } W := by
 dsimp only
 unfold ops15r4 code15
 conv => arg 3; whnf
 have hS : R4S B1 ra fa rc fc rs.length ps.length W := hG.s hb
 refine wpAnyH_ready (rs := [10]) (by kernel_rfl) (by simp) ?_
 refine AllReadyH.cons (o := _) rfl (fun K1 hK => ?_) AllReadyH.nil
 ·have bW := (Below.refl W.heap.size W).alloc (Nat.le_refl _) (.cells #[.map none] 98)
  have hb2 := hb.trans (bW.mono hb.size)
  have hM2 := hM.below bW hM.lt
  have hR2 := hR.below bW hR.lt
  have hP2 := hP.below bW hP.lt
  have HN := Lib.hid (fun x0 x5 x6 x7 x8 x9 x10 x11 x12 x13 x14 x15 x16 x25 x26 x27 x28 x29 x30 x31 x32 x33 x34 x35 x36 x37 x38 x39 x40 x41 x42 x43 x44 x45 x46 x47 x48 x49 x50 x51 x52 x53 x54 x55 x56 x57 x58 x59 x60 x61 x62 x63 x64 x65 x66 x67 x68 x69 x70 x71 x72 x73 x74 x75 x76 x77 x78 x79 x80 x81 x82 x83 x84 x85 x86 x87 x88 x89 x90 x91 x92 x93 x94 x95 x96 x97 x98 => r4_0_3_4_7_8_9_10 B1 X E ra fa rc fc rs ps Wb hG _ hb2 MT kvs gMT hM2 hA mR gR hR2 okR mP gP hP2 okP nR nP g1 g2 W.heap.size hb.size (heap_alloc_new W _) x0 x5 x6 x7 x8 x9 x10 x11 x12 x13 x14 x15 x16 x25 x26 x27 x28 x29 x30 x31 x32 x33 x34 x35 x36 x37 x38 x39 x40 x41 x42 x43 x44 x45 x46 x47 x48 x49 x50 x51 x52 x53 x54 x55 x56 x57 x58 x59 x60 x61 x62 x63 x64 x65 x66 x67 x68 x69 x70 x71 x72 x73 x74 x75 x76 x77 x78 x79 x80 x81 x82 x83 x84 x85 x86 x87 x88 x89 x90 x91 x92 x93 x94 x95 x96 x97 x98)
  have HS2 := Lib.hid (hG.s hb2)
  clear hS hb2 bW
  go_simp
  refine hK.out _ _ HS2.out (fun _ => ?_)
  try (simp only [Act.put, List.getElem_toArray, List.getElem_cons_zero, List.getElem_cons_succ, List.setIfInBounds_toArray, List.set_cons_zero, List.set_cons_succ])
  exact HN.out _ _ _ _ _ _ _ _ _ _ _ _ _ _ _ _ _ _ _ _ _ _ _ _ _ _ _ _ _ _ _ _ _ _ _ _ _ _ _ _ _ _ _ _ _ _ _ _ _ _ _ _ _ _ _ _ _ _ _ _ _ _ _ _ _ _ _ _ _ _ _ _ _ _ _ _ _ _ _ _ _ _ _ _ _ _ _
set_option maxRecDepth 100000 in
set_option maxHeartbeats 2000000 in
theorem r4_0_3_4_7_8_10 {ds : List Deferred} {Q : Exit → Act → World → Prop} (B1 X E : Nat) (ra fa : Option Addr) (rc fc : Nat) (rs : List Rol) (ps : List Ph) (Wb : World) (hG : R4G B1 X E ra fa rc fc rs ps ds Wb Q) (W : World) (hb : Below Wb.heap.size Wb W) (MT : Nat) (kvs : List (Int × Value)) (gMT : Wb.heap.size ≤ MT) (hM : MapAt kI W MT kvs) (hA : KeysApart kvs) (mR : Nat) (gR : Wb.heap.size ≤ mR) (hR : MapAt sv W mR (tabOf (rs.map Rol.name))) (okR : (rs.map Rol.name).all nameB = true) (mP : Nat) (gP : Wb.heap.size ≤ mP) (hP : MapAt sv W mP (tabOf (ps.map Ph.name))) (okP : (ps.map Ph.name).all nameB = true) (nR : MT ≠ mR) (nP : MT ≠ mP) (g1 : kvGet kvs 1 = some (.map (some mR))) (g2 : kvGet kvs 2 = some (.map (some mP))) (TB : Nat) (gTB : Wb.heap.size ≤ TB) (hTB : W.heap[TB]? = some (.cells #[.map none] 98 (0, 0))) (e0 e5 e6 e7 e8 e9 e10 e11 e12 e13 e14 e15 e16 e24 e25 e26 e27 e28 e29 e30 e31 e32 e33 e34 e35 e36 e37 e38 e39 e40 e41 e42 e43 e44 e45 e46 e47 e48 e49 e50 e51 e52 e53 e54 e55 e56 e57 e58 e59 e60 e61 e62 e63 e64 e65 e66 e67 e68 e69 e70 e71 e72 e73 e74 e75 e76 e77 e78 e79 e80 e81 e82 e83 e84 e85 e86 e87 e88 e89 e90 e91 e92 e93 e94 e95 e96 e97 e98 : Value) :
  wpAnyH Try.prog .any ops15r4 Q (R4S B1 ra fa rc fc rs.length ps.length) 2 #[true, true, true, true, true, true, true, true, true, false, true, false] { tmps := #[e0, .pointer (some ⟨B1, 0, none⟩), .pointer (some ⟨X, 0, none⟩), .pointer (some ⟨E, 0, none⟩), .pointer (some ⟨TB, 0, none⟩), e5, e6, e7, e8, e9, e10, e11, e12, e13, e14, e15, e16, .map (some MT), .pointer (some ⟨B1, 6, none⟩), .slice ra rs.length rc, .map (some mR), .pointer (some ⟨B1, 10, none⟩), .slice fa ps.length fc, .map (some mP), e24, e25, e26, e27, e28, e29, e30, e31, e32, e33, e34, e35, e36, e37, e38, e39, e40, e41, e42, e43, e44, e45, e46, e47, e48, e49, e50, e51, e52, e53, e54, e55, e56, e57, e58, e59, e60, e61, e62, e63, e64, e65, e66, e67, e68, e69, e70, e71, e72, e73, e74, e75, e76, e77, e78, e79, e80, e81, e82, e83, e84, e85, e86, e87, e88, e89, e90, e91, e92, e93, e94, e95, e96, e97, e98], defers := ds } W := by
 dsimp only
 unfold ops15r4 code15
 conv => arg 3; whnf
 have hS : R4S B1 ra fa rc fc rs.length ps.length W := hG.s hb
 refine wpAnyH_ready (rs := [9]) (by kernel_rfl) (by simp) ?_
 refine AllReadyH.cons (o := _) rfl (fun K1 hK => ?_) AllReadyH.nil
 ·have HN := Lib.hid (fun x0 x5 x6 x7 x8 x9 x10 x11 x12 x13 x14 x15 x16 x25 x26 x27 x28 x29 x30 x31 x32 x33 x34 x35 x36 x37 x38 x39 x40 x41 x42 x43 x44 x45 x46 x47 x48 x49 x50 x51 x52 x53 x54 x55 x56 x57 x58 x59 x60 x61 x62 x63 x64 x65 x66 x67 x68 x69 x70 x71 x72 x73 x74 x75 x76 x77 x78 x79 x80 x81 x82 x83 x84 x85 x86 x87 x88 x89 x90 x91 x92 x93 x94 x95 x96 x97 x98 => r4_0_3_4_7_8_9_10 B1 X E ra fa rc fc rs ps Wb hG W hb MT kvs gMT hM hA mR gR hR okR mP gP hP okP nR nP g1 g2 TB gTB hTB x0 x5 x6 x7 x8 x9 x10 x11 x12 x13 x14 x15 x16 x25 x26 x27 x28 x29 x30 x31 x32 x33 x34 x35 x36 x37 x38 x39 x40 x41 x42 x43 x44 x45 x46 x47 x48 x49 x50 x51 x52 x53 x54 x55 x56 x57 x58 x59 x60 x61 x62 x63 x64 x65 x66 x67 x68 x69 x70 x71 x72 x73 x74 x75 x76 x77 x78 x79 x80 x81 x82 x83 x84 x85 x86 x87 x88 x89 x90 x91 x92 x93 x94 x95 x96 x97 x98)
  have HS2 := Lib.hid hS
  clear hS
  go_simp
  refine hK.out _ _ HS2.out (fun _ => ?_)
  try (simp only [Act.put, List.getElem_toArray, List.getElem_cons_zero, List.getElem_cons_succ, List.setIfInBounds_toArray, List.set_cons_zero, List.set_cons_succ])
  exact HN.out _ _ _ _ _ _ _ _ _ _ _ _ _ _ _ _ _ _ _ _ _ _ _ _ _ _ _ _ _ _ _ _ _ _ _ _ _ _ _ _ _ _ _ _ _ _ _ _ _ _ _ _ _ _ _ _ _ _ _ _ _ _ _ _ _ _ _ _ _ _ _ _ _ _ _ _ _ _ _ _ _ _ _ _ _ _ _
set_option maxRecDepth 100000 in
set_option maxHeartbeats 2000000 in
theorem r4_0_3_4_7_8 {ds : List Deferred} {Q : Exit → Act → World → Prop} (B1 X E : Nat) (ra fa : Option Addr) (rc fc : Nat) (rs : List Rol) (ps : List Ph) (Wb : World) (hG : R4G B1 X E ra fa rc fc rs ps ds Wb Q) (W : World) (hb : Below Wb.heap.size Wb W) (MT : Nat) (kvs : List (Int × Value)) (gMT : Wb.heap.size ≤ MT) (hM : MapAt kI W MT kvs) (hA : KeysApart kvs) (mR : Nat) (gR : Wb.heap.size ≤ mR) (hR : MapAt sv W mR (tabOf (rs.map Rol.name))) (okR : (rs.map Rol.name).all nameB = true) (mP : Nat) (gP : Wb.heap.size ≤ mP) (hP : MapAt sv W mP (tabOf (ps.map Ph.name))) (okP : (ps.map Ph.name).all nameB = true) (nR : MT ≠ mR) (nP : MT ≠ mP) (g1 : kvGet kvs 1 = some (.map (some mR))) (g2 : kvGet kvs 2 = some (.map (some mP))) (e0 e4 e5 e6 e7 e8 e9 e10 e11 e12 e13 e14 e15 e16 e24 e25 e26 e27 e28 e29 e30 e31 e32 e33 e34 e35 e36 e37 e38 e39 e40 e41 e42 e43 e44 e45 e46 e47 e48 e49 e50 e51 e52 e53 e54 e55 e56 e57 e58 e59 e60 e61 e62 e63 e64 e65 e66 e67 e68 e69 e70 e71 e72 e73 e74 e75 e76 e77 e78 e79 e80 e81 e82 e83 e84 e85 e86 e87 e88 e89 e90 e91 e92 e93 e94 e95 e96 e97 e98 : Value) :
  wpAnyH Try.prog .any ops15r4 Q (R4S B1 ra fa rc fc rs.length ps.length) 3 #[true, true, true, true, true, true, true, true, true, false, false, false] { tmps := #[e0, .pointer (some ⟨B1, 0, none⟩), .pointer (some ⟨X, 0, none⟩), .pointer (some ⟨E, 0, none⟩), e4, e5, e6, e7, e8, e9, e10, e11, e12, e13, e14, e15, e16, .map (some MT), .pointer (some ⟨B1, 6, none⟩), .slice ra rs.length rc, .map (some mR), .pointer (some ⟨B1, 10, none⟩), .slice fa ps.length fc, .map (some mP), e24, e25, e26, e27, e28, e29, e30, e31, e32, e33, e34, e35, e36, e37, e38, e39, e40, e41, e42, e43, e44, e45, e46, e47, e48, e49, e50, e51, e52, e53, e54, e55, e56, e57, e58, e59, e60, e61, e62, e63, e64, e65, e66, e67, e68, e69, e70, e71, e72, e73, e74, e75, e76, e77, e78, e79, e80, e81, e82, e83, e84, e85, e86, e87, e88, e89, e90, e91, e92, e93, e94, e95, e96, e97, e98], defers := ds } W := by
 dsimp only
 unfold ops15r4 code15
 conv => arg 3; whnf
 have hS : R4S B1 ra fa rc fc rs.length ps.length W := hG.s hb
 refine wpAnyH_ready (rs := [9, 10]) (by kernel_rfl) (by simp) ?_
 refine AllReadyH.cons (o := _) rfl (fun K1 hK => ?_) (AllReadyH.cons (o := _) rfl (fun K2 hK => ?_) AllReadyH.nil)
 ·have HN := Lib.hid (fun x0 x4 x5 x6 x7 x8 x9 x10 x11 x12 x13 x14 x15 x16 x25 x26 x27 x28 x29 x30 x31 x32 x33 x34 x35 x36 x37 x38 x39 x40 x41 x42 x43 x44 x45 x46 x47 x48 x49 x50 x51 x52 x53 x54 x55 x56 x57 x58 x59 x60 x61 x62 x63 x64 x65 x66 x67 x68 x69 x70 x71 x72 x73 x74 x75 x76 x77 x78 x79 x80 x81 x82 x83 x84 x85 x86 x87 x88 x89 x90 x91 x92 x93 x94 x95 x96 x97 x98 => r4_0_3_4_7_8_9 B1 X E ra fa rc fc rs ps Wb hG W hb MT kvs gMT hM hA mR gR hR okR mP gP hP okP nR nP g1 g2 x0 x4 x5 x6 x7 x8 x9 x10 x11 x12 x13 x14 x15 x16 x25 x26 x27 x28 x29 x30 x31 x32 x33 x34 x35 x36 x37 x38 x39 x40 x41 x42 x43 x44 x45 x46 x47 x48 x49 x50 x51 x52 x53 x54 x55 x56 x57 x58 x59 x60 x61 x62 x63 x64 x65 x66 x67 x68 x69 x70 x71 x72 x73 x74 x75 x76 x77 x78 x79 x80 x81 x82 x83 x84 x85 x86 x87 x88 x89 x90 x91 x92 x93 x94 x95 x96 x97 x98)
  have HS2 := Lib.hid hS
  clear hS
  go_simp
  refine hK.out _ _ HS2.out (fun _ => ?_)
  try (simp only [Act.put, List.getElem_toArray, List.getElem_cons_zero, List.getElem_cons_succ, List.setIfInBounds_toArray, List.set_cons_zero, List.set_cons_succ])
  exact HN.out _ _ _ _ _ _ _ _ _ _ _ _ _ _ _ _ _ _ _ _ _ _ _ _ _ _ _ _ _ _ _ _ _ _ _ _ _ _ _ _ _ _ _ _ _ _ _ _ _ _ _ _ _ _ _ _ _ _ _ _ _ _ _ _ _ _ _ _ _ _ _ _ _ _ _ _ _ _ _ _ _ _ _ _ _ _ _ _
 ·have bW := (Below.refl W.heap.size W).alloc (Nat.le_refl _) (.cells #[.map none] 98)
  have hb2 := hb.trans (bW.mono hb.size)
  have hM2 := hM.below bW hM.lt
  have hR2 := hR.below bW hR.lt
  have hP2 := hP.below bW hP.lt
  have HN := Lib.hid (fun x0 x5 x6 x7 x8 x9 x10 x11 x12 x13 x14 x15 x16 x24 x25 x26 x27 x28 x29 x30 x31 x32 x33 x34 x35 x36 x37 x38 x39 x40 x41 x42 x43 x44 x45 x46 x47 x48 x49 x50 x51 x52 x53 x54 x55 x56 x57 x58 x59 x60 x61 x62 x63 x64 x65 x66 x67 x68 x69 x70 x71 x72 x73 x74 x75 x76 x77 x78 x79 x80 x81 x82 x83 x84 x85 x86 x87 x88 x89 x90 x91 x92 x93 x94 x95 x96 x97 x98 => r4_0_3_4_7_8_10 B1 X E ra fa rc fc rs ps Wb hG _ hb2 MT kvs gMT hM2 hA mR gR hR2 okR mP gP hP2 okP nR nP g1 g2 W.heap.size hb.size (heap_alloc_new W _) x0 x5 x6 x7 x8 x9 x10 x11 x12 x13 x14 x15 x16 x24 x25 x26 x27 x28 x29 x30 x31 x32 x33 x34 x35 x36 x37 x38 x39 x40 x41 x42 x43 x44 x45 x46 x47 x48 x49 x50 x51 x52 x53 x54 x55 x56 x57 x58 x59 x60 x61 x62 x63 x64 x65 x66 x67 x68 x69 x70 x71 x72 x73 x74 x75 x76 x77 x78 x79 x80 x81 x82 x83 x84 x85 x86 x87 x88 x89 x90 x91 x92 x93 x94 x95 x96 x97 x98)
  have HS2 := Lib.hid (hG.s hb2)
  clear hS hb2 bW
  go_simp
  refine hK.out _ _ HS2.out (fun _ => ?_)
  try (simp only [Act.put, List.getElem_toArray, List.getElem_cons_zero, List.getElem_cons_succ, List.setIfInBounds_toArray, List.set_cons_zero, List.set_cons_succ])
  exact HN.out _ _ _ _ _ _ _ _ _ _ _ _ _ _ _ _ _ _ _ _ _ _ _ _ _ _ _ _ _ _ _ _ _ _ _ _ _ _ _ _ _ _ _ _ _ _ _ _ _ _ _ _ _ _ _ _ _ _ _ _ _ _ _ _ _ _ _ _ _ _ _ _ _ _ _ _ _ _ _ _ _ _ _ _ _ _ _ _
set_option maxRecDepth 100000 in
set_option maxHeartbeats 2000000 in
theorem r4_0_3_4_7_10 {ds : List Deferred} {Q : Exit → Act → World → Prop} (B1 X E : Nat) (ra fa : Option Addr) (rc fc : Nat) (rs : List Rol) (ps : List Ph) (Wb : World) (hG : R4G B1 X E ra fa rc fc rs ps ds Wb Q) (W : World) (hb : Below Wb.heap.size Wb W) (MT : Nat) (kvs : List (Int × Value)) (gMT : Wb.heap.size ≤ MT) (hM : MapAt kI W MT kvs) (hA : KeysApart kvs) (mR : Nat) (gR : Wb.heap.size ≤ mR) (hR : MapAt sv W mR (tabOf (rs.map Rol.name))) (okR : (rs.map Rol.name).all nameB = true) (mP : Nat) (gP : Wb.heap.size ≤ mP) (hP : MapAt sv W mP (tabOf (ps.map Ph.name))) (okP : (ps.map Ph.name).all nameB = true) (nR : MT ≠ mR) (nP : MT ≠ mP) (g1 : kvGet kvs 1 = some (.map (some mR))) (z2 : kvGet kvs 2 = none) (TB : Nat) (gTB : Wb.heap.size ≤ TB) (hTB : W.heap[TB]? = some (.cells #[.map none] 98 (0, 0))) (e0 e5 e6 e7 e8 e9 e10 e11 e12 e13 e14 e15 e16 e24 e25 e26 e27 e28 e29 e30 e31 e32 e33 e34 e35 e36 e37 e38 e39 e40 e41 e42 e43 e44 e45 e46 e47 e48 e49 e50 e51 e52 e53 e54 e55 e56 e57 e58 e59 e60 e61 e62 e63 e64 e65 e66 e67 e68 e69 e70 e71 e72 e73 e74 e75 e76 e77 e78 e79 e80 e81 e82 e83 e84 e85 e86 e87 e88 e89 e90 e91 e92 e93 e94 e95 e96 e97 e98 : Value) :
  wpAnyH Try.prog .any ops15r4 Q (R4S B1 ra fa rc fc rs.length ps.length) 3 #[true, true, true, true, true, true, true, true, false, false, true, false] { tmps := #[e0, .pointer (some ⟨B1, 0, none⟩), .pointer (some ⟨X, 0, none⟩), .pointer (some ⟨E, 0, none⟩), .pointer (some ⟨TB, 0, none⟩), e5, e6, e7, e8, e9, e10, e11, e12, e13, e14, e15, e16, .map (some MT), .pointer (some ⟨B1, 6, none⟩), .slice ra rs.length rc, .map (some mR), .pointer (some ⟨B1, 10, none⟩), .slice fa ps.length fc, .map (some mP), e24, e25, e26, e27, e28, e29, e30, e31, e32, e33, e34, e35, e36, e37, e38, e39, e40, e41, e42, e43, e44, e45, e46, e47, e48, e49, e50, e51, e52, e53, e54, e55, e56, e57, e58, e59, e60, e61, e62, e63, e64, e65, e66, e67, e68, e69, e70, e71, e72, e73, e74, e75, e76, e77, e78, e79, e80, e81, e82, e83, e84, e85, e86, e87, e88, e89, e90, e91, e92, e93, e94, e95, e96, e97, e98], defers := ds } W := by
 dsimp only
 unfold ops15r4 code15
 conv => arg 3; whnf
 have hS : R4S B1 ra fa rc fc rs.length ps.length W := hG.s hb
 refine wpAnyH_ready (rs := [8]) (by kernel_rfl) (by simp) ?_
 refine AllReadyH.cons (o := _) rfl (fun K1 hK => ?_) AllReadyH.nil
 ·obtain ⟨ob, hrun, hMn⟩ := run_update_kv (P := Try.prog) (T := 98) kI_key Try.underlying98 Try.underlying93 hM hA 2 (.map (some mP))
  unfold kI at hrun
  have bW := setBlock_below W MT ob (Nat.le_refl MT)
  have hb2 := hb.trans (setBlock_below W MT ob gMT)
  have oW : ∀ b, b ≠ MT → ({ W with heap := W.heap.setIfInBounds MT ob } : World).heap[b]? = W.heap[b]? := fun b h => by show (W.heap.setIfInBounds MT ob)[b]? = _; exact Array.getElem?_setIfInBounds_ne (fun e => h e.symm)
  have hR2 := hR.of_block (oW mR (fun e => nR e.symm))
  have hP2 := hP.of_block (oW mP (fun e => nP e.symm))
  have hTB2 := (oW TB (fun e => by obtain ⟨es, cl, h3, _⟩ := hM; rw [← e, hTB] at h3; cases h3)).trans hTB
  have HN := Lib.hid (fun x0 x5 x6 x7 x8 x9 x10 x11 x12 x13 x14 x15 x16 x24 x25 x26 x27 x28 x29 x30 x31 x32 x33 x34 x35 x36 x37 x38 x39 x40 x41 x42 x43 x44 x45 x46 x47 x48 x49 x50 x51 x52 x53 x54 x55 x56 x57 x58 x59 x60 x61 x62 x63 x64 x65 x66 x67 x68 x69 x70 x71 x72 x73 x74 x75 x76 x77 x78 x79 x80 x81 x82 x83 x84 x85 x86 x87 x88 x89 x90 x91 x92 x93 x94 x95 x96 x97 x98 => r4_0_3_4_7_8_10 B1 X E ra fa rc fc rs ps Wb hG _ hb2 MT (kvPut kvs 2 (.map (some mP))) gMT hMn (keysApart_put hA _ _) mR gR hR2 okR mP gP hP2 okP nR nP (kv_old g1 (by decide) _) (kv_new z2 _) TB gTB hTB2 x0 x5 x6 x7 x8 x9 x10 x11 x12 x13 x14 x15 x16 x24 x25 x26 x27 x28 x29 x30 x31 x32 x33 x34 x35 x36 x37 x38 x39 x40 x41 x42 x43 x44 x45 x46 x47 x48 x49 x50 x51 x52 x53 x54 x55 x56 x57 x58 x59 x60 x61 x62 x63 x64 x65 x66 x67 x68 x69 x70 x71 x72 x73 x74 x75 x76 x77 x78 x79 x80 x81 x82 x83 x84 x85 x86 x87 x88 x89 x90 x91 x92 x93 x94 x95 x96 x97 x98)
  have HS2 := Lib.hid (hG.s hb2)
  clear hS hb2 bW oW hMn
  go_simp
  refine hK.out _ _ HS2.out (fun _ => ?_)
  try (simp only [Act.put, List.getElem_toArray, List.getElem_cons_zero, List.getElem_cons_succ, List.setIfInBounds_toArray, List.set_cons_zero, List.set_cons_succ])
  exact HN.out _ _ _ _ _ _ _ _ _ _ _ _ _ _ _ _ _ _ _ _ _ _ _ _ _ _ _ _ _ _ _ _ _ _ _ _ _ _ _ _ _ _ _ _ _ _ _ _ _ _ _ _ _ _ _ _ _ _ _ _ _ _ _ _ _ _ _ _ _ _ _ _ _ _ _ _ _ _ _ _ _ _ _ _ _ _ _ _
set_option maxRecDepth 100000 in
set_option maxHeartbeats 2000000 in
theorem r4_0_3_7_8_10 {ds : List Deferred} {Q : Exit → Act → World → Prop} (B1 X E : Nat) (ra fa : Option Addr) (rc fc : Nat) (rs : List Rol) (ps : List Ph) (Wb : World) (hG : R4G B1 X E ra fa rc fc rs ps ds Wb Q) (W : World) (hb : Below Wb.heap.size Wb W) (MT : Nat) (kvs : List (Int × Value)) (gMT : Wb.heap.size ≤ MT) (hM : MapAt kI W MT kvs) (hA : KeysApart kvs) (mR : Nat) (gR : Wb.heap.size ≤ mR) (hR : MapAt sv W mR (tabOf (rs.map Rol.name))) (okR : (rs.map Rol.name).all nameB = true) (mP : Nat) (gP : Wb.heap.size ≤ mP) (hP : MapAt sv W mP (tabOf (ps.map Ph.name))) (okP : (ps.map Ph.name).all nameB = true) (nR : MT ≠ mR) (nP : MT ≠ mP) (z1 : kvGet kvs 1 = none) (g2 : kvGet kvs 2 = some (.map (some mP))) (TB : Nat) (gTB : Wb.heap.size ≤ TB) (hTB : W.heap[TB]? = some (.cells #[.map none] 98 (0, 0))) (e0 e5 e6 e7 e8 e9 e10 e11 e12 e13 e14 e15 e16 e24 e25 e26 e27 e28 e29 e30 e31 e32 e33 e34 e35 e36 e37 e38 e39 e40 e41 e42 e43 e44 e45 e46 e47 e48 e49 e50 e51 e52 e53 e54 e55 e56 e57 e58 e59 e60 e61 e62 e63 e64 e65 e66 e67 e68 e69 e70 e71 e72 e73 e74 e75 e76 e77 e78 e79 e80 e81 e82 e83 e84 e85 e86 e87 e88 e89 e90 e91 e92 e93 e94 e95 e96 e97 e98 : Value) :
  wpAnyH Try.prog .any ops15r4 Q (R4S B1 ra fa rc fc rs.length ps.length) 3 #[true, true, true, true, false, true, true, true, true, false, true, false] { tmps := #[e0, .pointer (some ⟨B1, 0, none⟩), .pointer (some ⟨X, 0, none⟩), .pointer (some ⟨E, 0, none⟩), .pointer (some ⟨TB, 0, none⟩), e5, e6, e7, e8, e9, e10, e11, e12, e13, e14, e15, e16, .map (some MT), .pointer (some ⟨B1, 6, none⟩), .slice ra rs.length rc, .map (some mR), .pointer (some ⟨B1, 10, none⟩), .slice fa ps.length fc, .map (some mP), e24, e25, e26, e27, e28, e29, e30, e31, e32, e33, e34, e35, e36, e37, e38, e39, e40, e41, e42, e43, e44, e45, e46, e47, e48, e49, e50, e51, e52, e53, e54, e55, e56, e57, e58, e59, e60, e61, e62, e63, e64, e65, e66, e67, e68, e69, e70, e71, e72, e73, e74, e75, e76, e77, e78, e79, e80, e81, e82, e83, e84, e85, e86, e87, e88, e89, e90, e91, e92, e93, e94, e95, e96, e97, e98], defers := ds } W := by
 dsimp only
 unfold ops15r4 code15
 conv => arg 3; whnf
 have hS : R4S B1 ra fa rc fc rs.length ps.length W := hG.s hb
 refine wpAnyH_ready (rs := [4]) (by kernel_rfl) (by simp) ?_
 refine AllReadyH.cons (o := _) rfl (fun K1 hK => ?_) AllReadyH.nil
 ·obtain ⟨ob, hrun, hMn⟩ := run_update_kv (P := Try.prog) (T := 98) kI_key Try.underlying98 Try.underlying93 hM hA 1 (.map (some mR))
  unfold kI at hrun
  have bW := setBlock_below W MT ob (Nat.le_refl MT)
  have hb2 := hb.trans (setBlock_below W MT ob gMT)
  have oW : ∀ b, b ≠ MT → ({ W with heap := W.heap.setIfInBounds MT ob } : World).heap[b]? = W.heap[b]? := fun b h => by show (W.heap.setIfInBounds MT ob)[b]? = _; exact Array.getElem?_setIfInBounds_ne (fun e => h e.symm)
  have hR2 := hR.of_block (oW mR (fun e => nR e.symm))
  have hP2 := hP.of_block (oW mP (fun e => nP e.symm))
  have hTB2 := (oW TB (fun e => by obtain ⟨es, cl, h3, _⟩ := hM; rw [← e, hTB] at h3; cases h3)).trans hTB
  have HN := Lib.hid (fun x0 x5 x6 x7 x8 x9 x10 x11 x12 x13 x14 x15 x16 x24 x25 x26 x27 x28 x29 x30 x31 x32 x33 x34 x35 x36 x37 x38 x39 x40 x41 x42 x43 x44 x45 x46 x47 x48 x49 x50 x51 x52 x53 x54 x55 x56 x57 x58 x59 x60 x61 x62 x63 x64 x65 x66 x67 x68 x69 x70 x71 x72 x73 x74 x75 x76 x77 x78 x79 x80 x81 x82 x83 x84 x85 x86 x87 x88 x89 x90 x91 x92 x93 x94 x95 x96 x97 x98 => r4_0_3_4_7_8_10 B1 X E ra fa rc fc rs ps Wb hG _ hb2 MT (kvPut kvs 1 (.map (some mR))) gMT hMn (keysApart_put hA _ _) mR gR hR2 okR mP gP hP2 okP nR nP (kv_new z1 _) (kv_old g2 (by decide) _) TB gTB hTB2 x0 x5 x6 x7 x8 x9 x10 x11 x12 x13 x14 x15 x16 x24 x25 x26 x27 x28 x29 x30 x31 x32 x33 x34 x35 x36 x37 x38 x39 x40 x41 x42 x43 x44 x45 x46 x47 x48 x49 x50 x51 x52 x53 x54 x55 x56 x57 x58 x59 x60 x61 x62 x63 x64 x65 x66 x67 x68 x69 x70 x71 x72 x73 x74 x75 x76 x77 x78 x79 x80 x81 x82 x83 x84 x85 x86 x87 x88 x89 x90 x91 x92 x93 x94 x95 x96 x97 x98)
  have HS2 := Lib.hid (hG.s hb2)
  clear hS hb2 bW oW hMn
  go_simp
  refine hK.out _ _ HS2.out (fun _ => ?_)
  try (simp only [Act.put, List.getElem_toArray, List.getElem_cons_zero, List.getElem_cons_succ, List.setIfInBounds_toArray, List.set_cons_zero, List.set_cons_succ])
  exact HN.out _ _ _ _ _ _ _ _ _ _ _ _ _ _ _ _ _ _ _ _ _ _ _ _ _ _ _ _ _ _ _ _ _ _ _ _ _ _ _ _ _ _ _ _ _ _ _ _ _ _ _ _ _ _ _ _ _ _ _ _ _ _ _ _ _ _ _ _ _ _ _ _ _ _ _ _ _ _ _ _ _ _ _ _ _ _ _ _
set_option maxRecDepth 100000 in
set_option maxHeartbeats 2000000 in
theorem r4_0_3_4_7 {ds : List Deferred} {Q : Exit → Act → World → Prop} (B1 X E : Nat) (ra fa : Option Addr) (rc fc : Nat) (rs : List Rol) (ps : List Ph) (Wb : World) (hG : R4G B1 X E ra fa rc fc rs ps ds Wb Q) (W : World) (hb : Below Wb.heap.size Wb W) (MT : Nat) (kvs : List (Int × Value)) (gMT : Wb.heap.size ≤ MT) (hM : MapAt kI W MT kvs) (hA : KeysApart kvs) (mR : Nat) (gR : Wb.heap.size ≤ mR) (hR : MapAt sv W mR (tabOf (rs.map Rol.name))) (okR : (rs.map Rol.name).all nameB = true) (mP : Nat) (gP : Wb.heap.size ≤ mP) (hP : MapAt sv W mP (tabOf (ps.map Ph.name))) (okP : (ps.map Ph.name).all nameB = true) (nR : MT ≠ mR) (nP : MT ≠ mP) (g1 : kvGet kvs 1 = some (.map (some mR))) (z2 : kvGet kvs 2 = none) (e0 e4 e5 e6 e7 e8 e9 e10 e11 e12 e13 e14 e15 e16 e24 e25 e26 e27 e28 e29 e30 e31 e32 e33 e34 e35 e36 e37 e38 e39 e40 e41 e42 e43 e44 e45 e46 e47 e48 e49 e50 e51 e52 e53 e54 e55 e56 e57 e58 e59 e60 e61 e62 e63 e64 e65 e66 e67 e68 e69 e70 e71 e72 e73 e74 e75 e76 e77 e78 e79 e80 e81 e82 e83 e84 e85 e86 e87 e88 e89 e90 e91 e92 e93 e94 e95 e96 e97 e98 : Value) :
  wpAnyH Try.prog .any ops15r4 Q (R4S B1 ra fa rc fc rs.length ps.length) 4 #[true, true, true, true, true, true, true, true, false, false, false, false] { tmps := #[e0, .pointer (some ⟨B1, 0, none⟩), .pointer (some ⟨X, 0, none⟩), .pointer (some ⟨E, 0, none⟩), e4, e5, e6, e7, e8, e9, e10, e11, e12, e13, e14, e15, e16, .map (some MT), .pointer (some ⟨B1, 6, none⟩), .slice ra rs.length rc, .map (some mR), .pointer (some ⟨B1, 10, none⟩), .slice fa ps.length fc, .map (some mP), e24, e25, e26, e27, e28, e29, e30, e31, e32, e33, e34, e35, e36, e37, e38, e39, e40, e41, e42, e43, e44, e45, e46, e47, e48, e49, e50, e51, e52, e53, e54, e55, e56, e57, e58, e59, e60, e61, e62, e63, e64, e65, e66, e67, e68, e69, e70, e71, e72, e73, e74, e75, e76, e77, e78, e79, e80, e81, e82, e83, e84, e85, e86, e87, e88, e89, e90, e91, e92, e93, e94, e95, e96, e97, e98], defers := ds } W := by
 dsimp only
 unfold ops15r4 code15
 conv => arg 3; whnf
 have hS : R4S B1 ra fa rc fc rs.length ps.length W := hG.s hb
 refine wpAnyH_ready (rs := [8, 10]) (by kernel_rfl) (by simp) ?_
 refine AllReadyH.cons (o := _) rfl (fun K1 hK => ?_) (AllReadyH.cons (o := _) rfl (fun K2 hK => ?_) AllReadyH.nil)
 ·obtain ⟨ob, hrun, hMn⟩ := run_update_kv (P := Try.prog) (T := 98) kI_key Try.underlying98 Try.underlying93 hM hA 2 (.map (some mP))
  unfold kI at hrun
  have bW := setBlock_below W MT ob (Nat.le_refl MT)
  have hb2 := hb.trans (setBlock_below W MT ob gMT)
  have oW : ∀ b, b ≠ MT → ({ W with heap := W.heap.setIfInBounds MT ob } : World).heap[b]? = W.heap[b]? := fun b h => by show (W.heap.setIfInBounds MT ob)[b]? = _; exact Array.getElem?_setIfInBounds_ne (fun e => h e.symm)
  have hR2 := hR.of_block (oW mR (fun e => nR e.symm))
  have hP2 := hP.of_block (oW mP (fun e => nP e.symm))
  have HN := Lib.hid (fun x0 x4 x5 x6 x7 x8 x9 x10 x11 x12 x13 x14 x15 x16 x24 x25 x26 x27 x28 x29 x30 x31 x32 x33 x34 x35 x36 x37 x38 x39 x40 x41 x42 x43 x44 x45 x46 x47 x48 x49 x50 x51 x52 x53 x54 x55 x56 x57 x58 x59 x60 x61 x62 x63 x64 x65 x66 x67 x68 x69 x70 x71 x72 x73 x74 x75 x76 x77 x78 x79 x80 x81 x82 x83 x84 x85 x86 x87 x88 x89 x90 x91 x92 x93 x94 x95 x96 x97 x98 => r4_0_3_4_7_8 B1 X E ra fa rc fc rs ps Wb hG _ hb2 MT (kvPut kvs 2 (.map (some mP))) gMT hMn (keysApart_put hA _ _) mR gR hR2 okR mP gP hP2 okP nR nP (kv_old g1 (by decide) _) (kv_new z2 _) x0 x4 x5 x6 x7 x8 x9 x10 x11 x12 x13 x14 x15 x16 x24 x25 x26 x27 x28 x29 x30 x31 x32 x33 x34 x35 x36 x37 x38 x39 x40 x41 x42 x43 x44 x45 x46 x47 x48 x49 x50 x51 x52 x53 x54 x55 x56 x57 x58 x59 x60 x61 x62 x63 x64 x65 x66 x67 x68 x69 x70 x71 x72 x73 x74 x75 x76 x77 x78 x79 x80 x81 x82 x83 x84 x85 x86 x87 x88 x89 x90 x91 x92 x93 x94 x95 x96 x97 x98)
  have HS2 := Lib.hid (hG.s hb2)
  clear hS hb2 bW oW hMn
  go_simp
  refine hK.out _ _ HS2.out (fun _ => ?_)
  try (simp only [Act.put, List.getElem_toArray, List.getElem_cons_zero, List.getElem_cons_succ, List.setIfInBounds_toArray, List.set_cons_zero, List.set_cons_succ])
  exact HN.out _ _ _ _ _ _ _ _ _ _ _ _ _ _ _ _ _ _ _ _ _ _ _ _ _ _ _ _ _ _ _ _ _ _ _ _ _ _ _ _ _ _ _ _ _ _ _ _ _ _ _ _ _ _ _ _ _ _ _ _ _ _ _ _ _ _ _ _ _ _ _ _ _ _ _ _ _ _ _ _ _ _ _ _ _ _ _ _ _
 ·have bW := (Below.refl W.heap.size W).alloc (Nat.le_refl _) (.cells #[.map none] 98)
  have hb2 := hb.trans (bW.mono hb.size)
  have hM2 := hM.below bW hM.lt
  have hR2 := hR.below bW hR.lt
  have hP2 := hP.below bW hP.lt
  have HN := Lib.hid (fun x0 x5 x6 x7 x8 x9 x10 x11 x12 x13 x14 x15 x16 x24 x25 x26 x27 x28 x29 x30 x31 x32 x33 x34 x35 x36 x37 x38 x39 x40 x41 x42 x43 x44 x45 x46 x47 x48 x49 x50 x51 x52 x53 x54 x55 x56 x57 x58 x59 x60 x61 x62 x63 x64 x65 x66 x67 x68 x69 x70 x71 x72 x73 x74 x75 x76 x77 x78 x79 x80 x81 x82 x83 x84 x85 x86 x87 x88 x89 x90 x91 x92 x93 x94 x95 x96 x97 x98 => r4_0_3_4_7_10 B1 X E ra fa rc fc rs ps Wb hG _ hb2 MT kvs gMT hM2 hA mR gR hR2 okR mP gP hP2 okP nR nP g1 z2 W.heap.size hb.size (heap_alloc_new W _) x0 x5 x6 x7 x8 x9 x10 x11 x12 x13 x14 x15 x16 x24 x25 x26 x27 x28 x29 x30 x31 x32 x33 x34 x35 x36 x37 x38 x39 x40 x41 x42 x43 x44 x45 x46 x47 x48 x49 x50 x51 x52 x53 x54 x55 x56 x57 x58 x59 x60 x61 x62 x63 x64 x65 x66 x67 x68 x69 x70 x71 x72 x73 x74 x75 x76 x77 x78 x79 x80 x81 x82 x83 x84 x85 x86 x87 x88 x89 x90 x91 x92 x93 x94 x95 x96 x97 x98)
  have HS2 := Lib.hid (hG.s hb2)
  clear hS hb2 bW
  go_simp
  refine hK.out _ _ HS2.out (fun _ => ?_)
  try (simp only [Act.put, List.getElem_toArray, List.getElem_cons_zero, List.getElem_cons_succ, List.setIfInBounds_toArray, List.set_cons_zero, List.set_cons_succ])
  exact HN.out _ _ _ _ _ _ _ _ _ _ _ _ _ _ _ _ _ _ _ _ _ _ _ _ _ _ _ _ _ _ _ _ _ _ _ _ _ _ _ _ _ _ _ _ _ _ _ _ _ _ _ _ _ _ _ _ _ _ _ _ _ _ _ _ _ _ _ _ _ _ _ _ _ _ _ _ _ _ _ _ _ _ _ _ _ _ _ _
set_option maxRecDepth 100000 in
set_option maxHeartbeats 2000000 in
theorem r4_0_3_4_10 {ds : List Deferred} {Q : Exit → Act → World → Prop} (B1 X E : Nat) (ra fa : Option Addr) (rc fc : Nat) (rs : List Rol) (ps : List Ph) (Wb : World) (hG : R4G B1 X E ra fa rc fc rs ps ds Wb Q) (W : World) (hb : Below Wb.heap.size Wb W) (MT : Nat) (kvs : List (Int × Value)) (gMT : Wb.heap.size ≤ MT) (hM : MapAt kI W MT kvs) (hA : KeysApart kvs) (mR : Nat) (gR : Wb.heap.size ≤ mR) (hR : MapAt sv W mR (tabOf (rs.map Rol.name))) (okR : (rs.map Rol.name).all nameB = true) (nR : MT ≠ mR) (g1 : kvGet kvs 1 = some (.map (some mR))) (z2 : kvGet kvs 2 = none) (TB : Nat) (gTB : Wb.heap.size ≤ TB) (hTB : W.heap[TB]? = some (.cells #[.map none] 98 (0, 0))) (e0 e5 e6 e7 e8 e9 e10 e11 e12 e13 e14 e15 e16 e23 e24 e25 e26 e27 e28 e29 e30 e31 e32 e33 e34 e35 e36 e37 e38 e39 e40 e41 e42 e43 e44 e45 e46 e47 e48 e49 e50 e51 e52 e53 e54 e55 e56 e57 e58 e59 e60 e61 e62 e63 e64 e65 e66 e67 e68 e69 e70 e71 e72 e73 e74 e75 e76 e77 e78 e79 e80 e81 e82 e83 e84 e85 e86 e87 e88 e89 e90 e91 e92 e93 e94 e95 e96 e97 e98 : Value) :
  wpAnyH Try.prog .any ops15r4 Q (R4S B1 ra fa rc fc rs.length ps.length) 4 #[true, true, true, true, true, true, true, false, false, false, true, false] { tmps := #[e0, .pointer (some ⟨B1, 0, none⟩), .pointer (some ⟨X, 0, none⟩), .pointer (some ⟨E, 0, none⟩), .pointer (some ⟨TB, 0, none⟩), e5, e6, e7, e8, e9, e10, e11, e12, e13, e14, e15, e16, .map (some MT), .pointer (some ⟨B1, 6, none⟩), .slice ra rs.length rc, .map (some mR), .pointer (some ⟨B1, 10, none⟩), .slice fa ps.length fc, e23, e24, e25, e26, e27, e28, e29, e30, e31, e32, e33, e34, e35, e36, e37, e38, e39, e40, e41, e42, e43, e44, e45, e46, e47, e48, e49, e50, e51, e52, e53, e54, e55, e56, e57, e58, e59, e60, e61, e62, e63, e64, e65, e66, e67, e68, e69, e70, e71, e72, e73, e74, e75, e76, e77, e78, e79, e80, e81, e82, e83, e84, e85, e86, e87, e88, e89, e90, e91, e92, e93, e94, e95, e96, e97, e98], defers := ds } W := by
 dsimp only
 unfold ops15r4 code15
 conv => arg 3; whnf
 have hS : R4S B1 ra fa rc fc rs.length ps.length W := hG.s hb
 refine wpAnyH_ready (rs := [7]) (by kernel_rfl) (by simp) ?_
 refine AllReadyH.cons (o := _) rfl (fun K1 hK => ?_) AllReadyH.nil
 ·have HT := Lib.hid (hG.t43 W hb)
  clear hS
  go_simp
  go_at_call 43
  refine HT.out.mono ?_
  rintro e W2 ⟨(⟨okN, mN, gN, rfl, hN⟩ | ⟨bad, rfl⟩), bW⟩
  ·have hb2 := hb.trans (bW.mono hb.size)
   have hM2 := hM.below bW hM.lt
   have hR2 := hR.below bW hR.lt
   have hTB2 := (bW.block _ (Array.getElem?_eq_some_iff.1 hTB).1).trans hTB
   refine hK.out _ _ (hG.s hb2) (fun _ => ?_)
   try (simp only [Act.put, List.getElem_toArray, List.getElem_cons_zero, List.getElem_cons_succ, List.setIfInBounds_toArray, List.set_cons_zero, List.set_cons_succ])
   exact r4_0_3_4_7_10 B1 X E ra fa rc fc rs ps Wb hG W2 hb2 MT kvs gMT hM2 hA mR gR hR2 okR mN (Nat.le_trans hb.size gN) hN okN nR (by have := hM.lt; omega) g1 z2 TB gTB hTB2 _ _ _ _ _ _ _ _ _ _ _ _ _ _ _ _ _ _ _ _ _ _ _ _ _ _ _ _ _ _ _ _ _ _ _ _ _ _ _ _ _ _ _ _ _ _ _ _ _ _ _ _ _ _ _ _ _ _ _ _ _ _ _ _ _ _ _ _ _ _ _ _ _ _ _ _ _ _ _ _ _ _ _ _ _ _ _ _
  ·exact hG.err _ _ W2 (hb.trans (bW.mono hb.size)) (Or.inr bad) rfl rfl rfl
set_option maxRecDepth 100000 in
set_option maxHeartbeats 2000000 in
theorem r4_0_3_7_8 {ds : List Deferred} {Q : Exit → Act → World → Prop} (B1 X E : Nat) (ra fa : Option Addr) (rc fc : Nat) (rs : List Rol) (ps : List Ph) (Wb : World) (hG : R4G B1 X E ra fa rc fc rs ps ds Wb Q) (W : World) (hb : Below Wb.heap.size Wb W) (MT : Nat) (kvs : List (Int × Value)) (gMT : Wb.heap.size ≤ MT) (hM : MapAt kI W MT kvs) (hA : KeysApart kvs) (mR : Nat) (gR : Wb.heap.size ≤ mR) (hR : MapAt sv W mR (tabOf (rs.map Rol.name))) (okR : (rs.map Rol.name).all nameB = true) (mP : Nat) (gP : Wb.heap.size ≤ mP) (hP : MapAt sv W mP (tabOf (ps.map Ph.name))) (okP : (ps.map Ph.name).all nameB = true) (nR : MT ≠ mR) (nP : MT ≠ mP) (z1 : kvGet kvs 1 = none) (g2 : kvGet kvs 2 = some (.map (some mP))) (e0 e4 e5 e6 e7 e8 e9 e10 e11 e12 e13 e14 e15 e16 e24 e25 e26 e27 e28 e29 e30 e31 e32 e33 e34 e35 e36 e37 e38 e39 e40 e41 e42 e43 e44 e45 e46 e47 e48 e49 e50 e51 e52 e53 e54 e55 e56 e57 e58 e59 e60 e61 e62 e63 e64 e65 e66 e67 e68 e69 e70 e71 e72 e73 e74 e75 e76 e77 e78 e79 e80 e81 e82 e83 e84 e85 e86 e87 e88 e89 e90 e91 e92 e93 e94 e95 e96 e97 e98 : Value) :
  wpAnyH Try.prog .any ops15r4 Q (R4S B1 ra fa rc fc rs.length ps.length) 4 #[true, true, true, true, false, true, true, true, true, false, false, false] { tmps := #[e0, .pointer (some ⟨B1, 0, none⟩), .pointer (some ⟨X, 0, none⟩), .pointer (some ⟨E, 0, none⟩), e4, e5, e6, e7, e8, e9, e10, e11, e12, e13, e14, e15, e16, .map (some MT), .pointer (some ⟨B1, 6, none⟩), .slice ra rs.length rc, .map (some mR), .pointer (some ⟨B1, 10, none⟩), .slice fa ps.length fc, .map (some mP), e24, e25, e26, e27, e28, e29, e30, e31, e32, e33, e34, e35, e36, e37, e38, e39, e40, e41, e42, e43, e44, e45, e46, e47, e48, e49, e50, e51, e52, e53, e54, e55, e56, e57, e58, e59, e60, e61, e62, e63, e64, e65, e66, e67, e68, e69, e70, e71, e72, e73, e74, e75, e76, e77, e78, e79, e80, e81, e82, e83, e84, e85, e86, e87, e88, e89, e90, e91, e92, e93, e94, e95, e96, e97, e98], defers := ds } W := by
 dsimp only
 unfold ops15r4 code15
 conv => arg 3; whnf
 have hS : R4S B1 ra fa rc fc rs.length ps.length W := hG.s hb
 refine wpAnyH_ready (rs := [4, 10]) (by kernel_rfl) (by simp) ?_
 refine AllReadyH.cons (o := _) rfl (fun K1 hK => ?_) (AllReadyH.cons (o := _) rfl (fun K2 hK => ?_) AllReadyH.nil)
 ·obtain ⟨ob, hrun, hMn⟩ := run_update_kv (P := Try.prog) (T := 98) kI_key Try.underlying98 Try.underlying93 hM hA 1 (.map (some mR))
  unfold kI at hrun
  have bW := setBlock_below W MT ob (Nat.le_refl MT)
  have hb2 := hb.trans (setBlock_below W MT ob gMT)
  have oW : ∀ b, b ≠ MT → ({ W with heap := W.heap.setIfInBounds MT ob } : World).heap[b]? = W.heap[b]? := fun b h => by show (W.heap.setIfInBounds MT ob)[b]? = _; exact Array.getElem?_setIfInBounds_ne (fun e => h e.symm)
  have hR2 := hR.of_block (oW mR (fun e => nR e.symm))
  have hP2 := hP.of_block (oW mP (fun e => nP e.symm))
  have HN := Lib.hid (fun x0 x4 x5 x6 x7 x8 x9 x10 x11 x12 x13 x14 x15 x16 x24 x25 x26 x27 x28 x29 x30 x31 x32 x33 x34 x35 x36 x37 x38 x39 x40 x41 x42 x43 x44 x45 x46 x47 x48 x49 x50 x51 x52 x53 x54 x55 x56 x57 x58 x59 x60 x61 x62 x63 x64 x65 x66 x67 x68 x69 x70 x71 x72 x73 x74 x75 x76 x77 x78 x79 x80 x81 x82 x83 x84 x85 x86 x87 x88 x89 x90 x91 x92 x93 x94 x95 x96 x97 x98 => r4_0_3_4_7_8 B1 X E ra fa rc fc rs ps Wb hG _ hb2 MT (kvPut kvs 1 (.map (some mR))) gMT hMn (keysApart_put hA _ _) mR gR hR2 okR mP gP hP2 okP nR nP (kv_new z1 _) (kv_old g2 (by decide) _) x0 x4 x5 x6 x7 x8 x9 x10 x11 x12 x13 x14 x15 x16 x24 x25 x26 x27 x28 x29 x30 x31 x32 x33 x34 x35 x36 x37 x38 x39 x40 x41 x42 x43 x44 x45 x46 x47 x48 x49 x50 x51 x52 x53 x54 x55 x56 x57 x58 x59 x60 x61 x62 x63 x64 x65 x66 x67 x68 x69 x70 x71 x72 x73 x74 x75 x76 x77 x78 x79 x80 x81 x82 x83 x84 x85 x86 x87 x88 x89 x90 x91 x92 x93 x94 x95 x96 x97 x98)
  have HS2 := Lib.hid (hG.s hb2)
  clear hS hb2 bW oW hMn
  go_simp
  refine hK.out _ _ HS2.out (fun _ => ?_)
  try (simp only [Act.put, List.getElem_toArray, List.getElem_cons_zero, List.getElem_cons_succ, List.setIfInBounds_toArray, List.set_cons_zero, List.set_cons_succ])
  exact HN.out _ _ _ _ _ _ _ _ _ _ _ _ _ _ _ _ _ _ _ _ _ _ _ _ _ _ _ _ _ _ _ _ _ _ _ _ _ _ _ _ _ _ _ _ _ _ _ _ _ _ _ _ _ _ _ _ _ _ _ _ _ _ _ _ _ _ _ _ _ _ _ _ _ _ _ _ _ _ _ _ _ _ _ _ _ _ _ _ _
 ·have bW := (Below.refl W.heap.size W).alloc (Nat.le_refl _) (.cells #[.map none] 98)
  have hb2 := hb.trans (bW.mono hb.size)
  have hM2 := hM.below bW hM.lt
  have hR2 := hR.below bW hR.lt
  have hP2 := hP.below bW hP.lt
  have HN := Lib.hid (fun x0 x5 x6 x7 x8 x9 x10 x11 x12 x13 x14 x15 x16 x24 x25 x26 x27 x28 x29 x30 x31 x32 x33 x34 x35 x36 x37 x38 x39 x40 x41 x42 x43 x44 x45 x46 x47 x48 x49 x50 x51 x52 x53 x54 x55 x56 x57 x58 x59 x60 x61 x62 x63 x64 x65 x66 x67 x68 x69 x70 x71 x72 x73 x74 x75 x76 x77 x78 x79 x80 x81 x82 x83 x84 x85 x86 x87 x88 x89 x90 x91 x92 x93 x94 x95 x96 x97 x98 => r4_0_3_7_8_10 B1 X E ra fa rc fc rs ps Wb hG _ hb2 MT kvs gMT hM2 hA mR gR hR2 okR mP gP hP2 okP nR nP z1 g2 W.heap.size hb.size (heap_alloc_new W _) x0 x5 x6 x7 x8 x9 x10 x11 x12 x13 x14 x15 x16 x24 x25 x26 x27 x28 x29 x30 x31 x32 x33 x34 x35 x36 x37 x38 x39 x40 x41 x42 x43 x44 x45 x46 x47 x48 x49 x50 x51 x52 x53 x54 x55 x56 x57 x58 x59 x60 x61 x62 x63 x64 x65 x66 x67 x68 x69 x70 x71 x72 x73 x74 x75 x76 x77 x78 x79 x80 x81 x82 x83 x84 x85 x86 x87 x88 x89 x90 x91 x92 x93 x94 x95 x96 x97 x98)
  have HS2 := Lib.hid (hG.s hb2)
  clear hS hb2 bW
  go_simp
  refine hK.out _ _ HS2.out (fun _ => ?_)
  try (simp only [Act.put, List.getElem_toArray, List.getElem_cons_zero, List.getElem_cons_succ, List.setIfInBounds_toArray, List.set_cons_zero, List.set_cons_succ])
  exact HN.out _ _ _ _ _ _ _ _ _ _ _ _ _ _ _ _ _ _ _ _ _ _ _ _ _ _ _ _ _ _ _ _ _ _ _ _ _ _ _ _ _ _ _ _ _ _ _ _ _ _ _ _ _ _ _ _ _ _ _ _ _ _ _ _ _ _ _ _ _ _ _ _ _ _ _ _ _ _ _ _ _ _ _ _ _ _ _ _
set_option maxRecDepth 100000 in
set_option maxHeartbeats 2000000 in
theorem r4_0_3_7_10 {ds : List Deferred} {Q : Exit → Act → World → Prop} (B1 X E : Nat) (ra fa : Option Addr) (rc fc : Nat) (rs : List Rol) (ps : List Ph) (Wb : World) (hG : R4G B1 X E ra fa rc fc rs ps ds Wb Q) (W : World) (hb : Below Wb.heap.size Wb W) (MT : Nat) (kvs : List (Int × Value)) (gMT : Wb.heap.size ≤ MT) (hM : MapAt kI W MT kvs) (hA : KeysApart kvs) (mR : Nat) (gR : Wb.heap.size ≤ mR) (hR : MapAt sv W mR (tabOf (rs.map Rol.name))) (okR : (rs.map Rol.name).all nameB = true) (mP : Nat) (gP : Wb.heap.size ≤ mP) (hP : MapAt sv W mP (tabOf (ps.map Ph.name))) (okP : (ps.map Ph.name).all nameB = true) (nR : MT ≠ mR) (nP : MT ≠ mP) (z1 : kvGet kvs 1 = none) (z2 : kvGet kvs 2 = none) (TB : Nat) (gTB : Wb.heap.size ≤ TB) (hTB : W.heap[TB]? = some (.cells #[.map none] 98 (0, 0))) (e0 e5 e6 e7 e8 e9 e10 e11 e12 e13 e14 e15 e16 e24 e25 e26 e27 e28 e29 e30 e31 e32 e33 e34 e35 e36 e37 e38 e39 e40 e41 e42 e43 e44 e45 e46 e47 e48 e49 e50 e51 e52 e53 e54 e55 e56 e57 e58 e59 e60 e61 e62 e63 e64 e65 e66 e67 e68 e69 e70 e71 e72 e73 e74 e75 e76 e77 e78 e79 e80 e81 e82 e83 e84 e85 e86 e87 e88 e89 e90 e91 e92 e93 e94 e95 e96 e97 e98 : Value) :
  wpAnyH Try.prog .any ops15r4 Q (R4S B1 ra fa rc fc rs.length ps.length) 4 #[true, true, true, true, false, true, true, true, false, false, true, false] { tmps := #[e0, .pointer (some ⟨B1, 0, none⟩), .pointer (some ⟨X, 0, none⟩), .pointer (some ⟨E, 0, none⟩), .pointer (some ⟨TB, 0, none⟩), e5, e6, e7, e8, e9, e10, e11, e12, e13, e14, e15, e16, .map (some MT), .pointer (some ⟨B1, 6, none⟩), .slice ra rs.length rc, .map (some mR), .pointer (some ⟨B1, 10, none⟩), .slice fa ps.length fc, .map (some mP), e24, e25, e26, e27, e28, e29, e30, e31, e32, e33, e34, e35, e36, e37, e38, e39, e40, e41, e42, e43, e44, e45, e46, e47, e48, e49, e50, e51, e52, e53, e54, e55, e56, e57, e58, e59, e60, e61, e62, e63, e64, e65, e66, e67, e68, e69, e70, e71, e72, e73, e74, e75, e76, e77, e78, e79, e80, e81, e82, e83, e84, e85, e86, e87, e88, e89, e90, e91, e92, e93, e94, e95, e96, e97, e98], defers := ds } W := by
 dsimp only
 unfold ops15r4 code15
 conv => arg 3; whnf
 have hS : R4S B1 ra fa rc fc rs.length ps.length W := hG.s hb
 refine wpAnyH_ready (rs := [4, 8]) (by kernel_rfl) (by simp) ?_
 refine AllReadyH.cons (o := _) rfl (fun K1 hK => ?_) (AllReadyH.cons (o := _) rfl (fun K2 hK => ?_) AllReadyH.nil)
 ·obtain ⟨ob, hrun, hMn⟩ := run_update_kv (P := Try.prog) (T := 98) kI_key Try.underlying98 Try.underlying93 hM hA 1 (.map (some mR))
  unfold kI at hrun
  have bW := setBlock_below W MT ob (Nat.le_refl MT)
  have hb2 := hb.trans (setBlock_below W MT ob gMT)
  have oW : ∀ b, b ≠ MT → ({ W with heap := W.heap.setIfInBounds MT ob } : World).heap[b]? = W.heap[b]? := fun b h => by show (W.heap.setIfInBounds MT ob)[b]? = _; exact Array.getElem?_setIfInBounds_ne (fun e => h e.symm)
  have hR2 := hR.of_block (oW mR (fun e => nR e.symm))
  have hP2 := hP.of_block (oW mP (fun e => nP e.symm))
  have hTB2 := (oW TB (fun e => by obtain ⟨es, cl, h3, _⟩ := hM; rw [← e, hTB] at h3; cases h3)).trans hTB
  have HN := Lib.hid (fun x0 x5 x6 x7 x8 x9 x10 x11 x12 x13 x14 x15 x16 x24 x25 x26 x27 x28 x29 x30 x31 x32 x33 x34 x35 x36 x37 x38 x39 x40 x41 x42 x43 x44 x45 x46 x47 x48 x49 x50 x51 x52 x53 x54 x55 x56 x57 x58 x59 x60 x61 x62 x63 x64 x65 x66 x67 x68 x69 x70 x71 x72 x73 x74 x75 x76 x77 x78 x79 x80 x81 x82 x83 x84 x85 x86 x87 x88 x89 x90 x91 x92 x93 x94 x95 x96 x97 x98 => r4_0_3_4_7_10 B1 X E ra fa rc fc rs ps Wb hG _ hb2 MT (kvPut kvs 1 (.map (some mR))) gMT hMn (keysApart_put hA _ _) mR gR hR2 okR mP gP hP2 okP nR nP (kv_new z1 _) (kv_none z2 (by decide) _) TB gTB hTB2 x0 x5 x6 x7 x8 x9 x10 x11 x12 x13 x14 x15 x16 x24 x25 x26 x27 x28 x29 x30 x31 x32 x33 x34 x35 x36 x37 x38 x39 x40 x41 x42 x43 x44 x45 x46 x47 x48 x49 x50 x51 x52 x53 x54 x55 x56 x57 x58 x59 x60 x61 x62 x63 x64 x65 x66 x67 x68 x69 x70 x71 x72 x73 x74 x75 x76 x77 x78 x79 x80 x81 x82 x83 x84 x85 x86 x87 x88 x89 x90 x91 x92 x93 x94 x95 x96 x97 x98)
  have HS2 := Lib.hid (hG.s hb2)
  clear hS hb2 bW oW hMn
  go_simp
  refine hK.out _ _ HS2.out (fun _ => ?_)
  try (simp only [Act.put, List.getElem_toArray, List.getElem_cons_zero, List.getElem_cons_succ, List.setIfInBounds_toArray, List.set_cons_zero, List.set_cons_succ])
  exact HN.out _ _ _ _ _ _ _ _ _ _ _ _ _ _ _ _ _ _ _ _ _ _ _ _ _ _ _ _ _ _ _ _ _ _ _ _ _ _ _ _ _ _ _ _ _ _ _ _ _ _ _ _ _ _ _ _ _ _ _ _ _ _ _ _ _ _ _ _ _ _ _ _ _ _ _ _ _ _ _ _ _ _ _ _ _ _ _ _
 ·obtain ⟨ob, hrun, hMn⟩ := run_update_kv (P := Try.prog) (T := 98) kI_key Try.underlying98 Try.underlying93 hM hA 2 (.map (some mP))
  unfold kI at hrun
  have bW := setBlock_below W MT ob (Nat.le_refl MT)
  have hb2 := hb.trans (setBlock_below W MT ob gMT)
  have oW : ∀ b, b ≠ MT → ({ W with heap := W.heap.setIfInBounds MT ob } : World).heap[b]? = W.heap[b]? := fun b h => by show (W.heap.setIfInBounds MT ob)[b]? = _; exact Array.getElem?_setIfInBounds_ne (fun e => h e.symm)
  have hR2 := hR.of_block (oW mR (fun e => nR e.symm))
  have hP2 := hP.of_block (oW mP (fun e => nP e.symm))
  have hTB2 := (oW TB (fun e => by obtain ⟨es, cl, h3, _⟩ := hM; rw [← e, hTB] at h3; cases h3)).trans hTB
  have HN := Lib.hid (fun x0 x5 x6 x7 x8 x9 x10 x11 x12 x13 x14 x15 x16 x24 x25 x26 x27 x28 x29 x30 x31 x32 x33 x34 x35 x36 x37 x38 x39 x40 x41 x42 x43 x44 x45 x46 x47 x48 x49 x50 x51 x52 x53 x54 x55 x56 x57 x58 x59 x60 x61 x62 x63 x64 x65 x66 x67 x68 x69 x70 x71 x72 x73 x74 x75 x76 x77 x78 x79 x80 x81 x82 x83 x84 x85 x86 x87 x88 x89 x90 x91 x92 x93 x94 x95 x96 x97 x98 => r4_0_3_7_8_10 B1 X E ra fa rc fc rs ps Wb hG _ hb2 MT (kvPut kvs 2 (.map (some mP))) gMT hMn (keysApart_put hA _ _) mR gR hR2 okR mP gP hP2 okP nR nP (kv_none z1 (by decide) _) (kv_new z2 _) TB gTB hTB2 x0 x5 x6 x7 x8 x9 x10 x11 x12 x13 x14 x15 x16 x24 x25 x26 x27 x28 x29 x30 x31 x32 x33 x34 x35 x36 x37 x38 x39 x40 x41 x42 x43 x44 x45 x46 x47 x48 x49 x50 x51 x52 x53 x54 x55 x56 x57 x58 x59 x60 x61 x62 x63 x64 x65 x66 x67 x68 x69 x70 x71 x72 x73 x74 x75 x76 x77 x78 x79 x80 x81 x82 x83 x84 x85 x86 x87 x88 x89 x90 x91 x92 x93 x94 x95 x96 x97 x98)
  have HS2 := Lib.hid (hG.s hb2)
  clear hS hb2 bW oW hMn
  go_simp
  refine hK.out _ _ HS2.out (fun _ => ?_)
  try (simp only [Act.put, List.getElem_toArray, List.getElem_cons_zero, List.getElem_cons_succ, List.setIfInBounds_toArray, List.set_cons_zero, List.set_cons_succ])
  exact HN.out _ _ _ _ _ _ _ _ _ _ _ _ _ _ _ _ _ _ _ _ _ _ _ _ _ _ _ _ _ _ _ _ _ _ _ _ _ _ _ _ _ _ _ _ _ _ _ _ _ _ _ _ _ _ _ _ _ _ _ _ _ _ _ _ _ _ _ _ _ _ _ _ _ _ _ _ _ _ _ _ _ _ _ _ _ _ _ _
set_option maxRecDepth 100000 in
set_option maxHeartbeats 2000000 in
theorem r4_0_3_4 {ds : List Deferred} {Q : Exit → Act → World → Prop} (B1 X E : Nat) (ra fa : Option Addr) (rc fc : Nat) (rs : List Rol) (ps : List Ph) (Wb : World) (hG : R4G B1 X E ra fa rc fc rs ps ds Wb Q) (W : World) (hb : Below Wb.heap.size Wb W) (MT : Nat) (kvs : List (Int × Value)) (gMT : Wb.heap.size ≤ MT) (hM : MapAt kI W MT kvs) (hA : KeysApart kvs) (mR : Nat) (gR : Wb.heap.size ≤ mR) (hR : MapAt sv W mR (tabOf (rs.map Rol.name))) (okR : (rs.map Rol.name).all nameB = true) (nR : MT ≠ mR) (g1 : kvGet kvs 1 = some (.map (some mR))) (z2 : kvGet kvs 2 = none) (e0 e4 e5 e6 e7 e8 e9 e10 e11 e12 e13 e14 e15 e16 e23 e24 e25 e26 e27 e28 e29 e30 e31 e32 e33 e34 e35 e36 e37 e38 e39 e40 e41 e42 e43 e44 e45 e46 e47 e48 e49 e50 e51 e52 e53 e54 e55 e56 e57 e58 e59 e60 e61 e62 e63 e64 e65 e66 e67 e68 e69 e70 e71 e72 e73 e74 e75 e76 e77 e78 e79 e80 e81 e82 e83 e84 e85 e86 e87 e88 e89 e90 e91 e92 e93 e94 e95 e96 e97 e98 : Value) :
  wpAnyH Try.prog .any ops15r4 Q (R4S B1 ra fa rc fc rs.length ps.length) 5 #[true, true, true, true, true, true, true, false, false, false, false, false] { tmps := #[e0, .pointer (some ⟨B1, 0, none⟩), .pointer (some ⟨X, 0, none⟩), .pointer (some ⟨E, 0, none⟩), e4, e5, e6, e7, e8, e9, e10, e11, e12, e13, e14, e15, e16, .map (some MT), .pointer (some ⟨B1, 6, none⟩), .slice ra rs.length rc, .map (some mR), .pointer (some ⟨B1, 10, none⟩), .slice fa ps.length fc, e23, e24, e25, e26, e27, e28, e29, e30, e31, e32, e33, e34, e35, e36, e37, e38, e39, e40, e41, e42, e43, e44, e45, e46, e47, e48, e49, e50, e51, e52, e53, e54, e55, e56, e57, e58, e59, e60, e61, e62, e63, e64, e65, e66, e67, e68, e69, e70, e71, e72, e73, e74, e75, e76, e77, e78, e79, e80, e81, e82, e83, e84, e85, e86, e87, e88, e89, e90, e91, e92, e93, e94, e95, e96, e97, e98], defers := ds } W := by
 dsimp only
 unfold ops15r4 code15
 conv => arg 3; whnf
 have hS : R4S B1 ra fa rc fc rs.length ps.length W := hG.s hb
 refine wpAnyH_ready (rs := [7, 10]) (by kernel_rfl) (by simp) ?_
 refine AllReadyH.cons (o := _) rfl (fun K1 hK => ?_) (AllReadyH.cons (o := _) rfl (fun K2 hK => ?_) AllReadyH.nil)
 ·have HT := Lib.hid (hG.t43 W hb)
  clear hS
  go_simp
  go_at_call 43
  refine HT.out.mono ?_
  rintro e W2 ⟨(⟨okN, mN, gN, rfl, hN⟩ | ⟨bad, rfl⟩), bW⟩
  ·have hb2 := hb.trans (bW.mono hb.size)
   have hM2 := hM.below bW hM.lt
   have hR2 := hR.below bW hR.lt
   refine hK.out _ _ (hG.s hb2) (fun _ => ?_)
   try (simp only [Act.put, List.getElem_toArray, List.getElem_cons_zero, List.getElem_cons_succ, List.setIfInBounds_toArray, List.set_cons_zero, List.set_cons_succ])
   exact r4_0_3_4_7 B1 X E ra fa rc fc rs ps Wb hG W2 hb2 MT kvs gMT hM2 hA mR gR hR2 okR mN (Nat.le_trans hb.size gN) hN okN nR (by have := hM.lt; omega) g1 z2 _ _ _ _ _ _ _ _ _ _ _ _ _ _ _ _ _ _ _ _ _ _ _ _ _ _ _ _ _ _ _ _ _ _ _ _ _ _ _ _ _ _ _ _ _ _ _ _ _ _ _ _ _ _ _ _ _ _ _ _ _ _ _ _ _ _ _ _ _ _ _ _ _ _ _ _ _ _ _ _ _ _ _ _ _ _ _ _ _
  ·exact hG.err _ _ W2 (hb.trans (bW.mono hb.size)) (Or.inr bad) rfl rfl rfl
 ·have bW := (Below.refl W.heap.size W).alloc (Nat.le_refl _) (.cells #[.map none] 98)
  have hb2 := hb.trans (bW.mono hb.size)
  have hM2 := hM.below bW hM.lt
  have hR2 := hR.below bW hR.lt
  have HN := Lib.hid (fun x0 x5 x6 x7 x8 x9 x10 x11 x12 x13 x14 x15 x16 x23 x24 x25 x26 x27 x28 x29 x30 x31 x32 x33 x34 x35 x36 x37 x38 x39 x40 x41 x42 x43 x44 x45 x46 x47 x48 x49 x50 x51 x52 x53 x54 x55 x56 x57 x58 x59 x60 x61 x62 x63 x64 x65 x66 x67 x68 x69 x70 x71 x72 x73 x74 x75 x76 x77 x78 x79 x80 x81 x82 x83 x84 x85 x86 x87 x88 x89 x90 x91 x92 x93 x94 x95 x96 x97 x98 => r4_0_3_4_10 B1 X E ra fa rc fc rs ps Wb hG _ hb2 MT kvs gMT hM2 hA mR gR hR2 okR nR g1 z2 W.heap.size hb.size (heap_alloc_new W _) x0 x5 x6 x7 x8 x9 x10 x11 x12 x13 x14 x15 x16 x23 x24 x25 x26 x27 x28 x29 x30 x31 x32 x33 x34 x35 x36 x37 x38 x39 x40 x41 x42 x43 x44 x45 x46 x47 x48 x49 x50 x51 x52 x53 x54 x55 x56 x57 x58 x59 x60 x61 x62 x63 x64 x65 x66 x67 x68 x69 x70 x71 x72 x73 x74 x75 x76 x77 x78 x79 x80 x81 x82 x83 x84 x85 x86 x87 x88 x89 x90 x91 x92 x93 x94 x95 x96 x97 x98)
  have HS2 := Lib.hid (hG.s hb2)
  clear hS hb2 bW
  go_simp
  refine hK.out _ _ HS2.out (fun _ => ?_)
  try (simp only [Act.put, List.getElem_toArray, List.getElem_cons_zero, List.getElem_cons_succ, List.setIfInBounds_toArray, List.set_cons_zero, List.set_cons_succ])
  exact HN.out _ _ _ _ _ _ _ _ _ _ _ _ _ _ _ _ _ _ _ _ _ _ _ _ _ _ _ _ _ _ _ _ _ _ _ _ _ _ _ _ _ _ _ _ _ _ _ _ _ _ _ _ _ _ _ _ _ _ _ _ _ _ _ _ _ _ _ _ _ _ _ _ _ _ _ _ _ _ _ _ _ _ _ _ _ _ _ _ _
set_option maxRecDepth 100000 in
set_option maxHeartbeats 2000000 in
theorem r4_0_3_7 {ds : List Deferred} {Q : Exit → Act → World → Prop} (B1 X E : Nat) (ra fa : Option Addr) (rc fc : Nat) (rs : List Rol) (ps : List Ph) (Wb : World) (hG : R4G B1 X E ra fa rc fc rs ps ds Wb Q) (W : World) (hb : Below Wb.heap.size Wb W) (MT : Nat) (kvs : List (Int × Value)) (gMT : Wb.heap.size ≤ MT) (hM : MapAt kI W MT kvs) (hA : KeysApart kvs) (mR : Nat) (gR : Wb.heap.size ≤ mR) (hR : MapAt sv W mR (tabOf (rs.map Rol.name))) (okR : (rs.map Rol.name).all nameB = true) (mP : Nat) (gP : Wb.heap.size ≤ mP) (hP : MapAt sv W mP (tabOf (ps.map Ph.name))) (okP : (ps.map Ph.name).all nameB = true) (nR : MT ≠ mR) (nP : MT ≠ mP) (z1 : kvGet kvs 1 = none) (z2 : kvGet kvs 2 = none) (e0 e4 e5 e6 e7 e8 e9 e10 e11 e12 e13 e14 e15 e16 e24 e25 e26 e27 e28 e29 e30 e31 e32 e33 e34 e35 e36 e37 e38 e39 e40 e41 e42 e43 e44 e45 e46 e47 e48 e49 e50 e51 e52 e53 e54 e55 e56 e57 e58 e59 e60 e61 e62 e63 e64 e65 e66 e67 e68 e69 e70 e71 e72 e73 e74 e75 e76 e77 e78 e79 e80 e81 e82 e83 e84 e85 e86 e87 e88 e89 e90 e91 e92 e93 e94 e95 e96 e97 e98 : Value) :
  wpAnyH Try.prog .any ops15r4 Q (R4S B1 ra fa rc fc rs.length ps.length) 5 #[true, true, true, true, false, true, true, true, false, false, false, false] { tmps := #[e0, .pointer (some ⟨B1, 0, none⟩), .pointer (some ⟨X, 0, none⟩), .pointer (some ⟨E, 0, none⟩), e4, e5, e6, e7, e8, e9, e10, e11, e12, e13, e14, e15, e16, .map (some MT), .pointer (some ⟨B1, 6, none⟩), .slice ra rs.length rc, .map (some mR), .pointer (some ⟨B1, 10, none⟩), .slice fa ps.length fc, .map (some mP), e24, e25, e26, e27, e28, e29, e30, e31, e32, e33, e34, e35, e36, e37, e38, e39, e40, e41, e42, e43, e44, e45, e46, e47, e48, e49, e50, e51, e52, e53, e54, e55, e56, e57, e58, e59, e60, e61, e62, e63, e64, e65, e66, e67, e68, e69, e70, e71, e72, e73, e74, e75, e76, e77, e78, e79, e80, e81, e82, e83, e84, e85, e86, e87, e88, e89, e90, e91, e92, e93, e94, e95, e96, e97, e98], defers := ds } W := by
 dsimp only
 unfold ops15r4 code15
 conv => arg 3; whnf
 have hS : R4S B1 ra fa rc fc rs.length ps.length W := hG.s hb
 refine wpAnyH_ready (rs := [4, 8, 10]) (by kernel_rfl) (by simp) ?_
 refine AllReadyH.cons (o := _) rfl (fun K1 hK => ?_) (AllReadyH.cons (o := _) rfl (fun K2 hK => ?_) (AllReadyH.cons (o := _) rfl (fun K3 hK => ?_) AllReadyH.nil))
 ·obtain ⟨ob, hrun, hMn⟩ := run_update_kv (P := Try.prog) (T := 98) kI_key Try.underlying98 Try.underlying93 hM hA 1 (.map (some mR))
  unfold kI at hrun
  have bW := setBlock_below W MT ob (Nat.le_refl MT)
  have hb2 := hb.trans (setBlock_below W MT ob gMT)
  have oW : ∀ b, b ≠ MT → ({ W with heap := W.heap.setIfInBounds MT ob } : World).heap[b]? = W.heap[b]? := fun b h => by show (W.heap.setIfInBounds MT ob)[b]? = _; exact Array.getElem?_setIfInBounds_ne (fun e => h e.symm)
  have hR2 := hR.of_block (oW mR (fun e => nR e.symm))
  have hP2 := hP.of_block (oW mP (fun e => nP e.symm))
  have HN := Lib.hid (fun x0 x4 x5 x6 x7 x8 x9 x10 x11 x12 x13 x14 x15 x16 x24 x25 x26 x27 x28 x29 x30 x31 x32 x33 x34 x35 x36 x37 x38 x39 x40 x41 x42 x43 x44 x45 x46 x47 x48 x49 x50 x51 x52 x53 x54 x55 x56 x57 x58 x59 x60 x61 x62 x63 x64 x65 x66 x67 x68 x69 x70 x71 x72 x73 x74 x75 x76 x77 x78 x79 x80 x81 x82 x83 x84 x85 x86 x87 x88 x89 x90 x91 x92 x93 x94 x95 x96 x97 x98 => r4_0_3_4_7 B1 X E ra fa rc fc rs ps Wb hG _ hb2 MT (kvPut kvs 1 (.map (some mR))) gMT hMn (keysApart_put hA _ _) mR gR hR2 okR mP gP hP2 okP nR nP (kv_new z1 _) (kv_none z2 (by decide) _) x0 x4 x5 x6 x7 x8 x9 x10 x11 x12 x13 x14 x15 x16 x24 x25 x26 x27 x28 x29 x30 x31 x32 x33 x34 x35 x36 x37 x38 x39 x40 x41 x42 x43 x44 x45 x46 x47 x48 x49 x50 x51 x52 x53 x54 x55 x56 x57 x58 x59 x60 x61 x62 x63 x64 x65 x66 x67 x68 x69 x70 x71 x72 x73 x74 x75 x76 x77 x78 x79 x80 x81 x82 x83 x84 x85 x86 x87 x88 x89 x90 x91 x92 x93 x94 x95 x96 x97 x98)
  have HS2 := Lib.hid (hG.s hb2)
  clear hS hb2 bW oW hMn
  go_simp
  refine hK.out _ _ HS2.out (fun _ => ?_)
  try (simp only [Act.put, List.getElem_toArray, List.getElem_cons_zero, List.getElem_cons_succ, List.setIfInBounds_toArray, List.set_cons_zero, List.set_cons_succ])
  exact HN.out _ _ _ _ _ _ _ _ _ _ _ _ _ _ _ _ _ _ _ _ _ _ _ _ _ _ _ _ _ _ _ _ _ _ _ _ _ _ _ _ _ _ _ _ _ _ _ _ _ _ _ _ _ _ _ _ _ _ _ _ _ _ _ _ _ _ _ _ _ _ _ _ _ _ _ _ _ _ _ _ _ _ _ _ _ _ _ _ _
 ·obtain ⟨ob, hrun, hMn⟩ := run_update_kv (P := Try.prog) (T := 98) kI_key Try.underlying98 Try.underlying93 hM hA 2 (.map (some mP))
  unfold kI at hrun
  have bW := setBlock_below W MT ob (Nat.le_refl MT)
  have hb2 := hb.trans (setBlock_below W MT ob gMT)
  have oW : ∀ b, b ≠ MT → ({ W with heap := W.heap.setIfInBounds MT ob } : World).heap[b]? = W.heap[b]? := fun b h => by show (W.heap.setIfInBounds MT ob)[b]? = _; exact Array.getElem?_setIfInBounds_ne (fun e => h e.symm)
  have hR2 := hR.of_block (oW mR (fun e => nR e.symm))
  have hP2 := hP.of_block (oW mP (fun e => nP e.symm))
  have HN := Lib.hid (fun x0 x4 x5 x6 x7 x8 x9 x10 x11 x12 x13 x14 x15 x16 x24 x25 x26 x27 x28 x29 x30 x31 x32 x33 x34 x35 x36 x37 x38 x39 x40 x41 x42 x43 x44 x45 x46 x47 x48 x49 x50 x51 x52 x53 x54 x55 x56 x57 x58 x59 x60 x61 x62 x63 x64 x65 x66 x67 x68 x69 x70 x71 x72 x73 x74 x75 x76 x77 x78 x79 x80 x81 x82 x83 x84 x85 x86 x87 x88 x89 x90 x91 x92 x93 x94 x95 x96 x97 x98 => r4_0_3_7_8 B1 X E ra fa rc fc rs ps Wb hG _ hb2 MT (kvPut kvs 2 (.map (some mP))) gMT hMn (keysApart_put hA _ _) mR gR hR2 okR mP gP hP2 okP nR nP (kv_none z1 (by decide) _) (kv_new z2 _) x0 x4 x5 x6 x7 x8 x9 x10 x11 x12 x13 x14 x15 x16 x24 x25 x26 x27 x28 x29 x30 x31 x32 x33 x34 x35 x36 x37 x38 x39 x40 x41 x42 x43 x44 x45 x46 x47 x48 x49 x50 x51 x52 x53 x54 x55 x56 x57 x58 x59 x60 x61 x62 x63 x64 x65 x66 x67 x68 x69 x70 x71 x72 x73 x74 x75 x76 x77 x78 x79 x80 x81 x82 x83 x84 x85 x86 x87 x88 x89 x90 x91 x92 x93 x94 x95 x96 x97 x98)
  have HS2 := Lib.hid (hG.s hb2)
  clear hS hb2 bW oW hMn
  go_simp
  refine hK.out _ _ HS2.out (fun _ => ?_)
  try (simp only [Act.put, List.getElem_toArray, List.getElem_cons_zero, List.getElem_cons_succ, List.setIfInBounds_toArray, List.set_cons_zero, List.set_cons_succ])
  exact HN.out _ _ _ _ _ _ _ _ _ _ _ _ _ _ _ _ _ _ _ _ _ _ _ _ _ _ _ _ _ _ _ _ _ _ _ _ _ _ _ _ _ _ _ _ _ _ _ _ _ _ _ _ _ _ _ _ _ _ _ _ _ _ _ _ _ _ _ _ _ _ _ _ _ _ _ _ _ _ _ _ _ _ _ _ _ _ _ _ _
 ·have bW := (Below.refl W.heap.size W).alloc (Nat.le_refl _) (.cells #[.map none] 98)
  have hb2 := hb.trans (bW.mono hb.size)
  have hM2 := hM.below bW hM.lt
  have hR2 := hR.below bW hR.lt
  have hP2 := hP.below bW hP.lt
  have HN := Lib.hid (fun x0 x5 x6 x7 x8 x9 x10 x11 x12 x13 x14 x15 x16 x24 x25 x26 x27 x28 x29 x30 x31 x32 x33 x34 x35 x36 x37 x38 x39 x40 x41 x42 x43 x44 x45 x46 x47 x48 x49 x50 x51 x52 x53 x54 x55 x56 x57 x58 x59 x60 x61 x62 x63 x64 x65 x66 x67 x68 x69 x70 x71 x72 x73 x74 x75 x76 x77 x78 x79 x80 x81 x82 x83 x84 x85 x86 x87 x88 x89 x90 x91 x92 x93 x94 x95 x96 x97 x98 => r4_0_3_7_10 B1 X E ra fa rc fc rs ps Wb hG _ hb2 MT kvs gMT hM2 hA mR gR hR2 okR mP gP hP2 okP nR nP z1 z2 W.heap.size hb.size (heap_alloc_new W _) x0 x5 x6 x7 x8 x9 x10 x11 x12 x13 x14 x15 x16 x24 x25 x26 x27 x28 x29 x30 x31 x32 x33 x34 x35 x36 x37 x38 x39 x40 x41 x42 x43 x44 x45 x46 x47 x48 x49 x50 x51 x52 x53 x54 x55 x56 x57 x58 x59 x60 x61 x62 x63 x64 x65 x66 x67 x68 x69 x70 x71 x72 x73 x74 x75 x76 x77 x78 x79 x80 x81 x82 x83 x84 x85 x86 x87 x88 x89 x90 x91 x92 x93 x94 x95 x96 x97 x98)
  have HS2 := Lib.hid (hG.s hb2)
  clear hS hb2 bW
  go_simp
  refine hK.out _ _ HS2.out (fun _ => ?_)
  try (simp only [Act.put, List.getElem_toArray, List.getElem_cons_zero, List.getElem_cons_succ, List.setIfInBounds_toArray, List.set_cons_zero, List.set_cons_succ])
  exact HN.out _ _ _ _ _ _ _ _ _ _ _ _ _ _ _ _ _ _ _ _ _ _ _ _ _ _ _ _ _ _ _ _ _ _ _ _ _ _ _ _ _ _ _ _ _ _ _ _ _ _ _ _ _ _ _ _ _ _ _ _ _ _ _ _ _ _ _ _ _ _ _ _ _ _ _ _ _ _ _ _ _ _ _ _ _ _ _ _
set_option maxRecDepth 100000 in
set_option maxHeartbeats 2000000 in
theorem r4_0_3_10 {ds : List Deferred} {Q : Exit → Act → World → Prop} (B1 X E : Nat) (ra fa : Option Addr) (rc fc : Nat) (rs : List Rol) (ps : List Ph) (Wb : World) (hG : R4G B1 X E ra fa rc fc rs ps ds Wb Q) (W : World) (hb : Below Wb.heap.size Wb W) (MT : Nat) (kvs : List (Int × Value)) (gMT : Wb.heap.size ≤ MT) (hM : MapAt kI W MT kvs) (hA : KeysApart kvs) (mR : Nat) (gR : Wb.heap.size ≤ mR) (hR : MapAt sv W mR (tabOf (rs.map Rol.name))) (okR : (rs.map Rol.name).all nameB = true) (nR : MT ≠ mR) (z1 : kvGet kvs 1 = none) (z2 : kvGet kvs 2 = none) (TB : Nat) (gTB : Wb.heap.size ≤ TB) (hTB : W.heap[TB]? = some (.cells #[.map none] 98 (0, 0))) (e0 e5 e6 e7 e8 e9 e10 e11 e12 e13 e14 e15 e16 e23 e24 e25 e26 e27 e28 e29 e30 e31 e32 e33 e34 e35 e36 e37 e38 e39 e40 e41 e42 e43 e44 e45 e46 e47 e48 e49 e50 e51 e52 e53 e54 e55 e56 e57 e58 e59 e60 e61 e62 e63 e64 e65 e66 e67 e68 e69 e70 e71 e72 e73 e74 e75 e76 e77 e78 e79 e80 e81 e82 e83 e84 e85 e86 e87 e88 e89 e90 e91 e92 e93 e94 e95 e96 e97 e98 : Value) :
  wpAnyH Try.prog .any ops15r4 Q (R4S B1 ra fa rc fc rs.length ps.length) 5 #[true, true, true, true, false, true, true, false, false, false, true, false] { tmps := #[e0, .pointer (some ⟨B1, 0, none⟩), .pointer (some ⟨X, 0, none⟩), .pointer (some ⟨E, 0, none⟩), .pointer (some ⟨TB, 0, none⟩), e5, e6, e7, e8, e9, e10, e11, e12, e13, e14, e15, e16, .map (some MT), .pointer (some ⟨B1, 6, none⟩), .slice ra rs.length rc, .map (some mR), .pointer (some ⟨B1, 10, none⟩), .slice fa ps.length fc, e23, e24, e25, e26, e27, e28, e29, e30, e31, e32, e33, e34, e35, e36, e37, e38, e39, e40, e41, e42, e43, e44, e45, e46, e47, e48, e49, e50, e51, e52, e53, e54, e55, e56, e57, e58, e59, e60, e61, e62, e63, e64, e65, e66, e67, e68, e69, e70, e71, e72, e73, e74, e75, e76, e77, e78, e79, e80, e81, e82, e83, e84, e85, e86, e87, e88, e89, e90, e91, e92, e93, e94, e95, e96, e97, e98], defers := ds } W := by
 dsimp only
 unfold ops15r4 code15
 conv => arg 3; whnf
 have hS : R4S B1 ra fa rc fc rs.length ps.length W := hG.s hb
 refine wpAnyH_ready (rs := [4, 7]) (by kernel_rfl) (by simp) ?_
 refine AllReadyH.cons (o := _) rfl (fun K1 hK => ?_) (AllReadyH.cons (o := _) rfl (fun K2 hK => ?_) AllReadyH.nil)
 ·obtain ⟨ob, hrun, hMn⟩ := run_update_kv (P := Try.prog) (T := 98) kI_key Try.underlying98 Try.underlying93 hM hA 1 (.map (some mR))
  unfold kI at hrun
  have bW := setBlock_below W MT ob (Nat.le_refl MT)
  have hb2 := hb.trans (setBlock_below W MT ob gMT)
  have oW : ∀ b, b ≠ MT → ({ W with heap := W.heap.setIfInBounds MT ob } : World).heap[b]? = W.heap[b]? := fun b h => by show (W.heap.setIfInBounds MT ob)[b]? = _; exact Array.getElem?_setIfInBounds_ne (fun e => h e.symm)
  have hR2 := hR.of_block (oW mR (fun e => nR e.symm))
  have hTB2 := (oW TB (fun e => by obtain ⟨es, cl, h3, _⟩ := hM; rw [← e, hTB] at h3; cases h3)).trans hTB
  have HN := Lib.hid (fun x0 x5 x6 x7 x8 x9 x10 x11 x12 x13 x14 x15 x16 x23 x24 x25 x26 x27 x28 x29 x30 x31 x32 x33 x34 x35 x36 x37 x38 x39 x40 x41 x42 x43 x44 x45 x46 x47 x48 x49 x50 x51 x52 x53 x54 x55 x56 x57 x58 x59 x60 x61 x62 x63 x64 x65 x66 x67 x68 x69 x70 x71 x72 x73 x74 x75 x76 x77 x78 x79 x80 x81 x82 x83 x84 x85 x86 x87 x88 x89 x90 x91 x92 x93 x94 x95 x96 x97 x98 => r4_0_3_4_10 B1 X E ra fa rc fc rs ps Wb hG _ hb2 MT (kvPut kvs 1 (.map (some mR))) gMT hMn (keysApart_put hA _ _) mR gR hR2 okR nR (kv_new z1 _) (kv_none z2 (by decide) _) TB gTB hTB2 x0 x5 x6 x7 x8 x9 x10 x11 x12 x13 x14 x15 x16 x23 x24 x25 x26 x27 x28 x29 x30 x31 x32 x33 x34 x35 x36 x37 x38 x39 x40 x41 x42 x43 x44 x45 x46 x47 x48 x49 x50 x51 x52 x53 x54 x55 x56 x57 x58 x59 x60 x61 x62 x63 x64 x65 x66 x67 x68 x69 x70 x71 x72 x73 x74 x75 x76 x77 x78 x79 x80 x81 x82 x83 x84 x85 x86 x87 x88 x89 x90 x91 x92 x93 x94 x95 x96 x97 x98)
  have HS2 := Lib.hid (hG.s hb2)
  clear hS hb2 bW oW hMn
  go_simp
  refine hK.out _ _ HS2.out (fun _ => ?_)
  try (simp only [Act.put, List.getElem_toArray, List.getElem_cons_zero, List.getElem_cons_succ, List.setIfInBounds_toArray, List.set_cons_zero, List.set_cons_succ])
  exact HN.out _ _ _ _ _ _ _ _ _ _ _ _ _ _ _ _ _ _ _ _ _ _ _ _ _ _ _ _ _ _ _ _ _ _ _ _ _ _ _ _ _ _ _ _ _ _ _ _ _ _ _ _ _ _ _ _ _ _ _ _ _ _ _ _ _ _ _ _ _ _ _ _ _ _ _ _ _ _ _ _ _ _ _ _ _ _ _ _ _
 ·have HT := Lib.hid (hG.t43 W hb)
  clear hS
  go_simp
  go_at_call 43
  refine HT.out.mono ?_
  rintro e W2 ⟨(⟨okN, mN, gN, rfl, hN⟩ | ⟨bad, rfl⟩), bW⟩
  ·have hb2 := hb.trans (bW.mono hb.size)
   have hM2 := hM.below bW hM.lt
   have hR2 := hR.below bW hR.lt
   have hTB2 := (bW.block _ (Array.getElem?_eq_some_iff.1 hTB).1).trans hTB
   refine hK.out _ _ (hG.s hb2) (fun _ => ?_)
   try (simp only [Act.put, List.getElem_toArray, List.getElem_cons_zero, List.getElem_cons_succ, List.setIfInBounds_toArray, List.set_cons_zero, List.set_cons_succ])
   exact r4_0_3_7_10 B1 X E ra fa rc fc rs ps Wb hG W2 hb2 MT kvs gMT hM2 hA mR gR hR2 okR mN (Nat.le_trans hb.size gN) hN okN nR (by have := hM.lt; omega) z1 z2 TB gTB hTB2 _ _ _ _ _ _ _ _ _ _ _ _ _ _ _ _ _ _ _ _ _ _ _ _ _ _ _ _ _ _ _ _ _ _ _ _ _ _ _ _ _ _ _ _ _ _ _ _ _ _ _ _ _ _ _ _ _ _ _ _ _ _ _ _ _ _ _ _ _ _ _ _ _ _ _ _ _ _ _ _ _ _ _ _ _ _ _ _
  ·exact hG.err _ _ W2 (hb.trans (bW.mono hb.size)) (Or.inr bad) rfl rfl rfl
set_option maxRecDepth 100000 in
set_option maxHeartbeats 2000000 in
theorem r4_3_7_10 {ds : List Deferred} {Q : Exit → Act → World → Prop} (B1 X E : Nat) (ra fa : Option Addr) (rc fc : Nat) (rs : List Rol) (ps : List Ph) (Wb : World) (hG : R4G B1 X E ra fa rc fc rs ps ds Wb Q) (W : World) (hb : Below Wb.heap.size Wb W) (mR : Nat) (gR : Wb.heap.size ≤ mR) (hR : MapAt sv W mR (tabOf (rs.map Rol.name))) (okR : (rs.map Rol.name).all nameB = true) (mP : Nat) (gP : Wb.heap.size ≤ mP) (hP : MapAt sv W mP (tabOf (ps.map Ph.name))) (okP : (ps.map Ph.name).all nameB = true) (TB : Nat) (gTB : Wb.heap.size ≤ TB) (hTB : W.heap[TB]? = some (.cells #[.map none] 98 (0, 0))) (e0 e5 e6 e7 e8 e9 e10 e11 e12 e13 e14 e15 e16 e17 e24 e25 e26 e27 e28 e29 e30 e31 e32 e33 e34 e35 e36 e37 e38 e39 e40 e41 e42 e43 e44 e45 e46 e47 e48 e49 e50 e51 e52 e53 e54 e55 e56 e57 e58 e59 e60 e61 e62 e63 e64 e65 e66 e67 e68 e69 e70 e71 e72 e73 e74 e75 e76 e77 e78 e79 e80 e81 e82 e83 e84 e85 e86 e87 e88 e89 e90 e91 e92 e93 e94 e95 e96 e97 e98 : Value) :
  wpAnyH Try.prog .any ops15r4 Q (R4S B1 ra fa rc fc rs.length ps.length) 5 #[false, true, true, true, false, true, true, true, false, false, true, false] { tmps := #[e0, .pointer (some ⟨B1, 0, none⟩), .pointer (some ⟨X, 0, none⟩), .pointer (some ⟨E, 0, none⟩), .pointer (some ⟨TB, 0, none⟩), e5, e6, e7, e8, e9, e10, e11, e12, e13, e14, e15, e16, e17, .pointer (some ⟨B1, 6, none⟩), .slice ra rs.length rc, .map (some mR), .pointer (some ⟨B1, 10, none⟩), .slice fa ps.length fc, .map (some mP), e24, e25, e26, e27, e28, e29, e30, e31, e32, e33, e34, e35, e36, e37, e38, e39, e40, e41, e42, e43, e44, e45, e46, e47, e48, e49, e50, e51, e52, e53, e54, e55, e56, e57, e58, e59, e60, e61, e62, e63, e64, e65, e66, e67, e68, e69, e70, e71, e72, e73, e74, e75, e76, e77, e78, e79, e80, e81, e82, e83, e84, e85, e86, e87, e88, e89, e90, e91, e92, e93, e94, e95, e96, e97, e98], defers := ds } W := by
 dsimp only
 unfold ops15r4 code15
 conv => arg 3; whnf
 have hS : R4S B1 ra fa rc fc rs.length ps.length W := hG.s hb
 refine wpAnyH_ready (rs := [0]) (by kernel_rfl) (by simp) ?_
 refine AllReadyH.cons (o := _) rfl (fun K1 hK => ?_) AllReadyH.nil
 ·have hmm := @run_makeMap Try.prog
  have bW := (Below.refl W.heap.size W).alloc (Nat.le_refl _) (.map #[] 0)
  have hb2 := hb.trans (bW.mono hb.size)
  have hR2 := hR.below bW hR.lt
  have hP2 := hP.below bW hP.lt
  have hTB2 := (bW.block _ (Array.getElem?_eq_some_iff.1 hTB).1).trans hTB
  have HN := Lib.hid (fun x0 x5 x6 x7 x8 x9 x10 x11 x12 x13 x14 x15 x16 x24 x25 x26 x27 x28 x29 x30 x31 x32 x33 x34 x35 x36 x37 x38 x39 x40 x41 x42 x43 x44 x45 x46 x47 x48 x49 x50 x51 x52 x53 x54 x55 x56 x57 x58 x59 x60 x61 x62 x63 x64 x65 x66 x67 x68 x69 x70 x71 x72 x73 x74 x75 x76 x77 x78 x79 x80 x81 x82 x83 x84 x85 x86 x87 x88 x89 x90 x91 x92 x93 x94 x95 x96 x97 x98 => r4_0_3_7_10 B1 X E ra fa rc fc rs ps Wb hG _ hb2 W.heap.size [] hb.size (MapAt.new W) List.nodup_nil mR gR hR2 okR mP gP hP2 okP (by have := hR.lt; omega) (by have := hP.lt; omega) rfl rfl TB gTB hTB2 x0 x5 x6 x7 x8 x9 x10 x11 x12 x13 x14 x15 x16 x24 x25 x26 x27 x28 x29 x30 x31 x32 x33 x34 x35 x36 x37 x38 x39 x40 x41 x42 x43 x44 x45 x46 x47 x48 x49 x50 x51 x52 x53 x54 x55 x56 x57 x58 x59 x60 x61 x62 x63 x64 x65 x66 x67 x68 x69 x70 x71 x72 x73 x74 x75 x76 x77 x78 x79 x80 x81 x82 x83 x84 x85 x86 x87 x88 x89 x90 x91 x92 x93 x94 x95 x96 x97 x98)
  have HS2 := Lib.hid (hG.s hb2)
  clear hS hb2 bW
  go_simp
  refine hK.out _ _ HS2.out (fun _ => ?_)
  try (simp only [Act.put, List.getElem_toArray, List.getElem_cons_zero, List.getElem_cons_succ, List.setIfInBounds_toArray, List.set_cons_zero, List.set_cons_succ])
  exact HN.out _ _ _ _ _ _ _ _ _ _ _ _ _ _ _ _ _ _ _ _ _ _ _ _ _ _ _ _ _ _ _ _ _ _ _ _ _ _ _ _ _ _ _ _ _ _ _ _ _ _ _ _ _ _ _ _ _ _ _ _ _ _ _ _ _ _ _ _ _ _ _ _ _ _ _ _ _ _ _ _ _ _ _ _ _ _ _ _
set_option maxRecDepth 100000 in
set_option maxHeartbeats 2000000 in
theorem r4_0_3 {ds : List Deferred} {Q : Exit → Act → World → Prop} (B1 X E : Nat) (ra fa : Option Addr) (rc fc : Nat) (rs : List Rol) (ps : List Ph) (Wb : World) (hG : R4G B1 X E ra fa rc fc rs ps ds Wb Q) (W : World) (hb : Below Wb.heap.size Wb W) (MT : Nat) (kvs : List (Int × Value)) (gMT : Wb.heap.size ≤ MT) (hM : MapAt kI W MT kvs) (hA : KeysApart kvs) (mR : Nat) (gR : Wb.heap.size ≤ mR) (hR : MapAt sv W mR (tabOf (rs.map Rol.name))) (okR : (rs.map Rol.name).all nameB = true) (nR : MT ≠ mR) (z1 : kvGet kvs 1 = none) (z2 : kvGet kvs 2 = none) (e0 e4 e5 e6 e7 e8 e9 e10 e11 e12 e13 e14 e15 e16 e23 e24 e25 e26 e27 e28 e29 e30 e31 e32 e33 e34 e35 e36 e37 e38 e39 e40 e41 e42 e43 e44 e45 e46 e47 e48 e49 e50 e51 e52 e53 e54 e55 e56 e57 e58 e59 e60 e61 e62 e63 e64 e65 e66 e67 e68 e69 e70 e71 e72 e73 e74 e75 e76 e77 e78 e79 e80 e81 e82 e83 e84 e85 e86 e87 e88 e89 e90 e91 e92 e93 e94 e95 e96 e97 e98 : Value) :
  wpAnyH Try.prog .any ops15r4 Q (R4S B1 ra fa rc fc rs.length ps.length) 6 #[true, true, true, true, false, true, true, false, false, false, false, false] { tmps := #[e0, .pointer (some ⟨B1, 0, none⟩), .pointer (some ⟨X, 0, none⟩), .pointer (some ⟨E, 0, none⟩), e4, e5, e6, e7, e8, e9, e10, e11, e12, e13, e14, e15, e16, .map (some MT), .pointer (some ⟨B1, 6, none⟩), .slice ra rs.length rc, .map (some mR), .pointer (some ⟨B1, 10, none⟩), .slice fa ps.length fc, e23, e24, e25, e26, e27, e28, e29, e30, e31, e32, e33, e34, e35, e36, e37, e38, e39, e40, e41, e42, e43, e44, e45, e46, e47, e48, e49, e50, e51, e52, e53, e54, e55, e56, e57, e58, e59, e60, e61, e62, e63, e64, e65, e66, e67, e68, e69, e70, e71, e72, e73, e74, e75, e76, e77, e78, e79, e80, e81, e82, e83, e84, e85, e86, e87, e88, e89, e90, e91, e92, e93, e94, e95, e96, e97, e98], defers := ds } W := by
 dsimp only
 unfold ops15r4 code15
 conv => arg 3; whnf
 have hS : R4S B1 ra fa rc fc rs.length ps.length W := hG.s hb
 refine wpAnyH_ready (rs := [4, 7, 10]) (by kernel_rfl) (by simp) ?_
 refine AllReadyH.cons (o := _) rfl (fun K1 hK => ?_) (AllReadyH.cons (o := _) rfl (fun K2 hK => ?_) (AllReadyH.cons (o := _) rfl (fun K3 hK => ?_) AllReadyH.nil))
 ·obtain ⟨ob, hrun, hMn⟩ := run_update_kv (P := Try.prog) (T := 98) kI_key Try.underlying98 Try.underlying93 hM hA 1 (.map (some mR))
  unfold kI at hrun
  have bW := setBlock_below W MT ob (Nat.le_refl MT)
  have hb2 := hb.trans (setBlock_below W MT ob gMT)
  have oW : ∀ b, b ≠ MT → ({ W with heap := W.heap.setIfInBounds MT ob } : World).heap[b]? = W.heap[b]? := fun b h => by show (W.heap.setIfInBounds MT ob)[b]? = _; exact Array.getElem?_setIfInBounds_ne (fun e => h e.symm)
  have hR2 := hR.of_block (oW mR (fun e => nR e.symm))
  have HN := Lib.hid (fun x0 x4 x5 x6 x7 x8 x9 x10 x11 x12 x13 x14 x15 x16 x23 x24 x25 x26 x27 x28 x29 x30 x31 x32 x33 x34 x35 x36 x37 x38 x39 x40 x41 x42 x43 x44 x45 x46 x47 x48 x49 x50 x51 x52 x53 x54 x55 x56 x57 x58 x59 x60 x61 x62 x63 x64 x65 x66 x67 x68 x69 x70 x71 x72 x73 x74 x75 x76 x77 x78 x79 x80 x81 x82 x83 x84 x85 x86 x87 x88 x89 x90 x91 x92 x93 x94 x95 x96 x97 x98 => r4_0_3_4 B1 X E ra fa rc fc rs ps Wb hG _ hb2 MT (kvPut kvs 1 (.map (some mR))) gMT hMn (keysApart_put hA _ _) mR gR hR2 okR nR (kv_new z1 _) (kv_none z2 (by decide) _) x0 x4 x5 x6 x7 x8 x9 x10 x11 x12 x13 x14 x15 x16 x23 x24 x25 x26 x27 x28 x29 x30 x31 x32 x33 x34 x35 x36 x37 x38 x39 x40 x41 x42 x43 x44 x45 x46 x47 x48 x49 x50 x51 x52 x53 x54 x55 x56 x57 x58 x59 x60 x61 x62 x63 x64 x65 x66 x67 x68 x69 x70 x71 x72 x73 x74 x75 x76 x77 x78 x79 x80 x81 x82 x83 x84 x85 x86 x87 x88 x89 x90 x91 x92 x93 x94 x95 x96 x97 x98)
  have HS2 := Lib.hid (hG.s hb2)
  clear hS hb2 bW oW hMn
  go_simp
  refine hK.out _ _ HS2.out (fun _ => ?_)
  try (simp only [Act.put, List.getElem_toArray, List.getElem_cons_zero, List.getElem_cons_succ, List.setIfInBounds_toArray, List.set_cons_zero, List.set_cons_succ])
  exact HN.out _ _ _ _ _ _ _ _ _ _ _ _ _ _ _ _ _ _ _ _ _ _ _ _ _ _ _ _ _ _ _ _ _ _ _ _ _ _ _ _ _ _ _ _ _ _ _ _ _ _ _ _ _ _ _ _ _ _ _ _ _ _ _ _ _ _ _ _ _ _ _ _ _ _ _ _ _ _ _ _ _ _ _ _ _ _ _ _ _ _
 ·have HT := Lib.hid (hG.t43 W hb)
  clear hS
  go_simp
  go_at_call 43
  refine HT.out.mono ?_
  rintro e W2 ⟨(⟨okN, mN, gN, rfl, hN⟩ | ⟨bad, rfl⟩), bW⟩
  ·have hb2 := hb.trans (bW.mono hb.size)
   have hM2 := hM.below bW hM.lt
   have hR2 := hR.below bW hR.lt
   refine hK.out _ _ (hG.s hb2) (fun _ => ?_)
   try (simp only [Act.put, List.getElem_toArray, List.getElem_cons_zero, List.getElem_cons_succ, List.setIfInBounds_toArray, List.set_cons_zero, List.set_cons_succ])
   exact r4_0_3_7 B1 X E ra fa rc fc rs ps Wb hG W2 hb2 MT kvs gMT hM2 hA mR gR hR2 okR mN (Nat.le_trans hb.size gN) hN okN nR (by have := hM.lt; omega) z1 z2 _ _ _ _ _ _ _ _ _ _ _ _ _ _ _ _ _ _ _ _ _ _ _ _ _ _ _ _ _ _ _ _ _ _ _ _ _ _ _ _ _ _ _ _ _ _ _ _ _ _ _ _ _ _ _ _ _ _ _ _ _ _ _ _ _ _ _ _ _ _ _ _ _ _ _ _ _ _ _ _ _ _ _ _ _ _ _ _ _
  ·exact hG.err _ _ W2 (hb.trans (bW.mono hb.size)) (Or.inr bad) rfl rfl rfl
 ·have bW := (Below.refl W.heap.size W).alloc (Nat.le_refl _) (.cells #[.map none] 98)
  have hb2 := hb.trans (bW.mono hb.size)
  have hM2 := hM.below bW hM.lt
  have hR2 := hR.below bW hR.lt
  have HN := Lib.hid (fun x0 x5 x6 x7 x8 x9 x10 x11 x12 x13 x14 x15 x16 x23 x24 x25 x26 x27 x28 x29 x30 x31 x32 x33 x34 x35 x36 x37 x38 x39 x40 x41 x42 x43 x44 x45 x46 x47 x48 x49 x50 x51 x52 x53 x54 x55 x56 x57 x58 x59 x60 x61 x62 x63 x64 x65 x66 x67 x68 x69 x70 x71 x72 x73 x74 x75 x76 x77 x78 x79 x80 x81 x82 x83 x84 x85 x86 x87 x88 x89 x90 x91 x92 x93 x94 x95 x96 x97 x98 => r4_0_3_10 B1 X E ra fa rc fc rs ps Wb hG _ hb2 MT kvs gMT hM2 hA mR gR hR2 okR nR z1 z2 W.heap.size hb.size (heap_alloc_new W _) x0 x5 x6 x7 x8 x9 x10 x11 x12 x13 x14 x15 x16 x23 x24 x25 x26 x27 x28 x29 x30 x31 x32 x33 x34 x35 x36 x37 x38 x39 x40 x41 x42 x43 x44 x45 x46 x47 x48 x49 x50 x51 x52 x53 x54 x55 x56 x57 x58 x59 x60 x61 x62 x63 x64 x65 x66 x67 x68 x69 x70 x71 x72 x73 x74 x75 x76 x77 x78 x79 x80 x81 x82 x83 x84 x85 x86 x87 x88 x89 x90 x91 x92 x93 x94 x95 x96 x97 x98)
  have HS2 := Lib.hid (hG.s hb2)
  clear hS hb2 bW
  go_simp
  refine hK.out _ _ HS2.out (fun _ => ?_)
  try (simp only [Act.put, List.getElem_toArray, List.getElem_cons_zero, List.getElem_cons_succ, List.setIfInBounds_toArray, List.set_cons_zero, List.set_cons_succ])
  exact HN.out _ _ _ _ _ _ _ _ _ _ _ _ _ _ _ _ _ _ _ _ _ _ _ _ _ _ _ _ _ _ _ _ _ _ _ _ _ _ _ _ _ _ _ _ _ _ _ _ _ _ _ _ _ _ _ _ _ _ _ _ _ _ _ _ _ _ _ _ _ _ _ _ _ _ _ _ _ _ _ _ _ _ _ _ _ _ _ _ _
set_option maxRecDepth 100000 in
set_option maxHeartbeats 2000000 in
theorem r4_0_10 {ds : List Deferred} {Q : Exit → Act → World → Prop} (B1 X E : Nat) (ra fa : Option Addr) (rc fc : Nat) (rs : List Rol) (ps : List Ph) (Wb : World) (hG : R4G B1 X E ra fa rc fc rs ps ds Wb Q) (W : World) (hb : Below Wb.heap.size Wb W) (MT : Nat) (kvs : List (Int × Value)) (gMT : Wb.heap.size ≤ MT) (hM : MapAt kI W MT kvs) (hA : KeysApart kvs) (z1 : kvGet kvs 1 = none) (z2 : kvGet kvs 2 = none) (TB : Nat) (gTB : Wb.heap.size ≤ TB) (hTB : W.heap[TB]? = some (.cells #[.map none] 98 (0, 0))) (e0 e5 e6 e7 e8 e9 e10 e11 e12 e13 e14 e15 e16 e20 e23 e24 e25 e26 e27 e28 e29 e30 e31 e32 e33 e34 e35 e36 e37 e38 e39 e40 e41 e42 e43 e44 e45 e46 e47 e48 e49 e50 e51 e52 e53 e54 e55 e56 e57 e58 e59 e60 e61 e62 e63 e64 e65 e66 e67 e68 e69 e70 e71 e72 e73 e74 e75 e76 e77 e78 e79 e80 e81 e82 e83 e84 e85 e86 e87 e88 e89 e90 e91 e92 e93 e94 e95 e96 e97 e98 : Value) :
  wpAnyH Try.prog .any ops15r4 Q (R4S B1 ra fa rc fc rs.length ps.length) 6 #[true, true, true, false, false, true, true, false, false, false, true, false] { tmps := #[e0, .pointer (some ⟨B1, 0, none⟩), .pointer (some ⟨X, 0, none⟩), .pointer (some ⟨E, 0, none⟩), .pointer (some ⟨TB, 0, none⟩), e5, e6, e7, e8, e9, e10, e11, e12, e13, e14, e15, e16, .map (some MT), .pointer (some ⟨B1, 6, none⟩), .slice ra rs.length rc, e20, .pointer (some ⟨B1, 10, none⟩), .slice fa ps.length fc, e23, e24, e25, e26, e27, e28, e29, e30, e31, e32, e33, e34, e35, e36, e37, e38, e39, e40, e41, e42, e43, e44, e45, e46, e47, e48, e49, e50, e51, e52, e53, e54, e55, e56, e57, e58, e59, e60, e61, e62, e63, e64, e65, e66, e67, e68, e69, e70, e71, e72, e73, e74, e75, e76, e77, e78, e79, e80, e81, e82, e83, e84, e85, e86, e87, e88, e89, e90, e91, e92, e93, e94, e95, e96, e97, e98], defers := ds } W := by
 dsimp only
 unfold ops15r4 code15
 conv => arg 3; whnf
 have hS : R4S B1 ra fa rc fc rs.length ps.length W := hG.s hb
 refine wpAnyH_ready (rs := [3]) (by kernel_rfl) (by simp) ?_
 refine AllReadyH.cons (o := _) rfl (fun K1 hK => ?_) AllReadyH.nil
 ·have HT := Lib.hid (hG.t41 W hb)
  clear hS
  go_simp
  go_at_call 41
  refine HT.out.mono ?_
  rintro e W2 ⟨(⟨okN, mN, gN, rfl, hN⟩ | ⟨bad, rfl⟩), bW⟩
  ·have hb2 := hb.trans (bW.mono hb.size)
   have hM2 := hM.below bW hM.lt
   have hTB2 := (bW.block _ (Array.getElem?_eq_some_iff.1 hTB).1).trans hTB
   refine hK.out _ _ (hG.s hb2) (fun _ => ?_)
   try (simp only [Act.put, List.getElem_toArray, List.getElem_cons_zero, List.getElem_cons_succ, List.setIfInBounds_toArray, List.set_cons_zero, List.set_cons_succ])
   exact r4_0_3_10 B1 X E ra fa rc fc rs ps Wb hG W2 hb2 MT kvs gMT hM2 hA mN (Nat.le_trans hb.size gN) hN okN (by have := hM.lt; omega) z1 z2 TB gTB hTB2 _ _ _ _ _ _ _ _ _ _ _ _ _ _ _ _ _ _ _ _ _ _ _ _ _ _ _ _ _ _ _ _ _ _ _ _ _ _ _ _ _ _ _ _ _ _ _ _ _ _ _ _ _ _ _ _ _ _ _ _ _ _ _ _ _ _ _ _ _ _ _ _ _ _ _ _ _ _ _ _ _ _ _ _ _ _ _ _ _
  ·exact hG.err _ _ W2 (hb.trans (bW.mono hb.size)) (Or.inl bad) rfl rfl rfl
set_option maxRecDepth 100000 in
set_option maxHeartbeats 2000000 in
theorem r4_3_7 {ds : List Deferred} {Q : Exit → Act → World → Prop} (B1 X E : Nat) (ra fa : Option Addr) (rc fc : Nat) (rs : List Rol) (ps : List Ph) (Wb : World) (hG : R4G B1 X E ra fa rc fc rs ps ds Wb Q) (W : World) (hb : Below Wb.heap.size Wb W) (mR : Nat) (gR : Wb.heap.size ≤ mR) (hR : MapAt sv W mR (tabOf (rs.map Rol.name))) (okR : (rs.map Rol.name).all nameB = true) (mP : Nat) (gP : Wb.heap.size ≤ mP) (hP : MapAt sv W mP (tabOf (ps.map Ph.name))) (okP : (ps.map Ph.name).all nameB = true) (e0 e4 e5 e6 e7 e8 e9 e10 e11 e12 e13 e14 e15 e16 e17 e24 e25 e26 e27 e28 e29 e30 e31 e32 e33 e34 e35 e36 e37 e38 e39 e40 e41 e42 e43 e44 e45 e46 e47 e48 e49 e50 e51 e52 e53 e54 e55 e56 e57 e58 e59 e60 e61 e62 e63 e64 e65 e66 e67 e68 e69 e70 e71 e72 e73 e74 e75 e76 e77 e78 e79 e80 e81 e82 e83 e84 e85 e86 e87 e88 e89 e90 e91 e92 e93 e94 e95 e96 e97 e98 : Value) :
  wpAnyH Try.prog .any ops15r4 Q (R4S B1 ra fa rc fc rs.length ps.length) 6 #[false, true, true, true, false, true, true, true, false, false, false, false] { tmps := #[e0, .pointer (some ⟨B1, 0, none⟩), .pointer (some ⟨X, 0, none⟩), .pointer (some ⟨E, 0, none⟩), e4, e5, e6, e7, e8, e9, e10, e11, e12, e13, e14, e15, e16, e17, .pointer (some ⟨B1, 6, none⟩), .slice ra rs.length rc, .map (some mR), .pointer (some ⟨B1, 10, none⟩), .slice fa ps.length fc, .map (some mP), e24, e25, e26, e27, e28, e29, e30, e31, e32, e33, e34, e35, e36, e37, e38, e39, e40, e41, e42, e43, e44, e45, e46, e47, e48, e49, e50, e51, e52, e53, e54, e55, e56, e57, e58, e59, e60, e61, e62, e63, e64, e65, e66, e67, e68, e69, e70, e71, e72, e73, e74, e75, e76, e77, e78, e79, e80, e81, e82, e83, e84, e85, e86, e87, e88, e89, e90, e91, e92, e93, e94, e95, e96, e97, e98], defers := ds } W := by
 dsimp only
 unfold ops15r4 code15
 conv => arg 3; whnf
 have hS : R4S B1 ra fa rc fc rs.length ps.length W := hG.s hb
 refine wpAnyH_ready (rs := [0, 10]) (by kernel_rfl) (by simp) ?_
 refine AllReadyH.cons (o := _) rfl (fun K1 hK => ?_) (AllReadyH.cons (o := _) rfl (fun K2 hK => ?_) AllReadyH.nil)
 ·have hmm := @run_makeMap Try.prog
  have bW := (Below.refl W.heap.size W).alloc (Nat.le_refl _) (.map #[] 0)
  have hb2 := hb.trans (bW.mono hb.size)
  have hR2 := hR.below bW hR.lt
  have hP2 := hP.below bW hP.lt
  have HN := Lib.hid (fun x0 x4 x5 x6 x7 x8 x9 x10 x11 x12 x13 x14 x15 x16 x24 x25 x26 x27 x28 x29 x30 x31 x32 x33 x34 x35 x36 x37 x38 x39 x40 x41 x42 x43 x44 x45 x46 x47 x48 x49 x50 x51 x52 x53 x54 x55 x56 x57 x58 x59 x60 x61 x62 x63 x64 x65 x66 x67 x68 x69 x70 x71 x72 x73 x74 x75 x76 x77 x78 x79 x80 x81 x82 x83 x84 x85 x86 x87 x88 x89 x90 x91 x92 x93 x94 x95 x96 x97 x98 => r4_0_3_7 B1 X E ra fa rc fc rs ps Wb hG _ hb2 W.heap.size [] hb.size (MapAt.new W) List.nodup_nil mR gR hR2 okR mP gP hP2 okP (by have := hR.lt; omega) (by have := hP.lt; omega) rfl rfl x0 x4 x5 x6 x7 x8 x9 x10 x11 x12 x13 x14 x15 x16 x24 x25 x26 x27 x28 x29 x30 x31 x32 x33 x34 x35 x36 x37 x38 x39 x40 x41 x42 x43 x44 x45 x46 x47 x48 x49 x50 x51 x52 x53 x54 x55 x56 x57 x58 x59 x60 x61 x62 x63 x64 x65 x66 x67 x68 x69 x70 x71 x72 x73 x74 x75 x76 x77 x78 x79 x80 x81 x82 x83 x84 x85 x86 x87 x88 x89 x90 x91 x92 x93 x94 x95 x96 x97 x98)
  have HS2 := Lib.hid (hG.s hb2)
  clear hS hb2 bW
  go_simp
  refine hK.out _ _ HS2.out (fun _ => ?_)
  try (simp only [Act.put, List.getElem_toArray, List.getElem_cons_zero, List.getElem_cons_succ, List.setIfInBounds_toArray, List.set_cons_zero, List.set_cons_succ])
  exact HN.out _ _ _ _ _ _ _ _ _ _ _ _ _ _ _ _ _ _ _ _ _ _ _ _ _ _ _ _ _ _ _ _ _ _ _ _ _ _ _ _ _ _ _ _ _ _ _ _ _ _ _ _ _ _ _ _ _ _ _ _ _ _ _ _ _ _ _ _ _ _ _ _ _ _ _ _ _ _ _ _ _ _ _ _ _ _ _ _ _
 ·have bW := (Below.refl W.heap.size W).alloc (Nat.le_refl _) (.cells #[.map none] 98)
  have hb2 := hb.trans (bW.mono hb.size)
  have hR2 := hR.below bW hR.lt
  have hP2 := hP.below bW hP.lt
  have HN := Lib.hid (fun x0 x5 x6 x7 x8 x9 x10 x11 x12 x13 x14 x15 x16 x17 x24 x25 x26 x27 x28 x29 x30 x31 x32 x33 x34 x35 x36 x37 x38 x39 x40 x41 x42 x43 x44 x45 x46 x47 x48 x49 x50 x51 x52 x53 x54 x55 x56 x57 x58 x59 x60 x61 x62 x63 x64 x65 x66 x67 x68 x69 x70 x71 x72 x73 x74 x75 x76 x77 x78 x79 x80 x81 x82 x83 x84 x85 x86 x87 x88 x89 x90 x91 x92 x93 x94 x95 x96 x97 x98 => r4_3_7_10 B1 X E ra fa rc fc rs ps Wb hG _ hb2 mR gR hR2 okR mP gP hP2 okP W.heap.size hb.size (heap_alloc_new W _) x0 x5 x6 x7 x8 x9 x10 x11 x12 x13 x14 x15 x16 x17 x24 x25 x26 x27 x28 x29 x30 x31 x32 x33 x34 x35 x36 x37 x38 x39 x40 x41 x42 x43 x44 x45 x46 x47 x48 x49 x50 x51 x52 x53 x54 x55 x56 x57 x58 x59 x60 x61 x62 x63 x64 x65 x66 x67 x68 x69 x70 x71 x72 x73 x74 x75 x76 x77 x78 x79 x80 x81 x82 x83 x84 x85 x86 x87 x88 x89 x90 x91 x92 x93 x94 x95 x96 x97 x98)
  have HS2 := Lib.hid (hG.s hb2)
  clear hS hb2 bW
  go_simp
  refine hK.out _ _ HS2.out (fun _ => ?_)
  try (simp only [Act.put, List.getElem_toArray, List.getElem_cons_zero, List.getElem_cons_succ, List.setIfInBounds_toArray, List.set_cons_zero, List.set_cons_succ])
  exact HN.out _ _ _ _ _ _ _ _ _ _ _ _ _ _ _ _ _ _ _ _ _ _ _ _ _ _ _ _ _ _ _ _ _ _ _ _ _ _ _ _ _ _ _ _ _ _ _ _ _ _ _ _ _ _ _ _ _ _ _ _ _ _ _ _ _ _ _ _ _ _ _ _ _ _ _ _ _ _ _ _ _ _ _ _ _ _ _ _ _
set_option maxRecDepth 100000 in
set_option maxHeartbeats 2000000 in
theorem r4_3_10 {ds : List Deferred} {Q : Exit → Act → World → Prop} (B1 X E : Nat) (ra fa : Option Addr) (rc fc : Nat) (rs : List Rol) (ps : List Ph) (Wb : World) (hG : R4G B1 X E ra fa rc fc rs ps ds Wb Q) (W : World) (hb : Below Wb.heap.size Wb W) (mR : Nat) (gR : Wb.heap.size ≤ mR) (hR : MapAt sv W mR (tabOf (rs.map Rol.name))) (okR : (rs.map Rol.name).all nameB = true) (TB : Nat) (gTB : Wb.heap.size ≤ TB) (hTB : W.heap[TB]? = some (.cells #[.map none] 98 (0, 0))) (e0 e5 e6 e7 e8 e9 e10 e11 e12 e13 e14 e15 e16 e17 e23 e24 e25 e26 e27 e28 e29 e30 e31 e32 e33 e34 e35 e36 e37 e38 e39 e40 e41 e42 e43 e44 e45 e46 e47 e48 e49 e50 e51 e52 e53 e54 e55 e56 e57 e58 e59 e60 e61 e62 e63 e64 e65 e66 e67 e68 e69 e70 e71 e72 e73 e74 e75 e76 e77 e78 e79 e80 e81 e82 e83 e84 e85 e86 e87 e88 e89 e90 e91 e92 e93 e94 e95 e96 e97 e98 : Value) :
  wpAnyH Try.prog .any ops15r4 Q (R4S B1 ra fa rc fc rs.length ps.length) 6 #[false, true, true, true, false, true, true, false, false, false, true, false] { tmps := #[e0, .pointer (some ⟨B1, 0, none⟩), .pointer (some ⟨X, 0, none⟩), .pointer (some ⟨E, 0, none⟩), .pointer (some ⟨TB, 0, none⟩), e5, e6, e7, e8, e9, e10, e11, e12, e13, e14, e15, e16, e17, .pointer (some ⟨B1, 6, none⟩), .slice ra rs.length rc, .map (some mR), .pointer (some ⟨B1, 10, none⟩), .slice fa ps.length fc, e23, e24, e25, e26, e27, e28, e29, e30, e31, e32, e33, e34, e35, e36, e37, e38, e39, e40, e41, e42, e43, e44, e45, e46, e47, e48, e49, e50, e51, e52, e53, e54, e55, e56, e57, e58, e59, e60, e61, e62, e63, e64, e65, e66, e67, e68, e69, e70, e71, e72, e73, e74, e75, e76, e77, e78, e79, e80, e81, e82, e83, e84, e85, e86, e87, e88, e89, e90, e91, e92, e93, e94, e95, e96, e97, e98], defers := ds } W := by
 dsimp only
 unfold ops15r4 code15
 conv => arg 3; whnf
 have hS : R4S B1 ra fa rc fc rs.length ps.length W := hG.s hb
 refine wpAnyH_ready (rs := [0, 7]) (by kernel_rfl) (by simp) ?_
 refine AllReadyH.cons (o := _) rfl (fun K1 hK => ?_) (AllReadyH.cons (o := _) rfl (fun K2 hK => ?_) AllReadyH.nil)
 ·have hmm := @run_makeMap Try.prog
  have bW := (Below.refl W.heap.size W).alloc (Nat.le_refl _) (.map #[] 0)
  have hb2 := hb.trans (bW.mono hb.size)
  have hR2 := hR.below bW hR.lt
  have hTB2 := (bW.block _ (Array.getElem?_eq_some_iff.1 hTB).1).trans hTB
  have HN := Lib.hid (fun x0 x5 x6 x7 x8 x9 x10 x11 x12 x13 x14 x15 x16 x23 x24 x25 x26 x27 x28 x29 x30 x31 x32 x33 x34 x35 x36 x37 x38 x39 x40 x41 x42 x43 x44 x45 x46 x47 x48 x49 x50 x51 x52 x53 x54 x55 x56 x57 x58 x59 x60 x61 x62 x63 x64 x65 x66 x67 x68 x69 x70 x71 x72 x73 x74 x75 x76 x77 x78 x79 x80 x81 x82 x83 x84 x85 x86 x87 x88 x89 x90 x91 x92 x93 x94 x95 x96 x97 x98 => r4_0_3_10 B1 X E ra fa rc fc rs ps Wb hG _ hb2 W.heap.size [] hb.size (MapAt.new W) List.nodup_nil mR gR hR2 okR (by have := hR.lt; omega) rfl rfl TB gTB hTB2 x0 x5 x6 x7 x8 x9 x10 x11 x12 x13 x14 x15 x16 x23 x24 x25 x26 x27 x28 x29 x30 x31 x32 x33 x34 x35 x36 x37 x38 x39 x40 x41 x42 x43 x44 x45 x46 x47 x48 x49 x50 x51 x52 x53 x54 x55 x56 x57 x58 x59 x60 x61 x62 x63 x64 x65 x66 x67 x68 x69 x70 x71 x72 x73 x74 x75 x76 x77 x78 x79 x80 x81 x82 x83 x84 x85 x86 x87 x88 x89 x90 x91 x92 x93 x94 x95 x96 x97 x98)
  have HS2 := Lib.hid (hG.s hb2)
  clear hS hb2 bW
  go_simp
  refine hK.out _ _ HS2.out (fun _ => ?_)
  try (simp only [Act.put, List.getElem_toArray, List.getElem_cons_zero, List.getElem_cons_succ, List.setIfInBounds_toArray, List.set_cons_zero, List.set_cons_succ])
  exact HN.out _ _ _ _ _ _ _ _ _ _ _ _ _ _ _ _ _ _ _ _ _ _ _ _ _ _ _ _ _ _ _ _ _ _ _ _ _ _ _ _ _ _ _ _ _ _ _ _ _ _ _ _ _ _ _ _ _ _ _ _ _ _ _ _ _ _ _ _ _ _ _ _ _ _ _ _ _ _ _ _ _ _ _ _ _ _ _ _ _
 ·have HT := Lib.hid (hG.t43 W hb)
  clear hS
  go_simp
  go_at_call 43
  refine HT.out.mono ?_
  rintro e W2 ⟨(⟨okN, mN, gN, rfl, hN⟩ | ⟨bad, rfl⟩), bW⟩
  ·have hb2 := hb.trans (bW.mono hb.size)
   have hR2 := hR.below bW hR.lt
   have hTB2 := (bW.block _ (Array.getElem?_eq_some_iff.1 hTB).1).trans hTB
   refine hK.out _ _ (hG.s hb2) (fun _ => ?_)
   try (simp only [Act.put, List.getElem_toArray, List.getElem_cons_zero, List.getElem_cons_succ, List.setIfInBounds_toArray, List.set_cons_zero, List.set_cons_succ])
   exact r4_3_7_10 B1 X E ra fa rc fc rs ps Wb hG W2 hb2 mR gR hR2 okR mN (Nat.le_trans hb.size gN) hN okN TB gTB hTB2 _ _ _ _ _ _ _ _ _ _ _ _ _ _ _ _ _ _ _ _ _ _ _ _ _ _ _ _ _ _ _ _ _ _ _ _ _ _ _ _ _ _ _ _ _ _ _ _ _ _ _ _ _ _ _ _ _ _ _ _ _ _ _ _ _ _ _ _ _ _ _ _ _ _ _ _ _ _ _ _ _ _ _ _ _ _ _ _ _
  ·exact hG.err _ _ W2 (hb.trans (bW.mono hb.size)) (Or.inr bad) rfl rfl rfl
set_option maxRecDepth 100000 in
set_option maxHeartbeats 2000000 in
theorem r4_0 {ds : List Deferred} {Q : Exit → Act → World → Prop} (B1 X E : Nat) (ra fa : Option Addr) (rc fc : Nat) (rs : List Rol) (ps : List Ph) (Wb : World) (hG : R4G B1 X E ra fa rc fc rs ps ds Wb Q) (W : World) (hb : Below Wb.heap.size Wb W) (MT : Nat) (kvs : List (Int × Value)) (gMT : Wb.heap.size ≤ MT) (hM : MapAt kI W MT kvs) (hA : KeysApart kvs) (z1 : kvGet kvs 1 = none) (z2 : kvGet kvs 2 = none) (e0 e4 e5 e6 e7 e8 e9 e10 e11 e12 e13 e14 e15 e16 e20 e23 e24 e25 e26 e27 e28 e29 e30 e31 e32 e33 e34 e35 e36 e37 e38 e39 e40 e41 e42 e43 e44 e45 e46 e47 e48 e49 e50 e51 e52 e53 e54 e55 e56 e57 e58 e59 e60 e61 e62 e63 e64 e65 e66 e67 e68 e69 e70 e71 e72 e73 e74 e75 e76 e77 e78 e79 e80 e81 e82 e83 e84 e85 e86 e87 e88 e89 e90 e91 e92 e93 e94 e95 e96 e97 e98 : Value) :
  wpAnyH Try.prog .any ops15r4 Q (R4S B1 ra fa rc fc rs.length ps.length) 7 #[true, true, true, false, false, true, true, false, false, false, false, false] { tmps := #[e0, .pointer (some ⟨B1, 0, none⟩), .pointer (some ⟨X, 0, none⟩), .pointer (some ⟨E, 0, none⟩), e4, e5, e6, e7, e8, e9, e10, e11, e12, e13, e14, e15, e16, .map (some MT), .pointer (some ⟨B1, 6, none⟩), .slice ra rs.length rc, e20, .pointer (some ⟨B1, 10, none⟩), .slice fa ps.length fc, e23, e24, e25, e26, e27, e28, e29, e30, e31, e32, e33, e34, e35, e36, e37, e38, e39, e40, e41, e42, e43, e44, e45, e46, e47, e48, e49, e50, e51, e52, e53, e54, e55, e56, e57, e58, e59, e60, e61, e62, e63, e64, e65, e66, e67, e68, e69, e70, e71, e72, e73, e74, e75, e76, e77, e78, e79, e80, e81, e82, e83, e84, e85, e86, e87, e88, e89, e90, e91, e92, e93, e94, e95, e96, e97, e98], defers := ds } W := by
 dsimp only
 unfold ops15r4 code15
 conv => arg 3; whnf
 have hS : R4S B1 ra fa rc fc rs.length ps.length W := hG.s hb
 refine wpAnyH_ready (rs := [3, 10]) (by kernel_rfl) (by simp) ?_
 refine AllReadyH.cons (o := _) rfl (fun K1 hK => ?_) (AllReadyH.cons (o := _) rfl (fun K2 hK => ?_) AllReadyH.nil)
 ·have HT := Lib.hid (hG.t41 W hb)
  clear hS
  go_simp
  go_at_call 41
  refine HT.out.mono ?_
  rintro e W2 ⟨(⟨okN, mN, gN, rfl, hN⟩ | ⟨bad, rfl⟩), bW⟩
  ·have hb2 := hb.trans (bW.mono hb.size)
   have hM2 := hM.below bW hM.lt
   refine hK.out _ _ (hG.s hb2) (fun _ => ?_)
   try (simp only [Act.put, List.getElem_toArray, List.getElem_cons_zero, List.getElem_cons_succ, List.setIfInBounds_toArray, List.set_cons_zero, List.set_cons_succ])
   exact r4_0_3 B1 X E ra fa rc fc rs ps Wb hG W2 hb2 MT kvs gMT hM2 hA mN (Nat.le_trans hb.size gN) hN okN (by have := hM.lt; omega) z1 z2 _ _ _ _ _ _ _ _ _ _ _ _ _ _ _ _ _ _ _ _ _ _ _ _ _ _ _ _ _ _ _ _ _ _ _ _ _ _ _ _ _ _ _ _ _ _ _ _ _ _ _ _ _ _ _ _ _ _ _ _ _ _ _ _ _ _ _ _ _ _ _ _ _ _ _ _ _ _ _ _ _ _ _ _ _ _ _ _ _ _
  ·exact hG.err _ _ W2 (hb.trans (bW.mono hb.size)) (Or.inl bad) rfl rfl rfl
 ·have bW := (Below.refl W.heap.size W).alloc (Nat.le_refl _) (.cells #[.map none] 98)
  have hb2 := hb.trans (bW.mono hb.size)
  have hM2 := hM.below bW hM.lt
  have HN := Lib.hid (fun x0 x5 x6 x7 x8 x9 x10 x11 x12 x13 x14 x15 x16 x20 x23 x24 x25 x26 x27 x28 x29 x30 x31 x32 x33 x34 x35 x36 x37 x38 x39 x40 x41 x42 x43 x44 x45 x46 x47 x48 x49 x50 x51 x52 x53 x54 x55 x56 x57 x58 x59 x60 x61 x62 x63 x64 x65 x66 x67 x68 x69 x70 x71 x72 x73 x74 x75 x76 x77 x78 x79 x80 x81 x82 x83 x84 x85 x86 x87 x88 x89 x90 x91 x92 x93 x94 x95 x96 x97 x98 => r4_0_10 B1 X E ra fa rc fc rs ps Wb hG _ hb2 MT kvs gMT hM2 hA z1 z2 W.heap.size hb.size (heap_alloc_new W _) x0 x5 x6 x7 x8 x9 x10 x11 x12 x13 x14 x15 x16 x20 x23 x24 x25 x26 x27 x28 x29 x30 x31 x32 x33 x34 x35 x36 x37 x38 x39 x40 x41 x42 x43 x44 x45 x46 x47 x48 x49 x50 x51 x52 x53 x54 x55 x56 x57 x58 x59 x60 x61 x62 x63 x64 x65 x66 x67 x68 x69 x70 x71 x72 x73 x74 x75 x76 x77 x78 x79 x80 x81 x82 x83 x84 x85 x86 x87 x88 x89 x90 x91 x92 x93 x94 x95 x96 x97 x98)
  have HS2 := Lib.hid (hG.s hb2)
  clear hS hb2 bW
  go_simp
  refine hK.out _ _ HS2.out (fun _ => ?_)
  try (simp only [Act.put, List.getElem_toArray, List.getElem_cons_zero, List.getElem_cons_succ, List.setIfInBounds_toArray, List.set_cons_zero, List.set_cons_succ])
  exact HN.out _ _ _ _ _ _ _ _ _ _ _ _ _ _ _ _ _ _ _ _ _ _ _ _ _ _ _ _ _ _ _ _ _ _ _ _ _ _ _ _ _ _ _ _ _ _ _ _ _ _ _ _ _ _ _ _ _ _ _ _ _ _ _ _ _ _ _ _ _ _ _ _ _ _ _ _ _ _ _ _ _ _ _ _ _ _ _ _ _ _
set_option maxRecDepth 100000 in
set_option maxHeartbeats 2000000 in
theorem r4_3 {ds : List Deferred} {Q : Exit → Act → World → Prop} (B1 X E : Nat) (ra fa : Option Addr) (rc fc : Nat) (rs : List Rol) (ps : List Ph) (Wb : World) (hG : R4G B1 X E ra fa rc fc rs ps ds Wb Q) (W : World) (hb : Below Wb.heap.size Wb W) (mR : Nat) (gR : Wb.heap.size ≤ mR) (hR : MapAt sv W mR (tabOf (rs.map Rol.name))) (okR : (rs.map Rol.name).all nameB = true) (e0 e4 e5 e6 e7 e8 e9 e10 e11 e12 e13 e14 e15 e16 e17 e23 e24 e25 e26 e27 e28 e29 e30 e31 e32 e33 e34 e35 e36 e37 e38 e39 e40 e41 e42 e43 e44 e45 e46 e47 e48 e49 e50 e51 e52 e53 e54 e55 e56 e57 e58 e59 e60 e61 e62 e63 e64 e65 e66 e67 e68 e69 e70 e71 e72 e73 e74 e75 e76 e77 e78 e79 e80 e81 e82 e83 e84 e85 e86 e87 e88 e89 e90 e91 e92 e93 e94 e95 e96 e97 e98 : Value) :
  wpAnyH Try.prog .any ops15r4 Q (R4S B1 ra fa rc fc rs.length ps.length) 7 #[false, true, true, true, false, true, true, false, false, false, false, false] { tmps := #[e0, .pointer (some ⟨B1, 0, none⟩), .pointer (some ⟨X, 0, none⟩), .pointer (some ⟨E, 0, none⟩), e4, e5, e6, e7, e8, e9, e10, e11, e12, e13, e14, e15, e16, e17, .pointer (some ⟨B1, 6, none⟩), .slice ra rs.length rc, .map (some mR), .pointer (some ⟨B1, 10, none⟩), .slice fa ps.length fc, e23, e24, e25, e26, e27, e28, e29, e30, e31, e32, e33, e34, e35, e36, e37, e38, e39, e40, e41, e42, e43, e44, e45, e46, e47, e48, e49, e50, e51, e52, e53, e54, e55, e56, e57, e58, e59, e60, e61, e62, e63, e64, e65, e66, e67, e68, e69, e70, e71, e72, e73, e74, e75, e76, e77, e78, e79, e80, e81, e82, e83, e84, e85, e86, e87, e88, e89, e90, e91, e92, e93, e94, e95, e96, e97, e98], defers := ds } W := by
 dsimp only
 unfold ops15r4 code15
 conv => arg 3; whnf
 have hS : R4S B1 ra fa rc fc rs.length ps.length W := hG.s hb
 refine wpAnyH_ready (rs := [0, 7, 10]) (by kernel_rfl) (by simp) ?_
 refine AllReadyH.cons (o := _) rfl (fun K1 hK => ?_) (AllReadyH.cons (o := _) rfl (fun K2 hK => ?_) (AllReadyH.cons (o := _) rfl (fun K3 hK => ?_) AllReadyH.nil))
 ·have hmm := @run_makeMap Try.prog
  have bW := (Below.refl W.heap.size W).alloc (Nat.le_refl _) (.map #[] 0)
  have hb2 := hb.trans (bW.mono hb.size)
  have hR2 := hR.below bW hR.lt
  have HN := Lib.hid (fun x0 x4 x5 x6 x7 x8 x9 x10 x11 x12 x13 x14 x15 x16 x23 x24 x25 x26 x27 x28 x29 x30 x31 x32 x33 x34 x35 x36 x37 x38 x39 x40 x41 x42 x43 x44 x45 x46 x47 x48 x49 x50 x51 x52 x53 x54 x55 x56 x57 x58 x59 x60 x61 x62 x63 x64 x65 x66 x67 x68 x69 x70 x71 x72 x73 x74 x75 x76 x77 x78 x79 x80 x81 x82 x83 x84 x85 x86 x87 x88 x89 x90 x91 x92 x93 x94 x95 x96 x97 x98 => r4_0_3 B1 X E ra fa rc fc rs ps Wb hG _ hb2 W.heap.size [] hb.size (MapAt.new W) List.nodup_nil mR gR hR2 okR (by have := hR.lt; omega) rfl rfl x0 x4 x5 x6 x7 x8 x9 x10 x11 x12 x13 x14 x15 x16 x23 x24 x25 x26 x27 x28 x29 x30 x31 x32 x33 x34 x35 x36 x37 x38 x39 x40 x41 x42 x43 x44 x45 x46 x47 x48 x49 x50 x51 x52 x53 x54 x55 x56 x57 x58 x59 x60 x61 x62 x63 x64 x65 x66 x67 x68 x69 x70 x71 x72 x73 x74 x75 x76 x77 x78 x79 x80 x81 x82 x83 x84 x85 x86 x87 x88 x89 x90 x91 x92 x93 x94 x95 x96 x97 x98)
  have HS2 := Lib.hid (hG.s hb2)
  clear hS hb2 bW
  go_simp
  refine hK.out _ _ HS2.out (fun _ => ?_)
  try (simp only [Act.put, List.getElem_toArray, List.getElem_cons_zero, List.getElem_cons_succ, List.setIfInBounds_toArray, List.set_cons_zero, List.set_cons_succ])
  exact HN.out _ _ _ _ _ _ _ _ _ _ _ _ _ _ _ _ _ _ _ _ _ _ _ _ _ _ _ _ _ _ _ _ _ _ _ _ _ _ _ _ _ _ _ _ _ _ _ _ _ _ _ _ _ _ _ _ _ _ _ _ _ _ _ _ _ _ _ _ _ _ _ _ _ _ _ _ _ _ _ _ _ _ _ _ _ _ _ _ _ _
 ·have HT := Lib.hid (hG.t43 W hb)
  clear hS
  go_simp
  go_at_call 43
  refine HT.out.mono ?_
  rintro e W2 ⟨(⟨okN, mN, gN, rfl, hN⟩ | ⟨bad, rfl⟩), bW⟩
  ·have hb2 := hb.trans (bW.mono hb.size)
   have hR2 := hR.below bW hR.lt
   refine hK.out _ _ (hG.s hb2) (fun _ => ?_)
   try (simp only [Act.put, List.getElem_toArray, List.getElem_cons_zero, List.getElem_cons_succ, List.setIfInBounds_toArray, List.set_cons_zero, List.set_cons_succ])
   exact r4_3_7 B1 X E ra fa rc fc rs ps Wb hG W2 hb2 mR gR hR2 okR mN (Nat.le_trans hb.size gN) hN okN _ _ _ _ _ _ _ _ _ _ _ _ _ _ _ _ _ _ _ _ _ _ _ _ _ _ _ _ _ _ _ _ _ _ _ _ _ _ _ _ _ _ _ _ _ _ _ _ _ _ _ _ _ _ _ _ _ _ _ _ _ _ _ _ _ _ _ _ _ _ _ _ _ _ _ _ _ _ _ _ _ _ _ _ _ _ _ _ _ _
  ·exact hG.err _ _ W2 (hb.trans (bW.mono hb.size)) (Or.inr bad) rfl rfl rfl
 ·have bW := (Below.refl W.heap.size W).alloc (Nat.le_refl _) (.cells #[.map none] 98)
  have hb2 := hb.trans (bW.mono hb.size)
  have hR2 := hR.below bW hR.lt
  have HN := Lib.hid (fun x0 x5 x6 x7 x8 x9 x10 x11 x12 x13 x14 x15 x16 x17 x23 x24 x25 x26 x27 x28 x29 x30 x31 x32 x33 x34 x35 x36 x37 x38 x39 x40 x41 x42 x43 x44 x45 x46 x47 x48 x49 x50 x51 x52 x53 x54 x55 x56 x57 x58 x59 x60 x61 x62 x63 x64 x65 x66 x67 x68 x69 x70 x71 x72 x73 x74 x75 x76 x77 x78 x79 x80 x81 x82 x83 x84 x85 x86 x87 x88 x89 x90 x91 x92 x93 x94 x95 x96 x97 x98 => r4_3_10 B1 X E ra fa rc fc rs ps Wb hG _ hb2 mR gR hR2 okR W.heap.size hb.size (heap_alloc_new W _) x0 x5 x6 x7 x8 x9 x10 x11 x12 x13 x14 x15 x16 x17 x23 x24 x25 x26 x27 x28 x29 x30 x31 x32 x33 x34 x35 x36 x37 x38 x39 x40 x41 x42 x43 x44 x45 x46 x47 x48 x49 x50 x51 x52 x53 x54 x55 x56 x57 x58 x59 x60 x61 x62 x63 x64 x65 x66 x67 x68 x69 x70 x71 x72 x73 x74 x75 x76 x77 x78 x79 x80 x81 x82 x83 x84 x85 x86 x87 x88 x89 x90 x91 x92 x93 x94 x95 x96 x97 x98)
  have HS2 := Lib.hid (hG.s hb2)
  clear hS hb2 bW
  go_simp
  refine hK.out _ _ HS2.out (fun _ => ?_)
  try (simp only [Act.put, List.getElem_toArray, List.getElem_cons_zero, List.getElem_cons_succ, List.setIfInBounds_toArray, List.set_cons_zero, List.set_cons_succ])
  exact HN.out _ _ _ _ _ _ _ _ _ _ _ _ _ _ _ _ _ _ _ _ _ _ _ _ _ _ _ _ _ _ _ _ _ _ _ _ _ _ _ _ _ _ _ _ _ _ _ _ _ _ _ _ _ _ _ _ _ _ _ _ _ _ _ _ _ _ _ _ _ _ _ _ _ _ _ _ _ _ _ _ _ _ _ _ _ _ _ _ _ _
set_option maxRecDepth 100000 in
set_option maxHeartbeats 2000000 in
theorem r4_10 {ds : List Deferred} {Q : Exit → Act → World → Prop} (B1 X E : Nat) (ra fa : Option Addr) (rc fc : Nat) (rs : List Rol) (ps : List Ph) (Wb : World) (hG : R4G B1 X E ra fa rc fc rs ps ds Wb Q) (W : World) (hb : Below Wb.heap.size Wb W) (TB : Nat) (gTB : Wb.heap.size ≤ TB) (hTB : W.heap[TB]? = some (.cells #[.map none] 98 (0, 0))) (e0 e5 e6 e7 e8 e9 e10 e11 e12 e13 e14 e15 e16 e17 e20 e23 e24 e25 e26 e27 e28 e29 e30 e31 e32 e33 e34 e35 e36 e37 e38 e39 e40 e41 e42 e43 e44 e45 e46 e47 e48 e49 e50 e51 e52 e53 e54 e55 e56 e57 e58 e59 e60 e61 e62 e63 e64 e65 e66 e67 e68 e69 e70 e71 e72 e73 e74 e75 e76 e77 e78 e79 e80 e81 e82 e83 e84 e85 e86 e87 e88 e89 e90 e91 e92 e93 e94 e95 e96 e97 e98 : Value) :
  wpAnyH Try.prog .any ops15r4 Q (R4S B1 ra fa rc fc rs.length ps.length) 7 #[false, true, true, false, false, true, true, false, false, false, true, false] { tmps := #[e0, .pointer (some ⟨B1, 0, none⟩), .pointer (some ⟨X, 0, none⟩), .pointer (some ⟨E, 0, none⟩), .pointer (some ⟨TB, 0, none⟩), e5, e6, e7, e8, e9, e10, e11, e12, e13, e14, e15, e16, e17, .pointer (some ⟨B1, 6, none⟩), .slice ra rs.length rc, e20, .pointer (some ⟨B1, 10, none⟩), .slice fa ps.length fc, e23, e24, e25, e26, e27, e28, e29, e30, e31, e32, e33, e34, e35, e36, e37, e38, e39, e40, e41, e42, e43, e44, e45, e46, e47, e48, e49, e50, e51, e52, e53, e54, e55, e56, e57, e58, e59, e60, e61, e62, e63, e64, e65, e66, e67, e68, e69, e70, e71, e72, e73, e74, e75, e76, e77, e78, e79, e80, e81, e82, e83, e84, e85, e86, e87, e88, e89, e90, e91, e92, e93, e94, e95, e96, e97, e98], defers := ds } W := by
 dsimp only
 unfold ops15r4 code15
 conv => arg 3; whnf
 have hS : R4S B1 ra fa rc fc rs.length ps.length W := hG.s hb
 refine wpAnyH_ready (rs := [0, 3]) (by kernel_rfl) (by simp) ?_
 refine AllReadyH.cons (o := _) rfl (fun K1 hK => ?_) (AllReadyH.cons (o := _) rfl (fun K2 hK => ?_) AllReadyH.nil)
 ·have hmm := @run_makeMap Try.prog
  have bW := (Below.refl W.heap.size W).alloc (Nat.le_refl _) (.map #[] 0)
  have hb2 := hb.trans (bW.mono hb.size)
  have hTB2 := (bW.block _ (Array.getElem?_eq_some_iff.1 hTB).1).trans hTB
  have HN := Lib.hid (fun x0 x5 x6 x7 x8 x9 x10 x11 x12 x13 x14 x15 x16 x20 x23 x24 x25 x26 x27 x28 x29 x30 x31 x32 x33 x34 x35 x36 x37 x38 x39 x40 x41 x42 x43 x44 x45 x46 x47 x48 x49 x50 x51 x52 x53 x54 x55 x56 x57 x58 x59 x60 x61 x62 x63 x64 x65 x66 x67 x68 x69 x70 x71 x72 x73 x74 x75 x76 x77 x78 x79 x80 x81 x82 x83 x84 x85 x86 x87 x88 x89 x90 x91 x92 x93 x94 x95 x96 x97 x98 => r4_0_10 B1 X E ra fa rc fc rs ps Wb hG _ hb2 W.heap.size [] hb.size (MapAt.new W) List.nodup_nil rfl rfl TB gTB hTB2 x0 x5 x6 x7 x8 x9 x10 x11 x12 x13 x14 x15 x16 x20 x23 x24 x25 x26 x27 x28 x29 x30 x31 x32 x33 x34 x35 x36 x37 x38 x39 x40 x41 x42 x43 x44 x45 x46 x47 x48 x49 x50 x51 x52 x53 x54 x55 x56 x57 x58 x59 x60 x61 x62 x63 x64 x65 x66 x67 x68 x69 x70 x71 x72 x73 x74 x75 x76 x77 x78 x79 x80 x81 x82 x83 x84 x85 x86 x87 x88 x89 x90 x91 x92 x93 x94 x95 x96 x97 x98)
  have HS2 := Lib.hid (hG.s hb2)
  clear hS hb2 bW
  go_simp
  refine hK.out _ _ HS2.out (fun _ => ?_)
  try (simp only [Act.put, List.getElem_toArray, List.getElem_cons_zero, List.getElem_cons_succ, List.setIfInBounds_toArray, List.set_cons_zero, List.set_cons_succ])
  exact HN.out _ _ _ _ _ _ _ _ _ _ _ _ _ _ _ _ _ _ _ _ _ _ _ _ _ _ _ _ _ _ _ _ _ _ _ _ _ _ _ _ _ _ _ _ _ _ _ _ _ _ _ _ _ _ _ _ _ _ _ _ _ _ _ _ _ _ _ _ _ _ _ _ _ _ _ _ _ _ _ _ _ _ _ _ _ _ _ _ _ _
 ·have HT := Lib.hid (hG.t41 W hb)
  clear hS
  go_simp
  go_at_call 41
  refine HT.out.mono ?_
  rintro e W2 ⟨(⟨okN, mN, gN, rfl, hN⟩ | ⟨bad, rfl⟩), bW⟩
  ·have hb2 := hb.trans (bW.mono hb.size)
   have hTB2 := (bW.block _ (Array.getElem?_eq_some_iff.1 hTB).1).trans hTB
   refine hK.out _ _ (hG.s hb2) (fun _ => ?_)
   try (simp only [Act.put, List.getElem_toArray, List.getElem_cons_zero, List.getElem_cons_succ, List.setIfInBounds_toArray, List.set_cons_zero, List.set_cons_succ])
   exact r4_3_10 B1 X E ra fa rc fc rs ps Wb hG W2 hb2 mN (Nat.le_trans hb.size gN) hN okN TB gTB hTB2 _ _ _ _ _ _ _ _ _ _ _ _ _ _ _ _ _ _ _ _ _ _ _ _ _ _ _ _ _ _ _ _ _ _ _ _ _ _ _ _ _ _ _ _ _ _ _ _ _ _ _ _ _ _ _ _ _ _ _ _ _ _ _ _ _ _ _ _ _ _ _ _ _ _ _ _ _ _ _ _ _ _ _ _ _ _ _ _ _ _
  ·exact hG.err _ _ W2 (hb.trans (bW.mono hb.size)) (Or.inl bad) rfl rfl rfl
set_option maxRecDepth 100000 in
set_option maxHeartbeats 2000000 in
theorem r4_none {ds : List Deferred} {Q : Exit → Act → World → Prop} (B1 X E : Nat) (ra fa : Option Addr) (rc fc : Nat) (rs : List Rol) (ps : List Ph) (Wb : World) (hG : R4G B1 X E ra fa rc fc rs ps ds Wb Q) (W : World) (hb : Below Wb.heap.size Wb W) (e0 e4 e5 e6 e7 e8 e9 e10 e11 e12 e13 e14 e15 e16 e17 e20 e23 e24 e25 e26 e27 e28 e29 e30 e31 e32 e33 e34 e35 e36 e37 e38 e39 e40 e41 e42 e43 e44 e45 e46 e47 e48 e49 e50 e51 e52 e53 e54 e55 e56 e57 e58 e59 e60 e61 e62 e63 e64 e65 e66 e67 e68 e69 e70 e71 e72 e73 e74 e75 e76 e77 e78 e79 e80 e81 e82 e83 e84 e85 e86 e87 e88 e89 e90 e91 e92 e93 e94 e95 e96 e97 e98 : Value) :
  wpAnyH Try.prog .any ops15r4 Q (R4S B1 ra fa rc fc rs.length ps.length) 8 #[false, true, true, false, false, true, true, false, false, false, false, false] { tmps := #[e0, .pointer (some ⟨B1, 0, none⟩), .pointer (some ⟨X, 0, none⟩), .pointer (some ⟨E, 0, none⟩), e4, e5, e6, e7, e8, e9, e10, e11, e12, e13, e14, e15, e16, e17, .pointer (some ⟨B1, 6, none⟩), .slice ra rs.length rc, e20, .pointer (some ⟨B1, 10, none⟩), .slice fa ps.length fc, e23, e24, e25, e26, e27, e28, e29, e30, e31, e32, e33, e34, e35, e36, e37, e38, e39, e40, e41, e42, e43, e44, e45, e46, e47, e48, e49, e50, e51, e52, e53, e54, e55, e56, e57, e58, e59, e60, e61, e62, e63, e64, e65, e66, e67, e68, e69, e70, e71, e72, e73, e74, e75, e76, e77, e78, e79, e80, e81, e82, e83, e84, e85, e86, e87, e88, e89, e90, e91, e92, e93, e94, e95, e96, e97, e98], defers := ds } W := by
 dsimp only
 unfold ops15r4 code15
 conv => arg 3; whnf
 have hS : R4S B1 ra fa rc fc rs.length ps.length W := hG.s hb
 refine wpAnyH_ready (rs := [0, 3, 10]) (by kernel_rfl) (by simp) ?_
 refine AllReadyH.cons (o := _) rfl (fun K1 hK => ?_) (AllReadyH.cons (o := _) rfl (fun K2 hK => ?_) (AllReadyH.cons (o := _) rfl (fun K3 hK => ?_) AllReadyH.nil))
 ·have hmm := @run_makeMap Try.prog
  have bW := (Below.refl W.heap.size W).alloc (Nat.le_refl _) (.map #[] 0)
  have hb2 := hb.trans (bW.mono hb.size)
  have HN := Lib.hid (fun x0 x4 x5 x6 x7 x8 x9 x10 x11 x12 x13 x14 x15 x16 x20 x23 x24 x25 x26 x27 x28 x29 x30 x31 x32 x33 x34 x35 x36 x37 x38 x39 x40 x41 x42 x43 x44 x45 x46 x47 x48 x49 x50 x51 x52 x53 x54 x55 x56 x57 x58 x59 x60 x61 x62 x63 x64 x65 x66 x67 x68 x69 x70 x71 x72 x73 x74 x75 x76 x77 x78 x79 x80 x81 x82 x83 x84 x85 x86 x87 x88 x89 x90 x91 x92 x93 x94 x95 x96 x97 x98 => r4_0 B1 X E ra fa rc fc rs ps Wb hG _ hb2 W.heap.size [] hb.size (MapAt.new W) List.nodup_nil rfl rfl x0 x4 x5 x6 x7 x8 x9 x10 x11 x12 x13 x14 x15 x16 x20 x23 x24 x25 x26 x27 x28 x29 x30 x31 x32 x33 x34 x35 x36 x37 x38 x39 x40 x41 x42 x43 x44 x45 x46 x47 x48 x49 x50 x51 x52 x53 x54 x55 x56 x57 x58 x59 x60 x61 x62 x63 x64 x65 x66 x67 x68 x69 x70 x71 x72 x73 x74 x75 x76 x77 x78 x79 x80 x81 x82 x83 x84 x85 x86 x87 x88 x89 x90 x91 x92 x93 x94 x95 x96 x97 x98)
  have HS2 := Lib.hid (hG.s hb2)
  clear hS hb2 bW
  go_simp
  refine hK.out _ _ HS2.out (fun _ => ?_)
  try (simp only [Act.put, List.getElem_toArray, List.getElem_cons_zero, List.getElem_cons_succ, List.setIfInBounds_toArray, List.set_cons_zero, List.set_cons_succ])
  exact HN.out _ _ _ _ _ _ _ _ _ _ _ _ _ _ _ _ _ _ _ _ _ _ _ _ _ _ _ _ _ _ _ _ _ _ _ _ _ _ _ _ _ _ _ _ _ _ _ _ _ _ _ _ _ _ _ _ _ _ _ _ _ _ _ _ _ _ _ _ _ _ _ _ _ _ _ _ _ _ _ _ _ _ _ _ _ _ _ _ _ _ _
 ·have HT := Lib.hid (hG.t41 W hb)
  clear hS
  go_simp
  go_at_call 41
  refine HT.out.mono ?_
  rintro e W2 ⟨(⟨okN, mN, gN, rfl, hN⟩ | ⟨bad, rfl⟩), bW⟩
  ·have hb2 := hb.trans (bW.mono hb.size)
   refine hK.out _ _ (hG.s hb2) (fun _ => ?_)
   try (simp only [Act.put, List.getElem_toArray, List.getElem_cons_zero, List.getElem_cons_succ, List.setIfInBounds_toArray, List.set_cons_zero, List.set_cons_succ])
   exact r4_3 B1 X E ra fa rc fc rs ps Wb hG W2 hb2 mN (Nat.le_trans hb.size gN) hN okN _ _ _ _ _ _ _ _ _ _ _ _ _ _ _ _ _ _ _ _ _ _ _ _ _ _ _ _ _ _ _ _ _ _ _ _ _ _ _ _ _ _ _ _ _ _ _ _ _ _ _ _ _ _ _ _ _ _ _ _ _ _ _ _ _ _ _ _ _ _ _ _ _ _ _ _ _ _ _ _ _ _ _ _ _ _ _ _ _ _ _
  ·exact hG.err _ _ W2 (hb.trans (bW.mono hb.size)) (Or.inl bad) rfl rfl rfl
 ·have bW := (Below.refl W.heap.size W).alloc (Nat.le_refl _) (.cells #[.map none] 98)
  have hb2 := hb.trans (bW.mono hb.size)
  have HN := Lib.hid (fun x0 x5 x6 x7 x8 x9 x10 x11 x12 x13 x14 x15 x16 x17 x20 x23 x24 x25 x26 x27 x28 x29 x30 x31 x32 x33 x34 x35 x36 x37 x38 x39 x40 x41 x42 x43 x44 x45 x46 x47 x48 x49 x50 x51 x52 x53 x54 x55 x56 x57 x58 x59 x60 x61 x62 x63 x64 x65 x66 x67 x68 x69 x70 x71 x72 x73 x74 x75 x76 x77 x78 x79 x80 x81 x82 x83 x84 x85 x86 x87 x88 x89 x90 x91 x92 x93 x94 x95 x96 x97 x98 => r4_10 B1 X E ra fa rc fc rs ps Wb hG _ hb2 W.heap.size hb.size (heap_alloc_new W _) x0 x5 x6 x7 x8 x9 x10 x11 x12 x13 x14 x15 x16 x17 x20 x23 x24 x25 x26 x27 x28 x29 x30 x31 x32 x33 x34 x35 x36 x37 x38 x39 x40 x41 x42 x43 x44 x45 x46 x47 x48 x49 x50 x51 x52 x53 x54 x55 x56 x57 x58 x59 x60 x61 x62 x63 x64 x65 x66 x67 x68 x69 x70 x71 x72 x73 x74 x75 x76 x77 x78 x79 x80 x81 x82 x83 x84 x85 x86 x87 x88 x89 x90 x91 x92 x93 x94 x95 x96 x97 x98)
  have HS2 := Lib.hid (hG.s hb2)
  clear hS hb2 bW
  go_simp
  refine hK.out _ _ HS2.out (fun _ => ?_)
  try (simp only [Act.put, List.getElem_toArray, List.getElem_cons_zero, List.getElem_cons_succ, List.setIfInBounds_toArray, List.set_cons_zero, List.set_cons_succ])
  exact HN.out _ _ _ _ _ _ _ _ _ _ _ _ _ _ _ _ _ _ _ _ _ _ _ _ _ _ _ _ _ _ _ _ _ _ _ _ _ _ _ _ _ _ _ _ _ _ _ _ _ _ _ _ _ _ _ _ _ _ _ _ _ _ _ _ _ _ _ _ _ _ _ _ _ _ _ _ _ _ _ _ _ _ _ _ _ _ _ _ _ _ _
end Go.Proofs.Ytpnbpepkoekkoaa
end
