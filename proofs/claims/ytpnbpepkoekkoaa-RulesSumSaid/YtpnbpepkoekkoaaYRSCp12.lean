/- The walk of the statement: part 12. -/
import Derived.Test.YtpnbpepkoekkoaaYRSCp11
import Derived.Test.YtpnbpepkoekkoaaYRSCp10
import Derived.BigRegion
import Derived.BigCall
import Derived.BigGuard
set_option linter.unusedVariables false
set_option linter.unusedSimpArgs false
section
namespace Go.Proofs.Ytpnbpepkoekkoaa
open Go Go.RowKit
theorem all_next {α : Type} {l : List α} {p : α → Prop} {i : Nat} {x : α} (h : ∀ y ∈ l.take i, p y) (hx : l[i]? = some x) (hp : p x) : ∀ y ∈ l.take (i + 1), p y := by
 intro y hy
 rw [List.take_add_one, hx] at hy
 rcases List.mem_append.1 hy with hy | hy
 ·exact h y hy
 ·simp at hy; subst hy; exact hp
theorem rin_h {n lo hi : Int} {v : Bool} (h : inB n lo hi = v) (w : World) : Calls Try.prog 64 #[.int .i64 n, .int .i64 lo, .int .i64 hi] w fun e w' => e = .returned (.bool v) ∧ w = w' := by
 rw [← h]; exact rwithin_any n lo hi w
theorem roles_get {s : Ls} {W : World} (h : s.At W) {i : Nat} {x : Rol} (hi : s.roles[i]? = some x) : ∃ b o, s.ra = some ⟨b, o, none⟩ ∧ W.cell? ⟨b, o + i * 4, none⟩ = some (sv x.name) ∧ W.cell? ⟨b, o + i * 4 + 1, none⟩ = some (.int .i64 x.x) ∧ W.cell? ⟨b, o + i * 4 + 2, none⟩ = some (.int .i64 x.y) ∧ W.cell? ⟨b, o + i * 4 + 3, none⟩ = some (.int .i64 x.face) := by
 obtain ⟨b, o, h1, h2, _⟩ := h.roles.block hi
 exact ⟨b, o, h1, h2 i x hi 0 _ rfl, h2 i x hi 1 _ rfl, h2 i x hi 2 _ rfl, h2 i x hi 3 _ rfl⟩
noncomputable def code29 : Code := (Try.f29.body).getD .skip
noncomputable def elem29n0 : Code := match lastPart 0 code29 with
 | .seq a _ => a
 | c => c
noncomputable def elem29n1 : Code := match lastPart 1 code29 with
 | .seq a _ => a
 | c => c
noncomputable def elem29n2 : Code := match lastPart 2 code29 with
 | .seq a _ => a
 | c => c
noncomputable def elem29n3 : Code := match lastPart 3 code29 with
 | .seq a _ => a
 | c => c
noncomputable def elem29n4 : Code := match lastPart 4 code29 with
 | .seq a _ => a
 | c => c
noncomputable def elem29n5 : Code := match lastPart 5 code29 with
 | .seq a _ => a
 | c => c
noncomputable def elem29n6 : Code := match lastPart 6 code29 with
 | .seq a _ => a
 | c => c
noncomputable def elem29n7 : Code := match lastPart 7 code29 with
 | .seq a _ => a
 | c => c
noncomputable def elem29n8 : Code := match lastPart 8 code29 with
 | .seq a _ => a
 | c => c
noncomputable def elem29n9 : Code := match lastPart 9 code29 with
 | .seq a _ => a
 | c => c
noncomputable def elem29n10 : Code := match lastPart 10 code29 with
 | .seq a _ => a
 | c => c
theorem rkstep0 : code29 = .seq elem29n0 (lastPart 1 code29) := rfl
theorem rkstep1 : lastPart 1 code29 = .seq elem29n1 (lastPart 2 code29) := rfl
theorem rkstep2 : lastPart 2 code29 = .seq elem29n2 (lastPart 3 code29) := rfl
theorem rkstep3 : lastPart 3 code29 = .seq elem29n3 (lastPart 4 code29) := rfl
theorem rkstep4 : lastPart 4 code29 = .seq elem29n4 (lastPart 5 code29) := rfl
theorem rkstep5 : lastPart 5 code29 = .seq elem29n5 (lastPart 6 code29) := rfl
theorem rkstep6 : lastPart 6 code29 = .seq elem29n6 (lastPart 7 code29) := rfl
theorem rkstep7 : lastPart 7 code29 = .seq elem29n7 (lastPart 8 code29) := rfl
theorem rkstep8 : lastPart 8 code29 = .seq elem29n8 (lastPart 9 code29) := rfl
theorem rkstep9 : lastPart 9 code29 = .seq elem29n9 (lastPart 10 code29) := rfl
set_option maxRecDepth 100000 in
set_option maxHeartbeats 16000000 in
theorem ck_e3 (s : Ls) (f : Nm → Int) (B E : Nat) (w W : World) (hs : RgS s f B w) (hb : Below w.heap.size w W) (ds : List Deferred) (Q : Exit → Act → World → Prop) (e0 e3 e4 e5 e6 e7 e8 e9 e10 e11 e12 e13 e14 e15 e16 e17 e18 e19 e20 e21 e22 e23 e24 e25 e26 e27 e28 e29 e30 e31 e32 e33 e34 e35 e36 e37 e38 e39 e40 e41 e42 e43 e44 e45 e46 e47 e48 e49 e50 e51 e52 e53 e54 e55 e56 e57 e58 e59 e60 e61 e62 e63 e64 e65 e66 e67 e68 e69 e70 e71 e72 e73 e74 e75 e76 e77 e78 e79 e80 e81 e82 e83 e84 e85 e86 e87 e88 e89 e90 e91 e92 e93 e94 e95 e96 e97 e98 e99 e100 e101 e102 e103 e104 e105 e106 e107 e108 e109 e110 e111 e112 e113 e114 e115 e116 e117 e118 e119 e120 e121 : Value)
  (hN : (inB s.wd 1 1000 && inB s.dp 1 1000) = true → ∀ (x0 x3 x4 x5 x6 x7 x8 x9 x10 x11 x12 x13 x14 x15 x16 x17 x18 x19 x20 x21 x22 x23 x24 x25 x26 x27 x28 x29 x30 x31 x32 x33 x34 x35 x36 x37 x38 x39 x40 x41 x42 x43 x44 x45 x46 x47 x48 x49 x50 x51 x52 x53 x54 x55 x56 x57 x58 x59 x60 x61 x62 x63 x64 x65 x66 x67 x68 x69 x70 x71 x72 x73 x74 x75 x76 x77 x78 x79 x80 x81 x82 x83 x84 x85 x86 x87 x88 x89 x90 x91 x92 x93 x94 x95 x96 x97 x98 x99 x100 x101 x102 x103 x104 x105 x106 x107 x108 x109 x110 x111 x112 x113 x114 x115 x116 x117 x118 x119 x120 x121 : Value) (V : World), Below w.heap.size w V → Q .normal { tmps := #[x0, .pointer (some ⟨B, 0, none⟩), .pointer (some ⟨E, 0, none⟩), x3, x4, x5, x6, x7, x8, x9, x10, x11, x12, x13, x14, x15, x16, x17, x18, x19, x20, x21, x22, x23, x24, x25, x26, x27, x28, x29, x30, x31, x32, x33, x34, x35, x36, x37, x38, x39, x40, x41, x42, x43, x44, x45, x46, x47, x48, x49, x50, x51, x52, x53, x54, x55, x56, x57, x58, x59, x60, x61, x62, x63, x64, x65, x66, x67, x68, x69, x70, x71, x72, x73, x74, x75, x76, x77, x78, x79, x80, x81, x82, x83, x84, x85, x86, x87, x88, x89, x90, x91, x92, x93, x94, x95, x96, x97, x98, x99, x100, x101, x102, x103, x104, x105, x106, x107, x108, x109, x110, x111, x112, x113, x114, x115, x116, x117, x118, x119, x120, x121], defers := ds } V)
  (hP : (inB s.wd 1 1000 && inB s.dp 1 1000) = false → ∀ (t : Array Value) (V : World), t.getD 2 undef = .pointer (some ⟨E, 0, none⟩) → Below w.heap.size w V → Q (.panic wrongC) { tmps := t, defers := ds } V) :
  elem29n3.wp Try.prog Q { tmps := #[e0, .pointer (some ⟨B, 0, none⟩), .pointer (some ⟨E, 0, none⟩), e3, e4, e5, e6, e7, e8, e9, e10, e11, e12, e13, e14, e15, e16, e17, e18, e19, e20, e21, e22, e23, e24, e25, e26, e27, e28, e29, e30, e31, e32, e33, e34, e35, e36, e37, e38, e39, e40, e41, e42, e43, e44, e45, e46, e47, e48, e49, e50, e51, e52, e53, e54, e55, e56, e57, e58, e59, e60, e61, e62, e63, e64, e65, e66, e67, e68, e69, e70, e71, e72, e73, e74, e75, e76, e77, e78, e79, e80, e81, e82, e83, e84, e85, e86, e87, e88, e89, e90, e91, e92, e93, e94, e95, e96, e97, e98, e99, e100, e101, e102, e103, e104, e105, e106, e107, e108, e109, e110, e111, e112, e113, e114, e115, e116, e117, e118, e119, e120, e121], defers := ds } W := by
 have hS := hs.below hb
 have y1 : W.cell? ⟨B, 1, none⟩ = some (.int .i64 s.wd) := cell_at hS.box 1 rfl
 have y2 : W.cell? ⟨B, 2, none⟩ = some (.int .i64 s.dp) := cell_at hS.box 2 rfl
 have HN := Lib.hid hN; have HP := Lib.hid hP; have HB := Lib.hid hb
 clear hN hP hb hS hs
 cases hq0 : inB s.wd 1 1000 with
 | false =>
  have HC : Hid ((inB s.wd 1 1000 && inB s.dp 1 1000) = false) := Lib.hid (by rw [hq0]; rfl)
  conv => arg 2; whnf
  go_wp2_with (first | (go_at_call 64; refine (rin_h (by assumption) _).mono ?_; rintro e w2 ⟨rfl, rfl⟩) | (go_at_call 63; first | (refine (demand_ok _).mono ?_; rintro e w2 ⟨rfl, rfl⟩) | (refine (demand_bad _).mono ?_; unfold wrongPanic; rintro e w2 ⟨rfl, rfl⟩)))
  exact HP.out HC.out _ _ rfl HB.out
 | true =>
  cases hq1 : inB s.dp 1 1000 with
  | false =>
   have HC : Hid ((inB s.wd 1 1000 && inB s.dp 1 1000) = false) := Lib.hid (by rw [hq0, hq1]; rfl)
   conv => arg 2; whnf
   go_wp2_with (first | (go_at_call 64; refine (rin_h (by assumption) _).mono ?_; rintro e w2 ⟨rfl, rfl⟩) | (go_at_call 63; first | (refine (demand_ok _).mono ?_; rintro e w2 ⟨rfl, rfl⟩) | (refine (demand_bad _).mono ?_; unfold wrongPanic; rintro e w2 ⟨rfl, rfl⟩)))
   exact HP.out HC.out _ _ rfl HB.out
  | true =>
   have HC : Hid ((inB s.wd 1 1000 && inB s.dp 1 1000) = true) := Lib.hid (by rw [hq0, hq1]; rfl)
   conv => arg 2; whnf
   go_wp2_with (first | (go_at_call 64; refine (rin_h (by assumption) _).mono ?_; rintro e w2 ⟨rfl, rfl⟩) | (go_at_call 63; first | (refine (demand_ok _).mono ?_; rintro e w2 ⟨rfl, rfl⟩) | (refine (demand_bad _).mono ?_; unfold wrongPanic; rintro e w2 ⟨rfl, rfl⟩)))
   exact HN.out HC.out _ _ _ _ _ _ _ _ _ _ _ _ _ _ _ _ _ _ _ _ _ _ _ _ _ _ _ _ _ _ _ _ _ _ _ _ _ _ _ _ _ _ _ _ _ _ _ _ _ _ _ _ _ _ _ _ _ _ _ _ _ _ _ _ _ _ _ _ _ _ _ _ _ _ _ _ _ _ _ _ _ _ _ _ _ _ _ _ _ _ _ _ _ _ _ _ _ _ _ _ _ _ _ _ _ _ _ _ _ _ _ _ _ _ _ _ _ _ _ _ _ HB.out
set_option maxRecDepth 100000 in
set_option maxHeartbeats 16000000 in
theorem ck_e4 (s : Ls) (f : Nm → Int) (B E : Nat) (w W : World) (hs : RgS s f B w) (hb : Below w.heap.size w W) (ds : List Deferred) (Q : Exit → Act → World → Prop) (e0 e3 e4 e5 e6 e7 e8 e9 e10 e11 e12 e13 e14 e15 e16 e17 e18 e19 e20 e21 e22 e23 e24 e25 e26 e27 e28 e29 e30 e31 e32 e33 e34 e35 e36 e37 e38 e39 e40 e41 e42 e43 e44 e45 e46 e47 e48 e49 e50 e51 e52 e53 e54 e55 e56 e57 e58 e59 e60 e61 e62 e63 e64 e65 e66 e67 e68 e69 e70 e71 e72 e73 e74 e75 e76 e77 e78 e79 e80 e81 e82 e83 e84 e85 e86 e87 e88 e89 e90 e91 e92 e93 e94 e95 e96 e97 e98 e99 e100 e101 e102 e103 e104 e105 e106 e107 e108 e109 e110 e111 e112 e113 e114 e115 e116 e117 e118 e119 e120 e121 : Value)
  (hN : (inB s.t0 1 127 && inB s.t1 0 s.t0) = true → ∀ (x0 x3 x4 x5 x6 x7 x8 x9 x10 x11 x12 x13 x14 x15 x16 x17 x18 x19 x20 x21 x22 x23 x24 x25 x26 x27 x28 x29 x30 x31 x32 x33 x34 x35 x36 x37 x38 x39 x40 x41 x42 x43 x44 x45 x46 x47 x48 x49 x50 x51 x52 x53 x54 x55 x56 x57 x58 x59 x60 x61 x62 x63 x64 x65 x66 x67 x68 x69 x70 x71 x72 x73 x74 x75 x76 x77 x78 x79 x80 x81 x82 x83 x84 x85 x86 x87 x88 x89 x90 x91 x92 x93 x94 x95 x96 x97 x98 x99 x100 x101 x102 x103 x104 x105 x106 x107 x108 x109 x110 x111 x112 x113 x114 x115 x116 x117 x118 x119 x120 x121 : Value) (V : World), Below w.heap.size w V → Q .normal { tmps := #[x0, .pointer (some ⟨B, 0, none⟩), .pointer (some ⟨E, 0, none⟩), x3, x4, x5, x6, x7, x8, x9, x10, x11, x12, x13, x14, x15, x16, x17, x18, x19, x20, x21, x22, x23, x24, x25, x26, x27, x28, x29, x30, x31, x32, x33, x34, x35, x36, x37, x38, x39, x40, x41, x42, x43, x44, x45, x46, x47, x48, x49, x50, x51, x52, x53, x54, x55, x56, x57, x58, x59, x60, x61, x62, x63, x64, x65, x66, x67, x68, x69, x70, x71, x72, x73, x74, x75, x76, x77, x78, x79, x80, x81, x82, x83, x84, x85, x86, x87, x88, x89, x90, x91, x92, x93, x94, x95, x96, x97, x98, x99, x100, x101, x102, x103, x104, x105, x106, x107, x108, x109, x110, x111, x112, x113, x114, x115, x116, x117, x118, x119, x120, x121], defers := ds } V)
  (hP : (inB s.t0 1 127 && inB s.t1 0 s.t0) = false → ∀ (t : Array Value) (V : World), t.getD 2 undef = .pointer (some ⟨E, 0, none⟩) → Below w.heap.size w V → Q (.panic wrongC) { tmps := t, defers := ds } V) :
  elem29n4.wp Try.prog Q { tmps := #[e0, .pointer (some ⟨B, 0, none⟩), .pointer (some ⟨E, 0, none⟩), e3, e4, e5, e6, e7, e8, e9, e10, e11, e12, e13, e14, e15, e16, e17, e18, e19, e20, e21, e22, e23, e24, e25, e26, e27, e28, e29, e30, e31, e32, e33, e34, e35, e36, e37, e38, e39, e40, e41, e42, e43, e44, e45, e46, e47, e48, e49, e50, e51, e52, e53, e54, e55, e56, e57, e58, e59, e60, e61, e62, e63, e64, e65, e66, e67, e68, e69, e70, e71, e72, e73, e74, e75, e76, e77, e78, e79, e80, e81, e82, e83, e84, e85, e86, e87, e88, e89, e90, e91, e92, e93, e94, e95, e96, e97, e98, e99, e100, e101, e102, e103, e104, e105, e106, e107, e108, e109, e110, e111, e112, e113, e114, e115, e116, e117, e118, e119, e120, e121], defers := ds } W := by
 have hS := hs.below hb
 have y1 : W.cell? ⟨B, 4, none⟩ = some (.int .i64 s.t0) := cell_at hS.box 4 rfl
 have y2 : W.cell? ⟨B, 5, none⟩ = some (.int .i64 s.t1) := cell_at hS.box 5 rfl
 have HN := Lib.hid hN; have HP := Lib.hid hP; have HB := Lib.hid hb
 clear hN hP hb hS hs
 cases hq0 : inB s.t0 1 127 with
 | false =>
  have HC : Hid ((inB s.t0 1 127 && inB s.t1 0 s.t0) = false) := Lib.hid (by rw [hq0]; rfl)
  conv => arg 2; whnf
  go_wp2_with (first | (go_at_call 64; refine (rin_h (by assumption) _).mono ?_; rintro e w2 ⟨rfl, rfl⟩) | (go_at_call 63; first | (refine (demand_ok _).mono ?_; rintro e w2 ⟨rfl, rfl⟩) | (refine (demand_bad _).mono ?_; unfold wrongPanic; rintro e w2 ⟨rfl, rfl⟩)))
  exact HP.out HC.out _ _ rfl HB.out
 | true =>
  cases hq1 : inB s.t1 0 s.t0 with
  | false =>
   have HC : Hid ((inB s.t0 1 127 && inB s.t1 0 s.t0) = false) := Lib.hid (by rw [hq0, hq1]; rfl)
   conv => arg 2; whnf
   go_wp2_with (first | (go_at_call 64; refine (rin_h (by assumption) _).mono ?_; rintro e w2 ⟨rfl, rfl⟩) | (go_at_call 63; first | (refine (demand_ok _).mono ?_; rintro e w2 ⟨rfl, rfl⟩) | (refine (demand_bad _).mono ?_; unfold wrongPanic; rintro e w2 ⟨rfl, rfl⟩)))
   exact HP.out HC.out _ _ rfl HB.out
  | true =>
   have HC : Hid ((inB s.t0 1 127 && inB s.t1 0 s.t0) = true) := Lib.hid (by rw [hq0, hq1]; rfl)
   conv => arg 2; whnf
   go_wp2_with (first | (go_at_call 64; refine (rin_h (by assumption) _).mono ?_; rintro e w2 ⟨rfl, rfl⟩) | (go_at_call 63; first | (refine (demand_ok _).mono ?_; rintro e w2 ⟨rfl, rfl⟩) | (refine (demand_bad _).mono ?_; unfold wrongPanic; rintro e w2 ⟨rfl, rfl⟩)))
   exact HN.out HC.out _ _ _ _ _ _ _ _ _ _ _ _ _ _ _ _ _ _ _ _ _ _ _ _ _ _ _ _ _ _ _ _ _ _ _ _ _ _ _ _ _ _ _ _ _ _ _ _ _ _ _ _ _ _ _ _ _ _ _ _ _ _ _ _ _ _ _ _ _ _ _ _ _ _ _ _ _ _ _ _ _ _ _ _ _ _ _ _ _ _ _ _ _ _ _ _ _ _ _ _ _ _ _ _ _ _ _ _ _ _ _ _ _ _ _ _ _ _ _ _ _ HB.out
def rolOk (s : Ls) (x : Rol) : Bool := (inB x.x 0 s.wd && (inB x.y 0 s.dp && inB x.face 0 7))
set_option maxRecDepth 100000 in
set_option maxHeartbeats 16000000 in
theorem ck_e5 (s : Ls) (f : Nm → Int) (B E : Nat) (w W : World) (hs : RgS s f B w) (hb : Below w.heap.size w W) (_hl : s.roles.length ≤ 100000) (ds : List Deferred) (Q : Exit → Act → World → Prop) (e0 e3 e4 e5 e6 e7 e8 e9 e10 e11 e12 e13 e14 e15 e16 e17 e18 e19 e20 e21 e22 e23 e24 e25 e26 e27 e28 e29 e30 e31 e32 e33 e34 e35 e36 e37 e38 e39 e40 e41 e42 e43 e44 e45 e46 e47 e48 e49 e50 e51 e52 e53 e54 e55 e56 e57 e58 e59 e60 e61 e62 e63 e64 e65 e66 e67 e68 e69 e70 e71 e72 e73 e74 e75 e76 e77 e78 e79 e80 e81 e82 e83 e84 e85 e86 e87 e88 e89 e90 e91 e92 e93 e94 e95 e96 e97 e98 e99 e100 e101 e102 e103 e104 e105 e106 e107 e108 e109 e110 e111 e112 e113 e114 e115 e116 e117 e118 e119 e120 e121 : Value)
  (hN : s.roles.all (rolOk s) = true → ∀ (x0 x3 x4 x5 x6 x7 x8 x9 x10 x11 x12 x13 x14 x15 x16 x17 x18 x19 x20 x21 x22 x23 x24 x25 x26 x27 x28 x29 x30 x31 x32 x33 x34 x35 x36 x37 x38 x39 x40 x41 x42 x43 x44 x45 x46 x47 x48 x49 x50 x51 x52 x53 x54 x55 x56 x57 x58 x59 x60 x61 x62 x63 x64 x65 x66 x67 x68 x69 x70 x71 x72 x73 x74 x75 x76 x77 x78 x79 x80 x81 x82 x83 x84 x85 x86 x87 x88 x89 x90 x91 x92 x93 x94 x95 x96 x97 x98 x99 x100 x101 x102 x103 x104 x105 x106 x107 x108 x109 x110 x111 x112 x113 x114 x115 x116 x117 x118 x119 x120 x121 : Value) (V : World), Below w.heap.size w V → Q .normal { tmps := #[x0, .pointer (some ⟨B, 0, none⟩), .pointer (some ⟨E, 0, none⟩), x3, x4, x5, x6, x7, x8, x9, x10, x11, x12, x13, x14, x15, x16, x17, x18, x19, x20, x21, x22, x23, x24, x25, x26, x27, x28, x29, x30, x31, x32, x33, x34, x35, x36, x37, x38, x39, x40, x41, x42, x43, x44, x45, x46, x47, x48, x49, x50, x51, x52, x53, x54, x55, x56, x57, x58, x59, x60, x61, x62, x63, x64, x65, x66, x67, x68, x69, x70, x71, x72, x73, x74, x75, x76, x77, x78, x79, x80, x81, x82, x83, x84, x85, x86, x87, x88, x89, x90, x91, x92, x93, x94, x95, x96, x97, x98, x99, x100, x101, x102, x103, x104, x105, x106, x107, x108, x109, x110, x111, x112, x113, x114, x115, x116, x117, x118, x119, x120, x121], defers := ds } V)
  (hP : s.roles.all (rolOk s) = false → ∀ (t : Array Value) (V : World), t.getD 2 undef = .pointer (some ⟨E, 0, none⟩) → Below w.heap.size w V → Q (.panic wrongC) { tmps := t, defers := ds } V) :
  elem29n5.wp Try.prog Q { tmps := #[e0, .pointer (some ⟨B, 0, none⟩), .pointer (some ⟨E, 0, none⟩), e3, e4, e5, e6, e7, e8, e9, e10, e11, e12, e13, e14, e15, e16, e17, e18, e19, e20, e21, e22, e23, e24, e25, e26, e27, e28, e29, e30, e31, e32, e33, e34, e35, e36, e37, e38, e39, e40, e41, e42, e43, e44, e45, e46, e47, e48, e49, e50, e51, e52, e53, e54, e55, e56, e57, e58, e59, e60, e61, e62, e63, e64, e65, e66, e67, e68, e69, e70, e71, e72, e73, e74, e75, e76, e77, e78, e79, e80, e81, e82, e83, e84, e85, e86, e87, e88, e89, e90, e91, e92, e93, e94, e95, e96, e97, e98, e99, e100, e101, e102, e103, e104, e105, e106, e107, e108, e109, e110, e111, e112, e113, e114, e115, e116, e117, e118, e119, e120, e121], defers := ds } W := by
 have hS := hs.below hb
 have y6 : W.cell? ⟨B, 6, none⟩ = some (.slice s.ra s.roles.length s.rc) := cell_at hS.box 6 rfl
 have HN := Lib.hid hN; have HP := Lib.hid hP; have HB := Lib.hid hb; have HS := Lib.hid hs
 clear hN hP hb hS hs
 generalize hn : s.roles.length = n at *
 have HLN := Lib.hid hn
 clear hn
 conv => arg 2; whnf
 go_wp2_with fail
 go_loopw [42] (fun iv wr => ∃ i : Nat, iv = .int .i64 i ∧ i ≤ n ∧ Hid (∀ x ∈ s.roles.take i, rolOk s x = true) ∧ Hid (Below w.heap.size w wr)) (fun iv _ => n + 1 - (intOf iv).toNat)
 case atStart => exact ⟨0, rfl, Nat.zero_le _, Lib.hid (by simp), HB⟩
 case round =>
  obtain ⟨i, rfl, hin, hok, hB⟩ := hrel
  by_cases hlt : i < n
  ·have hi : (i : Int) < (n : Int) := by omega
   obtain ⟨x, hx⟩ : ∃ x, s.roles[i]? = some x := ⟨_, List.getElem?_eq_getElem (by rw [HLN.out]; exact hlt)⟩
   have hSr := HS.out.below hB.out
   obtain ⟨b, o, e, c0, c1, c2, c3⟩ := roles_get hSr.at_ hx
   have y1 : wr.cell? ⟨B, 1, none⟩ = some (.int .i64 s.wd) := cell_at hSr.box 1 rfl
   have y2 : wr.cell? ⟨B, 2, none⟩ = some (.int .i64 s.dp) := cell_at hSr.box 2 rfl
   obtain ⟨W2, hW2, gW2, bW2, sW2⟩ := mk_cells wr #[sv x.name, .int .i64 x.x, .int .i64 x.y, .int .i64 x.face] 59
   have z1 := cell_at gW2 1 rfl; have z2 := cell_at gW2 2 rfl; have z3 := cell_at gW2 3 rfl
   have v1 := keep_cell bW2 y1; have v2 := keep_cell bW2 y2
   have HX := Lib.hid hx; have HB2 := Lib.hid (thenB hB.out bW2)
   obtain ⟨r, hr⟩ : ∃ r, rolOk s x = r := ⟨_, rfl⟩
   have HR := Lib.hid hr
   generalize hra : s.ra = ra at *
   subst e
   have HRA := Lib.hid hra
   clear hx hSr gW2 bW2 sW2 hra hr
   cases hq0 : inB x.x 0 s.wd with
   | false =>
    have hc : rolOk s x = false := by unfold rolOk; rw [hq0]; rfl
    have hall : s.roles.all (rolOk s) = false := by
     rw [← Bool.not_eq_true, List.all_eq_true]
     intro h
     rw [h x (List.mem_of_getElem? HX.out)] at hc; cases hc
    have HC := Lib.hid hall
    clear hc hall
    go_wp2_with (first | (go_at_call 64; refine (rin_h (by assumption) _).mono ?_; rintro e w2 ⟨rfl, rfl⟩) | (go_at_call 63; first | (refine (demand_ok _).mono ?_; rintro e w2 ⟨rfl, rfl⟩) | (refine (demand_bad _).mono ?_; unfold wrongPanic; rintro e w2 ⟨rfl, rfl⟩)))
    exact HP.out HC.out _ _ rfl HB2.out
   | true =>
    cases hq1 : inB x.y 0 s.dp with
    | false =>
     have hc : rolOk s x = false := by unfold rolOk; rw [hq0, hq1]; rfl
     have hall : s.roles.all (rolOk s) = false := by
      rw [← Bool.not_eq_true, List.all_eq_true]
      intro h
      rw [h x (List.mem_of_getElem? HX.out)] at hc; cases hc
     have HC := Lib.hid hall
     clear hc hall
     go_wp2_with (first | (go_at_call 64; refine (rin_h (by assumption) _).mono ?_; rintro e w2 ⟨rfl, rfl⟩) | (go_at_call 63; first | (refine (demand_ok _).mono ?_; rintro e w2 ⟨rfl, rfl⟩) | (refine (demand_bad _).mono ?_; unfold wrongPanic; rintro e w2 ⟨rfl, rfl⟩)))
     exact HP.out HC.out _ _ rfl HB2.out
    | true =>
     cases hq2 : inB x.face 0 7 with
     | false =>
      have hc : rolOk s x = false := by unfold rolOk; rw [hq0, hq1, hq2]; rfl
      have hall : s.roles.all (rolOk s) = false := by
       rw [← Bool.not_eq_true, List.all_eq_true]
       intro h
       rw [h x (List.mem_of_getElem? HX.out)] at hc; cases hc
      have HC := Lib.hid hall
      clear hc hall
      go_wp2_with (first | (go_at_call 64; refine (rin_h (by assumption) _).mono ?_; rintro e w2 ⟨rfl, rfl⟩) | (go_at_call 63; first | (refine (demand_ok _).mono ?_; rintro e w2 ⟨rfl, rfl⟩) | (refine (demand_bad _).mono ?_; unfold wrongPanic; rintro e w2 ⟨rfl, rfl⟩)))
      exact HP.out HC.out _ _ rfl HB2.out
     | true =>
      have hc : rolOk s x = true := by unfold rolOk; rw [hq0, hq1, hq2]; rfl
      have HC := Lib.hid hc
      clear hc
      go_wp2_with (first | (go_at_call 64; refine (rin_h (by assumption) _).mono ?_; rintro e w2 ⟨rfl, rfl⟩) | (go_at_call 63; first | (refine (demand_ok _).mono ?_; rintro e w2 ⟨rfl, rfl⟩) | (refine (demand_bad _).mono ?_; unfold wrongPanic; rintro e w2 ⟨rfl, rfl⟩)))
      go_roundw
      case rel => exact ⟨i + 1, by go_num, by omega, Lib.hid (all_next hok.out HX.out HC.out), HB2⟩
      case measure => simp [intOf]; omega
  ·have : i = n := by omega
   subst this
   have hz : ¬ (i : Int) < (i : Int) := by omega
   have hall : s.roles.all (rolOk s) = true := List.all_eq_true.2 (fun x hx => hok.out x (by rw [List.take_of_length_le (by rw [HLN.out]; exact Nat.le_refl _)]; exact hx))
   have HC := Lib.hid hall
   clear hall
   go_wp2_with fail
   exact HN.out HC.out _ _ _ _ _ _ _ _ _ _ _ _ _ _ _ _ _ _ _ _ _ _ _ _ _ _ _ _ _ _ _ _ _ _ _ _ _ _ _ _ _ _ _ _ _ _ _ _ _ _ _ _ _ _ _ _ _ _ _ _ _ _ _ _ _ _ _ _ _ _ _ _ _ _ _ _ _ _ _ _ _ _ _ _ _ _ _ _ _ _ _ _ _ _ _ _ _ _ _ _ _ _ _ _ _ _ _ _ _ _ _ _ _ _ _ _ _ _ _ _ _ hB.out
end Go.Proofs.Ytpnbpepkoekkoaa
end
section
namespace Go.Proofs.Ytpnbpepkoekkoaa
open Go Go.RowKit
theorem eql_nil (V : World) : (binOp .eql 63 (.slice none 0 0) (.slice none 0 0)).run Try.prog V = .ok (.bool true) V := by kernel_rfl
theorem eql_some (g n c : Nat) (V : World) : (binOp .eql 63 (.slice (some ⟨g, 0, none⟩) n c) (.slice none 0 0)).run Try.prog V = .ok (.bool false) V := by kernel_rfl
def Sc.clk (s : Sc) : Clk := ⟨s.bars, s.tempos, s.pauses, s.spans⟩
set_option maxRecDepth 100000 in
set_option maxHeartbeats 16000000 in
theorem ck_e6 (s : Ls) (f : Nm → Int) (B E : Nat) (w W : World) (hs : RgS s f B w) (hb : Below w.heap.size w W) (ds : List Deferred) (Q : Exit → Act → World → Prop) (e0 e3 e4 e5 e6 e7 e8 e9 e10 e11 e12 e13 e14 e15 e16 e17 e18 e19 e20 e21 e22 e23 e24 e25 e26 e27 e28 e29 e30 e31 e32 e33 e34 e35 e36 e37 e38 e39 e40 e41 e42 e43 e44 e45 e46 e47 e48 e49 e50 e51 e52 e53 e54 e55 e56 e57 e58 e59 e60 e61 e62 e63 e64 e65 e66 e67 e68 e69 e70 e71 e72 e73 e74 e75 e76 e77 e78 e79 e80 e81 e82 e83 e84 e85 e86 e87 e88 e89 e90 e91 e92 e93 e94 e95 e96 e97 e98 e99 e100 e101 e102 e103 e104 e105 e106 e107 e108 e109 e110 e111 e112 e113 e114 e115 e116 e117 e118 e119 e120 e121 : Value)
  (hN : decide (clkE ⟨s.bars, s.tempos, s.pauses, s.spans⟩ = 0) = true → ∀ (x0 x3 x4 x5 x6 x7 x8 x9 x10 x11 x12 x13 x14 x15 x16 x17 x18 x19 x20 x21 x22 x23 x24 x25 x26 x27 x28 x29 x30 x31 x32 x33 x34 x35 x36 x37 x38 x39 x40 x41 x42 x43 x44 x45 x46 x47 x48 x49 x50 x51 x52 x53 x54 x55 x56 x57 x58 x59 x60 x61 x62 x63 x64 x65 x66 x67 x68 x69 x70 x71 x72 x73 x74 x75 x76 x77 x78 x79 x80 x81 x82 x83 x84 x85 x86 x87 x88 x89 x90 x91 x92 x93 x94 x95 x96 x97 x98 x99 x100 x101 x102 x103 x104 x105 x106 x107 x108 x109 x110 x111 x112 x113 x114 x115 x116 x117 x118 x119 x120 x121 : Value) (V : World), Below w.heap.size w V → Q .normal { tmps := #[x0, .pointer (some ⟨B, 0, none⟩), .pointer (some ⟨E, 0, none⟩), x3, x4, x5, x6, x7, x8, x9, x10, x11, x12, x13, x14, x15, x16, x17, x18, x19, x20, x21, x22, x23, x24, x25, x26, x27, x28, x29, x30, x31, x32, x33, x34, x35, x36, x37, x38, x39, x40, x41, x42, x43, x44, x45, x46, x47, x48, x49, x50, x51, x52, x53, x54, x55, x56, x57, x58, x59, x60, x61, x62, x63, x64, x65, x66, x67, x68, x69, x70, x71, x72, x73, x74, x75, x76, x77, x78, x79, x80, x81, x82, x83, x84, x85, x86, x87, x88, x89, x90, x91, x92, x93, x94, x95, x96, x97, x98, x99, x100, x101, x102, x103, x104, x105, x106, x107, x108, x109, x110, x111, x112, x113, x114, x115, x116, x117, x118, x119, x120, x121], defers := ds } V)
  (hP : decide (clkE ⟨s.bars, s.tempos, s.pauses, s.spans⟩ = 0) = false → ∀ (t : Array Value) (V : World), t.getD 2 undef = .pointer (some ⟨E, 0, none⟩) → Below w.heap.size w V → Q (.panic wrongC) { tmps := t, defers := ds } V) :
  elem29n6.wp Try.prog Q { tmps := #[e0, .pointer (some ⟨B, 0, none⟩), .pointer (some ⟨E, 0, none⟩), e3, e4, e5, e6, e7, e8, e9, e10, e11, e12, e13, e14, e15, e16, e17, e18, e19, e20, e21, e22, e23, e24, e25, e26, e27, e28, e29, e30, e31, e32, e33, e34, e35, e36, e37, e38, e39, e40, e41, e42, e43, e44, e45, e46, e47, e48, e49, e50, e51, e52, e53, e54, e55, e56, e57, e58, e59, e60, e61, e62, e63, e64, e65, e66, e67, e68, e69, e70, e71, e72, e73, e74, e75, e76, e77, e78, e79, e80, e81, e82, e83, e84, e85, e86, e87, e88, e89, e90, e91, e92, e93, e94, e95, e96, e97, e98, e99, e100, e101, e102, e103, e104, e105, e106, e107, e108, e109, e110, e111, e112, e113, e114, e115, e116, e117, e118, e119, e120, e121], defers := ds } W := by
 have hS := hs.below hb
 have y1 : W.cell? ⟨B, 3, none⟩ = some (.int .i64 s.bars) := cell_at hS.box 3 rfl
 have y2 : W.cell? ⟨B, 7, none⟩ = some (.slice s.ta s.tempos.length s.tc) := cell_at hS.box 7 rfl
 have y3 : W.cell? ⟨B, 8, none⟩ = some (.slice s.ua s.pauses.length s.uc) := cell_at hS.box 8 rfl
 have y4 : W.cell? ⟨B, 9, none⟩ = some (.slice s.sa s.spans.length s.sc) := cell_at hS.box 9 rfl
 have C := tcheck_any s.bars s.ta s.ua s.sa s.tc s.uc s.sc s.tempos s.pauses s.spans W hS.at_.tempos hS.at_.pauses hS.at_.spans
 have HN := Lib.hid hN; have HP := Lib.hid hP; have HB := Lib.hid hb
 obtain ⟨c, hc⟩ : ∃ c, clkE ⟨s.bars, s.tempos, s.pauses, s.spans⟩ = c := ⟨_, rfl⟩
 rw [hc] at C
 have HC := Lib.hid C; have HK := Lib.hid hc
 clear hN hP hb hS hs C hc
 conv => arg 2; whnf
 by_cases hz : c = 0
 ·subst hz
  have HD : Hid (decide (clkE ⟨s.bars, s.tempos, s.pauses, s.spans⟩ = 0) = true) := Lib.hid (decide_eq_true HK.out)
  go_wp2_with (first | (go_at_call 65; refine HC.out.mono ?_; rintro e V ⟨rfl, hv⟩; have HV := Lib.hid hv; clear hv) | (first | (go_at_call 64; refine (rin_h (by assumption) _).mono ?_; rintro e w2 ⟨rfl, rfl⟩) | (go_at_call 63; first | (refine (demand_ok _).mono ?_; rintro e w2 ⟨rfl, rfl⟩) | (refine (demand_bad _).mono ?_; unfold wrongPanic; rintro e w2 ⟨rfl, rfl⟩))))
  exact HN.out HD.out _ _ _ _ _ _ _ _ _ _ _ _ _ _ _ _ _ _ _ _ _ _ _ _ _ _ _ _ _ _ _ _ _ _ _ _ _ _ _ _ _ _ _ _ _ _ _ _ _ _ _ _ _ _ _ _ _ _ _ _ _ _ _ _ _ _ _ _ _ _ _ _ _ _ _ _ _ _ _ _ _ _ _ _ _ _ _ _ _ _ _ _ _ _ _ _ _ _ _ _ _ _ _ _ _ _ _ _ _ _ _ _ _ _ _ _ _ _ _ _ _ (thenB HB.out HV.out)
 ·have HD : Hid (decide (clkE ⟨s.bars, s.tempos, s.pauses, s.spans⟩ = 0) = false) := Lib.hid (decide_eq_false (by rw [HK.out]; exact hz))
  go_wp2_with (first | (go_at_call 63; refine (demand_f (by simpa using hz) _).mono ?_; unfold wrongPanic; rintro e w2 ⟨rfl, rfl⟩) | (go_at_call 65; refine HC.out.mono ?_; rintro e V ⟨rfl, hv⟩; have HV := Lib.hid hv; clear hv) | (first | (go_at_call 64; refine (rin_h (by assumption) _).mono ?_; rintro e w2 ⟨rfl, rfl⟩) | (go_at_call 63; first | (refine (demand_ok _).mono ?_; rintro e w2 ⟨rfl, rfl⟩) | (refine (demand_bad _).mono ?_; unfold wrongPanic; rintro e w2 ⟨rfl, rfl⟩))))
  exact HP.out HD.out _ _ rfl (thenB HB.out HV.out)
set_option maxRecDepth 100000 in
set_option maxHeartbeats 16000000 in
theorem ck_e7 (s : Ls) (f : Nm → Int) (B E : Nat) (w W : World) (hs : RgS s f B w) (hb : Below w.heap.size w W) (_hl : s.phrases.length ≤ 100000) (ds : List Deferred) (Q : Exit → Act → World → Prop) (e0 e3 e4 e5 e6 e7 e8 e9 e10 e11 e12 e13 e14 e15 e16 e17 e18 e19 e20 e21 e22 e23 e24 e25 e26 e27 e28 e29 e30 e31 e32 e33 e34 e35 e36 e37 e38 e39 e40 e41 e42 e43 e44 e45 e46 e47 e48 e49 e50 e51 e52 e53 e54 e55 e56 e57 e58 e59 e60 e61 e62 e63 e64 e65 e66 e67 e68 e69 e70 e71 e72 e73 e74 e75 e76 e77 e78 e79 e80 e81 e82 e83 e84 e85 e86 e87 e88 e89 e90 e91 e92 e93 e94 e95 e96 e97 e98 e99 e100 e101 e102 e103 e104 e105 e106 e107 e108 e109 e110 e111 e112 e113 e114 e115 e116 e117 e118 e119 e120 e121 : Value)
  (hN : s.phrases.all (fun p => p.its.strip.exB) = true → ∀ (x0 x3 x4 x5 x6 x7 x8 x9 x10 x11 x12 x13 x14 x15 x16 x17 x18 x19 x20 x21 x22 x23 x24 x25 x26 x27 x28 x29 x30 x31 x32 x33 x34 x35 x36 x37 x38 x39 x40 x41 x42 x43 x44 x45 x46 x47 x48 x49 x50 x51 x52 x53 x54 x55 x56 x57 x58 x59 x60 x61 x62 x63 x64 x65 x66 x67 x68 x69 x70 x71 x72 x73 x74 x75 x76 x77 x78 x79 x80 x81 x82 x83 x84 x85 x86 x87 x88 x89 x90 x91 x92 x93 x94 x95 x96 x97 x98 x99 x100 x101 x102 x103 x104 x105 x106 x107 x108 x109 x110 x111 x112 x113 x114 x115 x116 x117 x118 x119 x120 x121 : Value) (V : World), Below w.heap.size w V → Q .normal { tmps := #[x0, .pointer (some ⟨B, 0, none⟩), .pointer (some ⟨E, 0, none⟩), x3, x4, x5, x6, x7, x8, x9, x10, x11, x12, x13, x14, x15, x16, x17, x18, x19, x20, x21, x22, x23, x24, x25, x26, x27, x28, x29, x30, x31, x32, x33, x34, x35, x36, x37, x38, x39, x40, x41, x42, x43, x44, x45, x46, x47, x48, x49, x50, x51, x52, x53, x54, x55, x56, x57, x58, x59, x60, x61, x62, x63, x64, x65, x66, x67, x68, x69, x70, x71, x72, x73, x74, x75, x76, x77, x78, x79, x80, x81, x82, x83, x84, x85, x86, x87, x88, x89, x90, x91, x92, x93, x94, x95, x96, x97, x98, x99, x100, x101, x102, x103, x104, x105, x106, x107, x108, x109, x110, x111, x112, x113, x114, x115, x116, x117, x118, x119, x120, x121], defers := ds } V)
  (hP : s.phrases.all (fun p => p.its.strip.exB) = false → ∀ (t : Array Value) (V : World), t.getD 2 undef = .pointer (some ⟨E, 0, none⟩) → Below w.heap.size w V → Q (.panic wrongC) { tmps := t, defers := ds } V) :
  elem29n7.wp Try.prog Q { tmps := #[e0, .pointer (some ⟨B, 0, none⟩), .pointer (some ⟨E, 0, none⟩), e3, e4, e5, e6, e7, e8, e9, e10, e11, e12, e13, e14, e15, e16, e17, e18, e19, e20, e21, e22, e23, e24, e25, e26, e27, e28, e29, e30, e31, e32, e33, e34, e35, e36, e37, e38, e39, e40, e41, e42, e43, e44, e45, e46, e47, e48, e49, e50, e51, e52, e53, e54, e55, e56, e57, e58, e59, e60, e61, e62, e63, e64, e65, e66, e67, e68, e69, e70, e71, e72, e73, e74, e75, e76, e77, e78, e79, e80, e81, e82, e83, e84, e85, e86, e87, e88, e89, e90, e91, e92, e93, e94, e95, e96, e97, e98, e99, e100, e101, e102, e103, e104, e105, e106, e107, e108, e109, e110, e111, e112, e113, e114, e115, e116, e117, e118, e119, e120, e121], defers := ds } W := by
 have hS := hs.below hb
 have y6 : W.cell? ⟨B, 10, none⟩ = some (.slice s.fa s.phrases.length s.fc) := cell_at hS.box 10 rfl
 have HN := Lib.hid hN; have HP := Lib.hid hP; have HB := Lib.hid hb; have HS := Lib.hid hs
 clear hN hP hb hS hs
 generalize hn : s.phrases.length = n at *
 have HLN := Lib.hid hn
 clear hn
 conv => arg 2; whnf
 go_wp2_with fail
 go_loopw [80] (fun iv wr => ∃ i : Nat, iv = .int .i64 i ∧ i ≤ n ∧ Hid (∀ p ∈ s.phrases.take i, p.its.strip.exB = true) ∧ Hid (Below w.heap.size w wr)) (fun iv _ => n + 1 - (intOf iv).toNat)
 case atStart => exact ⟨0, rfl, Nat.zero_le _, Lib.hid (by simp), HB⟩
 case round =>
  obtain ⟨i, rfl, hin, hok, hB⟩ := hrel
  by_cases hlt : i < n
  ·have hi : (i : Int) < (n : Int) := by omega
   obtain ⟨p, hp⟩ : ∃ p, s.phrases[i]? = some p := ⟨_, List.getElem?_eq_getElem (by rw [HLN.out]; exact hlt)⟩
   have hSr := HS.out.below hB.out
   obtain ⟨c0, c1⟩ := phAt_get hSr.at_.phrases hp
   have hfa := hSr.at_.pform.resolve_left (fun e => by rw [e] at hp; cases hp)
   obtain ⟨W2, hW2, gW2, bW2, sW2⟩ := mk_cells wr #[sv p.name, .slice p.ia p.its.len p.ic] 57
   have hS2 := hSr.below bW2
   obtain ⟨i1, i2, i3⟩ := phAt_its hS2.at_.phrases hp
   have hnum : NumAt f W2 (p.its.refsL (blk p.ia) (off p.ia)) := fun x hx => hS2.nums x (phRefs_in hp hx)
   obtain ⟨ns, hns⟩ := hnum.ns
   have C := exIt_any _ p.its (Nat.le_refl _) p.ia p.ic ns W2 i1 i2 i3 hns
   have z1 := cell_at gW2 1 rfl
   unfold Ph.val at c1
   have HX := Lib.hid hp; have HB2 := Lib.hid (thenB hB.out bW2); have HC := Lib.hid C
   generalize hga : s.fa = fa at *
   have HGA := Lib.hid hga
   clear hga
   generalize hbb : blk fa = fb at *
   generalize hoo : off fa = fo at *
   subst hfa
   clear hbb hoo hp hSr hS2 gW2 bW2 sW2 i1 i2 i3 hnum hns C
   go_wp2_with (go_at_call 66; refine HC.out.mono ?_; intro e V he; rcases ex_ret he with ⟨h1, rfl, hb⟩ | ⟨h1, rfl, hb⟩ <;> clear he)
   ·have HV := Lib.hid (thenB HB2.out hb); have H1 := Lib.hid h1
    clear hb h1
    go_roundw
    case rel => exact ⟨i + 1, by go_num, by omega, Lib.hid (all_next hok.out HX.out H1.out), HV⟩
    case measure => simp [intOf]; omega
   ·have hall : s.phrases.all (fun p => p.its.strip.exB) = false := by
     rw [← Bool.not_eq_true, List.all_eq_true]
     intro h
     have := h p (List.mem_of_getElem? HX.out)
     rw [h1] at this; cases this
    exact HP.out hall _ _ rfl (thenB HB2.out hb)
  ·have : i = n := by omega
   subst this
   have hz : ¬ (i : Int) < (i : Int) := by omega
   have hall : s.phrases.all (fun p => p.its.strip.exB) = true := List.all_eq_true.2 (fun x hx => hok.out x (by rw [List.take_of_length_le (by rw [HLN.out]; exact Nat.le_refl _)]; exact hx))
   have HC := Lib.hid hall
   clear hall
   go_wp2_with fail
   exact HN.out HC.out _ _ _ _ _ _ _ _ _ _ _ _ _ _ _ _ _ _ _ _ _ _ _ _ _ _ _ _ _ _ _ _ _ _ _ _ _ _ _ _ _ _ _ _ _ _ _ _ _ _ _ _ _ _ _ _ _ _ _ _ _ _ _ _ _ _ _ _ _ _ _ _ _ _ _ _ _ _ _ _ _ _ _ _ _ _ _ _ _ _ _ _ _ _ _ _ _ _ _ _ _ _ _ _ _ _ _ _ _ _ _ _ _ _ _ _ _ _ _ _ _ hB.out
set_option maxRecDepth 100000 in
set_option maxHeartbeats 16000000 in
theorem ck_e8 (s : Ls) (f : Nm → Int) (B E : Nat) (w W : World) (hs : RgS s f B w) (hb : Below w.heap.size w W) (hl : s.phrases.length ≤ 999) (ds : List Deferred) (Q : Exit → Act → World → Prop) (e0 e3 e4 e5 e6 e7 e8 e9 e10 e11 e12 e13 e14 e15 e16 e17 e18 e19 e20 e21 e22 e23 e24 e25 e26 e27 e28 e29 e30 e31 e32 e33 e34 e35 e36 e37 e38 e39 e40 e41 e42 e43 e44 e45 e46 e47 e48 e49 e50 e51 e52 e53 e54 e55 e56 e57 e58 e59 e60 e61 e62 e63 e64 e65 e66 e67 e68 e69 e70 e71 e72 e73 e74 e75 e76 e77 e78 e79 e80 e81 e82 e83 e84 e85 e86 e87 e88 e89 e90 e91 e92 e93 e94 e95 e96 e97 e98 e99 e100 e101 e102 e103 e104 e105 e106 e107 e108 e109 e110 e111 e112 e113 e114 e115 e116 e117 e118 e119 e120 e121 : Value)
  (hN : decide (ringM (s.nexts f) = []) = true → ∀ (x0 x3 x4 x5 x6 x7 x8 x9 x10 x11 x12 x13 x14 x15 x16 x17 x18 x19 x20 x21 x22 x23 x24 x25 x26 x27 x28 x29 x30 x31 x32 x33 x34 x35 x36 x37 x38 x39 x40 x41 x42 x43 x44 x45 x46 x47 x48 x49 x50 x51 x52 x53 x54 x55 x56 x57 x58 x59 x60 x61 x62 x63 x64 x65 x66 x67 x68 x69 x70 x71 x72 x73 x74 x75 x76 x77 x78 x79 x80 x81 x82 x83 x84 x85 x86 x87 x88 x89 x90 x91 x92 x93 x94 x95 x96 x97 x98 x99 x100 x101 x102 x103 x104 x105 x106 x107 x108 x109 x110 x111 x112 x113 x114 x115 x116 x117 x118 x119 x120 x121 : Value) (V : World), Below w.heap.size w V → Q .normal { tmps := #[x0, .pointer (some ⟨B, 0, none⟩), .pointer (some ⟨E, 0, none⟩), x3, x4, x5, x6, x7, x8, x9, x10, x11, x12, x13, x14, x15, x16, x17, x18, x19, x20, x21, x22, x23, x24, x25, x26, x27, x28, x29, x30, x31, x32, x33, x34, x35, x36, x37, x38, x39, x40, x41, x42, x43, x44, x45, x46, x47, x48, x49, x50, x51, x52, x53, x54, x55, x56, x57, x58, x59, x60, x61, x62, x63, x64, x65, x66, x67, x68, x69, x70, x71, x72, x73, x74, x75, x76, x77, x78, x79, x80, x81, x82, x83, x84, x85, x86, x87, x88, x89, x90, x91, x92, x93, x94, x95, x96, x97, x98, x99, x100, x101, x102, x103, x104, x105, x106, x107, x108, x109, x110, x111, x112, x113, x114, x115, x116, x117, x118, x119, x120, x121], defers := ds } V)
  (hP : decide (ringM (s.nexts f) = []) = false → ∀ (t : Array Value) (V : World), t.getD 2 undef = .pointer (some ⟨E, 0, none⟩) → Below w.heap.size w V → Q (.panic wrongC) { tmps := t, defers := ds } V) :
  elem29n8.wp Try.prog Q { tmps := #[e0, .pointer (some ⟨B, 0, none⟩), .pointer (some ⟨E, 0, none⟩), e3, e4, e5, e6, e7, e8, e9, e10, e11, e12, e13, e14, e15, e16, e17, e18, e19, e20, e21, e22, e23, e24, e25, e26, e27, e28, e29, e30, e31, e32, e33, e34, e35, e36, e37, e38, e39, e40, e41, e42, e43, e44, e45, e46, e47, e48, e49, e50, e51, e52, e53, e54, e55, e56, e57, e58, e59, e60, e61, e62, e63, e64, e65, e66, e67, e68, e69, e70, e71, e72, e73, e74, e75, e76, e77, e78, e79, e80, e81, e82, e83, e84, e85, e86, e87, e88, e89, e90, e91, e92, e93, e94, e95, e96, e97, e98, e99, e100, e101, e102, e103, e104, e105, e106, e107, e108, e109, e110, e111, e112, e113, e114, e115, e116, e117, e118, e119, e120, e121], defers := ds } W := by
 have hS := hs.below hb
 have C := ring_any s f W hS.at_ hS.nums hl
 have HN := Lib.hid hN; have HP := Lib.hid hP; have HB := Lib.hid hb; have HC := Lib.hid C; have HX := Lib.hid hS.box
 clear hN hP hb hS hs C
 conv => arg 2; whnf
 have hq1 := eql_nil
 have hq2 := eql_some
 have st0 : True := trivial
 by_cases hz : ringM (s.nexts f) = []
 ·have HD : Hid (decide (ringM (s.nexts f) = []) = true) := Lib.hid (decide_eq_true hz)
  go_wp2_with (first | (have q := st0; clear q st0; (refine wpList_load_row rfl 30 _ rfl B rfl 30 s.cells (0, 0) _ HX.out Try.underlying30 rfl (by kernel_rfl) ?_; simp only [Act.put, List.setIfInBounds_toArray, List.set_cons_zero, List.set_cons_succ])) | (go_at_call 61; refine HC.out.mono ?_; rintro e V ⟨v, rfl, hv, hr⟩; rcases hr with ⟨_, rfl⟩ | ⟨g, cap, rfl, hne, _⟩; rotate_left; exact absurd hz hne; have HV := Lib.hid hv; clear hv) | (first | (go_at_call 64; refine (rin_h (by assumption) _).mono ?_; rintro e w2 ⟨rfl, rfl⟩) | (go_at_call 63; first | (refine (demand_ok _).mono ?_; rintro e w2 ⟨rfl, rfl⟩) | (refine (demand_bad _).mono ?_; unfold wrongPanic; rintro e w2 ⟨rfl, rfl⟩))))
  exact HN.out HD.out _ _ _ _ _ _ _ _ _ _ _ _ _ _ _ _ _ _ _ _ _ _ _ _ _ _ _ _ _ _ _ _ _ _ _ _ _ _ _ _ _ _ _ _ _ _ _ _ _ _ _ _ _ _ _ _ _ _ _ _ _ _ _ _ _ _ _ _ _ _ _ _ _ _ _ _ _ _ _ _ _ _ _ _ _ _ _ _ _ _ _ _ _ _ _ _ _ _ _ _ _ _ _ _ _ _ _ _ _ _ _ _ _ _ _ _ _ _ _ _ _ (thenB HB.out HV.out)
 ·have HD : Hid (decide (ringM (s.nexts f) = []) = false) := Lib.hid (decide_eq_false hz)
  go_wp2_with (first | (have q := st0; clear q st0; (refine wpList_load_row rfl 30 _ rfl B rfl 30 s.cells (0, 0) _ HX.out Try.underlying30 rfl (by kernel_rfl) ?_; simp only [Act.put, List.setIfInBounds_toArray, List.set_cons_zero, List.set_cons_succ])) | (go_at_call 61; refine HC.out.mono ?_; rintro e V ⟨v, rfl, hv, hr⟩; rcases hr with ⟨he, _⟩ | ⟨g, cap, rfl, hne, _⟩; exact absurd he hz; have HV := Lib.hid hv; clear hv) | (first | (go_at_call 64; refine (rin_h (by assumption) _).mono ?_; rintro e w2 ⟨rfl, rfl⟩) | (go_at_call 63; first | (refine (demand_ok _).mono ?_; rintro e w2 ⟨rfl, rfl⟩) | (refine (demand_bad _).mono ?_; unfold wrongPanic; rintro e w2 ⟨rfl, rfl⟩))))
  exact HP.out HD.out _ _ rfl (thenB HB.out HV.out)
end Go.Proofs.Ytpnbpepkoekkoaa
end
section
namespace Go.Proofs.Ytpnbpepkoekkoaa
open Go
def Near (g g' : Int → Option Int) (nn : Int) : Prop := ∀ x, g' x = g x ∨ (g x = none ∧ g' x = some nn)
theorem hit_near {g g' : Int → Option Int} {nn i : Int} (h : Near g g' nn) (to : Int) : hit1 i nn g' to = hit1 i nn g to := by
 unfold hit1
 congr 2
 rcases h to with e | ⟨e1, e2⟩
 ·rw [e]
 ·rw [e1, e2]
  have h1 : ¬ (some nn = some (nn - 1)) := by simp only [Option.some.injEq]; omega
  have h2 : ¬ ((none : Option Int) = some (nn - 1)) := by simp
  rw [decide_eq_false h1, decide_eq_false h2]
theorem hits_near {g g' : Int → Option Int} {nn i : Int} (h : Near g g' nn) (ks : List Int) : hitS ks i nn g' = hitS ks i nn g := by
 unfold hitS
 congr 1
 funext to
 exact hit_near h to
theorem farJ_near (kss : List (List Int)) (i nn : Int) (g : Int → Option Int) : ∀ j, Near g (farJ kss i nn g j) nn
 | 0 => fun x => Or.inl rfl
 | j + 1 => fun x => by
  have ih := farJ_near kss i nn g j
  unfold farJ stepJ
  split
  ·exact ih x
  ·split
   ·rename_i h1 _
    unfold putF
    split
    ·rename_i hx
     subst hx
     rcases ih j with e | ⟨e1, e2⟩
     ·right
      refine ⟨?_, rfl⟩
      rw [← e]
      cases h2 : farJ kss i nn g j j with
      | none => rfl
      | some v => rw [h2] at h1; simp at h1
     ·rw [e2] at h1; simp at h1
    ·exact ih x
   ·exact ih x
theorem farJ_eq (kss : List (List Int)) (i nn : Int) (g : Int → Option Int) : ∀ (j : Nat) (x : Int), farJ kss i nn g j x = if (g x).isSome = true then g x else if 0 ≤ x ∧ x < j ∧ hitS (kss.getD x.toNat []) i nn g = true then some nn else none
 | 0, x => by
  unfold farJ
  cases h : g x with
  | some v => simp
  | none =>
   have : ¬ (0 ≤ x ∧ x < ((0 : Nat) : Int) ∧ hitS (kss.getD x.toNat []) i nn g = true) := by rintro ⟨h1, h2, _⟩; omega
   rw [if_neg this]; simp
 | j + 1, x => by
  have ih := farJ_eq kss i nn g j
  have hn := farJ_near kss i nn g j
  unfold farJ stepJ
  by_cases hx : x = (j : Int)
  ·subst hx
   have ihj := ih j
   have hlt : ¬ ((j : Int) < (j : Nat)) := by omega
   split
   ·rename_i h1
    rw [ihj] at h1 ⊢
    split
    ·rfl
    ·rename_i h2
     rw [if_neg h2, if_neg (fun h => hlt h.2.1)] at h1
     simp at h1
   ·rename_i h1
    have hgj : (g j).isSome = false := by
     cases h2 : (g j).isSome with
     | false => rfl
     | true => rw [ihj, if_pos h2, h2] at h1; simp at h1
    rw [hits_near hn, hgj]
    simp only [Bool.false_eq_true, if_false]
    have e : (0 ≤ (j : Int) ∧ (j : Int) < ((j + 1 : Nat) : Int) ∧ hitS (kss.getD (j : Int).toNat []) i nn g = true) ↔ hitS (kss.getD j []) i nn g = true := by
     rw [Int.toNat_natCast]
     exact ⟨fun h => h.2.2, fun h => ⟨by omega, by omega, h⟩⟩
    split
    ·rename_i h3
     rw [if_pos (e.2 h3)]
     unfold putF
     simp
    ·rename_i h3
     rw [ihj, hgj]
     simp only [Bool.false_eq_true, if_false]
     rw [if_neg (fun h => hlt h.2.1), if_neg (fun h => h3 (e.1 h))]
  ·have e : (0 ≤ x ∧ x < ((j + 1 : Nat) : Int) ∧ hitS (kss.getD x.toNat []) i nn g = true) ↔ (0 ≤ x ∧ x < ((j : Nat) : Int) ∧ hitS (kss.getD x.toNat []) i nn g = true) :=
    ⟨fun h => ⟨h.1, by have := h.2.1; omega, h.2.2⟩, fun h => ⟨h.1, by have := h.2.1; omega, h.2.2⟩⟩
   have e2 : farJ kss i nn g j x = if (g x).isSome = true then g x else if 0 ≤ x ∧ x < ((j + 1 : Nat) : Int) ∧ hitS (kss.getD x.toNat []) i nn g = true then some nn else none := by
    rw [ih x]
    simp only [e]
   split
   ·exact e2
   ·split
    ·unfold putF
     rw [if_neg hx]
     exact e2
    ·exact e2
section
variable {kss : List (List Int)} {i : Int}
theorem farN_keep {m : Nat} {x v : Int} (h : farN kss i m x = some v) : farN kss i (m + 1) x = some v := by
 unfold farN
 rw [farJ_eq, h]
 rfl
theorem farN_keeps {x v : Int} {m k : Nat} (hk : m ≤ k) (h : farN kss i m x = some v) : farN kss i k x = some v := by
 induction k with
 | zero => rw [show (0 : Nat) = m by omega]; exact h
 | succ k ih =>
  rcases Nat.lt_or_ge m (k + 1) with h1 | h1
  ·exact farN_keep (ih (by omega))
  ·rw [show k + 1 = m by omega]; exact h
theorem farN_new {m : Nat} {x v : Int} (h : farN kss i (m + 1) x = some v) : farN kss i m x = some v ∨ (farN kss i m x = none ∧ v = (m + 1 : Nat) ∧ 0 ≤ x ∧ x < kss.length ∧ hitS (kss.getD x.toNat []) i (m + 1 : Nat) (farN kss i m) = true) := by
 unfold farN at h
 rw [farJ_eq] at h
 cases hg : farN kss i m x with
 | some u => rw [hg] at h; left; simpa using h
 | none =>
  rw [hg] at h
  simp only [Option.isSome_none, Bool.false_eq_true, if_false] at h
  split at h
  ·rename_i hc
   right
   cases h
   exact ⟨rfl, rfl, hc⟩
  ·cases h
theorem farN_in {m : Nat} {x v : Int} : farN kss i m x = some v → 0 ≤ x ∧ x < kss.length := by
 induction m with
 | zero => intro h; cases h
 | succ m ih =>
  intro h
  rcases farN_new h with h | ⟨_, _, h1, h2, _⟩
  ·exact ih h
  ·exact ⟨h1, h2⟩
theorem farN_hit {m : Nat} {x : Int} (h0 : 0 ≤ x) (h1 : x < kss.length) (h : hitS (kss.getD x.toNat []) i (m + 1 : Nat) (farN kss i m) = true) : (farN kss i (m + 1) x).isSome = true := by
 unfold farN
 rw [farJ_eq]
 cases hg : farN kss i m x with
 | some u => rfl
 | none =>
  simp only [Option.isSome_none, Bool.false_eq_true, if_false]
  rw [if_pos ⟨h0, h1, h⟩]
  rfl
def Lv (kss : List (List Int)) (i : Int) (m : Nat) : Prop := ∃ x, farN kss i m x = some (m : Int)
theorem Lv.down {m : Nat} (hm : 1 ≤ m) (h : Lv kss i (m + 1)) : Lv kss i m := by
 obtain ⟨x, hx⟩ := h
 rcases farN_new hx with h | ⟨_, _, _, _, h⟩
 ·have := farN_val h; omega
 ·unfold hitS at h
  rw [List.any_eq_true] at h
  obtain ⟨to, _, hto⟩ := h
  unfold hit1 at hto
  rw [Bool.or_eq_true, Bool.and_eq_true, Bool.and_eq_true] at hto
  rcases hto with ⟨h1, _⟩ | ⟨_, h2⟩
  ·have := of_decide_eq_true h1; omega
  ·have := of_decide_eq_true h2
   exact ⟨to, by rw [this]; congr 1; omega⟩
def cnt (kss : List (List Int)) (i : Int) (m : Nat) : Nat := ((List.range kss.length).filter fun x : Nat => (farN kss i m x).isSome).length
theorem cnt_le (m : Nat) : cnt kss i m ≤ kss.length := by
 unfold cnt
 exact Nat.le_trans (List.length_filter_le _ _) (by simp)
theorem Lv.count : ∀ {m : Nat}, Lv kss i m → m ≤ cnt kss i m
 | 0, _ => Nat.zero_le _
 | m + 1, h => by
  have hm : m ≤ cnt kss i m := by
   rcases Nat.eq_zero_or_pos m with e | e
   ·omega
   ·exact Lv.count (h.down e)
  obtain ⟨x, hx⟩ := h
  obtain ⟨h0, h1⟩ := farN_in hx
  obtain ⟨a, rfl⟩ : ∃ a : Nat, x = a := ⟨x.toNat, by omega⟩
  have hnone : (farN kss i m a).isSome = false := by
   cases hg : farN kss i m a with
   | none => rfl
   | some u =>
    have := farN_val hg
    rw [farN_keep hg] at hx
    cases hx
    omega
  have := filter_lt (fun x : Nat => (farN kss i (m + 1) x).isSome) (fun x : Nat => (farN kss i m x).isSome) (fun y hy => by
   cases hg : farN kss i m y with
   | none => rw [hg] at hy; cases hy
   | some u => rw [farN_keep hg]; rfl) a (by rw [hx]; rfl) hnone (List.range kss.length) (by simp; omega)
  unfold cnt at hm ⊢
  omega
theorem farN_sat (x : Int) : farN kss i (kss.length + 1) x = farN kss i kss.length x := by
 cases h : farN kss i (kss.length + 1) x with
 | none =>
  cases h2 : farN kss i kss.length x with
  | none => rfl
  | some v => rw [farN_keep h2] at h; cases h
 | some v =>
  rcases farN_new h with h2 | ⟨_, hv, _⟩
  ·exact h2.symm
  ·exfalso
   have hl : Lv kss i (kss.length + 1) := ⟨x, by rw [h, hv]⟩
   have := hl.count
   have := cnt_le (kss := kss) (i := i) (kss.length + 1)
   omega
theorem far_step {x u : Int} (h0 : 0 ≤ x) (h1 : x < kss.length) (hu : u ∈ kss.getD x.toNat []) (h : u = i ∨ (farN kss i kss.length u).isSome = true) : (farN kss i kss.length x).isSome = true := by
 have key : ∀ m : Nat, m ≤ kss.length → hitS (kss.getD x.toNat []) i (m + 1 : Nat) (farN kss i m) = true → (farN kss i kss.length x).isSome = true := by
  intro m hm hh
  have h2 := farN_hit h0 h1 hh
  rw [← farN_sat]
  cases hg : farN kss i (m + 1) x with
  | none => rw [hg] at h2; cases h2
  | some v => rw [farN_keeps (by omega) hg]; rfl
 rcases h with rfl | h
 ·refine key 0 (Nat.zero_le _) ?_
  unfold hitS
  rw [List.any_eq_true]
  exact ⟨u, hu, by unfold hit1; simp⟩
 ·cases hg : farN kss i kss.length u with
  | none => rw [hg] at h; cases h
  | some v =>
   obtain ⟨hv1, hv2⟩ := farN_val hg
   obtain ⟨d, rfl⟩ : ∃ d : Nat, v = d := ⟨v.toNat, by omega⟩
   have hd : farN kss i d u = some (d : Int) := by
    have : ∀ k : Nat, farN kss i k u = some (d : Int) → d ≤ k → farN kss i d u = some (d : Int) := by
     intro k
     induction k with
     | zero => intro h; cases h
     | succ k ih =>
      intro h hk
      rcases Nat.lt_or_ge d (k + 1) with h3 | h3
      ·rcases farN_new h with h4 | ⟨_, h4, _⟩
       ·exact ih h4 (by omega)
       ·omega
      ·rw [show d = k + 1 by omega] at h ⊢; exact h
    exact this _ hg (by omega)
   refine key d (by omega) ?_
   unfold hitS
   rw [List.any_eq_true]
   refine ⟨u, hu, ?_⟩
   unfold hit1
   rw [hd]
   have e1 : decide (1 < ((d + 1 : Nat) : Int)) = true := decide_eq_true (by omega)
   have e2 : decide ((some (d : Int)) = some (((d + 1 : Nat) : Int) - 1)) = true := decide_eq_true (by congr 1; omega)
   rw [e1, e2]
   simp
end
def rankM (kss : List (List Int)) (j : Nat) : Nat := ((List.range kss.length).filter fun i : Nat => (farN kss i kss.length j).isSome).length
theorem ringM_nil {kss : List (List Int)} (h : ringM kss = []) {i : Nat} (hi : i < kss.length) : farN kss i kss.length i = none := by
 unfold ringM at h
 split at h
 ·rename_i hf
  rw [List.find?_eq_none] at hf
  have := hf i (by simpa using hi)
  unfold ringAt at this
  cases hg : farN kss i kss.length i with
  | none => rfl
  | some v => rw [hg] at this; simp at this
 ·cases h
theorem rank_down {kss : List (List Int)} (h : ringM kss = []) {j u : Nat} (hj : j < kss.length) (hu : u < kss.length) (hm : (u : Int) ∈ kss.getD j []) : rankM kss u < rankM kss j := by
 unfold rankM
 refine filter_lt (fun i : Nat => (farN kss i kss.length j).isSome) (fun i : Nat => (farN kss i kss.length u).isSome) (fun i hi => ?_) u ?_ ?_ _ (by simpa using hu)
 ·exact far_step (by omega) (by omega) (by rw [Int.toNat_natCast]; exact hm) (Or.inr hi)
 ·exact far_step (by omega) (by omega) (by rw [Int.toNat_natCast]; exact hm) (Or.inl rfl)
 ·show (farN kss u kss.length u).isSome = false
  rw [ringM_nil h hu]; rfl
theorem rank_lt {kss : List (List Int)} (h : ringM kss = []) {j : Nat} (hj : j < kss.length) : rankM kss j < kss.length := by
 unfold rankM
 have := filter_lt (fun _ : Nat => true) (fun i : Nat => (farN kss i kss.length j).isSome) (fun _ _ => rfl) j rfl (by rw [ringM_nil h hj]; rfl) (List.range kss.length) (by simpa using hj)
 have e : (List.range kss.length).filter (fun _ : Nat => true) = List.range kss.length := List.filter_eq_self.2 (fun _ _ => rfl)
 rw [e, List.length_range] at this
 exact this
end Go.Proofs.Ytpnbpepkoekkoaa
end
section
namespace Go.Proofs.Ytpnbpepkoekkoaa
open Go
theorem mem_puts (x : Int) : ∀ (us ks : List Int), x ∈ us.foldl setPut ks ↔ x ∈ ks ∨ x ∈ us
 | [], ks => by simp
 | u :: us, ks => by
  rw [List.foldl_cons, mem_puts x us, setPut_mem]
  simp only [List.mem_cons]
  constructor
  ·rintro ((h | h) | h)
   ·exact Or.inl h
   ·exact Or.inr (Or.inl h)
   ·exact Or.inr (Or.inr h)
  ·rintro (h | h | h)
   ·exact Or.inl (Or.inl h)
   ·exact Or.inl (Or.inr h)
   ·exact Or.inr h
theorem Its.sumF_congr (f : Nm → Int) (F G : Int → Int) : ∀ (T : Its) (n : Int), (∀ u ∈ T.uses f, F u = G u) → T.sumF f F n = T.sumF f G n
 | .nil, _, _ => rfl
 | .cons k nn un its ms r, n, h => by
  unfold Its.sumF
  rw [its.sumF_congr f F G 0 (fun u hu => h u (by simp [Its.uses, hu]))]
  have e : (if k = 4 then F (f un) else 0) = if k = 4 then G (f un) else 0 := by
   split
   ·rename_i hk
    exact h (f un) (by simp [Its.uses, hk])
   ·rfl
  rw [e]
  exact r.sumF_congr f F G _ (fun u hu => h u (by simp [Its.uses, hu]))
def lenN (L : List Its) (f : Nm → Int) : Nat → Int → Int
 | 0, _ => 0
 | d + 1, k => if 0 ≤ k then (match L[k.toNat]? with
  | some t => t.sumF f (lenN L f d) 0
  | none => 0) else 0
def lenM (L : List Its) (f : Nm → Int) : Int → Int := lenN L f L.length
theorem lenN_at {L : List Its} {f : Nm → Int} {d j : Nat} {t : Its} (h : L[j]? = some t) : lenN L f (d + 1) j = t.sumF f (lenN L f d) 0 := by
 unfold lenN
 rw [if_pos (by omega), Int.toNat_natCast, h]
theorem lenN_same {L : List Its} {f : Nm → Int} {rk : Nat → Nat} (hd : ∀ (j : Nat) (t : Its), L[j]? = some t → ∀ u ∈ t.uses f, ∃ i : Nat, u = i ∧ i < L.length ∧ rk i < rk j) : ∀ (z j d d' : Nat), rk j ≤ z → rk j < d → rk j < d' → j < L.length → lenN L f d j = lenN L f d' j := by
 intro z
 induction z with
 | zero =>
  intro j d d' hz h1 h2 hj
  obtain ⟨t, ht⟩ : ∃ t, L[j]? = some t := ⟨_, List.getElem?_eq_getElem hj⟩
  obtain ⟨d, rfl⟩ : ∃ e, d = e + 1 := ⟨d - 1, by omega⟩
  obtain ⟨d', rfl⟩ : ∃ e, d' = e + 1 := ⟨d' - 1, by omega⟩
  rw [lenN_at ht, lenN_at ht]
  exact t.sumF_congr f _ _ 0 (fun u hu => by obtain ⟨i, rfl, hi, hr⟩ := hd j t ht u hu; omega)
 | succ z ih =>
  intro j d d' hz h1 h2 hj
  obtain ⟨t, ht⟩ : ∃ t, L[j]? = some t := ⟨_, List.getElem?_eq_getElem hj⟩
  obtain ⟨d, rfl⟩ : ∃ e, d = e + 1 := ⟨d - 1, by omega⟩
  obtain ⟨d', rfl⟩ : ∃ e, d' = e + 1 := ⟨d' - 1, by omega⟩
  rw [lenN_at ht, lenN_at ht]
  exact t.sumF_congr f _ _ 0 (fun u hu => by
   obtain ⟨i, rfl, hi, hr⟩ := hd j t ht u hu
   exact ih i d d' (by omega) (by omega) (by omega) hi)
theorem lenN_bound {L : List Its} {f : Nm → Int} (hx : ∀ t ∈ L, t.exB = true) : ∀ (d : Nat) (k : Int), 0 ≤ lenN L f d k ∧ lenN L f d k ≤ 4097
 | 0, _ => by unfold lenN; omega
 | d + 1, k => by
  unfold lenN
  split
  ·cases h : L[k.toNat]? with
   | none => simp
   | some t => exact t.sumF_bound f _ 0 (hx t (List.mem_of_getElem? h)) (fun u _ => lenN_bound hx d u) (by omega) (by omega)
  ·omega
def Ls.itsL (s : Ls) : List Its := s.phrases.map fun p => p.its.strip
def UsesIn (L : List Its) (f : Nm → Int) : Prop := ∀ t ∈ L, ∀ u ∈ t.uses f, ∃ i : Nat, u = i ∧ i < L.length
theorem nexts_get {s : Ls} {f : Nm → Int} {j : Nat} {p : Ph} (h : s.phrases[j]? = some p) : (s.nexts f).getD j [] = (p.its.strip.uses f).foldl setPut [] := by
 unfold Ls.nexts
 rw [List.getD_eq_getElem?_getD, List.getElem?_map, h]; rfl
theorem len_ok {s : Ls} {f : Nm → Int} (hx : s.phrases.all (fun p => p.its.strip.exB) = true) (hr : ringM (s.nexts f) = []) (hu : UsesIn s.itsL f) : LenOk s.phrases f (rankM (s.nexts f)) (lenM s.itsL f) := by
 have hex : ∀ p ∈ s.phrases, p.its.strip.exB = true := List.all_eq_true.1 hx
 have hexL : ∀ t ∈ s.itsL, t.exB = true := fun t ht => by
  obtain ⟨p, hp, rfl⟩ := List.mem_map.1 ht
  exact hex p hp
 have hl : s.itsL.length = s.phrases.length := by simp [Ls.itsL]
 have hk : (s.nexts f).length = s.phrases.length := by simp [Ls.nexts]
 have hget : ∀ (j : Nat) (p : Ph), s.phrases[j]? = some p → s.itsL[j]? = some p.its.strip := fun j p h => by unfold Ls.itsL; rw [List.getElem?_map, h]; rfl
 have hdown : ∀ (j : Nat) (p : Ph), s.phrases[j]? = some p → ∀ u ∈ p.its.strip.uses f, ∃ i : Nat, u = i ∧ i < s.phrases.length ∧ rankM (s.nexts f) i < rankM (s.nexts f) j := fun j p h u hm => by
  obtain ⟨i, rfl, hi⟩ := hu _ (List.mem_of_getElem? (hget j p h)) u hm
  rw [hl] at hi
  have hj := (List.getElem?_eq_some_iff.1 h).1
  refine ⟨i, rfl, hi, rank_down hr (by rw [hk]; exact hj) (by rw [hk]; exact hi) ?_⟩
  rw [nexts_get h, mem_puts]
  exact Or.inr hm
 have hdL : ∀ (j : Nat) (t : Its), s.itsL[j]? = some t → ∀ u ∈ t.uses f, ∃ i : Nat, u = i ∧ i < s.itsL.length ∧ rankM (s.nexts f) i < rankM (s.nexts f) j := fun j t h u hm => by
  have hj := (List.getElem?_eq_some_iff.1 h).1
  obtain ⟨p, hp⟩ : ∃ p, s.phrases[j]? = some p := ⟨_, List.getElem?_eq_getElem (by rw [← hl]; exact hj)⟩
  have := hget j p hp
  rw [h] at this
  cases this
  rw [hl]
  exact hdown j p hp u hm
 refine ⟨fun j p h => hex p (List.mem_of_getElem? h), fun j p h => ?_, fun j _ => lenN_bound hexL _ _, hdown⟩
 have hj := (List.getElem?_eq_some_iff.1 h).1
 have hrl : ∀ i, i < s.phrases.length → rankM (s.nexts f) i < s.phrases.length := fun i hi => by
  have := rank_lt hr (j := i) (by rw [hk]; exact hi)
  rwa [hk] at this
 unfold lenM
 obtain ⟨e, he⟩ : ∃ e, s.itsL.length = e + 1 := ⟨s.itsL.length - 1, by omega⟩
 rw [he, lenN_at (hget j p h)]
 refine Its.sumF_congr f _ _ _ 0 (fun u hm => ?_)
 obtain ⟨i, rfl, hi, hri⟩ := hdown j p h u hm
 have := hrl j hj
 exact lenN_same hdL _ i e (e + 1) (Nat.le_refl _) (by omega) (by omega) (by omega)
end Go.Proofs.Ytpnbpepkoekkoaa
end
section
namespace Go.Proofs.Ytpnbpepkoekkoaa
open Go Go.RowKit
abbrev lit90 (KB SB B : Nat) : Value := .func (.func 90) #[] #[.pointer (some ⟨KB, 0, none⟩), .pointer (some ⟨SB, 0, none⟩), .pointer (some ⟨B, 0, none⟩)]
set_option maxRecDepth 100000 in
set_option maxHeartbeats 16000000 in
theorem ck_e9 (s : Ls) (f : Nm → Int) (len : Int → Int) (B E : Nat) (w W : World) (hs : RgS s f B w) (hb : Below w.heap.size w W) (ds : List Deferred) (Q : Exit → Act → World → Prop) (e0 e3 e4 e5 e6 e7 e8 e9 e10 e11 e12 e13 e14 e15 e16 e17 e18 e19 e20 e21 e22 e23 e24 e25 e26 e27 e28 e29 e30 e31 e32 e33 e34 e35 e36 e37 e38 e39 e40 e41 e42 e43 e44 e45 e46 e47 e48 e49 e50 e51 e52 e53 e54 e55 e56 e57 e58 e59 e60 e61 e62 e63 e64 e65 e66 e67 e68 e69 e70 e71 e72 e73 e74 e75 e76 e77 e78 e79 e80 e81 e82 e83 e84 e85 e86 e87 e88 e89 e90 e91 e92 e93 e94 e95 e96 e97 e98 e99 e100 e101 e102 e103 e104 e105 e106 e107 e108 e109 e110 e111 e112 e113 e114 e115 e116 e117 e118 e119 e120 e121 : Value)
  (hN : ∀ (B7 KB M SB PB : Nat) (x0 x3 x4 x5 x6 x8 x9 x10 x11 x12 x13 x14 x15 x16 x17 x18 x19 x20 x21 x22 x23 x24 x25 x26 x27 x28 x29 x30 x31 x32 x33 x34 x35 x36 x37 x38 x39 x40 x41 x42 x43 x44 x45 x46 x47 x48 x49 x50 x51 x52 x53 x54 x55 x56 x57 x58 x59 x60 x61 x62 x63 x64 x65 x66 x67 x68 x69 x70 x71 x72 x73 x74 x75 x76 x77 x78 x79 x80 x81 x82 x83 x84 x85 x86 x87 x88 x89 x90 x91 x92 x93 x94 x95 x96 x97 x98 x99 x100 x101 x102 x103 x104 x105 x106 x107 x108 x109 x110 x111 x112 x113 x114 x115 x116 x117 x118 x119 x120 x121 : Value) (V : World), LenW V s f B7 KB M SB PB len → w.heap.size ≤ M → Below w.heap.size w V → Q .normal { tmps := #[x0, .pointer (some ⟨B, 0, none⟩), .pointer (some ⟨E, 0, none⟩), x3, x4, x5, x6, lit90 KB SB B7, x8, x9, x10, x11, x12, x13, x14, x15, x16, x17, x18, x19, x20, x21, x22, x23, x24, x25, x26, x27, x28, x29, x30, x31, x32, x33, x34, x35, x36, x37, x38, x39, x40, x41, x42, x43, x44, x45, x46, x47, x48, x49, x50, x51, x52, x53, x54, x55, x56, x57, x58, x59, x60, x61, x62, x63, x64, x65, x66, x67, x68, x69, x70, x71, x72, x73, x74, x75, x76, x77, x78, x79, x80, x81, x82, x83, x84, x85, x86, x87, x88, x89, x90, x91, x92, x93, x94, x95, x96, x97, x98, x99, x100, x101, x102, x103, x104, x105, x106, x107, x108, x109, x110, x111, x112, x113, x114, x115, x116, x117, x118, x119, x120, x121], defers := ds } V) :
  elem29n9.wp Try.prog Q { tmps := #[e0, .pointer (some ⟨B, 0, none⟩), .pointer (some ⟨E, 0, none⟩), e3, e4, e5, e6, e7, e8, e9, e10, e11, e12, e13, e14, e15, e16, e17, e18, e19, e20, e21, e22, e23, e24, e25, e26, e27, e28, e29, e30, e31, e32, e33, e34, e35, e36, e37, e38, e39, e40, e41, e42, e43, e44, e45, e46, e47, e48, e49, e50, e51, e52, e53, e54, e55, e56, e57, e58, e59, e60, e61, e62, e63, e64, e65, e66, e67, e68, e69, e70, e71, e72, e73, e74, e75, e76, e77, e78, e79, e80, e81, e82, e83, e84, e85, e86, e87, e88, e89, e90, e91, e92, e93, e94, e95, e96, e97, e98, e99, e100, e101, e102, e103, e104, e105, e106, e107, e108, e109, e110, e111, e112, e113, e114, e115, e116, e117, e118, e119, e120, e121], defers := ds } W := by
 have hS := hs.below hb
 have C := lengths_any s f len W hS.at_ hS.nums
 have HN := Lib.hid hN; have HB := Lib.hid hb; have HC := Lib.hid C; have HX := Lib.hid hS.box
 clear hN hb hS hs C
 conv => arg 2; whnf
 have st0 : True := trivial
 go_wp2_with (first | (have q := st0; clear q st0; (refine wpList_load_row rfl 30 _ rfl B rfl 30 s.cells (0, 0) _ HX.out Try.underlying30 rfl (by kernel_rfl) ?_; simp only [Act.put, List.setIfInBounds_toArray, List.set_cons_zero, List.set_cons_succ])) | (go_at_call 67; refine HC.out.mono ?_; rintro e V ⟨B7, KB, M, SB, PB, rfl, h1, h2, h3⟩; have H1 := Lib.hid h1; have H2 := Lib.hid h2; have H3 := Lib.hid h3; clear h1 h2 h3))
 exact HN.out _ _ _ _ _ _ _ _ _ _ _ _ _ _ _ _ _ _ _ _ _ _ _ _ _ _ _ _ _ _ _ _ _ _ _ _ _ _ _ _ _ _ _ _ _ _ _ _ _ _ _ _ _ _ _ _ _ _ _ _ _ _ _ _ _ _ _ _ _ _ _ _ _ _ _ _ _ _ _ _ _ _ _ _ _ _ _ _ _ _ _ _ _ _ _ _ _ _ _ _ _ _ _ _ _ _ _ _ _ _ _ _ _ _ _ _ _ _ _ _ _ _ _ _ _ H1.out (Nat.le_trans HB.out.size H2.out) (thenB HB.out H3.out)
def danOk (s : Ls) (f : Nm → Int) (len : Int → Int) (d : Dan) : Bool := inB d.bar 0 (s.bars - 1) && decide (d.bar + len (f d.pn) ≤ s.bars)
theorem dan_cells {f : Nm → Int} {W : World} {b : Nat} : ∀ {o : Nat} {ds : List Dan} {i : Nat} {d : Dan}, danAt W b o ds → NumAt f W (danRefs b o ds) → ds[i]? = some d → ∃ u1, W.cell? ⟨b, o + i * 6, none⟩ = some (sv d.rn) ∧ W.cell? ⟨b, o + i * 6 + 1, none⟩ = some (.int .i64 u1) ∧ W.cell? ⟨b, o + i * 6 + 2, none⟩ = some (sv d.pn) ∧ W.cell? ⟨b, o + i * 6 + 3, none⟩ = some (.int .i64 (f d.pn)) ∧ W.cell? ⟨b, o + i * 6 + 4, none⟩ = some (.int .i64 d.bar) ∧ W.cell? ⟨b, o + i * 6 + 5, none⟩ = some (.bool d.mirror)
 | _, [], _, _, _, _, h => by cases h
 | o, x :: r, 0, d, ⟨⟨h0, h2, h4, h5⟩, _⟩, hn, h => by
  cases h
  obtain ⟨n1, a1, _⟩ := hn ⟨b, o, 1, x.rn⟩ (by simp [danRefs])
  obtain ⟨n2, a2, a3⟩ := hn ⟨b, o + 2, 2, x.pn⟩ (by simp [danRefs])
  rw [a3 rfl] at a2
  exact ⟨n1, by simpa using h0, by simpa using a1, by simpa using h2, by simpa using a2, by simpa using h4, by simpa using h5⟩
 | o, x :: r, i + 1, d, ⟨_, hr⟩, hn, h => by
  have := dan_cells (i := i) hr (fun y hy => hn y (by simp [danRefs, hy])) (by simpa using h)
  rw [show o + (i + 1) * 6 = o + 6 + i * 6 by omega]
  exact this
noncomputable def reg23 : Code := match elem29n10 with
 | .seq _ (.block _ (.loop (.seq _ (.seq _ (.seq (.block _ (.seq _ c)) _))))) => c
 | c => c
structure DanS (s : Ls) (f : Nm → Int) (len : Int → Int) (B B7 KB M SB PB D : Nat) (bar fj : Int) (w V : World) : Prop where
 num : V.cell? ⟨D, 3, none⟩ = some (.int .i64 fj)
 bar : V.cell? ⟨D, 4, none⟩ = some (.int .i64 bar)
 bars : V.cell? ⟨B, 3, none⟩ = some (.int .i64 s.bars)
 lw : LenW V s f B7 KB M SB PB len
 below : Below w.heap.size w V
def DQ (N : Act → World → Prop) (E : Nat) (ds : List Deferred) (ok : Bool) (w : World) : Exit → Act → World → Prop
 | .normal, a, V => N a V
 | .panic c, a, V => c = wrongC ∧ a.tmps.getD 2 undef = .pointer (some ⟨E, 0, none⟩) ∧ a.defers = ds ∧ ok = false ∧ Below w.heap.size w V
 | _, _, _ => False
theorem DQ.put {N : Act → World → Prop} {E : Nat} {ds : List Deferred} {ok : Bool} {w : World} {d : Nat} (hd : d ≠ 2) {v : Value} : ∀ (c : List PanicEntry) (a : Act) (V : World), DQ N E ds ok w (.panic c) (a.put (some d) v) V → DQ N E ds ok w (.panic c) a V := by
 rintro c a V ⟨h1, h2, h3⟩
 refine ⟨h1, ?_, h3⟩
 rw [← h2]
 show a.tmps.getD 2 undef = (a.tmps.setIfInBounds d v).getD 2 undef
 rw [Array.getD_eq_getD_getElem?, Array.getD_eq_getD_getElem?, Array.getElem?_setIfInBounds_ne hd]
set_option maxRecDepth 100000 in
set_option maxHeartbeats 16000000 in
theorem dan_reg (s : Ls) (f : Nm → Int) (len : Int → Int) (B E B7 KB M SB PB D : Nat) (bar fj lj : Int) (w W : World) (hS : DanS s f len B B7 KB M SB PB D bar fj w W) (hbars : 1 ≤ s.bars ∧ s.bars ≤ 4096) (hlj : 0 ≤ lj ∧ lj ≤ 4097)
  (hC : ∀ V, DanS s f len B B7 KB M SB PB D bar fj w V → Calls Try.prog 90 #[.int .i64 fj, .pointer (some ⟨KB, 0, none⟩), .pointer (some ⟨SB, 0, none⟩), .pointer (some ⟨B7, 0, none⟩)] V fun e V' => e = .returned (.int .i64 lj) ∧ DanS s f len B B7 KB M SB PB D bar fj w V') (ok : Bool) (hok : ok = (inB bar 0 (s.bars - 1) && decide (bar + lj ≤ s.bars)))
  (ds : List Deferred) (N : Act → World → Prop) (e0 e3 e4 e5 e6 e8 e10 e11 e12 e13 e14 e15 e16 e17 e18 e19 e20 e21 e22 e23 e24 e25 e26 e27 e28 e29 e30 e31 e32 e33 e34 e35 e36 e37 e38 e39 e40 e41 e42 e43 e44 e45 e46 e47 e48 e49 e50 e51 e52 e53 e54 e55 e56 e57 e58 e59 e60 e61 e62 e63 e64 e65 e66 e67 e68 e69 e70 e71 e72 e73 e74 e75 e76 e77 e78 e79 e80 e81 e82 e83 e84 e85 e86 e87 e88 e89 e90 e91 e92 e93 e94 e95 e96 e97 e98 e99 e100 e101 e102 e103 e104 e105 e106 e107 e108 e109 e110 e111 e112 e113 e114 e115 e116 e117 e118 e119 e120 e121 : Value)
  (hN : ok = true → ∀ (x101 x102 x103 x104 x105 x106 x107 x108 x109 x110 x111 x112 x113 x114 x115 x116 x117 x118 x119 x120 : Value) (V : World), DanS s f len B B7 KB M SB PB D bar fj w V → N { tmps := #[e0, .pointer (some ⟨B, 0, none⟩), .pointer (some ⟨E, 0, none⟩), e3, e4, e5, e6, lit90 KB SB B7, e8, .pointer (some ⟨D, 0, none⟩), e10, e11, e12, e13, e14, e15, e16, e17, e18, e19, e20, e21, e22, e23, e24, e25, e26, e27, e28, e29, e30, e31, e32, e33, e34, e35, e36, e37, e38, e39, e40, e41, e42, e43, e44, e45, e46, e47, e48, e49, e50, e51, e52, e53, e54, e55, e56, e57, e58, e59, e60, e61, e62, e63, e64, e65, e66, e67, e68, e69, e70, e71, e72, e73, e74, e75, e76, e77, e78, e79, e80, e81, e82, e83, e84, e85, e86, e87, e88, e89, e90, e91, e92, e93, e94, e95, e96, e97, e98, e99, e100, x101, x102, x103, x104, x105, x106, x107, x108, x109, x110, x111, x112, x113, x114, x115, x116, x117, x118, x119, x120, e121], defers := ds } V) :
  reg23.wp Try.prog (DQ N E ds ok w) { tmps := #[e0, .pointer (some ⟨B, 0, none⟩), .pointer (some ⟨E, 0, none⟩), e3, e4, e5, e6, lit90 KB SB B7, e8, .pointer (some ⟨D, 0, none⟩), e10, e11, e12, e13, e14, e15, e16, e17, e18, e19, e20, e21, e22, e23, e24, e25, e26, e27, e28, e29, e30, e31, e32, e33, e34, e35, e36, e37, e38, e39, e40, e41, e42, e43, e44, e45, e46, e47, e48, e49, e50, e51, e52, e53, e54, e55, e56, e57, e58, e59, e60, e61, e62, e63, e64, e65, e66, e67, e68, e69, e70, e71, e72, e73, e74, e75, e76, e77, e78, e79, e80, e81, e82, e83, e84, e85, e86, e87, e88, e89, e90, e91, e92, e93, e94, e95, e96, e97, e98, e99, e100, e101, e102, e103, e104, e105, e106, e107, e108, e109, e110, e111, e112, e113, e114, e115, e116, e117, e118, e119, e120, e121], defers := ds } W := by
 obtain ⟨wd, hwd⟩ : ∃ wd : World, { W with drawn := W.drawn + 1 } = wd := ⟨_, rfl⟩
 have hbd : Below W.heap.size W wd := by rw [← hwd]; exact (Below.refl _ _).drew
 have HS : Hid (DanS s f len B B7 KB M SB PB D bar fj w wd) := Lib.hid ⟨keep_cell hbd hS.num, keep_cell hbd hS.bar, keep_cell hbd hS.bars, hS.lw.below hbd, thenB hS.below hbd⟩
 have HC := Lib.hid hC; have HN := Lib.hid hN; have HWD := Lib.hid hwd; have HOK := Lib.hid hok
 obtain ⟨hb1, hb2⟩ := hbars
 obtain ⟨hl1, hl2⟩ := hlj
 have hw1 : IntKind.i64.wrap (s.bars - 1) = s.bars - 1 := IntWalk.i64_in _ (by omega)
 clear hC hN hwd hok hS hbd
 conv => arg 2; whnf
 refine wp_region_held (S := DanS s f len B B7 KB M SB PB D bar fj w) (by kernel_rfl) ?_
 rw [HWD.out]
 refine wpAnyH_take (i := 0) (oi := _) (v := .pointer (some ⟨D, 4, none⟩)) rfl (by kernel_rfl) (by kernel_rfl) (by kernel_rfl) (DQ.put (by decide)) (Or.inl ⟨by kernel_rfl, fun V hb => by go_simp⟩) HS.out ?_
 try (simp only [Act.put, List.getElem_toArray, List.getElem_cons_zero, List.setIfInBounds_toArray, List.set_cons_zero, List.set_cons_succ])
 refine wpAnyH_take (i := 1) (oi := _) (v := .int .i64 bar) rfl (by kernel_rfl) (by kernel_rfl) (by kernel_rfl) (DQ.put (by decide)) (Or.inl ⟨by kernel_rfl, fun V hb => by have q0 := hb.bar; go_simp⟩) HS.out ?_
 try (simp only [Act.put, List.getElem_toArray, List.getElem_cons_zero, List.getElem_cons_succ, List.setIfInBounds_toArray, List.set_cons_zero, List.set_cons_succ])
 refine wpAnyH_take (i := 2) (oi := _) (v := .pointer (some ⟨B, 3, none⟩)) rfl (by kernel_rfl) (by kernel_rfl) (by kernel_rfl) (DQ.put (by decide)) (Or.inl ⟨by kernel_rfl, fun V hb => by go_simp⟩) HS.out ?_
 try (simp only [Act.put, List.getElem_toArray, List.getElem_cons_zero, List.getElem_cons_succ, List.setIfInBounds_toArray, List.set_cons_zero, List.set_cons_succ])
 refine wpAnyH_take (i := 3) (oi := _) (v := .int .i64 s.bars) rfl (by kernel_rfl) (by kernel_rfl) (by kernel_rfl) (DQ.put (by decide)) (Or.inl ⟨by kernel_rfl, fun V hb => by have q0 := hb.bars; go_simp⟩) HS.out ?_
 try (simp only [Act.put, List.getElem_toArray, List.getElem_cons_zero, List.getElem_cons_succ, List.setIfInBounds_toArray, List.set_cons_zero, List.set_cons_succ])
 refine wpAnyH_take (i := 4) (oi := _) (v := .int .i64 (s.bars - 1)) rfl (by kernel_rfl) (by kernel_rfl) (by kernel_rfl) (DQ.put (by decide)) (Or.inl ⟨by kernel_rfl, fun V hb => by go_simp⟩) HS.out ?_
 try (simp only [Act.put, List.getElem_toArray, List.getElem_cons_zero, List.getElem_cons_succ, List.setIfInBounds_toArray, List.set_cons_zero, List.set_cons_succ])
 refine wpAnyH_ready (rs := [5]) (by kernel_rfl) (by simp) ?_
 refine AllReadyH.cons (o := _) rfl (fun K1 hK1 => ?_) AllReadyH.nil
 go_simp
 cases hq : inB bar 0 (s.bars - 1) with
 | false =>
  have HF : Hid (ok = false) := Lib.hid (by rw [HOK.out, hq, Bool.false_and])
  refine (rin_h (v := false) (by assumption) _).mono ?_
  rintro e2 w2 ⟨rfl, rfl⟩
  refine hK1.out _ _ HS.out (fun _ => ?_)
  clear hK1 K1
  try (simp only [Act.put, List.getElem_toArray, List.getElem_cons_zero, List.getElem_cons_succ, List.setIfInBounds_toArray, List.set_cons_zero, List.set_cons_succ])
  refine wpAnyH_take (i := 6) (oi := _) (v := .bool false) rfl (by kernel_rfl) (by kernel_rfl) (by kernel_rfl) (DQ.put (by decide)) (Or.inl ⟨by kernel_rfl, fun V hb => by go_simp⟩) HS.out ?_
  try (simp only [Act.put, List.getElem_toArray, List.getElem_cons_zero, List.getElem_cons_succ, List.setIfInBounds_toArray, List.set_cons_zero, List.set_cons_succ])
  refine wpAnyH_take (i := 7) (oi := _) (v := undef) rfl (by kernel_rfl) (by kernel_rfl) (by kernel_rfl) (DQ.put (by decide)) (Or.inr ⟨by kernel_rfl, rfl⟩) HS.out ?_
  try (simp only [Act.put, List.getElem_toArray, List.getElem_cons_zero, List.getElem_cons_succ, List.setIfInBounds_toArray, List.set_cons_zero, List.set_cons_succ])
  refine wpAnyH_take (i := 8) (oi := _) (v := undef) rfl (by kernel_rfl) (by kernel_rfl) (by kernel_rfl) (DQ.put (by decide)) (Or.inr ⟨by kernel_rfl, rfl⟩) HS.out ?_
  try (simp only [Act.put, List.getElem_toArray, List.getElem_cons_zero, List.getElem_cons_succ, List.setIfInBounds_toArray, List.set_cons_zero, List.set_cons_succ])
  refine wpAnyH_take (i := 9) (oi := _) (v := undef) rfl (by kernel_rfl) (by kernel_rfl) (by kernel_rfl) (DQ.put (by decide)) (Or.inr ⟨by kernel_rfl, rfl⟩) HS.out ?_
  try (simp only [Act.put, List.getElem_toArray, List.getElem_cons_zero, List.getElem_cons_succ, List.setIfInBounds_toArray, List.set_cons_zero, List.set_cons_succ])
  refine wpAnyH_take (i := 10) (oi := _) (v := undef) rfl (by kernel_rfl) (by kernel_rfl) (by kernel_rfl) (DQ.put (by decide)) (Or.inr ⟨by kernel_rfl, rfl⟩) HS.out ?_
  try (simp only [Act.put, List.getElem_toArray, List.getElem_cons_zero, List.getElem_cons_succ, List.setIfInBounds_toArray, List.set_cons_zero, List.set_cons_succ])
  refine wpAnyH_take (i := 11) (oi := _) (v := undef) rfl (by kernel_rfl) (by kernel_rfl) (by kernel_rfl) (DQ.put (by decide)) (Or.inr ⟨by kernel_rfl, rfl⟩) HS.out ?_
  try (simp only [Act.put, List.getElem_toArray, List.getElem_cons_zero, List.getElem_cons_succ, List.setIfInBounds_toArray, List.set_cons_zero, List.set_cons_succ])
  refine wpAnyH_take (i := 12) (oi := _) (v := undef) rfl (by kernel_rfl) (by kernel_rfl) (by kernel_rfl) (DQ.put (by decide)) (Or.inr ⟨by kernel_rfl, rfl⟩) HS.out ?_
  try (simp only [Act.put, List.getElem_toArray, List.getElem_cons_zero, List.getElem_cons_succ, List.setIfInBounds_toArray, List.set_cons_zero, List.set_cons_succ])
  refine wpAnyH_take (i := 13) (oi := _) (v := undef) rfl (by kernel_rfl) (by kernel_rfl) (by kernel_rfl) (DQ.put (by decide)) (Or.inr ⟨by kernel_rfl, rfl⟩) HS.out ?_
  try (simp only [Act.put, List.getElem_toArray, List.getElem_cons_zero, List.getElem_cons_succ, List.setIfInBounds_toArray, List.set_cons_zero, List.set_cons_succ])
  refine wpAnyH_take (i := 14) (oi := _) (v := undef) rfl (by kernel_rfl) (by kernel_rfl) (by kernel_rfl) (DQ.put (by decide)) (Or.inr ⟨by kernel_rfl, rfl⟩) HS.out ?_
  try (simp only [Act.put, List.getElem_toArray, List.getElem_cons_zero, List.getElem_cons_succ, List.setIfInBounds_toArray, List.set_cons_zero, List.set_cons_succ])
  refine wpAnyH_take (i := 15) (oi := _) (v := undef) rfl (by kernel_rfl) (by kernel_rfl) (by kernel_rfl) (DQ.put (by decide)) (Or.inr ⟨by kernel_rfl, rfl⟩) HS.out ?_
  try (simp only [Act.put, List.getElem_toArray, List.getElem_cons_zero, List.getElem_cons_succ, List.setIfInBounds_toArray, List.set_cons_zero, List.set_cons_succ])
  refine wpAnyH_take (i := 16) (oi := _) (v := undef) rfl (by kernel_rfl) (by kernel_rfl) (by kernel_rfl) (DQ.put (by decide)) (Or.inr ⟨by kernel_rfl, rfl⟩) HS.out ?_
  try (simp only [Act.put, List.getElem_toArray, List.getElem_cons_zero, List.getElem_cons_succ, List.setIfInBounds_toArray, List.set_cons_zero, List.set_cons_succ])
  refine wpAnyH_take (i := 17) (oi := _) (v := undef) rfl (by kernel_rfl) (by kernel_rfl) (by kernel_rfl) (DQ.put (by decide)) (Or.inr ⟨by kernel_rfl, rfl⟩) HS.out ?_
  try (simp only [Act.put, List.getElem_toArray, List.getElem_cons_zero, List.getElem_cons_succ, List.setIfInBounds_toArray, List.set_cons_zero, List.set_cons_succ])
  refine wpAnyH_take (i := 18) (oi := _) (v := .bool false) rfl (by kernel_rfl) (by kernel_rfl) (by kernel_rfl) (DQ.put (by decide)) (Or.inl ⟨by kernel_rfl, fun V hb => by go_simp⟩) HS.out ?_
  try (simp only [Act.put, List.getElem_toArray, List.getElem_cons_zero, List.getElem_cons_succ, List.setIfInBounds_toArray, List.set_cons_zero, List.set_cons_succ])
  refine wpAnyH_ready (rs := [19]) (by kernel_rfl) (by simp) ?_
  refine AllReadyH.cons (o := _) rfl (fun K2 hK2 => ?_) AllReadyH.nil
  go_simp
  refine (demand_bad _).mono ?_
  unfold wrongPanic
  rintro e2 w2 ⟨rfl, rfl⟩
  exact ⟨rfl, rfl, rfl, HF.out, HS.out.below⟩
 | true =>
  obtain ⟨hq1, hq2⟩ := inB_iff.1 hq
  have hw2 : IntKind.i64.wrap (bar + lj) = bar + lj := IntWalk.i64_in _ (by omega)
  refine (rin_h (v := true) (by assumption) _).mono ?_
  rintro e2 w2 ⟨rfl, rfl⟩
  refine hK1.out _ _ HS.out (fun _ => ?_)
  clear hK1 K1
  try (simp only [Act.put, List.getElem_toArray, List.getElem_cons_zero, List.getElem_cons_succ, List.setIfInBounds_toArray, List.set_cons_zero, List.set_cons_succ])
  refine wpAnyH_take (i := 6) (oi := _) (v := .bool true) rfl (by kernel_rfl) (by kernel_rfl) (by kernel_rfl) (DQ.put (by decide)) (Or.inl ⟨by kernel_rfl, fun V hb => by go_simp⟩) HS.out ?_
  try (simp only [Act.put, List.getElem_toArray, List.getElem_cons_zero, List.getElem_cons_succ, List.setIfInBounds_toArray, List.set_cons_zero, List.set_cons_succ])
  refine wpAnyH_take (i := 7) (oi := _) (v := .pointer (some ⟨D, 4, none⟩)) rfl (by kernel_rfl) (by kernel_rfl) (by kernel_rfl) (DQ.put (by decide)) (Or.inl ⟨by kernel_rfl, fun V hb => by go_simp⟩) HS.out ?_
  try (simp only [Act.put, List.getElem_toArray, List.getElem_cons_zero, List.getElem_cons_succ, List.setIfInBounds_toArray, List.set_cons_zero, List.set_cons_succ])
  refine wpAnyH_take (i := 8) (oi := _) (v := .int .i64 bar) rfl (by kernel_rfl) (by kernel_rfl) (by kernel_rfl) (DQ.put (by decide)) (Or.inl ⟨by kernel_rfl, fun V hb => by have q0 := hb.bar; go_simp⟩) HS.out ?_
  try (simp only [Act.put, List.getElem_toArray, List.getElem_cons_zero, List.getElem_cons_succ, List.setIfInBounds_toArray, List.set_cons_zero, List.set_cons_succ])
  refine wpAnyH_take (i := 9) (oi := _) (v := lit90 KB SB B7) rfl (by kernel_rfl) (by kernel_rfl) (by kernel_rfl) (DQ.put (by decide)) (Or.inl ⟨by kernel_rfl, fun V hb => by go_simp⟩) HS.out ?_
  try (simp only [Act.put, List.getElem_toArray, List.getElem_cons_zero, List.getElem_cons_succ, List.setIfInBounds_toArray, List.set_cons_zero, List.set_cons_succ])
  refine wpAnyH_take (i := 10) (oi := _) (v := .pointer (some ⟨D, 2, none⟩)) rfl (by kernel_rfl) (by kernel_rfl) (by kernel_rfl) (DQ.put (by decide)) (Or.inl ⟨by kernel_rfl, fun V hb => by go_simp⟩) HS.out ?_
  try (simp only [Act.put, List.getElem_toArray, List.getElem_cons_zero, List.getElem_cons_succ, List.setIfInBounds_toArray, List.set_cons_zero, List.set_cons_succ])
  refine wpAnyH_take (i := 11) (oi := _) (v := .pointer (some ⟨D, 3, none⟩)) rfl (by kernel_rfl) (by kernel_rfl) (by kernel_rfl) (DQ.put (by decide)) (Or.inl ⟨by kernel_rfl, fun V hb => by go_simp⟩) HS.out ?_
  try (simp only [Act.put, List.getElem_toArray, List.getElem_cons_zero, List.getElem_cons_succ, List.setIfInBounds_toArray, List.set_cons_zero, List.set_cons_succ])
  refine wpAnyH_take (i := 12) (oi := _) (v := .int .i64 fj) rfl (by kernel_rfl) (by kernel_rfl) (by kernel_rfl) (DQ.put (by decide)) (Or.inl ⟨by kernel_rfl, fun V hb => by have q0 := hb.num; go_simp⟩) HS.out ?_
  try (simp only [Act.put, List.getElem_toArray, List.getElem_cons_zero, List.getElem_cons_succ, List.setIfInBounds_toArray, List.set_cons_zero, List.set_cons_succ])
  refine wpAnyH_take (i := 15) (oi := _) (v := .pointer (some ⟨B, 3, none⟩)) rfl (by kernel_rfl) (by kernel_rfl) (by kernel_rfl) (DQ.put (by decide)) (Or.inl ⟨by kernel_rfl, fun V hb => by go_simp⟩) HS.out ?_
  try (simp only [Act.put, List.getElem_toArray, List.getElem_cons_zero, List.getElem_cons_succ, List.setIfInBounds_toArray, List.set_cons_zero, List.set_cons_succ])
  refine wpAnyH_take (i := 16) (oi := _) (v := .int .i64 s.bars) rfl (by kernel_rfl) (by kernel_rfl) (by kernel_rfl) (DQ.put (by decide)) (Or.inl ⟨by kernel_rfl, fun V hb => by have q0 := hb.bars; go_simp⟩) HS.out ?_
  try (simp only [Act.put, List.getElem_toArray, List.getElem_cons_zero, List.getElem_cons_succ, List.setIfInBounds_toArray, List.set_cons_zero, List.set_cons_succ])
  refine wpAnyH_ready (rs := [13]) (by kernel_rfl) (by simp) ?_
  refine AllReadyH.cons (o := _) rfl (fun K3 hK3 => ?_) AllReadyH.nil
  go_simp
  refine (HC.out _ HS.out).mono ?_
  rintro e2 V2 ⟨rfl, hV2⟩
  refine hK3.out _ _ hV2 (fun _ => ?_)
  clear hK3 K3 HS
  have HS := Lib.hid hV2
  clear hV2
  try (simp only [Act.put, List.getElem_toArray, List.getElem_cons_zero, List.getElem_cons_succ, List.setIfInBounds_toArray, List.set_cons_zero, List.set_cons_succ])
  refine wpAnyH_take (i := 14) (oi := _) (v := .int .i64 (bar + lj)) rfl (by kernel_rfl) (by kernel_rfl) (by kernel_rfl) (DQ.put (by decide)) (Or.inl ⟨by kernel_rfl, fun V hb => by go_simp⟩) HS.out ?_
  try (simp only [Act.put, List.getElem_toArray, List.getElem_cons_zero, List.getElem_cons_succ, List.setIfInBounds_toArray, List.set_cons_zero, List.set_cons_succ])
  refine wpAnyH_take (i := 17) (oi := _) (v := .bool (decide (bar + lj ≤ s.bars))) rfl (by kernel_rfl) (by kernel_rfl) (by kernel_rfl) (DQ.put (by decide)) (Or.inl ⟨by kernel_rfl, fun V hb => by go_simp⟩) HS.out ?_
  try (simp only [Act.put, List.getElem_toArray, List.getElem_cons_zero, List.getElem_cons_succ, List.setIfInBounds_toArray, List.set_cons_zero, List.set_cons_succ])
  refine wpAnyH_take (i := 18) (oi := _) (v := .bool (decide (bar + lj ≤ s.bars))) rfl (by kernel_rfl) (by kernel_rfl) (by kernel_rfl) (DQ.put (by decide)) (Or.inl ⟨by kernel_rfl, fun V hb => by go_simp⟩) HS.out ?_
  try (simp only [Act.put, List.getElem_toArray, List.getElem_cons_zero, List.getElem_cons_succ, List.setIfInBounds_toArray, List.set_cons_zero, List.set_cons_succ])
  refine wpAnyH_ready (rs := [19]) (by kernel_rfl) (by simp) ?_
  refine AllReadyH.cons (o := _) rfl (fun K4 hK4 => ?_) AllReadyH.nil
  go_simp
  by_cases hd : bar + lj ≤ s.bars
  ·have HF : Hid (ok = true) := Lib.hid (by rw [HOK.out, hq, decide_eq_true hd]; rfl)
   rw [decide_eq_true hd]
   refine (demand_ok _).mono ?_
   rintro e2 w2 ⟨rfl, rfl⟩
   refine hK4.out _ _ HS.out (fun _ => ?_)
   clear hK4 K4
   try (simp only [Act.put, List.getElem_toArray, List.getElem_cons_zero, List.getElem_cons_succ, List.setIfInBounds_toArray, List.set_cons_zero, List.set_cons_succ])
   refine wpAnyH_done (by kernel_rfl) ?_ _
   exact HN.out HF.out _ _ _ _ _ _ _ _ _ _ _ _ _ _ _ _ _ _ _ _ _ HS.out
  ·have HF : Hid (ok = false) := Lib.hid (by rw [HOK.out, hq, decide_eq_false hd]; rfl)
   rw [decide_eq_false hd]
   refine (demand_bad _).mono ?_
   unfold wrongPanic
   rintro e2 w2 ⟨rfl, rfl⟩
   exact ⟨rfl, rfl, rfl, HF.out, HS.out.below⟩
set_option maxRecDepth 100000 in
set_option maxHeartbeats 16000000 in
theorem ck_e10 (s : Ls) (f : Nm → Int) (len : Int → Int) (B E B7 KB M SB PB : Nat) (w W : World) (hs : RgS s f B w) (hb : Below w.heap.size w W) (hL : LenW W s f B7 KB M SB PB len) (hM : w.heap.size ≤ M) (hdn : NumAt f w (danRefs (blk s.da) (off s.da) s.dances)) (hbars : 1 ≤ s.bars ∧ s.bars ≤ 4096)
  (hP : ∀ d ∈ s.dances, ∀ V, LenW V s f B7 KB M SB PB len → Calls Try.prog 90 #[.int .i64 (f d.pn), .pointer (some ⟨KB, 0, none⟩), .pointer (some ⟨SB, 0, none⟩), .pointer (some ⟨B7, 0, none⟩)] V (LthP s f B7 KB M SB PB len (len (f d.pn)) V)) (hlb : ∀ d ∈ s.dances, 0 ≤ len (f d.pn) ∧ len (f d.pn) ≤ 4097)
  (_hl : s.dances.length ≤ 100000) (ds : List Deferred) (Q : Exit → Act → World → Prop) (e0 e3 e4 e5 e6 e8 e9 e10 e11 e12 e13 e14 e15 e16 e17 e18 e19 e20 e21 e22 e23 e24 e25 e26 e27 e28 e29 e30 e31 e32 e33 e34 e35 e36 e37 e38 e39 e40 e41 e42 e43 e44 e45 e46 e47 e48 e49 e50 e51 e52 e53 e54 e55 e56 e57 e58 e59 e60 e61 e62 e63 e64 e65 e66 e67 e68 e69 e70 e71 e72 e73 e74 e75 e76 e77 e78 e79 e80 e81 e82 e83 e84 e85 e86 e87 e88 e89 e90 e91 e92 e93 e94 e95 e96 e97 e98 e99 e100 e101 e102 e103 e104 e105 e106 e107 e108 e109 e110 e111 e112 e113 e114 e115 e116 e117 e118 e119 e120 e121 : Value)
  (hN : s.dances.all (danOk s f len) = true → ∀ (x0 x3 x4 x5 x6 x7 x8 x9 x10 x11 x12 x13 x14 x15 x16 x17 x18 x19 x20 x21 x22 x23 x24 x25 x26 x27 x28 x29 x30 x31 x32 x33 x34 x35 x36 x37 x38 x39 x40 x41 x42 x43 x44 x45 x46 x47 x48 x49 x50 x51 x52 x53 x54 x55 x56 x57 x58 x59 x60 x61 x62 x63 x64 x65 x66 x67 x68 x69 x70 x71 x72 x73 x74 x75 x76 x77 x78 x79 x80 x81 x82 x83 x84 x85 x86 x87 x88 x89 x90 x91 x92 x93 x94 x95 x96 x97 x98 x99 x100 x101 x102 x103 x104 x105 x106 x107 x108 x109 x110 x111 x112 x113 x114 x115 x116 x117 x118 x119 x120 x121 : Value) (V : World), Below w.heap.size w V → Q .normal { tmps := #[x0, .pointer (some ⟨B, 0, none⟩), .pointer (some ⟨E, 0, none⟩), x3, x4, x5, x6, x7, x8, x9, x10, x11, x12, x13, x14, x15, x16, x17, x18, x19, x20, x21, x22, x23, x24, x25, x26, x27, x28, x29, x30, x31, x32, x33, x34, x35, x36, x37, x38, x39, x40, x41, x42, x43, x44, x45, x46, x47, x48, x49, x50, x51, x52, x53, x54, x55, x56, x57, x58, x59, x60, x61, x62, x63, x64, x65, x66, x67, x68, x69, x70, x71, x72, x73, x74, x75, x76, x77, x78, x79, x80, x81, x82, x83, x84, x85, x86, x87, x88, x89, x90, x91, x92, x93, x94, x95, x96, x97, x98, x99, x100, x101, x102, x103, x104, x105, x106, x107, x108, x109, x110, x111, x112, x113, x114, x115, x116, x117, x118, x119, x120, x121], defers := ds } V)
  (hPa : s.dances.all (danOk s f len) = false → ∀ (t : Array Value) (V : World), t.getD 2 undef = .pointer (some ⟨E, 0, none⟩) → Below w.heap.size w V → Q (.panic wrongC) { tmps := t, defers := ds } V) :
  elem29n10.wp Try.prog Q { tmps := #[e0, .pointer (some ⟨B, 0, none⟩), .pointer (some ⟨E, 0, none⟩), e3, e4, e5, e6, lit90 KB SB B7, e8, e9, e10, e11, e12, e13, e14, e15, e16, e17, e18, e19, e20, e21, e22, e23, e24, e25, e26, e27, e28, e29, e30, e31, e32, e33, e34, e35, e36, e37, e38, e39, e40, e41, e42, e43, e44, e45, e46, e47, e48, e49, e50, e51, e52, e53, e54, e55, e56, e57, e58, e59, e60, e61, e62, e63, e64, e65, e66, e67, e68, e69, e70, e71, e72, e73, e74, e75, e76, e77, e78, e79, e80, e81, e82, e83, e84, e85, e86, e87, e88, e89, e90, e91, e92, e93, e94, e95, e96, e97, e98, e99, e100, e101, e102, e103, e104, e105, e106, e107, e108, e109, e110, e111, e112, e113, e114, e115, e116, e117, e118, e119, e120, e121], defers := ds } W := by
 have hS := hs.below hb
 have y6 : W.cell? ⟨B, 11, none⟩ = some (.slice s.da s.dances.length s.dc) := cell_at hS.box 11 rfl
 have HN := Lib.hid hN; have HPA := Lib.hid hPa; have HB := Lib.hid hb; have HS := Lib.hid hs; have HL := Lib.hid hL; have HDN := Lib.hid hdn; have HPH := Lib.hid hP; have HLB := Lib.hid hlb; have HMw := Lib.hid hM
 clear hN hPa hb hS hs hL hdn hP hlb hM
 generalize hn : s.dances.length = n at *
 have HLN := Lib.hid hn
 clear hn
 conv => arg 2; whnf
 go_wp2_with fail
 go_loopw [97] (fun iv wr => ∃ i : Nat, iv = .int .i64 i ∧ i ≤ n ∧ Hid (∀ d ∈ s.dances.take i, danOk s f len d = true) ∧ Hid (Below w.heap.size w wr) ∧ Hid (LenW wr s f B7 KB M SB PB len)) (fun iv _ => n + 1 - (intOf iv).toNat)
 case atStart => exact ⟨0, rfl, Nat.zero_le _, Lib.hid (by simp), HB, HL⟩
 case round =>
  obtain ⟨i, rfl, hin, hok, hB, hLw⟩ := hrel
  by_cases hlt : i < n
  ·have hi : (i : Int) < (n : Int) := by omega
   obtain ⟨d, hd⟩ : ∃ d, s.dances[i]? = some d := ⟨_, List.getElem?_eq_getElem (by rw [HLN.out]; exact hlt)⟩
   have hdm := List.mem_of_getElem? hd
   have hSr := HS.out.below hB.out
   have hDr := HDN.out.below hB.out
   obtain ⟨u1, c0, c1, c2, c3, c4, c5⟩ := dan_cells hSr.at_.dances hDr hd
   have hda := hSr.at_.dform.resolve_left (fun e => by rw [e] at hd; cases hd)
   obtain ⟨W2, hW2, gW2, bW2, sW2⟩ := mk_cells wr #[sv d.rn, .int .i64 u1, sv d.pn, .int .i64 (f d.pn), .int .i64 d.bar, .bool d.mirror] 73
   have y3 : W2.cell? ⟨B, 3, none⟩ = some (.int .i64 s.bars) := cell_at (hSr.below bW2).box 3 rfl
   have z3 := cell_at gW2 3 rfl; have z4 := cell_at gW2 4 rfl
   have hL2 := hLw.out.below bW2
   have HD2 : Hid (DanS s f len B B7 KB M SB PB wr.heap.size d.bar (f d.pn) w W2) := Lib.hid ⟨z3, z4, y3, hL2, thenB hB.out bW2⟩
   have hst : ∀ V V', DanS s f len B B7 KB M SB PB wr.heap.size d.bar (f d.pn) w V → LenW V' s f B7 KB M SB PB len → V.grownBy V' (some M) → DanS s f len B B7 KB M SB PB wr.heap.size d.bar (f d.pn) w V' := fun V V' h hl hg =>
    ⟨grown_cell h.num h.lw.isMap hg, grown_cell h.bar h.lw.isMap hg, grown_cell h.bars h.lw.isMap hg, hl, h.below.grown hg h.below.size (fun k hk => by cases hk; exact HMw.out)⟩
   have C := fun V (h : DanS s f len B B7 KB M SB PB wr.heap.size d.bar (f d.pn) w V) => (HPH.out d hdm V h.lw).mono fun e V' (hp : LthP s f B7 KB M SB PB len (len (f d.pn)) V e V') => (⟨hp.1, hst V V' h hp.2.1 hp.2.2⟩ : e = .returned (.int .i64 (len (f d.pn))) ∧ DanS s f len B B7 KB M SB PB wr.heap.size d.bar (f d.pn) w V')
   have HC := Lib.hid C; have HX := Lib.hid hd; have HLBD := Lib.hid (HLB.out d hdm)
   clear hd hdm hSr hDr gW2 bW2 sW2 hL2 C hst y3 z3 z4
   have HW2 := Lib.hid hW2
   clear hW2
   generalize hga : s.da = da at *
   have HGA := Lib.hid hga
   clear hga
   generalize hbb : blk da = fb at *
   generalize hoo : off da = fo at *
   subst hda
   clear hbb hoo
   refine wp_seq_thenQ (fun K1 hK => ?_)
   have HK1 := Lib.hid hK
   clear hK
   go_wp2_with fail
   refine HK1.out _ _ ?_
   clear HK1 K1
   refine wp_seq_thenQ (fun K2 hK => ?_)
   have HK2 := Lib.hid hK
   clear hK
   go_wp2_with fail
   refine HK2.out _ _ ?_
   clear HK2 K2
   refine wp_seq_thenQ (fun K3 hK => ?_)
   have HK3 := Lib.hid hK
   clear hK
   refine wp_block ?_
   refine wp_seq_thenQ (fun K4 hK => ?_)
   have HK4 := Lib.hid hK
   clear hK
   go_wp2_with fail
   refine HK4.out _ _ ?_
   clear HK4 K4
   rw [HW2.out]
   change Code.wp Try.prog reg23 _ _ _
   refine Code.wp_mono (fun e a V h => ?_) (dan_reg s f len B E B7 KB M SB PB wr.heap.size d.bar (f d.pn) (len (f d.pn)) w W2 HD2.out hbars HLBD.out HC.out (danOk s f len d) rfl ds K3 _ _ _ _ _ _ _ _ _ _ _ _ _ _ _ _ _ _ _ _ _ _ _ _ _ _ _ _ _ _ _ _ _ _ _ _ _ _ _ _ _ _ _ _ _ _ _ _ _ _ _ _ _ _ _ _ _ _ _ _ _ _ _ _ _ _ _ _ _ _ _ _ _ _ _ _ _ _ _ _ _ _ _ _ _ _ _ _ _ _ _ _ _ _ _ _ _ _ _ _ _ _ _ _ _ _ _ _ _ _ _ _ _ _ _ _ _ _ (fun hok2 => ?_))
   ·cases e with
    | normal => exact h
    | panic c =>
     obtain ⟨tm, df⟩ := a
     obtain ⟨rfl, h2, h3, h4, h5⟩ := h
     have h3' : df = ds := h3
     subst h3'
     have hall : s.dances.all (danOk s f len) = false := by
      rw [← Bool.not_eq_true, List.all_eq_true]
      intro h
      rw [h d (List.mem_of_getElem? HX.out)] at h4; cases h4
     exact HPA.out hall tm V h2 h5
    | _ => exact h.elim
   ·intros
    rename_i V hV
    refine HK3.out _ _ ?_
    have HV := Lib.hid hV; have HOK2 := Lib.hid hok2
    clear hV hok2 HK3 K3
    go_wp2_with fail
    go_roundw
    case rel => exact ⟨i + 1, by go_num, by omega, Lib.hid (all_next hok.out HX.out HOK2.out), Lib.hid HV.out.below, Lib.hid HV.out.lw⟩
    case measure => simp [intOf]; omega
  ·have : i = n := by omega
   subst this
   have hz : ¬ (i : Int) < (i : Int) := by omega
   have hall : s.dances.all (danOk s f len) = true := List.all_eq_true.2 (fun x hx => hok.out x (by rw [List.take_of_length_le (by rw [HLN.out]; exact Nat.le_refl _)]; exact hx))
   have HC := Lib.hid hall
   clear hall
   go_wp2_with fail
   exact HN.out HC.out _ _ _ _ _ _ _ _ _ _ _ _ _ _ _ _ _ _ _ _ _ _ _ _ _ _ _ _ _ _ _ _ _ _ _ _ _ _ _ _ _ _ _ _ _ _ _ _ _ _ _ _ _ _ _ _ _ _ _ _ _ _ _ _ _ _ _ _ _ _ _ _ _ _ _ _ _ _ _ _ _ _ _ _ _ _ _ _ _ _ _ _ _ _ _ _ _ _ _ _ _ _ _ _ _ _ _ _ _ _ _ _ _ _ _ _ _ _ _ _ _ hB.out
end Go.Proofs.Ytpnbpepkoekkoaa
end
