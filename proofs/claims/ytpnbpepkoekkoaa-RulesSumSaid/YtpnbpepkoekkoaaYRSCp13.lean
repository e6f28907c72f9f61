/- The walk of the statement: part 13. -/
import Derived.Test.YtpnbpepkoekkoaaYRSCp12
import Derived.Test.YtpnbpepkoekkoaaZ1
import Derived.Test.YtpnbpepkoekkoaaZ29
set_option linter.unusedVariables false
set_option linter.unusedSimpArgs false
section
namespace Go.Proofs.Ytpnbpepkoekkoaa
open Go Go.RowKit
def pIdx (s : Sc) (nm : Nm) : Int := (s.pnames.idxOf nm : Nat)
theorem chk_zero {s : Sc} {ns : List Int} (h : chkE s ns = 0) : s.lims = true ∧ s.named = true ∧ s.apart = true ∧ s.kinds = true ∧ refsIdx s.rnames s.pnames s.refs ns = some ns := by
 unfold chkE at h
 split at h
 ·rename_i h0
  obtain ⟨h1, h2, h3, _⟩ := res_zero h0
  split at h
  ·rename_i hi
   unfold Sc.idx at hi
   split at hi
   ·rename_i hk
    exact ⟨h1, h2, h3, hk, hi⟩
   ·cases hi
  ·omega
 ·contradiction
theorem idx_num {R P : List Nm} {W : World} : ∀ {xs : List RefL} {ns : List Int}, NsAt W xs ns → refsIdx R P (xs.map RefL.key) ns = some ns → ∀ x ∈ xs, ∃ n, W.cell? ⟨x.b, x.o + 1, none⟩ = some (.int .i64 n) ∧ (x.to = 2 → x.nm ∈ P ∧ n = (P.idxOf x.nm : Nat))
 | [], _, _, _, x, hx => by cases hx
 | y :: ys, [], h, _, _, _ => h.elim
 | y :: ys, n :: ns, ⟨h1, h2⟩, hi, x, hx => by
  simp only [List.map_cons, refsIdx] at hi
  cases hr : refIdx R P y.key n with
  | none => rw [hr] at hi; cases hi
  | some k =>
   cases hrs : refsIdx R P (ys.map RefL.key) ns with
   | none => rw [hr, hrs] at hi; cases hi
   | some ks =>
    rw [hr, hrs] at hi
    simp only [Option.some.injEq, List.cons.injEq] at hi
    obtain ⟨rfl, rfl⟩ := hi
    rcases List.mem_cons.1 hx with rfl | hx
    ·refine ⟨k, h1, fun ht => ?_⟩
     unfold refIdx RefL.key at hr
     simp only [ht] at hr
     rw [if_neg (by decide), if_neg (by decide)] at hr
     split at hr
     ·rename_i hm
      cases hr
      exact ⟨hm, rfl⟩
     ·cases hr
    ·exact idx_num h2 hrs x hx
theorem idx_mem {R P : List Nm} : ∀ {rs : List (Nat × Nm)} {ns ks : List Int}, refsIdx R P rs ns = some ks → ∀ nm, (2, nm) ∈ rs → nm ∈ P
 | [], _, _, _, _, h => by cases h
 | r :: rs, [], _, h, _, _ => by cases h
 | r :: rs, n :: ns, ks, h, nm, hm => by
  simp only [refsIdx] at h
  cases hr : refIdx R P r n with
  | none => rw [hr] at h; cases h
  | some k =>
   cases hrs : refsIdx R P rs ns with
   | none => rw [hr, hrs] at h; cases h
   | some ks' =>
    rcases List.mem_cons.1 hm with rfl | hm
    ·unfold refIdx at hr
     rw [if_neg (by simp), if_neg (by simp)] at hr
     split at hr
     ·assumption
     ·cases hr
    ·exact idx_mem hrs nm hm
theorem nums_of {s : Ls} {ns : List Int} {W : World} (h : chkE s.strip ns = 0) (hN : NsAt W s.refs ns) : NumAt (pIdx s.strip) W s.refs := fun x hx => by
 obtain ⟨_, _, _, _, hi⟩ := chk_zero h
 rw [← s.refs_key] at hi
 obtain ⟨n, h1, h2⟩ := idx_num hN hi x hx
 exact ⟨n, h1, fun ht => (h2 ht).2⟩
theorem uses_ref (f : Nm → Int) : ∀ (t : Its) (u : Int), u ∈ t.uses f → ∃ nm, (2, nm) ∈ t.refs ∧ u = f nm
 | .nil, _, h => by cases h
 | .cons k _ un its ms r, u, h => by
  simp only [Its.uses, List.mem_append] at h
  rcases h with h | h | h
  ·split at h
   ·rename_i hk
    simp at h
    exact ⟨un, by simp [Its.refs, itemTo, hk], h⟩
   ·cases h
  ·obtain ⟨nm, h1, h2⟩ := uses_ref f its u h
   exact ⟨nm, by simp [Its.refs, h1], h2⟩
  ·obtain ⟨nm, h1, h2⟩ := uses_ref f r u h
   exact ⟨nm, by simp [Its.refs, h1], h2⟩
theorem pIdx_lt {s : Sc} {nm : Nm} (h : nm ∈ s.pnames) : ∃ i : Nat, pIdx s nm = i ∧ i < s.phrases.length := by
 refine ⟨s.pnames.idxOf nm, rfl, ?_⟩
 have := List.idxOf_lt_length_iff.2 h
 simpa [Sc.pnames] using this
theorem uses_in {s : Ls} {ns : List Int} (h : chkE s.strip ns = 0) : UsesIn s.itsL (pIdx s.strip) := fun t ht u hu => by
 obtain ⟨_, _, _, _, hi⟩ := chk_zero h
 obtain ⟨nm, h1, rfl⟩ := uses_ref _ t u hu
 obtain ⟨p, hp, rfl⟩ := List.mem_map.1 ht
 have hm : (2, nm) ∈ s.strip.refs := by
  unfold Sc.refs
  exact List.mem_append.2 (Or.inl (List.mem_flatMap.2 ⟨p.strip, List.mem_map.2 ⟨p, hp, rfl⟩, h1⟩))
 obtain ⟨i, h2, h3⟩ := pIdx_lt (idx_mem hi nm hm)
 exact ⟨i, h2, by simpa [Ls.itsL, Ls.strip] using h3⟩
theorem dances_in {s : Ls} {ns : List Int} (h : chkE s.strip ns = 0) {d : Dan} (hd : d ∈ s.dances) : ∃ i : Nat, pIdx s.strip d.pn = i ∧ i < s.phrases.length := by
 obtain ⟨_, _, _, _, hi⟩ := chk_zero h
 have hm : (2, d.pn) ∈ s.strip.refs := by
  unfold Sc.refs
  exact List.mem_append.2 (Or.inr (List.mem_flatMap.2 ⟨d, hd, by simp⟩))
 obtain ⟨i, h2, h3⟩ := pIdx_lt (idx_mem hi d.pn hm)
 exact ⟨i, h2, by simpa [Ls.strip] using h3⟩
theorem small_of {s : Ls} {ns : List Int} (h : chkE s.strip ns = 0) : s.roles.length ≤ 64 ∧ s.phrases.length ≤ 64 ∧ s.dances.length ≤ 256 := by
 obtain ⟨hl, _⟩ := chk_zero h
 unfold Sc.lims Sc.fit at hl
 simp only [Bool.and_eq_true, decide_eq_true_eq] at hl
 obtain ⟨⟨h1, _, _, _, h5, h6⟩, _⟩ := hl
 simp only [Ls.strip, List.length_map] at h1 h5 h6
 exact ⟨h1, h5, h6⟩
def soundL (s : Ls) (f : Nm → Int) : Bool := (inB s.wd 1 1000 && inB s.dp 1 1000) && ((inB s.t0 1 127 && inB s.t1 0 s.t0) && (s.roles.all (rolOk s) && (decide (clkE ⟨s.bars, s.tempos, s.pauses, s.spans⟩ = 0) && (s.phrases.all (fun p => p.its.strip.exB) && (decide (ringM (s.nexts f) = []) && s.dances.all (danOk s f (lenM s.itsL f)))))))
def soundE (s : Ls) (ns : List Int) : Int := if chkE s.strip ns = 0 then (if soundL s (pIdx s.strip) then 0 else 180) else chkE s.strip ns
def SndP (s : Ls) (ns : List Int) (w : World) (e : Ending) (w' : World) : Prop := e = .returned (.int .i64 (soundE s ns)) ∧ Below w.heap.size w w'
theorem clk_bars {b : Int} {t : List Tmp} {p : List Pau} {c : List Con} (h : clkE ⟨b, t, p, c⟩ = 0) : 1 ≤ b ∧ b ≤ 4096 := by
 unfold clkE at h
 split at h
 ·split at h
  ·rename_i hb
   unfold clkB clkHead at hb
   simp only [Bool.and_eq_true] at hb
   exact inB_iff.1 hb.1.1.1.1.1
  ·omega
 ·omega
end Go.Proofs.Ytpnbpepkoekkoaa
end
section
namespace Go.Proofs.Ytpnbpepkoekkoaa
open Go Go.RowKit
theorem rkl11 : lastPart 10 code29 = .seq elem29n10 (lastPart 11 code29) := rfl
set_option maxRecDepth 100000 in
set_option maxHeartbeats 16000000 in
theorem ck_end (E B : Nat) (W : World) (s : Ls) (ns : List Int) (w0 : World) (hE : W.heap[E]? = some (.cells #[.int .i64 0] 35 (0, 0))) (hlow : w0.heap.size ≤ E) (hb : Below w0.heap.size w0 W) (h0 : soundE s ns = 0) (e0 e3 e4 e5 e6 e7 e8 e9 e10 e11 e12 e13 e14 e15 e16 e17 e18 e19 e20 e21 e22 e23 e24 e25 e26 e27 e28 e29 e30 e31 e32 e33 e34 e35 e36 e37 e38 e39 e40 e41 e42 e43 e44 e45 e46 e47 e48 e49 e50 e51 e52 e53 e54 e55 e56 e57 e58 e59 e60 e61 e62 e63 e64 e65 e66 e67 e68 e69 e70 e71 e72 e73 e74 e75 e76 e77 e78 e79 e80 e81 e82 e83 e84 e85 e86 e87 e88 e89 e90 e91 e92 e93 e94 e95 e96 e97 e98 e99 e100 e101 e102 e103 e104 e105 e106 e107 e108 e109 e110 e111 e112 e113 e114 e115 e116 e117 e118 e119 e120 e121 : Value) :
  (lastPart 11 code29).wp Try.prog (bodyPostD Try.prog Try.f29 (SndP s ns w0)) { tmps := #[e0, .pointer (some ⟨B, 0, none⟩), .pointer (some ⟨E, 0, none⟩), e3, e4, e5, e6, e7, e8, e9, e10, e11, e12, e13, e14, e15, e16, e17, e18, e19, e20, e21, e22, e23, e24, e25, e26, e27, e28, e29, e30, e31, e32, e33, e34, e35, e36, e37, e38, e39, e40, e41, e42, e43, e44, e45, e46, e47, e48, e49, e50, e51, e52, e53, e54, e55, e56, e57, e58, e59, e60, e61, e62, e63, e64, e65, e66, e67, e68, e69, e70, e71, e72, e73, e74, e75, e76, e77, e78, e79, e80, e81, e82, e83, e84, e85, e86, e87, e88, e89, e90, e91, e92, e93, e94, e95, e96, e97, e98, e99, e100, e101, e102, e103, e104, e105, e106, e107, e108, e109, e110, e111, e112, e113, e114, e115, e116, e117, e118, e119, e120, e121], defers := [dfrR E] } W := by
 have c0 := cell_of_one hE
 have f0 := free_of_one hE
 have HE := Lib.hid hE; have HB := Lib.hid hb; have H0 := Lib.hid h0
 clear hE hb h0
 conv => arg 2; whnf
 go_wp2_with fail
 refine rdoor_ok _ E _ _ (.int .i64 0) rfl (cell_of_one (one_setCell HE.out)) ⟨by rw [H0.out], HB.out.setCell (p := ⟨E, 0, none⟩) hlow _⟩
theorem ck_panic (E : Nat) (s : Ls) (ns : List Int) (w0 w : World) (hlow : w0.heap.size ≤ E) (hb : Below w0.heap.size w0 w) (hE : w.heap[E]? = some (.cells #[.int .i64 0] 35 (0, 0))) (h0 : soundE s ns = 180) (t : Array Value) (V : World) (ht : t.getD 2 undef = .pointer (some ⟨E, 0, none⟩)) (hV : Below w.heap.size w V) :
  bodyPostD Try.prog Try.f29 (SndP s ns w0) (.panic wrongC) { tmps := t, defers := [dfrR E] } V :=
 rdoor_err t E _ V _ ht (keepO hV hE) fun w' hw => ⟨by rw [h0], (thenB hb hV).trans (hw.mono hlow)⟩
set_option maxRecDepth 100000 in
set_option maxHeartbeats 16000000 in
theorem ck_p9 (s : Ls) (ns : List Int) (B E : Nat) (w0 w W : World) (hc : chkE s.strip ns = 0) (hs : RgS s (pIdx s.strip) B w) (hdn : NumAt (pIdx s.strip) w (danRefs (blk s.da) (off s.da) s.dances)) (hE : w.heap[E]? = some (.cells #[.int .i64 0] 35 (0, 0))) (hlow : w0.heap.size ≤ E) (hb0 : Below w0.heap.size w0 w) (hb : Below w.heap.size w W) (hx : s.phrases.all (fun p => p.its.strip.exB) = true) (hr : ringM (s.nexts (pIdx s.strip)) = []) (hbars : 1 ≤ s.bars ∧ s.bars ≤ 4096) (hsnd : soundE s ns = if s.dances.all (danOk s (pIdx s.strip) (lenM s.itsL (pIdx s.strip))) = true then 0 else 180) (e0 e3 e4 e5 e6 e7 e8 e9 e10 e11 e12 e13 e14 e15 e16 e17 e18 e19 e20 e21 e22 e23 e24 e25 e26 e27 e28 e29 e30 e31 e32 e33 e34 e35 e36 e37 e38 e39 e40 e41 e42 e43 e44 e45 e46 e47 e48 e49 e50 e51 e52 e53 e54 e55 e56 e57 e58 e59 e60 e61 e62 e63 e64 e65 e66 e67 e68 e69 e70 e71 e72 e73 e74 e75 e76 e77 e78 e79 e80 e81 e82 e83 e84 e85 e86 e87 e88 e89 e90 e91 e92 e93 e94 e95 e96 e97 e98 e99 e100 e101 e102 e103 e104 e105 e106 e107 e108 e109 e110 e111 e112 e113 e114 e115 e116 e117 e118 e119 e120 e121 : Value) :
  (lastPart 9 code29).wp Try.prog (bodyPostD Try.prog Try.f29 (SndP s ns w0)) { tmps := #[e0, .pointer (some ⟨B, 0, none⟩), .pointer (some ⟨E, 0, none⟩), e3, e4, e5, e6, e7, e8, e9, e10, e11, e12, e13, e14, e15, e16, e17, e18, e19, e20, e21, e22, e23, e24, e25, e26, e27, e28, e29, e30, e31, e32, e33, e34, e35, e36, e37, e38, e39, e40, e41, e42, e43, e44, e45, e46, e47, e48, e49, e50, e51, e52, e53, e54, e55, e56, e57, e58, e59, e60, e61, e62, e63, e64, e65, e66, e67, e68, e69, e70, e71, e72, e73, e74, e75, e76, e77, e78, e79, e80, e81, e82, e83, e84, e85, e86, e87, e88, e89, e90, e91, e92, e93, e94, e95, e96, e97, e98, e99, e100, e101, e102, e103, e104, e105, e106, e107, e108, e109, e110, e111, e112, e113, e114, e115, e116, e117, e118, e119, e120, e121], defers := [dfrR E] } W := by
 have hsm := small_of hc
 have hok := len_ok hx hr (uses_in hc)
 have hph : ∀ d ∈ s.dances, ∀ (B7 KB M SB PB : Nat) (V : World), LenW V s (pIdx s.strip) B7 KB M SB PB (lenM s.itsL (pIdx s.strip)) → Calls Try.prog 90 #[.int .i64 (pIdx s.strip d.pn), .pointer (some ⟨KB, 0, none⟩), .pointer (some ⟨SB, 0, none⟩), .pointer (some ⟨B7, 0, none⟩)] V (LthP s (pIdx s.strip) B7 KB M SB PB (lenM s.itsL (pIdx s.strip)) (lenM s.itsL (pIdx s.strip) (pIdx s.strip d.pn)) V) := fun d hd B7 KB M SB PB V hV => by
  obtain ⟨i, hi, hil⟩ := dances_in hc hd
  rw [hi]
  exact phr_all s (pIdx s.strip) B7 KB M SB PB _ _ hok (by omega) _ i (Nat.le_refl _) hil V hV
 have hlb : ∀ d ∈ s.dances, 0 ≤ lenM s.itsL (pIdx s.strip) (pIdx s.strip d.pn) ∧ lenM s.itsL (pIdx s.strip) (pIdx s.strip d.pn) ≤ 4097 := fun d hd => by
  obtain ⟨i, hi, hil⟩ := dances_in hc hd
  rw [hi]
  exact hok.bound i hil
 rw [rkstep9]
 refine wp_seq_thenQ (fun K hK => ?_)
 have HK := Lib.hid hK
 clear hK
 refine ck_e9 s (pIdx s.strip) (lenM s.itsL (pIdx s.strip)) B E w W hs hb [dfrR E] _ _ _ _ _ _ _ _ _ _ _ _ _ _ _ _ _ _ _ _ _ _ _ _ _ _ _ _ _ _ _ _ _ _ _ _ _ _ _ _ _ _ _ _ _ _ _ _ _ _ _ _ _ _ _ _ _ _ _ _ _ _ _ _ _ _ _ _ _ _ _ _ _ _ _ _ _ _ _ _ _ _ _ _ _ _ _ _ _ _ _ _ _ _ _ _ _ _ _ _ _ _ _ _ _ _ _ _ _ _ _ _ _ _ _ _ _ _ _ _ _ ?_
 intro B7 KB M SB PB x0 x3 x4 x5 x6 x8 x9 x10 x11 x12 x13 x14 x15 x16 x17 x18 x19 x20 x21 x22 x23 x24 x25 x26 x27 x28 x29 x30 x31 x32 x33 x34 x35 x36 x37 x38 x39 x40 x41 x42 x43 x44 x45 x46 x47 x48 x49 x50 x51 x52 x53 x54 x55 x56 x57 x58 x59 x60 x61 x62 x63 x64 x65 x66 x67 x68 x69 x70 x71 x72 x73 x74 x75 x76 x77 x78 x79 x80 x81 x82 x83 x84 x85 x86 x87 x88 x89 x90 x91 x92 x93 x94 x95 x96 x97 x98 x99 x100 x101 x102 x103 x104 x105 x106 x107 x108 x109 x110 x111 x112 x113 x114 x115 x116 x117 x118 x119 x120 x121 V hLW hM hV
 refine HK.out _ _ ?_
 clear HK K
 rw [rkl11]
 refine wp_seq_thenQ (fun K hK => ?_)
 have HK := Lib.hid hK
 clear hK
 refine ck_e10 s (pIdx s.strip) (lenM s.itsL (pIdx s.strip)) B E B7 KB M SB PB w V hs hV hLW hM hdn hbars (fun d hd V hV => hph d hd B7 KB M SB PB V hV) hlb (by omega) [dfrR E] _ _ _ _ _ _ _ _ _ _ _ _ _ _ _ _ _ _ _ _ _ _ _ _ _ _ _ _ _ _ _ _ _ _ _ _ _ _ _ _ _ _ _ _ _ _ _ _ _ _ _ _ _ _ _ _ _ _ _ _ _ _ _ _ _ _ _ _ _ _ _ _ _ _ _ _ _ _ _ _ _ _ _ _ _ _ _ _ _ _ _ _ _ _ _ _ _ _ _ _ _ _ _ _ _ _ _ _ _ _ _ _ _ _ _ _ _ _ _ _ (fun hd x0 x3 x4 x5 x6 x7 x8 x9 x10 x11 x12 x13 x14 x15 x16 x17 x18 x19 x20 x21 x22 x23 x24 x25 x26 x27 x28 x29 x30 x31 x32 x33 x34 x35 x36 x37 x38 x39 x40 x41 x42 x43 x44 x45 x46 x47 x48 x49 x50 x51 x52 x53 x54 x55 x56 x57 x58 x59 x60 x61 x62 x63 x64 x65 x66 x67 x68 x69 x70 x71 x72 x73 x74 x75 x76 x77 x78 x79 x80 x81 x82 x83 x84 x85 x86 x87 x88 x89 x90 x91 x92 x93 x94 x95 x96 x97 x98 x99 x100 x101 x102 x103 x104 x105 x106 x107 x108 x109 x110 x111 x112 x113 x114 x115 x116 x117 x118 x119 x120 x121 V hV => ?_) (fun hd t V ht hV => ?_)
 ·refine HK.out _ _ ?_
  exact ck_end E B V s ns w0 (keepO hV hE) hlow (thenB hb0 hV) (by rw [hsnd, if_pos hd]) _ _ _ _ _ _ _ _ _ _ _ _ _ _ _ _ _ _ _ _ _ _ _ _ _ _ _ _ _ _ _ _ _ _ _ _ _ _ _ _ _ _ _ _ _ _ _ _ _ _ _ _ _ _ _ _ _ _ _ _ _ _ _ _ _ _ _ _ _ _ _ _ _ _ _ _ _ _ _ _ _ _ _ _ _ _ _ _ _ _ _ _ _ _ _ _ _ _ _ _ _ _ _ _ _ _ _ _ _ _ _ _ _ _ _ _ _ _ _ _
 ·exact ck_panic E s ns w0 w hlow hb0 hE (by rw [hsnd, if_neg (by rw [hd]; simp)]) t V ht hV
set_option maxRecDepth 100000 in
set_option maxHeartbeats 16000000 in
theorem ck_p8 (s : Ls) (ns : List Int) (B E : Nat) (w0 w W : World) (hc : chkE s.strip ns = 0) (hs : RgS s (pIdx s.strip) B w) (hdn : NumAt (pIdx s.strip) w (danRefs (blk s.da) (off s.da) s.dances)) (hE : w.heap[E]? = some (.cells #[.int .i64 0] 35 (0, 0))) (hlow : w0.heap.size ≤ E) (hb0 : Below w0.heap.size w0 w) (hb : Below w.heap.size w W) (hx : s.phrases.all (fun p => p.its.strip.exB) = true) (hbars : 1 ≤ s.bars ∧ s.bars ≤ 4096) (hsnd : soundE s ns = if (decide (ringM (s.nexts (pIdx s.strip)) = []) && s.dances.all (danOk s (pIdx s.strip) (lenM s.itsL (pIdx s.strip)))) = true then 0 else 180) (e0 e3 e4 e5 e6 e7 e8 e9 e10 e11 e12 e13 e14 e15 e16 e17 e18 e19 e20 e21 e22 e23 e24 e25 e26 e27 e28 e29 e30 e31 e32 e33 e34 e35 e36 e37 e38 e39 e40 e41 e42 e43 e44 e45 e46 e47 e48 e49 e50 e51 e52 e53 e54 e55 e56 e57 e58 e59 e60 e61 e62 e63 e64 e65 e66 e67 e68 e69 e70 e71 e72 e73 e74 e75 e76 e77 e78 e79 e80 e81 e82 e83 e84 e85 e86 e87 e88 e89 e90 e91 e92 e93 e94 e95 e96 e97 e98 e99 e100 e101 e102 e103 e104 e105 e106 e107 e108 e109 e110 e111 e112 e113 e114 e115 e116 e117 e118 e119 e120 e121 : Value) :
  (lastPart 8 code29).wp Try.prog (bodyPostD Try.prog Try.f29 (SndP s ns w0)) { tmps := #[e0, .pointer (some ⟨B, 0, none⟩), .pointer (some ⟨E, 0, none⟩), e3, e4, e5, e6, e7, e8, e9, e10, e11, e12, e13, e14, e15, e16, e17, e18, e19, e20, e21, e22, e23, e24, e25, e26, e27, e28, e29, e30, e31, e32, e33, e34, e35, e36, e37, e38, e39, e40, e41, e42, e43, e44, e45, e46, e47, e48, e49, e50, e51, e52, e53, e54, e55, e56, e57, e58, e59, e60, e61, e62, e63, e64, e65, e66, e67, e68, e69, e70, e71, e72, e73, e74, e75, e76, e77, e78, e79, e80, e81, e82, e83, e84, e85, e86, e87, e88, e89, e90, e91, e92, e93, e94, e95, e96, e97, e98, e99, e100, e101, e102, e103, e104, e105, e106, e107, e108, e109, e110, e111, e112, e113, e114, e115, e116, e117, e118, e119, e120, e121], defers := [dfrR E] } W := by
 rw [rkstep8]
 refine wp_seq_thenQ (fun K hK => ?_)
 have HK := Lib.hid hK
 clear hK
 refine ck_e8 s (pIdx s.strip) B E w W hs hb (by have := small_of hc; omega) [dfrR E] _ _ _ _ _ _ _ _ _ _ _ _ _ _ _ _ _ _ _ _ _ _ _ _ _ _ _ _ _ _ _ _ _ _ _ _ _ _ _ _ _ _ _ _ _ _ _ _ _ _ _ _ _ _ _ _ _ _ _ _ _ _ _ _ _ _ _ _ _ _ _ _ _ _ _ _ _ _ _ _ _ _ _ _ _ _ _ _ _ _ _ _ _ _ _ _ _ _ _ _ _ _ _ _ _ _ _ _ _ _ _ _ _ _ _ _ _ _ _ _ _ (fun hd x0 x3 x4 x5 x6 x7 x8 x9 x10 x11 x12 x13 x14 x15 x16 x17 x18 x19 x20 x21 x22 x23 x24 x25 x26 x27 x28 x29 x30 x31 x32 x33 x34 x35 x36 x37 x38 x39 x40 x41 x42 x43 x44 x45 x46 x47 x48 x49 x50 x51 x52 x53 x54 x55 x56 x57 x58 x59 x60 x61 x62 x63 x64 x65 x66 x67 x68 x69 x70 x71 x72 x73 x74 x75 x76 x77 x78 x79 x80 x81 x82 x83 x84 x85 x86 x87 x88 x89 x90 x91 x92 x93 x94 x95 x96 x97 x98 x99 x100 x101 x102 x103 x104 x105 x106 x107 x108 x109 x110 x111 x112 x113 x114 x115 x116 x117 x118 x119 x120 x121 V hV => ?_) (fun hd t V ht hV => ?_)
 ·refine HK.out _ _ ?_
  exact ck_p9 s ns B E w0 w V hc hs hdn hE hlow hb0 hV hx (of_decide_eq_true hd) hbars (by rw [hsnd, hd, Bool.true_and]) _ _ _ _ _ _ _ _ _ _ _ _ _ _ _ _ _ _ _ _ _ _ _ _ _ _ _ _ _ _ _ _ _ _ _ _ _ _ _ _ _ _ _ _ _ _ _ _ _ _ _ _ _ _ _ _ _ _ _ _ _ _ _ _ _ _ _ _ _ _ _ _ _ _ _ _ _ _ _ _ _ _ _ _ _ _ _ _ _ _ _ _ _ _ _ _ _ _ _ _ _ _ _ _ _ _ _ _ _ _ _ _ _ _ _ _ _ _ _ _
 ·exact ck_panic E s ns w0 w hlow hb0 hE (by rw [hsnd, hd, Bool.false_and, if_neg (by simp)]) t V ht hV
set_option maxRecDepth 100000 in
set_option maxHeartbeats 16000000 in
theorem ck_p7 (s : Ls) (ns : List Int) (B E : Nat) (w0 w W : World) (hc : chkE s.strip ns = 0) (hs : RgS s (pIdx s.strip) B w) (hdn : NumAt (pIdx s.strip) w (danRefs (blk s.da) (off s.da) s.dances)) (hE : w.heap[E]? = some (.cells #[.int .i64 0] 35 (0, 0))) (hlow : w0.heap.size ≤ E) (hb0 : Below w0.heap.size w0 w) (hb : Below w.heap.size w W) (hbars : 1 ≤ s.bars ∧ s.bars ≤ 4096) (hsnd : soundE s ns = if (s.phrases.all (fun p => p.its.strip.exB) && (decide (ringM (s.nexts (pIdx s.strip)) = []) && s.dances.all (danOk s (pIdx s.strip) (lenM s.itsL (pIdx s.strip))))) = true then 0 else 180) (e0 e3 e4 e5 e6 e7 e8 e9 e10 e11 e12 e13 e14 e15 e16 e17 e18 e19 e20 e21 e22 e23 e24 e25 e26 e27 e28 e29 e30 e31 e32 e33 e34 e35 e36 e37 e38 e39 e40 e41 e42 e43 e44 e45 e46 e47 e48 e49 e50 e51 e52 e53 e54 e55 e56 e57 e58 e59 e60 e61 e62 e63 e64 e65 e66 e67 e68 e69 e70 e71 e72 e73 e74 e75 e76 e77 e78 e79 e80 e81 e82 e83 e84 e85 e86 e87 e88 e89 e90 e91 e92 e93 e94 e95 e96 e97 e98 e99 e100 e101 e102 e103 e104 e105 e106 e107 e108 e109 e110 e111 e112 e113 e114 e115 e116 e117 e118 e119 e120 e121 : Value) :
  (lastPart 7 code29).wp Try.prog (bodyPostD Try.prog Try.f29 (SndP s ns w0)) { tmps := #[e0, .pointer (some ⟨B, 0, none⟩), .pointer (some ⟨E, 0, none⟩), e3, e4, e5, e6, e7, e8, e9, e10, e11, e12, e13, e14, e15, e16, e17, e18, e19, e20, e21, e22, e23, e24, e25, e26, e27, e28, e29, e30, e31, e32, e33, e34, e35, e36, e37, e38, e39, e40, e41, e42, e43, e44, e45, e46, e47, e48, e49, e50, e51, e52, e53, e54, e55, e56, e57, e58, e59, e60, e61, e62, e63, e64, e65, e66, e67, e68, e69, e70, e71, e72, e73, e74, e75, e76, e77, e78, e79, e80, e81, e82, e83, e84, e85, e86, e87, e88, e89, e90, e91, e92, e93, e94, e95, e96, e97, e98, e99, e100, e101, e102, e103, e104, e105, e106, e107, e108, e109, e110, e111, e112, e113, e114, e115, e116, e117, e118, e119, e120, e121], defers := [dfrR E] } W := by
 rw [rkstep7]
 refine wp_seq_thenQ (fun K hK => ?_)
 have HK := Lib.hid hK
 clear hK
 refine ck_e7 s (pIdx s.strip) B E w W hs hb (by have := small_of hc; omega) [dfrR E] _ _ _ _ _ _ _ _ _ _ _ _ _ _ _ _ _ _ _ _ _ _ _ _ _ _ _ _ _ _ _ _ _ _ _ _ _ _ _ _ _ _ _ _ _ _ _ _ _ _ _ _ _ _ _ _ _ _ _ _ _ _ _ _ _ _ _ _ _ _ _ _ _ _ _ _ _ _ _ _ _ _ _ _ _ _ _ _ _ _ _ _ _ _ _ _ _ _ _ _ _ _ _ _ _ _ _ _ _ _ _ _ _ _ _ _ _ _ _ _ _ (fun hd x0 x3 x4 x5 x6 x7 x8 x9 x10 x11 x12 x13 x14 x15 x16 x17 x18 x19 x20 x21 x22 x23 x24 x25 x26 x27 x28 x29 x30 x31 x32 x33 x34 x35 x36 x37 x38 x39 x40 x41 x42 x43 x44 x45 x46 x47 x48 x49 x50 x51 x52 x53 x54 x55 x56 x57 x58 x59 x60 x61 x62 x63 x64 x65 x66 x67 x68 x69 x70 x71 x72 x73 x74 x75 x76 x77 x78 x79 x80 x81 x82 x83 x84 x85 x86 x87 x88 x89 x90 x91 x92 x93 x94 x95 x96 x97 x98 x99 x100 x101 x102 x103 x104 x105 x106 x107 x108 x109 x110 x111 x112 x113 x114 x115 x116 x117 x118 x119 x120 x121 V hV => ?_) (fun hd t V ht hV => ?_)
 ·refine HK.out _ _ ?_
  exact ck_p8 s ns B E w0 w V hc hs hdn hE hlow hb0 hV hd hbars (by rw [hsnd, hd, Bool.true_and]) _ _ _ _ _ _ _ _ _ _ _ _ _ _ _ _ _ _ _ _ _ _ _ _ _ _ _ _ _ _ _ _ _ _ _ _ _ _ _ _ _ _ _ _ _ _ _ _ _ _ _ _ _ _ _ _ _ _ _ _ _ _ _ _ _ _ _ _ _ _ _ _ _ _ _ _ _ _ _ _ _ _ _ _ _ _ _ _ _ _ _ _ _ _ _ _ _ _ _ _ _ _ _ _ _ _ _ _ _ _ _ _ _ _ _ _ _ _ _ _
 ·exact ck_panic E s ns w0 w hlow hb0 hE (by rw [hsnd, hd, Bool.false_and, if_neg (by simp)]) t V ht hV
set_option maxRecDepth 100000 in
set_option maxHeartbeats 16000000 in
theorem ck_p6 (s : Ls) (ns : List Int) (B E : Nat) (w0 w W : World) (hc : chkE s.strip ns = 0) (hs : RgS s (pIdx s.strip) B w) (hdn : NumAt (pIdx s.strip) w (danRefs (blk s.da) (off s.da) s.dances)) (hE : w.heap[E]? = some (.cells #[.int .i64 0] 35 (0, 0))) (hlow : w0.heap.size ≤ E) (hb0 : Below w0.heap.size w0 w) (hb : Below w.heap.size w W) (hsnd : soundE s ns = if (decide (clkE ⟨s.bars, s.tempos, s.pauses, s.spans⟩ = 0) && (s.phrases.all (fun p => p.its.strip.exB) && (decide (ringM (s.nexts (pIdx s.strip)) = []) && s.dances.all (danOk s (pIdx s.strip) (lenM s.itsL (pIdx s.strip)))))) = true then 0 else 180) (e0 e3 e4 e5 e6 e7 e8 e9 e10 e11 e12 e13 e14 e15 e16 e17 e18 e19 e20 e21 e22 e23 e24 e25 e26 e27 e28 e29 e30 e31 e32 e33 e34 e35 e36 e37 e38 e39 e40 e41 e42 e43 e44 e45 e46 e47 e48 e49 e50 e51 e52 e53 e54 e55 e56 e57 e58 e59 e60 e61 e62 e63 e64 e65 e66 e67 e68 e69 e70 e71 e72 e73 e74 e75 e76 e77 e78 e79 e80 e81 e82 e83 e84 e85 e86 e87 e88 e89 e90 e91 e92 e93 e94 e95 e96 e97 e98 e99 e100 e101 e102 e103 e104 e105 e106 e107 e108 e109 e110 e111 e112 e113 e114 e115 e116 e117 e118 e119 e120 e121 : Value) :
  (lastPart 6 code29).wp Try.prog (bodyPostD Try.prog Try.f29 (SndP s ns w0)) { tmps := #[e0, .pointer (some ⟨B, 0, none⟩), .pointer (some ⟨E, 0, none⟩), e3, e4, e5, e6, e7, e8, e9, e10, e11, e12, e13, e14, e15, e16, e17, e18, e19, e20, e21, e22, e23, e24, e25, e26, e27, e28, e29, e30, e31, e32, e33, e34, e35, e36, e37, e38, e39, e40, e41, e42, e43, e44, e45, e46, e47, e48, e49, e50, e51, e52, e53, e54, e55, e56, e57, e58, e59, e60, e61, e62, e63, e64, e65, e66, e67, e68, e69, e70, e71, e72, e73, e74, e75, e76, e77, e78, e79, e80, e81, e82, e83, e84, e85, e86, e87, e88, e89, e90, e91, e92, e93, e94, e95, e96, e97, e98, e99, e100, e101, e102, e103, e104, e105, e106, e107, e108, e109, e110, e111, e112, e113, e114, e115, e116, e117, e118, e119, e120, e121], defers := [dfrR E] } W := by
 rw [rkstep6]
 refine wp_seq_thenQ (fun K hK => ?_)
 have HK := Lib.hid hK
 clear hK
 refine ck_e6 s (pIdx s.strip) B E w W hs hb [dfrR E] _ _ _ _ _ _ _ _ _ _ _ _ _ _ _ _ _ _ _ _ _ _ _ _ _ _ _ _ _ _ _ _ _ _ _ _ _ _ _ _ _ _ _ _ _ _ _ _ _ _ _ _ _ _ _ _ _ _ _ _ _ _ _ _ _ _ _ _ _ _ _ _ _ _ _ _ _ _ _ _ _ _ _ _ _ _ _ _ _ _ _ _ _ _ _ _ _ _ _ _ _ _ _ _ _ _ _ _ _ _ _ _ _ _ _ _ _ _ _ _ _ (fun hd x0 x3 x4 x5 x6 x7 x8 x9 x10 x11 x12 x13 x14 x15 x16 x17 x18 x19 x20 x21 x22 x23 x24 x25 x26 x27 x28 x29 x30 x31 x32 x33 x34 x35 x36 x37 x38 x39 x40 x41 x42 x43 x44 x45 x46 x47 x48 x49 x50 x51 x52 x53 x54 x55 x56 x57 x58 x59 x60 x61 x62 x63 x64 x65 x66 x67 x68 x69 x70 x71 x72 x73 x74 x75 x76 x77 x78 x79 x80 x81 x82 x83 x84 x85 x86 x87 x88 x89 x90 x91 x92 x93 x94 x95 x96 x97 x98 x99 x100 x101 x102 x103 x104 x105 x106 x107 x108 x109 x110 x111 x112 x113 x114 x115 x116 x117 x118 x119 x120 x121 V hV => ?_) (fun hd t V ht hV => ?_)
 ·refine HK.out _ _ ?_
  exact ck_p7 s ns B E w0 w V hc hs hdn hE hlow hb0 hV (clk_bars (of_decide_eq_true hd)) (by rw [hsnd, hd, Bool.true_and]) _ _ _ _ _ _ _ _ _ _ _ _ _ _ _ _ _ _ _ _ _ _ _ _ _ _ _ _ _ _ _ _ _ _ _ _ _ _ _ _ _ _ _ _ _ _ _ _ _ _ _ _ _ _ _ _ _ _ _ _ _ _ _ _ _ _ _ _ _ _ _ _ _ _ _ _ _ _ _ _ _ _ _ _ _ _ _ _ _ _ _ _ _ _ _ _ _ _ _ _ _ _ _ _ _ _ _ _ _ _ _ _ _ _ _ _ _ _ _ _
 ·exact ck_panic E s ns w0 w hlow hb0 hE (by rw [hsnd, hd, Bool.false_and, if_neg (by simp)]) t V ht hV
set_option maxRecDepth 100000 in
set_option maxHeartbeats 16000000 in
theorem ck_p5 (s : Ls) (ns : List Int) (B E : Nat) (w0 w W : World) (hc : chkE s.strip ns = 0) (hs : RgS s (pIdx s.strip) B w) (hdn : NumAt (pIdx s.strip) w (danRefs (blk s.da) (off s.da) s.dances)) (hE : w.heap[E]? = some (.cells #[.int .i64 0] 35 (0, 0))) (hlow : w0.heap.size ≤ E) (hb0 : Below w0.heap.size w0 w) (hb : Below w.heap.size w W) (hsnd : soundE s ns = if (s.roles.all (rolOk s) && (decide (clkE ⟨s.bars, s.tempos, s.pauses, s.spans⟩ = 0) && (s.phrases.all (fun p => p.its.strip.exB) && (decide (ringM (s.nexts (pIdx s.strip)) = []) && s.dances.all (danOk s (pIdx s.strip) (lenM s.itsL (pIdx s.strip))))))) = true then 0 else 180) (e0 e3 e4 e5 e6 e7 e8 e9 e10 e11 e12 e13 e14 e15 e16 e17 e18 e19 e20 e21 e22 e23 e24 e25 e26 e27 e28 e29 e30 e31 e32 e33 e34 e35 e36 e37 e38 e39 e40 e41 e42 e43 e44 e45 e46 e47 e48 e49 e50 e51 e52 e53 e54 e55 e56 e57 e58 e59 e60 e61 e62 e63 e64 e65 e66 e67 e68 e69 e70 e71 e72 e73 e74 e75 e76 e77 e78 e79 e80 e81 e82 e83 e84 e85 e86 e87 e88 e89 e90 e91 e92 e93 e94 e95 e96 e97 e98 e99 e100 e101 e102 e103 e104 e105 e106 e107 e108 e109 e110 e111 e112 e113 e114 e115 e116 e117 e118 e119 e120 e121 : Value) :
  (lastPart 5 code29).wp Try.prog (bodyPostD Try.prog Try.f29 (SndP s ns w0)) { tmps := #[e0, .pointer (some ⟨B, 0, none⟩), .pointer (some ⟨E, 0, none⟩), e3, e4, e5, e6, e7, e8, e9, e10, e11, e12, e13, e14, e15, e16, e17, e18, e19, e20, e21, e22, e23, e24, e25, e26, e27, e28, e29, e30, e31, e32, e33, e34, e35, e36, e37, e38, e39, e40, e41, e42, e43, e44, e45, e46, e47, e48, e49, e50, e51, e52, e53, e54, e55, e56, e57, e58, e59, e60, e61, e62, e63, e64, e65, e66, e67, e68, e69, e70, e71, e72, e73, e74, e75, e76, e77, e78, e79, e80, e81, e82, e83, e84, e85, e86, e87, e88, e89, e90, e91, e92, e93, e94, e95, e96, e97, e98, e99, e100, e101, e102, e103, e104, e105, e106, e107, e108, e109, e110, e111, e112, e113, e114, e115, e116, e117, e118, e119, e120, e121], defers := [dfrR E] } W := by
 rw [rkstep5]
 refine wp_seq_thenQ (fun K hK => ?_)
 have HK := Lib.hid hK
 clear hK
 refine ck_e5 s (pIdx s.strip) B E w W hs hb (by have := small_of hc; omega) [dfrR E] _ _ _ _ _ _ _ _ _ _ _ _ _ _ _ _ _ _ _ _ _ _ _ _ _ _ _ _ _ _ _ _ _ _ _ _ _ _ _ _ _ _ _ _ _ _ _ _ _ _ _ _ _ _ _ _ _ _ _ _ _ _ _ _ _ _ _ _ _ _ _ _ _ _ _ _ _ _ _ _ _ _ _ _ _ _ _ _ _ _ _ _ _ _ _ _ _ _ _ _ _ _ _ _ _ _ _ _ _ _ _ _ _ _ _ _ _ _ _ _ _ (fun hd x0 x3 x4 x5 x6 x7 x8 x9 x10 x11 x12 x13 x14 x15 x16 x17 x18 x19 x20 x21 x22 x23 x24 x25 x26 x27 x28 x29 x30 x31 x32 x33 x34 x35 x36 x37 x38 x39 x40 x41 x42 x43 x44 x45 x46 x47 x48 x49 x50 x51 x52 x53 x54 x55 x56 x57 x58 x59 x60 x61 x62 x63 x64 x65 x66 x67 x68 x69 x70 x71 x72 x73 x74 x75 x76 x77 x78 x79 x80 x81 x82 x83 x84 x85 x86 x87 x88 x89 x90 x91 x92 x93 x94 x95 x96 x97 x98 x99 x100 x101 x102 x103 x104 x105 x106 x107 x108 x109 x110 x111 x112 x113 x114 x115 x116 x117 x118 x119 x120 x121 V hV => ?_) (fun hd t V ht hV => ?_)
 ·refine HK.out _ _ ?_
  exact ck_p6 s ns B E w0 w V hc hs hdn hE hlow hb0 hV (by rw [hsnd, hd, Bool.true_and]) _ _ _ _ _ _ _ _ _ _ _ _ _ _ _ _ _ _ _ _ _ _ _ _ _ _ _ _ _ _ _ _ _ _ _ _ _ _ _ _ _ _ _ _ _ _ _ _ _ _ _ _ _ _ _ _ _ _ _ _ _ _ _ _ _ _ _ _ _ _ _ _ _ _ _ _ _ _ _ _ _ _ _ _ _ _ _ _ _ _ _ _ _ _ _ _ _ _ _ _ _ _ _ _ _ _ _ _ _ _ _ _ _ _ _ _ _ _ _ _
 ·exact ck_panic E s ns w0 w hlow hb0 hE (by rw [hsnd, hd, Bool.false_and, if_neg (by simp)]) t V ht hV
set_option maxRecDepth 100000 in
set_option maxHeartbeats 16000000 in
theorem ck_p4 (s : Ls) (ns : List Int) (B E : Nat) (w0 w W : World) (hc : chkE s.strip ns = 0) (hs : RgS s (pIdx s.strip) B w) (hdn : NumAt (pIdx s.strip) w (danRefs (blk s.da) (off s.da) s.dances)) (hE : w.heap[E]? = some (.cells #[.int .i64 0] 35 (0, 0))) (hlow : w0.heap.size ≤ E) (hb0 : Below w0.heap.size w0 w) (hb : Below w.heap.size w W) (hsnd : soundE s ns = if ((inB s.t0 1 127 && inB s.t1 0 s.t0) && (s.roles.all (rolOk s) && (decide (clkE ⟨s.bars, s.tempos, s.pauses, s.spans⟩ = 0) && (s.phrases.all (fun p => p.its.strip.exB) && (decide (ringM (s.nexts (pIdx s.strip)) = []) && s.dances.all (danOk s (pIdx s.strip) (lenM s.itsL (pIdx s.strip)))))))) = true then 0 else 180) (e0 e3 e4 e5 e6 e7 e8 e9 e10 e11 e12 e13 e14 e15 e16 e17 e18 e19 e20 e21 e22 e23 e24 e25 e26 e27 e28 e29 e30 e31 e32 e33 e34 e35 e36 e37 e38 e39 e40 e41 e42 e43 e44 e45 e46 e47 e48 e49 e50 e51 e52 e53 e54 e55 e56 e57 e58 e59 e60 e61 e62 e63 e64 e65 e66 e67 e68 e69 e70 e71 e72 e73 e74 e75 e76 e77 e78 e79 e80 e81 e82 e83 e84 e85 e86 e87 e88 e89 e90 e91 e92 e93 e94 e95 e96 e97 e98 e99 e100 e101 e102 e103 e104 e105 e106 e107 e108 e109 e110 e111 e112 e113 e114 e115 e116 e117 e118 e119 e120 e121 : Value) :
  (lastPart 4 code29).wp Try.prog (bodyPostD Try.prog Try.f29 (SndP s ns w0)) { tmps := #[e0, .pointer (some ⟨B, 0, none⟩), .pointer (some ⟨E, 0, none⟩), e3, e4, e5, e6, e7, e8, e9, e10, e11, e12, e13, e14, e15, e16, e17, e18, e19, e20, e21, e22, e23, e24, e25, e26, e27, e28, e29, e30, e31, e32, e33, e34, e35, e36, e37, e38, e39, e40, e41, e42, e43, e44, e45, e46, e47, e48, e49, e50, e51, e52, e53, e54, e55, e56, e57, e58, e59, e60, e61, e62, e63, e64, e65, e66, e67, e68, e69, e70, e71, e72, e73, e74, e75, e76, e77, e78, e79, e80, e81, e82, e83, e84, e85, e86, e87, e88, e89, e90, e91, e92, e93, e94, e95, e96, e97, e98, e99, e100, e101, e102, e103, e104, e105, e106, e107, e108, e109, e110, e111, e112, e113, e114, e115, e116, e117, e118, e119, e120, e121], defers := [dfrR E] } W := by
 rw [rkstep4]
 refine wp_seq_thenQ (fun K hK => ?_)
 have HK := Lib.hid hK
 clear hK
 refine ck_e4 s (pIdx s.strip) B E w W hs hb [dfrR E] _ _ _ _ _ _ _ _ _ _ _ _ _ _ _ _ _ _ _ _ _ _ _ _ _ _ _ _ _ _ _ _ _ _ _ _ _ _ _ _ _ _ _ _ _ _ _ _ _ _ _ _ _ _ _ _ _ _ _ _ _ _ _ _ _ _ _ _ _ _ _ _ _ _ _ _ _ _ _ _ _ _ _ _ _ _ _ _ _ _ _ _ _ _ _ _ _ _ _ _ _ _ _ _ _ _ _ _ _ _ _ _ _ _ _ _ _ _ _ _ _ (fun hd x0 x3 x4 x5 x6 x7 x8 x9 x10 x11 x12 x13 x14 x15 x16 x17 x18 x19 x20 x21 x22 x23 x24 x25 x26 x27 x28 x29 x30 x31 x32 x33 x34 x35 x36 x37 x38 x39 x40 x41 x42 x43 x44 x45 x46 x47 x48 x49 x50 x51 x52 x53 x54 x55 x56 x57 x58 x59 x60 x61 x62 x63 x64 x65 x66 x67 x68 x69 x70 x71 x72 x73 x74 x75 x76 x77 x78 x79 x80 x81 x82 x83 x84 x85 x86 x87 x88 x89 x90 x91 x92 x93 x94 x95 x96 x97 x98 x99 x100 x101 x102 x103 x104 x105 x106 x107 x108 x109 x110 x111 x112 x113 x114 x115 x116 x117 x118 x119 x120 x121 V hV => ?_) (fun hd t V ht hV => ?_)
 ·refine HK.out _ _ ?_
  exact ck_p5 s ns B E w0 w V hc hs hdn hE hlow hb0 hV (by rw [hsnd, hd, Bool.true_and]) _ _ _ _ _ _ _ _ _ _ _ _ _ _ _ _ _ _ _ _ _ _ _ _ _ _ _ _ _ _ _ _ _ _ _ _ _ _ _ _ _ _ _ _ _ _ _ _ _ _ _ _ _ _ _ _ _ _ _ _ _ _ _ _ _ _ _ _ _ _ _ _ _ _ _ _ _ _ _ _ _ _ _ _ _ _ _ _ _ _ _ _ _ _ _ _ _ _ _ _ _ _ _ _ _ _ _ _ _ _ _ _ _ _ _ _ _ _ _ _
 ·exact ck_panic E s ns w0 w hlow hb0 hE (by rw [hsnd, hd, Bool.false_and, if_neg (by simp)]) t V ht hV
set_option maxRecDepth 100000 in
set_option maxHeartbeats 16000000 in
theorem ck_p3 (s : Ls) (ns : List Int) (B E : Nat) (w0 w W : World) (hc : chkE s.strip ns = 0) (hs : RgS s (pIdx s.strip) B w) (hdn : NumAt (pIdx s.strip) w (danRefs (blk s.da) (off s.da) s.dances)) (hE : w.heap[E]? = some (.cells #[.int .i64 0] 35 (0, 0))) (hlow : w0.heap.size ≤ E) (hb0 : Below w0.heap.size w0 w) (hb : Below w.heap.size w W) (hsnd : soundE s ns = if ((inB s.wd 1 1000 && inB s.dp 1 1000) && ((inB s.t0 1 127 && inB s.t1 0 s.t0) && (s.roles.all (rolOk s) && (decide (clkE ⟨s.bars, s.tempos, s.pauses, s.spans⟩ = 0) && (s.phrases.all (fun p => p.its.strip.exB) && (decide (ringM (s.nexts (pIdx s.strip)) = []) && s.dances.all (danOk s (pIdx s.strip) (lenM s.itsL (pIdx s.strip))))))))) = true then 0 else 180) (e0 e3 e4 e5 e6 e7 e8 e9 e10 e11 e12 e13 e14 e15 e16 e17 e18 e19 e20 e21 e22 e23 e24 e25 e26 e27 e28 e29 e30 e31 e32 e33 e34 e35 e36 e37 e38 e39 e40 e41 e42 e43 e44 e45 e46 e47 e48 e49 e50 e51 e52 e53 e54 e55 e56 e57 e58 e59 e60 e61 e62 e63 e64 e65 e66 e67 e68 e69 e70 e71 e72 e73 e74 e75 e76 e77 e78 e79 e80 e81 e82 e83 e84 e85 e86 e87 e88 e89 e90 e91 e92 e93 e94 e95 e96 e97 e98 e99 e100 e101 e102 e103 e104 e105 e106 e107 e108 e109 e110 e111 e112 e113 e114 e115 e116 e117 e118 e119 e120 e121 : Value) :
  (lastPart 3 code29).wp Try.prog (bodyPostD Try.prog Try.f29 (SndP s ns w0)) { tmps := #[e0, .pointer (some ⟨B, 0, none⟩), .pointer (some ⟨E, 0, none⟩), e3, e4, e5, e6, e7, e8, e9, e10, e11, e12, e13, e14, e15, e16, e17, e18, e19, e20, e21, e22, e23, e24, e25, e26, e27, e28, e29, e30, e31, e32, e33, e34, e35, e36, e37, e38, e39, e40, e41, e42, e43, e44, e45, e46, e47, e48, e49, e50, e51, e52, e53, e54, e55, e56, e57, e58, e59, e60, e61, e62, e63, e64, e65, e66, e67, e68, e69, e70, e71, e72, e73, e74, e75, e76, e77, e78, e79, e80, e81, e82, e83, e84, e85, e86, e87, e88, e89, e90, e91, e92, e93, e94, e95, e96, e97, e98, e99, e100, e101, e102, e103, e104, e105, e106, e107, e108, e109, e110, e111, e112, e113, e114, e115, e116, e117, e118, e119, e120, e121], defers := [dfrR E] } W := by
 rw [rkstep3]
 refine wp_seq_thenQ (fun K hK => ?_)
 have HK := Lib.hid hK
 clear hK
 refine ck_e3 s (pIdx s.strip) B E w W hs hb [dfrR E] _ _ _ _ _ _ _ _ _ _ _ _ _ _ _ _ _ _ _ _ _ _ _ _ _ _ _ _ _ _ _ _ _ _ _ _ _ _ _ _ _ _ _ _ _ _ _ _ _ _ _ _ _ _ _ _ _ _ _ _ _ _ _ _ _ _ _ _ _ _ _ _ _ _ _ _ _ _ _ _ _ _ _ _ _ _ _ _ _ _ _ _ _ _ _ _ _ _ _ _ _ _ _ _ _ _ _ _ _ _ _ _ _ _ _ _ _ _ _ _ _ (fun hd x0 x3 x4 x5 x6 x7 x8 x9 x10 x11 x12 x13 x14 x15 x16 x17 x18 x19 x20 x21 x22 x23 x24 x25 x26 x27 x28 x29 x30 x31 x32 x33 x34 x35 x36 x37 x38 x39 x40 x41 x42 x43 x44 x45 x46 x47 x48 x49 x50 x51 x52 x53 x54 x55 x56 x57 x58 x59 x60 x61 x62 x63 x64 x65 x66 x67 x68 x69 x70 x71 x72 x73 x74 x75 x76 x77 x78 x79 x80 x81 x82 x83 x84 x85 x86 x87 x88 x89 x90 x91 x92 x93 x94 x95 x96 x97 x98 x99 x100 x101 x102 x103 x104 x105 x106 x107 x108 x109 x110 x111 x112 x113 x114 x115 x116 x117 x118 x119 x120 x121 V hV => ?_) (fun hd t V ht hV => ?_)
 ·refine HK.out _ _ ?_
  exact ck_p4 s ns B E w0 w V hc hs hdn hE hlow hb0 hV (by rw [hsnd, hd, Bool.true_and]) _ _ _ _ _ _ _ _ _ _ _ _ _ _ _ _ _ _ _ _ _ _ _ _ _ _ _ _ _ _ _ _ _ _ _ _ _ _ _ _ _ _ _ _ _ _ _ _ _ _ _ _ _ _ _ _ _ _ _ _ _ _ _ _ _ _ _ _ _ _ _ _ _ _ _ _ _ _ _ _ _ _ _ _ _ _ _ _ _ _ _ _ _ _ _ _ _ _ _ _ _ _ _ _ _ _ _ _ _ _ _ _ _ _ _ _ _ _ _ _
 ·exact ck_panic E s ns w0 w hlow hb0 hE (by rw [hsnd, hd, Bool.false_and, if_neg (by simp)]) t V ht hV
set_option maxRecDepth 100000 in
set_option maxHeartbeats 16000000 in
theorem sound_any (s : Ls) (ns : List Int) (w : World) (hA : s.At w) (hN : NsAt w s.refs ns) (he : Env w) : Calls Try.prog 29 #[s.val] w (SndP s ns w) := by
 have hmf : ∀ (fn : Fn) (first cap : Array Value) (w : World), (Instr.makeFunc fn first cap).run Try.prog w = .ok (.func fn first cap) w := fun _ _ _ _ => rfl
 obtain ⟨W0, hW0, gB, b0, s0⟩ := mk_cells w s.cells 30
 obtain ⟨W1, hW1, gE, b1, s1⟩ := mk_cells W0 #[.int .i64 0] 35
 have b01 := thenB b0 b1
 have C := chk_any s ns W1 (hA.below b01) (hN.below b01) (he.below b01)
 have gB1 := keepO b1 gB
 -- behind names.Check
 have hgo : ∀ V c, Below W1.heap.size W1 V → ∃ V2, V.setCell ⟨W0.heap.size, 0, none⟩ (.int .i64 c) = V2 ∧ V2.heap[W0.heap.size]? = some (.cells #[.int .i64 c] 35 (0, 0)) ∧ V2.heap[w.heap.size]? = some (.cells s.cells 30 (0, 0)) ∧ Below w.heap.size w V2 := fun V c hV =>
  ⟨_, rfl, one_setCell (keepO hV gE), by rw [setCell_far _ (by omega)]; exact keepO hV gB1, ((thenB b01 hV)).setCell (p := ⟨W0.heap.size, 0, none⟩) (by show w.heap.size ≤ W0.heap.size; omega) _⟩
 have hlow : w.heap.size ≤ W0.heap.size := by omega
 have hv : s.val = .agg s.cells := rfl
 rw [hv]
 have HX := Lib.hid gB1; have HC := Lib.hid C; have HGO := Lib.hid hgo; have HA := Lib.hid hA; have HN := Lib.hid hN; have HW1 := Lib.hid hW1; have HEO := Lib.hid gE; have HW0 := Lib.hid hW0
 have hs0 := Lib.hid hlow
 unfold Ls.cells at hW0 ⊢
 clear hA hN he gB gB1 gE b0 b1 b01 C hgo hv s0 s1 hW1 hlow
 go_enter_defers Try.func29, Try.ntmps29
 change Code.wp Try.prog code29 _ _ _
 rw [rkstep0]
 refine wp_seq_thenQ (fun K hK => ?_)
 have HK := Lib.hid hK
 clear hK
 conv => arg 2; whnf
 go_wp2_with fail
 rw [HW1.out]
 refine HK.out _ _ ?_
 clear HK K hW0
 rw [rkstep1]
 refine wp_seq_thenQ (fun K hK => ?_)
 have HK := Lib.hid hK
 clear hK
 conv => arg 2; whnf
 have st0 : True := trivial
 obtain ⟨c, hc⟩ : ∃ c, chkE s.strip ns = c := ⟨_, rfl⟩
 have HCE := Lib.hid hc
 unfold ChkP at HC
 rw [hc] at HC
 clear hc
 generalize hBB : w.heap.size = B at *
 generalize hEE : W0.heap.size = E at *
 by_cases hz : c = 0
 ·subst hz
  go_wp2_with (first | (have q := st0; clear q st0; (refine wpList_load_row rfl 30 _ rfl B rfl 30 s.cells (0, 0) _ HX.out Try.underlying30 rfl (by kernel_rfl) ?_; simp only [Act.put, List.setIfInBounds_toArray, List.set_cons_zero, List.set_cons_succ])) | (go_at_call 16; refine HC.out.mono ?_; rintro e V ⟨rfl, hv⟩; have HV := Lib.hid hv; have x0 := cell_of_one (keepO hv HEO.out); have f0 := free_of_one (keepO hv HEO.out); obtain ⟨V2, hV2, g1, g2, g3⟩ := HGO.out V 0 hv; have y1 := cell_of_one g1; have HG1 := Lib.hid g1; have HG2 := Lib.hid g2; have HG3 := Lib.hid g3; clear hv g1 g2 g3))
  refine HK.out _ _ ?_
  clear HK K
  subst hBB
  subst hEE
  have hA := HA.out.below HG3.out
  have hall := nums_of HCE.out (HN.out.below HG3.out)
  have hsnd : soundE s ns = if ((inB s.wd 1 1000 && inB s.dp 1 1000) && ((inB s.t0 1 127 && inB s.t1 0 s.t0) && (s.roles.all (rolOk s) && (decide (clkE ⟨s.bars, s.tempos, s.pauses, s.spans⟩ = 0) && (s.phrases.all (fun p => p.its.strip.exB) && (decide (ringM (s.nexts (pIdx s.strip)) = []) && s.dances.all (danOk s (pIdx s.strip) (lenM s.itsL (pIdx s.strip))))))))) = true then 0 else 180 := by unfold soundE; rw [if_pos HCE.out]; rfl
  have HAL := Lib.hid (And.intro hA hall); have HSN := Lib.hid hsnd
  clear hA hall hsnd x0 f0 hV2 y1
  rw [rkstep2]
  refine wp_seq_thenQ (fun K hK => ?_)
  have HK := Lib.hid hK
  clear hK
  conv => arg 2; whnf
  go_wp2_with fail
  refine HK.out _ _ ?_
  exact ck_p3 s ns w.heap.size W0.heap.size w V2 V2 HCE.out ⟨HAL.out.1, HG2.out, fun x hx => HAL.out.2 x (by unfold Ls.refs; exact List.mem_append.2 (Or.inl hx))⟩ (fun x hx => HAL.out.2 x (by unfold Ls.refs; exact List.mem_append.2 (Or.inr hx))) HG1.out hs0.out HG3.out (Below.refl _ _) HSN.out _ _ _ _ _ _ _ _ _ _ _ _ _ _ _ _ _ _ _ _ _ _ _ _ _ _ _ _ _ _ _ _ _ _ _ _ _ _ _ _ _ _ _ _ _ _ _ _ _ _ _ _ _ _ _ _ _ _ _ _ _ _ _ _ _ _ _ _ _ _ _ _ _ _ _ _ _ _ _ _ _ _ _ _ _ _ _ _ _ _ _ _ _ _ _ _ _ _ _ _ _ _ _ _ _ _ _ _ _ _ _ _ _ _ _ _ _ _ _ _
 ·have hsnd : soundE s ns = c := by unfold soundE; rw [HCE.out, if_neg hz]
  have HSN := Lib.hid hsnd
  clear hsnd
  go_wp2_with (first | (have q := st0; clear q st0; (refine wpList_load_row rfl 30 _ rfl B rfl 30 s.cells (0, 0) _ HX.out Try.underlying30 rfl (by kernel_rfl) ?_; simp only [Act.put, List.setIfInBounds_toArray, List.set_cons_zero, List.set_cons_succ])) | (go_at_call 16; refine HC.out.mono ?_; rintro e V ⟨rfl, hv⟩; have HV := Lib.hid hv; have x0 := cell_of_one (keepO hv HEO.out); have f0 := free_of_one (keepO hv HEO.out); obtain ⟨V2, hV2, g1, g2, g3⟩ := HGO.out V c hv; have y1 := cell_of_one g1; have f1 := free_of_one g1; have HG1 := Lib.hid g1; have HG2 := Lib.hid g2; have HG3 := Lib.hid g3; clear hv g1 g2 g3))
  have y2 := cell_of_one (one_setCell (u := .int .i64 c) HG1.out)
  simp [bodyPostD, Leaves, results, Try.results29, go_sem, y2]
  subst hBB
  exact ⟨by rw [HSN.out], HG3.out.setCell (p := ⟨E, 0, none⟩) hs0.out _⟩
end Go.Proofs.Ytpnbpepkoekkoaa
end
section
namespace Go.Proofs.Ytpnbpepkoekkoaa
open Go Go.RowKit
theorem neq_nil (V : World) : (binOp .neq 63 (.slice none 0 0) (.slice none 0 0)).run Try.prog V = .ok (.bool false) V := by kernel_rfl
theorem neq_some (g n c : Nat) (V : World) : (binOp .neq 63 (.slice (some ⟨g, 0, none⟩) n c) (.slice none 0 0)).run Try.prog V = .ok (.bool true) V := by kernel_rfl
theorem nums_ph {s : Ls} {ns : List Int} {W : World} (h : chkE s.strip ns = 0) (hN : NsAt W s.refs ns) : NumAt (pIdx s.strip) W (phRefs s.phrases) := fun x hx => nums_of h hN x (by unfold Ls.refs; exact List.mem_append.2 (Or.inl hx))
def loopM (s : Ls) (ns : List Int) : List Int := if chkE s.strip ns = 0 then ringM (s.nexts (pIdx s.strip)) else []
def LopP (s : Ls) (ns : List Int) (w : World) (e : Ending) (w' : World) : Prop := ∃ v, e = .returned (.tuple #[v, .bool (decide (loopM s ns ≠ [])), .int .i64 (chkE s.strip ns)]) ∧ IntRow w' v (loopM s ns) ∧ Below w.heap.size w w'
set_option maxRecDepth 100000 in
set_option maxHeartbeats 16000000 in
theorem loop_any (s : Ls) (ns : List Int) (w : World) (hA : s.At w) (hN : NsAt w s.refs ns) (he : Env w) : Calls Try.prog 27 #[s.val] w (LopP s ns w) := by
 obtain ⟨W0, hW0, gB, b0, s0⟩ := mk_cells w s.cells 30
 have C := chk_any s ns W0 (hA.below b0) (hN.below b0) (he.below b0)
 have hq1 := neq_nil
 have hq2 := neq_some
 have hv : s.val = .agg s.cells := rfl
 rw [hv]
 have HX := Lib.hid gB; have HC := Lib.hid C; have HA := Lib.hid hA; have HN := Lib.hid hN; have HB := Lib.hid b0
 unfold Ls.cells at hW0 ⊢
 clear hA hN he gB b0 C hv s0
 obtain ⟨c, hc⟩ : ∃ c, chkE s.strip ns = c := ⟨_, rfl⟩
 have HCE := Lib.hid hc
 unfold ChkP at HC
 rw [hc] at HC
 clear hc
 have st0 : True := trivial
 by_cases hz : c = 0
 ·subst hz
  have hl : loopM s ns = ringM (s.nexts (pIdx s.strip)) := by unfold loopM; rw [if_pos HCE.out]
  have HR := Lib.hid (fun V (hV : Below w.heap.size w V) => ring_any s (pIdx s.strip) V (HA.out.below hV) (nums_ph HCE.out (HN.out.below hV)) (by have := small_of HCE.out; omega))
  have HLM := Lib.hid hl
  clear hl
  by_cases hr : loopM s ns = []
  ·have HRR := Lib.hid hr
   clear hr
   go_enter Try.func27, Try.ntmps27
   go_wp2_with (first | (have q := st0; clear q st0; refine wpList_load_row rfl 30 _ rfl w.heap.size rfl 30 s.cells (0, 0) _ HX.out Try.underlying30 rfl (by kernel_rfl) ?_; simp only [Act.put, List.setIfInBounds_toArray, List.set_cons_zero, List.set_cons_succ]) | (go_at_call 16; refine HC.out.mono ?_; rintro e V ⟨rfl, hv⟩; have HV := Lib.hid (thenB HB.out hv); have HXV := Lib.hid (keepO hv HX.out); have st1 : True := trivial; clear hv) | (have q := st1; clear q st1; refine wpList_load_row rfl 30 _ rfl w.heap.size rfl 30 s.cells (0, 0) _ HXV.out Try.underlying30 rfl (by kernel_rfl) ?_; simp only [Act.put, List.setIfInBounds_toArray, List.set_cons_zero, List.set_cons_succ]) | (go_at_call 61; refine (HR.out _ HV.out).mono ?_; rintro e V2 ⟨v, rfl, hv2, hrow⟩; rw [← HLM.out, HRR.out] at hrow; rcases hrow with ⟨_, rfl⟩ | ⟨g, cap, rfl, hne, _⟩; rotate_left; exact absurd rfl hne; have HV2 := Lib.hid hv2; clear hv2))
   refine bodyPost_ret (v := .tuple #[.slice none 0 0, .bool false, .int .i64 0]) ?_ rfl ?_
   ·simp [results, Try.results27, go_sem]
   ·exact ⟨_, by rw [HRR.out, HCE.out]; rfl, by rw [HRR.out]; exact Or.inl ⟨rfl, rfl⟩, thenB HV.out HV2.out⟩
  ·have HRR := Lib.hid hr
   clear hr
   go_enter Try.func27, Try.ntmps27
   go_wp2_with (first | (have q := st0; clear q st0; refine wpList_load_row rfl 30 _ rfl w.heap.size rfl 30 s.cells (0, 0) _ HX.out Try.underlying30 rfl (by kernel_rfl) ?_; simp only [Act.put, List.setIfInBounds_toArray, List.set_cons_zero, List.set_cons_succ]) | (go_at_call 16; refine HC.out.mono ?_; rintro e V ⟨rfl, hv⟩; have HV := Lib.hid (thenB HB.out hv); have HXV := Lib.hid (keepO hv HX.out); have st1 : True := trivial; clear hv) | (have q := st1; clear q st1; refine wpList_load_row rfl 30 _ rfl w.heap.size rfl 30 s.cells (0, 0) _ HXV.out Try.underlying30 rfl (by kernel_rfl) ?_; simp only [Act.put, List.setIfInBounds_toArray, List.set_cons_zero, List.set_cons_succ]) | (go_at_call 61; refine (HR.out _ HV.out).mono ?_; rintro e V2 ⟨v, rfl, hv2, hrow⟩; rw [← HLM.out] at hrow; have HROW := Lib.hid hrow; rcases hrow with ⟨he, _⟩ | ⟨g, cap, rfl, hne, _⟩; exact absurd he HRR.out; have HV2 := Lib.hid hv2; clear hv2))
   refine bodyPost_ret (v := .tuple #[.slice (some ⟨g, 0, none⟩) (loopM s ns).length cap, .bool true, .int .i64 0]) ?_ rfl ?_
   ·simp [results, Try.results27, go_sem]
   ·exact ⟨_, by rw [HCE.out, decide_eq_true HRR.out], HROW.out, thenB HV.out HV2.out⟩
 ·have hl : loopM s ns = [] := by unfold loopM; rw [HCE.out, if_neg hz]
  have HLM := Lib.hid hl
  clear hl
  go_enter Try.func27, Try.ntmps27
  go_wp2_with (first | (have q := st0; clear q st0; refine wpList_load_row rfl 30 _ rfl w.heap.size rfl 30 s.cells (0, 0) _ HX.out Try.underlying30 rfl (by kernel_rfl) ?_; simp only [Act.put, List.setIfInBounds_toArray, List.set_cons_zero, List.set_cons_succ]) | (go_at_call 16; refine HC.out.mono ?_; rintro e V ⟨rfl, hv⟩; have HV := Lib.hid (thenB HB.out hv); clear hv))
  refine bodyPost_ret (v := .tuple #[.slice none 0 0, .bool false, .int .i64 c]) ?_ rfl ?_
  ·simp [results, Try.results27, go_sem]
  ·exact ⟨_, by rw [HLM.out, HCE.out]; rfl, by rw [HLM.out]; exact Or.inl ⟨rfl, rfl⟩, HV.out⟩
def lngE (s : Ls) (ns : List Int) (k : Int) : Int × Int := if soundE s ns = 0 then (if inB k 0 ((s.phrases.length : Int) - 1) = true then (if lenM s.itsL (pIdx s.strip) k ≤ 4096 then (lenM s.itsL (pIdx s.strip) k, 0) else (0, 2)) else (0, 1)) else (0, soundE s ns)
def LgtP (s : Ls) (ns : List Int) (k : Int) (w : World) (e : Ending) (w' : World) : Prop := e = .returned (.tuple #[.int .i64 (lngE s ns k).1, .int .i64 (lngE s ns k).2]) ∧ Below w.heap.size w w'
theorem sound_zero {s : Ls} {ns : List Int} (h : soundE s ns = 0) : chkE s.strip ns = 0 ∧ soundL s (pIdx s.strip) = true := by
 unfold soundE at h
 split at h
 ·rename_i h1
  split at h
  ·rename_i h2; exact ⟨h1, h2⟩
  ·omega
 ·contradiction
theorem sound_len {s : Ls} {ns : List Int} (h : soundE s ns = 0) : LenOk s.phrases (pIdx s.strip) (rankM (s.nexts (pIdx s.strip))) (lenM s.itsL (pIdx s.strip)) := by
 obtain ⟨h1, h2⟩ := sound_zero h
 unfold soundL at h2
 simp only [Bool.and_eq_true] at h2
 exact len_ok h2.2.2.2.2.1 (of_decide_eq_true h2.2.2.2.2.2.1) (uses_in h1)
set_option maxRecDepth 100000 in
set_option maxHeartbeats 16000000 in
theorem length_any (s : Ls) (ns : List Int) (k : Int) (w : World) (hA : s.At w) (hN : NsAt w s.refs ns) (he : Env w) : Calls Try.prog 30 #[s.val, .int .i64 k] w (LgtP s ns k w) := by
 obtain ⟨W0, hW0, gB, b0, s0⟩ := mk_cells w s.cells 30
 have C := sound_any s ns W0 (hA.below b0) (hN.below b0) (he.below b0)
 have hv : s.val = .agg s.cells := rfl
 rw [hv]
 have HX := Lib.hid gB; have HC := Lib.hid C; have HA := Lib.hid hA; have HN := Lib.hid hN; have HB := Lib.hid b0
 unfold Ls.cells at hW0 ⊢
 clear hA hN he gB b0 C hv s0
 obtain ⟨c, hc⟩ : ∃ c, soundE s ns = c := ⟨_, rfl⟩
 have HCE := Lib.hid hc
 unfold SndP at HC
 rw [hc] at HC
 clear hc
 have st0 : True := trivial
 by_cases hz : c = 0
 ·subst hz
  have hsm := small_of (sound_zero HCE.out).1
  have hsm2 := hsm.2.1
  have HOK := Lib.hid (sound_len HCE.out)
  have HLG := Lib.hid (fun V (hV : Below w.heap.size w V) => lengths_any s (pIdx s.strip) (lenM s.itsL (pIdx s.strip)) V (HA.out.below hV) (nums_ph (sound_zero HCE.out).1 (HN.out.below hV)))
  cases hq : inB k 0 ((s.phrases.length : Int) - 1) with
  | false =>
   have hl : lngE s ns k = (0, 1) := by unfold lngE; rw [if_pos HCE.out, hq]; rfl
   have HL := Lib.hid hl
   clear hl hsm
   go_enter Try.func30, Try.ntmps30
   go_wp2_with (first | (have q := st0; clear q st0; refine wpList_load_row rfl 30 _ rfl w.heap.size rfl 30 s.cells (0, 0) _ HX.out Try.underlying30 rfl (by kernel_rfl) ?_; simp only [Act.put, List.setIfInBounds_toArray, List.set_cons_zero, List.set_cons_succ]) | (go_at_call 29; refine HC.out.mono ?_; rintro e V ⟨rfl, hv⟩; have HV := Lib.hid (thenB HB.out hv); have HXV := Lib.hid (keepO hv HX.out); have y9 : V.cell? ⟨w.heap.size, 10, none⟩ = some (.slice s.fa s.phrases.length s.fc) := (cell_at (keepO hv HX.out) 10 rfl); have st1 : True := trivial; clear hv) | (go_at_call 64; refine (rin_h (by assumption) _).mono ?_; rintro e w2 ⟨rfl, rfl⟩))
   go_ret2
   exact ⟨by rw [HL.out]; rfl, HV.out⟩
  | true =>
   obtain ⟨hk0, hk1⟩ := inB_iff.1 hq
   obtain ⟨j, rfl⟩ : ∃ j : Nat, k = j := ⟨k.toNat, by omega⟩
   have hj : j < s.phrases.length := by omega
   obtain ⟨lb0, lb1⟩ := HOK.out.bound j hj
   have HPH := Lib.hid (fun B7 KB M SB PB V (hV : LenW V s (pIdx s.strip) B7 KB M SB PB (lenM s.itsL (pIdx s.strip))) => phr_all s (pIdx s.strip) B7 KB M SB PB _ _ HOK.out (by omega) _ j (Nat.le_refl _) hj V hV)
   obtain ⟨lj, hlj⟩ : ∃ lj, lenM s.itsL (pIdx s.strip) j = lj := ⟨_, rfl⟩
   have HLJ := Lib.hid hlj
   rw [hlj] at lb0 lb1 HPH
   clear hlj hsm
   by_cases h4 : lj ≤ 4096
   ·have hl : lngE s ns j = (lj, 0) := by unfold lngE; rw [if_pos HCE.out, hq, if_pos rfl, HLJ.out, if_pos h4]
    have HL := Lib.hid hl
    clear hl
    go_enter Try.func30, Try.ntmps30
    go_wp2_with (first | (have q := st0; clear q st0; refine wpList_load_row rfl 30 _ rfl w.heap.size rfl 30 s.cells (0, 0) _ HX.out Try.underlying30 rfl (by kernel_rfl) ?_; simp only [Act.put, List.setIfInBounds_toArray, List.set_cons_zero, List.set_cons_succ]) | (go_at_call 29; refine HC.out.mono ?_; rintro e V ⟨rfl, hv⟩; have HV := Lib.hid (thenB HB.out hv); have HXV := Lib.hid (keepO hv HX.out); have y9 : V.cell? ⟨w.heap.size, 10, none⟩ = some (.slice s.fa s.phrases.length s.fc) := (cell_at (keepO hv HX.out) 10 rfl); have st1 : True := trivial; clear hv) | (go_at_call 64; refine (rin_h (by assumption) _).mono ?_; rintro e w2 ⟨rfl, rfl⟩) | (have q := st1; clear q st1; refine wpList_load_row rfl 30 _ rfl w.heap.size rfl 30 s.cells (0, 0) _ HXV.out Try.underlying30 rfl (by kernel_rfl) ?_; simp only [Act.put, List.setIfInBounds_toArray, List.set_cons_zero, List.set_cons_succ]) | (go_at_call 67; refine (HLG.out _ HV.out).mono ?_; rintro e V2 ⟨B7, KB, M, SB, PB, rfl, a1, a2, a3⟩; have HA1 := Lib.hid a1; have HA2 := Lib.hid (Nat.le_trans HV.out.size a2); have HA3 := Lib.hid (thenB HV.out a3); clear a1 a2 a3) | (go_at_call 90; refine (HPH.out B7 KB M SB PB _ HA1.out).mono ?_; rintro e V3 ⟨rfl, _, b3⟩; have HV3 := Lib.hid (HA3.out.grown b3 HA3.out.size (fun q hq => by cases hq; exact HA2.out)); clear b3))
    go_ret2
    exact ⟨by rw [HL.out]; rfl, HV3.out⟩
   ·have hl : lngE s ns j = (0, 2) := by unfold lngE; rw [if_pos HCE.out, hq, if_pos rfl, HLJ.out, if_neg h4]
    have HL := Lib.hid hl
    clear hl
    go_enter Try.func30, Try.ntmps30
    go_wp2_with (first | (have q := st0; clear q st0; refine wpList_load_row rfl 30 _ rfl w.heap.size rfl 30 s.cells (0, 0) _ HX.out Try.underlying30 rfl (by kernel_rfl) ?_; simp only [Act.put, List.setIfInBounds_toArray, List.set_cons_zero, List.set_cons_succ]) | (go_at_call 29; refine HC.out.mono ?_; rintro e V ⟨rfl, hv⟩; have HV := Lib.hid (thenB HB.out hv); have HXV := Lib.hid (keepO hv HX.out); have y9 : V.cell? ⟨w.heap.size, 10, none⟩ = some (.slice s.fa s.phrases.length s.fc) := (cell_at (keepO hv HX.out) 10 rfl); have st1 : True := trivial; clear hv) | (go_at_call 64; refine (rin_h (by assumption) _).mono ?_; rintro e w2 ⟨rfl, rfl⟩) | (have q := st1; clear q st1; refine wpList_load_row rfl 30 _ rfl w.heap.size rfl 30 s.cells (0, 0) _ HXV.out Try.underlying30 rfl (by kernel_rfl) ?_; simp only [Act.put, List.setIfInBounds_toArray, List.set_cons_zero, List.set_cons_succ]) | (go_at_call 67; refine (HLG.out _ HV.out).mono ?_; rintro e V2 ⟨B7, KB, M, SB, PB, rfl, a1, a2, a3⟩; have HA1 := Lib.hid a1; have HA2 := Lib.hid (Nat.le_trans HV.out.size a2); have HA3 := Lib.hid (thenB HV.out a3); clear a1 a2 a3) | (go_at_call 90; refine (HPH.out B7 KB M SB PB _ HA1.out).mono ?_; rintro e V3 ⟨rfl, _, b3⟩; have HV3 := Lib.hid (HA3.out.grown b3 HA3.out.size (fun q hq => by cases hq; exact HA2.out)); clear b3))
    go_ret2
    exact ⟨by rw [HL.out]; rfl, HV3.out⟩
 ·have hl : lngE s ns k = (0, c) := by unfold lngE; rw [HCE.out, if_neg hz]
  have HL := Lib.hid hl
  clear hl
  go_enter Try.func30, Try.ntmps30
  go_wp2_with (first | (have q := st0; clear q st0; refine wpList_load_row rfl 30 _ rfl w.heap.size rfl 30 s.cells (0, 0) _ HX.out Try.underlying30 rfl (by kernel_rfl) ?_; simp only [Act.put, List.setIfInBounds_toArray, List.set_cons_zero, List.set_cons_succ]) | (go_at_call 29; refine HC.out.mono ?_; rintro e V ⟨rfl, hv⟩; have HV := Lib.hid (thenB HB.out hv); clear hv))
  go_ret2
  exact ⟨by rw [HL.out]; rfl, HV.out⟩
end Go.Proofs.Ytpnbpepkoekkoaa
end
section
namespace Go.Proofs.Ytpnbpepkoekkoaa
open Go Go.RowKit
def KntP (w : World) (e : Ending) (w' : World) : Prop := ∃ k : Int, 0 ≤ k ∧ k ≤ 1000000000000100 ∧ e = .returned (.int .i64 k) ∧ Below w.heap.size w w'
set_option maxRecDepth 100000 in
set_option maxHeartbeats 4000000 in
theorem knt_step (T : Lt) (hI : ∀ T' : Lt, T'.size < T.size → ∀ (ia : Option Addr) (ic : Nat) (n d : Int) (W : World), T'.mfit → 0 ≤ n → n ≤ 1000000000000100 → 0 ≤ d → d ≤ 21 → (T'.len = 0 ∨ ia = some ⟨blk ia, off ia, none⟩) → T'.len ≤ maxLen → T'.At W (blk ia) (off ia) → Calls Try.prog 83 #[.slice ia T'.len ic, .int .i64 n, .int .i64 d] W (KntP W))
  (ia : Option Addr) (ic : Nat) (n d : Int) (W : World) (hmf : T.mfit) (hn0 : 0 ≤ n) (hn1 : n ≤ 1000000000000100) (hd0 : 0 ≤ d) (hd1 : d ≤ 21) (hf : T.len = 0 ∨ ia = some ⟨blk ia, off ia, none⟩) (hl : T.len ≤ maxLen) (hT : T.At W (blk ia) (off ia)) : Calls Try.prog 83 #[.slice ia T.len ic, .int .i64 n, .int .i64 d] W (KntP W) := by
 have HI := Lib.hid hI; have HT := Lib.hid hT; have HF := Lib.hid hf; have HMF := Lib.hid hmf
 clear hI hT hf hmf
 generalize hn : T.len = m at *
 have HN := Lib.hid hn
 clear hn
 unfold maxLen at hl
 go_enter Try.func83, Try.ntmps83
 go_wp2_with fail
 go_loopw [1, 7] (fun nv iv wr => ∃ (i : Nat) (k : Int) (R : Lt), iv = .int .i64 i ∧ nv = .int .i64 k ∧ i + R.len = m ∧ 0 ≤ k ∧ k ≤ 1000000000000100 ∧ Hid (R.size ≤ T.size) ∧ Hid R.mfit ∧ Hid (R.At wr (blk ia) (off ia + i * 6)) ∧ Hid (Below W.heap.size W wr)) (fun _ iv _ => m + 1 - (intOf iv).toNat)
 case atStart => exact ⟨0, n, T, rfl, rfl, by rw [HN.out]; omega, hn0, hn1, Lib.hid (Nat.le_refl _), HMF, by simpa [Hid] using HT.out, Lib.hid (Below.refl _ _)⟩
 case round =>
  obtain ⟨i, k, R, rfl, rfl, hin, hk0, hk1, hsz, hMF, hR, hB⟩ := hrel
  cases R with
  | nil =>
   simp only [Lt.len, Nat.add_zero] at hin
   subst hin
   go_wp2_with fail
   all_goals (go_ret; exact ⟨k, hk0, hk1, rfl, hB.out⟩)
  | cons kk n' un ja ic' its ma mc ms r =>
   simp only [Lt.len] at hin
   have hi : (i : Int) < (m : Int) := by omega
   have e := HF.out.resolve_left (by omega)
   obtain ⟨⟨_, _, _, g4, g5⟩, _, ⟨i1, i2, i3⟩, hr⟩ := hR.out
   obtain ⟨hml, hmi, hmr⟩ := hMF.out
   have hlt : its.size < T.size := by have := hsz.out; simp only [Lt.size] at this; omega
   have hszr : r.size ≤ T.size := by have := hsz.out; simp only [Lt.size] at this; omega
   by_cases hd : 20 < d
   ·generalize hbb : blk ia = bb at *
    generalize hoo : off ia = oo at *
    subst e
    clear hbb hoo HF i3 hr
    by_cases hk : k ≤ 60
    ·have hw1 : IntKind.i64.wrap (k + 1) = k + 1 := IntWalk.i64_in _ (by omega)
     have hw2 : IntKind.i64.wrap (k + 1 + (ms.length : Int)) = k + 1 + (ms.length : Int) := IntWalk.i64_in _ (by omega)
     go_wp2_with fail
     go_ret
     exact ⟨100, by omega, by omega, rfl, hB.out⟩
    ·go_wp2_with fail
     go_ret
     exact ⟨k, hk0, hk1, rfl, hB.out⟩
   ·have C := HI.out its hlt ja ic' (k + 1 + (ms.length : Int)) (d + 1) wr hmi
    have HC := Lib.hid C; have HR := Lib.hid hr; have HMR := Lib.hid hmr; have HSZ := Lib.hid hszr
    have HI3 := Lib.hid (And.intro i1 (And.intro i2 i3))
    clear C i1 i2 i3 hr hlt hmi hmr hMF hszr
    generalize hbb : blk ia = bb at *
    generalize hoo : off ia = oo at *
    subst e
    clear hbb hoo HF
    by_cases hk : k ≤ 60
    ·have hw1 : IntKind.i64.wrap (k + 1) = k + 1 := IntWalk.i64_in _ (by omega)
     have hw2 : IntKind.i64.wrap (k + 1 + (ms.length : Int)) = k + 1 + (ms.length : Int) := IntWalk.i64_in _ (by omega)
     go_wp2_with (go_at_call 83; refine (HC.out (by omega) (by omega) (by omega) (by omega) HI3.out.1 HI3.out.2.1 HI3.out.2.2).mono ?_; rintro e w5 ⟨k5, hk5, hk6, rfl, hb5⟩)
     go_roundw
     case rel => exact ⟨i + 1, k5, r, by go_num, rfl, by omega, hk5, hk6, HSZ, HMR, Lib.hid (by rw [show oo + (i + 1) * 6 = oo + i * 6 + 6 by omega]; exact HR.out.below hb5), Lib.hid (thenB hB.out hb5)⟩
     case measure => simp [intOf]; omega
    ·go_wp2_with fail
     go_ret
     exact ⟨k, hk0, hk1, rfl, hB.out⟩
theorem knt_any : ∀ (s : Nat) (T : Lt), T.size ≤ s → ∀ (ia : Option Addr) (ic : Nat) (n d : Int) (W : World), T.mfit → 0 ≤ n → n ≤ 1000000000000100 → 0 ≤ d → d ≤ 21 → (T.len = 0 ∨ ia = some ⟨blk ia, off ia, none⟩) → T.len ≤ maxLen → T.At W (blk ia) (off ia) → Calls Try.prog 83 #[.slice ia T.len ic, .int .i64 n, .int .i64 d] W (KntP W) := by
 intro s
 induction s with
 | zero => intro T hs; exact knt_step T (fun T' hlt => absurd hlt (by omega))
 | succ s ih => intro T hs; exact knt_step T (fun T' hlt => ih T' (by omega))
def BoolP (w : World) (e : Ending) (w' : World) : Prop := ∃ b : Bool, e = .returned (.bool b) ∧ Below w.heap.size w w'
set_option maxRecDepth 100000 in
set_option maxHeartbeats 4000000 in
theorem short_any (s : Ls) (W : World) (hA : s.At W) (hm : s.mfit) (hl : s.phrases.length ≤ 100000) : Calls Try.prog 60 #[.slice s.fa s.phrases.length s.fc] W (BoolP W) := by
 have HA := Lib.hid hA; have HM := Lib.hid hm
 clear hA hm
 generalize hn : s.phrases.length = n at *
 have HN := Lib.hid hn
 clear hn
 generalize hga : s.fa = fa at *
 have HGA := Lib.hid hga
 clear hga
 go_enter Try.func60, Try.ntmps60
 go_wp2_with fail
 go_loopw [3] (fun iv wr => ∃ i : Nat, iv = .int .i64 i ∧ i ≤ n ∧ Hid (Below W.heap.size W wr)) (fun iv _ => n + 1 - (intOf iv).toNat)
 case atStart => exact ⟨0, rfl, Nat.zero_le _, Lib.hid (Below.refl _ _)⟩
 case round =>
  obtain ⟨i, rfl, hin, hB⟩ := hrel
  by_cases hlt : i < n
  ·have hi : (i : Int) < (n : Int) := by omega
   obtain ⟨p, hp⟩ : ∃ p, s.phrases[i]? = some p := ⟨_, List.getElem?_eq_getElem (by rw [HN.out]; exact hlt)⟩
   have hAr := HA.out.below hB.out
   obtain ⟨c0, c1⟩ := phAt_get hAr.phrases hp
   obtain ⟨i1, i2, i3⟩ := phAt_its hAr.phrases hp
   have hfa := hAr.pform.resolve_left (fun e => by rw [e] at hp; cases hp)
   have C := knt_any _ p.its (Nat.le_refl _) p.ia p.ic 0 0 wr (HM.out p (List.mem_of_getElem? hp)) (by omega) (by omega) (by omega) (by omega) i1 i2 i3
   unfold Ph.val at c1
   rw [HGA.out] at c0 c1 hfa
   have HC := Lib.hid C
   clear hp hAr i1 i2 i3 C c0
   generalize hbb : blk fa = fb at *
   generalize hoo : off fa = fo at *
   subst hfa
   clear hbb hoo
   go_wp2_with (go_at_call 83; refine HC.out.mono ?_; rintro e w5 ⟨k5, hk5, hk6, rfl, hb5⟩; have HB5 := Lib.hid hb5; clear hb5)
   ·go_ret
    exact ⟨false, rfl, thenB hB.out HB5.out⟩
   ·go_roundw
    case rel => exact ⟨i + 1, by go_num, by omega, Lib.hid (thenB hB.out HB5.out)⟩
    case measure => simp [intOf]; omega
  ·have : i = n := by omega
   subst this
   have hz : ¬ (i : Int) < (i : Int) := by omega
   go_wp2_with fail
   go_ret
   exact ⟨true, rfl, hB.out⟩
def FewR (s : Ls) (w : World) (e : Ending) (w' : World) : Prop := ∃ b : Bool, e = .returned (.bool b) ∧ (b = true → s.phrases.length ≤ 12 ∧ s.roles.length ≤ 70 ∧ s.dances.length ≤ 300) ∧ Below w.heap.size w w'
set_option maxRecDepth 100000 in
set_option maxHeartbeats 8000000 in
theorem few18_any (s : Ls) (w : World) (hA : s.At w) (hm : s.mfit) : Calls Try.prog 26 #[s.val] w (FewR s w) := by
 obtain ⟨W, hW, hB, hbW, sW⟩ := mk_cells w s.cells 30
 have y10 : W.cell? ⟨w.heap.size, 10, none⟩ = some (.slice s.fa s.phrases.length s.fc) := cell_at hB 10 rfl
 have y7 : W.cell? ⟨w.heap.size, 7, none⟩ = some (.slice s.ta s.tempos.length s.tc) := cell_at hB 7 rfl
 have y8 : W.cell? ⟨w.heap.size, 8, none⟩ = some (.slice s.ua s.pauses.length s.uc) := cell_at hB 8 rfl
 have y9 : W.cell? ⟨w.heap.size, 9, none⟩ = some (.slice s.sa s.spans.length s.sc) := cell_at hB 9 rfl
 have y6 : W.cell? ⟨w.heap.size, 6, none⟩ = some (.slice s.ra s.roles.length s.rc) := cell_at hB 6 rfl
 have y11 : W.cell? ⟨w.heap.size, 11, none⟩ = some (.slice s.da s.dances.length s.dc) := cell_at hB 11 rfl
 have HS : Hid (s.phrases.length ≤ 12 → Calls Try.prog 60 #[.slice s.fa s.phrases.length s.fc] W (BoolP W)) := Lib.hid (fun h => short_any s W (hA.below hbW) hm (by omega))
 have HNO : Hid (FewR s w (.returned (.bool false)) W) := Lib.hid ⟨false, rfl, fun h => (by cases h), hbW⟩
 have HBW := Lib.hid hbW
 have hv : s.val = .agg s.cells := rfl
 rw [hv]
 unfold Ls.cells at hW ⊢
 clear hA hm hB hbW sW hv
 by_cases q0 : s.phrases.length ≤ 12
 ·skip
  by_cases q1 : s.tempos.length ≤ 100
  ·skip
   by_cases q2 : s.pauses.length ≤ 100
   ·skip
    by_cases q3 : s.spans.length ≤ 300
    ·skip
     by_cases q4 : s.roles.length ≤ 70
     ·skip
      by_cases q5 : s.dances.length ≤ 300
      ·skip
       have HC := Lib.hid (HS.out q0)
       have HYES : Hid (∀ b V, Below W.heap.size W V → FewR s w (.returned (.bool b)) V) := Lib.hid (fun b V h => ⟨b, rfl, fun _ => ⟨q0, q4, q5⟩, thenB HBW.out h⟩)
       clear HS
       go_enter Try.func26, Try.ntmps26
       go_wp2_with (go_at_call 60; refine HC.out.mono ?_; rintro e V ⟨b, rfl, hb⟩; have HB := Lib.hid hb; clear hb)
       go_ret
       exact HYES.out b _ HB.out
      ·have r5 : 300 < s.dances.length := by omega
       clear HS
       go_enter Try.func26, Try.ntmps26
       go_wp2_with fail
       go_ret
       exact HNO.out
     ·have r4 : 70 < s.roles.length := by omega
      clear HS
      go_enter Try.func26, Try.ntmps26
      go_wp2_with fail
      go_ret
      exact HNO.out
    ·have r3 : 300 < s.spans.length := by omega
     clear HS
     go_enter Try.func26, Try.ntmps26
     go_wp2_with fail
     go_ret
     exact HNO.out
   ·have r2 : 100 < s.pauses.length := by omega
    clear HS
    go_enter Try.func26, Try.ntmps26
    go_wp2_with fail
    go_ret
    exact HNO.out
  ·have r1 : 100 < s.tempos.length := by omega
   clear HS
   go_enter Try.func26, Try.ntmps26
   go_wp2_with fail
   go_ret
   exact HNO.out
 ·have r0 : 12 < s.phrases.length := by omega
  clear HS
  go_enter Try.func26, Try.ntmps26
  go_wp2_with fail
  go_ret
  exact HNO.out
end Go.Proofs.Ytpnbpepkoekkoaa
end
section
namespace Go.Proofs.Ytpnbpepkoekkoaa
open Go Go.RowKit Go.Shelf
set_option maxRecDepth 100000 in
set_option maxHeartbeats 4000000 in
theorem step82_any (w : World) : Calls Try.prog 82 #[] w fun e w' => e = .returned (.agg #[.int .i64 1, .int .i64 1, .int .i64 1, .int .i64 1, .int .i64 0, .int .i64 2, sv [], .int .i64 0, .int .i64 0, .int .i64 1, .int .i64 1, .int .i64 1]) ∧ Below w.heap.size w w' := by
 go_enter Try.func82, Try.ntmps82
 go_wp2_with fail
 refine ⟨rfl, .agg #[.int .i64 1, .int .i64 1, .int .i64 1, .int .i64 1, .int .i64 0, .int .i64 2, sv [], .int .i64 0, .int .i64 0, .int .i64 1, .int .i64 1, .int .i64 1], ?_, rfl, ?_⟩
 ·have hX := heap_alloc_new w (.cells #[.int .i64 1, .int .i64 1, .int .i64 1, .int .i64 1, .int .i64 0, .int .i64 2, sv [], .int .i64 0, .int .i64 0, .int .i64 1, .int .i64 1, .int .i64 1] 85)
  have y0 := cell_at hX 0 rfl; have y1 := cell_at hX 1 rfl; have y2 := cell_at hX 2 rfl; have y3 := cell_at hX 3 rfl; have y4 := cell_at hX 4 rfl; have y5 := cell_at hX 5 rfl; have y6 := cell_at hX 6 rfl; have y7 := cell_at hX 7 rfl; have y8 := cell_at hX 8 rfl; have y9 := cell_at hX 9 rfl; have y10 := cell_at hX 10 rfl; have y11 := cell_at hX 11 rfl
  simp [results, Try.results82, go_sem, y0, y1, y2, y3, y4, y5, y6, y7, y8, y9, y10, y11]
 ·exact (Below.refl _ _).alloc (Nat.le_refl _) _
def useNm (k : Nat) : Nm := if k = 0 then [112] else [113]
set_option maxRecDepth 100000 in
set_option maxHeartbeats 4000000 in
theorem use58_0 (w : World) : Calls Try.prog 58 #[.int .i64 0] w fun e w' => e = .returned (.agg #[.int .i64 4, .int .i64 0, sv [112], .int .i64 0, .slice none 0 0, .slice none 0 0]) ∧ Below w.heap.size w w' := by
 obtain ⟨W1, x1, g1, b1, s1⟩ := mk_cells w #[.int .i64 0, .int .i64 0, sv [], .int .i64 0, .slice none 0 0, .slice none 0 0] 78
 obtain ⟨W2, x2, g2, b2, s2⟩ := mk_cells W1 #[sv [112], sv [113]] 9
 have hX := keepO b2 g1
 have z0 := cell_at g2 0 rfl; have z1 := cell_at g2 1 rfl
 have y0 := cell_at hX 0 rfl; have y1 := cell_at hX 1 rfl; have y2 := cell_at hX 2 rfl; have y3 := cell_at hX 3 rfl; have y4 := cell_at hX 4 rfl; have y5 := cell_at hX 5 rfl
 obtain ⟨W3, hW3, gW3, bW3⟩ := setRow_facts (cs := #[.int .i64 4, .int .i64 0, sv [112], .int .i64 0, .slice none 0 0, .slice none 0 0]) hX (thenB b1 b2) (Nat.le_refl _)
 have hone : (#[.int .i64 4, .int .i64 0, sv [112], .int .i64 0, .slice none 0 0, .slice none 0 0] : Array Value).all (·.oneCell') = true := by simp [Value.oneCell']
 have HX := Lib.hid hX; have HG := Lib.hid gW3; have HB := Lib.hid bW3; have HW3 := Lib.hid hW3; have HONE := Lib.hid hone
 clear hX g1 g2 b1 b2 s1 s2 gW3 bW3 hW3 hone y0 y1 y2 y3 y4 y5
 go_enter Try.func58, Try.ntmps58
 go_wp2_with (refine wpList_store_row rfl 78 _ _ rfl w.heap.size #[.int .i64 4, .int .i64 0, sv [112], .int .i64 0, .slice none 0 0, .slice none 0 0] rfl rfl 78 _ HX.out (by kernel_rfl) rfl HONE.out ?_; rw [HW3.out])
 refine ⟨rfl, .agg #[.int .i64 4, .int .i64 0, sv [112], .int .i64 0, .slice none 0 0, .slice none 0 0], ?_, rfl, HB.out⟩
 have hX := HG.out
 have y0 := cell_at hX 0 rfl; have y1 := cell_at hX 1 rfl; have y2 := cell_at hX 2 rfl; have y3 := cell_at hX 3 rfl; have y4 := cell_at hX 4 rfl; have y5 := cell_at hX 5 rfl
 simp [results, Try.results58, go_sem, y0, y1, y2, y3, y4, y5]
set_option maxRecDepth 100000 in
set_option maxHeartbeats 4000000 in
theorem use58_1 (w : World) : Calls Try.prog 58 #[.int .i64 1] w fun e w' => e = .returned (.agg #[.int .i64 4, .int .i64 0, sv [113], .int .i64 1, .slice none 0 0, .slice none 0 0]) ∧ Below w.heap.size w w' := by
 obtain ⟨W1, x1, g1, b1, s1⟩ := mk_cells w #[.int .i64 0, .int .i64 0, sv [], .int .i64 0, .slice none 0 0, .slice none 0 0] 78
 obtain ⟨W2, x2, g2, b2, s2⟩ := mk_cells W1 #[sv [112], sv [113]] 9
 have hX := keepO b2 g1
 have z0 := cell_at g2 0 rfl; have z1 := cell_at g2 1 rfl
 have y0 := cell_at hX 0 rfl; have y1 := cell_at hX 1 rfl; have y2 := cell_at hX 2 rfl; have y3 := cell_at hX 3 rfl; have y4 := cell_at hX 4 rfl; have y5 := cell_at hX 5 rfl
 obtain ⟨W3, hW3, gW3, bW3⟩ := setRow_facts (cs := #[.int .i64 4, .int .i64 0, sv [113], .int .i64 1, .slice none 0 0, .slice none 0 0]) hX (thenB b1 b2) (Nat.le_refl _)
 have hone : (#[.int .i64 4, .int .i64 0, sv [113], .int .i64 1, .slice none 0 0, .slice none 0 0] : Array Value).all (·.oneCell') = true := by simp [Value.oneCell']
 have HX := Lib.hid hX; have HG := Lib.hid gW3; have HB := Lib.hid bW3; have HW3 := Lib.hid hW3; have HONE := Lib.hid hone
 clear hX g1 g2 b1 b2 s1 s2 gW3 bW3 hW3 hone y0 y1 y2 y3 y4 y5
 go_enter Try.func58, Try.ntmps58
 go_wp2_with (refine wpList_store_row rfl 78 _ _ rfl w.heap.size #[.int .i64 4, .int .i64 0, sv [113], .int .i64 1, .slice none 0 0, .slice none 0 0] rfl rfl 78 _ HX.out (by kernel_rfl) rfl HONE.out ?_; rw [HW3.out])
 refine ⟨rfl, .agg #[.int .i64 4, .int .i64 0, sv [113], .int .i64 1, .slice none 0 0, .slice none 0 0], ?_, rfl, HB.out⟩
 have hX := HG.out
 have y0 := cell_at hX 0 rfl; have y1 := cell_at hX 1 rfl; have y2 := cell_at hX 2 rfl; have y3 := cell_at hX 3 rfl; have y4 := cell_at hX 4 rfl; have y5 := cell_at hX 5 rfl
 simp [results, Try.results58, go_sem, y0, y1, y2, y3, y4, y5]
end Go.Proofs.Ytpnbpepkoekkoaa
end
section
namespace Go.Proofs.Ytpnbpepkoekkoaa
open Go Go.RowKit Go.Shelf
structure Sm18 (R T M U I0 I1 F D : Nat) (W : World) : Prop where
 hR : W.heap[R]? = some (.cells #[sv [97], .int .i64 20, .int .i64 10, .int .i64 7] 59 (0, 0))
 hT : W.heap[T]? = some (.cells #[.int .i64 0, .int .i64 1000, .int .i64 0] 135 (0, 0))
 hM : W.heap[M]? = some (.cells #[.int .i64 1, .int .i64 1, .int .i64 1, .int .i64 1, .int .i64 0, .int .i64 2, sv [], .int .i64 0, .int .i64 0, .int .i64 1, .int .i64 1, .int .i64 1] 85 (0, 0))
 hU : W.heap[U]? = some (.cells #[.int .i64 4, .int .i64 0, sv [112], .int .i64 0, .slice none 0 0, .slice none 0 0] 78 (0, 0))
 hI0 : W.heap[I0]? = some (.cells #[.int .i64 1, .int .i64 0, sv [], .int .i64 0, .slice none 0 0, .slice (some ⟨M, 0, none⟩) 1 1] 78 (0, 0))
 hI1 : W.heap[I1]? = some (.cells #[.int .i64 2, .int .i64 2, sv [], .int .i64 0, .slice (some ⟨U, 0, none⟩) 1 1, .slice none 0 0] 78 (0, 0))
 hF : W.heap[F]? = some (.cells #[sv [112], .slice (some ⟨I0, 0, none⟩) 1 1, sv [113], .slice (some ⟨I1, 0, none⟩) 1 1] 57 (0, 0))
 hD : W.heap[D]? = some (.cells #[sv [97], .int .i64 0, sv [113], .int .i64 1, .int .i64 1, .bool false] 73 (0, 0))
theorem setCell_same {W : World} {b i : Nat} {cs : Array Value} {t : TypeId} {v : Value} (h : W.heap[b]? = some (.cells cs t (0, 0))) (hv : cs[i]? = some v) : W.setCell ⟨b, i, none⟩ v = W := by
 have e : (W.setCell ⟨b, i, none⟩ v).heap = W.heap := by
  apply Array.ext_getElem?
  intro k
  by_cases hk : k = b
  ·subst hk
   rw [setCell_obj v h, h]
   congr 2
   apply Array.ext_getElem?
   intro j
   rw [Array.getElem?_setIfInBounds]
   split
   ·rename_i hij
    subst hij
    rw [hv]
    split
    ·rfl
    ·rename_i hn
     rw [Array.getElem?_eq_none (by omega)] at hv
     cases hv
   ·rfl
  ·exact setCell_far v hk
 cases W
 simp only [World.setCell] at e ⊢
 rw [e]
set_option maxRecDepth 100000 in
set_option maxHeartbeats 16000000 in
theorem small57_any (w : World) : Calls Try.prog 57 #[] w fun e w' => ∃ R T M U I0 I1 F D : Nat, e = .returned (.agg #[sv [119], .int .i64 20, .int .i64 10, .int .i64 3, .int .i64 2, .int .i64 1, .slice (some ⟨R, 0, none⟩) 1 1, .slice (some ⟨T, 0, none⟩) 1 1, .slice none 0 0, .slice none 0 0, .slice (some ⟨F, 0, none⟩) 2 2, .slice (some ⟨D, 0, none⟩) 1 1]) ∧ Sm18 R T M U I0 I1 F D w' ∧ (∀ b ∈ [R, T, M, U, I0, I1, F, D], w.heap.size ≤ b) ∧ [R, T, M, U, I0, I1, F, D].Nodup ∧ Below w.heap.size w w' := by
 obtain ⟨A0, xA0, gA0, bA0, sA0⟩ := mk_cells w zeroSc 30
 have GA0 := Lib.hid gA0; have BA0 := Lib.hid bA0
 have hT0 : ∀ W2, Below A0.heap.size A0 W2 → W2.heap[w.heap.size]? = some (.cells zeroSc 30 (0, 0)) := fun W2 hb => keepO hb gA0
 have HT0 := Lib.hid hT0
 clear gA0 bA0 sA0 hT0
 unfold zeroSc at xA0
 have st0 : True := trivial
 go_enter Try.func57, Try.ntmps57
 go_wp2_with (first
  | (have q := st0; go_at_call 82; refine (step82_any _).mono ?_; rintro e V1 ⟨rfl, hb1⟩; have BV1 := Lib.hid hb1; clear hb1 q st0; have st1 : True := trivial; obtain ⟨A1, xA1, gA1, bA1, sA1⟩ := mk_cells V1 #[.int .i64 1, .int .i64 1, .int .i64 1, .int .i64 1, .int .i64 0, .int .i64 2, sv [], .int .i64 0, .int .i64 0, .int .i64 1, .int .i64 1, .int .i64 1] 85; have GA1 := Lib.hid gA1; have BA1 := Lib.hid bA1; clear gA1 bA1 sA1; obtain ⟨A2, xA2, gA2, bA2, sA2⟩ := mk_cells A1 #[.int .i64 1, .int .i64 0, sv [], .int .i64 0, .slice none 0 0, .slice (some ⟨V1.heap.size, 0, none⟩) 1 1] 78; have GA2 := Lib.hid gA2; have BA2 := Lib.hid bA2; clear gA2 bA2 sA2; have HK2 := Lib.hid (show ∀ V, Below A2.heap.size A2 V → V.heap[A1.heap.size]? = some (.cells #[.int .i64 1, .int .i64 0, sv [], .int .i64 0, .slice none 0 0, .slice (some ⟨V1.heap.size, 0, none⟩) 1 1] 78 (0, 0)) from fun V h => keepO h GA2.out))
  | (have q := st1; go_at_call 58; refine (use58_0 _).mono ?_; rintro e V2 ⟨rfl, hb1⟩; have BV2 := Lib.hid hb1; clear hb1 q st1; have st2 : True := trivial; obtain ⟨A3, xA3, gA3, bA3, sA3⟩ := mk_cells V2 #[.int .i64 4, .int .i64 0, sv [112], .int .i64 0, .slice none 0 0, .slice none 0 0] 78; have GA3 := Lib.hid gA3; have BA3 := Lib.hid bA3; clear gA3 bA3 sA3; obtain ⟨A4, xA4, gA4, bA4, sA4⟩ := mk_cells A3 #[.int .i64 2, .int .i64 2, sv [], .int .i64 0, .slice (some ⟨V2.heap.size, 0, none⟩) 1 1, .slice none 0 0] 78; have GA4 := Lib.hid gA4; have BA4 := Lib.hid bA4; clear gA4 bA4 sA4; have c4 : A4.cell? ⟨A3.heap.size, 5, none⟩ = some (.slice none 0 0) := (cell_at GA4.out 5 rfl); have f4 : A4.frozen? ⟨A3.heap.size, 5, none⟩ = false := (show FreeB A4 A3.heap.size from ⟨_, _, GA4.out⟩).free 5; have e4 : A4.setCell ⟨A3.heap.size, 5, none⟩ (.slice none 0 0) = A4 := (setCell_same (i := 5) GA4.out rfl); obtain ⟨A5, xA5, gA5, bA5, sA5⟩ := mk_cells A4 #[sv [97], .int .i64 20, .int .i64 10, .int .i64 7] 59; have GA5 := Lib.hid gA5; have BA5 := Lib.hid bA5; clear gA5 bA5 sA5; obtain ⟨A6, xA6, gA6, bA6, sA6⟩ := mk_cells A5 #[.int .i64 0, .int .i64 1000, .int .i64 0] 135; have GA6 := Lib.hid gA6; have BA6 := Lib.hid bA6; clear gA6 bA6 sA6; have HL1 := Lib.hid (HK2.out A6 (thenB BV2.out (thenB BA3.out (thenB BA4.out (thenB BA5.out BA6.out))))))
  | (have q := st2; clear q; refine wpList_load_row rfl 78 _ rfl A1.heap.size rfl 78 #[.int .i64 1, .int .i64 0, sv [], .int .i64 0, .slice none 0 0, .slice (some ⟨V1.heap.size, 0, none⟩) 1 1] (0, 0) _ HL1.out Try.underlying78 rfl (by kernel_rfl) ?_; simp only [Act.put, List.setIfInBounds_toArray, List.set_cons_zero, List.set_cons_succ]; clear st2; have st3 : True := trivial; obtain ⟨A7, xA7, gA7, bA7, sA7⟩ := mk_cells A6 #[.int .i64 1, .int .i64 0, sv [], .int .i64 0, .slice none 0 0, .slice (some ⟨V1.heap.size, 0, none⟩) 1 1] 78; have GA7 := Lib.hid gA7; have BA7 := Lib.hid bA7; clear gA7 bA7 sA7; have HL2 := Lib.hid (keepO (thenB BA5.out (thenB BA6.out BA7.out)) GA4.out))
  | (have q := st3; clear q; refine wpList_load_row rfl 78 _ rfl A3.heap.size rfl 78 #[.int .i64 2, .int .i64 2, sv [], .int .i64 0, .slice (some ⟨V2.heap.size, 0, none⟩) 1 1, .slice none 0 0] (0, 0) _ HL2.out Try.underlying78 rfl (by kernel_rfl) ?_; simp only [Act.put, List.setIfInBounds_toArray, List.set_cons_zero, List.set_cons_succ]; clear st3; have st4 : True := trivial; obtain ⟨A8, xA8, gA8, bA8, sA8⟩ := mk_cells A7 #[.int .i64 2, .int .i64 2, sv [], .int .i64 0, .slice (some ⟨V2.heap.size, 0, none⟩) 1 1, .slice none 0 0] 78; have GA8 := Lib.hid gA8; have BA8 := Lib.hid bA8; clear gA8 bA8 sA8; obtain ⟨A9, xA9, gA9, bA9, sA9⟩ := mk_cells A8 #[sv [112], .slice (some ⟨A6.heap.size, 0, none⟩) 1 1, sv [113], .slice (some ⟨A7.heap.size, 0, none⟩) 1 1] 57; have GA9 := Lib.hid gA9; have BA9 := Lib.hid bA9; clear gA9 bA9 sA9; obtain ⟨A10, xA10, gA10, bA10, sA10⟩ := mk_cells A9 #[sv [97], .int .i64 0, sv [113], .int .i64 1, .int .i64 1, .bool false] 73; have GA10 := Lib.hid gA10; have BA10 := Lib.hid bA10; clear gA10 bA10 sA10)
  | (have q := st4; clear q; refine wpList_store_row rfl 30 _ _ rfl w.heap.size #[sv [119], .int .i64 20, .int .i64 10, .int .i64 3, .int .i64 2, .int .i64 1, .slice (some ⟨A4.heap.size, 0, none⟩) 1 1, .slice (some ⟨A5.heap.size, 0, none⟩) 1 1, .slice none 0 0, .slice none 0 0, .slice (some ⟨A8.heap.size, 0, none⟩) 2 2, .slice (some ⟨A9.heap.size, 0, none⟩) 1 1] rfl rfl 30 _ (HT0.out A10 (thenB BV1.out (thenB BA1.out (thenB BA2.out (thenB BV2.out (thenB BA3.out (thenB BA4.out (thenB BA5.out (thenB BA6.out (thenB BA7.out (thenB BA8.out (thenB BA9.out BA10.out)))))))))))) (by kernel_rfl) rfl (by simp [Value.oneCell']) ?_; obtain ⟨W3, hW3, gW3, bW3⟩ := setRow_facts (cs := #[sv [119], .int .i64 20, .int .i64 10, .int .i64 3, .int .i64 2, .int .i64 1, .slice (some ⟨A4.heap.size, 0, none⟩) 1 1, .slice (some ⟨A5.heap.size, 0, none⟩) 1 1, .slice none 0 0, .slice none 0 0, .slice (some ⟨A8.heap.size, 0, none⟩) 2 2, .slice (some ⟨A9.heap.size, 0, none⟩) 1 1]) (HT0.out A10 (thenB BV1.out (thenB BA1.out (thenB BA2.out (thenB BV2.out (thenB BA3.out (thenB BA4.out (thenB BA5.out (thenB BA6.out (thenB BA7.out (thenB BA8.out (thenB BA9.out BA10.out)))))))))))) (thenB BA0.out (thenB BV1.out (thenB BA1.out (thenB BA2.out (thenB BV2.out (thenB BA3.out (thenB BA4.out (thenB BA5.out (thenB BA6.out (thenB BA7.out (thenB BA8.out (thenB BA9.out BA10.out)))))))))))) (Nat.le_refl _); rw [hW3]; have HW3 := Lib.hid hW3; have HG3 := Lib.hid gW3; have HB3 := Lib.hid bW3; clear hW3 gW3 bW3 st4))
 have o3 : ∀ c, c ≠ w.heap.size → W3.heap[c]? = A10.heap[c]? := fun c hc => by
  rw [← HW3.out]
  simp only [World.setRow]
  rw [Array.getElem?_modify, if_neg (fun e => hc e.symm)]
 have q0 := (Array.getElem?_eq_some_iff.1 GA0.out).1
 have z1 := (Array.getElem?_eq_some_iff.1 GA1.out).1
 have z2 := (Array.getElem?_eq_some_iff.1 GA2.out).1
 have z3 := (Array.getElem?_eq_some_iff.1 GA3.out).1
 have z4 := (Array.getElem?_eq_some_iff.1 GA4.out).1
 have z5 := (Array.getElem?_eq_some_iff.1 GA5.out).1
 have z6 := (Array.getElem?_eq_some_iff.1 GA6.out).1
 have z7 := (Array.getElem?_eq_some_iff.1 GA7.out).1
 have z8 := (Array.getElem?_eq_some_iff.1 GA8.out).1
 have z9 := (Array.getElem?_eq_some_iff.1 GA9.out).1
 have q1 := BV1.out.size; have q2 := BV2.out.size
 refine ⟨rfl, .agg #[sv [119], .int .i64 20, .int .i64 10, .int .i64 3, .int .i64 2, .int .i64 1, .slice (some ⟨A4.heap.size, 0, none⟩) 1 1, .slice (some ⟨A5.heap.size, 0, none⟩) 1 1, .slice none 0 0, .slice none 0 0, .slice (some ⟨A8.heap.size, 0, none⟩) 2 2, .slice (some ⟨A9.heap.size, 0, none⟩) 1 1], ?_, A4.heap.size, A5.heap.size, V1.heap.size, V2.heap.size, A6.heap.size, A7.heap.size, A8.heap.size, A9.heap.size, rfl, ⟨(o3 _ (by omega)).trans (keepO (thenB BA6.out (thenB BA7.out (thenB BA8.out (thenB BA9.out BA10.out)))) GA5.out), (o3 _ (by omega)).trans (keepO (thenB BA7.out (thenB BA8.out (thenB BA9.out BA10.out))) GA6.out), (o3 _ (by omega)).trans (keepO (thenB BA2.out (thenB BV2.out (thenB BA3.out (thenB BA4.out (thenB BA5.out (thenB BA6.out (thenB BA7.out (thenB BA8.out (thenB BA9.out BA10.out))))))))) GA1.out), (o3 _ (by omega)).trans (keepO (thenB BA4.out (thenB BA5.out (thenB BA6.out (thenB BA7.out (thenB BA8.out (thenB BA9.out BA10.out)))))) GA3.out), (o3 _ (by omega)).trans (keepO (thenB BA8.out (thenB BA9.out BA10.out)) GA7.out), (o3 _ (by omega)).trans (keepO (thenB BA9.out BA10.out) GA8.out), (o3 _ (by omega)).trans (keepO BA10.out GA9.out), (o3 _ (by omega)).trans GA10.out⟩, ?_, ?_, HB3.out⟩
 ·clear o3 z1 z2 z3 z4 z5 z6 z7 z8 z9 q0 q1 q2 xA0 xA1 xA2 xA3 xA4 xA5 xA6 xA7 xA8 xA9 xA10
  have hX := HG3.out
  have y0 := cell_at hX 0 rfl; have y1 := cell_at hX 1 rfl; have y2 := cell_at hX 2 rfl; have y3 := cell_at hX 3 rfl; have y4 := cell_at hX 4 rfl; have y5 := cell_at hX 5 rfl; have y6 := cell_at hX 6 rfl; have y7 := cell_at hX 7 rfl; have y8 := cell_at hX 8 rfl; have y9 := cell_at hX 9 rfl; have y10 := cell_at hX 10 rfl; have y11 := cell_at hX 11 rfl
  clear hX
  simp [results, Try.results57, go_sem, y0, y1, y2, y3, y4, y5, y6, y7, y8, y9, y10, y11]
 ·intro b hb
  simp only [List.mem_cons, List.mem_nil_iff, or_false] at hb
  omega
 ·simp only [List.nodup_cons, List.mem_cons, List.mem_nil_iff, or_false, not_or, List.nodup_nil, and_true, not_false_eq_true]
  omega
end Go.Proofs.Ytpnbpepkoekkoaa
end
section
namespace Go.Proofs.Ytpnbpepkoekkoaa
open Go Go.RowKit Go.Shelf
def mv18 : Mov := ⟨1, 1, 1, 1, 0, 2, [], 0, 1, 1, 1⟩
def ex18 (t0 t1 : Int) (R T F D : Nat) (p0 p1 : Ph) (bar : Int) : Ls := ⟨[119], 20, 10, 3, t0, t1, at0 R, 1, [⟨[97], 20, 10, 7⟩], at0 T, 1, [⟨0, 1000, 0⟩], none, 0, [], none, 0, [], at0 F, 2, [p0, p1], at0 D, 1, [⟨[97], [113], bar, false⟩]⟩
def useL (k : Nat) (r : Lt) : Lt := .cons 4 0 (useNm k) none 0 .nil none 0 [] r
def phP (I0 M : Nat) : Ph := ⟨[112], at0 I0, 1, .cons 1 0 [] none 0 .nil (at0 M) 1 [mv18] .nil⟩
def phQ (I1 U : Nat) : Ph := ⟨[113], at0 I1, 1, .cons 2 2 [] (at0 U) 1 (useL 0 .nil) none 0 [] .nil⟩
def sm18 (R T M U I0 I1 F D : Nat) : Ls := ex18 2 1 R T F D (phP I0 M) (phQ I1 U) 1
def sm18N : List Int := [0, 0, 0, 0, 0, 1]
theorem ex_roles {W : World} {R : Nat} (hR : W.heap[R]? = some (.cells #[sv [97], .int .i64 20, .int .i64 10, .int .i64 7] 59 (0, 0))) : IsRow encR 4 W (.slice (at0 R) 1 1) [⟨[97], 20, 10, 7⟩] := by
  refine ⟨at0 R, 1, rfl, by decide, Or.inr ⟨R, 0, rfl, fun i x hi j v hv => ?_, (Array.getElem?_eq_some_iff.1 hR).1⟩⟩
  match i, hi with
  | 0, hi =>
    simp at hi; subst hi
    match j, hv with
    | 0, hv => cases hv; exact cell_at hR 0 rfl
    | 1, hv => cases hv; exact cell_at hR 1 rfl
    | 2, hv => cases hv; exact cell_at hR 2 rfl
    | 3, hv => cases hv; exact cell_at hR 3 rfl
theorem ex_tempos {W : World} {T : Nat} (hT : W.heap[T]? = some (.cells #[.int .i64 0, .int .i64 1000, .int .i64 0] 135 (0, 0))) : IsRow encT 3 W (.slice (at0 T) 1 1) [⟨0, 1000, 0⟩] := by
  refine ⟨at0 T, 1, rfl, by decide, Or.inr ⟨T, 0, rfl, fun i x hi j v hv => ?_, (Array.getElem?_eq_some_iff.1 hT).1⟩⟩
  match i, hi with
  | 0, hi =>
    simp at hi; subst hi
    match j, hv with
    | 0, hv => cases hv; exact cell_at hT 0 rfl
    | 1, hv => cases hv; exact cell_at hT 1 rfl
    | 2, hv => cases hv; exact cell_at hT 2 rfl
theorem ex_at {W : World} {R T F D : Nat} {t0 t1 bar : Int} {p0 p1 : Ph} (hR : W.heap[R]? = some (.cells #[sv [97], .int .i64 20, .int .i64 10, .int .i64 7] 59 (0, 0))) (hT : W.heap[T]? = some (.cells #[.int .i64 0, .int .i64 1000, .int .i64 0] 135 (0, 0)))
    (hF : W.heap[F]? = some (.cells #[sv [112], p0.val, sv [113], p1.val] 57 (0, 0))) (hD : W.heap[D]? = some (.cells #[sv [97], .int .i64 0, sv [113], .int .i64 1, .int .i64 bar, .bool false] 73 (0, 0)))
    (n0 : p0.name = [112]) (n1 : p1.name = [113]) (h0 : p0.Its W) (h1 : p1.Its W) : (ex18 t0 t1 R T F D p0 p1 bar).At W :=
  ⟨ex_roles hR, ex_tempos hT, IsRow.nil, IsRow.nil, Or.inr rfl, (by decide : (2 : Nat) ≤ maxLen), ⟨⟨by rw [n0]; exact cell_at hF 0 rfl, cell_at hF 1 rfl, h0⟩, ⟨by rw [n1]; exact cell_at hF 2 rfl, cell_at hF 3 rfl, h1⟩, trivial⟩, Or.inr rfl, (by decide : (1 : Nat) ≤ maxLen),
   ⟨cell_at hD 0 rfl, cell_at hD 2 rfl, cell_at hD 4 rfl, cell_at hD 5 rfl⟩, trivial⟩
theorem phP_its {W : World} {I0 M : Nat} (hI : W.heap[I0]? = some (.cells #[.int .i64 1, .int .i64 0, sv [], .int .i64 0, .slice none 0 0, .slice (some ⟨M, 0, none⟩) 1 1] 78 (0, 0))) (hM : W.heap[M]? = some (.cells #[.int .i64 1, .int .i64 1, .int .i64 1, .int .i64 1, .int .i64 0, .int .i64 2, sv [], .int .i64 0, .int .i64 0, .int .i64 1, .int .i64 1, .int .i64 1] 85 (0, 0))) :
    (phP I0 M).Its W ∧ NsAt W (phP I0 M).refsL [0, 0] := by
  have m1 : (1 : Nat) ≤ maxLen := by decide
  refine ⟨⟨Or.inr rfl, m1, ?_⟩, ?_⟩
  · refine ⟨⟨cell_at hI 0 rfl, cell_at hI 1 rfl, cell_at hI 2 rfl, cell_at hI 4 rfl, cell_at hI 5 rfl⟩, ⟨Or.inr rfl, m1, ?_⟩, ⟨Or.inl rfl, Nat.zero_le _, trivial⟩, trivial⟩
    exact ⟨⟨cell_at hM 0 rfl, cell_at hM 1 rfl, cell_at hM 2 rfl, cell_at hM 3 rfl, cell_at hM 4 rfl, cell_at hM 5 rfl, cell_at hM 6 rfl, cell_at hM 8 rfl, cell_at hM 9 rfl, cell_at hM 10 rfl, cell_at hM 11 rfl⟩, trivial⟩
  · exact ⟨cell_at hI 3 rfl, cell_at hM 7 rfl, trivial⟩
theorem use_row {W : World} {U : Nat} (hU : W.heap[U]? = some (.cells #[.int .i64 4, .int .i64 0, sv [112], .int .i64 0, .slice none 0 0, .slice none 0 0] 78 (0, 0))) : (useL 0 .nil).At W U 0 ∧ NsAt W ((useL 0 .nil).refsL U 0) [0] :=
  ⟨⟨⟨cell_at hU 0 rfl, cell_at hU 1 rfl, cell_at hU 2 rfl, cell_at hU 4 rfl, cell_at hU 5 rfl⟩, ⟨Or.inl rfl, Nat.zero_le _, trivial⟩, ⟨Or.inl rfl, Nat.zero_le _, trivial⟩, trivial⟩, ⟨cell_at hU 3 rfl, trivial⟩⟩
theorem phQ_its {W : World} {I1 U : Nat} (hI : W.heap[I1]? = some (.cells #[.int .i64 2, .int .i64 2, sv [], .int .i64 0, .slice (some ⟨U, 0, none⟩) 1 1, .slice none 0 0] 78 (0, 0))) (hU : W.heap[U]? = some (.cells #[.int .i64 4, .int .i64 0, sv [112], .int .i64 0, .slice none 0 0, .slice none 0 0] 78 (0, 0))) :
    (phQ I1 U).Its W ∧ NsAt W (phQ I1 U).refsL [0, 0] := by
  have m1 : (1 : Nat) ≤ maxLen := by decide
  obtain ⟨u1, u2⟩ := use_row hU
  refine ⟨⟨Or.inr rfl, m1, ?_⟩, ?_⟩
  · exact ⟨⟨cell_at hI 0 rfl, cell_at hI 1 rfl, cell_at hI 2 rfl, cell_at hI 4 rfl, cell_at hI 5 rfl⟩, ⟨Or.inl rfl, Nat.zero_le _, trivial⟩, ⟨Or.inr rfl, m1, u1⟩, trivial⟩
  · exact ⟨cell_at hI 3 rfl, u2.1, trivial⟩
theorem sm18_at {R T M U I0 I1 F D : Nat} {W : World} (h : Sm18 R T M U I0 I1 F D W) : (sm18 R T M U I0 I1 F D).At W ∧ NsAt W (sm18 R T M U I0 I1 F D).refs sm18N := by
  obtain ⟨a1, a2⟩ := phP_its h.hI0 h.hM
  obtain ⟨b1, b2⟩ := phQ_its h.hI1 h.hU
  refine ⟨ex_at h.hR h.hT h.hF h.hD rfl rfl a1 b1, ?_⟩
  obtain ⟨x1, x2, _⟩ := a2
  obtain ⟨y1, y2, _⟩ := b2
  exact ⟨x1, x2, y1, y2, cell_at h.hD 1 rfl, cell_at h.hD 3 rfl, trivial⟩
theorem sm18_len1 (R T M U I0 I1 F D : Nat) : lngE (sm18 R T M U I0 I1 F D) sm18N 1 = (2, 0) := by kernel_rfl
theorem sm18_lenm (R T M U I0 I1 F D : Nat) : lngE (sm18 R T M U I0 I1 F D) sm18N (-1) = (0, 1) := by kernel_rfl
theorem sm18_loop (R T M U I0 I1 F D : Nat) : loopM (sm18 R T M U I0 I1 F D) sm18N = [] := by kernel_rfl
theorem sm18_chk (R T M U I0 I1 F D : Nat) : chkE (sm18 R T M U I0 I1 F D).strip sm18N = 0 := by kernel_rfl
theorem sm18_sound (R T M U I0 I1 F D : Nat) : soundE (sm18 R T M U I0 I1 F D) sm18N = 0 := by kernel_rfl
theorem nar18_sound (R T M U I0 I1 F D : Nat) : soundE (ex18 0 0 R T F D (phP I0 M) (phQ I1 U) 1) sm18N = 180 := by kernel_rfl
theorem late18_sound (R T M U I0 I1 F D : Nat) : soundE (ex18 2 1 R T F D (phP I0 M) (phQ I1 U) 2) sm18N = 180 := by kernel_rfl
def rgP (X0 : Nat) : Ph := ⟨[112], at0 X0, 1, useL 1 .nil⟩
def rgQ (X1 : Nat) : Ph := ⟨[113], at0 X1, 2, useL 1 (useL 0 .nil)⟩
def rg18N : List Int := [1, 1, 0, 0, 1]
theorem rg18_loop (R T F D X0 X1 : Nat) : loopM (ex18 2 1 R T F D (rgP X0) (rgQ X1) 1) rg18N = [0, 1] := by kernel_rfl
theorem rg18_chk (R T F D X0 X1 : Nat) : chkE (ex18 2 1 R T F D (rgP X0) (rgQ X1) 1).strip rg18N = 0 := by kernel_rfl
theorem rg18_sound (R T F D X0 X1 : Nat) : soundE (ex18 2 1 R T F D (rgP X0) (rgQ X1) 1) rg18N = 180 := by kernel_rfl
end Go.Proofs.Ytpnbpepkoekkoaa
end
