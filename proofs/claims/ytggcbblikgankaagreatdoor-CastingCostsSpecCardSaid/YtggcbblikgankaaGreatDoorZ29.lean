/- Contracts and plain laws on the way to the statement: part 29. -/
import Derived.Test.YtggcbblikgankaaGreatDoorZ28
import Derived.Test.YtggcbblikgankaaGreatDoorZ25
import Derived.Test.YtggcbblikgankaaGreatDoorZ3
set_option linter.unusedVariables false
set_option linter.unusedSimpArgs false
set_option maxRecDepth 100000
set_option maxHeartbeats 16000000
namespace Go.Proofs.YtggcbblikgankaaGreatDoor
open Go.Value (int)
open Go.IntKind (i64)
section
open Go.RowKit
def doL (k : Wrk) (s : Sgn) (b : Bod) : List Rea :=
 if s.kind = 1 then Cb s b.step else if s.kind = 2 then Cb s b.jump else if s.kind = 3 then C3 k.ta k.tc s b.t0.toNat else if s.kind = 4 then C3 k.ta k.tc s b.t1.toNat
 else if s.kind = 5 then C3 k.ta k.tc s b.t2.toNat else if s.kind = 9 then [⟨s.id, 0, min s.level b.t1, false⟩] else [⟨s.id, 0, 0, false⟩]
def AB (s : Sgn) : List Rea := if s.mark = 1 then [] else [⟨s.id, 0, 0, true⟩]
def Di (k : Wrk) (s : Sgn) (b : Bod) : List Rea := doL k s b ++ AB s
def E9 (k : Wrk) (n : Int) (b : Bod) : Int := if Ao k ≠ 0 then Ao k else if AG b then (if idF k.signs n then 0 else 300) else 250
def Fb (k : Wrk) (n : Int) (b : Bod) : List Rea := if E9 k n b = 0 then Di k (k.signs[idP k.signs n]!) b else []
theorem O3 (c : Clk) : BP c = 0 ∨ BP c = 130 ∨ BP c = 2 := by unfold BP; split <;> (try split) <;> simp
theorem Pt (k : Wrk) : Ao k = 0 ∨ Ao k = 130 ∨ Ao k = 2 ∨ Ao k = 190 := by
 have := O3 k.clock
 unfold Ao
 split
 ·split
  ·rcases this with h | h | h <;> simp [h]
  ·split <;> simp
 ·simp
def Sh (W : World) (g : Nat) (lb : Array Value) (ta tb tc : Int) (s : Sgn) (b : Bod) (L : List Rea) : Prop :=
 ∀ W', Below W.heap.size W W' → Calls Tryz.prog g (#[.agg #[int i64 ta, int i64 tb, int i64 tc], Hc s, Bh b] ++ lb) W' fun e w' => ∃ v, e = .returned v ∧ w'.ownsRow W'.heap.size 37 4 v L.length (L.flatMap Ai) ∧ Below W'.heap.size W' w'
theorem CJ {b : Bod} (h : AG b = true) {i : Nat} (hi : i < 3) : 1 ≤ Ec b i ∧ Ec b i ≤ 3 := by
 unfold AG at h
 rw [Bool.and_eq_true] at h
 have h2 := List.all_eq_true.1 h.2 0 (by decide)
 unfold Bf at h2
 have h3 := List.all_eq_true.1 h2 (Ec b i) (by
  rcases i with _ | _ | _ | i
  ·simp [AN, Ec]
  ·simp [AN, Ec]
  ·simp [AN, Ec]
  ·omega)
 have := A4.1 h3
 simpa [IP, IR] using this
theorem LV {k : Wrk} (h : Ao k = 0) : 0 ≤ k.ta ∧ k.ta ≤ 32768 ∧ 1 ≤ k.tc ∧ k.tc ≤ 32768 ∧ k.ta ≤ k.tc := by
 have hb := (D2 h).2.2.2
 unfold E7 Cx CM at hb
 simp only [Bool.and_eq_true, A4, decide_eq_true_eq] at hb
 omega
theorem C6 {s : Sgn} {roles bars : Int} (h : Bl s roles bars = true) (hk : s.kind = 3 ∨ s.kind = 4 ∨ s.kind = 5) : (0 ≤ s.dir ∧ s.dir ≤ 8) ∧ 1 ≤ s.level ∧ s.level ≤ 3 := by
 unfold Bl Ac at h
 simp only [Bool.and_eq_true] at h
 obtain ⟨⟨_, h⟩, _⟩ := h
 rcases hk with hk | hk | hk <;> simp [hk, A4] at h <;> omega
theorem Fe {s : Sgn} {roles bars : Int} (h : Bl s roles bars = true) : 1 ≤ s.kind ∧ s.kind ≤ 9 := by
 unfold Bl at h
 simp only [Bool.and_eq_true, A4] at h
 omega
theorem Rr {k : Wrk} {s : Sgn} {b : Bod} (hw : Ao k = 0) (hs : s ∈ k.signs) (hb : AG b = true) {w W : World} (hE : Env W) (hz : 2 ≤ W.heap.size) (h : KS w W (CY w.heap.size) K7) :
  (∃ g lb, BX (CY w.heap.size) s.kind = some (.func (.func g) #[] lb) ∧ (∀ args w, (callFunc g args).run Tryz.prog w = .ok (.enter g args) w) ∧ Sh W g lb k.ta k.tb k.tc s b (doL k s b)) ∨ (BX (CY w.heap.size) s.kind = none ∧ doL k s b = [⟨s.id, 0, 0, false⟩]) := by
 have hr := Da hw hs
 obtain ⟨t1, t2, t3, t4, _⟩ := LV hw
 obtain ⟨_, _, hsz, hc, _⟩ := h
 have hlb : ∀ {W'}, Below W.heap.size W W' → ∀ i v, i < 5 → W.cell? ⟨w.heap.size + 1 + i, 0, none⟩ = some v → W'.cell? ⟨w.heap.size + 1 + i, 0, none⟩ = some v := fun hb i v hi h =>
  (hb.cell (p := ⟨w.heap.size + 1 + i, 0, none⟩) (by show w.heap.size + 1 + i < W.heap.size; rw [hsz]; simp [K7]; omega)).trans h
 have hlim : ∀ i : Nat, i < 3 → ∀ j, j = 2 + i → (s.kind = 3 ∨ s.kind = 4 ∨ s.kind = 5) → Sh W 97 #[.pointer (some ⟨w.heap.size + 1 + j, 0, none⟩)] k.ta k.tb k.tc s b (C3 k.ta k.tc s (Ec b i).toNat) := by
  intro i hi j hj hk W' hb'
  obtain ⟨q1, q2⟩ := C6 hr hk
  obtain ⟨p1, p2⟩ := CJ hb hi
  have hcell : W.cell? ⟨w.heap.size + 1 + j, 0, none⟩ = some (int i64 (i : Nat)) := hc j _ (by
   subst hj
   rcases i with _ | _ | _ | i
   ·rfl
   ·rfl
   ·rfl
   ·omega)
  exact Oi k.ta k.tb k.tc ⟨t1, t2⟩ ⟨t3, t4⟩ s q1 q2 b i (Ec b i).toNat hi (by omega) (by omega) _ W' (hE.below hb') (Nat.le_trans hz hb'.size) (hlb hb' j _ (by omega) hcell)
 have hkd := Fe hr
 have hk : s.kind = 1 ∨ s.kind = 2 ∨ s.kind = 3 ∨ s.kind = 4 ∨ s.kind = 5 ∨ s.kind = 9 ∨ (s.kind = 6 ∨ s.kind = 7 ∨ s.kind = 8) := by omega
 rcases hk with hk | hk | hk | hk | hk | hk | hk
 ·refine Or.inl ⟨96, _, by rw [hk]; rfl, enters_of Tryz.func96 (by kernel_rfl) rfl, fun W' hb' => ?_⟩
  rw [show doL k s b = Cb s b.step by unfold doL; rw [if_pos hk]]
  exact Gu k.ta k.tb k.tc s b 68 _ b.step W' (hlb hb' 0 _ (by omega) (hc 0 _ rfl)) (Mw b) (enters_of Tryz.func68 (by kernel_rfl) rfl)
 ·refine Or.inl ⟨96, _, by rw [hk]; rfl, enters_of Tryz.func96 (by kernel_rfl) rfl, fun W' hb' => ?_⟩
  rw [show doL k s b = Cb s b.jump by unfold doL; rw [if_neg (by omega), if_pos hk]]
  exact Gu k.ta k.tb k.tc s b 69 _ b.jump W' (hlb hb' 1 _ (by omega) (hc 1 _ rfl)) (MG b) (enters_of Tryz.func69 (by kernel_rfl) rfl)
 ·refine Or.inl ⟨97, _, by rw [hk]; rfl, enters_of Tryz.func97 (by kernel_rfl) rfl, ?_⟩
  rw [show doL k s b = C3 k.ta k.tc s b.t0.toNat by unfold doL; rw [if_neg (by omega), if_neg (by omega), if_pos hk]]
  exact hlim 0 (by omega) 2 rfl (by omega)
 ·refine Or.inl ⟨97, _, by rw [hk]; rfl, enters_of Tryz.func97 (by kernel_rfl) rfl, ?_⟩
  rw [show doL k s b = C3 k.ta k.tc s b.t1.toNat by unfold doL; rw [if_neg (by omega), if_neg (by omega), if_neg (by omega), if_pos hk]]
  exact hlim 1 (by omega) 3 rfl (by omega)
 ·refine Or.inl ⟨97, _, by rw [hk]; rfl, enters_of Tryz.func97 (by kernel_rfl) rfl, ?_⟩
  rw [show doL k s b = C3 k.ta k.tc s b.t2.toNat by unfold doL; rw [if_neg (by omega), if_neg (by omega), if_neg (by omega), if_neg (by omega), if_pos hk]]
  exact hlim 2 (by omega) 4 rfl (by omega)
 ·refine Or.inl ⟨71, _, by rw [hk]; rfl, enters_of Tryz.func71 (by kernel_rfl) rfl, fun W' hb' => ?_⟩
  rw [show doL k s b = [⟨s.id, 0, min s.level b.t1, false⟩] by unfold doL; rw [if_neg (by omega), if_neg (by omega), if_neg (by omega), if_neg (by omega), if_neg (by omega), if_pos hk]]
  exact Qt k.ta k.tb k.tc s b W'
 ·refine Or.inr ⟨?_, by unfold doL; rw [if_neg (by omega), if_neg (by omega), if_neg (by omega), if_neg (by omega), if_neg (by omega), if_neg (by omega)]⟩
  rcases hk with hk | hk | hk <;> rw [hk] <;> rfl
end
section
open Go.RowKit
theorem Ls (n : Int) (b : Bod) (_ : b.name.length ≤ maxLen) (wd dp ta tb tc bars : Int) (aR aT aP aX aS : Option Addr) (cR cT cP cX cS : Nat) (rs : List Rol) (ts : List Tmp) (ps : List Pau) (xs : List Con) (ss : List Sgn) (w : World) (hE : Env w)
  (hR : IsRow De 4 w (.slice aR rs.length cR) rs) (hT : IsRow Bq 3 w (.slice aT ts.length cT) ts) (hP : IsRow Cl 4 w (.slice aP ps.length cP) ps) (hX : IsRow Ck 4 w (.slice aX xs.length cX) xs) (hS : IsRow CF 14 w (.slice aS ss.length cS) ss)
  (hne : Ao ⟨wd, dp, ta, tb, tc, rs, ⟨bars, ts, ps, xs⟩, ss⟩ ≠ 0) :
  Calls Tryz.prog 9 #[.agg #[int i64 wd, int i64 dp, int i64 ta, int i64 tb, int i64 tc, .slice aR rs.length cR, int i64 bars, .slice aT ts.length cT, .slice aP ps.length cP, .slice aX xs.length cX, .slice aS ss.length cS], int i64 n, Bh b] w fun e w' => e = .returned (.tuple #[.slice none 0 0, int i64 (Ao ⟨wd, dp, ta, tb, tc, rs, ⟨bars, ts, ps, xs⟩, ss⟩)]) ∧ Below w.heap.size w w' := by
 have hfd := fun (w : World) hE hR hT hP hX hS => DE n wd dp ta tb tc bars aR aT aP aX aS cR cT cP cX cS rs ts ps xs ss w hE hR hT hP hX hS
 have hv := Pt ⟨wd, dp, ta, tb, tc, rs, ⟨bars, ts, ps, xs⟩, ss⟩
 have hfv : CR ⟨wd, dp, ta, tb, tc, rs, ⟨bars, ts, ps, xs⟩, ss⟩ n = .tuple #[.agg Bw, int i64 (Ao ⟨wd, dp, ta, tb, tc, rs, ⟨bars, ts, ps, xs⟩, ss⟩)] := by unfold CR; rw [if_neg hne]
 rw [hfv] at hfd
 generalize Ao ⟨wd, dp, ta, tb, tc, rs, ⟨bars, ts, ps, xs⟩, ss⟩ = er at *
 have HFD := qh hfd; have HE := qh hE; have HR := qh hR; have HT := qh hT; have HP := qh hP; have HX := qh hX; have HS := qh hS
 clear hfd hE hR hT hP hX hS hfv
 generalize rs.length = nR at *
 generalize ts.length = nT at *
 generalize ps.length = nP at *
 generalize xs.length = nX at *
 generalize ss.length = nS at *
 obtain ⟨g0, g1, hz, hb⟩ := Bn w (.cells #[int i64 wd, int i64 dp, int i64 ta, int i64 tb, int i64 tc, .slice aR nR cR, int i64 bars, .slice aT nT cT, .slice aP nP cP, .slice aX nX cX, .slice aS nS cS] 32) (.cells (A1 b) 35)
 unfold A1 at g0 g1 hz hb
 have G0 := qh g0; have G1 := qh g1; have HB := qh hb; have HZ := qh hz
 clear g0 g1 hz hb
 unfold Bh
 have f1 : (er != 0) = true := by simpa using hne
 have f2 : (er != 300) = true := by
  have : er ≠ 300 := by omega
  simpa using this
 clear hv hne
 go_enter Tryz.func9, Tryz.ntmps9
 go_wp2_with fail
 generalize (w.alloc (.cells #[int i64 wd, int i64 dp, int i64 ta, int i64 tb, int i64 tc, .slice aR nR cR, int i64 bars, .slice aT nT cT, .slice aP nP cP, .slice aX nX cX, .slice aS nS cS] 32)).alloc (.cells #[.string ⟨b.name.toArray⟩, int i64 b.weight, int i64 b.lift, int i64 b.girth, int i64 b.step, int i64 b.jump, int i64 b.r0, int i64 b.r1, int i64 b.r2, int i64 b.s0, int i64 b.s1, int i64 b.s2, int i64 b.t0, int i64 b.t1, int i64 b.t2, int i64 b.effort, int i64 b.recover] 35) = w0 at *
 refine (HFD.out w0 (HE.out.below HB.out) (HR.out.below HB.out (qn _)) (HT.out.below HB.out (qn _)) (HP.out.below HB.out (qn _)) (HX.out.below HB.out (qn _)) (HS.out.below HB.out (qn _))).mono ?_
 rintro e w1 ⟨rfl, b1⟩
 have hz := HZ.out
 have B1 := qh (HB.out.trans (b1.mono (by omega)))
 have B2 := qh (B1.out.alloc B1.out.size (.cells #[int i64 0, int i64 0, int i64 0, int i64 0, int i64 0, int i64 0, int i64 0, int i64 0, int i64 0, int i64 0, int i64 0, int i64 0, int i64 0, int i64 0] 72))
 clear HFD HE HR HT HP HX HS HB G0 G1 b1 hz
 unfold Bw
 go_wp2_with fail
 go_ret2
 exact ⟨rfl, B2.out⟩
theorem JW (n : Int) (b : Bod) (hbn : b.name.length ≤ maxLen) (wd dp ta tb tc bars : Int) (aR aT aP aX aS : Option Addr) (cR cT cP cX cS : Nat) (rs : List Rol) (ts : List Tmp) (ps : List Pau) (xs : List Con) (ss : List Sgn) (w : World) (hE : Env w)
  (hR : IsRow De 4 w (.slice aR rs.length cR) rs) (hT : IsRow Bq 3 w (.slice aT ts.length cT) ts) (hP : IsRow Cl 4 w (.slice aP ps.length cP) ps) (hX : IsRow Ck 4 w (.slice aX xs.length cX) xs) (hS : IsRow CF 14 w (.slice aS ss.length cS) ss)
  (hne : Ao ⟨wd, dp, ta, tb, tc, rs, ⟨bars, ts, ps, xs⟩, ss⟩ = 0) (hid : idF ss n = false) :
  Calls Tryz.prog 9 #[.agg #[int i64 wd, int i64 dp, int i64 ta, int i64 tb, int i64 tc, .slice aR rs.length cR, int i64 bars, .slice aT ts.length cT, .slice aP ps.length cP, .slice aX xs.length cX, .slice aS ss.length cS], int i64 n, Bh b] w fun e w' => e = .returned (.tuple #[.slice none 0 0, int i64 (if AG b then 300 else 250)]) ∧ Below w.heap.size w w' := by
 have hfd := fun (w : World) hE hR hT hP hX hS => DE n wd dp ta tb tc bars aR aT aP aX aS cR cT cP cX cS rs ts ps xs ss w hE hR hT hP hX hS
 have hbc := fun w => DN b hbn w
 have hfv : CR ⟨wd, dp, ta, tb, tc, rs, ⟨bars, ts, ps, xs⟩, ss⟩ n = .tuple #[.agg Bw, int i64 300] := by unfold CR; rw [if_pos hne, hid]; rfl
 rw [hfv] at hfd
 have HBC := qh hbc; have HFD := qh hfd; have HE := qh hE; have HR := qh hR; have HT := qh hT; have HP := qh hP; have HX := qh hX; have HS := qh hS
 clear hfd hE hR hT hP hX hS hfv hne hid hbc
 generalize rs.length = nR at *
 generalize ts.length = nT at *
 generalize ps.length = nP at *
 generalize xs.length = nX at *
 generalize ss.length = nS at *
 obtain ⟨g0, g1, hz, hb⟩ := Bn w (.cells #[int i64 wd, int i64 dp, int i64 ta, int i64 tb, int i64 tc, .slice aR nR cR, int i64 bars, .slice aT nT cT, .slice aP nP cP, .slice aX nX cX, .slice aS nS cS] 32) (.cells (A1 b) 35)
 unfold A1 at g0 g1 hz hb
 have G0 := qh g0; have G1 := qh g1; have HB := qh hb; have HZ := qh hz
 clear g0 g1 hz hb
 unfold Bh
 go_enter Tryz.func9, Tryz.ntmps9
 go_wp2_with fail
 generalize (w.alloc (.cells #[int i64 wd, int i64 dp, int i64 ta, int i64 tb, int i64 tc, .slice aR nR cR, int i64 bars, .slice aT nT cT, .slice aP nP cP, .slice aX nX cX, .slice aS nS cS] 32)).alloc (.cells #[.string ⟨b.name.toArray⟩, int i64 b.weight, int i64 b.lift, int i64 b.girth, int i64 b.step, int i64 b.jump, int i64 b.r0, int i64 b.r1, int i64 b.r2, int i64 b.s0, int i64 b.s1, int i64 b.s2, int i64 b.t0, int i64 b.t1, int i64 b.t2, int i64 b.effort, int i64 b.recover] 35) = w0 at *
 refine (HFD.out w0 (HE.out.below HB.out) (HR.out.below HB.out (qn _)) (HT.out.below HB.out (qn _)) (HP.out.below HB.out (qn _)) (HX.out.below HB.out (qn _)) (HS.out.below HB.out (qn _))).mono ?_
 rintro e w1 ⟨rfl, b1⟩
 have hz := HZ.out
 have hb1 := b1.size
 have B1 := qh (HB.out.trans (b1.mono (by omega)))
 have hb2 : Below w.heap.size w (w1.alloc (.cells Bw 72)) := B1.out.alloc B1.out.size (.cells Bw 72)
 have g1 := ((Below.refl w1.heap.size w1).alloc (qn _) (.cells Bw 72)).block (w.heap.size + 1) (by omega)
 rw [(b1.block _ (by omega)).trans G1.out] at g1
 clear HFD HE HR HT HP HX HS HB G0 G1 b1 hz B1
 unfold Bw at hb2 g1 ⊢
 have B2 := qh hb2; have G1 := qh g1
 clear hb2 g1
 have p0 : (w1.alloc (.cells #[int i64 0, int i64 0, int i64 0, int i64 0, int i64 0, int i64 0, int i64 0, int i64 0, int i64 0, int i64 0, int i64 0, int i64 0, int i64 0, int i64 0] 72)).cell? ⟨w.heap.size + 1, 0, none⟩ = some (.string ⟨b.name.toArray⟩) := A0 G1.out 0 rfl
 have p1 : (w1.alloc (.cells #[int i64 0, int i64 0, int i64 0, int i64 0, int i64 0, int i64 0, int i64 0, int i64 0, int i64 0, int i64 0, int i64 0, int i64 0, int i64 0, int i64 0] 72)).cell? ⟨w.heap.size + 1, 1, none⟩ = some (int i64 b.weight) := A0 G1.out 1 rfl
 have p2 : (w1.alloc (.cells #[int i64 0, int i64 0, int i64 0, int i64 0, int i64 0, int i64 0, int i64 0, int i64 0, int i64 0, int i64 0, int i64 0, int i64 0, int i64 0, int i64 0] 72)).cell? ⟨w.heap.size + 1, 2, none⟩ = some (int i64 b.lift) := A0 G1.out 2 rfl
 have p3 : (w1.alloc (.cells #[int i64 0, int i64 0, int i64 0, int i64 0, int i64 0, int i64 0, int i64 0, int i64 0, int i64 0, int i64 0, int i64 0, int i64 0, int i64 0, int i64 0] 72)).cell? ⟨w.heap.size + 1, 3, none⟩ = some (int i64 b.girth) := A0 G1.out 3 rfl
 have p4 : (w1.alloc (.cells #[int i64 0, int i64 0, int i64 0, int i64 0, int i64 0, int i64 0, int i64 0, int i64 0, int i64 0, int i64 0, int i64 0, int i64 0, int i64 0, int i64 0] 72)).cell? ⟨w.heap.size + 1, 4, none⟩ = some (int i64 b.step) := A0 G1.out 4 rfl
 have p5 : (w1.alloc (.cells #[int i64 0, int i64 0, int i64 0, int i64 0, int i64 0, int i64 0, int i64 0, int i64 0, int i64 0, int i64 0, int i64 0, int i64 0, int i64 0, int i64 0] 72)).cell? ⟨w.heap.size + 1, 5, none⟩ = some (int i64 b.jump) := A0 G1.out 5 rfl
 have p6 : (w1.alloc (.cells #[int i64 0, int i64 0, int i64 0, int i64 0, int i64 0, int i64 0, int i64 0, int i64 0, int i64 0, int i64 0, int i64 0, int i64 0, int i64 0, int i64 0] 72)).cell? ⟨w.heap.size + 1, 6, none⟩ = some (int i64 b.r0) := A0 G1.out 6 rfl
 have p7 : (w1.alloc (.cells #[int i64 0, int i64 0, int i64 0, int i64 0, int i64 0, int i64 0, int i64 0, int i64 0, int i64 0, int i64 0, int i64 0, int i64 0, int i64 0, int i64 0] 72)).cell? ⟨w.heap.size + 1, 7, none⟩ = some (int i64 b.r1) := A0 G1.out 7 rfl
 have p8 : (w1.alloc (.cells #[int i64 0, int i64 0, int i64 0, int i64 0, int i64 0, int i64 0, int i64 0, int i64 0, int i64 0, int i64 0, int i64 0, int i64 0, int i64 0, int i64 0] 72)).cell? ⟨w.heap.size + 1, 8, none⟩ = some (int i64 b.r2) := A0 G1.out 8 rfl
 have p9 : (w1.alloc (.cells #[int i64 0, int i64 0, int i64 0, int i64 0, int i64 0, int i64 0, int i64 0, int i64 0, int i64 0, int i64 0, int i64 0, int i64 0, int i64 0, int i64 0] 72)).cell? ⟨w.heap.size + 1, 9, none⟩ = some (int i64 b.s0) := A0 G1.out 9 rfl
 have p10 : (w1.alloc (.cells #[int i64 0, int i64 0, int i64 0, int i64 0, int i64 0, int i64 0, int i64 0, int i64 0, int i64 0, int i64 0, int i64 0, int i64 0, int i64 0, int i64 0] 72)).cell? ⟨w.heap.size + 1, 10, none⟩ = some (int i64 b.s1) := A0 G1.out 10 rfl
 have p11 : (w1.alloc (.cells #[int i64 0, int i64 0, int i64 0, int i64 0, int i64 0, int i64 0, int i64 0, int i64 0, int i64 0, int i64 0, int i64 0, int i64 0, int i64 0, int i64 0] 72)).cell? ⟨w.heap.size + 1, 11, none⟩ = some (int i64 b.s2) := A0 G1.out 11 rfl
 have p12 : (w1.alloc (.cells #[int i64 0, int i64 0, int i64 0, int i64 0, int i64 0, int i64 0, int i64 0, int i64 0, int i64 0, int i64 0, int i64 0, int i64 0, int i64 0, int i64 0] 72)).cell? ⟨w.heap.size + 1, 12, none⟩ = some (int i64 b.t0) := A0 G1.out 12 rfl
 have p13 : (w1.alloc (.cells #[int i64 0, int i64 0, int i64 0, int i64 0, int i64 0, int i64 0, int i64 0, int i64 0, int i64 0, int i64 0, int i64 0, int i64 0, int i64 0, int i64 0] 72)).cell? ⟨w.heap.size + 1, 13, none⟩ = some (int i64 b.t1) := A0 G1.out 13 rfl
 have p14 : (w1.alloc (.cells #[int i64 0, int i64 0, int i64 0, int i64 0, int i64 0, int i64 0, int i64 0, int i64 0, int i64 0, int i64 0, int i64 0, int i64 0, int i64 0, int i64 0] 72)).cell? ⟨w.heap.size + 1, 14, none⟩ = some (int i64 b.t2) := A0 G1.out 14 rfl
 have p15 : (w1.alloc (.cells #[int i64 0, int i64 0, int i64 0, int i64 0, int i64 0, int i64 0, int i64 0, int i64 0, int i64 0, int i64 0, int i64 0, int i64 0, int i64 0, int i64 0] 72)).cell? ⟨w.heap.size + 1, 15, none⟩ = some (int i64 b.effort) := A0 G1.out 15 rfl
 have p16 : (w1.alloc (.cells #[int i64 0, int i64 0, int i64 0, int i64 0, int i64 0, int i64 0, int i64 0, int i64 0, int i64 0, int i64 0, int i64 0, int i64 0, int i64 0, int i64 0] 72)).cell? ⟨w.heap.size + 1, 16, none⟩ = some (int i64 b.recover) := A0 G1.out 16 rfl
 go_wp2_with fail
 refine (HBC.out _).mono ?_
 rintro e w3 ⟨rfl, hb3⟩
 have B3 := qh (B2.out.trans (hb3.mono B2.out.size))
 clear p0 p1 p2 p3 p4 p5 p6 p7 p8 p9 p10 p11 p12 p13 p14 p15 p16 hb3 B2 G1 HBC
 cases hbb : AG b with
 | false =>
  rw [show AP false 250 = 250 from rfl]
  go_wp2_with fail
  all_goals
   go_ret2
   first
    | exact ⟨rfl, B3.out⟩
    | (exfalso; simp_all)
 | true =>
  rw [show AP true 250 = 0 from rfl]
  go_wp2_with fail
  all_goals
   go_ret2
   first
    | exact ⟨rfl, B3.out⟩
    | (exfalso; simp_all)
end
section
open Go Go.RowKit
theorem Rp (k : Wrk) (s : Sgn) {b : Bod} (hb : AG b = true) : (doL k s b).length ≤ 1000 := by
 have h0 := CJ hb (i := 0) (by omega)
 have h1 := CJ hb (i := 1) (by omega)
 have h2 := CJ hb (i := 2) (by omega)
 have key : ∀ t : Nat, t ≤ 3 → (C3 k.ta k.tc s t).length ≤ 1000 := by
  intro t ht
  unfold C3
  rw [List.length_map, Ch]
  exact Nat.le_trans (EC k.ta k.tc s t 9) (by omega)
 simp only [Ec] at h0 h1 h2
 unfold doL Cb
 split
 ·split <;> simp
 split
 ·split <;> simp
 split
 ·exact key _ (by omega)
 split
 ·exact key _ (by omega)
 split
 ·exact key _ (by omega)
 split <;> simp
theorem Ql {ss : List Sgn} {n : Int} (h : idF ss n = true) : ss[idP ss n]! ∈ ss := by
 unfold idF at h
 cases hs : ss[idP ss n]? with
 | none => rw [hs] at h; simp at h
 | some s => rw [List.getElem!_eq_getElem?_getD, hs]; exact List.mem_of_getElem? hs
theorem Rx {ss : List Sgn} {n : Int} (h : idF ss n = true) : ss[idP ss n]!.id = n := by
 unfold idF at h
 cases hs : ss[idP ss n]? with
 | none => rw [hs] at h; simp at h
 | some s => rw [hs] at h; rw [List.getElem!_eq_getElem?_getD, hs]; simpa using h
def Ag : Nat → Code → Code
 | 0, c => c
 | k + 1, .seq _ b => Ag k b
 | _, c => c
def A8 : Nat → Code → Code → Code
 | 0, _, x => x
 | k + 1, .seq a b, x => .seq a (A8 k b x)
 | _, c, _ => c
noncomputable def ET : Code := (Tryz.f9.body).getD .skip
noncomputable def Ho : Code := Ag 5 ET
noncomputable def Hf : Code := Ag 6 ET
theorem JU (n : Int) (s : Sgn) (DL : List Rea) (hlen : DL.length ≤ 1000) (hsid : s.id = n) (w w5 : World) (K8 : Nat) (v : Value) (mk : w5.cell? ⟨K8, 3, none⟩ = some (int i64 s.mark)) (ho : w5.ownsRow w.heap.size 37 4 v DL.length (DL.flatMap Ai)) (hB5 : Below w.heap.size w w5) (e0 e2 e3 e4 e5 e9 ea eb ec ed ee ef eg eh ei ej ek el em en eo ep eq er es et eu ev ew ex ey ez eA eB eC eD eE eF eG eH eI eJ eK eL eM eN eO eP eQ eR eS eT eU eV eW : Value) :
  Code.wp Tryz.prog Hf (bodyPost Tryz.prog Tryz.f9 fun e w' => ∃ v, e = .returned (.tuple #[v, int i64 0]) ∧ w'.ownsRow w.heap.size 37 4 v (DL ++ AB s).length ((DL ++ AB s).flatMap Ai) ∧ Below w.heap.size w w') { tmps := #[e0, int i64 n, e2, e3, e4, e5, v, int i64 0, .pointer (some ⟨K8, 0, none⟩), e9, ea, eb, ec, ed, ee, ef, eg, eh, ei, ej, ek, el, em, en, eo, ep, eq, er, es, et, eu, ev, ew, ex, ey, ez, eA, eB, eC, eD, eE, eF, eG, eH, eI, eJ, eK, eL, eM, eN, eO, eP, eQ, eR, eS, eT, eU, eV, eW], defers := [] } w5 := by
 obtain ⟨j0, hj0, hjz, hjs, hjb⟩ := info_parts GV
 have HO := qh ho; have B5 := qh hB5; have HID := qh hsid
 clear ho hB5 hsid
 unfold Hf ET
 conv => arg 2; whnf
 by_cases hmk : s.mark = 1
 ·have f9 : (s.mark != 1) = false := by simpa using hmk
  have HD := qh (show AB s = [] by unfold AB; rw [if_pos hmk])
  clear hmk
  go_wp2_with fail
  go_ret2
  exact ⟨_, rfl, by rw [HD.out, List.append_nil]; exact HO.out, B5.out⟩
 ·have f9 : (s.mark != 1) = true := by simpa using hmk
  have HD := qh (show AB s = [⟨n, 0, 0, true⟩] by unfold AB; rw [if_neg hmk, HID.out])
  have hpar : ∀ j u, (Ai ⟨n, 0, 0, true⟩)[j]? = some u → (w5.alloc (.cells #[int i64 n, int i64 0, int i64 0, .bool true] 37)).cell? ((⟨w5.heap.size, 0, none⟩ : Addr).add j) = some u := by
   intro j u hj
   rw [Bj, Nat.zero_add]
   exact A0 (heap_alloc_new w5 _) j (by simpa [Ai] using hj)
  have HP := qh hpar
  have hb5s := B5.out.size
  clear hmk hpar
  go_wp2_with (at_builtin; refine wpList_append_own _ rfl _ _ 40 rfl w.heap.size 37 j0 _ 4 32 Tryz.underlying40 hj0 hjz hjs hjb rfl (by decide) _ _ _ rfl (HO.out.alloc _) ⟨w5.heap.size, 0, none⟩ 1 1 (Ai ⟨n, 0, 0, true⟩) rfl rfl HP.out (Dd _) (by simp only [maxLen]; omega) (by omega) (by simp; omega) ?_; intro v' w6 hown hgrow _)
  have HB6 := qh ((B5.out.alloc hb5s (.cells #[int i64 n, int i64 0, int i64 0, .bool true] 37)).grown hgrow (by simp; omega) (fun j h => (EJ HO.out (g := j) h).1))
  go_ret2
  exact ⟨_, rfl, by rw [HD.out, List.length_append, List.flatMap_append]; simpa using hown, HB6.out⟩
end
section
open Go
def Kz : Code → Code | .block _ c => c | c => c
def RA : Code → Code | .loop c => c | c => c
def Bu : Code → Code | .seq a _ => a | c => c
def At : Code → Code | .seq _ b => b | c => c
end
section
open Go Go.RowKit
theorem II (n : Int) (b : Bod) (s : Sgn) (DL : List Rea) (w w3 : World) (B K8 : Nat) (hz2w : 2 ≤ w.heap.size) (hE : Env w) (wd dp ta tb tc bars : Int) (aR aT aP aX aS : Option Addr) (nR nT nP nX nS cR cT cP cX cS : Nat)
  (hdk : ∀ w W, Env W → 2 ≤ W.heap.size → KS w W (CY w.heap.size) K7 → ∃ g lb, BX (CY w.heap.size) s.kind = some (.func (.func g) #[] lb) ∧ (∀ args w, (callFunc g args).run Tryz.prog w = .ok (.enter g args) w) ∧ Sh W g lb ta tb tc s b DL)
  (hB3 : Below w.heap.size w w3) (g0 : w3.heap[B]? = some (.cells #[int i64 wd, int i64 dp, int i64 ta, int i64 tb, int i64 tc, .slice aR nR cR, int i64 bars, .slice aT nT cT, .slice aP nP cP, .slice aX nX cX, .slice aS nS cS] 32 (0, 0))) (g1 : w3.heap[B + 1]? = some (.cells (A1 b) 35 (0, 0))) (g2 : w3.heap[K8]? = some (.cells (Ar s) 72 (0, 0))) (e0 e2 e4 e6 e9 ea eb ec ed ee ef eg eh ei ej ek el em en eo ep eq er es et eu ev ew ex ey ez eA eB eC eD eE eF eG eH eI eJ eK eL eM eN eO eP eQ eR eS eT eU eV eW : Value) (X : Code)
  (hX : ∀ (v : Value) (w5 : World) (e0 e2 e3 e4 e5 e9 ea eb ec ed ee ef eg eh ei ej ek el em en eo ep eq er es et eu ev ew ex ey ez eA eB eC eD eE eF eG eH eI eJ eK eL eM eN eO eP eQ eR eS eT eU eV eW : Value), w5.cell? ⟨K8, 3, none⟩ = some (int i64 s.mark) → w5.ownsRow w.heap.size 37 4 v DL.length (DL.flatMap Ai) → Below w.heap.size w w5 → Code.wp Tryz.prog X (bodyPost Tryz.prog Tryz.f9 fun e w' => ∃ v, e = .returned (.tuple #[v, int i64 0]) ∧ w'.ownsRow w.heap.size 37 4 v (DL ++ AB s).length ((DL ++ AB s).flatMap Ai) ∧ Below w.heap.size w w') { tmps := #[e0, int i64 n, e2, e3, e4, e5, v, int i64 0, .pointer (some ⟨K8, 0, none⟩), e9, ea, eb, ec, ed, ee, ef, eg, eh, ei, ej, ek, el, em, en, eo, ep, eq, er, es, et, eu, ev, ew, ex, ey, ez, eA, eB, eC, eD, eE, eF, eG, eH, eI, eJ, eK, eL, eM, eN, eO, eP, eQ, eR, eS, eT, eU, eV, eW], defers := [] } w5) :
  Code.wp Tryz.prog (A8 1 Ho X) (bodyPost Tryz.prog Tryz.f9 fun e w' => ∃ v, e = .returned (.tuple #[v, int i64 0]) ∧ w'.ownsRow w.heap.size 37 4 v (DL ++ AB s).length ((DL ++ AB s).flatMap Ai) ∧ Below w.heap.size w w') { tmps := #[e0, int i64 n, e2, .pointer (some ⟨B, 0, none⟩), e4, .pointer (some ⟨B + 1, 0, none⟩), e6, int i64 0, .pointer (some ⟨K8, 0, none⟩), e9, ea, eb, ec, ed, ee, ef, eg, eh, ei, ej, ek, el, em, en, eo, ep, eq, er, es, et, eu, ev, ew, ex, ey, ez, eA, eB, eC, eD, eE, eF, eG, eH, eI, eJ, eK, eL, eM, eN, eO, eP, eQ, eR, eS, eT, eU, eV, eW], defers := [] } w3 := by
 have hz1 : B + 1 < w3.heap.size := (qs.1 g1).1
 have hz5 : K8 < w3.heap.size := (qs.1 g2).1
 have kc4 : w3.cell? ⟨K8, 4, none⟩ = some (int i64 s.kind) := A0 g2 4 rfl
 have hz6 : 2 ≤ w3.heap.size := Nat.le_trans hz2w hB3.size
 have B3 := qh hB3; have G0 := qh g0; have G1 := qh g1; have G2 := qh g2; have HDK := qh hdk; have HE := qh hE; have HX := qh hX
 clear hdk g0 g1 g2 hE hX hB3
 unfold Ho ET
 conv => arg 2; whnf
 go_wp2_with fail
 go_region_with (go_at_call 35; refine (Jc _).mono ?_; rintro e w4 ⟨rfl, hks⟩; have hc4 : w4.cell? ⟨K8, 4, none⟩ = some (int i64 s.kind) := (hks.2.2.2.2.cell (p := ⟨K8, 4, none⟩) (show K8 < _ from hz5)).trans kc4; obtain ⟨g, lb, hkg, heg, hdo⟩ := HDK.out w3.drew w4 (HE.out.two hz2w (B3.out.drew.trans (hks.2.2.2.2.mono B3.out.size))) (Nat.le_trans hz6 hks.2.2.2.2.size) hks; have hlk : Sem.run Tryz.prog (Instr.lookup 78 (.map (some w3.heap.size)) (int i64 s.kind) true) w4 = .ok (.tuple #[.func (.func g) #[] lb, .bool true]) w4 := (Dv (P := Tryz.prog) (T := 78) Tryz.underlying78 Tryz.underlying3 hks.1 s.kind (Tryz.zeroValue76 _) true).trans (by rw [hkg]; rfl); have hdo2 := hdo w4 (Below.refl _ _); rw [show Hc s = .agg (Ar s) from rfl, show Bh b = .agg (A1 b) from rfl] at hdo2; have HDO := qh hdo2; have HKS := qh hks; clear hks hdo hdo2 hkg)
 all_goals
  have hb4 := HKS.out.2.2.2.2
  have hz4 := hb4.size
  have hB4 : Below w.heap.size w w4 := B3.out.drew.trans (hb4.mono (by show w.heap.size ≤ w3.heap.size; exact B3.out.size))
  have k0 := (hb4.block B (show B < w3.heap.size by omega)).trans G0.out
  have k1 := (hb4.block (B + 1) (show B + 1 < w3.heap.size by omega)).trans G1.out
  have k2 := (hb4.block K8 (show K8 < w3.heap.size by omega)).trans G2.out
  have B4 := qh hB4
  have q0 : w4.cell? ⟨B, 2, none⟩ = some (int i64 ta) := A0 k0 2 rfl
  have q1 : w4.cell? ⟨B, 3, none⟩ = some (int i64 tb) := A0 k0 3 rfl
  have q2 : w4.cell? ⟨B, 4, none⟩ = some (int i64 tc) := A0 k0 4 rfl
  have K2 := qh k2; have K1 := qh k1
  clear hb4 hz4 hB4 k0 k1 k2 hlk hc4 HKS kc4
  go_wp2_with (first | (refine wpList_load_row rfl 72 _ rfl K8 rfl 72 (Ar s) (0, 0) _ K2.out Tryz.underlying72 rfl (by kernel_rfl) ?_; simp only [Act.put, qD, qE, qF]) | (refine wpList_load_row rfl 35 _ rfl (B + 1) rfl 35 (A1 b) (0, 0) _ K1.out Tryz.underlying35 rfl (by kernel_rfl) ?_; simp only [Act.put, qD, qE, qF]))
  refine HDO.out.mono ?_
  rintro e w5 ⟨v, rfl, ho, hb5⟩
  have HO := qh (Bd ho B4.out.size)
  have B5 := qh (B4.out.trans (hb5.mono B4.out.size))
  have mk : w5.cell? ⟨K8, 3, none⟩ = some (int i64 s.mark) := A0 ((hb5.block _ (show K8 < w4.heap.size from (qs.1 K2.out).1)).trans K2.out) 3 rfl
  clear ho hb5 HDO heg q0 q1 q2 K1
  have MK := qh mk
  clear mk
  go_wp2_with fail
  exact HX.out _ _ _ _ _ _ _ _ _ _ _ _ _ _ _ _ _ _ _ _ _ _ _ _ _ _ _ _ _ _ _ _ _ _ _ _ _ _ _ _ _ _ _ _ _ _ _ _ _ _ _ _ _ _ _ _ _ MK.out HO.out B5.out
theorem GF (n : Int) (b : Bod) (s : Sgn) (DL : List Rea) (hsid : s.id = n) (w w3 : World) (B K8 : Nat) (hz2w : 2 ≤ w.heap.size) (hE : Env w) (wd dp ta tb tc bars : Int) (aR aT aP aX aS : Option Addr) (nR nT nP nX nS cR cT cP cX cS : Nat)
  (hkn : ∀ N, BX (CY N) s.kind = none) (hDL : DL = [⟨s.id, 0, 0, false⟩])
  (hB3 : Below w.heap.size w w3) (g0 : w3.heap[B]? = some (.cells #[int i64 wd, int i64 dp, int i64 ta, int i64 tb, int i64 tc, .slice aR nR cR, int i64 bars, .slice aT nT cT, .slice aP nP cP, .slice aX nX cX, .slice aS nS cS] 32 (0, 0))) (g1 : w3.heap[B + 1]? = some (.cells (A1 b) 35 (0, 0))) (g2 : w3.heap[K8]? = some (.cells (Ar s) 72 (0, 0))) (e0 e2 e4 e6 e9 ea eb ec ed ee ef eg eh ei ej ek el em en eo ep eq er es et eu ev ew ex ey ez eA eB eC eD eE eF eG eH eI eJ eK eL eM eN eO eP eQ eR eS eT eU eV eW : Value) (X : Code)
  (hX : ∀ (v : Value) (w5 : World) (e0 e2 e3 e4 e5 e9 ea eb ec ed ee ef eg eh ei ej ek el em en eo ep eq er es et eu ev ew ex ey ez eA eB eC eD eE eF eG eH eI eJ eK eL eM eN eO eP eQ eR eS eT eU eV eW : Value), w5.cell? ⟨K8, 3, none⟩ = some (int i64 s.mark) → w5.ownsRow w.heap.size 37 4 v DL.length (DL.flatMap Ai) → Below w.heap.size w w5 → Code.wp Tryz.prog X (bodyPost Tryz.prog Tryz.f9 fun e w' => ∃ v, e = .returned (.tuple #[v, int i64 0]) ∧ w'.ownsRow w.heap.size 37 4 v (DL ++ AB s).length ((DL ++ AB s).flatMap Ai) ∧ Below w.heap.size w w') { tmps := #[e0, int i64 n, e2, e3, e4, e5, v, int i64 0, .pointer (some ⟨K8, 0, none⟩), e9, ea, eb, ec, ed, ee, ef, eg, eh, ei, ej, ek, el, em, en, eo, ep, eq, er, es, et, eu, ev, ew, ex, ey, ez, eA, eB, eC, eD, eE, eF, eG, eH, eI, eJ, eK, eL, eM, eN, eO, eP, eQ, eR, eS, eT, eU, eV, eW], defers := [] } w5) :
  Code.wp Tryz.prog (A8 1 Ho X) (bodyPost Tryz.prog Tryz.f9 fun e w' => ∃ v, e = .returned (.tuple #[v, int i64 0]) ∧ w'.ownsRow w.heap.size 37 4 v (DL ++ AB s).length ((DL ++ AB s).flatMap Ai) ∧ Below w.heap.size w w') { tmps := #[e0, int i64 n, e2, .pointer (some ⟨B, 0, none⟩), e4, .pointer (some ⟨B + 1, 0, none⟩), e6, int i64 0, .pointer (some ⟨K8, 0, none⟩), e9, ea, eb, ec, ed, ee, ef, eg, eh, ei, ej, ek, el, em, en, eo, ep, eq, er, es, et, eu, ev, ew, ex, ey, ez, eA, eB, eC, eD, eE, eF, eG, eH, eI, eJ, eK, eL, eM, eN, eO, eP, eQ, eR, eS, eT, eU, eV, eW], defers := [] } w3 := by
 have hz1 : B + 1 < w3.heap.size := (qs.1 g1).1
 have hz5 : K8 < w3.heap.size := (qs.1 g2).1
 have kc4 : w3.cell? ⟨K8, 4, none⟩ = some (int i64 s.kind) := A0 g2 4 rfl
 have hz6 : 2 ≤ w3.heap.size := Nat.le_trans hz2w hB3.size
 have B3 := qh hB3; have G0 := qh g0; have G1 := qh g1; have G2 := qh g2; have HKN := qh hkn; have HDL := qh hDL; have HE := qh hE; have HID := qh hsid; have HX := qh hX
 clear hkn hDL g0 g1 g2 hE hsid hX hB3
 unfold Ho ET
 conv => arg 2; whnf
 go_wp2_with fail
 go_region_with (go_at_call 35; refine (Jc _).mono ?_; rintro e w4 ⟨rfl, hks⟩; have hc4 : w4.cell? ⟨K8, 4, none⟩ = some (int i64 s.kind) := (hks.2.2.2.2.cell (p := ⟨K8, 4, none⟩) (show K8 < _ from hz5)).trans kc4; have hlk : Sem.run Tryz.prog (Instr.lookup 78 (.map (some w3.heap.size)) (int i64 s.kind) true) w4 = .ok (.tuple #[.nilFunc, .bool false]) w4 := (Dv (P := Tryz.prog) (T := 78) Tryz.underlying78 Tryz.underlying3 hks.1 s.kind (Tryz.zeroValue76 _) true).trans (by rw [HKN.out]; rfl); have HKS := qh hks; clear hks)
 all_goals
  have hb4 := HKS.out.2.2.2.2
  have hz4 := hb4.size
  have hB4 : Below w.heap.size w w4 := B3.out.drew.trans (hb4.mono (by show w.heap.size ≤ w3.heap.size; exact B3.out.size))
  have k0 := (hb4.block B (show B < w3.heap.size by omega)).trans G0.out
  have k1 := (hb4.block (B + 1) (show B + 1 < w3.heap.size by omega)).trans G1.out
  have k2 := (hb4.block K8 (show K8 < w3.heap.size by omega)).trans G2.out
  have B4 := qh hB4
  have q0 : w4.cell? ⟨B, 2, none⟩ = some (int i64 ta) := A0 k0 2 rfl
  have q1 : w4.cell? ⟨B, 3, none⟩ = some (int i64 tb) := A0 k0 3 rfl
  have q2 : w4.cell? ⟨B, 4, none⟩ = some (int i64 tc) := A0 k0 4 rfl
  have r0 : w4.cell? ⟨K8, 0, none⟩ = some (int i64 s.id) := A0 k2 0 rfl
  have r1 : w4.cell? ⟨K8, 1, none⟩ = some (int i64 s.role) := A0 k2 1 rfl
  have r2 : w4.cell? ⟨K8, 2, none⟩ = some (int i64 s.bar) := A0 k2 2 rfl
  have r3 : w4.cell? ⟨K8, 3, none⟩ = some (int i64 s.mark) := A0 k2 3 rfl
  have r4 : w4.cell? ⟨K8, 4, none⟩ = some (int i64 s.kind) := A0 k2 4 rfl
  have r5 : w4.cell? ⟨K8, 5, none⟩ = some (int i64 s.side) := A0 k2 5 rfl
  have r6 : w4.cell? ⟨K8, 6, none⟩ = some (int i64 s.dir) := A0 k2 6 rfl
  have r7 : w4.cell? ⟨K8, 7, none⟩ = some (int i64 s.level) := A0 k2 7 rfl
  have r8 : w4.cell? ⟨K8, 8, none⟩ = some (int i64 s.size) := A0 k2 8 rfl
  have r9 : w4.cell? ⟨K8, 9, none⟩ = some (int i64 s.wth) := A0 k2 9 rfl
  have r10 : w4.cell? ⟨K8, 10, none⟩ = some (int i64 s.fn) := A0 k2 10 rfl
  have r11 : w4.cell? ⟨K8, 11, none⟩ = some (int i64 s.fd) := A0 k2 11 rfl
  have r12 : w4.cell? ⟨K8, 12, none⟩ = some (int i64 s.tn) := A0 k2 12 rfl
  have r13 : w4.cell? ⟨K8, 13, none⟩ = some (int i64 s.td) := A0 k2 13 rfl
  have p0 : w4.cell? ⟨B + 1, 0, none⟩ = some (.string ⟨b.name.toArray⟩) := A0 k1 0 rfl
  have p1 : w4.cell? ⟨B + 1, 1, none⟩ = some (int i64 b.weight) := A0 k1 1 rfl
  have p2 : w4.cell? ⟨B + 1, 2, none⟩ = some (int i64 b.lift) := A0 k1 2 rfl
  have p3 : w4.cell? ⟨B + 1, 3, none⟩ = some (int i64 b.girth) := A0 k1 3 rfl
  have p4 : w4.cell? ⟨B + 1, 4, none⟩ = some (int i64 b.step) := A0 k1 4 rfl
  have p5 : w4.cell? ⟨B + 1, 5, none⟩ = some (int i64 b.jump) := A0 k1 5 rfl
  have p6 : w4.cell? ⟨B + 1, 6, none⟩ = some (int i64 b.r0) := A0 k1 6 rfl
  have p7 : w4.cell? ⟨B + 1, 7, none⟩ = some (int i64 b.r1) := A0 k1 7 rfl
  have p8 : w4.cell? ⟨B + 1, 8, none⟩ = some (int i64 b.r2) := A0 k1 8 rfl
  have p9 : w4.cell? ⟨B + 1, 9, none⟩ = some (int i64 b.s0) := A0 k1 9 rfl
  have p10 : w4.cell? ⟨B + 1, 10, none⟩ = some (int i64 b.s1) := A0 k1 10 rfl
  have p11 : w4.cell? ⟨B + 1, 11, none⟩ = some (int i64 b.s2) := A0 k1 11 rfl
  have p12 : w4.cell? ⟨B + 1, 12, none⟩ = some (int i64 b.t0) := A0 k1 12 rfl
  have p13 : w4.cell? ⟨B + 1, 13, none⟩ = some (int i64 b.t1) := A0 k1 13 rfl
  have p14 : w4.cell? ⟨B + 1, 14, none⟩ = some (int i64 b.t2) := A0 k1 14 rfl
  have p15 : w4.cell? ⟨B + 1, 15, none⟩ = some (int i64 b.effort) := A0 k1 15 rfl
  have p16 : w4.cell? ⟨B + 1, 16, none⟩ = some (int i64 b.recover) := A0 k1 16 rfl
  have K2 := qh k2
  clear hb4 hz4 hB4 k0 k1 k2 hlk hc4 HKS kc4
  have ho := EB w4 ⟨n, 0, 0, false⟩
  have hb5 : Below w4.heap.size w4 (w4.alloc (.cells #[int i64 n, int i64 0, int i64 0, .bool false] 37)) := (Below.refl _ _).alloc (qn _) _
  have hDLl : DL = [⟨n, 0, 0, false⟩] := by rw [HDL.out, HID.out]
  have ho2 : (w4.alloc (.cells #[int i64 n, int i64 0, int i64 0, .bool false] 37)).ownsRow w.heap.size 37 4 (.slice (some ⟨w4.heap.size, 0, none⟩) 1 1) DL.length (DL.flatMap Ai) := by rw [hDLl]; exact Bd ho B4.out.size
  have HO := qh ho2
  have B5 := qh (B4.out.trans (hb5.mono B4.out.size))
  have mk : (w4.alloc (.cells #[int i64 n, int i64 0, int i64 0, .bool false] 37)).cell? ⟨K8, 3, none⟩ = some (int i64 s.mark) := A0 ((hb5.block _ (show K8 < w4.heap.size from (qs.1 K2.out).1)).trans K2.out) 3 rfl
  clear ho ho2 hb5 hDLl q0 q1 q2 r0 r1 r2 r3 r4 r5 r6 r7 r8 r9 r10 r11 r12 r13 p0 p1 p2 p3 p4 p5 p6 p7 p8 p9 p10 p11 p12 p13 p14 p15 p16
  have MK := qh mk
  clear mk
  go_wp2_with fail
  exact HX.out _ _ _ _ _ _ _ _ _ _ _ _ _ _ _ _ _ _ _ _ _ _ _ _ _ _ _ _ _ _ _ _ _ _ _ _ _ _ _ _ _ _ _ _ _ _ _ _ _ _ _ _ _ _ _ _ _ MK.out HO.out B5.out
end
section
open Go Go.RowKit
theorem JT (n : Int) (b : Bod) (hbn : b.name.length ≤ maxLen) (wd dp ta tb tc bars : Int) (aR aT aP aX aS : Option Addr) (cR cT cP cX cS : Nat) (rs : List Rol) (ts : List Tmp) (ps : List Pau) (xs : List Con) (ss : List Sgn) (w : World) (hE : Env w)
  (hR : IsRow De 4 w (.slice aR rs.length cR) rs) (hT : IsRow Bq 3 w (.slice aT ts.length cT) ts) (hP : IsRow Cl 4 w (.slice aP ps.length cP) ps) (hX : IsRow Ck 4 w (.slice aX xs.length cX) xs) (hS : IsRow CF 14 w (.slice aS ss.length cS) ss)
  (hne : Ao ⟨wd, dp, ta, tb, tc, rs, ⟨bars, ts, ps, xs⟩, ss⟩ = 0) (hid : idF ss n = true) (hbo : AG b = true) (X : Code) (R : Ending → World → Prop)
  (hK : ∀ (w3 : World) (K8 : Nat) (e0 e2 e4 e6 e9 ea eb ec ed ee ef eg eh ei ej ek el em en eo ep eq er es et eu ev ew ex ey ez eA eB eC eD eE eF eG eH eI eJ eK eL eM eN eO eP eQ eR eS eT eU eV eW : Value), Below w.heap.size w w3 → w3.heap[w.heap.size]? = some (.cells #[int i64 wd, int i64 dp, int i64 ta, int i64 tb, int i64 tc, .slice aR rs.length cR, int i64 bars, .slice aT ts.length cT, .slice aP ps.length cP, .slice aX xs.length cX, .slice aS ss.length cS] 32 (0, 0)) → w3.heap[w.heap.size + 1]? = some (.cells (A1 b) 35 (0, 0)) → w3.heap[K8]? = some (.cells (Ar ss[idP ss n]!) 72 (0, 0)) → Code.wp Tryz.prog X (bodyPost Tryz.prog Tryz.f9 R) { tmps := #[e0, int i64 n, e2, .pointer (some ⟨w.heap.size, 0, none⟩), e4, .pointer (some ⟨w.heap.size + 1, 0, none⟩), e6, int i64 0, .pointer (some ⟨K8, 0, none⟩), e9, ea, eb, ec, ed, ee, ef, eg, eh, ei, ej, ek, el, em, en, eo, ep, eq, er, es, et, eu, ev, ew, ex, ey, ez, eA, eB, eC, eD, eE, eF, eG, eH, eI, eJ, eK, eL, eM, eN, eO, eP, eQ, eR, eS, eT, eU, eV, eW], defers := [] } w3) :
  Code.wp Tryz.prog (A8 5 ET X) (bodyPost Tryz.prog Tryz.f9 R) { tmps := #[.agg #[int i64 wd, int i64 dp, int i64 ta, int i64 tb, int i64 tc, .slice aR rs.length cR, int i64 bars, .slice aT ts.length cT, .slice aP ps.length cP, .slice aX xs.length cX, .slice aS ss.length cS], int i64 n, Bh b, undef, undef, undef, undef, undef, undef, undef, undef, undef, undef, undef, undef, undef, undef, undef, undef, undef, undef, undef, undef, undef, undef, undef, undef, undef, undef, undef, undef, undef, undef, undef, undef, undef, undef, undef, undef, undef, undef, undef, undef, undef, undef, undef, undef, undef, undef, undef, undef, undef, undef, undef, undef, undef, undef, undef, undef], defers := [] } w := by
 have hfd := fun (w : World) hE hR hT hP hX hS => DE n wd dp ta tb tc bars aR aT aP aX aS cR cT cP cX cS rs ts ps xs ss w hE hR hT hP hX hS
 have hbc := fun w => DN b hbn w
 have hfv : CR ⟨wd, dp, ta, tb, tc, rs, ⟨bars, ts, ps, xs⟩, ss⟩ n = .tuple #[.agg (Ar ss[idP ss n]!), int i64 0] := by unfold CR; rw [if_pos hne, hid]; rfl
 rw [hfv] at hfd
 rw [hbo] at hbc
 generalize ss[idP ss n]! = s at *
 have HBC := qh hbc; have HFD := qh hfd; have HE := qh hE; have HR := qh hR; have HT := qh hT; have HP := qh hP; have HX := qh hX; have HS := qh hS; have HK := qh hK
 clear hfd hE hR hT hP hX hS hfv hne hid hbc hbo hK
 generalize rs.length = nR at *
 generalize ts.length = nT at *
 generalize ps.length = nP at *
 generalize xs.length = nX at *
 generalize ss.length = nS at *
 obtain ⟨g0, g1, hz, hb⟩ := Bn w (.cells #[int i64 wd, int i64 dp, int i64 ta, int i64 tb, int i64 tc, .slice aR nR cR, int i64 bars, .slice aT nT cT, .slice aP nP cP, .slice aX nX cX, .slice aS nS cS] 32) (.cells (A1 b) 35)
 have hbv : Bh b = .agg (A1 b) := rfl
 rw [hbv]
 have G0 := qh g0; have G1 := qh g1; have HB := qh hb; have HZ := qh hz; have HBV := qh hbv; have HSA := qh (show (Ar s).all (·.oneCell') = true by simp [Ar, Value.oneCell'])
 clear g0 g1 hz hb hbv
 unfold ET
 conv => arg 2; whnf
 simp only [A8]
 go_wp2_with (first | (refine wpList_load_row rfl 32 _ rfl w.heap.size rfl 32 _ (0, 0) _ G0.out Tryz.underlying32 rfl (by kernel_rfl) ?_; simp only [Act.put, qD, qE, qF]))
 generalize (w.alloc (.cells #[int i64 wd, int i64 dp, int i64 ta, int i64 tb, int i64 tc, .slice aR nR cR, int i64 bars, .slice aT nT cT, .slice aP nP cP, .slice aX nX cX, .slice aS nS cS] 32)).alloc (.cells (A1 b) 35) = w0 at *
 refine (HFD.out w0 (HE.out.below HB.out) (HR.out.below HB.out (qn _)) (HT.out.below HB.out (qn _)) (HP.out.below HB.out (qn _)) (HX.out.below HB.out (qn _)) (HS.out.below HB.out (qn _))).mono ?_
 rintro e w1 ⟨rfl, b1⟩
 have hz := HZ.out
 have hb1 := b1.size
 have B1 := qh (HB.out.trans (b1.mono (by omega)))
 have g0 := (b1.block w.heap.size (by omega)).trans G0.out
 have g1 := (b1.block (w.heap.size + 1) (by omega)).trans G1.out
 have hl : w.heap.size + 1 < w1.heap.size := by omega
 have H0 := qh g0; have H1 := qh g1
 clear HFD HE HR HT HP HX HS HB G0 G1 b1 hz g0 g1 HZ hb1
 have hb5 : Below w1.heap.size w1 (w1.alloc (.cells (Ar s) 72)) := (Below.refl w1.heap.size w1).alloc (qn _) _
 have I0 := qh ((hb5.block w.heap.size (by omega)).trans H0.out)
 have I1 := qh ((hb5.block (w.heap.size + 1) hl).trans H1.out)
 have I2 := qh (heap_alloc_new w1 (.cells (Ar s) 72))
 have B2 := qh (B1.out.trans (hb5.mono B1.out.size))
 have hz2 : (w1.alloc (.cells (Ar s) 72)).heap.size = w1.heap.size + 1 := by simp
 have Z2 := qh hz2
 clear hb5 H0 H1 B1 hz2
 go_wp2_with (first | (refine wpList_store_row rfl 72 _ _ rfl w1.heap.size (Ar s) rfl rfl 72 _ (heap_alloc_new w1 _) (by kernel_rfl) rfl HSA.out ?_; rw [World.setRow_alloc_new]) | (refine wpList_load_row rfl 35 _ rfl (w.heap.size + 1) rfl 35 (A1 b) (0, 0) _ I1.out Tryz.underlying35 rfl (by kernel_rfl) ?_; simp only [Act.put, qD, qE, qF]))
 refine (HBC.out _).mono ?_
 rintro e w3 ⟨rfl, hb3⟩
 rw [show AP true 250 = 0 from rfl]
 have J0 := qh ((hb3.block _ (by have := Z2.out; omega)).trans I0.out)
 have J1 := qh ((hb3.block _ (by have := Z2.out; omega)).trans I1.out)
 have J2 := qh ((hb3.block _ (by have := Z2.out; omega)).trans I2.out)
 have B3 := qh (B2.out.trans (hb3.mono B2.out.size))
 clear hb3 I0 I1 I2 B2 Z2 HBC
 go_wp2_with fail
 exact HK.out w3 w1.heap.size _ _ _ _ _ _ _ _ _ _ _ _ _ _ _ _ _ _ _ _ _ _ _ _ _ _ _ _ _ _ _ _ _ _ _ _ _ _ _ _ _ _ _ _ _ _ _ _ _ _ _ _ _ _ B3.out J0.out J1.out J2.out
theorem JS (n : Int) (b : Bod) (hbn : b.name.length ≤ maxLen) (wd dp ta tb tc bars : Int) (aR aT aP aX aS : Option Addr) (cR cT cP cX cS : Nat) (rs : List Rol) (ts : List Tmp) (ps : List Pau) (xs : List Con) (ss : List Sgn) (w : World) (hE : Env w)
  (hR : IsRow De 4 w (.slice aR rs.length cR) rs) (hT : IsRow Bq 3 w (.slice aT ts.length cT) ts) (hP : IsRow Cl 4 w (.slice aP ps.length cP) ps) (hX : IsRow Ck 4 w (.slice aX xs.length cX) xs) (hS : IsRow CF 14 w (.slice aS ss.length cS) ss)
  (hne : Ao ⟨wd, dp, ta, tb, tc, rs, ⟨bars, ts, ps, xs⟩, ss⟩ = 0) (hid : idF ss n = true) (hbo : AG b = false) :
  Calls Tryz.prog 9 #[.agg #[int i64 wd, int i64 dp, int i64 ta, int i64 tb, int i64 tc, .slice aR rs.length cR, int i64 bars, .slice aT ts.length cT, .slice aP ps.length cP, .slice aX xs.length cX, .slice aS ss.length cS], int i64 n, Bh b] w fun e w' => e = .returned (.tuple #[.slice none 0 0, int i64 250]) ∧ Below w.heap.size w w' := by
 have hfd := fun (w : World) hE hR hT hP hX hS => DE n wd dp ta tb tc bars aR aT aP aX aS cR cT cP cX cS rs ts ps xs ss w hE hR hT hP hX hS
 have hbc := fun w => DN b hbn w
 have hfv : CR ⟨wd, dp, ta, tb, tc, rs, ⟨bars, ts, ps, xs⟩, ss⟩ n = .tuple #[.agg (Ar ss[idP ss n]!), int i64 0] := by unfold CR; rw [if_pos hne, hid]; rfl
 rw [hfv] at hfd
 rw [hbo] at hbc
 generalize ss[idP ss n]! = s at *
 have HBC := qh hbc; have HFD := qh hfd; have HE := qh hE; have HR := qh hR; have HT := qh hT; have HP := qh hP; have HX := qh hX; have HS := qh hS;
 clear hfd hE hR hT hP hX hS hfv hne hid hbc hbo
 generalize rs.length = nR at *
 generalize ts.length = nT at *
 generalize ps.length = nP at *
 generalize xs.length = nX at *
 generalize ss.length = nS at *
 obtain ⟨g0, g1, hz, hb⟩ := Bn w (.cells #[int i64 wd, int i64 dp, int i64 ta, int i64 tb, int i64 tc, .slice aR nR cR, int i64 bars, .slice aT nT cT, .slice aP nP cP, .slice aX nX cX, .slice aS nS cS] 32) (.cells (A1 b) 35)
 have hbv : Bh b = .agg (A1 b) := rfl
 rw [hbv]
 have G0 := qh g0; have G1 := qh g1; have HB := qh hb; have HZ := qh hz; have HBV := qh hbv; have HSA := qh (show (Ar s).all (·.oneCell') = true by simp [Ar, Value.oneCell'])
 clear g0 g1 hz hb hbv
 go_enter Tryz.func9, Tryz.ntmps9
 go_wp2_with (first | (refine wpList_load_row rfl 32 _ rfl w.heap.size rfl 32 _ (0, 0) _ G0.out Tryz.underlying32 rfl (by kernel_rfl) ?_; simp only [Act.put, qD, qE, qF]))
 generalize (w.alloc (.cells #[int i64 wd, int i64 dp, int i64 ta, int i64 tb, int i64 tc, .slice aR nR cR, int i64 bars, .slice aT nT cT, .slice aP nP cP, .slice aX nX cX, .slice aS nS cS] 32)).alloc (.cells (A1 b) 35) = w0 at *
 refine (HFD.out w0 (HE.out.below HB.out) (HR.out.below HB.out (qn _)) (HT.out.below HB.out (qn _)) (HP.out.below HB.out (qn _)) (HX.out.below HB.out (qn _)) (HS.out.below HB.out (qn _))).mono ?_
 rintro e w1 ⟨rfl, b1⟩
 have hz := HZ.out
 have hb1 := b1.size
 have B1 := qh (HB.out.trans (b1.mono (by omega)))
 have g0 := (b1.block w.heap.size (by omega)).trans G0.out
 have g1 := (b1.block (w.heap.size + 1) (by omega)).trans G1.out
 have hl : w.heap.size + 1 < w1.heap.size := by omega
 have H0 := qh g0; have H1 := qh g1
 clear HFD HE HR HT HP HX HS HB G0 G1 b1 hz g0 g1 HZ hb1
 have hb5 : Below w1.heap.size w1 (w1.alloc (.cells (Ar s) 72)) := (Below.refl w1.heap.size w1).alloc (qn _) _
 have I0 := qh ((hb5.block w.heap.size (by omega)).trans H0.out)
 have I1 := qh ((hb5.block (w.heap.size + 1) hl).trans H1.out)
 have I2 := qh (heap_alloc_new w1 (.cells (Ar s) 72))
 have B2 := qh (B1.out.trans (hb5.mono B1.out.size))
 have hz2 : (w1.alloc (.cells (Ar s) 72)).heap.size = w1.heap.size + 1 := by simp
 have Z2 := qh hz2
 clear hb5 H0 H1 B1 hz2
 go_wp2_with (first | (refine wpList_store_row rfl 72 _ _ rfl w1.heap.size (Ar s) rfl rfl 72 _ (heap_alloc_new w1 _) (by kernel_rfl) rfl HSA.out ?_; rw [World.setRow_alloc_new]) | (refine wpList_load_row rfl 35 _ rfl (w.heap.size + 1) rfl 35 (A1 b) (0, 0) _ I1.out Tryz.underlying35 rfl (by kernel_rfl) ?_; simp only [Act.put, qD, qE, qF]))
 refine (HBC.out _).mono ?_
 rintro e w3 ⟨rfl, hb3⟩
 rw [show AP false 250 = 250 from rfl]
 have B3 := qh (B2.out.trans (hb3.mono B2.out.size))
 clear hb3 I0 I1 I2 B2 Z2 HBC
 go_wp2_with fail
 go_ret2
 exact ⟨rfl, B3.out⟩
end
section
open Go Go.RowKit
theorem Mp {n : Nat} {k : Int} (h : k = 6 ∨ k = 7 ∨ k = 8) : BX (CY n) k = none := by rcases h with rfl | rfl | rfl <;> rfl
theorem JY (n : Int) (b : Bod) (hbn : b.name.length ≤ maxLen) (wd dp ta tb tc bars : Int) (aR aT aP aX aS : Option Addr) (cR cT cP cX cS : Nat) (rs : List Rol) (ts : List Tmp) (ps : List Pau) (xs : List Con) (ss : List Sgn) (w : World) (hE : Env w) (hz2w : 2 ≤ w.heap.size)
  (hR : IsRow De 4 w (.slice aR rs.length cR) rs) (hT : IsRow Bq 3 w (.slice aT ts.length cT) ts) (hP : IsRow Cl 4 w (.slice aP ps.length cP) ps) (hX : IsRow Ck 4 w (.slice aX xs.length cX) xs) (hS : IsRow CF 14 w (.slice aS ss.length cS) ss)
  (hne : Ao ⟨wd, dp, ta, tb, tc, rs, ⟨bars, ts, ps, xs⟩, ss⟩ = 0) (hid : idF ss n = true) (hbo : AG b = true) :
  Calls Tryz.prog 9 #[.agg #[int i64 wd, int i64 dp, int i64 ta, int i64 tb, int i64 tc, .slice aR rs.length cR, int i64 bars, .slice aT ts.length cT, .slice aP ps.length cP, .slice aX xs.length cX, .slice aS ss.length cS], int i64 n, Bh b] w fun e w' => ∃ v, e = .returned (.tuple #[v, int i64 0]) ∧ w'.ownsRow w.heap.size 37 4 v (Di ⟨wd, dp, ta, tb, tc, rs, ⟨bars, ts, ps, xs⟩, ss⟩ ss[idP ss n]! b).length ((Di ⟨wd, dp, ta, tb, tc, rs, ⟨bars, ts, ps, xs⟩, ss⟩ ss[idP ss n]! b).flatMap Ai) ∧ Below w.heap.size w w' := by
 have hsm : ss[idP ss n]! ∈ ss := Ql hid
 have hsid : ss[idP ss n]!.id = n := Rx hid
 have hr := Fe (Da (k := ⟨wd, dp, ta, tb, tc, rs, ⟨bars, ts, ps, xs⟩, ss⟩) hne hsm)
 have hlen := Rp ⟨wd, dp, ta, tb, tc, rs, ⟨bars, ts, ps, xs⟩, ss⟩ ss[idP ss n]! hbo
 have hop : Di ⟨wd, dp, ta, tb, tc, rs, ⟨bars, ts, ps, xs⟩, ss⟩ ss[idP ss n]! b = doL ⟨wd, dp, ta, tb, tc, rs, ⟨bars, ts, ps, xs⟩, ss⟩ ss[idP ss n]! b ++ AB ss[idP ss n]! := rfl
 rw [hop]
 go_enter Tryz.func9, Tryz.ntmps9
 refine JT n b hbn wd dp ta tb tc bars aR aT aP aX aS cR cT cP cX cS rs ts ps xs ss w hE hR hT hP hX hS hne hid hbo (A8 1 Ho Hf) _ ?_
 intro w3 K8 _ _ _ _ _ _ _ _ _ _ _ _ _ _ _ _ _ _ _ _ _ _ _ _ _ _ _ _ _ _ _ _ _ _ _ _ _ _ _ _ _ _ _ _ _ _ _ _ _ _ _ _ _ _ hB3 g0 g1 g2
 have hmark := fun (v : Value) (w5 : World) (a0 a1 a2 a3 a4 a5 a6 a7 a8 a9 a10 a11 a12 a13 a14 a15 a16 a17 a18 a19 a20 a21 a22 a23 a24 a25 a26 a27 a28 a29 a30 a31 a32 a33 a34 a35 a36 a37 a38 a39 a40 a41 a42 a43 a44 a45 a46 a47 a48 a49 a50 a51 a52 a53 a54 : Value) mk ho hB5 => JU n ss[idP ss n]! (doL ⟨wd, dp, ta, tb, tc, rs, ⟨bars, ts, ps, xs⟩, ss⟩ ss[idP ss n]! b) hlen hsid w w5 K8 v mk ho hB5 a0 a1 a2 a3 a4 a5 a6 a7 a8 a9 a10 a11 a12 a13 a14 a15 a16 a17 a18 a19 a20 a21 a22 a23 a24 a25 a26 a27 a28 a29 a30 a31 a32 a33 a34 a35 a36 a37 a38 a39 a40 a41 a42 a43 a44 a45 a46 a47 a48 a49 a50 a51 a52 a53 a54
 by_cases hu : ss[idP ss n]!.kind = 6 ∨ ss[idP ss n]!.kind = 7 ∨ ss[idP ss n]!.kind = 8
 ·refine GF n b ss[idP ss n]! (doL ⟨wd, dp, ta, tb, tc, rs, ⟨bars, ts, ps, xs⟩, ss⟩ ss[idP ss n]! b) hsid w w3 w.heap.size K8 hz2w hE wd dp ta tb tc bars aR aT aP aX aS _ _ _ _ _ cR cT cP cX cS (fun N => Mp hu) ?_ hB3 g0 g1 g2 _ _ _ _ _ _ _ _ _ _ _ _ _ _ _ _ _ _ _ _ _ _ _ _ _ _ _ _ _ _ _ _ _ _ _ _ _ _ _ _ _ _ _ _ _ _ _ _ _ _ _ _ _ _ Hf hmark
  unfold doL
  rw [if_neg (by omega), if_neg (by omega), if_neg (by omega), if_neg (by omega), if_neg (by omega), if_neg (by omega)]
 ·refine II n b ss[idP ss n]! (doL ⟨wd, dp, ta, tb, tc, rs, ⟨bars, ts, ps, xs⟩, ss⟩ ss[idP ss n]! b) w w3 w.heap.size K8 hz2w hE wd dp ta tb tc bars aR aT aP aX aS _ _ _ _ _ cR cT cP cX cS (fun w' W hEW hzW hks => ?_) hB3 g0 g1 g2 _ _ _ _ _ _ _ _ _ _ _ _ _ _ _ _ _ _ _ _ _ _ _ _ _ _ _ _ _ _ _ _ _ _ _ _ _ _ _ _ _ _ _ _ _ _ _ _ _ _ _ _ _ _ Hf hmark
  rcases Rr (k := ⟨wd, dp, ta, tb, tc, rs, ⟨bars, ts, ps, xs⟩, ss⟩) hne hsm hbo hEW hzW hks with h | ⟨h, _⟩
  ·exact h
  ·exfalso
   have hk : ss[idP ss n]!.kind = 1 ∨ ss[idP ss n]!.kind = 2 ∨ ss[idP ss n]!.kind = 3 ∨ ss[idP ss n]!.kind = 4 ∨ ss[idP ss n]!.kind = 5 ∨ ss[idP ss n]!.kind = 9 := by omega
   rcases hk with hk | hk | hk | hk | hk | hk <;> rw [hk] at h <;> exact absurd h (by simp [BX, CY])
theorem Lr (n : Int) (b : Bod) (hbn : b.name.length ≤ maxLen) (wd dp ta tb tc bars : Int) (aR aT aP aX aS : Option Addr) (cR cT cP cX cS : Nat) (rs : List Rol) (ts : List Tmp) (ps : List Pau) (xs : List Con) (ss : List Sgn) (w : World) (hE : Env w) (hz2w : 2 ≤ w.heap.size)
  (hR : IsRow De 4 w (.slice aR rs.length cR) rs) (hT : IsRow Bq 3 w (.slice aT ts.length cT) ts) (hP : IsRow Cl 4 w (.slice aP ps.length cP) ps) (hX : IsRow Ck 4 w (.slice aX xs.length cX) xs) (hS : IsRow CF 14 w (.slice aS ss.length cS) ss) :
  Calls Tryz.prog 9 #[.agg #[int i64 wd, int i64 dp, int i64 ta, int i64 tb, int i64 tc, .slice aR rs.length cR, int i64 bars, .slice aT ts.length cT, .slice aP ps.length cP, .slice aX xs.length cX, .slice aS ss.length cS], int i64 n, Bh b] w fun e w' => ∃ v, e = .returned (.tuple #[v, int i64 (E9 ⟨wd, dp, ta, tb, tc, rs, ⟨bars, ts, ps, xs⟩, ss⟩ n b)]) ∧ w'.ownsRow w.heap.size 37 4 v (Fb ⟨wd, dp, ta, tb, tc, rs, ⟨bars, ts, ps, xs⟩, ss⟩ n b).length ((Fb ⟨wd, dp, ta, tb, tc, rs, ⟨bars, ts, ps, xs⟩, ss⟩ n b).flatMap Ai) ∧ Below w.heap.size w w' := by
 have nil : ∀ er, er ≠ 0 → E9 ⟨wd, dp, ta, tb, tc, rs, ⟨bars, ts, ps, xs⟩, ss⟩ n b = er → Fb ⟨wd, dp, ta, tb, tc, rs, ⟨bars, ts, ps, xs⟩, ss⟩ n b = [] := fun er h h2 => by unfold Fb; rw [if_neg (by rw [h2]; exact h)]
 by_cases hne : Ao ⟨wd, dp, ta, tb, tc, rs, ⟨bars, ts, ps, xs⟩, ss⟩ = 0
 ·cases hid : idF ss n with
  | false =>
   have he : E9 ⟨wd, dp, ta, tb, tc, rs, ⟨bars, ts, ps, xs⟩, ss⟩ n b = if AG b then 300 else 250 := by
    unfold E9; rw [if_neg (by simpa using hne)]; simp [hid]
   refine (JW n b hbn wd dp ta tb tc bars aR aT aP aX aS cR cT cP cX cS rs ts ps xs ss w hE hR hT hP hX hS hne hid).mono ?_
   rintro e w' ⟨rfl, hb⟩
   rw [nil _ (by split <;> decide) he, he]
   exact ⟨_, rfl, World.ownsRow_nil _ _ _ _, hb⟩
  | true =>
   cases hbo : AG b with
   | false =>
    have he : E9 ⟨wd, dp, ta, tb, tc, rs, ⟨bars, ts, ps, xs⟩, ss⟩ n b = 250 := by
     unfold E9; rw [if_neg (by simpa using hne), hbo]; rfl
    refine (JS n b hbn wd dp ta tb tc bars aR aT aP aX aS cR cT cP cX cS rs ts ps xs ss w hE hR hT hP hX hS hne hid hbo).mono ?_
    rintro e w' ⟨rfl, hb⟩
    rw [nil _ (by decide) he, he]
    exact ⟨_, rfl, World.ownsRow_nil _ _ _ _, hb⟩
   | true =>
    have he : E9 ⟨wd, dp, ta, tb, tc, rs, ⟨bars, ts, ps, xs⟩, ss⟩ n b = 0 := by
     unfold E9; rw [if_neg (by simpa using hne), hbo]; simp [hid]
    have hr : Fb ⟨wd, dp, ta, tb, tc, rs, ⟨bars, ts, ps, xs⟩, ss⟩ n b = Di ⟨wd, dp, ta, tb, tc, rs, ⟨bars, ts, ps, xs⟩, ss⟩ ss[idP ss n]! b := by unfold Fb; rw [if_pos he]
    rw [he, hr]
    exact JY n b hbn wd dp ta tb tc bars aR aT aP aX aS cR cT cP cX cS rs ts ps xs ss w hE hz2w hR hT hP hX hS hne hid hbo
 ·have he : E9 ⟨wd, dp, ta, tb, tc, rs, ⟨bars, ts, ps, xs⟩, ss⟩ n b = Ao ⟨wd, dp, ta, tb, tc, rs, ⟨bars, ts, ps, xs⟩, ss⟩ := by unfold E9; rw [if_pos (by simpa using hne)]
  refine (Ls n b hbn wd dp ta tb tc bars aR aT aP aX aS cR cT cP cX cS rs ts ps xs ss w hE hR hT hP hX hS hne).mono ?_
  rintro e w' ⟨rfl, hb⟩
  rw [nil _ hne he, he]
  exact ⟨_, rfl, World.ownsRow_nil _ _ _ _, hb⟩
end
section
open Go Go.RowKit
def Cq (s : Sgn) : Bool := decide (s.kind = 3) || decide (s.kind = 4) || decide (s.kind = 5)
def AL (s : Sgn) (r : Rea) : Bool :=
 if r.drop then decide (r.dir = 0) && decide (r.level = 0) else if Cq s then inB r.dir 0 8 && inB r.level 1 3
 else if s.kind = 9 then decide (r.dir = 0) && inB r.level 1 3 else decide (r.dir = 0) && decide (r.level = 0)
def Aj (s : Sgn) (r : Rea) : Int :=
 if r.drop then (if s.mark = 3 then 4 else if s.mark = 2 then 16 else if s.mark = 1 then 64 else 0)
 else if Cq s && !(decide (r.dir = s.dir) && decide (r.level = s.level)) then 1 else 0
def Dx (k : Wrk) (n : Int) (r : Rea) : Int := if Ao k ≠ 0 then Ao k else if idF k.signs n then (if AL (k.signs[idP k.signs n]!) r && decide (r.sign = n) then 0 else 1) else 300
def CA (k : Wrk) (n : Int) (r : Rea) : Int := if Dx k n r = 0 then Aj (k.signs[idP k.signs n]!) r else 0
def IM (r : Rea) : Value := .agg #[int i64 r.sign, int i64 r.dir, int i64 r.level, .bool r.drop]
noncomputable def Du : Code := (Tryz.f11.body).getD .skip
noncomputable def Ka : Code := Ag 3 Du
noncomputable def GH : Code := Ag 4 Du
noncomputable def EG : Code := Ag 6 Du
theorem Ma (n : Int) (s : Sgn) (w3 : World) (B K8 : Nat) (g2 : w3.heap[K8]? = some (.cells (Ar s) 72 (0, 0))) (e0 e2 e3 e4 e9 ea eb ec ed ee ef eg eh ei ej ek el em en eo ep eq er es et eu ev ew ex ey ez eA eB eC eD eE eF eG eH eI eJ eK eL eM eN eO eP eQ eR eS eT eU eV eW eX eY eZ aa ab ac ad ae af ag ah ai aj ak al am an ao ap aq ar au av aw ax ay az aA aB aC aD aE aF aG aH aI aJ aK aL aM aN aO aP aQ aR aS aT aU aV aW aX aY aZ ba : Value) (X : Code) (R : Ending → World → Prop)
  (hX : ∀ (e0 e2 e3 e4 ea eb ec ed ee ef eg eh ei ej ek el em en eo ep eq er es et eu ev ew ex ey ez eA eB eC eD eE eF eG eH eI eJ eK eL eM eN eO eP eQ eR eS eT eU eV eW eX eY eZ aa ab ac ad ae af ag ah ai aj ak al am an ao ap aq ar au av aw ax ay az aA aB aC aD aE aF aG aH aI aJ aK aL aM aN aO aP aQ aR aS aT aU aV aW aX aY aZ ba : Value), Code.wp Tryz.prog X (bodyPost Tryz.prog Tryz.f11 R) { tmps := #[e0, int i64 n, e2, e3, e4, .pointer (some ⟨B, 0, none⟩), int i64 0, int i64 0, .pointer (some ⟨K8, 0, none⟩), .bool (Cq s), ea, eb, ec, ed, ee, ef, eg, eh, ei, ej, ek, el, em, en, eo, ep, eq, er, es, et, eu, ev, ew, ex, ey, ez, eA, eB, eC, eD, eE, eF, eG, eH, eI, eJ, eK, eL, eM, eN, eO, eP, eQ, eR, eS, eT, eU, eV, eW, eX, eY, eZ, aa, ab, ac, ad, ae, af, ag, ah, ai, aj, ak, al, am, an, ao, ap, aq, ar, au, av, aw, ax, ay, az, aA, aB, aC, aD, aE, aF, aG, aH, aI, aJ, aK, aL, aM, aN, aO, aP, aQ, aR, aS, aT, aU, aV, aW, aX, aY, aZ, ba], defers := [] } w3) :
  Code.wp Tryz.prog (A8 1 Ka X) (bodyPost Tryz.prog Tryz.f11 R) { tmps := #[e0, int i64 n, e2, e3, e4, .pointer (some ⟨B, 0, none⟩), int i64 0, int i64 0, .pointer (some ⟨K8, 0, none⟩), e9, ea, eb, ec, ed, ee, ef, eg, eh, ei, ej, ek, el, em, en, eo, ep, eq, er, es, et, eu, ev, ew, ex, ey, ez, eA, eB, eC, eD, eE, eF, eG, eH, eI, eJ, eK, eL, eM, eN, eO, eP, eQ, eR, eS, eT, eU, eV, eW, eX, eY, eZ, aa, ab, ac, ad, ae, af, ag, ah, ai, aj, ak, al, am, an, ao, ap, aq, ar, au, av, aw, ax, ay, az, aA, aB, aC, aD, aE, aF, aG, aH, aI, aJ, aK, aL, aM, aN, aO, aP, aQ, aR, aS, aT, aU, aV, aW, aX, aY, aZ, ba], defers := [] } w3 := by
 have c4 : w3.cell? ⟨K8, 4, none⟩ = some (int i64 s.kind) := A0 g2 4 rfl
 have hm : Cq s = (decide (s.kind = 3) || decide (s.kind = 4) || decide (s.kind = 5)) := rfl
 generalize Cq s = mv at *
 have HX := qh hX; have HM := qh hm
 clear hX g2 hm
 unfold Ka Du
 conv => arg 2; whnf
 by_cases h3 : s.kind = 3
 ·have f1 : (s.kind == 3) = true := by simpa using h3
  obtain rfl : mv = true := by rw [HM.out, decide_eq_true h3]; rfl
  clear h3
  go_wp2_with fail
  exact HX.out _ _ _ _ _ _ _ _ _ _ _ _ _ _ _ _ _ _ _ _ _ _ _ _ _ _ _ _ _ _ _ _ _ _ _ _ _ _ _ _ _ _ _ _ _ _ _ _ _ _ _ _ _ _ _ _ _ _ _ _ _ _ _ _ _ _ _ _ _ _ _ _ _ _ _ _ _ _ _ _ _ _ _ _ _ _ _ _ _ _ _ _ _ _ _ _ _ _ _ _ _ _ _ _ _ _ _
 ·have f1 : (s.kind == 3) = false := by simpa using h3
  by_cases h4 : s.kind = 4
  ·have f2 : (s.kind == 4) = true := by simpa using h4
   obtain rfl : mv = true := by rw [HM.out, decide_eq_true h4]; simp
   clear h3 h4
   go_wp2_with fail
   exact HX.out _ _ _ _ _ _ _ _ _ _ _ _ _ _ _ _ _ _ _ _ _ _ _ _ _ _ _ _ _ _ _ _ _ _ _ _ _ _ _ _ _ _ _ _ _ _ _ _ _ _ _ _ _ _ _ _ _ _ _ _ _ _ _ _ _ _ _ _ _ _ _ _ _ _ _ _ _ _ _ _ _ _ _ _ _ _ _ _ _ _ _ _ _ _ _ _ _ _ _ _ _ _ _ _ _ _ _
  ·have f2 : (s.kind == 4) = false := by simpa using h4
   by_cases h5 : s.kind = 5
   ·have f3 : (s.kind == 5) = true := by simpa using h5
    obtain rfl : mv = true := by rw [HM.out, decide_eq_true h5]; simp
    clear h3 h4 h5
    go_wp2_with fail
    exact HX.out _ _ _ _ _ _ _ _ _ _ _ _ _ _ _ _ _ _ _ _ _ _ _ _ _ _ _ _ _ _ _ _ _ _ _ _ _ _ _ _ _ _ _ _ _ _ _ _ _ _ _ _ _ _ _ _ _ _ _ _ _ _ _ _ _ _ _ _ _ _ _ _ _ _ _ _ _ _ _ _ _ _ _ _ _ _ _ _ _ _ _ _ _ _ _ _ _ _ _ _ _ _ _ _ _ _ _
   ·have f3 : (s.kind == 5) = false := by simpa using h5
    obtain rfl : mv = false := by rw [HM.out, decide_eq_false h3, decide_eq_false h4, decide_eq_false h5]; rfl
    clear h3 h4 h5
    go_wp2_with fail
    exact HX.out _ _ _ _ _ _ _ _ _ _ _ _ _ _ _ _ _ _ _ _ _ _ _ _ _ _ _ _ _ _ _ _ _ _ _ _ _ _ _ _ _ _ _ _ _ _ _ _ _ _ _ _ _ _ _ _ _ _ _ _ _ _ _ _ _ _ _ _ _ _ _ _ _ _ _ _ _ _ _ _ _ _ _ _ _ _ _ _ _ _ _ _ _ _ _ _ _ _ _ _ _ _ _ _ _ _ _
end
section
open Go Go.RowKit
def GC (r : Rea) : Bool := decide (r.dir = 0) && decide (r.level = 0)
noncomputable def FB : Code := Ag 5 Du
theorem Od (n : Int) (mv : Bool) (r : Rea) (w3 : World) (B K8 : Nat) (g1 : w3.heap[B]? = some (.cells (IT r) 37 (0, 0))) (e0 e2 e3 e4 ea eb ec ed ee ef eg eh ei ej ek el em en eo ep eq er es et eu ev ew ex ey ez eA eB eC eD eE eF eG eH eI eJ eK eL eM eN eO eP eQ eR eS eT eU eV eW eX eY eZ aa ab ac ad ae af ag ah ai aj ak al am an ao ap aq ar au av aw ax ay az aA aB aC aD aE aF aG aH aI aJ aK aL aM aN aO aP aQ aR aS aT aU aV aW aX aY aZ ba : Value) (X : Code) (R : Ending → World → Prop)
  (hX : ∀ (e0 e2 e3 e4 eb ec ed ee ef eg eh ei ej ek el em en eo ep eq er es et eu ev ew ex ey ez eA eB eC eD eE eF eG eH eI eJ eK eL eM eN eO eP eQ eR eS eT eU eV eW eX eY eZ aa ab ac ad ae af ag ah ai aj ak al am an ao ap aq ar au av aw ax ay az aA aB aC aD aE aF aG aH aI aJ aK aL aM aN aO aP aQ aR aS aT aU aV aW aX aY aZ ba : Value), Code.wp Tryz.prog X (bodyPost Tryz.prog Tryz.f11 R) { tmps := #[e0, int i64 n, e2, e3, e4, .pointer (some ⟨B, 0, none⟩), int i64 0, int i64 0, .pointer (some ⟨K8, 0, none⟩), .bool mv, .bool (GC r), eb, ec, ed, ee, ef, eg, eh, ei, ej, ek, el, em, en, eo, ep, eq, er, es, et, eu, ev, ew, ex, ey, ez, eA, eB, eC, eD, eE, eF, eG, eH, eI, eJ, eK, eL, eM, eN, eO, eP, eQ, eR, eS, eT, eU, eV, eW, eX, eY, eZ, aa, ab, ac, ad, ae, af, ag, ah, ai, aj, ak, al, am, an, ao, ap, aq, ar, au, av, aw, ax, ay, az, aA, aB, aC, aD, aE, aF, aG, aH, aI, aJ, aK, aL, aM, aN, aO, aP, aQ, aR, aS, aT, aU, aV, aW, aX, aY, aZ, ba], defers := [] } w3) :
  Code.wp Tryz.prog (A8 1 GH X) (bodyPost Tryz.prog Tryz.f11 R) { tmps := #[e0, int i64 n, e2, e3, e4, .pointer (some ⟨B, 0, none⟩), int i64 0, int i64 0, .pointer (some ⟨K8, 0, none⟩), .bool mv, ea, eb, ec, ed, ee, ef, eg, eh, ei, ej, ek, el, em, en, eo, ep, eq, er, es, et, eu, ev, ew, ex, ey, ez, eA, eB, eC, eD, eE, eF, eG, eH, eI, eJ, eK, eL, eM, eN, eO, eP, eQ, eR, eS, eT, eU, eV, eW, eX, eY, eZ, aa, ab, ac, ad, ae, af, ag, ah, ai, aj, ak, al, am, an, ao, ap, aq, ar, au, av, aw, ax, ay, az, aA, aB, aC, aD, aE, aF, aG, aH, aI, aJ, aK, aL, aM, aN, aO, aP, aQ, aR, aS, aT, aU, aV, aW, aX, aY, aZ, ba], defers := [] } w3 := by
 have b0 : w3.cell? ⟨B, 0, none⟩ = some (int i64 r.sign) := A0 g1 0 rfl
 have b1 : w3.cell? ⟨B, 1, none⟩ = some (int i64 r.dir) := A0 g1 1 rfl
 have b2 : w3.cell? ⟨B, 2, none⟩ = some (int i64 r.level) := A0 g1 2 rfl
 have b3 : w3.cell? ⟨B, 3, none⟩ = some (.bool r.drop) := A0 g1 3 rfl
 have hm : GC r = (decide (r.dir = 0) && decide (r.level = 0)) := rfl
 generalize GC r = zb at *
 have HX := qh hX; have HM := qh hm
 clear hX g1 hm
 unfold GH Du
 conv => arg 2; whnf
 by_cases h3 : r.dir = 0
 ·have f1 : (r.dir == 0) = true := by simpa using h3
  by_cases h4 : r.level = 0
  ·have f2 : (r.level == 0) = true := by simpa using h4
   obtain rfl : zb = true := by rw [HM.out, decide_eq_true h3, decide_eq_true h4]; rfl
   clear h3 h4
   go_wp2_with fail
   exact HX.out _ _ _ _ _ _ _ _ _ _ _ _ _ _ _ _ _ _ _ _ _ _ _ _ _ _ _ _ _ _ _ _ _ _ _ _ _ _ _ _ _ _ _ _ _ _ _ _ _ _ _ _ _ _ _ _ _ _ _ _ _ _ _ _ _ _ _ _ _ _ _ _ _ _ _ _ _ _ _ _ _ _ _ _ _ _ _ _ _ _ _ _ _ _ _ _ _ _ _ _ _ _ _ _ _ _
  ·have f2 : (r.level == 0) = false := by simpa using h4
   obtain rfl : zb = false := by rw [HM.out, decide_eq_false h4]; simp
   clear h3 h4
   go_wp2_with fail
   exact HX.out _ _ _ _ _ _ _ _ _ _ _ _ _ _ _ _ _ _ _ _ _ _ _ _ _ _ _ _ _ _ _ _ _ _ _ _ _ _ _ _ _ _ _ _ _ _ _ _ _ _ _ _ _ _ _ _ _ _ _ _ _ _ _ _ _ _ _ _ _ _ _ _ _ _ _ _ _ _ _ _ _ _ _ _ _ _ _ _ _ _ _ _ _ _ _ _ _ _ _ _ _ _ _ _ _ _
 ·have f1 : (r.dir == 0) = false := by simpa using h3
  obtain rfl : zb = false := by rw [HM.out, decide_eq_false h3]; rfl
  clear h3
  go_wp2_with fail
  exact HX.out _ _ _ _ _ _ _ _ _ _ _ _ _ _ _ _ _ _ _ _ _ _ _ _ _ _ _ _ _ _ _ _ _ _ _ _ _ _ _ _ _ _ _ _ _ _ _ _ _ _ _ _ _ _ _ _ _ _ _ _ _ _ _ _ _ _ _ _ _ _ _ _ _ _ _ _ _ _ _ _ _ _ _ _ _ _ _ _ _ _ _ _ _ _ _ _ _ _ _ _ _ _ _ _ _ _
theorem On {s : Sgn} {r : Rea} (h : r.drop = true) : AL s r = GC r := by unfold AL; rw [if_pos h]; rfl
theorem Ou {s : Sgn} {r : Rea} (h : r.drop = false) (hm : Cq s = true) : AL s r = (inB r.dir 0 8 && inB r.level 1 3) := by unfold AL; rw [h, hm]; rfl
theorem Ot {s : Sgn} {r : Rea} (h : r.drop = false) (hm : Cq s = false) (hk : s.kind = 9) : AL s r = (decide (r.dir = 0) && inB r.level 1 3) := by unfold AL; rw [h, hm]; simp [hk]
theorem Oo {s : Sgn} {r : Rea} (h : r.drop = false) (hm : Cq s = false) (hk : ¬ s.kind = 9) : AL s r = GC r := by unfold AL GC; rw [h, hm]; simp [hk]
theorem O9 (n : Int) (s : Sgn) (r : Rea) (w3 : World) (B K8 : Nat) (g1 : w3.heap[B]? = some (.cells (IT r) 37 (0, 0))) (g2 : w3.heap[K8]? = some (.cells (Ar s) 72 (0, 0))) (e0 e2 e3 e4 ea eb ec ed ee ef eg eh ei ej ek el em en eo ep eq er es et eu ev ew ex ey ez eA eB eC eD eE eF eG eH eI eJ eK eL eM eN eO eP eQ eR eS eT eU eV eW eX eY eZ aa ab ac ad ae af ag ah ai aj ak al am an ao ap aq ar au av aw ax ay az aA aB aC aD aE aF aG aH aI aJ aK aL aM aN aO aP aQ aR aS aT aU aV aW aX aY aZ : Value) (X : Code) (R : Ending → World → Prop)
  (hX : ∀ (e0 e2 e3 e4 ea eb ec ed ee ef eg eh ei ej ek el em en eo ep eq er es et eu ev ew ex ey ez eA eB eC eD eE eF eG eH eI eJ eK eL eM eN eO eP eQ eR eS eT eU eV eW eX eY eZ aa ab ac ad ae af ag ah ai aj ak al am an ao ap aq ar au av aw ax ay az aA aB aC aD aE aF aG aH aI aJ aK aL aM aN aO aP aQ aR aS aT aU aV aW aX aY aZ : Value), Code.wp Tryz.prog X (bodyPost Tryz.prog Tryz.f11 R) { tmps := #[e0, int i64 n, e2, e3, e4, .pointer (some ⟨B, 0, none⟩), int i64 0, int i64 0, .pointer (some ⟨K8, 0, none⟩), .bool (Cq s), .bool (AL s r), ea, eb, ec, ed, ee, ef, eg, eh, ei, ej, ek, el, em, en, eo, ep, eq, er, es, et, eu, ev, ew, ex, ey, ez, eA, eB, eC, eD, eE, eF, eG, eH, eI, eJ, eK, eL, eM, eN, eO, eP, eQ, eR, eS, eT, eU, eV, eW, eX, eY, eZ, aa, ab, ac, ad, ae, af, ag, ah, ai, aj, ak, al, am, an, ao, ap, aq, ar, au, av, aw, ax, ay, az, aA, aB, aC, aD, aE, aF, aG, aH, aI, aJ, aK, aL, aM, aN, aO, aP, aQ, aR, aS, aT, aU, aV, aW, aX, aY, aZ], defers := [] } w3) :
  Code.wp Tryz.prog (A8 1 FB X) (bodyPost Tryz.prog Tryz.f11 R) { tmps := #[e0, int i64 n, e2, e3, e4, .pointer (some ⟨B, 0, none⟩), int i64 0, int i64 0, .pointer (some ⟨K8, 0, none⟩), .bool (Cq s), .bool (GC r), ea, eb, ec, ed, ee, ef, eg, eh, ei, ej, ek, el, em, en, eo, ep, eq, er, es, et, eu, ev, ew, ex, ey, ez, eA, eB, eC, eD, eE, eF, eG, eH, eI, eJ, eK, eL, eM, eN, eO, eP, eQ, eR, eS, eT, eU, eV, eW, eX, eY, eZ, aa, ab, ac, ad, ae, af, ag, ah, ai, aj, ak, al, am, an, ao, ap, aq, ar, au, av, aw, ax, ay, az, aA, aB, aC, aD, aE, aF, aG, aH, aI, aJ, aK, aL, aM, aN, aO, aP, aQ, aR, aS, aT, aU, aV, aW, aX, aY, aZ], defers := [] } w3 := by
 have b0 : w3.cell? ⟨B, 0, none⟩ = some (int i64 r.sign) := A0 g1 0 rfl
 have b1 : w3.cell? ⟨B, 1, none⟩ = some (int i64 r.dir) := A0 g1 1 rfl
 have b2 : w3.cell? ⟨B, 2, none⟩ = some (int i64 r.level) := A0 g1 2 rfl
 have b3 : w3.cell? ⟨B, 3, none⟩ = some (.bool r.drop) := A0 g1 3 rfl
 have c4 : w3.cell? ⟨K8, 4, none⟩ = some (int i64 s.kind) := A0 g2 4 rfl
 have h1 := fun h => On (s := s) (r := r) h
 have h2 := fun h hm => Ou (s := s) (r := r) h hm
 have h3 := fun h hm hk => Ot (s := s) (r := r) h hm hk
 have h4 := fun h hm hk => Oo (s := s) (r := r) h hm hk
 generalize Cq s = mv at *
 generalize AL s r = fb at *
 generalize GC r = zb at *
 have HX := qh hX; have H1 := qh h1; have H2 := qh h2; have H3 := qh h3; have H4 := qh h4
 clear hX g1 g2 h1 h2 h3 h4
 unfold FB Du
 conv => arg 2; whnf
 cases hd : r.drop with
 | true =>
  obtain rfl := H1.out hd
  rw [hd] at b3
  clear hd
  go_wp2_with fail
  exact HX.out _ _ _ _ _ _ _ _ _ _ _ _ _ _ _ _ _ _ _ _ _ _ _ _ _ _ _ _ _ _ _ _ _ _ _ _ _ _ _ _ _ _ _ _ _ _ _ _ _ _ _ _ _ _ _ _ _ _ _ _ _ _ _ _ _ _ _ _ _ _ _ _ _ _ _ _ _ _ _ _ _ _ _ _ _ _ _ _ _ _ _ _ _ _ _ _ _ _ _ _ _ _ _ _ _ _
 | false =>
  rw [hd] at b3
  cases mv with
  | true =>
   have hf := H2.out hd rfl
   clear hd
   by_cases q1 : 0 ≤ r.dir
   ·by_cases q2 : r.dir ≤ 8
    ·by_cases q3 : 1 ≤ r.level
     ·by_cases q4 : r.level ≤ 3
      ·obtain rfl : fb = true := by rw [hf, A4.2 ⟨q1, q2⟩, A4.2 ⟨q3, q4⟩]; rfl
       clear hf
       go_wp2_with fail
       exact HX.out _ _ _ _ _ _ _ _ _ _ _ _ _ _ _ _ _ _ _ _ _ _ _ _ _ _ _ _ _ _ _ _ _ _ _ _ _ _ _ _ _ _ _ _ _ _ _ _ _ _ _ _ _ _ _ _ _ _ _ _ _ _ _ _ _ _ _ _ _ _ _ _ _ _ _ _ _ _ _ _ _ _ _ _ _ _ _ _ _ _ _ _ _ _ _ _ _ _ _ _ _ _ _ _ _ _
      ·obtain rfl : fb = false := by rw [hf, Ah.2 (show r.level < 1 ∨ 3 < r.level by omega)]; simp
       clear hf
       go_wp2_with fail
       exact HX.out _ _ _ _ _ _ _ _ _ _ _ _ _ _ _ _ _ _ _ _ _ _ _ _ _ _ _ _ _ _ _ _ _ _ _ _ _ _ _ _ _ _ _ _ _ _ _ _ _ _ _ _ _ _ _ _ _ _ _ _ _ _ _ _ _ _ _ _ _ _ _ _ _ _ _ _ _ _ _ _ _ _ _ _ _ _ _ _ _ _ _ _ _ _ _ _ _ _ _ _ _ _ _ _ _ _
     ·obtain rfl : fb = false := by rw [hf, Ah.2 (show r.level < 1 ∨ 3 < r.level by omega)]; simp
      clear hf
      go_wp2_with fail
      exact HX.out _ _ _ _ _ _ _ _ _ _ _ _ _ _ _ _ _ _ _ _ _ _ _ _ _ _ _ _ _ _ _ _ _ _ _ _ _ _ _ _ _ _ _ _ _ _ _ _ _ _ _ _ _ _ _ _ _ _ _ _ _ _ _ _ _ _ _ _ _ _ _ _ _ _ _ _ _ _ _ _ _ _ _ _ _ _ _ _ _ _ _ _ _ _ _ _ _ _ _ _ _ _ _ _ _ _
    ·obtain rfl : fb = false := by rw [hf, Ah.2 (show r.dir < 0 ∨ 8 < r.dir by omega)]; rfl
     clear hf
     go_wp2_with fail
     exact HX.out _ _ _ _ _ _ _ _ _ _ _ _ _ _ _ _ _ _ _ _ _ _ _ _ _ _ _ _ _ _ _ _ _ _ _ _ _ _ _ _ _ _ _ _ _ _ _ _ _ _ _ _ _ _ _ _ _ _ _ _ _ _ _ _ _ _ _ _ _ _ _ _ _ _ _ _ _ _ _ _ _ _ _ _ _ _ _ _ _ _ _ _ _ _ _ _ _ _ _ _ _ _ _ _ _ _
   ·obtain rfl : fb = false := by rw [hf, Ah.2 (show r.dir < 0 ∨ 8 < r.dir by omega)]; rfl
    clear hf
    go_wp2_with fail
    exact HX.out _ _ _ _ _ _ _ _ _ _ _ _ _ _ _ _ _ _ _ _ _ _ _ _ _ _ _ _ _ _ _ _ _ _ _ _ _ _ _ _ _ _ _ _ _ _ _ _ _ _ _ _ _ _ _ _ _ _ _ _ _ _ _ _ _ _ _ _ _ _ _ _ _ _ _ _ _ _ _ _ _ _ _ _ _ _ _ _ _ _ _ _ _ _ _ _ _ _ _ _ _ _ _ _ _ _
  | false =>
   by_cases hk : s.kind = 9
   ·have hf := H3.out hd rfl hk
    have f0 : (s.kind == 9) = true := by simpa using hk
    clear hd hk
    by_cases q1 : r.dir = 0
    ·have f1 : (r.dir == 0) = true := by simpa using q1
     by_cases q3 : 1 ≤ r.level
     ·by_cases q4 : r.level ≤ 3
      ·obtain rfl : fb = true := by rw [hf, decide_eq_true q1, A4.2 ⟨q3, q4⟩]; rfl
       clear hf q1
       go_wp2_with fail
       exact HX.out _ _ _ _ _ _ _ _ _ _ _ _ _ _ _ _ _ _ _ _ _ _ _ _ _ _ _ _ _ _ _ _ _ _ _ _ _ _ _ _ _ _ _ _ _ _ _ _ _ _ _ _ _ _ _ _ _ _ _ _ _ _ _ _ _ _ _ _ _ _ _ _ _ _ _ _ _ _ _ _ _ _ _ _ _ _ _ _ _ _ _ _ _ _ _ _ _ _ _ _ _ _ _ _ _ _
      ·obtain rfl : fb = false := by rw [hf, Ah.2 (show r.level < 1 ∨ 3 < r.level by omega)]; simp
       clear hf q1
       go_wp2_with fail
       exact HX.out _ _ _ _ _ _ _ _ _ _ _ _ _ _ _ _ _ _ _ _ _ _ _ _ _ _ _ _ _ _ _ _ _ _ _ _ _ _ _ _ _ _ _ _ _ _ _ _ _ _ _ _ _ _ _ _ _ _ _ _ _ _ _ _ _ _ _ _ _ _ _ _ _ _ _ _ _ _ _ _ _ _ _ _ _ _ _ _ _ _ _ _ _ _ _ _ _ _ _ _ _ _ _ _ _ _
     ·obtain rfl : fb = false := by rw [hf, Ah.2 (show r.level < 1 ∨ 3 < r.level by omega)]; simp
      clear hf q1
      go_wp2_with fail
      exact HX.out _ _ _ _ _ _ _ _ _ _ _ _ _ _ _ _ _ _ _ _ _ _ _ _ _ _ _ _ _ _ _ _ _ _ _ _ _ _ _ _ _ _ _ _ _ _ _ _ _ _ _ _ _ _ _ _ _ _ _ _ _ _ _ _ _ _ _ _ _ _ _ _ _ _ _ _ _ _ _ _ _ _ _ _ _ _ _ _ _ _ _ _ _ _ _ _ _ _ _ _ _ _ _ _ _ _
    ·have f1 : (r.dir == 0) = false := by simpa using q1
     obtain rfl : fb = false := by rw [hf, decide_eq_false q1]; rfl
     clear hf q1
     go_wp2_with fail
     exact HX.out _ _ _ _ _ _ _ _ _ _ _ _ _ _ _ _ _ _ _ _ _ _ _ _ _ _ _ _ _ _ _ _ _ _ _ _ _ _ _ _ _ _ _ _ _ _ _ _ _ _ _ _ _ _ _ _ _ _ _ _ _ _ _ _ _ _ _ _ _ _ _ _ _ _ _ _ _ _ _ _ _ _ _ _ _ _ _ _ _ _ _ _ _ _ _ _ _ _ _ _ _ _ _ _ _ _
   ·have f0 : (s.kind == 9) = false := by simpa using hk
    obtain rfl := H4.out hd rfl hk
    clear hd hk
    go_wp2_with fail
    exact HX.out _ _ _ _ _ _ _ _ _ _ _ _ _ _ _ _ _ _ _ _ _ _ _ _ _ _ _ _ _ _ _ _ _ _ _ _ _ _ _ _ _ _ _ _ _ _ _ _ _ _ _ _ _ _ _ _ _ _ _ _ _ _ _ _ _ _ _ _ _ _ _ _ _ _ _ _ _ _ _ _ _ _ _ _ _ _ _ _ _ _ _ _ _ _ _ _ _ _ _ _ _ _ _ _ _ _
end
section
open Go Go.RowKit
def KT (c er : Int) (w : World) (e : Ending) (w' : World) : Prop := e = .returned (.tuple #[int i64 c, int i64 er]) ∧ Below w.heap.size w w'
theorem Gf {P : Program} {T K E : TypeId} (hT : P.underlying T = some (.map K E)) (hK : P.underlying K = some (.int .i64)) {w : World} {b : Nat} {kvs : List (Int × Value)} (h : MapAt w b kvs) (hn : AY kvs) (k : Int) (v : Value) :
  ∃ w', (Instr.mapUpdate T (.map (some b)) (int i64 k) v).run P w = .ok () w' ∧ MapAt w' b (LI kvs k v) ∧ Below b w w' ∧ w.grownBy w' (some b) ∧ w'.heap.size = w.heap.size := by
 obtain ⟨o, h1, h2⟩ := B6 hT hK h hn k v
 exact ⟨_, h1, h2, Ef _ _ o (qn _), ED _ _ _, by simp⟩
def Mx : List (Int × Value) := [(3, int i64 4), (2, int i64 16), (1, int i64 64)]
def NC (m : Int) : Int := if m = 3 then 4 else if m = 2 then 16 else if m = 1 then 64 else 0
theorem My (m : Int) : (BX Mx m).getD (int i64 0) = int i64 (NC m) := by
 unfold NC
 by_cases h3 : m = 3
 ·subst h3; rfl
 by_cases h2 : m = 2
 ·subst h2; rfl
 by_cases h1 : m = 1
 ·subst h1; rfl
 ·rw [if_neg h3, if_neg h2, if_neg h1]
  have : BX Mx m = none := by
   unfold BX Mx
   have e3 : ((3 : Int) == m) = false := by simpa using fun e => h3 e.symm
   have e2 : ((2 : Int) == m) = false := by simpa using fun e => h2 e.symm
   have e1 : ((1 : Int) == m) = false := by simpa using fun e => h1 e.symm
   simp [e3, e2, e1]
  rw [this]; rfl
theorem Q7 (n : Int) (s : Sgn) (r : Rea) (c er : Int) (hc : c = if AL s r && decide (r.sign = n) then Aj s r else 0) (her : er = if AL s r && decide (r.sign = n) then 0 else 1) (w w3 : World) (B K8 : Nat) (hB3 : Below w.heap.size w w3) (g1 : w3.heap[B]? = some (.cells (IT r) 37 (0, 0))) (g2 : w3.heap[K8]? = some (.cells (Ar s) 72 (0, 0))) (e0 e2 e3 e4 ea eb ec ed ee ef eg eh ei ej ek el em en eo ep eq es et eu ev ew ex ey ez eA eB eC eD eE eF eG eH eI eJ eK eL eM eN eO eP eQ eR eS eT eU eV eW eX eY eZ aa ab ac ad ae af ag ah ai aj ak al am an ao ap aq ar au av aw ax ay az aA aB aC aD aE aF aG aH aI aJ aK aL aM aN aO aP aQ aR aS aT aU aV aW aX aY aZ ba : Value) :
  Code.wp Tryz.prog EG (bodyPost Tryz.prog Tryz.f11 (KT c er w)) { tmps := #[e0, int i64 n, e2, e3, e4, .pointer (some ⟨B, 0, none⟩), int i64 0, int i64 0, .pointer (some ⟨K8, 0, none⟩), .bool (Cq s), .bool (AL s r), ea, eb, ec, ed, ee, ef, eg, eh, ei, ej, ek, el, em, en, eo, ep, eq, es, et, eu, ev, ew, ex, ey, ez, eA, eB, eC, eD, eE, eF, eG, eH, eI, eJ, eK, eL, eM, eN, eO, eP, eQ, eR, eS, eT, eU, eV, eW, eX, eY, eZ, aa, ab, ac, ad, ae, af, ag, ah, ai, aj, ak, al, am, an, ao, ap, aq, ar, au, av, aw, ax, ay, az, aA, aB, aC, aD, aE, aF, aG, aH, aI, aJ, aK, aL, aM, aN, aO, aP, aQ, aR, aS, aT, aU, aV, aW, aX, aY, aZ, ba], defers := [] } w3 := by
 have b0 : w3.cell? ⟨B, 0, none⟩ = some (int i64 r.sign) := A0 g1 0 rfl
 have b1 : w3.cell? ⟨B, 1, none⟩ = some (int i64 r.dir) := A0 g1 1 rfl
 have b2 : w3.cell? ⟨B, 2, none⟩ = some (int i64 r.level) := A0 g1 2 rfl
 have b3 : w3.cell? ⟨B, 3, none⟩ = some (.bool r.drop) := A0 g1 3 rfl
 have c3 : w3.cell? ⟨K8, 3, none⟩ = some (int i64 s.mark) := A0 g2 3 rfl
 have c6 : w3.cell? ⟨K8, 6, none⟩ = some (int i64 s.dir) := A0 g2 6 rfl
 have c7 : w3.cell? ⟨K8, 7, none⟩ = some (int i64 s.level) := A0 g2 7 rfl
 have hK8 : K8 < w3.heap.size := (qs.1 g2).1
 have pd : r.drop = true → Aj s r = NC s.mark := fun h => by unfold Aj; rw [if_pos h]; rfl
 have pm : r.drop = false → Aj s r = if Cq s && !(decide (r.dir = s.dir) && decide (r.level = s.level)) then 1 else 0 := fun h => by unfold Aj; rw [h]; rfl
 unfold KT
 generalize Aj s r = pr at *
 generalize Cq s = mv at *
 generalize AL s r = fb at *
 have HC := qh hc; have HER := qh her; have B3 := qh hB3; have PD := qh pd; have PM := qh pm
 clear hB3 g1 g2 pd pm hc her
 unfold EG Du
 conv => arg 2; whnf
 cases fb with
 | false =>
  clear b0 b1 b2 b3 c3 c6 c7
  go_wp2_with fail
  go_ret2
  exact ⟨by rw [HC.out, HER.out]; rfl, B3.out⟩
 | true =>
  by_cases hs : r.sign = n
  ·have f1 : (r.sign != n) = false := by simpa using hs
   have HS := qh (decide_eq_true hs)
   clear hs
   cases hd : r.drop with
   | true =>
    rw [hd] at b3
    have HP := qh (PD.out hd)
    clear hd b1 b2 c6 c7
    have hmm := @run_makeMap Tryz.prog
    have hm0 := MapAt.new w3
    have hbl : Below w3.heap.size w3 (w3.alloc (.map #[] 0)) := (Below.refl _ _).alloc (qn _) _
    obtain ⟨W1, u1, hm1, bb1, _, _⟩ := Gf (P := Tryz.prog) (T := 82) Tryz.underlying82 Tryz.underlying3 hm0 List.nodup_nil 3 (int i64 4)
    rw [BM rfl] at hm1
    have hb1 := hbl.trans bb1
    obtain ⟨W2, u2, hm2, bb2, _, _⟩ := Gf (P := Tryz.prog) (T := 82) Tryz.underlying82 Tryz.underlying3 hm1 (by unfold AY; simp) 2 (int i64 16)
    rw [BM rfl] at hm2
    have hb2 := hb1.trans bb2
    obtain ⟨W3, u3, hm3, bb3, _, _⟩ := Gf (P := Tryz.prog) (T := 82) Tryz.underlying82 Tryz.underlying3 hm2 (by unfold AY; simp) 1 (int i64 64)
    rw [BM rfl] at hm3
    have hb3 := hb2.trans bb3
    have d3 := (hb3.cell (p := ⟨K8, 3, none⟩) hK8).trans c3
    have u4 := Dv (P := Tryz.prog) (T := 82) Tryz.underlying82 Tryz.underlying3 hm3 s.mark (Tryz.zeroValue3 _) false
    have hg : (BX ([] ++ [(3, Value.int .i64 4)] ++ [(2, int i64 16)] ++ [(1, int i64 64)]) s.mark).getD (int i64 0) = int i64 (NC s.mark) := My s.mark
    rw [hg] at u4
    have HB := qh (B3.out.trans (hb3.mono B3.out.size))
    clear hm0 hm1 hm2 hm3 hbl hb1 hb2 hb3 hg bb1 bb2 bb3
    go_wp2_with fail
    go_ret2
    exact ⟨by rw [HC.out, HER.out, HS.out, HP.out]; rfl, HB.out⟩
   | false =>
    rw [hd] at b3
    have HP := qh (PM.out hd)
    clear hd c3
    cases mv with
    | false =>
     go_wp2_with fail
     go_ret2
     exact ⟨by rw [HC.out, HER.out, HS.out, HP.out]; rfl, B3.out⟩
    | true =>
     by_cases q1 : r.dir = s.dir
     ·have f2 : (r.dir != s.dir) = false := by simpa using q1
      by_cases q2 : r.level = s.level
      ·have f3 : (r.level != s.level) = false := by simpa using q2
       have HQ := qh (HP.out.trans (by rw [decide_eq_true q1, decide_eq_true q2]; rfl) : pr = 0)
       clear q1 q2
       go_wp2_with fail
       go_ret2
       exact ⟨by rw [HC.out, HER.out, HS.out, HQ.out]; rfl, B3.out⟩
      ·have f3 : (r.level != s.level) = true := by simpa using q2
       have HQ := qh (HP.out.trans (by rw [decide_eq_false q2]; simp) : pr = 1)
       clear q1 q2
       go_wp2_with fail
       go_ret2
       exact ⟨by rw [HC.out, HER.out, HS.out, HQ.out]; rfl, B3.out⟩
     ·have f2 : (r.dir != s.dir) = true := by simpa using q1
      have HQ := qh (HP.out.trans (by rw [decide_eq_false q1]; rfl) : pr = 1)
      clear q1
      go_wp2_with fail
      go_ret2
      exact ⟨by rw [HC.out, HER.out, HS.out, HQ.out]; rfl, B3.out⟩
  ·have f1 : (r.sign != n) = true := by simpa using hs
   have HS := qh (decide_eq_false hs)
   clear hs b1 b2 b3 c3 c6 c7
   go_wp2_with fail
   go_ret2
   exact ⟨by rw [HC.out, HER.out, HS.out]; rfl, B3.out⟩
end
section
open Go Go.RowKit
theorem Oa (n : Int) (r : Rea) (wd dp ta tb tc bars : Int) (aR aT aP aX aS : Option Addr) (cR cT cP cX cS : Nat) (rs : List Rol) (ts : List Tmp) (ps : List Pau) (xs : List Con) (ss : List Sgn) (w : World) (hE : Env w)
  (hR : IsRow De 4 w (.slice aR rs.length cR) rs) (hT : IsRow Bq 3 w (.slice aT ts.length cT) ts) (hP : IsRow Cl 4 w (.slice aP ps.length cP) ps) (hX : IsRow Ck 4 w (.slice aX xs.length cX) xs) (hS : IsRow CF 14 w (.slice aS ss.length cS) ss)
  (hne : Ao ⟨wd, dp, ta, tb, tc, rs, ⟨bars, ts, ps, xs⟩, ss⟩ = 0) (hid : idF ss n = true) (X : Code) (R : Ending → World → Prop)
  (hK : ∀ (w3 : World) (K8 : Nat) (e0 e2 e3 e4 e9 ea eb ec ed ee ef eg eh ei ej ek el em en eo ep eq er es et eu ev ew ex ey ez eA eB eC eD eE eF eG eH eI eJ eK eL eM eN eO eP eQ eR eS eT eU eV eW eX eY eZ aa ab ac ad ae af ag ah ai aj ak al am an ao ap aq ar au av aw ax ay az aA aB aC aD aE aF aG aH aI aJ aK aL aM aN aO aQ aU aV aW aY aZ ba bb bc bd be bf : Value), Below w.heap.size w w3 → w3.heap[w.heap.size + 1]? = some (.cells (IT r) 37 (0, 0)) → w3.heap[K8]? = some (.cells (Ar ss[idP ss n]!) 72 (0, 0)) → Code.wp Tryz.prog X (bodyPost Tryz.prog Tryz.f11 R) { tmps := #[e0, int i64 n, e2, e3, e4, .pointer (some ⟨w.heap.size + 1, 0, none⟩), int i64 0, int i64 0, .pointer (some ⟨K8, 0, none⟩), e9, ea, eb, ec, ed, ee, ef, eg, eh, ei, ej, ek, el, em, en, eo, ep, eq, er, es, et, eu, ev, ew, ex, ey, ez, eA, eB, eC, eD, eE, eF, eG, eH, eI, eJ, eK, eL, eM, eN, eO, eP, eQ, eR, eS, eT, eU, eV, eW, eX, eY, eZ, aa, ab, ac, ad, ae, af, ag, ah, ai, aj, ak, al, am, an, ao, ap, aq, ar, au, av, aw, ax, ay, az, aA, aB, aC, aD, aE, aF, aG, aH, aI, aJ, aK, aL, aM, aN, aO, aQ, aU, aV, aW, aY, aZ, ba, bb, bc, bd, be, bf], defers := [] } w3) :
  Code.wp Tryz.prog (A8 3 Du X) (bodyPost Tryz.prog Tryz.f11 R) { tmps := #[.agg #[int i64 wd, int i64 dp, int i64 ta, int i64 tb, int i64 tc, .slice aR rs.length cR, int i64 bars, .slice aT ts.length cT, .slice aP ps.length cP, .slice aX xs.length cX, .slice aS ss.length cS], int i64 n, IM r, undef, undef, undef, undef, undef, undef, undef, undef, undef, undef, undef, undef, undef, undef, undef, undef, undef, undef, undef, undef, undef, undef, undef, undef, undef, undef, undef, undef, undef, undef, undef, undef, undef, undef, undef, undef, undef, undef, undef, undef, undef, undef, undef, undef, undef, undef, undef, undef, undef, undef, undef, undef, undef, undef, undef, undef, undef, undef, undef, undef, undef, undef, undef, undef, undef, undef, undef, undef, undef, undef, undef, undef, undef, undef, undef, undef, undef, undef, undef, undef, undef, undef, undef, undef, undef, undef, undef, undef, undef, undef, undef, undef, undef, undef, undef, undef, undef, undef, undef, undef, undef, undef, undef, undef, undef, undef, undef, undef, undef, undef], defers := [] } w := by
 have hfd := fun (w : World) hE hR hT hP hX hS => DE n wd dp ta tb tc bars aR aT aP aX aS cR cT cP cX cS rs ts ps xs ss w hE hR hT hP hX hS
 have hfv : CR ⟨wd, dp, ta, tb, tc, rs, ⟨bars, ts, ps, xs⟩, ss⟩ n = .tuple #[.agg (Ar ss[idP ss n]!), int i64 0] := by unfold CR; rw [if_pos hne, hid]; rfl
 rw [hfv] at hfd
 generalize ss[idP ss n]! = s at *
 have HFD := qh hfd; have HE := qh hE; have HR := qh hR; have HT := qh hT; have HP := qh hP; have HX := qh hX; have HS := qh hS; have HK := qh hK
 clear hfd hE hR hT hP hX hS hfv hne hid hK
 generalize rs.length = nR at *
 generalize ts.length = nT at *
 generalize ps.length = nP at *
 generalize xs.length = nX at *
 generalize ss.length = nS at *
 obtain ⟨g0, g1, hz, hb⟩ := Bn w (.cells #[int i64 wd, int i64 dp, int i64 ta, int i64 tb, int i64 tc, .slice aR nR cR, int i64 bars, .slice aT nT cT, .slice aP nP cP, .slice aX nX cX, .slice aS nS cS] 32) (.cells (IT r) 37)
 have hbv : IM r = .agg (IT r) := rfl
 rw [hbv]
 have G0 := qh g0; have G1 := qh g1; have HB := qh hb; have HZ := qh hz; have HBV := qh hbv
 have HSA := qh (show (Ar s).all (·.oneCell') = true by simp [Ar, Value.oneCell'])
 clear g0 g1 hz hb hbv
 unfold Du
 conv => arg 2; whnf
 simp only [A8]
 go_wp2_with (first | (refine wpList_load_row rfl 32 _ rfl w.heap.size rfl 32 _ (0, 0) _ G0.out Tryz.underlying32 rfl (by kernel_rfl) ?_; simp only [Act.put, qD, qE, qF]))
 generalize (w.alloc (.cells #[int i64 wd, int i64 dp, int i64 ta, int i64 tb, int i64 tc, .slice aR nR cR, int i64 bars, .slice aT nT cT, .slice aP nP cP, .slice aX nX cX, .slice aS nS cS] 32)).alloc (.cells (IT r) 37) = w0 at *
 refine (HFD.out w0 (HE.out.below HB.out) (HR.out.below HB.out (qn _)) (HT.out.below HB.out (qn _)) (HP.out.below HB.out (qn _)) (HX.out.below HB.out (qn _)) (HS.out.below HB.out (qn _))).mono ?_
 rintro e w1 ⟨rfl, b1⟩
 have hz := HZ.out
 have hb1 := b1.size
 have B1 := qh (HB.out.trans (b1.mono (by omega)))
 have H1 := qh ((b1.block (w.heap.size + 1) (by omega)).trans G1.out)
 have hl : w.heap.size + 1 < w1.heap.size := by omega
 clear HFD HE HR HT HP HX HS HB G0 G1 b1 hz HZ hb1
 have hb5 : Below w1.heap.size w1 (w1.alloc (.cells (Ar s) 72)) := (Below.refl w1.heap.size w1).alloc (qn _) _
 have I1 := qh ((hb5.block (w.heap.size + 1) hl).trans H1.out)
 have I2 := qh (heap_alloc_new w1 (.cells (Ar s) 72))
 have B2 := qh (B1.out.trans (hb5.mono B1.out.size))
 clear hb5 H1 B1
 go_wp2_with (refine wpList_store_row rfl 72 _ _ rfl w1.heap.size (Ar s) rfl rfl 72 _ (heap_alloc_new w1 _) (by kernel_rfl) rfl HSA.out ?_; rw [World.setRow_alloc_new])
 exact HK.out _ w1.heap.size _ _ _ _ _ _ _ _ _ _ _ _ _ _ _ _ _ _ _ _ _ _ _ _ _ _ _ _ _ _ _ _ _ _ _ _ _ _ _ _ _ _ _ _ _ _ _ _ _ _ _ _ _ _ _ _ _ _ _ _ _ _ _ _ _ _ _ _ _ _ _ _ _ _ _ _ _ _ _ _ _ _ _ _ _ _ _ _ _ _ _ _ _ _ _ _ _ _ _ _ _ _ _ _ _ _ _ _ B2.out I1.out I2.out
theorem Jf (n : Int) (r : Rea) (wd dp ta tb tc bars : Int) (aR aT aP aX aS : Option Addr) (cR cT cP cX cS : Nat) (rs : List Rol) (ts : List Tmp) (ps : List Pau) (xs : List Con) (ss : List Sgn) (w : World) (hE : Env w)
  (hR : IsRow De 4 w (.slice aR rs.length cR) rs) (hT : IsRow Bq 3 w (.slice aT ts.length cT) ts) (hP : IsRow Cl 4 w (.slice aP ps.length cP) ps) (hX : IsRow Ck 4 w (.slice aX xs.length cX) xs) (hS : IsRow CF 14 w (.slice aS ss.length cS) ss)
  (er : Int) (her : er ≠ 0) (hfv : CR ⟨wd, dp, ta, tb, tc, rs, ⟨bars, ts, ps, xs⟩, ss⟩ n = .tuple #[.agg Bw, int i64 er]) :
  Calls Tryz.prog 11 #[.agg #[int i64 wd, int i64 dp, int i64 ta, int i64 tb, int i64 tc, .slice aR rs.length cR, int i64 bars, .slice aT ts.length cT, .slice aP ps.length cP, .slice aX xs.length cX, .slice aS ss.length cS], int i64 n, IM r] w fun e w' => e = .returned (.tuple #[int i64 0, int i64 er]) ∧ Below w.heap.size w w' := by
 have hfd := fun (w : World) hE hR hT hP hX hS => DE n wd dp ta tb tc bars aR aT aP aX aS cR cT cP cX cS rs ts ps xs ss w hE hR hT hP hX hS
 have her2 : (er != 0) = true := by simpa using her
 rw [hfv] at hfd
 clear her
 have HFD := qh hfd; have HE := qh hE; have HR := qh hR; have HT := qh hT; have HP := qh hP; have HX := qh hX; have HS := qh hS
 clear hfd hE hR hT hP hX hS hfv
 generalize rs.length = nR at *
 generalize ts.length = nT at *
 generalize ps.length = nP at *
 generalize xs.length = nX at *
 generalize ss.length = nS at *
 obtain ⟨g0, g1, hz, hb⟩ := Bn w (.cells #[int i64 wd, int i64 dp, int i64 ta, int i64 tb, int i64 tc, .slice aR nR cR, int i64 bars, .slice aT nT cT, .slice aP nP cP, .slice aX nX cX, .slice aS nS cS] 32) (.cells (IT r) 37)
 have hbv : IM r = .agg (IT r) := rfl
 rw [hbv]
 have G0 := qh g0; have G1 := qh g1; have HB := qh hb; have HZ := qh hz; have HBV := qh hbv
 clear g0 g1 hz hb hbv
 go_enter Tryz.func11, Tryz.ntmps11
 go_wp2_with (first | (refine wpList_load_row rfl 32 _ rfl w.heap.size rfl 32 _ (0, 0) _ G0.out Tryz.underlying32 rfl (by kernel_rfl) ?_; simp only [Act.put, qD, qE, qF]))
 generalize (w.alloc (.cells #[int i64 wd, int i64 dp, int i64 ta, int i64 tb, int i64 tc, .slice aR nR cR, int i64 bars, .slice aT nT cT, .slice aP nP cP, .slice aX nX cX, .slice aS nS cS] 32)).alloc (.cells (IT r) 37) = w0 at *
 refine (HFD.out w0 (HE.out.below HB.out) (HR.out.below HB.out (qn _)) (HT.out.below HB.out (qn _)) (HP.out.below HB.out (qn _)) (HX.out.below HB.out (qn _)) (HS.out.below HB.out (qn _))).mono ?_
 rintro e w1 ⟨rfl, b1⟩
 have hz := HZ.out
 have hb1 := b1.size
 have B1 := qh (HB.out.trans (b1.mono (by omega)))
 have H1 := qh ((b1.block (w.heap.size + 1) (by omega)).trans G1.out)
 have hl : w.heap.size + 1 < w1.heap.size := by omega
 clear HFD HE HR HT HP HX HS HB G0 G1 b1 hz HZ hb1
 have B2 := qh (B1.out.alloc B1.out.size (.cells Bw 72))
 clear B1 H1
 unfold Bw at *
 go_wp2_with fail
 go_ret2
 exact ⟨rfl, B2.out⟩
theorem Oc (n : Int) (r : Rea) (wd dp ta tb tc bars : Int) (aR aT aP aX aS : Option Addr) (cR cT cP cX cS : Nat) (rs : List Rol) (ts : List Tmp) (ps : List Pau) (xs : List Con) (ss : List Sgn) (w : World) (hE : Env w)
  (hR : IsRow De 4 w (.slice aR rs.length cR) rs) (hT : IsRow Bq 3 w (.slice aT ts.length cT) ts) (hP : IsRow Cl 4 w (.slice aP ps.length cP) ps) (hX : IsRow Ck 4 w (.slice aX xs.length cX) xs) (hS : IsRow CF 14 w (.slice aS ss.length cS) ss) (hne : Ao ⟨wd, dp, ta, tb, tc, rs, ⟨bars, ts, ps, xs⟩, ss⟩ = 0) (hid : idF ss n = true) :
  Calls Tryz.prog 11 #[.agg #[int i64 wd, int i64 dp, int i64 ta, int i64 tb, int i64 tc, .slice aR rs.length cR, int i64 bars, .slice aT ts.length cT, .slice aP ps.length cP, .slice aX xs.length cX, .slice aS ss.length cS], int i64 n, IM r] w (KT (if AL ss[idP ss n]! r && decide (r.sign = n) then Aj ss[idP ss n]! r else 0) (if AL ss[idP ss n]! r && decide (r.sign = n) then 0 else 1) w) := by
 generalize hc : (if AL ss[idP ss n]! r && decide (r.sign = n) then Aj ss[idP ss n]! r else 0) = c
 generalize her : (if AL ss[idP ss n]! r && decide (r.sign = n) then (0 : Int) else 1) = er
 go_enter Tryz.func11, Tryz.ntmps11
 refine Oa n r wd dp ta tb tc bars aR aT aP aX aS cR cT cP cX cS rs ts ps xs ss w hE hR hT hP hX hS hne hid (A8 1 Ka (A8 1 GH (A8 1 FB EG))) _ ?_
 intro w3 K8 _ _ _ _ _ _ _ _ _ _ _ _ _ _ _ _ _ _ _ _ _ _ _ _ _ _ _ _ _ _ _ _ _ _ _ _ _ _ _ _ _ _ _ _ _ _ _ _ _ _ _ _ _ _ _ _ _ _ _ _ _ _ _ _ _ _ _ _ _ _ _ _ _ _ _ _ _ _ _ _ _ _ _ _ _ _ _ _ _ _ _ _ _ _ _ _ _ _ _ _ _ _ _ _ _ _ _ _ hB3 g1 g2
 refine Ma n ss[idP ss n]! w3 (w.heap.size + 1) K8 g2 _ _ _ _ _ _ _ _ _ _ _ _ _ _ _ _ _ _ _ _ _ _ _ _ _ _ _ _ _ _ _ _ _ _ _ _ _ _ _ _ _ _ _ _ _ _ _ _ _ _ _ _ _ _ _ _ _ _ _ _ _ _ _ _ _ _ _ _ _ _ _ _ _ _ _ _ _ _ _ _ _ _ _ _ _ _ _ _ _ _ _ _ _ _ _ _ _ _ _ _ _ _ _ _ _ _ _ _ (A8 1 GH (A8 1 FB EG)) _ ?_
 intros
 refine Od n _ r w3 (w.heap.size + 1) K8 g1 _ _ _ _ _ _ _ _ _ _ _ _ _ _ _ _ _ _ _ _ _ _ _ _ _ _ _ _ _ _ _ _ _ _ _ _ _ _ _ _ _ _ _ _ _ _ _ _ _ _ _ _ _ _ _ _ _ _ _ _ _ _ _ _ _ _ _ _ _ _ _ _ _ _ _ _ _ _ _ _ _ _ _ _ _ _ _ _ _ _ _ _ _ _ _ _ _ _ _ _ _ _ _ _ _ _ _ (A8 1 FB EG) _ ?_
 intros
 refine O9 n ss[idP ss n]! r w3 (w.heap.size + 1) K8 g1 g2 _ _ _ _ _ _ _ _ _ _ _ _ _ _ _ _ _ _ _ _ _ _ _ _ _ _ _ _ _ _ _ _ _ _ _ _ _ _ _ _ _ _ _ _ _ _ _ _ _ _ _ _ _ _ _ _ _ _ _ _ _ _ _ _ _ _ _ _ _ _ _ _ _ _ _ _ _ _ _ _ _ _ _ _ _ _ _ _ _ _ _ _ _ _ _ _ _ _ _ _ _ _ _ _ _ _ EG _ ?_
 intros
 exact Q7 n ss[idP ss n]! r c er hc.symm her.symm w w3 (w.heap.size + 1) K8 hB3 g1 g2 _ _ _ _ _ _ _ _ _ _ _ _ _ _ _ _ _ _ _ _ _ _ _ _ _ _ _ _ _ _ _ _ _ _ _ _ _ _ _ _ _ _ _ _ _ _ _ _ _ _ _ _ _ _ _ _ _ _ _ _ _ _ _ _ _ _ _ _ _ _ _ _ _ _ _ _ _ _ _ _ _ _ _ _ _ _ _ _ _ _ _ _ _ _ _ _ _ _ _ _ _ _ _ _ _ _
theorem PY (n : Int) (r : Rea) (wd dp ta tb tc bars : Int) (aR aT aP aX aS : Option Addr) (cR cT cP cX cS : Nat) (rs : List Rol) (ts : List Tmp) (ps : List Pau) (xs : List Con) (ss : List Sgn) (w : World) (hE : Env w)
  (hR : IsRow De 4 w (.slice aR rs.length cR) rs) (hT : IsRow Bq 3 w (.slice aT ts.length cT) ts) (hP : IsRow Cl 4 w (.slice aP ps.length cP) ps) (hX : IsRow Ck 4 w (.slice aX xs.length cX) xs) (hS : IsRow CF 14 w (.slice aS ss.length cS) ss) :
  Calls Tryz.prog 11 #[.agg #[int i64 wd, int i64 dp, int i64 ta, int i64 tb, int i64 tc, .slice aR rs.length cR, int i64 bars, .slice aT ts.length cT, .slice aP ps.length cP, .slice aX xs.length cX, .slice aS ss.length cS], int i64 n, IM r] w (KT (CA ⟨wd, dp, ta, tb, tc, rs, ⟨bars, ts, ps, xs⟩, ss⟩ n r) (Dx ⟨wd, dp, ta, tb, tc, rs, ⟨bars, ts, ps, xs⟩, ss⟩ n r) w) := by
 by_cases hne : Ao ⟨wd, dp, ta, tb, tc, rs, ⟨bars, ts, ps, xs⟩, ss⟩ = 0
 ·cases hid : idF ss n with
  | true =>
   have h := Oc n r wd dp ta tb tc bars aR aT aP aX aS cR cT cP cX cS rs ts ps xs ss w hE hR hT hP hX hS hne hid
   have he : Dx ⟨wd, dp, ta, tb, tc, rs, ⟨bars, ts, ps, xs⟩, ss⟩ n r = if AL ss[idP ss n]! r && decide (r.sign = n) then 0 else 1 := by unfold Dx; rw [if_neg (by simpa using hne)]; simp only [hid, if_true]
   have hi : CA ⟨wd, dp, ta, tb, tc, rs, ⟨bars, ts, ps, xs⟩, ss⟩ n r = if AL ss[idP ss n]! r && decide (r.sign = n) then Aj ss[idP ss n]! r else 0 := by
    unfold CA; rw [he]
    cases (AL ss[idP ss n]! r && decide (r.sign = n)) <;> rfl
   rw [he, hi]; exact h
  | false =>
   have he : Dx ⟨wd, dp, ta, tb, tc, rs, ⟨bars, ts, ps, xs⟩, ss⟩ n r = 300 := by unfold Dx; rw [if_neg (by simpa using hne)]; simp [hid]
   have hi : CA ⟨wd, dp, ta, tb, tc, rs, ⟨bars, ts, ps, xs⟩, ss⟩ n r = 0 := by unfold CA; rw [he]; rfl
   rw [he, hi]
   exact Jf n r wd dp ta tb tc bars aR aT aP aX aS cR cT cP cX cS rs ts ps xs ss w hE hR hT hP hX hS 300 (by decide) (by unfold CR; rw [if_pos hne, hid]; rfl)
 ·have he : Dx ⟨wd, dp, ta, tb, tc, rs, ⟨bars, ts, ps, xs⟩, ss⟩ n r = Ao ⟨wd, dp, ta, tb, tc, rs, ⟨bars, ts, ps, xs⟩, ss⟩ := by unfold Dx; rw [if_pos hne]
  have hi : CA ⟨wd, dp, ta, tb, tc, rs, ⟨bars, ts, ps, xs⟩, ss⟩ n r = 0 := by unfold CA; rw [he, if_neg hne]
  rw [he, hi]
  exact Jf n r wd dp ta tb tc bars aR aT aP aX aS cR cT cP cX cS rs ts ps xs ss w hE hR hT hP hX hS _ hne (by unfold CR; rw [if_neg hne])
end
section
open Go Go.RowKit
end
section
open Go Go.RowKit
def SJ : Sgn := ⟨3, 0, 0, 1, 4, 1, 1, 2, 0, 0, 0, 1, 1, 1⟩
def SN : Sgn := ⟨5, 0, 0, 3, 3, 1, 1, 3, 0, 0, 0, 1, 1, 1⟩
structure SmallAt (w' : World) (R T S : Nat) : Prop where
 r : w'.heap[R]? = some (.cells #[.string ⟨#[97]⟩, int i64 0, int i64 0, int i64 0] 86 (0, 0))
 t : w'.heap[T]? = some (.cells #[int i64 0, int i64 100, int i64 0] 88 (0, 0))
 s : w'.heap[S]? = some (.cells (Ar SJ ++ Ar SN) 72 (0, 0))
end
section
open Go Go.RowKit
end
section
open Go Go.RowKit
theorem SK {w : World} {b o i : Nat} {xs : List Rea} {t : Rea} (h : AtRow Ai 4 w b o xs) (ht : xs[i]? = some t) :
  w.cell? ⟨b, o + i * 4, none⟩ = some (int i64 t.sign) ∧ w.cell? ⟨b, o + i * 4 + 1, none⟩ = some (int i64 t.dir) ∧ w.cell? ⟨b, o + i * 4 + 2, none⟩ = some (int i64 t.level) ∧ w.cell? ⟨b, o + i * 4 + 3, none⟩ = some (.bool t.drop) :=
 ⟨h i t ht 0 _ rfl, h i t ht 1 _ rfl, h i t ht 2 _ rfl, h i t ht 3 _ rfl⟩
end
section
open Go Go.RowKit
def Mi (k : Wrk) : Bool :=
 !(decide (100 < k.roles.length) || decide (64 < k.clock.tempos.length) || decide (64 < k.clock.pauses.length) || decide (64 < k.clock.spans.length)) &&
 (decide (k.signs.length ≤ 80) && decide (k.clock.bars ≤ 4096) || decide (4096 < k.signs.length) && decide (k.signs.length ≤ 5000) || decide (4096 < k.clock.bars) && decide (k.signs.length ≤ 80))
theorem Rw (wd dp ta tb tc bars : Int) (aR aT aP aX aS : Option Addr) (cR cT cP cX cS : Nat) (rs : List Rol) (ts : List Tmp) (ps : List Pau) (xs : List Con) (ss : List Sgn) (w : World) :
  Calls Tryz.prog 8 #[.agg #[int i64 wd, int i64 dp, int i64 ta, int i64 tb, int i64 tc, .slice aR rs.length cR, int i64 bars, .slice aT ts.length cT, .slice aP ps.length cP, .slice aX xs.length cX, .slice aS ss.length cS]] w fun e w' => e = .returned (.bool (Mi ⟨wd, dp, ta, tb, tc, rs, ⟨bars, ts, ps, xs⟩, ss⟩)) ∧ Below w.heap.size w w' := by
 have hf : Mi ⟨wd, dp, ta, tb, tc, rs, ⟨bars, ts, ps, xs⟩, ss⟩ = (!(decide (100 < rs.length) || decide (64 < ts.length) || decide (64 < ps.length) || decide (64 < xs.length)) &&
  (decide (ss.length ≤ 80) && decide (bars ≤ 4096) || decide (4096 < ss.length) && decide (ss.length ≤ 5000) || decide (4096 < bars) && decide (ss.length ≤ 80))) := rfl
 generalize Mi ⟨wd, dp, ta, tb, tc, rs, ⟨bars, ts, ps, xs⟩, ss⟩ = ans at *
 generalize rs.length = nR at *
 generalize ts.length = nT at *
 generalize ps.length = nP at *
 generalize xs.length = nX at *
 generalize ss.length = nS at *
 have hb : Below w.heap.size w (w.alloc (.cells #[int i64 wd, int i64 dp, int i64 ta, int i64 tb, int i64 tc, .slice aR nR cR, int i64 bars, .slice aT nT cT, .slice aP nP cP, .slice aX nX cX, .slice aS nS cS] 32)) := (Below.refl _ _).alloc (qn _) _
 have HB := qh hb
 have HF := qh hf
 clear hb hf
 by_cases h1 : 100 < nR
 ·have f1 : (100 : Int) < (nR : Int) := by omega
  obtain rfl : ans = false := by rw [HF.out, decide_eq_true h1]; simp
  clear h1
  go_enter Tryz.func8, Tryz.ntmps8
  go_wp2_with fail
  go_ret
  exact ⟨rfl, HB.out⟩
 have f1 : ¬ (100 : Int) < (nR : Int) := by omega
 by_cases h2 : 64 < nT
 ·have f2 : (64 : Int) < (nT : Int) := by omega
  obtain rfl : ans = false := by rw [HF.out, decide_eq_true h2]; simp
  clear h1 h2
  go_enter Tryz.func8, Tryz.ntmps8
  go_wp2_with fail
  go_ret
  exact ⟨rfl, HB.out⟩
 have f2 : ¬ (64 : Int) < (nT : Int) := by omega
 by_cases h3 : 64 < nP
 ·have f3 : (64 : Int) < (nP : Int) := by omega
  obtain rfl : ans = false := by rw [HF.out, decide_eq_true h3]; simp
  clear h1 h2 h3
  go_enter Tryz.func8, Tryz.ntmps8
  go_wp2_with fail
  go_ret
  exact ⟨rfl, HB.out⟩
 have f3 : ¬ (64 : Int) < (nP : Int) := by omega
 by_cases h4 : 64 < nX
 ·have f4 : (64 : Int) < (nX : Int) := by omega
  obtain rfl : ans = false := by rw [HF.out, decide_eq_true h4]; simp
  clear h1 h2 h3 h4
  go_enter Tryz.func8, Tryz.ntmps8
  go_wp2_with fail
  go_ret
  exact ⟨rfl, HB.out⟩
 have f4 : ¬ (64 : Int) < (nX : Int) := by omega
 replace HF := qh (HF.out.trans (by rw [decide_eq_false h1, decide_eq_false h2, decide_eq_false h3, decide_eq_false h4]; rfl) : ans = (decide (nS ≤ 80) && decide (bars ≤ 4096) || decide (4096 < nS) && decide (nS ≤ 5000) || decide (4096 < bars) && decide (nS ≤ 80)))
 clear h1 h2 h3 h4
 by_cases h5 : nS ≤ 80
 ·have f5 : (nS : Int) ≤ 80 := by omega
  have f6 : ¬ (4096 : Int) < (nS : Int) := by omega
  obtain rfl : ans = true := by
   rw [HF.out, decide_eq_true h5]
   by_cases hb : bars ≤ 4096
   ·rw [decide_eq_true hb]; rfl
   ·rw [decide_eq_true (show 4096 < bars by omega)]; simp
  clear h5
  by_cases hb : bars ≤ 4096
  ·go_enter Tryz.func8, Tryz.ntmps8
   go_wp2_with fail
   go_ret
   exact ⟨rfl, HB.out⟩
  ·have hb2 : 4096 < bars := by omega
   go_enter Tryz.func8, Tryz.ntmps8
   go_wp2_with fail
   go_ret
   exact ⟨rfl, HB.out⟩
 ·have f5 : ¬ (nS : Int) ≤ 80 := by omega
  have f7 : decide ((nS : Int) ≤ 80) = false := decide_eq_false f5
  replace HF := qh (HF.out.trans (by rw [decide_eq_false h5]; simp) : ans = (decide (4096 < nS) && decide (nS ≤ 5000)))
  by_cases h6 : 4096 < nS
  ·have f6 : (4096 : Int) < (nS : Int) := by omega
   by_cases h7 : nS ≤ 5000
   ·have f8 : (nS : Int) ≤ 5000 := by omega
    obtain rfl : ans = true := by rw [HF.out, decide_eq_true h6, decide_eq_true h7]; rfl
    clear h5 h6 h7
    go_enter Tryz.func8, Tryz.ntmps8
    go_wp2_with fail
    go_ret
    exact ⟨rfl, HB.out⟩
   ·have f8 : ¬ (nS : Int) ≤ 5000 := by omega
    obtain rfl : ans = false := by rw [HF.out, decide_eq_false h7]; simp
    clear h5 h6 h7
    by_cases hb : 4096 < bars
    ·go_enter Tryz.func8, Tryz.ntmps8
     go_wp2_with fail
     go_ret
     exact ⟨rfl, HB.out⟩
    ·go_enter Tryz.func8, Tryz.ntmps8
     go_wp2_with fail
     go_ret
     exact ⟨rfl, HB.out⟩
  ·have f6 : ¬ (4096 : Int) < (nS : Int) := by omega
   obtain rfl : ans = false := by rw [HF.out, decide_eq_false h6]; rfl
   clear h5 h6
   by_cases hb : 4096 < bars
   ·go_enter Tryz.func8, Tryz.ntmps8
    go_wp2_with fail
    go_ret
    exact ⟨rfl, HB.out⟩
   ·go_enter Tryz.func8, Tryz.ntmps8
    go_wp2_with fail
    go_ret
    exact ⟨rfl, HB.out⟩
end
section
open Go Go.RowKit
end
section
open Go Go.RowKit
def WkAt (k : Wrk) (ws : Array Value) (w : World) : Prop :=
 ∃ (aR aT aP aX aS : Option Addr) (cR cT cP cX cS : Nat),
  ws = #[int i64 k.width, int i64 k.depth, int i64 k.ta, int i64 k.tb, int i64 k.tc, .slice aR k.roles.length cR, int i64 k.clock.bars, .slice aT k.clock.tempos.length cT, .slice aP k.clock.pauses.length cP, .slice aX k.clock.spans.length cX, .slice aS k.signs.length cS] ∧
  IsRow De 4 w (.slice aR k.roles.length cR) k.roles ∧ IsRow Bq 3 w (.slice aT k.clock.tempos.length cT) k.clock.tempos ∧ IsRow Cl 4 w (.slice aP k.clock.pauses.length cP) k.clock.pauses ∧ IsRow Ck 4 w (.slice aX k.clock.spans.length cX) k.clock.spans ∧ IsRow CF 14 w (.slice aS k.signs.length cS) k.signs
section
variable {k : Wrk} {ws : Array Value} {w : World}
theorem WkAt.below {w' : World} {B : Nat} (h : WkAt k ws w) (hb : Below B w w') (hB : w.heap.size ≤ B) : WkAt k ws w' := by
 obtain ⟨aR, aT, aP, aX, aS, cR, cT, cP, cX, cS, e, hR, hT, hP, hX, hS⟩ := h
 exact ⟨aR, aT, aP, aX, aS, cR, cT, cP, cX, cS, e, hR.below hb hB, hT.below hb hB, hP.below hb hB, hX.below hb hB, hS.below hb hB⟩
theorem WkAt.size (h : WkAt k ws w) : (Tryz.prog.info? 32).map (·.size) = some ws.size := by
 obtain ⟨aR, aT, aP, aX, aS, cR, cT, cP, cX, cS, rfl, _⟩ := h
 kernel_rfl
theorem WkAt.few (h : WkAt k ws w) (W : World) : Calls Tryz.prog 8 #[.agg ws] W fun e w' => e = .returned (.bool (Mi k)) ∧ Below W.heap.size W w' := by
 obtain ⟨aR, aT, aP, aX, aS, cR, cT, cP, cX, cS, rfl, _⟩ := h
 exact Rw _ _ _ _ _ _ _ _ _ _ _ _ _ _ _ _ _ _ _ _ _ W
theorem WkAt.check (h : WkAt k ws w) (hE : Env w) : Calls Tryz.prog 42 #[.agg ws] w fun e w' => e = .returned (int i64 (Ao k)) ∧ Below w.heap.size w w' := by
 obtain ⟨aR, aT, aP, aX, aS, cR, cT, cP, cX, cS, rfl, hR, hT, hP, hX, hS⟩ := h
 exact Hj _ _ _ _ _ _ _ _ _ _ _ _ _ _ _ _ _ _ _ _ _ w hE hR hT hP hX hS
theorem WkAt.options (h : WkAt k ws w) (hE : Env w) (hz : 2 ≤ w.heap.size) (n : Int) (b : Bod) (hbn : b.name.length ≤ maxLen) :
  Calls Tryz.prog 9 #[.agg ws, int i64 n, Bh b] w fun e w' => ∃ v, e = .returned (.tuple #[v, int i64 (E9 k n b)]) ∧ w'.ownsRow w.heap.size 37 4 v (Fb k n b).length ((Fb k n b).flatMap Ai) ∧ Below w.heap.size w w' := by
 obtain ⟨aR, aT, aP, aX, aS, cR, cT, cP, cX, cS, rfl, hR, hT, hP, hX, hS⟩ := h
 exact Lr n b hbn _ _ _ _ _ _ _ _ _ _ _ _ _ _ _ _ _ _ _ _ _ w hE hz hR hT hP hX hS
theorem WkAt.cost (h : WkAt k ws w) (hE : Env w) (n : Int) (r : Rea) : Calls Tryz.prog 11 #[.agg ws, int i64 n, IM r] w (KT (CA k n r) (Dx k n r) w) := by
 obtain ⟨aR, aT, aP, aX, aS, cR, cT, cP, cX, cS, rfl, hR, hT, hP, hX, hS⟩ := h
 exact PY n r _ _ _ _ _ _ _ _ _ _ _ _ _ _ _ _ _ _ _ _ _ w hE hR hT hP hX hS
end
theorem Ry {ss : List Sgn} (hs : C0 (idT ss)) {i : Nat} {s : Sgn} (h : ss[i]? = some s) : idP ss s.id = i := by
 have hi := BL (bar := s.id - 1) hs (Ic h)
 have h1 : ¬ i < idP ss s.id := fun hlt => by
  have := hi.2 hlt
  simp at this
  omega
 rcases Nat.lt_or_ge (idP ss s.id) i with hlt | hge
 ·have hil : i < ss.length := (ql.1 h).1
  have hp : ss[idP ss s.id]? = some (ss[idP ss s.id]'(by omega)) := qg _
  have hq := BL (bar := s.id - 1) hs (Ic hp)
  have hlt2 : (ss[idP ss s.id]'(by omega)).id < s.id := by
   have e1 := Ic hp
   have e2 := Ic h
   obtain ⟨g1, f1⟩ := ql.1 e1
   obtain ⟨g2, f2⟩ := ql.1 e2
   have := List.pairwise_iff_getElem.1 hs (idP ss s.id) i g1 g2 hlt
   rw [f1, f2] at this
   exact this
  have : idP ss s.id < BO (idT ss) (s.id - 1) := hq.1 (by show (ss[idP ss s.id]'(by omega)).id ≤ s.id - 1; omega)
  exact absurd this (Nat.lt_irrefl _)
 ·omega
theorem Nz {ss : List Sgn} (hs : C0 (idT ss)) {s : Sgn} (h : s ∈ ss) : idF ss s.id = true ∧ ss[idP ss s.id]! = s := by
 obtain ⟨i, hi⟩ := List.getElem?_of_mem h
 have := Ry hs hi
 unfold idF
 rw [this, hi, List.getElem!_eq_getElem?_getD, hi]
 simp
theorem RL {k : Wrk} {s : Sgn} {b : Bod} (hk : Ao k = 0) (hs : s ∈ k.signs) (hb : AG b = true) : E9 k s.id b = 0 ∧ Fb k s.id b = Di k s b := by
 obtain ⟨h1, h2⟩ := Nz (EW hk) hs
 have he : E9 k s.id b = 0 := by unfold E9; rw [if_neg (by simpa using hk), if_pos hb, if_pos h1]
 refine ⟨he, ?_⟩
 unfold Fb
 rw [if_pos he, h2]
theorem Q9 {k : Wrk} {s : Sgn} {r : Rea} (hk : Ao k = 0) (hs : s ∈ k.signs) (hf : AL s r = true) (hr : r.sign = s.id) : Dx k s.id r = 0 ∧ CA k s.id r = Aj s r := by
 obtain ⟨h1, h2⟩ := Nz (EW hk) hs
 have he : Dx k s.id r = 0 := by unfold Dx; rw [if_neg (by simpa using hk), if_pos h1, h2, if_pos (by simp [hf, hr])]
 refine ⟨he, ?_⟩
 unfold CA
 rw [if_pos he, h2]
end
end Go.Proofs.YtggcbblikgankaaGreatDoor
