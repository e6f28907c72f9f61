/- Contracts and plain laws on the way to the statement: part 38. -/
import Derived.Test.YtpnbpepkoekkoaaZ32
import Derived.Shelf.Vars
import Derived.Test.YtpnbpepkoekkoaaChecked
import Derived.Test.YtpnbpepkoekkoaaZ3
set_option linter.unusedVariables false
set_option linter.unusedSimpArgs false
set_option maxRecDepth 100000
set_option maxHeartbeats 16000000
namespace Go.Proofs.Ytpnbpepkoekkoaa
open Go.Value (int)
open Go.IntKind (i64)
section
open Go Go.ChangeShapes Go.WideShapes Go.ChangeAt Go.RowKit Go.Deep
section
variable {H : Type} {et : TypeId × Value → H} {W : World}
structure PhO (W : World) (a : Addr) (p : Ph) (m : List Int) : Prop where
 c0 : W.cell? (a.add 0) = some (sv p.name)
 c1 : W.cell? (a.add 1) = some p.val
 its : p.Its W
 ns : NsAt W p.refsL m
 fit : p.its.mfit
theorem Ok {n : Nat} {c : Value} {y : DataW H × List MemPlace} (h : DataW.trod et Try.prog W 0 (fun _ => true) true n 27 [c] = some y) (hw : Wt 27 y.1) :
  ∃ (ps : List Ph) (fa : Option Addr) (fc : Nat) (ns : List Int), c = .slice fa ps.length fc ∧ (ps = [] ∨ fa = some ⟨blk fa, off fa, none⟩) ∧ ps.length ≤ maxLen ∧ AZ W (blk fa) (off fa) ps ∧ NsAt W (Ay ps) ns ∧ ∀ p ∈ ps, p.its.mfit := by
 rcases DataW.trod_slice Try.underlying27 h with ⟨e1, _⟩ | ⟨a, len, cap, elems, rest, m, rfl, e1, rfl, _, hlc, hcm, hl, hel, _⟩
 ·cases e1
  exact ⟨[], none, 0, [], rfl, Or.inl rfl, Nat.zero_le _, trivial, trivial, fun p hp => by cases hp⟩
 ·cases e1
  rw [GL] at hel; have hwe := (hw.slice Try.underlying27).2
  have each : ∀ i, i < len → ∃ p m, PhO W (a.add (i * 2)) p m := by
   intro i hi; have h1 := hel i hi; obtain ⟨y, hy⟩ : ∃ y, elems[i]? = some y := ⟨_, qg (by omega)⟩; rw [hy] at h1; obtain ⟨cs', h2, h3⟩ := Option.bind_eq_some_iff.1 h1; obtain ⟨_, hcl, hat⟩ := World.cells?_some h2; have hwy : Wt 57 y.1 := hwe _ (List.mem_map.2 ⟨y, List.mem_of_getElem? hy, rfl⟩); obtain ⟨ys, m', rfl, rfl, hl', hyl, hf⟩ := DataW.trod_struct Try.underlying57 h3; rw [GL] at hl'; obtain ⟨c0, c1, rfl⟩ := Lz hl'; obtain ⟨y0, hy0⟩ : ∃ y, ys[0]? = some y := ⟨_, qg (by rw [hyl]; decide)⟩; obtain ⟨y1, hy1⟩ : ∃ y, ys[1]? = some y := ⟨_, qg (by rw [hyl]; decide)⟩; have f0 : DataW.trod et Try.prog W 0 (fun _ => true) true m' 9 (([c0, c1].drop 0).take (Try.prog.cellsOf 9)) = some y0 := (hf 0 _ rfl).trans hy0; have f1 : DataW.trod et Try.prog W 0 (fun _ => true) true m' 55 (([c0, c1].drop 1).take (Try.prog.cellsOf 55)) = some y1 := (hf 1 _ rfl).trans hy1; rw [F0] at f0; rw [GK] at f1; have w1 : Wt 55 y1.1 := hwy.field Try.underlying57 (j := 1) rfl (by rw [List.getElem?_map, hy1]; rfl); obtain ⟨s, e0, _, _⟩ := DataW.trod_string Try.underlying9 f0; cases e0; obtain ⟨its, ia, ic, n2, e3, i1, i2, i3, i4, i5⟩ := On m' c1 y1 f1 w1; subst e3; exact ⟨⟨s.data.toList, ia, ic, its⟩, n2, hat 0 (by omega), hat 1 (by omega), ⟨i1, i2, i3⟩, i4, i5⟩
  by_cases h0 : len = 0
  ·subst h0
   exact ⟨[], some a, cap, [], rfl, Or.inl rfl, Nat.zero_le _, trivial, trivial, fun p hp => by cases hp⟩
  ·obtain ⟨_, _, hI0⟩ := each 0 (by omega)
   have hsp := World.cell?_spot hI0.c0; obtain ⟨b, o, sp⟩ := a; have hsp' : sp = none := by simpa [Addr.add] using hsp
   subst hsp'
   have build : ∀ r j, j + r = len → ∃ (ps : List Ph) (ns : List Int), ps.length = r ∧ AZ W b (o + j * 2) ps ∧ NsAt W (Ay ps) ns ∧ ∀ p ∈ ps, p.its.mfit := by
    intro r
    induction r with
    | zero => intro j _; exact ⟨[], [], rfl, trivial, trivial, fun p hp => by cases hp⟩
    | succ r ihr =>
     intro j hj; obtain ⟨ps, ns, t1, t2, t3, t4⟩ := ihr (j + 1) (by omega); obtain ⟨p, m, hI⟩ := each j (by omega); have e : o + (j + 1) * 2 = o + j * 2 + 2 := by omega
     rw [e] at t2; have ad : ∀ q, ((⟨b, o, none⟩ : Addr).add (j * 2)).add q = ⟨b, o + j * 2 + q, none⟩ := fun q => by rw [AX, AX]
     have d0 := hI.c0; have d1 := hI.c1; rw [ad] at d0 d1
     exact ⟨p :: ps, m ++ ns, by simp [t1], ⟨⟨d0, d1, hI.its⟩, t2⟩, hI.ns.append t3, fun q hq => by
      rcases List.mem_cons.1 hq with rfl | hq
      ·exact hI.fit
      ·exact t4 q hq⟩
   obtain ⟨ps, ns, t1, t2, t3, t4⟩ := build len 0 (by omega); simp only [Nat.zero_mul, Nat.add_zero] at t2; exact ⟨ps, some ⟨b, o, none⟩, cap, ns, by rw [t1], Or.inr rfl, by rw [t1]; omega, t2, t3, t4⟩
theorem Ol {n : Nat} {c : Value} {y : DataW H × List MemPlace} (h : DataW.trod et Try.prog W 0 (fun _ => true) true n 28 [c] = some y) :
  ∃ (ds : List Dan) (da : Option Addr) (dc : Nat) (ns : List Int), c = .slice da ds.length dc ∧ (ds = [] ∨ da = some ⟨blk da, off da, none⟩) ∧ ds.length ≤ maxLen ∧ B5 W (blk da) (off da) ds ∧ NsAt W (Ak (blk da) (off da) ds) ns := by
 obtain ⟨xs, hx⟩ := BR (enc := O5) Try.underlying28 GN (by decide) (fun n cs y h => by
  obtain ⟨rn, r, pn, p, b, m, e⟩ := Oq h
  exact ⟨(⟨rn, pn, b, m⟩, r, p), e⟩) h
 obtain ⟨ao, cap, rfl, h1, h2, h3⟩ := CU hx; refine ⟨xs.map (·.1), ao, cap, xs.flatMap fun x => [x.2.1, x.2.2], by rw [List.length_map], ?_, by rw [List.length_map]; exact h1, ?_, ?_⟩
 ·rcases h2 with h2 | h2
  ·left; rw [h2]; rfl
  ·exact Or.inr h2
 ·rcases h3 with h3 | h3
  ·rw [h3]; trivial
  ·exact (DP h3).1
 ·rcases h3 with h3 | h3
  ·rw [h3]; trivial
  ·exact (DP h3).2
theorem Om {n : Nat} {cs : List Value} {y : DataW H × List MemPlace} (h : DataW.trod et Try.prog W 0 (fun _ => true) true n 30 cs = some y) (hw : Wt 30 y.1) :
  ∃ (s : Ls) (ns : List Int), cs = s.cells.toList ∧ s.At W ∧ NsAt W s.refs ns ∧ s.mfit := by
 obtain ⟨ys, m, rfl, rfl, hl, hyl, hf⟩ := DataW.trod_struct Try.underlying30 h; rw [KN] at hl; obtain ⟨c0, c1, c2, c3, c4, c5, c6, c7, c8, c9, c10, c11, rfl⟩ := Ly hl; obtain ⟨y0, hy0⟩ : ∃ y, ys[0]? = some y := ⟨_, qg (by rw [hyl]; decide)⟩; have f0 : DataW.trod et Try.prog W 0 (fun _ => true) true m 9 (([c0, c1, c2, c3, c4, c5, c6, c7, c8, c9, c10, c11].drop 0).take (Try.prog.cellsOf 9)) = some y0 := (hf 0 _ rfl).trans hy0; rw [F0] at f0; obtain ⟨y1, hy1⟩ : ∃ y, ys[1]? = some y := ⟨_, qg (by rw [hyl]; decide)⟩; have f1 : DataW.trod et Try.prog W 0 (fun _ => true) true m 3 (([c0, c1, c2, c3, c4, c5, c6, c7, c8, c9, c10, c11].drop 1).take (Try.prog.cellsOf 3)) = some y1 := (hf 1 _ rfl).trans hy1; rw [AM] at f1; obtain ⟨y2, hy2⟩ : ∃ y, ys[2]? = some y := ⟨_, qg (by rw [hyl]; decide)⟩; have f2 : DataW.trod et Try.prog W 0 (fun _ => true) true m 3 (([c0, c1, c2, c3, c4, c5, c6, c7, c8, c9, c10, c11].drop 2).take (Try.prog.cellsOf 3)) = some y2 := (hf 2 _ rfl).trans hy2; rw [AM] at f2; obtain ⟨y3, hy3⟩ : ∃ y, ys[3]? = some y := ⟨_, qg (by rw [hyl]; decide)⟩; have f3 : DataW.trod et Try.prog W 0 (fun _ => true) true m 3 (([c0, c1, c2, c3, c4, c5, c6, c7, c8, c9, c10, c11].drop 3).take (Try.prog.cellsOf 3)) = some y3 := (hf 3 _ rfl).trans hy3; rw [AM] at f3; obtain ⟨y4, hy4⟩ : ∃ y, ys[4]? = some y := ⟨_, qg (by rw [hyl]; decide)⟩; have f4 : DataW.trod et Try.prog W 0 (fun _ => true) true m 22 (([c0, c1, c2, c3, c4, c5, c6, c7, c8, c9, c10, c11].drop 4).take (Try.prog.cellsOf 22)) = some y4 := (hf 4 _ rfl).trans hy4; rw [KG] at f4; obtain ⟨y5, hy5⟩ : ∃ y, ys[5]? = some y := ⟨_, qg (by rw [hyl]; decide)⟩; have f5 : DataW.trod et Try.prog W 0 (fun _ => true) true m 23 (([c0, c1, c2, c3, c4, c5, c6, c7, c8, c9, c10, c11].drop 6).take (Try.prog.cellsOf 23)) = some y5 := (hf 5 _ rfl).trans hy5; rw [KH] at f5; obtain ⟨y6, hy6⟩ : ∃ y, ys[6]? = some y := ⟨_, qg (by rw [hyl]; decide)⟩; have f6 : DataW.trod et Try.prog W 0 (fun _ => true) true m 24 (([c0, c1, c2, c3, c4, c5, c6, c7, c8, c9, c10, c11].drop 7).take (Try.prog.cellsOf 24)) = some y6 := (hf 6 _ rfl).trans hy6; rw [KI] at f6; obtain ⟨y7, hy7⟩ : ∃ y, ys[7]? = some y := ⟨_, qg (by rw [hyl]; decide)⟩; have f7 : DataW.trod et Try.prog W 0 (fun _ => true) true m 25 (([c0, c1, c2, c3, c4, c5, c6, c7, c8, c9, c10, c11].drop 8).take (Try.prog.cellsOf 25)) = some y7 := (hf 7 _ rfl).trans hy7; rw [KJ] at f7; obtain ⟨y8, hy8⟩ : ∃ y, ys[8]? = some y := ⟨_, qg (by rw [hyl]; decide)⟩; have f8 : DataW.trod et Try.prog W 0 (fun _ => true) true m 26 (([c0, c1, c2, c3, c4, c5, c6, c7, c8, c9, c10, c11].drop 9).take (Try.prog.cellsOf 26)) = some y8 := (hf 8 _ rfl).trans hy8; rw [KK] at f8; obtain ⟨y9, hy9⟩ : ∃ y, ys[9]? = some y := ⟨_, qg (by rw [hyl]; decide)⟩; have f9 : DataW.trod et Try.prog W 0 (fun _ => true) true m 27 (([c0, c1, c2, c3, c4, c5, c6, c7, c8, c9, c10, c11].drop 10).take (Try.prog.cellsOf 27)) = some y9 := (hf 9 _ rfl).trans hy9; rw [KL] at f9; obtain ⟨y10, hy10⟩ : ∃ y, ys[10]? = some y := ⟨_, qg (by rw [hyl]; decide)⟩; have f10 : DataW.trod et Try.prog W 0 (fun _ => true) true m 28 (([c0, c1, c2, c3, c4, c5, c6, c7, c8, c9, c10, c11].drop 11).take (Try.prog.cellsOf 28)) = some y10 := (hf 10 _ rfl).trans hy10; rw [KM] at f10; have w9 : Wt 27 y9.1 := hw.field Try.underlying30 (j := 9) rfl (by rw [List.getElem?_map, hy9]; rfl); obtain ⟨s, e0, _, _⟩ := DataW.trod_string Try.underlying9 f0; cases e0; obtain ⟨i1, e1, _, _⟩ := DataW.trod_int Try.underlying3 f1; cases e1; obtain ⟨i2, e2, _, _⟩ := DataW.trod_int Try.underlying3 f2; cases e2; obtain ⟨i3, e3, _, _⟩ := DataW.trod_int Try.underlying3 f3; cases e3; obtain ⟨zs, m2, _, _, hzl, hzy, hzf⟩ := DataW.trod_array Try.underlying22 f4; obtain ⟨z0, hz0⟩ : ∃ y, zs[0]? = some y := ⟨_, qg (by omega)⟩; obtain ⟨z1, hz1⟩ : ∃ y, zs[1]? = some y := ⟨_, qg (by omega)⟩
 have g0 : DataW.trod et Try.prog W 0 (fun _ => true) true m2 3 [c4] = some z0 := by
  have := hzf 0 (by omega); rw [AM, hz0] at this; exact this
 have g1 : DataW.trod et Try.prog W 0 (fun _ => true) true m2 3 [c5] = some z1 := by
  have := hzf 1 (by omega); rw [AM, hz1] at this; exact this
 obtain ⟨i4, e4, _, _⟩ := DataW.trod_int Try.underlying3 g0; cases e4; obtain ⟨i5, e5, _, _⟩ := DataW.trod_int Try.underlying3 g1; cases e5; obtain ⟨l5, r5⟩ := BR (enc := FO) Try.underlying23 GM (by decide) (fun n cs y h => by obtain ⟨nm, x, y, f, e⟩ := Oo h; exact ⟨⟨nm, x, y, f⟩, e⟩) f5; obtain ⟨a5, k5, rfl, -, -, -⟩ := CU r5; obtain ⟨l6, r6⟩ := BR (enc := CD) Try.underlying24 FU (by decide) (fun n cs y h => by obtain ⟨b, t, s, e⟩ := MI h; exact ⟨⟨b, t, s⟩, e⟩) f6; obtain ⟨a6, k6, rfl, -, -, -⟩ := CU r6; obtain ⟨l7, r7⟩ := BR (enc := Dk) Try.underlying25 FV (by decide) (fun n cs y h => by obtain ⟨b, k, l, hh, e⟩ := MJ h; exact ⟨⟨b, k, l, hh⟩, e⟩) f7; obtain ⟨a7, k7, rfl, -, -, -⟩ := CU r7; obtain ⟨l8, r8⟩ := BR (enc := Dj) Try.underlying26 FW (by decide) (fun n cs y h => by obtain ⟨f, t, l, hh, e⟩ := MK h; exact ⟨⟨f, t, l, hh⟩, e⟩) f8; obtain ⟨a8, k8, rfl, -, -, -⟩ := CU r8; obtain ⟨ps, fa, fc, n1, rfl, p1, p2, p3, p4, p5⟩ := Ok f9 w9; obtain ⟨ds, da, dc, n2, rfl, d1, d2, d3, d4⟩ := Ol f10; exact ⟨⟨s.data.toList, i1, i2, i3, i4, i5, a5, k5, l5, a6, k6, l6, a7, k7, l7, a8, k8, l8, fa, fc, ps, da, dc, ds⟩, n1 ++ n2, rfl, ⟨r5, r6, r7, r8, p1, p2, p3, d1, d2, d3⟩, p4.append d4, p5⟩
end
theorem Hf : laidOutB Try.prog = true := by kernel_rfl
section
variable {H : Type} {enc : TypeId × Value → H} {W : World}
theorem Ou {base : Nat} {v : Value} {d : DataW H} {p : List MemPlace} (hv : Value.okWide Try.prog W .any base 30 v) (h : DataW.Trod enc Try.prog W 0 (fun _ => true) true 30 v d p) (hw : Wt 30 d) :
  ∃ (s : Ls) (ns : List Int), v = s.val ∧ s.At W ∧ NsAt W s.refs ns ∧ s.mfit := by
 obtain ⟨cs, rfl, hcs⟩ := okWide_struct Try.underlying30 hv; obtain ⟨fuel, hf⟩ := h; obtain ⟨s, ns, e, h1, h2, h3⟩ := Om hf hw; refine ⟨s, ns, ?_, h1, h2, h3⟩; unfold Ls.val
 congr 1
 exact Array.toList_inj.1 e
theorem PY {base : Nat} {v : Value} {d : DataW H} {p : List MemPlace} (hv : Value.okWide Try.prog W .any base 5 v) (h : DataW.Trod enc Try.prog W 0 (fun _ => true) true 5 v d p) :
  ∃ n : Nat, v = .int .u8 n ∧ n < 256 := by
 obtain ⟨n, rfl⟩ := okWide_int Try.underlying5 hv; obtain ⟨fuel, hf⟩ := h; obtain ⟨m, e, -, hw⟩ := DataW.trod_int Try.underlying5 hf; obtain ⟨h0, h1⟩ := bounds_u8 hw
 have e' : n = m := by
  have : ([Value.int .u8 n] : List Value) = [Value.int .u8 m] := e; simpa using this
 subst e'; exact ⟨n.toNat, by congr 1; omega, by omega⟩
theorem Qb {v : Value} {d : DataW H} {p : List MemPlace} (h : DataW.Trod enc Try.prog W 0 (fun _ => true) true 30 v d p) (hlt : ∀ x ∈ p, x.block < W.heap.size) {W' : World} (hb : Below W.heap.size W W') :
  DataW.Trod enc Try.prog W' 0 (fun b => decide (b < W.heap.size)) true 30 v d p :=
 Below.trod Hf (by kernel_rfl) (of_decide_eq_true (by kernel_rfl)) h hb hlt
theorem Qm {v : Value} {d : DataW H} {p : List MemPlace} (h : DataW.Trod enc Try.prog W 0 (fun _ => true) true 5 v d p) (hlt : ∀ x ∈ p, x.block < W.heap.size) {W' : World} (hb : Below W.heap.size W W') :
  DataW.Trod enc Try.prog W' 0 (fun b => decide (b < W.heap.size)) true 5 v d p :=
 Below.trod Hf (by kernel_rfl) (of_decide_eq_true (by kernel_rfl)) h hb hlt
theorem M9 {W : World} (h : W.ShapedOpen Try.prog) : Env W := cell_of_shapedOpen_int (g := 0) (t := 3) (zero := #[int i64 0]) h (of_decide_eq_true (by kernel_rfl)) (by kernel_rfl) rfl (by kernel_rfl) (by kernel_rfl) Try.underlying3
end
end
end Go.Proofs.Ytpnbpepkoekkoaa
