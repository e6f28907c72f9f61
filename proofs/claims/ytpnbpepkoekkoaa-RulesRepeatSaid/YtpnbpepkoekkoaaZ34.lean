/- Contracts and plain laws on the way to the statement: part 34. -/
import Derived.Test.YtpnbpepkoekkoaaZ33
import Derived.Test.YtpnbpepkoekkoaaZ26
import Derived.Test.YtpnbpepkoekkoaaZ14
import Derived.Test.YtpnbpepkoekkoaaZ3
set_option linter.unusedVariables false
set_option linter.unusedSimpArgs false
set_option maxRecDepth 100000
set_option maxHeartbeats 16000000
namespace Go.Proofs.Ytpnbpepkoekkoaa
open Go.Value (int)
open Go.IntKind (i64)
section
open Go Go.RowKit
noncomputable def bodyB : Code := match H8 with
  | .seq _ (.block _ (.loop (.seq _ (.seq _ (.seq (.block _ c) _))))) => c
  | c => c
noncomputable def J0 : Code := match Ab 2 bodyB with
  | .seq (.seq _ (.block _ (.loop (.seq _ (.seq (.block _ (.seq _ (.block _ (.loop (.seq _ (.seq _ (.seq (.block _ c) _))))))) _))))) _ => c
  | c => c
noncomputable def Q9 : Code := match J0 with
  | .seq a _ => a
  | c => c
noncomputable def Qa : Code := match Ab 1 J0 with
  | .seq a _ => a
  | c => c
def FarM (W : World) (F : Nat) (g : Int → Option Int) : Prop := ∃ kvs : List (Int × Value), MapAt kI W F kvs ∧ Az kvs ∧ ∀ x, Ap kvs x = (g x).map (Value.int .i64)
theorem FarM.of_block {W W' : World} {F : Nat} {g : Int → Option Int} (h : FarM W F g) (hb : W'.heap[F]? = W.heap[F]?) : FarM W' F g := by
  obtain ⟨kvs, h1, h2⟩ := h; exact ⟨kvs, h1.of_block hb, h2⟩
theorem FarM.lt {W : World} {F : Nat} {g : Int → Option Int} (h : FarM W F g) : F < W.heap.size := by
  obtain ⟨kvs, h1, h2⟩ := h; exact h1.lt
theorem FarM.new (W : World) : FarM (W.alloc (.map #[] 0)) W.heap.size (fun _ => none) := ⟨[], MapAt.new W, List.nodup_nil, fun _ => rfl⟩
theorem FarM.grown {W W' : World} {F x : Nat} {g : Int → Option Int} (h : FarM W F g) (hg : W.grownBy W' (some x)) (hx : x ≠ F) : FarM W' F g := h.of_block (hg.block F h.lt (fun e => by cases e; exact hx rfl))
theorem FarM.lookup {W : World} {F : Nat} {g : Int → Option Int} (h : FarM W F g) (x : Int) : (Instr.lookup 140 (.map (some F)) (int i64 x) true).run Try.prog W = .ok (.tuple #[int i64 ((g x).getD 0), .bool (g x).isSome]) W := by
  obtain ⟨kvs, h1, _, h3⟩ := h; have := B6 (P := Try.prog) AT Try.underlying140 Try.underlying3 h1 x (z := int i64 0) (by kernel_rfl) true; rw [h3 x] at this; refine this.trans ?_; cases g x <;> rfl
theorem FarM.lookup1 {W : World} {F : Nat} {g : Int → Option Int} (h : FarM W F g) (x : Int) : (Instr.lookup 140 (.map (some F)) (int i64 x) false).run Try.prog W = .ok (int i64 ((g x).getD 0)) W := by
  obtain ⟨kvs, h1, _, h3⟩ := h; have := B6 (P := Try.prog) AT Try.underlying140 Try.underlying3 h1 x (z := int i64 0) (by kernel_rfl) false; rw [h3 x] at this; refine this.trans ?_; cases g x <;> rfl
def EX (g : Int → Option Int) (k v : Int) : Int → Option Int := fun x => if x = k then some v else g x
theorem FarM.put {W : World} {F : Nat} {g : Int → Option Int} (h : FarM W F g) (k v : Int) (hk : g k = none) :
    ∃ W', (Instr.mapUpdate 140 (.map (some F)) (int i64 k) (int i64 v)).run Try.prog W = .ok () W' ∧ FarM W' F (EX g k v) ∧ W.grownBy W' (some F) ∧ W'.heap.size = W.heap.size := by
  obtain ⟨kvs, h1, h2, h3⟩ := h; obtain ⟨o, hrun, hM⟩ := AB (P := Try.prog) AT Try.underlying140 Try.underlying3 h1 h2 k (int i64 v); have hn : Ap kvs k = none := by rw [h3, hk]; rfl
  refine ⟨_, hrun, ⟨_, hM, AH h2 k _, fun x => ?_⟩, Dv W F o, by simp⟩; unfold EX; by_cases hx : x = k
  · subst hx
    rw [if_pos rfl, Cg hn]; rfl
  · rw [if_neg hx, ← h3 x]
    cases hg : Ap kvs x with
    | none => exact Cu hg (fun e => hx e.symm) _
    | some y => exact Er hg (fun e => hx e.symm) _
def De (i n : Int) (g : Int → Option Int) (to : Int) : Bool := (decide (n = 1) && decide (to = i)) || (decide (1 < n) && decide (g to = some (n - 1)))
def Cm (ks : List Int) (i n : Int) (g : Int → Option Int) : Bool := ks.any (De i n g)
theorem NextW.grown {w W W' : World} {N G n x : Nat} {kss : List (List Int)} {ms : List Nat} (h : NextW w W N G n kss ms) (hg : W.grownBy W' (some x)) (hN : x ≠ N) (hG : x ≠ G) (hm : x ∉ ms) (hx : w.heap.size ≤ x) : NextW w W' N G n kss ms :=
  ⟨h.below.grown hg h.below.size (fun k hk => by cases hk; exact hx), h.lowN, h.lowG, (hg.block N (qs.1 h.box).1 (fun e => by cases e; exact hN rfl)).trans h.box,
   (hg.block G (qs.1 h.row).1 (fun e => by cases e; exact hG rfl)).trans h.row, h.len, h.low,
   fun j m ks h1 h2 => (h.sets j m ks h1 h2).of_block (hg.block m (h.sets j m ks h1 h2).lt (fun e => by cases e; exact hm (List.mem_of_getElem? h1))), h.apart⟩
theorem NextW.lts {w W : World} {N G n : Nat} {kss : List (List Int)} {ms : List Nat} (h : NextW w W N G n kss ms) (hk : kss.length = n) {m : Nat} (hm : m ∈ ms) : m < W.heap.size := by
  obtain ⟨j, hj⟩ := List.getElem?_of_mem hm; have hjl := (ql.1 hj).1; obtain ⟨ks, hks⟩ : ∃ ks, kss[j]? = some ks := ⟨_, qg (by have := h.len; omega)⟩; exact (h.sets j m ks hj hks).lt
structure FarW (w W : World) (N G n F : Nat) (kss : List (List Int)) (ms : List Nat) (g : Int → Option Int) : Prop where
  next : NextW w W N G n kss ms
  whole : ms.length = n
  klen : kss.length = n
  far : FarM W F g
  lowF : w.heap.size ≤ F
  offF : F ∉ ms
  neN : F ≠ N
  neG : F ≠ G
theorem FarW.grown {w W W' : World} {N G n F x : Nat} {kss : List (List Int)} {ms : List Nat} {g : Int → Option Int} (h : FarW w W N G n F kss ms g) (hg : W.grownBy W' (some x)) (hx : W.heap.size ≤ x ∨ (w.heap.size ≤ x ∧ x ≠ N ∧ x ≠ G ∧ x ∉ ms ∧ x ≠ F)) : FarW w W' N G n F kss ms g := by
  have hl := h.next.below.size
  have hN := (qs.1 h.next.box).1; have hG := (qs.1 h.next.row).1; have hF := h.far.lt
  have hx' : w.heap.size ≤ x ∧ x ≠ N ∧ x ≠ G ∧ x ∉ ms ∧ x ≠ F := by
    rcases hx with hx | hx
    · exact ⟨by omega, by omega, by omega, fun hm => by have := h.next.lts h.klen hm; omega, by omega⟩
    · exact hx
  obtain ⟨a1, a2, a3, a4, a5⟩ := hx'; exact ⟨h.next.grown hg a2 a3 a4 a1, h.whole, h.klen, h.far.grown hg a5, h.lowF, h.offF, h.neN, h.neG⟩
theorem FarW.below {w W W' : World} {N G n F : Nat} {kss : List (List Int)} {ms : List Nat} {g : Int → Option Int} (h : FarW w W N G n F kss ms g) (hb : Below W.heap.size W W') : FarW w W' N G n F kss ms g :=
  ⟨h.next.keep hb, h.whole, h.klen, h.far.of_block (hb.block F h.far.lt), h.lowF, h.offF, h.neN, h.neG⟩
theorem FarW.put {w W W' : World} {N G n F : Nat} {kss : List (List Int)} {ms : List Nat} {g g' : Int → Option Int} (h : FarW w W N G n F kss ms g) (hg : W.grownBy W' (some F)) (hf : FarM W' F g') : FarW w W' N G n F kss ms g' :=
  ⟨h.next.grown hg h.neN h.neG h.offF h.lowF, h.whole, h.klen, hf, h.lowF, h.offF, h.neN, h.neG⟩
theorem OI (i nn : Int) (k N G n F : Nat) (kss : List (List Int)) (ms : List Nat) (ks : List Int) (g : Int → Option Int) (w W : World) (hW : FarW w W N G n F kss ms g) (hk : k < n) (hks : kss[k]? = some ks) (hgk : g k = none) (hnn : 1 ≤ nn ∧ nn ≤ 1000) (Q : Exit → Act → World → Prop) (e0 e1 e2 e4 e5 ea eb ec ed ee ef eg eh ei ej ek el em en eo ep eq er es et eu ev ew ex ey ez eA eB eC eD eE eF eG eH eI eJ eK eL eM eN eO eP eQ eR eS eT eU eV eW eX eY eZ aa ab ac ad ae af ag ah ai aj ak al am an ao ap aq ar au av aw ax ay az aA aB aC aD aE aF aG aH aI aJ aK aL aM aN aO aP aQ aR aS aT aU aV aW aX aY aZ ba bb bc bd be bf bg bh bi bj bk bl bm bn bo bp bq br bs bt bu bv bw bx bz bA bB bC bD bE bF bG bH bI bJ bK bL bM bN : Value)
    (hQ : ∀ (bO bP bQ bR bS bT bU bV bW bX bY bZ ca cb cc cd ce cf cg ch ci cj ck cl cm cn co cp cq cr cs ct cu cv cw cx cy cz cA cB cC : Value) (V : World), FarW w V N G n F kss ms (if Cm ks i nn g = true then EX g k nn else g) → Q .normal { tmps := #[e0, e1, e2, .pointer (some ⟨N, 0, none⟩), e4, e5, int i64 i, .map (some F), int i64 nn, int i64 k, ea, eb, bO, bP, bQ, ef, eg, eh, ei, ej, ek, el, em, en, eo, ep, eq, er, es, et, eu, ev, ew, ex, ey, ez, eA, eB, eC, eD, eE, eF, eG, eH, eI, eJ, eK, eL, eM, eN, eO, eP, eQ, eR, eS, eT, eU, eV, eW, eX, eY, eZ, aa, ab, ac, bR, bS, bT, bU, bV, bW, bX, bY, bZ, ca, cb, cc, cd, ce, cf, cg, ch, ci, cj, ck, cl, cm, cn, co, cp, cq, cr, cs, ct, cu, cv, cw, cx, cy, cz, cA, cB, cC, aR, aS, aT, aU, aV, aW, aX, aY, aZ, ba, bb, bc, bd, be, bf, bg, bh, bi, bj, bk, bl, bm, bn, bo, bp, bq, br, bs, bt, bu, bv, bw, bx, bz, bA, bB, bC, bD, bE, bF, bG, bH, bI, bJ, bK, bL, bM, bN], defers := [] } V) :
    (Ab 2 J0).wp Try.prog Q { tmps := #[e0, e1, e2, .pointer (some ⟨N, 0, none⟩), e4, e5, int i64 i, .map (some F), int i64 nn, int i64 k, ea, eb, ec, ed, ee, ef, eg, eh, ei, ej, ek, el, em, en, eo, ep, eq, er, es, et, eu, ev, ew, ex, ey, ez, eA, eB, eC, eD, eE, eF, eG, eH, eI, eJ, eK, eL, eM, eN, eO, eP, eQ, eR, eS, eT, eU, eV, eW, eX, eY, eZ, aa, ab, ac, ad, ae, af, ag, ah, ai, aj, ak, al, am, an, ao, ap, aq, ar, au, av, aw, ax, ay, az, aA, aB, aC, aD, aE, aF, aG, aH, aI, aJ, aK, aL, aM, aN, aO, aP, aQ, aR, aS, aT, aU, aV, aW, aX, aY, aZ, ba, bb, bc, bd, be, bf, bg, bh, bi, bj, bk, bl, bm, bn, bo, bp, bq, br, bs, bt, bu, bv, bw, bx, bz, bA, bB, bC, bD, bE, bF, bG, bH, bI, bJ, bK, bL, bM, bN], defers := [] } W := by
  obtain ⟨m, hm⟩ : ∃ m, ms[k]? = some m := ⟨_, qg (by have := hW.whole; omega)⟩; have hS := hW.next.sets k m ks hm hks
  have y3 := Aa hW.next.box 0 rfl
  have yG := Aa hW.next.row k (CT ms hk)
  rw [hm] at yG; obtain ⟨V0, hr0, hI0, hb0, hs0⟩ := hS.range (P := Try.prog) (T := 137) Try.underlying137; have hml := hS.lt; have hW0 := hW.below hb0; obtain ⟨R, hR⟩ : ∃ R, W.heap.size = R := ⟨_, rfl⟩
  have hRo : w.heap.size ≤ R ∧ R ≠ N ∧ R ≠ G ∧ R ∉ ms ∧ R ≠ F := by
    have hl := hW.next.below.size
    have hN := (qs.1 hW.next.box).1; have hG := (qs.1 hW.next.row).1; have hF := hW.far.lt; exact ⟨by omega, by omega, by omega, fun hm => by have := hW.next.lts hW.klen hm; omega, by omega⟩
  rw [hR] at hr0 hI0; have HQ := qh hQ; have HW0 := qh hW0; have HI0 := qh hI0; have HRO := qh hRo; have HGK := qh hgk; have hmR : m ≠ R := by omega
  have HMR := qh hmR; clear hQ hW hW0 hI0 hRo hS hm hks hml hs0 hb0 hgk hR hmR; have hki : (k : Int) < (n : Int) := by omega
  conv => arg 2; whnf
  go_wp2_with fail; go_loopw [12, 13, 14] (fun _ _ _ wr => ∃ left, Hid (ItB wr R m ks left) ∧ Hid (∀ x ∈ ks, x ∈ left ∨ De i nn g x = false) ∧ Hid (FarW w wr N G n F kss ms g)) (fun _ _ _ wr => wr.rangeLeft m R)
  case atStart => exact ⟨ks, HI0, qh (fun x hx => Or.inl hx), HW0⟩
  case round =>
    obtain ⟨left, hI, hD, hW⟩ := hrel; rcases hI.out.next (P := Try.prog) with ⟨hl, hnx⟩ | ⟨to, V, left', hto, ⟨_, hnx⟩, hen, hI', hl1, hl2, hoth, hsz, hbel⟩
    · have hno : Cm ks i nn g = false := by
        unfold Cm; rw [← Bool.not_eq_true, List.any_eq_true]; rintro ⟨x, hx, hx2⟩; rcases hD.out x hx with h | h
        · rw [hl] at h; cases h
        · rw [h] at hx2; cases hx2
      have HNO := qh hno; clear hno hl; go_wp2_with fail; refine HQ.out _ _ _ _ _ _ _ _ _ _ _ _ _ _ _ _ _ _ _ _ _ _ _ _ _ _ _ _ _ _ _ _ _ _ _ _ _ _ _ _ _ _ ?_; rw [HNO.out]; exact hW.out
    · have hg1 : wr.grownBy V (some R) := ⟨(hbel 0 (Nat.zero_le _)).os, (hbel 0 (Nat.zero_le _)).tape, (hbel 0 (Nat.zero_le _)).output, Nat.le_of_eq hsz.symm, fun c _ hc => hoth c (fun e => hc (by rw [e]))⟩
      have hW1 := hW.out.grown hg1 (Or.inr HRO.out); have hlk := hW1.far.lookup to; obtain ⟨V2, hup, hf2, hg2, hs2⟩ := hW1.far.put k nn HGK.out; have HW1 := qh hW1; have HI1 := qh hI'; have HL1 := qh hl1; have HCN : Hid (V.rangeLeft m R < wr.rangeLeft m R) := qh (by rw [hI'.cnt, hI.out.cnt]; exact hl2); have HTO : Hid (to ∈ ks) := qh (hI.out.sub to hto); obtain ⟨hn1, hn2⟩ := hnn; have HF2 := qh hf2; have HG2 := qh hg2; clear hW1 hI' hl1 hl2 hoth hsz hbel hg1 hf2 hg2 hs2 hto hI; by_cases h1 : nn = 1
      · subst h1
        by_cases hti : to = i
        · subst hti
          have hye : De to 1 g to = true := by unfold De; simp
          have hyes : Cm ks to 1 g = true := List.any_eq_true.2 ⟨to, HTO.out, hye⟩; have HY := qh hyes; clear hyes hye; go_wp2_with fail; refine HQ.out _ _ _ _ _ _ _ _ _ _ _ _ _ _ _ _ _ _ _ _ _ _ _ _ _ _ _ _ _ _ _ _ _ _ _ _ _ _ _ _ _ _ ?_; rw [if_pos HY.out]; exact HW1.out.put HG2.out HF2.out
        · have hno : De i 1 g to = false := by unfold De; rw [decide_eq_false hti]; simp
          have HNO := qh hno; clear hno hup; go_wp2_with fail; go_roundw
          case rel =>
            refine ⟨left', HI1, qh (fun x hx => ?_), HW1⟩; rcases hD.out x hx with h | h
            · rcases HL1.out x h with rfl | h
              · exact Or.inr HNO.out
              · exact Or.inl h
            · exact Or.inr h
          case measure => exact HCN.out
      · have h2 : 1 < nn := by omega
        have hw : IntKind.i64.wrap (nn - 1) = nn - 1 := IntWalk.i64_in _ (by omega)
        cases hgt : g to with
        | none =>
          rw [hgt] at hlk; have HGT := qh hgt; clear hgt; have hno : De i nn g to = false := by unfold De; rw [HGT.out, decide_eq_false h1]; simp
          have HNO := qh hno; clear hno hup; go_wp2_with fail; go_roundw
          case rel =>
            refine ⟨left', HI1, qh (fun x hx => ?_), HW1⟩; rcases hD.out x hx with h | h
            · rcases HL1.out x h with rfl | h
              · exact Or.inr HNO.out
              · exact Or.inl h
            · exact Or.inr h
          case measure => exact HCN.out
        | some v =>
          rw [hgt] at hlk; have HGT := qh hgt; clear hgt; by_cases hv : v = nn - 1
          · subst hv
            have hye : De i nn g to = true := by unfold De; rw [HGT.out, decide_eq_false h1, decide_eq_true h2]; simp
            have hyes : Cm ks i nn g = true := List.any_eq_true.2 ⟨to, HTO.out, hye⟩; have HY := qh hyes; clear hyes hye; go_wp2_with fail; refine HQ.out _ _ _ _ _ _ _ _ _ _ _ _ _ _ _ _ _ _ _ _ _ _ _ _ _ _ _ _ _ _ _ _ _ _ _ _ _ _ _ _ _ _ ?_; rw [if_pos HY.out]; exact HW1.out.put HG2.out HF2.out
          · have hno : De i nn g to = false := by unfold De; rw [HGT.out, decide_eq_false h1, decide_eq_true h2]; simp only [Option.some.injEq, Bool.false_and, Bool.true_and, Bool.false_or]; exact decide_eq_false hv
            have HNO := qh hno; clear hno hup; go_wp2_with fail; go_roundw
            case rel =>
              refine ⟨left', HI1, qh (fun x hx => ?_), HW1⟩; rcases hD.out x hx with h | h
              · rcases HL1.out x h with rfl | h
                · exact Or.inr HNO.out
                · exact Or.inl h
              · exact Or.inr h
            case measure => exact HCN.out
end
section
open Go Go.RowKit
def DN (kss : List (List Int)) (i nn : Int) (j : Nat) (g : Int → Option Int) : Int → Option Int := if (g j).isSome = true then g else if Cm (kss.getD j []) i nn g = true then EX g j nn else g
def DE (kss : List (List Int)) (i nn : Int) (g : Int → Option Int) : Nat → (Int → Option Int)
 | 0 => g
 | j + 1 => DN kss i nn j (DE kss i nn g j)
def AS (kss : List (List Int)) (i : Int) : Nat → (Int → Option Int)
 | 0 => fun _ => none
 | m + 1 => DE kss i (m + 1 : Nat) (AS kss i m) kss.length
noncomputable def body5 : Code := match Ab 2 bodyB with
 | .seq (.seq _ (.block _ (.loop (.seq _ (.seq (.block _ c) _))))) _ => c
 | c => c
theorem OH (i nn : Int) (N G n F : Nat) (kss : List (List Int)) (ms : List Nat) (g : Int → Option Int) (w W : World) (hW : FarW w W N G n F kss ms g) (hn : n ≤ 1000) (hnn : 1 ≤ nn ∧ nn ≤ 1000) (Q : Exit → Act → World → Prop) (e0 e1 e2 e4 e5 e9 ea eb ec ed ee ef eg eh ei ej ek el em en eo ep eq er es et eu ev ew ex ey ez eA eB eC eD eE eF eG eH eI eJ eK eL eM eN eO eP eQ eR eS eT eU eV eW eX eY eZ aa ab ac ad ae af ag ah ai aj ak al am an ao ap aq ar au av aw ax ay az aA aB aC aD aE aF aG aH aI aJ aK aL aM aN aO aP aQ aR aS aT aU aV aW aX aY aZ ba bb bc bd be bf bg bh bi bj bk bl bm bn bo bp bq br bs bt bu bv bw bx bz bA bB bC bD bE bF bG bH bI bJ bK bL bM bN : Value)
  (hQ : ∀ (x9 bO bP bQ bR bS bT bU bV bW bX bY bZ ca cb cc cd ce cf cg ch ci cj ck cl cm cn co cp cq cr cs ct cu cv cw cx cy cz cA cB cC cD cE cF cG cH cI cJ cK cL cM cN cO cP cQ cR : Value) (V : World), FarW w V N G n F kss ms (DE kss i nn g n) → Q .normal { tmps := #[e0, e1, e2, .pointer (some ⟨N, 0, none⟩), e4, e5, int i64 i, .map (some F), int i64 nn, x9, bO, bP, bQ, bR, bS, ef, eg, eh, ei, ej, ek, el, em, en, eo, ep, eq, er, es, et, eu, ev, ew, ex, ey, ez, eA, eB, eC, eD, eE, eF, eG, eH, eI, eJ, eK, eL, eM, eN, eO, eP, eQ, bT, bU, bV, bW, bX, bY, bZ, ca, cb, cc, cd, ce, cf, cg, ch, ci, cj, ck, cl, cm, cn, co, cp, cq, cr, cs, ct, cu, cv, cw, cx, cy, cz, cA, cB, cC, cD, cE, cF, cG, cH, cI, cJ, cK, cL, cM, cN, cO, cP, cQ, cR, aS, aT, aU, aV, aW, aX, aY, aZ, ba, bb, bc, bd, be, bf, bg, bh, bi, bj, bk, bl, bm, bn, bo, bp, bq, br, bs, bt, bu, bv, bw, bx, bz, bA, bB, bC, bD, bE, bF, bG, bH, bI, bJ, bK, bL, bM, bN], defers := [] } V) :
  body5.wp Try.prog Q { tmps := #[e0, e1, e2, .pointer (some ⟨N, 0, none⟩), e4, e5, int i64 i, .map (some F), int i64 nn, e9, ea, eb, ec, ed, ee, ef, eg, eh, ei, ej, ek, el, em, en, eo, ep, eq, er, es, et, eu, ev, ew, ex, ey, ez, eA, eB, eC, eD, eE, eF, eG, eH, eI, eJ, eK, eL, eM, eN, eO, eP, eQ, eR, eS, eT, eU, eV, eW, eX, eY, eZ, aa, ab, ac, ad, ae, af, ag, ah, ai, aj, ak, al, am, an, ao, ap, aq, ar, au, av, aw, ax, ay, az, aA, aB, aC, aD, aE, aF, aG, aH, aI, aJ, aK, aL, aM, aN, aO, aP, aQ, aR, aS, aT, aU, aV, aW, aX, aY, aZ, ba, bb, bc, bd, be, bf, bg, bh, bi, bj, bk, bl, bm, bn, bo, bp, bq, br, bs, bt, bu, bv, bw, bx, bz, bA, bB, bC, bD, bE, bF, bG, bH, bI, bJ, bK, bL, bM, bN], defers := [] } W := by
 have y3 := Aa hW.next.box 0 rfl
 have HQ := qh hQ; have HW0 := qh hW; have HNN := qh hnn; clear hQ hW hnn
 conv => arg 2; whnf
 go_wp2_with fail; go_loopw [55] (fun iv wr => ∃ j : Nat, iv = int i64 j ∧ j ≤ n ∧ Hid (FarW w wr N G n F kss ms (DE kss i nn g j))) (fun iv _ => n + 1 - (intOf iv).toNat)
 case atStart => exact ⟨0, rfl, Nat.zero_le _, HW0⟩
 case round =>
  obtain ⟨j, rfl, hjn, hW⟩ := hrel; by_cases hlt : j < n
  ·have hj : (j : Int) < (n : Int) := by omega
   obtain ⟨ks, hks⟩ : ∃ ks, kss[j]? = some ks := ⟨_, qg (by have := hW.out.klen; omega)⟩; have hgd : kss.getD j [] = ks := by rw [List.getD_eq_getElem?_getD, hks]; rfl
   obtain ⟨g', hg'⟩ : ∃ g', DE kss i nn g j = g' := ⟨_, rfl⟩; have hJ : DE kss i nn g (j + 1) = DN kss i nn j g' := by rw [DE, hg']
   have HJ := qh hJ; rw [hg'] at hW; clear hJ hg'; have hlk := hW.out.far.lookup j
   cases hgj : g' j with
   | some v =>
    rw [hgj] at hlk; have hst : DN kss i nn j g' = g' := by unfold DN; rw [hgj]; rfl
    have HST := qh hst; clear hst hgj hgd hks; go_wp2_with fail; go_roundw
    case rel => exact ⟨j + 1, by go_num, by omega, qh (by rw [HJ.out, HST.out]; exact hW.out)⟩
    case measure => simp [intOf]; omega
   | none =>
    rw [hgj] at hlk; have hst : DN kss i nn j g' = if Cm ks i nn g' = true then EX g' j nn else g' := by unfold DN; rw [hgj, hgd]; rfl
    have HST := qh hst; have HKS := qh hks; have HGJ := qh hgj; clear hst hgj hgd hks; refine Ac (fun K1 hK => ?_); have HK1 := qh hK; clear hK; go_wp2_with fail; refine HK1.out _ _ ?_; clear HK1 K1; refine Ac (fun K2 hK => ?_); have HK2 := qh hK; clear hK; go_wp2_with fail; refine HK2.out _ _ ?_; clear HK2 K2; refine Ac (fun K3 hK => ?_); have HK3 := qh hK; clear hK; refine wp_block ?_; change Code.wp Try.prog (.seq Q9 (.seq Qa (Ab 2 J0))) _ _ _; refine Ac (fun K4 hK => ?_); have HK4 := qh hK; clear hK
    conv => arg 2; whnf
    go_wp2_with fail; refine HK4.out _ _ ?_; clear HK4 K4; refine Ac (fun K5 hK => ?_); have HK5 := qh hK; clear hK
    conv => arg 2; whnf
    go_wp2_with fail; refine HK5.out _ _ ?_; clear HK5 K5; refine OI i nn j N G n F kss ms ks g' w wr hW.out hlt HKS.out HGJ.out HNN.out _ _ _ _ _ _ _ _ _ _ _ _ _ _ _ _ _ _ _ _ _ _ _ _ _ _ _ _ _ _ _ _ _ _ _ _ _ _ _ _ _ _ _ _ _ _ _ _ _ _ _ _ _ _ _ _ _ _ _ _ _ _ _ _ _ _ _ _ _ _ _ _ _ _ _ _ _ _ _ _ _ _ _ _ _ _ _ _ _ _ _ _ _ _ _ _ _ _ _ _ _ _ _ _ _ _ _ _ _ _ _ _ _ _ _ _ _ _ _ _ _ _ _ _ _ _ _ _ _ _ _ _ _ _ _ _ _ _ _ _ _ _ _ _ _ _ _ ?_
    intros
    rename_i V hV; refine HK3.out _ _ ?_; rw [← HST.out, ← HJ.out] at hV; have HV := qh hV; clear hV HK3 K3 hlk; go_wp2_with fail; go_roundw
    case rel => exact ⟨j + 1, by go_num, by omega, HV⟩
    case measure => simp [intOf]; omega
  ·have : j = n := by omega
   subst this; have hz : ¬ (j : Int) < (j : Int) := by omega
   go_wp2_with fail; exact HQ.out _ _ _ _ _ _ _ _ _ _ _ _ _ _ _ _ _ _ _ _ _ _ _ _ _ _ _ _ _ _ _ _ _ _ _ _ _ _ _ _ _ _ _ _ _ _ _ _ _ _ _ _ _ _ _ _ _ wr hW.out
noncomputable def bBn (k : Nat) : Code := match Ab k bodyB with
 | .seq a _ => a
 | c => c
theorem Mg : bodyB = .seq (bBn 0) (Ab 1 bodyB) := rfl
theorem Mh : Ab 1 bodyB = .seq (bBn 1) (Ab 2 bodyB) := rfl
theorem Mi : Ab 2 bodyB = .seq (bBn 2) (Ab 3 bodyB) := rfl
theorem OG (i : Int) (N G n F : Nat) (kss : List (List Int)) (ms : List Nat) (w W : World) (hW : FarW w W N G n F kss ms (fun _ => none)) (hn : n ≤ 1000) (Q : Exit → Act → World → Prop) (e0 e1 e2 e4 e5 e8 e9 ea eb ec ed ee ef eg eh ei ej ek el em en eo ep eq er es et eu ev ew ex ey ez eA eB eC eD eE eF eG eH eI eJ eK eL eM eN eO eP eQ eR eS eT eU eV eW eX eY eZ aa ab ac ad ae af ag ah ai aj ak al am an ao ap aq ar au av aw ax ay az aA aB aC aD aE aF aG aH aI aJ aK aL aM aN aO aP aQ aR aS aT aU aV aW aX aY aZ ba bb bc bd be bf bg bh bi bj bk bl bm bn bo bp bq br bs bt bu bv bw bx bz bA bB bC bD bE bF bG bH bI bJ bK bL bM bN : Value)
  (hQ : ∀ (x8 x9 bO bP bQ bR bS bT bU bV bW bX bY bZ ca cb cc cd ce cf cg ch ci cj ck cl cm cn co cp cq cr cs ct cu cv cw cx cy cz cA cB cC cD cE cF cG cH cI cJ cK cL cM cN cO cP cQ cR cS cT cU cV cW cX : Value) (V : World), FarW w V N G n F kss ms (AS kss i n) → Q .normal { tmps := #[e0, e1, e2, .pointer (some ⟨N, 0, none⟩), e4, e5, int i64 i, .map (some F), x8, x9, bO, bP, bQ, bR, bS, ef, eg, eh, ei, ej, ek, el, em, en, eo, ep, eq, er, es, et, eu, ev, ew, ex, ey, ez, eA, eB, eC, eD, eE, eF, eG, eH, eI, eJ, eK, bT, bU, bV, bW, bX, bY, bZ, ca, cb, cc, cd, ce, cf, cg, ch, ci, cj, ck, cl, cm, cn, co, cp, cq, cr, cs, ct, cu, cv, cw, cx, cy, cz, cA, cB, cC, cD, cE, cF, cG, cH, cI, cJ, cK, cL, cM, cN, cO, cP, cQ, cR, cS, cT, cU, cV, cW, cX, aS, aT, aU, aV, aW, aX, aY, aZ, ba, bb, bc, bd, be, bf, bg, bh, bi, bj, bk, bl, bm, bn, bo, bp, bq, br, bs, bt, bu, bv, bw, bx, bz, bA, bB, bC, bD, bE, bF, bG, bH, bI, bJ, bK, bL, bM, bN], defers := [] } V) :
  (bBn 2).wp Try.prog Q { tmps := #[e0, e1, e2, .pointer (some ⟨N, 0, none⟩), e4, e5, int i64 i, .map (some F), e8, e9, ea, eb, ec, ed, ee, ef, eg, eh, ei, ej, ek, el, em, en, eo, ep, eq, er, es, et, eu, ev, ew, ex, ey, ez, eA, eB, eC, eD, eE, eF, eG, eH, eI, eJ, eK, eL, eM, eN, eO, eP, eQ, eR, eS, eT, eU, eV, eW, eX, eY, eZ, aa, ab, ac, ad, ae, af, ag, ah, ai, aj, ak, al, am, an, ao, ap, aq, ar, au, av, aw, ax, ay, az, aA, aB, aC, aD, aE, aF, aG, aH, aI, aJ, aK, aL, aM, aN, aO, aP, aQ, aR, aS, aT, aU, aV, aW, aX, aY, aZ, ba, bb, bc, bd, be, bf, bg, bh, bi, bj, bk, bl, bm, bn, bo, bp, bq, br, bs, bt, bu, bv, bw, bx, bz, bA, bB, bC, bD, bE, bF, bG, bH, bI, bJ, bK, bL, bM, bN], defers := [] } W := by
 have HQ := qh hQ; have HW0 := qh hW; clear hQ hW
 conv => arg 2; whnf
 go_wp2_with fail; go_loopw [8] (fun iv wr => ∃ j : Nat, iv = int i64 (j + 1 : Nat) ∧ j ≤ n ∧ Hid (FarW w wr N G n F kss ms (AS kss i j))) (fun iv _ => n + 3 - (intOf iv).toNat)
 case atStart => exact ⟨0, rfl, Nat.zero_le _, HW0⟩
 case round =>
  obtain ⟨j, rfl, hjn, hW⟩ := hrel; have y3 := Aa hW.out.next.box 0 rfl
  by_cases hlt : j < n
  ·have hj : ((j + 1 : Nat) : Int) ≤ (n : Int) := by omega
   have hJ : AS kss i (j + 1) = DE kss i (j + 1 : Nat) (AS kss i j) n := by rw [AS, hW.out.klen]
   have HJ := qh hJ; clear hJ; obtain ⟨nn, hnn⟩ : ∃ nn : Int, ((j + 1 : Nat) : Int) = nn := ⟨_, rfl⟩; have HNE := qh hnn; have h1 : 1 ≤ nn := by omega
   have h2 : nn ≤ 1000 := by omega
   rw [hnn] at hj; rw [hnn]; clear hnn; refine Ac (fun K1 hK => ?_); have HK1 := qh hK; clear hK; go_wp2_with fail; refine HK1.out _ _ ?_; clear HK1 K1; refine Ac (fun K3 hK => ?_); have HK3 := qh hK; clear hK; refine wp_block ?_; change Code.wp Try.prog body5 _ _ _; refine OH i nn N G n F kss ms (AS kss i j) w wr hW.out hn ⟨h1, h2⟩ _ _ _ _ _ _ _ _ _ _ _ _ _ _ _ _ _ _ _ _ _ _ _ _ _ _ _ _ _ _ _ _ _ _ _ _ _ _ _ _ _ _ _ _ _ _ _ _ _ _ _ _ _ _ _ _ _ _ _ _ _ _ _ _ _ _ _ _ _ _ _ _ _ _ _ _ _ _ _ _ _ _ _ _ _ _ _ _ _ _ _ _ _ _ _ _ _ _ _ _ _ _ _ _ _ _ _ _ _ _ _ _ _ _ _ _ _ _ _ _ _ _ _ _ _ _ _ _ _ _ _ _ _ _ _ _ _ _ _ _ _ _ _ _ _ _ _ _ ?_
   intros
   rename_i V hV; refine HK3.out _ _ ?_; rw [← HNE.out, ← HJ.out] at hV; have HV := qh hV; clear hV HK3 K3; have hne := HNE.out; subst hne; go_wp2_with fail; go_roundw
   case rel => exact ⟨j + 1, by go_num, by omega, HV⟩
   case measure => simp [intOf]; omega
  ·have : j = n := by omega
   subst this; have hz : ¬ ((j + 1 : Nat) : Int) ≤ (j : Int) := by omega
   go_wp2_with fail; exact HQ.out _ _ _ _ _ _ _ _ _ _ _ _ _ _ _ _ _ _ _ _ _ _ _ _ _ _ _ _ _ _ _ _ _ _ _ _ _ _ _ _ _ _ _ _ _ _ _ _ _ _ _ _ _ _ _ _ _ _ _ _ _ _ _ _ wr hW.out
end
section
open Go Go.RowKit
def onB (kss : List (List Int)) (g : Int → Option Int) (at_ left : Int) (k : Nat) : Bool := decide ((k : Int) ∈ kss.getD at_.toNat []) && decide ((g k).getD 0 = left)
def CS (kss : List (List Int)) (g : Int → Option Int) (at_ left : Int) (n : Nat) : Option Nat := (List.range n).find? (onB kss g at_ left)
def D9 (kss : List (List Int)) (g : Int → Option Int) (n : Nat) : Nat → Int → List Int
 | 0, _ => []
 | left + 1, at_ => match CS kss g at_ (left + 1 : Nat) n with
  | some k => (k : Int) :: D9 kss g n left k
  | none => D9 kss g n left at_
theorem JY {kss : List (List Int)} {g : Int → Option Int} {at_ left : Int} {n : Nat} (h : ∀ k, k < n → onB kss g at_ left k = false) : CS kss g at_ left n = none := by
 unfold CS; rw [List.find?_eq_none]; intro k hk; rw [h k (by simpa using hk)]; simp
theorem JZ {kss : List (List Int)} {g : Int → Option Int} {at_ left : Int} {n k : Nat} (hk : k < n) (h : ∀ j, j < k → onB kss g at_ left j = false) (hy : onB kss g at_ left k = true) : CS kss g at_ left n = some k := by
 unfold CS; rw [List.find?_range_eq_some]; exact ⟨hy, by simpa using hk, fun j hj => by simpa using h j hj⟩
theorem SetB.lookup {w : World} {b : Nat} {ks : List Int} (h : SetB w b ks) (x : Int) : (Instr.lookup 137 (.map (some b)) (int i64 x) false).run Try.prog w = .ok (.bool (decide (x ∈ ks))) w := by
 have := B6 (P := Try.prog) AT Try.underlying137 Try.underlying3 h.map_ x (z := .bool false) (by kernel_rfl) false; rw [IQ] at this; refine this.trans ?_; by_cases hx : x ∈ ks
 ·simp [hx]
 ·simp [hx]
theorem Ob : (Try.prog.info? 3).map (fun i => (i.zero, i.size, i.bytes)) = some (some (int i64 0), 1, 8) := by kernel_rfl
def G7 (l : List Int) : List Value := l.map (Value.int .i64)
theorem ML {w : World} {base e s n g : Nat} {v : Value} {xs : List Value} (h : w.ownsRow base e s v n xs) (hg : v.ownBlock = some g) : base ≤ g := by
 rcases h.2 with ⟨rfl, _⟩ | ⟨g', cap, cur, rfl, h1, _⟩
 ·cases hg
 ·cases hg; exact h1
theorem OT {A B C : World} {n : Nat} (h : Below n A B) (k : Below n B C) : Below n A C := h.trans k
structure WayW (w S W : World) (N G n F : Nat) (kss : List (List Int)) (ms : List Nat) (g : Int → Option Int) (v : Value) (l : List Int) : Prop where
 far : FarW w S N G n F kss ms g
 below : Below S.heap.size S W
 own : W.ownsRow S.heap.size 3 1 v l.length (G7 l)
 range : ∀ x ∈ l, 0 ≤ x ∧ x < n
theorem FN (w : World) (v : Value) (t : TypeId) : ∀ j u, [v][j]? = some u → (w.alloc (.cells #[v] t)).cell? ((⟨w.heap.size, 0, none⟩ : Addr).add j) = some u := by
 intro j u hj
 cases j with
 | zero => simp at hj; subst hj; simp [Addr.add]
 | succ j => simp at hj
noncomputable def Ij : Code := match bBn 6 with
 | .seq _ (.block _ (.loop (.seq _ (.seq (.block _ c) _)))) => c
 | c => c
noncomputable def OY : Code := match Ij with
 | .seq a _ => a
 | c => c
theorem Px (i left at_ : Int) (N G n F : Nat) (kss : List (List Int)) (ms : List Nat) (g : Int → Option Int) (v : Value) (l : List Int) (w S W : World) (hW : WayW w S W N G n F kss ms g v l) (hn : n ≤ 1000) (hl : l.length ≤ 1000) (ha : 0 ≤ at_ ∧ at_ < n) (Q : Exit → Act → World → Prop) (e0 e1 e2 e4 e5 e8 e9 ea eb ec ed ee ef eg eh ei ej ek el em en eo ep eq er es et eu ev ew ex ey ez eA eB eC eD eE eF eG eH eI eJ eK eL eM eN eO eP eQ eR eS eT eU eV eW eX eY eZ aa ab ac ad ae af ag ah ai aj ak al am an ao ap aq ar au av aw ax ay az aA aB aC aD aE aF aG aH aI aJ aK aL aM aN aO aP aQ aR aS aT aU aV aW aX aY aZ ba bb bc bd be bf bg bh bi bj bk bl bm bn bo bp bq br bs bt bu bv bw bx bz bA bB bC bD bE bF bG bH bI bJ bK : Value)
  (hQ : ∀ (v' : Value) (bL bM bN bO bP bQ bR bS bT bU bV bW bX bY bZ ca cb cc cd ce cf cg ch ci : Value) (V : World), WayW w S V N G n F kss ms g v' (l ++ ((CS kss g at_ left n).toList.map fun k : Nat => (k : Int))) → Q .normal { tmps := #[e0, e1, e2, .pointer (some ⟨N, 0, none⟩), e4, e5, int i64 i, .map (some F), e8, e9, ea, eb, ec, ed, ee, int i64 left, ef, v', int i64 at_, bL, eh, ei, ej, ek, el, em, en, eo, ep, eq, er, es, et, eu, ev, ew, ex, ey, ez, eA, eB, eC, eD, eE, eF, eG, eH, eI, eJ, eK, eL, eM, eN, eO, eP, eQ, eR, eS, eT, eU, eV, eW, eX, eY, eZ, aa, ab, ac, ad, ae, af, ag, ah, ai, aj, ak, al, am, an, ao, ap, aq, ar, au, av, aw, ax, ay, az, aA, aB, aC, aD, aE, aF, aG, aH, aI, aJ, aK, aL, aM, aN, aO, aP, aQ, aR, aS, aT, aU, aV, aW, aX, aY, aZ, ba, bb, bc, bd, be, bf, bg, bh, bi, bj, bk, bM, bN, bO, bP, bQ, bR, bS, bT, bU, bV, bW, bX, bY, bZ, ca, cb, cc, cd, ce, cf, cg, ch, ci, bJ, bK], defers := [] } V) :
  (Ab 1 Ij).wp Try.prog Q { tmps := #[e0, e1, e2, .pointer (some ⟨N, 0, none⟩), e4, e5, int i64 i, .map (some F), e8, e9, ea, eb, ec, ed, ee, int i64 left, ef, v, int i64 at_, eg, eh, ei, ej, ek, el, em, en, eo, ep, eq, er, es, et, eu, ev, ew, ex, ey, ez, eA, eB, eC, eD, eE, eF, eG, eH, eI, eJ, eK, eL, eM, eN, eO, eP, eQ, eR, eS, eT, eU, eV, eW, eX, eY, eZ, aa, ab, ac, ad, ae, af, ag, ah, ai, aj, ak, al, am, an, ao, ap, aq, ar, au, av, aw, ax, ay, az, aA, aB, aC, aD, aE, aF, aG, aH, aI, aJ, aK, aL, aM, aN, aO, aP, aQ, aR, aS, aT, aU, aV, aW, aX, aY, aZ, ba, bb, bc, bd, be, bf, bg, bh, bi, bj, bk, bl, bm, bn, bo, bp, bq, br, bs, bt, bu, bv, bw, bx, bz, bA, bB, bC, bD, bE, bF, bG, bH, bI, bJ, bK], defers := [] } W := by
 obtain ⟨a, rfl⟩ : ∃ a : Nat, at_ = a := ⟨at_.toNat, by omega⟩; have ha2 : a < n := by omega
 have hF := hW.far.below hW.below; obtain ⟨m, hm⟩ : ∃ m, ms[a]? = some m := ⟨_, qg (by have := hF.whole; omega)⟩; obtain ⟨ks, hks⟩ : ∃ ks, kss[a]? = some ks := ⟨_, qg (by have := hF.klen; omega)⟩; have hgd : kss.getD (a : Int).toNat [] = ks := by rw [Int.toNat_natCast, List.getD_eq_getElem?_getD, hks]; rfl
 have y3 := Aa hF.next.box 0 rfl
 have yG := Aa hF.next.row a (CT ms ha2)
 rw [hm] at yG; have hlm := hF.next.sets a m ks hm hks
 have hlf := hF.far; have HQ := qh hQ; have HW := qh hW; have HLM := qh hlm.lookup; have HLF := qh hlf.lookup1; have HGD := qh hgd; clear hQ hW hF hm hks hgd hlm hlf ha; have hai : (a : Int) < (n : Int) := by omega
 conv => arg 2; whnf
 go_wp2_with fail; go_loopw [17, 128] (fun lv iv wr => ∃ k : Nat, iv = int i64 k ∧ lv = v ∧ k ≤ n ∧ wr = W ∧ Hid (∀ j, j < k → onB kss g a left j = false)) (fun _ iv _ => n + 1 - (intOf iv).toNat)
 case atStart => exact ⟨0, rfl, rfl, Nat.zero_le _, rfl, qh (fun j hj => by omega)⟩
 case round =>
  obtain ⟨k, rfl, rfl, hkn, rfl, hno⟩ := hrel; by_cases hlt : k < n
  ·have hk : (k : Int) < (n : Int) := by omega
   have hl1 := HLM.out k; have hl2 := HLF.out k; by_cases hmem : (k : Int) ∈ ks
   ·rw [decide_eq_true hmem] at hl1
    by_cases hv : (g k).getD 0 = left
    ·rw [hv] at hl2
     have hy : onB kss g a left k = true := by unfold onB; rw [HGD.out, decide_eq_true hmem, decide_eq_true hv]; rfl
     have hpk := JZ hlt hno.out hy; have HPK := qh hpk; obtain ⟨i3, hi3, hz3, hs3, hb3⟩ := info_parts Ob; have HO := qh (HW.out.own.alloc (.cells #[int i64 (k : Int)] 3)); have hsz := HW.out.below.size; clear hy hpk hmem hv
     go_wp2_with (at_builtin; go_loud (refine wpList_append_own _ rfl _ _ 63 rfl S.heap.size 3 i3 (int i64 0) 1 8 Try.underlying63 hi3 hz3 hs3 hb3 rfl (by decide) _ l.length (G7 l) rfl HO.out ⟨wr.heap.size, 0, none⟩ 1 1 [int i64 (k : Int)] rfl rfl (FN _ _ _) (by intro u hu; simp at hu; subst hu; rfl) (by simp only [maxLen]; omega) (by omega) (by simp; omega) ?_; intro v' w4 hown hgrow _)); refine HQ.out v' _ _ _ _ _ _ _ _ _ _ _ _ _ _ _ _ _ _ _ _ _ _ _ _ w4 ?_; rw [HPK.out]; refine ⟨HW.out.far, OT HW.out.below (((Below.refl S.heap.size wr).alloc hsz _).grown hgrow (by simp; omega) (fun b hb => ML HW.out.own hb)), ?_, fun x hx => ?_⟩
     ·unfold G7 at hown ⊢
      simpa using hown
     ·rcases List.mem_append.1 hx with hx | hx
      ·exact HW.out.range x hx
      ·simp at hx; subst hx; omega
    ·have hy : onB kss g a left k = false := by unfold onB; rw [decide_eq_false hv, Bool.and_false]
     have HY := qh hy; clear hy hmem; go_wp2_with fail; go_roundw
     case rel => exact ⟨k + 1, by go_num, by trivial, by omega, by trivial, qh (fun j hj => by rcases Nat.lt_or_ge j k with h | h; exact hno.out j h; rw [show j = k by omega]; exact HY.out)⟩
     case measure => simp [intOf]; omega
   ·rw [decide_eq_false hmem] at hl1
    have hy : onB kss g a left k = false := by unfold onB; rw [HGD.out, decide_eq_false hmem, Bool.false_and]
    have HY := qh hy; clear hy hmem; go_wp2_with fail; go_roundw
    case rel => exact ⟨k + 1, by go_num, by trivial, by omega, by trivial, qh (fun j hj => by rcases Nat.lt_or_ge j k with h | h; exact hno.out j h; rw [show j = k by omega]; exact HY.out)⟩
    case measure => simp [intOf]; omega
  ·have : k = n := by omega
   subst this; have hz : ¬ (k : Int) < (k : Int) := by omega
   have hpk : CS kss g a left k = none := JY hno.out; have HPK := qh hpk; clear hpk; go_wp2_with fail; refine HQ.out _ _ _ _ _ _ _ _ _ _ _ _ _ _ _ _ _ _ _ _ _ _ _ _ _ wr ?_; rw [HPK.out]; simpa using HW.out
theorem Hs {w : World} {B n : Nat} {v : Value} {xs : List Value} (h : w.ownsRow B 3 1 v n xs) (hn : n ≠ 0) : ∃ g cap, v = .slice (some ⟨g, 0, none⟩) n cap ∧ ∀ (j : Nat) (u : Value), xs[j]? = some u → w.cell? ⟨g, j, none⟩ = some u := by
 have hc := h; rcases h.2 with ⟨rfl, h0⟩ | ⟨g, cap, cur, rfl, _⟩
 ·exact absurd h0 hn
 ·refine ⟨g, cap, rfl, fun j u hj => ?_⟩
  have := hc.cells (g := g) rfl j u hj; rw [AX, Nat.zero_add] at this; exact this
theorem M8 (kss : List (List Int)) (g : Int → Option Int) (n left : Nat) (l : List Int) (x : Int) (hx : l.getLast? = some x) (tot : List Int) (h : l ++ D9 kss g n (left + 1) x = tot) :
  ∃ y, (l ++ ((CS kss g x (left + 1 : Nat) n).toList.map fun k : Nat => (k : Int))).getLast? = some y ∧ (l ++ ((CS kss g x (left + 1 : Nat) n).toList.map fun k : Nat => (k : Int))) ++ D9 kss g n left y = tot := by
 unfold D9 at h
 cases hp : CS kss g x (left + 1 : Nat) n with
 | none =>
  rw [hp] at h; exact ⟨x, by simpa using hx, by simpa using h⟩
 | some k =>
  rw [hp] at h; exact ⟨k, by simp, by simpa using h⟩
theorem OJ (i : Int) (d N G n F : Nat) (kss : List (List Int)) (ms : List Nat) (g : Int → Option Int) (v : Value) (w S W : World) (hW : WayW w S W N G n F kss ms g v [i]) (hn : n ≤ 1000) (hd : d ≤ 998) (Q : Exit → Act → World → Prop) (e0 e1 e2 e4 e5 e8 e9 ea eb ec ed ee ef eg eh ei ej ek el em en eo ep eq er es et eu ev ew ex ey ez eA eB eC eD eE eF eG eH eI eJ eK eL eM eN eO eP eQ eR eS eT eU eV eW eX eY eZ aa ab ac ad ae af ag ah ai aj ak al am an ao ap aq ar au av aw ax ay az aA aB aC aD aE aF aG aH aI aJ aK aL aM aN aO aP aQ aR aS aT aU aV aW aX aY aZ ba bb bc bd be bf bg bh bi bj bk bl bm bn bo bp bq br bs bt bu bv bw bx bz bA bB bC bD bE bF bG bH bI bJ bK bL : Value)
  (hQ : ∀ (v' : Value) (bM bN bO bP bQ bR bS bT bU bV bW bX bY bZ ca cb cc cd ce cf cg ch ci cj ck cl cm cn co cp cq cr cs ct cu cv cw cx : Value) (V : World), WayW w S V N G n F kss ms g v' (i :: D9 kss g n d i) → Q .normal { tmps := #[e0, e1, e2, .pointer (some ⟨N, 0, none⟩), e4, e5, int i64 i, .map (some F), e8, e9, ea, eb, ec, ed, ee, bM, ef, v', bN, bO, ei, ej, ek, el, em, en, eo, ep, eq, er, es, et, eu, ev, ew, ex, ey, ez, eA, eB, eC, eD, eE, eF, eG, eH, eI, eJ, eK, eL, eM, eN, eO, eP, eQ, eR, eS, eT, eU, eV, eW, eX, eY, eZ, aa, ab, ac, ad, ae, af, ag, ah, ai, aj, ak, al, am, an, ao, ap, aq, ar, au, av, aw, ax, ay, az, aA, aB, aC, aD, aE, aF, aG, aH, aI, aJ, aK, aL, aM, aN, aO, aP, aQ, aR, aS, aT, aU, aV, aW, aX, aY, aZ, bP, bQ, bR, bS, bT, bU, bV, bW, bX, bY, bZ, ca, cb, cc, cd, ce, cf, cg, ch, ci, cj, ck, cl, cm, cn, co, cp, cq, cr, cs, ct, cu, cv, cw, cx, bK, bL], defers := [] } V) :
  (bBn 6).wp Try.prog Q { tmps := #[e0, e1, e2, .pointer (some ⟨N, 0, none⟩), e4, e5, int i64 i, .map (some F), e8, e9, ea, eb, ec, ed, ee, int i64 (d + 1 : Nat), ef, v, eg, eh, ei, ej, ek, el, em, en, eo, ep, eq, er, es, et, eu, ev, ew, ex, ey, ez, eA, eB, eC, eD, eE, eF, eG, eH, eI, eJ, eK, eL, eM, eN, eO, eP, eQ, eR, eS, eT, eU, eV, eW, eX, eY, eZ, aa, ab, ac, ad, ae, af, ag, ah, ai, aj, ak, al, am, an, ao, ap, aq, ar, au, av, aw, ax, ay, az, aA, aB, aC, aD, aE, aF, aG, aH, aI, aJ, aK, aL, aM, aN, aO, aP, aQ, aR, aS, aT, aU, aV, aW, aX, aY, aZ, ba, bb, bc, bd, be, bf, bg, bh, bi, bj, bk, bl, bm, bn, bo, bp, bq, br, bs, bt, bu, bv, bw, bx, bz, bA, bB, bC, bD, bE, bF, bG, bH, bI, bJ, bK, bL], defers := [] } W := by
 have HQ := qh hQ; have HW := qh hW; obtain ⟨tot, htot⟩ : ∃ tot, i :: D9 kss g n d i = tot := ⟨_, rfl⟩; have HT := qh htot; clear hQ hW htot
 conv => arg 2; whnf
 go_wp2_with fail; go_loopw [15, 17] (fun dv lv wr => ∃ (left : Nat) (l : List Int) (x : Int), dv = int i64 left ∧ left ≤ 998 ∧ Hid (l.length + left ≤ d + 1) ∧ Hid (l.getLast? = some x) ∧ Hid (l ++ D9 kss g n left x = tot) ∧ Hid (WayW w S wr N G n F kss ms g lv l)) (fun dv _ _ => (intOf dv).toNat)
 case atStart => exact ⟨d, [i], i, by go_num, hd, qh (by simp; omega), qh rfl, qh HT.out, HW⟩
 case round =>
  obtain ⟨left, l, x, rfl, hle, hlen, hx, hto, hW⟩ := hrel
  cases left with
  | zero =>
   have hz : ¬ ((0 : Nat) : Int) > 0 := by omega
   go_wp2_with fail; refine HQ.out _ _ _ _ _ _ _ _ _ _ _ _ _ _ _ _ _ _ _ _ _ _ _ _ _ _ _ _ _ _ _ _ _ _ _ _ _ _ _ _ ?_; have := hto.out; rw [D9, List.append_nil] at this; rw [HT.out, ← this]; exact hW.out
  | succ left =>
   have hp : (0 : Int) < ((left + 1 : Nat) : Int) := by omega
   obtain ⟨y, hy1, hy2⟩ := M8 kss g n left l x hx.out tot hto.out; have hne : l ≠ [] := fun e => by rw [e] at hx; have := hx.out; cases this
   have hlp : 0 < l.length := List.length_pos_iff.2 hne; have hxm : x ∈ l := List.mem_of_getLast? hx.out; have hxr := hW.out.range x hxm; obtain ⟨gb, cap, hv, hcell⟩ := Hs hW.out.own (by omega); have hlx : l[l.length - 1]? = some x := by rw [← List.getLast?_eq_getElem?]; exact hx.out
   have yl : wr.cell? ⟨gb, l.length - 1, none⟩ = some (int i64 x) := hcell _ _ (by unfold G7; rw [List.getElem?_map, hlx]; rfl); have hll : l.length ≤ 1000 := by have := hlen.out; omega
   have hsub : IntKind.i64.wrap ((l.length : Int) - 1) = ((l.length - 1 : Nat) : Int) := by rw [IntWalk.i64_in _ (by omega)]; omega
   have HY1 := qh hy1; have HY2 := qh hy2; have HXR := qh hxr; clear hy1 hy2 hne hxm hxr hcell hlx; subst hv; refine Ac (fun K1 hK => ?_); have HK1 := qh hK; clear hK; go_wp2_with fail; refine HK1.out _ _ ?_; clear HK1 K1; refine Ac (fun K3 hK => ?_); have HK3 := qh hK; clear hK; refine wp_block ?_; change Code.wp Try.prog (.seq OY (Ab 1 Ij)) _ _ _; refine Ac (fun K4 hK => ?_); have HK4 := qh hK; clear hK
   conv => arg 2; whnf
   go_wp2_with fail; refine HK4.out _ _ ?_; clear HK4 K4; refine Px i (left + 1 : Nat) x N G n F kss ms g _ l w S wr hW.out hn hll HXR.out _ _ _ _ _ _ _ _ _ _ _ _ _ _ _ _ _ _ _ _ _ _ _ _ _ _ _ _ _ _ _ _ _ _ _ _ _ _ _ _ _ _ _ _ _ _ _ _ _ _ _ _ _ _ _ _ _ _ _ _ _ _ _ _ _ _ _ _ _ _ _ _ _ _ _ _ _ _ _ _ _ _ _ _ _ _ _ _ _ _ _ _ _ _ _ _ _ _ _ _ _ _ _ _ _ _ _ _ _ _ _ _ _ _ _ _ _ _ _ _ _ _ _ _ _ _ _ _ _ _ _ _ _ _ _ _ _ _ _ _ _ _ _ _ _ _ ?_
   intros
   rename_i V hV; refine HK3.out _ _ ?_; have HV := qh hV
   have HLN : Hid ((l ++ ((CS kss g x (left + 1 : Nat) n).toList.map fun k : Nat => (k : Int))).length + left ≤ d + 1) := qh (by
    have h1 := hlen.out; have h2 : (CS kss g x (left + 1 : Nat) n).toList.length ≤ 1 := by cases CS kss g x (left + 1 : Nat) n <;> simp
    rw [List.length_append, List.length_map]; omega)
   clear hV HK3 K3 yl; go_wp2_with fail; go_roundw
   case rel => exact ⟨left, _, _, by go_num, by omega, HLN, HY1, HY2, HV⟩
   case measure => simp [intOf]
end
section
open Go Go.RowKit
theorem Ks {kss : List (List Int)} {i nn : Int} {j : Nat} {g : Int → Option Int} {x v : Int} (h : DN kss i nn j g x = some v) : g x = some v ∨ v = nn := by
 unfold DN at h
 split at h
 ·exact Or.inl h
 ·split at h
  ·unfold EX at h
   split at h
   ·right; cases h; rfl
   ·exact Or.inl h
  ·exact Or.inl h
theorem H9 {kss : List (List Int)} {i nn : Int} {g : Int → Option Int} {x v : Int} : ∀ {j : Nat}, DE kss i nn g j x = some v → g x = some v ∨ v = nn
 | 0, h => Or.inl h
 | _ + 1, h => (Ks h).elim H9 Or.inr
theorem Dl {kss : List (List Int)} {i x v : Int} : ∀ {m : Nat}, AS kss i m x = some v → 1 ≤ v ∧ v ≤ m
 | 0, h => by cases h
 | m + 1, h => by
  rcases H9 h with h | h
  ·have := Dl h; omega
  ·omega
def CG (kss : List (List Int)) (i : Nat) : Bool := (AS kss i kss.length i).isSome
def Bf (kss : List (List Int)) : List Int := match (List.range kss.length).find? (CG kss) with
 | none => []
 | some i => (i : Int) :: D9 kss (AS kss i kss.length) kss.length (((AS kss i kss.length i).getD 1 - 1).toNat) i
theorem IK {kss : List (List Int)} (h : ∀ i, i < kss.length → CG kss i = false) : Bf kss = [] := by
 unfold Bf
 have : (List.range kss.length).find? (CG kss) = none := by
  rw [List.find?_eq_none]; intro i hi; rw [h i (by simpa using hi)]; simp
 rw [this]
theorem IL {kss : List (List Int)} {i : Nat} (hi : i < kss.length) (h : ∀ j, j < i → CG kss j = false) {d : Nat} (hy : AS kss i kss.length i = some ((d + 1 : Nat) : Int)) : Bf kss = (i : Int) :: D9 kss (AS kss i kss.length) kss.length d i := by
 unfold Bf
 have : (List.range kss.length).find? (CG kss) = some i := by
  rw [List.find?_range_eq_some]; exact ⟨by unfold CG; rw [hy]; rfl, by simpa using hi, fun j hj => by simpa using h j hj⟩
 rw [this]; simp only [hy, Option.getD_some]; rw [show (((d + 1 : Nat) : Int) - 1).toNat = d by omega]
def IntRow (W : World) (v : Value) (l : List Int) : Prop := (l = [] ∧ v = .slice none 0 0) ∨ ∃ g cap, v = .slice (some ⟨g, 0, none⟩) l.length cap ∧ l ≠ [] ∧ l.length ≤ cap ∧ cap ≤ maxLen ∧ ∀ (j : Nat) (x : Int), l[j]? = some x → W.cell? ⟨g, j, none⟩ = some (int i64 x)
theorem MM {w : World} {B : Nat} {v : Value} {l : List Int} (h : w.ownsRow B 3 1 v l.length (G7 l)) (hl : l ≠ []) : IntRow w v l := by
 have hp : l.length ≠ 0 := fun e => hl (List.length_eq_zero_iff.1 e)
 have hc := Hs h hp; rcases h.2 with ⟨rfl, h0⟩ | ⟨g, cap, cur, rfl, _, _, h3, h4, _⟩
 ·exact absurd h0 hp
 ·obtain ⟨g', cap', e, hcell⟩ := hc
  cases e; exact Or.inr ⟨g, cap, rfl, hl, h3, h4, fun j x hj => hcell j _ (by unfold G7; rw [List.getElem?_map, hj]; rfl)⟩
theorem Mj : Ab 3 bodyB = .seq (bBn 3) (Ab 4 bodyB) := rfl
theorem IZ : Ab 4 bodyB = .seq (bBn 4) (Ab 5 bodyB) := rfl
theorem Mk : Ab 5 bodyB = .seq (bBn 5) (Ab 6 bodyB) := rfl
theorem Ml : Ab 6 bodyB = .seq (bBn 6) (Ab 7 bodyB) := rfl
theorem FarW.start {w W W1 : World} {N G n : Nat} {kss : List (List Int)} {ms : List Nat} (h : NextW w W N G n kss ms) (hl : ms.length = n) (hk : kss.length = n) (h1 : W.alloc (.map #[] 0) = W1) : FarW w W1 N G n W.heap.size kss ms (fun _ => none) := by
 have b1 : Below W.heap.size W W1 := by rw [← h1]; exact (Below.refl _ _).alloc (qn _) _
 have hN := (qs.1 h.box).1; have hG := (qs.1 h.row).1; exact ⟨h.keep b1, hl, hk, by rw [← h1]; exact FarM.new W, h.below.size, fun hm => by have := h.lts hk hm; omega, by omega, by omega⟩
theorem MW (i N G n : Nat) (kss : List (List Int)) (ms : List Nat) (w W : World) (hW : NextW w W N G n kss ms) (hl : ms.length = n) (hkl : kss.length = n) (hn : n ≤ 999) (hi : i < n) (Q : Exit → Act → World → Prop) (e0 e1 e2 e4 e5 e6 e7 e8 e9 ea eb ec ed ee ef eg eh ei ej ek el em en eo ep eq er es et eu ev ew ex ey ez eA eB eC eD eE eF eG eH eI eJ eK eL eM eN eO eP eQ eR eS eT eU eV eW eX eY eZ aa ab ac ad ae af ag ah ai aj ak al am an ao ap aq ar au av aw ax ay az aA aB aC aD aE aF aG aH aI aJ aK aL aM aN aO aP aQ aR aS aT aU aV aW aX aY aZ ba bb bc bd be bf bg bh bi bj bk bl bm bn bo bp bq br bs bt bu bv bw bx bz bA bB bC bD bE bF bG bH bI bJ bK bL bM : Value)
  (hN : AS kss i n i = none → ∀ (x2 x6 x7 x8 x9 bN bO bP bQ bR bS bT bU bV bW bX bY bZ ca cb cc cd ce cf cg ch ci cj ck cl cm cn co cp cq cr cs ct cu cv cw cx cy cz cA cB cC cD cE cF cG cH cI cJ cK cL cM cN cO cP cQ cR cS cT cU cV cW cX cY cZ da db dc dd de df dg dh di dj dk dl dm dn dp dq dr ds dt du dv dw dx dy dz dA dB dC dD dE dF dG dH dI dJ dK dL dM dN dO dP dQ dR dS dT dU dV dW dX dY : Value) (V : World), NextW w V N G n kss ms → Q (.exit 3) { tmps := #[e0, e1, x2, .pointer (some ⟨N, 0, none⟩), e4, e5, x6, x7, x8, x9, bN, bO, bP, bQ, bR, bS, bT, bU, bV, bW, ek, el, em, en, eo, ep, eq, er, es, et, eu, ev, ew, ex, ey, ez, eA, eB, eC, eD, eE, eF, eG, int i64 i, eH, bX, bY, bZ, ca, cb, cc, cd, ce, cf, cg, ch, ci, cj, ck, cl, cm, cn, co, cp, cq, cr, cs, ct, cu, cv, cw, cx, cy, cz, cA, cB, cC, cD, cE, cF, cG, cH, cI, cJ, cK, cL, cM, cN, cO, cP, cQ, cR, cS, cT, cU, cV, cW, cX, cY, cZ, da, db, dc, dd, de, df, dg, dh, di, dj, dk, dl, dm, dn, dp, dq, dr, ds, dt, du, dv, dw, dx, dy, dz, dA, dB, dC, dD, dE, dF, dG, dH, dI, dJ, dK, dL, dM, dN, dO, dP, dQ, dR, dS, dT, dU, dV, dW, dX, dY, bM], defers := [] } V)
  (hR : ∀ d : Nat, AS kss i n i = some ((d + 1 : Nat) : Int) → ∀ (v' : Value) (x6 x7 x8 x9 bN bO bP bQ bR bS bT bU bV bW bX bY bZ ca cb cc cd ce cf cg ch ci cj ck cl cm cn co cp cq cr cs ct cu cv cw cx cy cz cA cB cC cD cE cF cG cH cI cJ cK cL cM cN cO cP cQ cR cS cT cU cV cW cX cY cZ da db dc dd de df dg dh di dj dk dl dm dn dp dq dr ds dt du dv dw dx dy dz dA dB dC dD dE dF dG dH dI dJ dK dL dM dN dO dP dQ dR dS dT dU dV dW dX dY : Value) (V : World), Below w.heap.size w V → IntRow V v' ((i : Int) :: D9 kss (AS kss i n) n d i) → Q .ret { tmps := #[e0, e1, v', .pointer (some ⟨N, 0, none⟩), e4, e5, x6, x7, x8, x9, bN, bO, bP, bQ, bR, bS, bT, bU, bV, bW, ek, el, em, en, eo, ep, eq, er, es, et, eu, ev, ew, ex, ey, ez, eA, eB, eC, eD, eE, eF, eG, int i64 i, eH, bX, bY, bZ, ca, cb, cc, cd, ce, cf, cg, ch, ci, cj, ck, cl, cm, cn, co, cp, cq, cr, cs, ct, cu, cv, cw, cx, cy, cz, cA, cB, cC, cD, cE, cF, cG, cH, cI, cJ, cK, cL, cM, cN, cO, cP, cQ, cR, cS, cT, cU, cV, cW, cX, cY, cZ, da, db, dc, dd, de, df, dg, dh, di, dj, dk, dl, dm, dn, dp, dq, dr, ds, dt, du, dv, dw, dx, dy, dz, dA, dB, dC, dD, dE, dF, dG, dH, dI, dJ, dK, dL, dM, dN, dO, dP, dQ, dR, dS, dT, dU, dV, dW, dX, dY, bM], defers := [] } V) :
  bodyB.wp Try.prog Q { tmps := #[e0, e1, e2, .pointer (some ⟨N, 0, none⟩), e4, e5, e6, e7, e8, e9, ea, eb, ec, ed, ee, ef, eg, eh, ei, ej, ek, el, em, en, eo, ep, eq, er, es, et, eu, ev, ew, ex, ey, ez, eA, eB, eC, eD, eE, eF, eG, int i64 i, eH, eI, eJ, eK, eL, eM, eN, eO, eP, eQ, eR, eS, eT, eU, eV, eW, eX, eY, eZ, aa, ab, ac, ad, ae, af, ag, ah, ai, aj, ak, al, am, an, ao, ap, aq, ar, au, av, aw, ax, ay, az, aA, aB, aC, aD, aE, aF, aG, aH, aI, aJ, aK, aL, aM, aN, aO, aP, aQ, aR, aS, aT, aU, aV, aW, aX, aY, aZ, ba, bb, bc, bd, be, bf, bg, bh, bi, bj, bk, bl, bm, bn, bo, bp, bq, br, bs, bt, bu, bv, bw, bx, bz, bA, bB, bC, bD, bE, bF, bG, bH, bI, bJ, bK, bL, bM], defers := [] } W := by
 obtain ⟨W1, hW1⟩ : ∃ W1, W.alloc (.map #[] 0) = W1 := ⟨_, rfl⟩; have hF := FarW.start hW hl hkl hW1; have HN := qh hN; have HR := qh hR; have HF := qh hF; clear hN hR hF hW; have hmm := @run_makeMap Try.prog; generalize hFF : W.heap.size = F at *; rw [Mg]; refine Ac (fun K hK => ?_); have HK := qh hK; clear hK
 conv => arg 2; whnf
 go_wp2_with fail; refine HK.out _ _ ?_; clear HK K; rw [Mh]; refine Ac (fun K hK => ?_); have HK := qh hK; clear hK
 conv => arg 2; whnf
 go_wp2_with fail; refine HK.out _ _ ?_; clear HK K hW1 hmm hFF; rw [Mi]; refine Ac (fun K hK => ?_); have HK := qh hK; clear hK; refine OG i N G n F kss ms w W1 HF.out (by omega) _ _ _ _ _ _ _ _ _ _ _ _ _ _ _ _ _ _ _ _ _ _ _ _ _ _ _ _ _ _ _ _ _ _ _ _ _ _ _ _ _ _ _ _ _ _ _ _ _ _ _ _ _ _ _ _ _ _ _ _ _ _ _ _ _ _ _ _ _ _ _ _ _ _ _ _ _ _ _ _ _ _ _ _ _ _ _ _ _ _ _ _ _ _ _ _ _ _ _ _ _ _ _ _ _ _ _ _ _ _ _ _ _ _ _ _ _ _ _ _ _ _ _ _ _ _ _ _ _ _ _ _ _ _ _ _ _ _ _ _ _ _ _ _ _ _ _ _ _ ?_
 intros
 rename_i V hV; refine HK.out _ _ ?_; clear HK K; have hlk := hV.far.lookup i; have HV := qh hV; clear hV; rw [Mj]; refine Ac (fun K hK => ?_); have HK := qh hK; clear hK
 cases hgi : AS kss i n i with
 | none =>
  rw [hgi] at hlk; have HGI := qh hgi; clear hgi
  conv => arg 2; whnf
  go_wp2_with fail; refine HK.out _ _ ?_; clear HK K hlk; rw [IZ]; refine Ac (fun K hK => ?_); have HK := qh hK; clear hK
  conv => arg 2; whnf
  go_wp2_with fail; exact HN.out HGI.out _ _ _ _ _ _ _ _ _ _ _ _ _ _ _ _ _ _ _ _ _ _ _ _ _ _ _ _ _ _ _ _ _ _ _ _ _ _ _ _ _ _ _ _ _ _ _ _ _ _ _ _ _ _ _ _ _ _ _ _ _ _ _ _ _ _ _ _ _ _ _ _ _ _ _ _ _ _ _ _ _ _ _ _ _ _ _ _ _ _ _ _ _ _ _ _ _ _ _ _ _ _ _ _ _ _ _ _ _ _ _ _ _ _ _ _ _ _ _ _ _ HV.out.next
 | some v0 =>
  have hv0 := Dl hgi; obtain ⟨d, rfl⟩ : ∃ d : Nat, v0 = ((d + 1 : Nat) : Int) := ⟨(v0 - 1).toNat, by omega⟩; rw [hgi] at hlk; have HGI := qh hgi; clear hgi
  conv => arg 2; whnf
  go_wp2_with fail; refine HK.out _ _ ?_; clear HK K hlk; rw [IZ]; refine Ac (fun K hK => ?_); have HK := qh hK; clear hK
  conv => arg 2; whnf
  go_wp2_with fail; refine HK.out _ _ ?_; clear HK K; rw [Mk]; refine Ac (fun K hK => ?_); have HK := qh hK; clear hK; obtain ⟨W2, hW2⟩ : ∃ W2, V.alloc (.cells #[int i64 (i : Int)] 3) = W2 := ⟨_, rfl⟩
  have hway : WayW w V W2 N G n F kss ms (AS kss i n) (.slice (some ⟨V.heap.size, 0, none⟩) 1 1) [(i : Int)] := by
   refine ⟨HV.out, by rw [← hW2]; exact (Below.refl _ _).alloc (qn _) _, ?_, fun x hx => by simp at hx; subst hx; omega⟩; rw [← hW2]; exact World.ownsRow_lit V #[int i64 (i : Int)] 1 (qn _) (by unfold maxLen; omega) rfl
  have HY := qh hway; clear hway
  conv => arg 2; whnf
  go_wp2_with fail; refine HK.out _ _ ?_; clear HK K hW2; rw [Ml]; refine Ac (fun K hK => ?_); have HK := qh hK; clear hK; refine OJ i d N G n F kss ms (AS kss i n) _ w V W2 HY.out (by omega) (by omega) _ _ _ _ _ _ _ _ _ _ _ _ _ _ _ _ _ _ _ _ _ _ _ _ _ _ _ _ _ _ _ _ _ _ _ _ _ _ _ _ _ _ _ _ _ _ _ _ _ _ _ _ _ _ _ _ _ _ _ _ _ _ _ _ _ _ _ _ _ _ _ _ _ _ _ _ _ _ _ _ _ _ _ _ _ _ _ _ _ _ _ _ _ _ _ _ _ _ _ _ _ _ _ _ _ _ _ _ _ _ _ _ _ _ _ _ _ _ _ _ _ _ _ _ _ _ _ _ _ _ _ _ _ _ _ _ _ _ _ _ _ _ _ _ _ _ _ ?_
  intros
  rename_i V2 hV2; refine HK.out _ _ ?_; clear HK K; have hb := Ag HV.out.next.below (hV2.below.mono (qn _))
  have hrow := MM hV2.own (by simp); have HB := qh hb; have HRW := qh hrow; clear hV2 hb hrow
  conv => arg 2; whnf
  go_wp2_with fail; exact HR.out d HGI.out _ _ _ _ _ _ _ _ _ _ _ _ _ _ _ _ _ _ _ _ _ _ _ _ _ _ _ _ _ _ _ _ _ _ _ _ _ _ _ _ _ _ _ _ _ _ _ _ _ _ _ _ _ _ _ _ _ _ _ _ _ _ _ _ _ _ _ _ _ _ _ _ _ _ _ _ _ _ _ _ _ _ _ _ _ _ _ _ _ _ _ _ _ _ _ _ _ _ _ _ _ _ _ _ _ _ _ _ _ _ _ _ _ _ _ _ _ _ _ _ _ HB.out HRW.out
end
section
open Go Go.RowKit
def Ny (kss : List (List Int)) (w : World) (e : Ending) (w' : World) : Prop := ∃ v, e = .returned v ∧ Below w.heap.size w w' ∧ IntRow w' v (Bf kss)
theorem Ql : BV = .seq KZ (Ab 1 BV) := rfl
theorem Pw (B N G n : Nat) (kss : List (List Int)) (ms : List Nat) (w0 w W : World) (hb0 : Below w0.heap.size w0 w) (hW : NextW w W N G n kss ms) (hl : ms.length = n) (hkl : kss.length = n) (hn : n ≤ 999) (e0 e4 e5 e6 e7 e8 e9 ea eb ec ed ee ef eg eh ei ej ek el em en eo ep eq er es et eu ev ew ex ey ez eA eB eC eD eE eF eG eH eI eJ eK eL eM eN eO eP eQ eR eS eT eU eV eW eX eY eZ aa ab ac ad ae af ag ah ai aj ak al am an ao ap aq ar au av aw ax ay az aA aB aC aD aE aF aG aH aI aJ aK aL aM aN aO aP aQ aR aS aT aU aV aW aX aY aZ ba bb bc bd be bf bg bh bi bj bk bl bm bn bo bp bq br bs bt bu bv bw bx bz bA bB bC bD bE bF bG bH bI bJ bK bL bM bN : Value) :
  (Ab 3 BV).wp Try.prog (bodyPost Try.prog Try.f61 (Ny kss w0)) { tmps := #[e0, .pointer (some ⟨B, 0, none⟩), .slice none 0 0, .pointer (some ⟨N, 0, none⟩), e4, e5, e6, e7, e8, e9, ea, eb, ec, ed, ee, ef, eg, eh, ei, ej, ek, el, em, en, eo, ep, eq, er, es, et, eu, ev, ew, ex, ey, ez, eA, eB, eC, eD, eE, eF, eG, eH, eI, eJ, eK, eL, eM, eN, eO, eP, eQ, eR, eS, eT, eU, eV, eW, eX, eY, eZ, aa, ab, ac, ad, ae, af, ag, ah, ai, aj, ak, al, am, an, ao, ap, aq, ar, au, av, aw, ax, ay, az, aA, aB, aC, aD, aE, aF, aG, aH, aI, aJ, aK, aL, aM, aN, aO, aP, aQ, aR, aS, aT, aU, aV, aW, aX, aY, aZ, ba, bb, bc, bd, be, bf, bg, bh, bi, bj, bk, bl, bm, bn, bo, bp, bq, br, bs, bt, bu, bv, bw, bx, bz, bA, bB, bC, bD, bE, bF, bG, bH, bI, bJ, bK, bL, bM, bN], defers := [] } W := by
 have y3 := Aa hW.box 0 rfl; have HW := qh hW; have HB0 := qh hb0; clear hW hb0; rw [MZ]; refine Ac (fun K hK => ?_); have HK := qh hK; clear hK
 conv => arg 2; whnf
 go_wp2_with fail; go_loopw [43] (fun iv wr => ∃ i : Nat, iv = int i64 i ∧ i ≤ n ∧ Hid (∀ j, j < i → CG kss j = false) ∧ Hid (NextW w wr N G n kss ms)) (fun iv _ => n + 1 - (intOf iv).toNat)
 case atStart => exact ⟨0, rfl, Nat.zero_le _, qh (fun j hj => by omega), HW⟩
 case round =>
  obtain ⟨i, rfl, hin, hno, hWr⟩ := hrel; by_cases hlt : i < n
  ·have hi : (i : Int) < (n : Int) := by omega
   refine Ac (fun K1 hK => ?_); have HK1 := qh hK; clear hK; go_wp2_with fail; refine HK1.out _ _ ?_; clear HK1 K1; refine Ac (fun K2 hK => ?_); have HK2 := qh hK; clear hK; go_wp2_with fail; refine HK2.out _ _ ?_; clear HK2 K2; refine Ac (fun K3 hK => ?_); have HK3 := qh hK; clear hK; refine wp_block ?_; change Code.wp Try.prog bodyB _ _ _; refine MW i N G n kss ms w wr hWr.out hl hkl hn hlt _ _ _ _ _ _ _ _ _ _ _ _ _ _ _ _ _ _ _ _ _ _ _ _ _ _ _ _ _ _ _ _ _ _ _ _ _ _ _ _ _ _ _ _ _ _ _ _ _ _ _ _ _ _ _ _ _ _ _ _ _ _ _ _ _ _ _ _ _ _ _ _ _ _ _ _ _ _ _ _ _ _ _ _ _ _ _ _ _ _ _ _ _ _ _ _ _ _ _ _ _ _ _ _ _ _ _ _ _ _ _ _ _ _ _ _ _ _ _ _ _ _ _ _ _ _ _ _ _ _ _ _ _ _ _ _ _ _ _ _ _ _ _ _ _ _ _ _ _ _ (fun hfn => ?_) (fun d hfs => ?_)
   ·intros
    rename_i V hV; refine HK3.out _ _ ?_; have HV := qh hV; have hri : CG kss i = false := by unfold CG; rw [hkl, hfn]; rfl
    have HRI := qh hri; clear hV HK3 K3 hfn hri; go_wp2_with fail; go_roundw
    case rel => exact ⟨i + 1, by go_num, by omega, qh (fun j hj => by rcases Nat.lt_or_ge j i with h | h; exact hno.out j h; rw [show j = i by omega]; exact HRI.out), HV⟩
    case measure => simp [intOf]; omega
   ·intros
    rename_i v' _ _ _ _ _ _ _ _ _ _ _ _ _ _ _ _ _ _ _ _ _ _ _ _ _ _ _ _ _ _ _ _ _ _ _ _ _ _ _ _ _ _ _ _ _ _ _ _ _ _ _ _ _ _ _ _ _ _ _ _ _ _ _ _ _ _ _ _ _ _ _ _ _ _ _ _ _ _ _ _ _ _ _ _ _ _ _ _ _ _ _ _ _ _ _ _ _ _ _ _ _ _ _ _ _ _ _ _ _ _ _ _ _ _ _ _ _ _ _ V hbV hrow; rw [← hkl] at hfs hrow; have hm := IL (by omega) hno.out hfs; rw [← hm] at hrow; refine bodyPost_ret (v := v') ?_ rfl ⟨v', rfl, Ag HB0.out hbV, hrow⟩; simp [results, Try.results61, go_sem]
  ·have : i = n := by omega
   subst this; have hz : ¬ (i : Int) < (i : Int) := by omega
   have hm : Bf kss = [] := IK (fun j hj => hno.out j (by omega)); have HM := qh hm; clear hm; go_wp2_with fail; refine HK.out _ _ ?_
   conv => arg 2; whnf
   go_wp2_with fail; go_ret; exact ⟨_, rfl, Ag HB0.out hWr.out.below, Or.inl ⟨HM.out, rfl⟩⟩
theorem Hz (s : Ls) (f : Nm → Int) (w : World) (hA : s.At w) (hU : NumAt f w (Ay s.phrases)) (hn : s.phrases.length ≤ 999) : Calls Try.prog 61 #[s.val] w (Ny (s.nexts f) w) := by
 obtain ⟨W, hW, hB, hbW⟩ : ∃ W, w.alloc (.cells s.cells 30) = W ∧ W.heap[w.heap.size]? = some (.cells s.cells 30 (0, 0)) ∧ Below w.heap.size w W := ⟨_, rfl, heap_alloc_new w _, (Below.refl _ w).alloc (qn _) _⟩; have hS : RgS s f w.heap.size W := ⟨hA.below hbW, hB, hU.below hbW⟩; have y9 : W.cell? ⟨w.heap.size, 10, none⟩ = some (.slice s.fa s.phrases.length s.fc) := Aa hB 10 rfl; have hkl : (s.nexts f).length = s.phrases.length := by simp [Ls.nexts]
 obtain ⟨n, hnn⟩ : ∃ n, s.phrases.length = n := ⟨_, rfl⟩; obtain ⟨W1, hW1, gW1, bW1, sW1⟩ := Ai W (Array.replicate n (.map none)) 137; obtain ⟨W2, hW2, gW2, bW2, sW2⟩ := Ai W1 #[.slice (some ⟨W.heap.size, 0, none⟩) n n] 136; have hb2 := Ag bW1 bW2
 have hWn : NextW W W2 W1.heap.size W.heap.size n (s.nexts f) [] := by
  refine ⟨hb2, by omega, qn _, gW2, ?_, Nat.zero_le _, by simp, by simp, List.nodup_nil⟩; rw [← Ki]; exact Am bW2 gW1
 have hmk := JQ n (by omega) W; rw [hW1] at hmk; have hv : s.val = .agg s.cells := rfl; rw [hv]; have HS := qh hS; have HWN := qh hWn; have HKL := qh hkl; have HNN := qh hnn; have HBW := qh hbW; have HW2 := qh hW2; have HMK := qh hmk; rw [hnn] at y9; have Hy9 := qh y9; unfold Ls.cells at hW ⊢; rw [hnn] at hW hn ⊢; clear hA hU hS hWn hkl hv hB hW1 gW1 bW1 gW2 bW2 hb2 hnn hbW hW2 hmk y9 sW2; go_enter Try.func61, Try.ntmps61; change Code.wp Try.prog BV _ _ _; rw [Ql]; refine Ac (fun K hK => ?_); have HK := qh hK; clear hK
 conv => arg 2; whnf
 go_wp2_with fail; refine HK.out _ _ ?_; clear HK K hW; have y9 := Hy9.out; have hmk := HMK.out; have hW2 := HW2.out; rw [MX]; refine Ac (fun K hK => ?_); have HK := qh hK; clear hK
 conv => arg 2; whnf
 go_wp2_with fail; rw [← sW1]; refine HK.out _ _ ?_; clear HK K hmk hW2 y9 HW2 HMK Hy9; have hnn := HNN.out; subst hnn; rw [MY]; refine Ac (fun K hK => ?_); have HK := qh hK; clear hK; refine Pv s f w.heap.size W1.heap.size W.heap.size W W2 HS.out (by omega) HWN.out _ _ _ _ _ _ _ _ _ _ _ _ _ _ _ _ _ _ _ _ _ _ _ _ _ _ _ _ _ _ _ _ _ _ _ _ _ _ _ _ _ _ _ _ _ _ _ _ _ _ _ _ _ _ _ _ _ _ _ _ _ _ _ _ _ _ _ _ _ _ _ _ _ _ _ _ _ _ _ _ _ _ _ _ _ _ _ _ _ _ _ _ _ _ _ _ _ _ _ _ _ _ _ _ _ _ _ _ _ _ _ _ _ _ _ _ _ _ _ _ _ _ _ _ _ _ _ _ _ _ _ _ _ _ _ _ _ _ _ _ _ _ _ _ _ _ _ _ _ _ ?_; intro ms x4 x5 x6 x7 x8 x9 x10 x11 x12 x13 x14 x15 x16 x17 x18 x19 x20 x21 x22 x23 x24 x25 x26 x27 x28 x29 x30 x31 x32 x33 x34 x35 x36 x37 x38 x39 x40 x41 x42 x43 x44 x45 x46 x47 x48 x49 x50 x51 x52 x53 x54 x55 x56 x57 x58 x59 x60 x61 x62 x63 x64 x65 x66 x67 x68 x69 x70 x71 x72 x73 x74 x75 x76 x77 x78 x79 x80 x81 x82 x83 x84 x85 x86 x87 x88 x89 x90 x91 x92 x93 x94 x95 x96 x97 x98 x99 x100 x101 x102 x103 x104 x105 x106 x107 x108 x109 x110 x111 x112 x113 x114 x115 x116 x117 x118 x119 x120 x121 x122 x123 x124 x125 x126 x127 x128 x129 x130 x131 x132 x133 x134 x135 x136 x137 x138 x139 x140 x141 x142 x143 x144 x145 x146 x147 x148 x149 x150 V hV hms; refine HK.out _ _ ?_; clear HK K; exact Pw w.heap.size W1.heap.size W.heap.size s.phrases.length (s.nexts f) ms w W V HBW.out hV hms HKL.out hn _ _ _ _ _ _ _ _ _ _ _ _ _ _ _ _ _ _ _ _ _ _ _ _ _ _ _ _ _ _ _ _ _ _ _ _ _ _ _ _ _ _ _ _ _ _ _ _ _ _ _ _ _ _ _ _ _ _ _ _ _ _ _ _ _ _ _ _ _ _ _ _ _ _ _ _ _ _ _ _ _ _ _ _ _ _ _ _ _ _ _ _ _ _ _ _ _ _ _ _ _ _ _ _ _ _ _ _ _ _ _ _ _ _ _ _ _ _ _ _ _ _ _ _ _ _ _ _ _ _ _ _ _ _ _ _ _ _ _ _ _ _ _ _ _ _ _ _
end
section
open Go Go.RowKit
def Its.sumF (f : Nm → Int) (F : Int → Int) : Its → Int → Int
 | .nil, n => n
 | .cons k nn un its _ r, n => r.sumF f F (min (n + (if k = 1 then 1 else if k = 2 then nn * its.sumF f F 0 else if k = 3 then its.sumF f F 0 else if k = 4 then F (f un) else 0)) 4097)
theorem Its.exB_parts {k n : Int} {un : Nm} {its : Its} {ms : List Mov} {r : Its} (h : (Its.cons k n un its ms r).exB = true) : DF k n = true ∧ its.exB = true ∧ r.exB = true := by
 simp only [Its.exB, Bool.and_eq_true] at h; exact ⟨h.1, h.2.2.2.1.2, h.2.2.2.2⟩
theorem J8 {n : Int} (h : DF 2 n = true) : 1 ≤ n ∧ n ≤ 64 := by
 unfold DF inB at h; simp at h; omega
theorem Its.sumF_bound (f : Nm → Int) (F : Int → Int) : ∀ (T : Its) (n : Int), T.exB = true → (∀ u ∈ T.uses f, 0 ≤ F u ∧ F u ≤ 4097) → 0 ≤ n → n ≤ 4097 → 0 ≤ T.sumF f F n ∧ T.sumF f F n ≤ 4097
 | .nil, n, _, _, h0, h1 => ⟨h0, h1⟩
 | .cons k nn un its ms r, n, hx, hu, h0, h1 => by
  obtain ⟨hn, hi, hr⟩ := Its.exB_parts hx; have hbi := its.sumF_bound f F 0 hi (fun u h => hu u (by simp [Its.uses, h])) (by omega) (by omega); have hF : k = 4 → 0 ≤ F (f un) := fun hk => (hu (f un) (by simp [Its.uses, hk])).1
  unfold Its.sumF
  have hv : 0 ≤ (if k = 1 then 1 else if k = 2 then nn * its.sumF f F 0 else if k = 3 then its.sumF f F 0 else if k = 4 then F (f un) else 0) := by
   split
   ·omega
   ·split
    ·rename_i h2
     subst h2; exact Int.mul_nonneg (by have := J8 hn; omega) hbi.1
    ·split
     ·exact hbi.1
     ·split
      ·rename_i h4; exact hF h4
      ·omega
  exact r.sumF_bound f F _ hr (fun u h => hu u (by simp [Its.uses, h])) (by omega) (by omega)
structure LenW (W : World) (s : Ls) (f : Nm → Int) (B KB M SB PB : Nat) (len : Int → Int) : Prop where
 sc : ∃ w0, RgS s f B w0 ∧ Below w0.heap.size w0 W ∧ w0.heap.size ≤ M
 kb : W.heap[KB]? = some (.cells #[.map (some M)] 140 (0, 0))
 sb : W.heap[SB]? = some (.cells #[.func (.func 89) #[] #[.pointer (some ⟨SB, 0, none⟩), .pointer (some ⟨PB, 0, none⟩)]] 143 (0, 0))
 pb : W.heap[PB]? = some (.cells #[.func (.func 90) #[] #[.pointer (some ⟨KB, 0, none⟩), .pointer (some ⟨SB, 0, none⟩), .pointer (some ⟨B, 0, none⟩)]] 120 (0, 0))
 known : ∃ g, FarM W M g ∧ ∀ x v, g x = some v → v = len x
theorem LenW.score {W : World} {s : Ls} {f : Nm → Int} {B KB M SB PB : Nat} {len : Int → Int} (h : LenW W s f B KB M SB PB len) : RgS s f B W := by
 obtain ⟨w0, h1, h2, _⟩ := h.sc; exact h1.below h2
theorem FarM.isMap {W : World} {F : Nat} {g : Int → Option Int} (h : FarM W F g) : DH W F := by
 obtain ⟨kvs, h1, _⟩ := h; obtain ⟨es, c, h2, _⟩ := h1; exact ⟨es, c, h2⟩
theorem LenW.isMap {W : World} {s : Ls} {f : Nm → Int} {B KB M SB PB : Nat} {len : Int → Int} (h : LenW W s f B KB M SB PB len) : DH W M := by
 obtain ⟨g, h1, _⟩ := h.known; exact h1.isMap
theorem LenW.below {W V : World} {s : Ls} {f : Nm → Int} {B KB M SB PB : Nat} {len : Int → Int} (h : LenW W s f B KB M SB PB len) (hb : Below W.heap.size W V) : LenW V s f B KB M SB PB len := by
 obtain ⟨g, h1, h2⟩ := h.known; obtain ⟨w0, a1, a2, a3⟩ := h.sc; exact ⟨⟨w0, a1, Ag a2 hb, a3⟩, Am hb h.kb, Am hb h.sb, Am hb h.pb, ⟨g, h1.of_block (hb.block M h1.lt), h2⟩⟩
theorem Cc {w w' : World} {m : Nat} (hb : Below w.heap.size w w') : w.grownBy w' (some m) := ⟨hb.os, hb.tape, hb.output, hb.size, fun k hk _ => hb.block k hk⟩
def Gq (s : Ls) (f : Nm → Int) (B KB M SB PB : Nat) (len : Int → Int) (v : Int) (W : World) (e : Ending) (W' : World) : Prop := e = .returned (int i64 v) ∧ LenW W' s f B KB M SB PB len ∧ W.grownBy W' (some M)
def Mf (s : Ls) (f : Nm → Int) (B KB M SB PB : Nat) (len : Int → Int) (us : List Int) : Prop := ∀ u ∈ us, ∀ V, LenW V s f B KB M SB PB len → Calls Try.prog 90 #[int i64 u, .pointer (some ⟨KB, 0, none⟩), .pointer (some ⟨SB, 0, none⟩), .pointer (some ⟨B, 0, none⟩)] V (Gq s f B KB M SB PB len (len u) V)
theorem I6 (s : Ls) (f : Nm → Int) (B KB M SB PB : Nat) (len : Int → Int) (T : Lt)
  (hI : ∀ T' : Lt, T'.size < T.size → ∀ (ia : Option Addr) (ic : Nat) (W : World), T'.strip.exB = true → (∀ u ∈ T'.strip.uses f, 0 ≤ len u ∧ len u ≤ 4097) → Mf s f B KB M SB PB len (T'.strip.uses f) → (T'.len = 0 ∨ ia = some ⟨blk ia, off ia, none⟩) → T'.len ≤ maxLen → T'.At W (blk ia) (off ia) → NumAt f W (T'.refsL (blk ia) (off ia)) → LenW W s f B KB M SB PB len → Calls Try.prog 89 #[.slice ia T'.len ic, .pointer (some ⟨SB, 0, none⟩), .pointer (some ⟨PB, 0, none⟩)] W (Gq s f B KB M SB PB len (T'.strip.sumF f len 0) W))
  (ia : Option Addr) (ic : Nat) (W : World) (hx : T.strip.exB = true) (hu : ∀ u ∈ T.strip.uses f, 0 ≤ len u ∧ len u ≤ 4097) (hP : Mf s f B KB M SB PB len (T.strip.uses f)) (hf : T.len = 0 ∨ ia = some ⟨blk ia, off ia, none⟩) (hl : T.len ≤ maxLen) (hT : T.At W (blk ia) (off ia)) (hU : NumAt f W (T.refsL (blk ia) (off ia))) (hL : LenW W s f B KB M SB PB len) : Calls Try.prog 89 #[.slice ia T.len ic, .pointer (some ⟨SB, 0, none⟩), .pointer (some ⟨PB, 0, none⟩)] W (Gq s f B KB M SB PB len (T.strip.sumF f len 0) W) := by
 have HI := qh hI; have HT := qh hT; have HF := qh hf; have HU := qh hU; have HL := qh hL; have HX := qh hx; have HUB := qh hu; have HP := qh hP; clear hI hT hf hU hL hx hu hP; generalize hm : T.len = q at *; have HM := qh hm; clear hm; unfold maxLen at hl; go_enter Try.func89, Try.ntmps89; go_wp2_with fail; go_loopw [4, 9] (fun av iv wr => ∃ (j : Nat) (R : Lt) (a : Int), iv = int i64 j ∧ av = int i64 a ∧ j + R.len = q ∧ 0 ≤ a ∧ a ≤ 4097 ∧ Hid (R.size ≤ T.size) ∧ Hid (T.strip.sumF f len 0 = R.strip.sumF f len a) ∧ Hid (R.strip.exB = true) ∧ Hid (∀ u ∈ R.strip.uses f, u ∈ T.strip.uses f) ∧ Hid (R.At wr (blk ia) (off ia + j * 6)) ∧ Hid (NumAt f wr (R.refsL (blk ia) (off ia + j * 6))) ∧ Hid (LenW wr s f B KB M SB PB len) ∧ Hid (W.grownBy wr (some M))) (fun _ iv _ => q + 1 - (intOf iv).toNat)
 case atStart => exact ⟨0, T, 0, rfl, rfl, by rw [HM.out]; omega, by omega, by omega, qh (qn _), qh rfl, HX, qh (fun _ h => h), by simpa [Hid] using HT.out, by simpa [Hid] using HU.out, HL, qh (World.grownBy.refl _ _)⟩
 case round =>
  obtain ⟨j, R, a, rfl, rfl, hin, ha0, ha1, hsz, hsum, hex, hus, hR, hK, hLW, hB⟩ := hrel
  cases R with
  | nil =>
   simp only [Lt.len, Nat.add_zero] at hin; subst hin; go_wp2_with fail; go_ret; exact ⟨by rw [hsum.out]; rfl, hLW.out, hB.out⟩
  | cons kk nn un ja jc its ma mc ms r =>
   simp only [Lt.len] at hin; have hi : (j : Int) < (q : Int) := by omega
   have e := HF.out.resolve_left (by omega); obtain ⟨⟨u, g3, hu⟩, _, k2, k3⟩ := hK.out.mov; obtain ⟨⟨g0, g1, g2, g4, g5⟩, _, ⟨i1, i2, i3⟩, hr⟩ := hR.out; obtain ⟨hxn, hxi, hxr⟩ := Its.exB_parts hex.out; have hlt : its.size < T.size := by have := hsz.out; simp only [Lt.size] at this; omega
   have hszr : r.size ≤ T.size := by have := hsz.out; simp only [Lt.size] at this; omega
   obtain ⟨W2, hW2, gW2, bW2, sW2⟩ := Ai wr #[int i64 kk, int i64 nn, sv un, int i64 u, .slice ja its.len jc, .slice ma ms.length mc] 78; have hL2 := hLW.out.below bW2; have hM2 := hL2.isMap; have hMr := hLW.out.isMap; have hui : ∀ u ∈ its.strip.uses f, u ∈ T.strip.uses f := fun v hv => hus.out v (by simp [Lt.strip, Its.uses, hv])
   have hur : ∀ u ∈ r.strip.uses f, u ∈ T.strip.uses f := fun v hv => hus.out v (by simp [Lt.strip, Its.uses, hv])
   have hbi := Its.sumF_bound f len its.strip 0 hxi (fun u h => HUB.out u (hui u h)) (by omega) (by omega); have C := fun (V : World) (hv : W2.grownBy V (some M)) (hc : LenW V s f B KB M SB PB len) => HI.out its hlt ja jc V hxi (fun u h => HUB.out u (hui u h)) (fun u h => HP.out u (hui u h)) i1 i2 ((i3.below bW2).grown hM2 hv) ((k2.below bW2).grown hM2 hv) hc
   obtain ⟨si, hsi⟩ : ∃ si, its.strip.sumF f len 0 = si := ⟨_, rfl⟩; rw [hsi] at C hbi
   have hsm : T.strip.sumF f len 0 = r.strip.sumF f len (min (a + (if kk = 1 then 1 else if kk = 2 then nn * si else if kk = 3 then si else if kk = 4 then len (f un) else 0)) 4097) := by
    rw [hsum.out]; simp only [Lt.strip, Its.sumF, hsi]
   have HSM := qh hsm; have HC := qh C
   have HR : Hid (r.At wr (blk ia) (off ia + (j + 1) * 6) ∧ NumAt f wr (r.refsL (blk ia) (off ia + (j + 1) * 6))) := qh (by
    rw [show off ia + (j + 1) * 6 = off ia + j * 6 + 6 by omega]
    exact ⟨hr, k3⟩)
   have HG2 := qh gW2; have HB2 := qh bW2; have HL2 := qh hL2; have HM2 := qh hM2; have HSZ := qh hszr; have HMr := qh hMr; have HXR := qh hxr; have HUR := qh hur; have HU4 : Hid (kk = 4 → u = f un ∧ u ∈ T.strip.uses f) := qh (fun h4 => ⟨hu h4, by rw [hu h4]; exact hus.out _ (by simp [Lt.strip, Its.uses, h4])⟩); have HN2 : Hid (kk = 2 → 1 ≤ nn ∧ nn ≤ 64) := qh (fun h2 => by subst h2; exact J8 hxn); have y0 := Aa gW2 0 rfl; have y1 := Aa gW2 1 rfl; have y3 := Aa gW2 3 rfl; have y4 := Aa gW2 4 rfl; have zs := Aa hL2.sb 0 rfl; have zp := Aa hL2.pb 0 rfl; obtain ⟨hb0, hb1⟩ := hbi; clear C gW2 bW2 sW2 i1 i2 i3 hr hlt k2 k3 hR hK hus hsz hszr hL2 hM2 hMr hxr hxi hxn hex hsum hsm hur hui hsi hu hLW; generalize hbb : blk ia = bb at *; generalize hoo : off ia = oo at *; subst e; clear hbb hoo HF; by_cases h1 : kk = 1
   ·subst h1
    have HSM2 : Hid (T.strip.sumF f len 0 = r.strip.sumF f len (min (a + 1) 4097)) := qh (by rw [HSM.out, if_pos rfl]); have hgr := Cc (m := M) HB2.out; have HGR := qh hgr; clear hgr; go_wp2_with fail; go_roundw
    case rel => exact ⟨j + 1, r, _, by go_num, rfl, by omega, by omega, by omega, HSZ, HSM2, HXR, HUR, qh (HR.out.1.grown HMr.out HGR.out), qh (HR.out.2.grown HMr.out HGR.out), HL2, qh (B8 hB.out HGR.out)⟩
    case measure => simp [intOf]; omega
   ·by_cases h2 : kk = 2
    ·subst h2
     obtain ⟨hn0, hn1⟩ := HN2.out rfl; have HSM2 : Hid (T.strip.sumF f len 0 = r.strip.sumF f len (min (a + nn * si) 4097)) := qh (by rw [HSM.out, if_neg h1, if_pos rfl]); have hp0 : 0 ≤ nn * si := Int.mul_nonneg (by omega) hb0; have hp1 : nn * si ≤ 64 * 4097 := Int.mul_le_mul hn1 hb1 hb0 (by omega); have hw1 : IntKind.i64.wrap (nn * si) = nn * si := IntWalk.i64_in _ (by omega); have hw2 : IntKind.i64.wrap (a + nn * si) = a + nn * si := IntWalk.i64_in _ (by omega); go_wp2_with fail; have HD := qh (And.intro (Cc (m := M) (BO W2 W2.heap.size)) (HL2.out.below (BO W2 W2.heap.size))); have HMD : Hid (DH W2.drew M) := qh HM2.out; have HYD : Hid (W2.drew.cell? ⟨wr.heap.size, 1, none⟩ = some (int i64 nn)) := qh y1
     go_region_with (go_at_call 89; refine (HC.out _ HD.out.1 HD.out.2).mono ?_; rintro e V ⟨rfl, hv1, hv2⟩; have HV1 := qh hv1; have HV2 := qh hv2; have zz := Bs HYD.out HMD.out hv2; clear hv1 hv2)
     all_goals
      clear hw1 hw2; go_wp2_with fail; have hgr := Cb HB2.out (B8 HD.out.1 HV2.out); have HGR := qh hgr; clear hgr; go_roundw
      case rel => exact ⟨j + 1, r, _, by go_num, rfl, by omega, by omega, by omega, HSZ, HSM2, HXR, HUR, qh (HR.out.1.grown HMr.out HGR.out), qh (HR.out.2.grown HMr.out HGR.out), HV1, qh (B8 hB.out HGR.out)⟩
      case measure => simp [intOf]; omega
    ·by_cases h3 : kk = 3
     ·subst h3
      have HSM2 : Hid (T.strip.sumF f len 0 = r.strip.sumF f len (min (a + si) 4097)) := qh (by rw [HSM.out, if_neg h1, if_neg h2, if_pos rfl])
      go_wp2_with (go_at_call 89; refine (HC.out _ (World.grownBy.refl _ _) HL2.out).mono ?_; rintro e V ⟨rfl, hv1, hv2⟩; have HV1 := qh hv1; have HV2 := qh hv2; clear hv1 hv2); have hgr := Cb HB2.out HV2.out; have HGR := qh hgr; clear hgr; go_roundw
      case rel => exact ⟨j + 1, r, _, by go_num, rfl, by omega, by omega, by omega, HSZ, HSM2, HXR, HUR, qh (HR.out.1.grown HMr.out HGR.out), qh (HR.out.2.grown HMr.out HGR.out), HV1, qh (B8 hB.out HGR.out)⟩
      case measure => simp [intOf]; omega
     ·by_cases h4 : kk = 4
      ·subst h4
       obtain ⟨hu1, hu2⟩ := HU4.out rfl; have HSM2 : Hid (T.strip.sumF f len 0 = r.strip.sumF f len (min (a + len u) 4097)) := qh (by rw [HSM.out, if_neg h1, if_neg h2, if_neg h3, if_pos rfl, ← hu1]); have hlu := HUB.out u hu2; have HCP := qh (HP.out u hu2 W2 HL2.out); clear hu1 hu2; obtain ⟨lu, hlu2⟩ : ∃ lu, len u = lu := ⟨_, rfl⟩; rw [hlu2] at HCP HSM2 hlu; obtain ⟨l0, l1⟩ := hlu; clear hlu2
       go_wp2_with (go_at_call 90; refine HCP.out.mono ?_; rintro e V ⟨rfl, hv1, hv2⟩; have HV1 := qh hv1; have HV2 := qh hv2; clear hv1 hv2); have hgr := Cb HB2.out HV2.out; have HGR := qh hgr; clear hgr; go_roundw
       case rel => exact ⟨j + 1, r, _, by go_num, rfl, by omega, by omega, by omega, HSZ, HSM2, HXR, HUR, qh (HR.out.1.grown HMr.out HGR.out), qh (HR.out.2.grown HMr.out HGR.out), HV1, qh (B8 hB.out HGR.out)⟩
       case measure => simp [intOf]; omega
      ·have HSM2 : Hid (T.strip.sumF f len 0 = r.strip.sumF f len (min (a + 0) 4097)) := qh (by rw [HSM.out, if_neg h1, if_neg h2, if_neg h3, if_neg h4])
       have hgr := Cc (m := M) HB2.out; have HGR := qh hgr; clear hgr; go_wp2_with fail; go_roundw
       case rel => exact ⟨j + 1, r, _, by go_num, by simp, by omega, by omega, by omega, HSZ, HSM2, HXR, HUR, qh (HR.out.1.grown HMr.out HGR.out), qh (HR.out.2.grown HMr.out HGR.out), HL2, qh (B8 hB.out HGR.out)⟩
       case measure => simp [intOf]; omega
theorem Np (s : Ls) (f : Nm → Int) (B KB M SB PB : Nat) (len : Int → Int) : ∀ (z : Nat) (T : Lt), T.size ≤ z → ∀ (ia : Option Addr) (ic : Nat) (W : World), T.strip.exB = true → (∀ u ∈ T.strip.uses f, 0 ≤ len u ∧ len u ≤ 4097) → Mf s f B KB M SB PB len (T.strip.uses f) → (T.len = 0 ∨ ia = some ⟨blk ia, off ia, none⟩) → T.len ≤ maxLen → T.At W (blk ia) (off ia) → NumAt f W (T.refsL (blk ia) (off ia)) → LenW W s f B KB M SB PB len → Calls Try.prog 89 #[.slice ia T.len ic, .pointer (some ⟨SB, 0, none⟩), .pointer (some ⟨PB, 0, none⟩)] W (Gq s f B KB M SB PB len (T.strip.sumF f len 0) W) := by
 intro z
 induction z with
 | zero => intro T hs; exact I6 s f B KB M SB PB len T (fun T' hlt => absurd hlt (by omega))
 | succ z ih => intro T hs; exact I6 s f B KB M SB PB len T (fun T' hlt => ih T' (by omega))
end
section
open Go Go.RowKit
theorem Og {kvs : List (Int × Value)} {k : Int} {x0 : Value} (h : Ap kvs k = some x0) (v : Value) : Ap (AW kvs k v) k = some v := by
 unfold AW; rw [h]; simp only [Option.isSome_some, if_true]; unfold Ap at h ⊢; rw [List.find?_map]
 have e : ((fun p => decide (p.1 = k)) ∘ fun p => if p.1 = k then (p.1, v) else p) = fun p : Int × Value => decide (p.1 = k) := by
  funext p; simp only [Function.comp]; split <;> rfl
 rw [e]
 cases hf : kvs.find? (fun p => decide (p.1 = k)) with
 | none => rw [hf] at h; cases h
 | some p =>
  have hp := List.find?_some hf; have hpk : p.1 = k := by simpa using hp
  simp only [Option.map_some, if_pos hpk]
theorem FarM.set {W : World} {F : Nat} {g : Int → Option Int} (h : FarM W F g) (k v : Int) :
  ∃ W', (Instr.mapUpdate 140 (.map (some F)) (int i64 k) (int i64 v)).run Try.prog W = .ok () W' ∧ FarM W' F (EX g k v) ∧ W.grownBy W' (some F) := by
 obtain ⟨kvs, h1, h2, h3⟩ := h; obtain ⟨o, hrun, hM⟩ := AB (P := Try.prog) AT Try.underlying140 Try.underlying3 h1 h2 k (int i64 v); refine ⟨_, hrun, ⟨_, hM, AH h2 k _, fun x => ?_⟩, Dv W F o⟩; unfold EX; by_cases hx : x = k
 ·subst hx
  rw [if_pos rfl]
  cases hg : Ap kvs x with
  | none => rw [Cg hg]; rfl
  | some y => rw [Og hg]; rfl
 ·rw [if_neg hx, ← h3 x]
  cases hg : Ap kvs x with
  | none => exact Cu hg (fun e => hx e.symm) _
  | some y => exact Er hg (fun e => hx e.symm) _
theorem LenW.grown {W V : World} {s : Ls} {f : Nm → Int} {B KB M SB PB : Nat} {len : Int → Int} {g : Int → Option Int} (h : LenW W s f B KB M SB PB len) (hg : W.grownBy V (some M)) (hf : FarM V M g) (hk : ∀ x v, g x = some v → v = len x) : LenW V s f B KB M SB PB len := by
 obtain ⟨w0, a1, a2, a3⟩ := h.sc; exact ⟨⟨w0, a1, a2.grown hg a2.size (fun k hk => by cases hk; exact a3), a3⟩, BQ h.kb h.isMap hg, BQ h.sb h.isMap hg, BQ h.pb h.isMap hg, ⟨g, hf, hk⟩⟩
theorem LenW.set {W : World} {s : Ls} {f : Nm → Int} {B KB M SB PB : Nat} {len : Int → Int} (h : LenW W s f B KB M SB PB len) (j v : Int) (hv : len j = v) :
  ∃ W', (Instr.mapUpdate 140 (.map (some M)) (int i64 j) (int i64 v)).run Try.prog W = .ok () W' ∧ LenW W' s f B KB M SB PB len ∧ W.grownBy W' (some M) := by
 obtain ⟨g, h1, h2⟩ := h.known; obtain ⟨W', r1, r2, r3⟩ := h1.set j v; refine ⟨W', r1, h.grown r3 r2 (fun x y hxy => ?_), r3⟩; unfold EX at hxy
 split at hxy
 ·rename_i e; subst e; cases hxy; exact hv.symm
 ·exact h2 x y hxy
theorem Ji (s : Ls) (f : Nm → Int) (B KB M SB PB : Nat) (len : Int → Int) (j : Nat) (p : Ph) (hp : s.phrases[j]? = some p) (_hj : j ≤ 1000) (_hpl : s.phrases.length ≤ 1000) (hx : p.its.strip.exB = true) (hu : ∀ u ∈ p.its.strip.uses f, 0 ≤ len u ∧ len u ≤ 4097) (hP : Mf s f B KB M SB PB len (p.its.strip.uses f)) (hlen : len j = p.its.strip.sumF f len 0)
  (W : World) (hL : LenW W s f B KB M SB PB len) : Calls Try.prog 90 #[int i64 j, .pointer (some ⟨KB, 0, none⟩), .pointer (some ⟨SB, 0, none⟩), .pointer (some ⟨B, 0, none⟩)] W (Gq s f B KB M SB PB len (len j) W) := by
 obtain ⟨g, hF, hgl⟩ := hL.known; have hlk := hF.lookup j; have y1 := Aa hL.kb 0 rfl
 cases hgj : g j with
 | some v =>
  have hv := hgl _ _ hgj; rw [hgj] at hlk; have HV := qh hv; have HL := qh hL; clear hp hx hu hP hlen hL hF hgl hgj hv; go_enter Try.func90, Try.ntmps90; go_wp2_with fail; go_ret; exact ⟨by rw [← HV.out]; rfl, HL.out, World.grownBy.refl _ _⟩
 | none =>
  rw [hgj] at hlk; have ys := Aa hL.sb 0 rfl; have yb : W.cell? ⟨B, 10, none⟩ = some (.slice s.fa s.phrases.length s.fc) := Aa hL.score.box 10 rfl; obtain ⟨c0, c1⟩ := CO hL.score.at_.phrases hp; obtain ⟨i1, i2, i3⟩ := CQ hL.score.at_.phrases hp; have hnum : NumAt f W (p.its.refsL (blk p.ia) (off p.ia)) := fun x hx => hL.score.nums x (CR hp hx)
  have hfa := hL.score.at_.pform.resolve_left (fun e => by rw [e] at hp; cases hp); have hjl : j < s.phrases.length := (ql.1 hp).1; unfold Ph.val at c1; have C := Np s f B KB M SB PB len _ p.its (qn _) p.ia p.ic W.drew hx hu hP i1 i2 (i3.below (BO W _)) (hnum.below (BO W _)) (hL.below (BO W _)); rw [← hlen] at C; have HC := qh C; have HL := qh hL; have HGW : Hid (W.grownBy W.drew (some M)) := qh (Cc (BO W _)); obtain ⟨lj, hlj⟩ : ∃ lj, len j = lj := ⟨_, rfl⟩; rw [hlj] at HC; have HLJ := qh hlj; have hji : (j : Int) < (s.phrases.length : Int) := by omega
  have HKB : Hid (∀ V, W.drew.grownBy V (some M) → V.cell? ⟨KB, 0, none⟩ = some (.map (some M))) := qh (fun V hg => Aa (BQ (w := W.drew) hL.kb hL.isMap hg) 0 rfl); clear hp hx hu hP hL hF hgl hgj C i1 i2 i3 hnum hjl hlen c0; generalize s.phrases.length = n at *; generalize hga : s.fa = fa at *; have HGA := qh hga; clear hga; generalize hbb : blk fa = fb at *; generalize hoo : off fa = fo at *; subst hfa; clear hbb hoo; have hmu := fun V (hV : LenW V s f B KB M SB PB len) => hV.set j lj hlj
  have HMU := qh hmu; clear hmu hlj; go_enter Try.func90, Try.ntmps90; go_wp2_with fail; refine BH (fun w2 => w2 = W.drew) 7 (by kernel_rfl) (by kernel_rfl) rfl ?_; intro w2 hS; subst hS; simp only [List.take_succ_cons, List.take_zero, List.drop_succ_cons, List.drop_zero]
  repeat still_step
  refine wpStill_nil ?_
  go_wp2_with (go_at_call 89; refine HC.out.mono ?_; rintro e V ⟨rfl, hv1, hv2⟩; have HV1 := qh hv1; have HV2 := qh hv2; have yk := HKB.out V hv2; clear hv1 hv2; obtain ⟨V', hmu, hv3, hv4⟩ := HMU.out V HV1.out; have HV3 := qh hv3; have HV4 := qh hv4; clear hv3 hv4); go_ret; exact ⟨by rw [HLJ.out]; rfl, HV3.out, B8 HGW.out (B8 HV2.out HV4.out)⟩
structure LenOk (ps : List Ph) (f : Nm → Int) (rk : Nat → Nat) (len : Int → Int) : Prop where
 ex : ∀ (j : Nat) (p : Ph), ps[j]? = some p → p.its.strip.exB = true
 fix : ∀ (j : Nat) (p : Ph), ps[j]? = some p → len j = p.its.strip.sumF f len 0
 bound : ∀ j : Nat, j < ps.length → 0 ≤ len j ∧ len j ≤ 4097
 down : ∀ (j : Nat) (p : Ph), ps[j]? = some p → ∀ u ∈ p.its.strip.uses f, ∃ i : Nat, u = i ∧ i < ps.length ∧ rk i < rk j
theorem Jh (s : Ls) (f : Nm → Int) (B KB M SB PB : Nat) (rk : Nat → Nat) (len : Int → Int) (h : LenOk s.phrases f rk len) (hpl : s.phrases.length ≤ 1000) : ∀ (z j : Nat), rk j ≤ z → j < s.phrases.length → ∀ W, LenW W s f B KB M SB PB len → Calls Try.prog 90 #[int i64 j, .pointer (some ⟨KB, 0, none⟩), .pointer (some ⟨SB, 0, none⟩), .pointer (some ⟨B, 0, none⟩)] W (Gq s f B KB M SB PB len (len j) W) := by
 intro z
 induction z with
 | zero =>
  intro j hz hj W hL; obtain ⟨p, hp⟩ : ∃ p, s.phrases[j]? = some p := ⟨_, qg hj⟩; exact Ji s f B KB M SB PB len j p hp (by omega) hpl (h.ex j p hp) (fun u hu => by obtain ⟨i, rfl, hi, _⟩ := h.down j p hp u hu; exact h.bound i hi) (fun u hu => by obtain ⟨i, _, _, hr⟩ := h.down j p hp u hu; omega) (h.fix j p hp) W hL
 | succ z ih =>
  intro j hz hj W hL; obtain ⟨p, hp⟩ : ∃ p, s.phrases[j]? = some p := ⟨_, qg hj⟩; exact Ji s f B KB M SB PB len j p hp (by omega) hpl (h.ex j p hp) (fun u hu => by obtain ⟨i, rfl, hi, _⟩ := h.down j p hp u hu; exact h.bound i hi) (fun u hu V hV => by obtain ⟨i, rfl, hi, hr⟩ := h.down j p hp u hu; exact ih i (by omega) hi V hV) (h.fix j p hp) W hL
theorem EQ (W : World) (b : Nat) (fn : Fn) (f c : Array Value) (x : Value) (hx : W.cell? ⟨b, 0, none⟩ = some x) (hf : W.frozen? ⟨b, 0, none⟩ = false) : (store ⟨b, 0, none⟩ (.func fn f c)).run Try.prog W = .ok () (W.setCell ⟨b, 0, none⟩ (.func fn f c)) := by
 rw [run_store _ W _ _ _ rfl]; simp [hx, hf]
def Q7 (s : Ls) (f : Nm → Int) (len : Int → Int) (w : World) (e : Ending) (w' : World) : Prop := ∃ B KB M SB PB, e = .returned (.func (.func 90) #[] #[.pointer (some ⟨KB, 0, none⟩), .pointer (some ⟨SB, 0, none⟩), .pointer (some ⟨B, 0, none⟩)]) ∧ LenW w' s f B KB M SB PB len ∧ w.heap.size ≤ M ∧ Below w.heap.size w w'
theorem EH (s : Ls) (f : Nm → Int) (len : Int → Int) (w : World) (hA : s.At w) (hU : NumAt f w (Ay s.phrases)) : Calls Try.prog 67 #[s.val] w (Q7 s f len w) := by
 obtain ⟨W0, hW0, gB, b0, s0⟩ := Ai w s.cells 30; have hS : RgS s f w.heap.size W0 := ⟨hA.below b0, gB, hU.below b0⟩; have hmm := @run_makeMap Try.prog; obtain ⟨W1, hW1⟩ : ∃ W1, W0.alloc (.map #[] 0) = W1 := ⟨_, rfl⟩; obtain ⟨W2, hW2, gK, b2, s2⟩ := Ai W1 #[.map (some W0.heap.size)] 140; obtain ⟨W3, hW3, gP, b3, s3⟩ := Ai W2 #[.nilFunc] 120; obtain ⟨W4, hW4, gS, b4, s4⟩ := Ai W3 #[.nilFunc] 143; have b1 : Below W0.heap.size W0 W1 := by rw [← hW1]; exact (Below.refl _ _).alloc (qn _) _
 have s1 : W1.heap.size = W0.heap.size + 1 := by rw [← hW1]; simp
 obtain ⟨W5, hW5⟩ : ∃ W5, W4.setCell ⟨W3.heap.size, 0, none⟩ (.func (.func 89) #[] #[.pointer (some ⟨W3.heap.size, 0, none⟩), .pointer (some ⟨W2.heap.size, 0, none⟩)]) = W5 := ⟨_, rfl⟩; obtain ⟨W6, hW6⟩ : ∃ W6, W5.setCell ⟨W2.heap.size, 0, none⟩ (.func (.func 90) #[] #[.pointer (some ⟨W1.heap.size, 0, none⟩), .pointer (some ⟨W3.heap.size, 0, none⟩), .pointer (some ⟨w.heap.size, 0, none⟩)]) = W6 := ⟨_, rfl⟩; have gP4 := Am b4 gP; have gP5 : W5.heap[W2.heap.size]? = some (.cells #[.nilFunc] 120 (0, 0)) := by rw [← hW5, Aj _ (by omega)]; exact gP4
 have gS5 : W5.heap[W3.heap.size]? = some (.cells #[(.func (.func 89) #[] #[.pointer (some ⟨W3.heap.size, 0, none⟩), .pointer (some ⟨W2.heap.size, 0, none⟩)])] 143 (0, 0)) := by rw [← hW5, Br _ gS]; rfl
 have gP6 : W6.heap[W2.heap.size]? = some (.cells #[(.func (.func 90) #[] #[.pointer (some ⟨W1.heap.size, 0, none⟩), .pointer (some ⟨W3.heap.size, 0, none⟩), .pointer (some ⟨w.heap.size, 0, none⟩)])] 120 (0, 0)) := by rw [← hW6, Br _ gP5]; rfl
 have gS6 : W6.heap[W3.heap.size]? = some (.cells #[(.func (.func 89) #[] #[.pointer (some ⟨W3.heap.size, 0, none⟩), .pointer (some ⟨W2.heap.size, 0, none⟩)])] 143 (0, 0)) := by rw [← hW6, Aj _ (by omega)]; exact gS5
 have gK4 := Am b4 (Am b3 gK); have gK6 : W6.heap[W1.heap.size]? = some (.cells #[.map (some W0.heap.size)] 140 (0, 0)) := by rw [← hW6, Aj _ (by omega), ← hW5, Aj _ (by omega)]; exact gK4
 have hM1 : FarM W1 W0.heap.size (fun _ => none) := by rw [← hW1]; exact FarM.new W0
 have b14 := Ag b2 (Ag b3 b4); have hM4 := hM1.of_block (b14.block W0.heap.size hM1.lt); have hM6 : FarM W6 W0.heap.size (fun _ => none) := hM4.of_block (by rw [← hW6, Aj _ (by omega), ← hW5, Aj _ (by omega)]); have b04 := Ag b1 b14
 have b06 : Below W0.heap.size W0 W6 := by
  rw [← hW6, ← hW5]; exact (b04.setCell (p := ⟨W3.heap.size, 0, none⟩) (by show W0.heap.size ≤ W3.heap.size; omega) _).setCell (p := ⟨W2.heap.size, 0, none⟩) (by show W0.heap.size ≤ W2.heap.size; omega) _
 have hLW : LenW W6 s f w.heap.size W1.heap.size W0.heap.size W3.heap.size W2.heap.size len :=
  ⟨⟨W0, hS, b06, qn _⟩, gK6, gS6, gP6, ⟨_, hM6, fun x v h => by cases h⟩⟩
 have x4 : W4.cell? ⟨W3.heap.size, 0, none⟩ = some .nilFunc := Aa gS 0 rfl; have f4 : W4.frozen? ⟨W3.heap.size, 0, none⟩ = false := (show FreeB W4 W3.heap.size from ⟨_, _, gS⟩).free 0; have x5 : W5.cell? ⟨W2.heap.size, 0, none⟩ = some .nilFunc := Aa gP5 0 rfl; have f5 : W5.frozen? ⟨W2.heap.size, 0, none⟩ = false := (show FreeB W5 W2.heap.size from ⟨_, _, gP5⟩).free 0; have st5 := EQ W4 W3.heap.size (.func 89) #[] #[.pointer (some ⟨W3.heap.size, 0, none⟩), .pointer (some ⟨W2.heap.size, 0, none⟩)] _ x4 f4; have st6 := EQ W5 W2.heap.size (.func 90) #[] #[.pointer (some ⟨W1.heap.size, 0, none⟩), .pointer (some ⟨W3.heap.size, 0, none⟩), .pointer (some ⟨w.heap.size, 0, none⟩)] _ x5 f5; rw [hW5] at st5; rw [hW6] at st6; have x6 : W6.cell? ⟨W2.heap.size, 0, none⟩ = some (.func (.func 90) #[] #[.pointer (some ⟨W1.heap.size, 0, none⟩), .pointer (some ⟨W3.heap.size, 0, none⟩), .pointer (some ⟨w.heap.size, 0, none⟩)]) := Aa gP6 0 rfl; have hv : s.val = .agg s.cells := rfl; rw [hv]; have HL := qh hLW; have HB := qh (Ag b0 b06); have HLO : Hid (w.heap.size ≤ W0.heap.size) := qh (by omega); unfold Ls.cells at hW0 ⊢; clear hLW hM6 hM4 hM1 b14 b04 b06 gK6 gK4 gS6 gP6 gS5 gP5 gP4 s0 s1 s2 s3 s4 b0 b1 b2 b3 b4 hS gB gK gP gS hA hU hv; go_enter Try.func67, Try.ntmps67; go_wp2_with fail; go_ret; exact ⟨_, _, _, _, _, rfl, HL.out, HLO.out, HB.out⟩
end
end Go.Proofs.Ytpnbpepkoekkoaa
