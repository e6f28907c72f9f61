/- Contracts and plain laws on the way to the statement: part 31. -/
import Derived.Test.YtpnbpepkoekkoaaZ1
import Derived.Test.YtpnbpepkoekkoaaZ28
import Derived.StillTailTactics
import Derived.Laws.Rows
import Derived.Test.YtpnbpepkoekkoaaZ3
set_option linter.unusedVariables false
set_option linter.unusedSimpArgs false
set_option maxRecDepth 100000
set_option maxHeartbeats 16000000
namespace Go.Proofs.Ytpnbpepkoekkoaa
open Go.Value (int)
open Go.IntKind (i64)
section
open Go Go.RowKit Go.Deep
theorem NE {P : Program} (S : World → Prop) {id : Nat} {Q : Exit → Act → World → Prop} {a : Act} {w : World} {l : List Oper} (n : Nat) (hm : P.follows .mixedOrders = true) (hB : Region.lexTailB .any l.toArray n = true) (hS : S w.drew)
  (h : ∀ w2, S w2 → wpStill P l.toArray w2 (fun a' => wpList P l.toArray Q (l.drop n) a' w2) (l.take n) a) : (Code.region id l.toArray true).wp P Q a w :=
 wp_region_still_tail n hm hB (h _ hS)
structure TurnR (rs row : List Rol) (i : Nat) : Prop where
 len : row.length = rs.length
 get : ∀ j, j < rs.length → row[j]? = if rs.length ≤ j + i then rs[rs.length - 1 - j]? else rs[j]?
theorem TurnR.zero (rs : List Rol) : TurnR rs rs 0 := ⟨rfl, fun j hj => by rw [if_neg (by omega)]⟩
theorem TurnR.next {rs row : List Rol} {i k : Nat} {p : Rol} (h : TurnR rs row i) (hp : rs[i]? = some p) (hk : rs.length = k + 1 + i) : TurnR rs (row.set k p) (i + 1) := by
 refine ⟨by rw [List.length_set]; exact h.len, fun j hj => ?_⟩; rw [List.getElem?_set]; by_cases e : k = j
 ·subst e
  rw [if_pos rfl, if_pos (by rw [h.len]; exact hj), if_pos (by omega), show rs.length - 1 - k = i by omega, hp]
 ·rw [if_neg e, h.get j hj]
  by_cases h1 : rs.length ≤ j + i
  ·rw [if_pos h1, if_pos (by omega)]
  ·rw [if_neg h1, if_neg (by omega)]
theorem TurnR.done {rs row : List Rol} (h : TurnR rs row rs.length) : row = rs.reverse := by
 refine List.ext_getElem? fun j => ?_
 by_cases hj : j < rs.length
 ·rw [h.get j hj, if_pos (by omega), List.getElem?_reverse hj]
 ·rw [List.getElem?_eq_none (by rw [h.len]; omega), List.getElem?_eq_none (by rw [List.length_reverse]; omega)]
end
section
open Go Go.RowKit Go.Deep
def Dg (f : RefL → Int → Int) : List RefL → List Int → List Int
 | r :: rs, k :: ks => f r k :: Dg f rs ks
 | _, _ => []
theorem Ct {f : RefL → Int → Int} : ∀ {a b : List RefL} {ks ls : List Int}, ks.length = a.length → Dg f (a ++ b) (ks ++ ls) = Dg f a ks ++ Dg f b ls
 | [], _, [], _, _ => rfl
 | _ :: a, b, _ :: ks, ls, h => by
  simp only [List.cons_append, Dg]; rw [Ct (by simpa using h)]
theorem E3 {f : RefL → Int → Int} : ∀ {a : List RefL} {ks : List Int}, ks.length = a.length → (Dg f a ks).length = a.length
 | [], [], _ => rfl
 | _ :: a, _ :: ks, h => by simp only [Dg, List.length_cons]; rw [E3 (by simpa using h)]
theorem Gs {f : RefL → Int → Int} : ∀ {a : List RefL} {ks : List Int}, ks.length = a.length → (∀ r ∈ a, ∀ k, f r k = k) → Dg f a ks = ks
 | [], [], _, _ => rfl
 | r :: a, k :: ks, h, hf => by simp only [Dg]; rw [hf r (by simp), Gs (by simpa using h) fun r hr => hf r (by simp [hr])]
theorem NsAt.cut {w : World} {xs ys : List RefL} {ks ls : List Int} (h : NsAt w (xs ++ ys) (ks ++ ls)) (hl : ks.length = xs.length) : NsAt w xs ks ∧ NsAt w ys ls := by
 obtain ⟨a, b, e, h1, h2⟩ := h.split; obtain ⟨rfl, rfl⟩ := List.append_inj e (by rw [hl, h1.len]); exact ⟨h1, h2⟩
structure ChgW (f : RefL → Int → Int) (Wb : World) (Z B0 : Nat) (z : Ls) (ks : List Int) (v : Value) (i : Nat) (W : World) : Prop where
 below : Below Wb.heap.size Wb W
 ph : AZ W (blk z.fa) (off z.fa) z.phrases
 da : B5 W (blk z.da) (off z.da) z.dances
 box : W.heap[Z]? = some (.cells z.cells 30 (0, 0))
 free : ∀ r ∈ z.refs, FreeB W r.b
 row : W.ownsRow B0 48 2 v (DG z.refs).length ((DG z.refs).flatMap Ld)
 ns : ∃ pre rest kp kr, z.refs = pre ++ rest ∧ DG rest = (DG z.refs).drop i ∧ ks = kp ++ kr ∧ kp.length = pre.length ∧ NsAt W z.refs (Dg f pre kp ++ kr)
structure ChgB (f : RefL → Int → Int) (Wb : World) (Z B0 : Nat) (z : Ls) : Prop where
 sep : z.Sep
 ge : ∀ r ∈ z.refs, Wb.heap.size ≤ r.b ∧ r.b ≠ Z ∧ r.b < B0
 id : ∀ r k, r.to = 0 → f r k = k
variable {f : RefL → Int → Int} {Wb : World} {Z B0 : Nat} {z : Ls} {ks : List Int} {v : Value} {i : Nat} {W : World}
theorem ChgW.alloc (h : ChgW f Wb Z B0 z ks v i W) {W' : World} (hb : Below W.heap.size W W') : ChgW f Wb Z B0 z ks v i W' := by
 obtain ⟨pre, rest, kp, kr, h1, h2, h3, h4, h5⟩ := h.ns; exact ⟨h.below.trans (hb.mono h.below.size), Bi hb h.ph, Ca hb h.da, Am hb h.box, fun r hr => (h.free r hr).below hb, JU h.row hb, pre, rest, kp, kr, h1, h2, h3, h4, h5.below hb⟩
theorem ChgW.at_ (hB : ChgB f Wb Z B0 z) (h : ChgW f Wb Z B0 z ks v i W) {r : RefL} (hr : (DG z.refs)[i]? = some r) :
  r.to ≠ 0 ∧ ∃ pre rest kp k kr, z.refs = pre ++ r :: rest ∧ DG rest = (DG z.refs).drop (i + 1) ∧ ks = kp ++ k :: kr ∧ kp.length = pre.length ∧ NsAt W z.refs (Dg f pre kp ++ k :: kr) := by
 obtain ⟨pre, rest, kp, kr, h1, h2, h3, h4, h5⟩ := h.ns; rw [F2 hr] at h2; unfold DG at h2; obtain ⟨zs, rest', rfl, hz, hp, hd⟩ := List.filter_eq_cons_iff.1 h2; rw [h1] at h5; obtain ⟨_, h7⟩ := h5.cut (E3 h4); obtain ⟨kz, kr', rfl, h8, h9⟩ := h7.split
 cases kr' with
 | nil => exact h9.elim
 | cons k kr' =>
 have hzl := h8.len; refine ⟨by simpa using hp, pre ++ zs, rest', kp ++ kz, k, kr', by rw [h1]; simp, ?_, by rw [h3]; simp, by simp [h4, hzl], ?_⟩
 ·unfold DG; rw [hd]
 ·rw [Ct h4, Gs (f := f) hzl fun r hr k => hB.id r k (by simpa using hz r hr), h1, List.append_assoc]
  exact h5
theorem ChgW.cell (hB : ChgB f Wb Z B0 z) (h : ChgW f Wb Z B0 z ks v i W) {r : RefL} (hr : (DG z.refs)[i]? = some r) :
  ∃ pre rest kp k kr, z.refs = pre ++ r :: rest ∧ ks = kp ++ k :: kr ∧ kp.length = pre.length ∧ W.cell? ⟨r.b, r.o + 1, none⟩ = some (int i64 k) ∧
   (f r k = k → ChgW f Wb Z B0 z ks v (i + 1) W) ∧ ChgW f Wb Z B0 z ks v (i + 1) (W.setCell ⟨r.b, r.o + 1, none⟩ (int i64 (f r k))) := by
 obtain ⟨_, pre, rest, kp, k, kr, h1, h2, h3, h4, h5⟩ := h.at_ hB hr; have h6 := h5; rw [h1] at h6; obtain ⟨h7, h8⟩ := h6.cut (E3 h4); have hm : r ∈ z.refs := by rw [h1]; simp
 obtain ⟨g1, g2, g3⟩ := hB.ge r hm; have hk1 : (kp ++ [k]).length = (pre ++ [r]).length := by simp [h4]
 have hc : ∀ x : Int, x = f r k → Dg f (pre ++ [r]) (kp ++ [k]) ++ kr = Dg f pre kp ++ x :: kr := fun x hx => by
  rw [Ct h4, hx]; simp [Dg]
 refine ⟨pre, rest, kp, k, kr, h1, h3, h4, h8.1, fun hid => ⟨h.below, h.ph, h.da, h.box, h.free, h.row, pre ++ [r], rest, kp ++ [k], kr, by rw [h1]; simp, h2, by rw [h3]; simp, hk1, by rw [hc k hid.symm]; exact h5⟩, ?_⟩; obtain ⟨s1, s2⟩ := hB.sep.set (v := int i64 (f r k)) hm h.ph h.da; refine ⟨h.below.setCell (p := ⟨r.b, r.o + 1, none⟩) g1 _, s1, s2, (Below.heap_setCell _ _ _ _ (fun e => g2 e.symm)).trans h.box, fun x hx => (h.free x hx).set _ _, Hr h.row (fun g hg => Below.heap_setCell _ _ _ _ (fun e => ?_)), pre ++ [r], rest, kp ++ [k], kr, by rw [h1]; simp, h2, by rw [h3]; simp, hk1, ?_⟩
 ·have := (IE h.row hg).1
  have e2 : g = r.b := e; omega
 ·rw [hc _ rfl, h1]
  have hap : Bz (pre ++ r :: rest) := by rw [← h1]; exact hB.sep.apart
  obtain ⟨n1, n2⟩ := NsAt.set (n := f r k) hap h7 h8; exact n1.append n2
end
section
open Go Go.RowKit Go.Deep
theorem ChgW.done {f : RefL → Int → Int} {Wb : World} {Z B0 : Nat} {z : Ls} {ks : List Int} {v : Value} {W : World} (hB : ChgB f Wb Z B0 z) (h : ChgW f Wb Z B0 z ks v (DG z.refs).length W) : NsAt W z.refs (Dg f z.refs ks) := by
 obtain ⟨pre, rest, kp, kr, h1, h2, h3, h4, h5⟩ := h.ns; rw [List.drop_of_length_le (qn _)] at h2
 have hz : ∀ r ∈ rest, r.to = 0 := fun r hr => by
  have := (List.filter_eq_nil_iff.1 h2) r hr; simpa using this
 have h6 := h5; rw [h1] at h6; obtain ⟨_, h7⟩ := h6.cut (E3 h4)
 have e : Dg f z.refs ks = Dg f pre kp ++ kr := by
  rw [h3, h1, Ct h4, Gs (f := f) h7.len fun r hr k => hB.id r k (hz r hr)]
 rw [e]; exact h5
theorem ChgW.first {f : RefL → Int → Int} {Wb : World} {Z B0 : Nat} {z : Ls} {ks : List Int} {v : Value} {W : World} (hb : Below Wb.heap.size Wb W) (hA : z.At W) (hZ : W.heap[Z]? = some (.cells z.cells 30 (0, 0))) (hF : ∀ r ∈ z.refs, FreeB W r.b) (hr : W.ownsRow B0 48 2 v (DG z.refs).length ((DG z.refs).flatMap Ld)) (hN : NsAt W z.refs ks) : ChgW f Wb Z B0 z ks v 0 W :=
 ⟨hb, hA.phrases, hA.dances, hZ, hF, hr, [], z.refs, [], ks, rfl, rfl, rfl, rfl, hN⟩
end
section
open Go Go.RowKit Go.Deep
def KeepR (z : Ls) (W0 W : World) : Prop := W0.heap.size ≤ W.heap.size ∧ ∀ b, b < W0.heap.size → (∀ r ∈ z.refs, r.b ≠ b) → W.heap[b]? = W0.heap[b]?
theorem KeepR.below {z : Ls} {W0 W W' : World} (h : KeepR z W0 W) (hb : Below W.heap.size W W') : KeepR z W0 W' := ⟨Nat.le_trans h.1 hb.size, fun b hl hr => (hb.block b (Nat.lt_of_lt_of_le hl h.1)).trans (h.2 b hl hr)⟩
theorem KeepR.set {z : Ls} {W0 W : World} (h : KeepR z W0 W) {r : RefL} (hr : r ∈ z.refs) (q : Nat) (v : Value) : KeepR z W0 (W.setCell ⟨r.b, q, none⟩ v) := ⟨by simpa [World.setCell] using h.1, fun b hl hb => (Below.heap_setCell _ _ _ _ (fun e => hb r hr e.symm)).trans (h.2 b hl hb)⟩
end
section
open Go Go.RowKit Go.Deep
end
section
open Go Go.RowKit Go.Deep
theorem Lt.refsL_size : ∀ (T : Lt) (b o : Nat), (T.refsL b o).length = T.size + T.movs
 | .nil, _, _ => rfl
 | .cons k n un ia ic its ma mc ms r, b, o => by
  simp only [Lt.refsL, List.length_cons, List.length_append, EJ, Lt.size, Lt.movs]; rw [its.refsL_size, r.refsL_size]; omega
theorem Ec : ∀ (ps : List Ph), (∀ p ∈ ps, p.its.size ≤ 300 ∧ p.its.movs ≤ 300) → (Ay ps).length ≤ ps.length * 600
 | [], _ => by simp [Ay]
 | p :: r, h => by
  have h1 := h p (by simp); have h2 := Ec r fun q hq => h q (by simp [hq])
  simp only [Ay, List.length_append, Ph.refsL, List.length_cons]; rw [Lt.refsL_size]; omega
theorem EF (b : Nat) : ∀ (o : Nat) (ds : List Dan), (Ak b o ds).length = ds.length * 2
 | _, [] => rfl
 | o, d :: r => by simp only [Ak, List.length_cons]; rw [EF b (o + 6) r]; omega
theorem Ls.small.refs {s : Ls} (h : s.small) : s.refs.length ≤ 200000 := by
 have h1 := Ec s.phrases h.items; have h2 := EF (blk s.da) (off s.da) s.dances; have h3 := h.phrases; have h4 := h.dances; unfold Ls.refs; rw [List.length_append]; omega
theorem JS (k : Int) : Cw k ≤ 2 := by unfold Cw; split <;> omega
theorem Iz (k : Int) : Bh k ≤ 2 := by unfold Bh; split <;> omega
theorem Its.refs_to : ∀ (t : Its), ∀ r ∈ t.refs, r.1 ≤ 2
 | .nil, _, h => by cases h
 | .cons k n un its ms rest, r, h => by
  simp only [Its.refs, List.mem_cons, List.mem_append, List.mem_map] at h; rcases h with rfl | ⟨m, _, rfl⟩ | h | h
  ·exact Iz k
  ·exact JS m.kind
  ·exact its.refs_to r h
  ·exact rest.refs_to r h
theorem Sc.refs_to (s : Sc) : ∀ r ∈ s.refs, r.1 ≤ 2 := by
 intro r h; unfold Sc.refs at h; rcases List.mem_append.1 h with h | h
 ·obtain ⟨p, _, h⟩ := List.mem_flatMap.1 h
  exact p.items.refs_to r h
 ·obtain ⟨d, _, h⟩ := List.mem_flatMap.1 h
  simp only [List.mem_cons, List.mem_nil_iff, or_false] at h; rcases h with rfl | rfl <;> simp
end
section
open Go Go.RowKit Go.Deep
theorem CpW.rows {s : Ls} {ns : List Int} {w : World} {x : Ls} {W : World} (h : CpW s ns w x W) (hs : s.At w) : IsRow CD 3 w (.slice x.ta x.tempos.length x.tc) x.tempos ∧ IsRow Dk 4 w (.slice x.ua x.pauses.length x.uc) x.pauses ∧ IsRow Dj 4 w (.slice x.sa x.spans.length x.sc) x.spans := by
 have e := h.tup; unfold Ls.tup at e; simp only [Prod.mk.injEq, List.cons.injEq, and_true] at e; obtain ⟨⟨e1, e2, e3⟩, ⟨e4, e5, e6⟩, e7, e8, e9⟩ := e; rw [e1, e2, e3, e4, e5, e6, e7, e8, e9]; exact ⟨hs.tempos, hs.pauses, hs.spans⟩
end
section
open Go Go.RowKit Go.Deep
theorem CpW.refs_ra {s : Ls} {ns : List Int} {w0 : World} {x : Ls} {V : World} (h : CpW s ns w0 x V) : ∀ r ∈ x.refs, r.b ≠ blk x.ra := fun r hr e => by
 rcases List.mem_append.1 hr with h1 | h1
 ·exact h.own.ra (by rw [← e]; exact Bj h1)
 ·exact h.own.rd (by rw [← (AP h1).1]; exact e.symm)
end
section
open Go Go.RowKit Go.Deep
def Ls.Blk (x : Ls) (b : Nat) : Prop := b = blk x.ra ∨ b = blk x.fa ∨ b ∈ AR x.phrases ∨ ∃ r ∈ x.refs, r.b = b
theorem CpW.blk_in {s : Ls} {ns : List Int} {w0 : World} {x : Ls} {V : World} (h : CpW s ns w0 x V) : ∀ b, x.Blk b → w0.heap.size ≤ b ∧ b < V.heap.size := by
 obtain ⟨⟨a1, a2⟩, ⟨a3, a4⟩⟩ := h.own.lt; rintro b (rfl | rfl | hb | ⟨r, hr, rfl⟩)
 ·exact ⟨a1, a2⟩
 ·exact ⟨a3, a4⟩
 ·exact ⟨h.pown b hb, Dq h.at_.phrases b hb⟩
 ·exact ⟨(h.refs r hr).1, (h.refs r hr).2.lt⟩
end
section
open Go Go.RowKit Go.Deep
theorem M6 {s x : Ls} {w : World} (e : x.tup = s.tup) (hs : s.At w) : IsRow CD 3 w (.slice x.ta x.tempos.length x.tc) x.tempos ∧ IsRow Dk 4 w (.slice x.ua x.pauses.length x.uc) x.pauses ∧ IsRow Dj 4 w (.slice x.sa x.spans.length x.sc) x.spans := by
 unfold Ls.tup at e; simp only [Prod.mk.injEq, List.cons.injEq, and_true] at e; obtain ⟨⟨e1, e2, e3⟩, ⟨e4, e5, e6⟩, e7, e8, e9⟩ := e; rw [e1, e2, e3, e4, e5, e6, e7, e8, e9]; exact ⟨hs.tempos, hs.pauses, hs.spans⟩
structure OneB (w : World) (A lo hi : Nat) (x : Ls) : Prop where
 rows : IsRow CD 3 w (.slice x.ta x.tempos.length x.tc) x.tempos ∧ IsRow Dk 4 w (.slice x.ua x.pauses.length x.uc) x.pauses ∧ IsRow Dj 4 w (.slice x.sa x.spans.length x.sc) x.spans
 sep : x.Sep
 raf : x.ra = some ⟨blk x.ra, 0, none⟩
 ra : ∀ r ∈ x.refs, r.b ≠ blk x.ra
 blk_ : ∀ b, x.Blk b → lo ≤ b ∧ b < hi
 low : w.heap.size ≤ lo ∧ A < lo
end
section
open Go Go.RowKit Go.Deep
end
section
open Go Go.RowKit Go.Deep
theorem CpW.one {s : Ls} {ns : List Int} {w0 : World} {x : Ls} {V : World} (h : CpW s ns w0 x V) {w : World} (hs : s.At w) {A : Nat} (h1 : w.heap.size ≤ w0.heap.size) (h2 : A < w0.heap.size) : OneB w A w0.heap.size V.heap.size x := ⟨M6 h.tup hs, h.sep, h.own.raf, h.refs_ra, h.blk_in, h1, h2⟩
end
section
open Go Go.RowKit Go.Deep
end
section
open Go Go.RowKit Go.Deep
end
section
open Go Go.RowKit Go.Deep
theorem BP {P : Program} {ops : Array Oper} {rest : List Oper} {o : Oper} {a : Act} {w : World} {Q : Exit → Act → World → Prop} (hgd : Region.wanted o (yielded ops a.tmps) = true) (ty : TypeId) (x : Operand) (ho : o.op = .load ty x)
  (g : Nat) (hx : a.eval x = .pointer (some ⟨g, 0, none⟩)) (t : TypeId) (cs : Array Value) (fr : Nat × Nat) (d : TypeDesc) (hg : w.heap[g]? = some (.cells cs t fr))
  (hu : P.underlying ty = some d) (hd : (match d with | .struct _ | .array _ _ => true | _ => false) = true) (hi : (P.info? ty).map (·.size) = some cs.size)
  (h : wpList P ops Q rest (a.put o.dst (.agg cs)) w) : wpList P ops Q (o :: rest) a w :=
 wpList_step fun K hK => by rw [if_pos hgd]; exact wp_load_row ty x ho g hx t cs fr d hg hu hd hi (hK _ _ h)
structure Bx (x : Ls) (ks : List Int) (X : Nat) (W : World) : Prop where
 box : W.heap[X]? = some (.cells x.cells 30 (0, 0))
 at_ : x.At W
 ns : NsAt W x.refs ks
theorem Bx.next {x : Ls} {ks : List Int} {X : Nat} {W W' : World} (h : Bx x ks X W) (hb : Below W.heap.size W W') : Bx x ks X W' := ⟨Am hb h.box, h.at_.below hb, h.ns.below hb⟩
end
section
open Go Go.RowKit Go.Deep
theorem JI {α : Type} {enc : α → List Value} {k : Nat} (hk : ∀ x, (enc x).length = k) : ∀ (xs : List α) (i : Nat), (xs.take i).flatMap enc = (xs.flatMap enc).take (i * k)
 | [], i => by simp
 | x :: r, 0 => by simp
 | x :: r, i + 1 => by
  simp only [List.take_succ_cons, List.flatMap_cons, JI hk r i]; have h1 : (enc x).take ((i + 1) * k) = enc x := List.take_of_length_le (by rw [hk x, Nat.add_mul]; omega); rw [List.take_append, hk x, show (i + 1) * k - k = i * k by rw [Nat.add_mul]; omega, h1]
theorem JH {α : Type} {enc : α → List Value} {k : Nat} (hk : ∀ x, (enc x).length = k) : ∀ (xs : List α) (i : Nat), (xs.drop i).flatMap enc = (xs.flatMap enc).drop (i * k)
 | [], i => by simp
 | x :: r, 0 => by simp
 | x :: r, i + 1 => by
  simp only [List.drop_succ_cons, List.flatMap_cons, JH hk r i]; have h1 : (enc x).drop ((i + 1) * k) = [] := List.drop_of_length_le (by rw [hk x, Nat.add_mul]; omega); rw [List.drop_append, hk x, show (i + 1) * k - k = i * k by rw [Nat.add_mul]; omega, h1, List.nil_append]
def Qp : Code → Code | .seq _ b => b | c => c
def Qn : Code → Code | .cond _ a _ => a | c => c
end
end Go.Proofs.Ytpnbpepkoekkoaa
