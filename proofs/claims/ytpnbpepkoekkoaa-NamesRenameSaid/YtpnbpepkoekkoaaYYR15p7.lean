/- The walk of the statement: part 7. -/
import Derived.Test.YtpnbpepkoekkoaaYYR15p1
import Derived.Test.YtpnbpepkoekkoaaYYR15p6
import Derived.Test.YtpnbpepkoekkoaaYYR15p2
import Derived.StillTailTactics
import Derived.Laws.Rows
import Derived.BigQuiet
import Derived.BigCall
import Derived.BigGuard
set_option linter.unusedVariables false
set_option linter.unusedSimpArgs false
section
namespace Go.Proofs.Ytpnbpepkoekkoaa
open Go Go.RowKit Go.Deep
structure TurnR (rs row : List Rol) (i : Nat) : Prop where
 len : row.length = rs.length
 get : ∀ j, j < rs.length → row[j]? = if rs.length ≤ j + i then rs[rs.length - 1 - j]? else rs[j]?
theorem TurnR.zero (rs : List Rol) : TurnR rs rs 0 := ⟨rfl, fun j hj => by rw [if_neg (by omega)]⟩
theorem TurnR.next {rs row : List Rol} {i k : Nat} {p : Rol} (h : TurnR rs row i) (hp : rs[i]? = some p) (hk : rs.length = k + 1 + i) : TurnR rs (row.set k p) (i + 1) := by
 refine ⟨by rw [List.length_set]; exact h.len, fun j hj => ?_⟩
 rw [List.getElem?_set]
 by_cases e : k = j
 ·subst e
  rw [if_pos rfl, if_pos (by rw [h.len]; exact hj), if_pos (by omega), show rs.length - 1 - k = i by omega, hp]
 ·rw [if_neg e, h.get j hj]
  by_cases h1 : rs.length ≤ j + i
  ·rw [if_pos h1, if_pos (by omega)]
  ·rw [if_neg h1, if_neg (by omega)]
theorem TurnR.done {rs row : List Rol} (h : TurnR rs row rs.length) : row = rs.reverse := by
 refine List.ext_getElem? fun j => ?_
 by_cases hj : j < rs.length
 ·rw [h.get j hj, if_pos (by omega), List.getElem?_reverse hj]
 ·rw [List.getElem?_eq_none (by rw [h.len]; omega), List.getElem?_eq_none (by rw [List.length_reverse]; omega)]
end Go.Proofs.Ytpnbpepkoekkoaa
end
section
namespace Go.Proofs.Ytpnbpepkoekkoaa
open Go Go.RowKit Go.Deep
def chgN (f : RefL → Int → Int) : List RefL → List Int → List Int
 | r :: rs, k :: ks => f r k :: chgN f rs ks
 | _, _ => []
theorem chgN_append {f : RefL → Int → Int} : ∀ {a b : List RefL} {ks ls : List Int}, ks.length = a.length → chgN f (a ++ b) (ks ++ ls) = chgN f a ks ++ chgN f b ls
 | [], _, [], _, _ => rfl
 | _ :: a, b, _ :: ks, ls, h => by
  simp only [List.cons_append, chgN]
  rw [chgN_append (by simpa using h)]
theorem chgN_len {f : RefL → Int → Int} : ∀ {a : List RefL} {ks : List Int}, ks.length = a.length → (chgN f a ks).length = a.length
 | [], [], _ => rfl
 | _ :: a, _ :: ks, h => by simp only [chgN, List.length_cons]; rw [chgN_len (by simpa using h)]
theorem chgN_id {f : RefL → Int → Int} : ∀ {a : List RefL} {ks : List Int}, ks.length = a.length → (∀ r ∈ a, ∀ k, f r k = k) → chgN f a ks = ks
 | [], [], _, _ => rfl
 | r :: a, k :: ks, h, hf => by simp only [chgN]; rw [hf r (by simp), chgN_id (by simpa using h) fun r hr => hf r (by simp [hr])]
theorem NsAt.cut {w : World} {xs ys : List RefL} {ks ls : List Int} (h : NsAt w (xs ++ ys) (ks ++ ls)) (hl : ks.length = xs.length) : NsAt w xs ks ∧ NsAt w ys ls := by
 obtain ⟨a, b, e, h1, h2⟩ := h.split
 obtain ⟨rfl, rfl⟩ := List.append_inj e (by rw [hl, h1.len])
 exact ⟨h1, h2⟩
structure ChgW (f : RefL → Int → Int) (Wb : World) (Z B0 : Nat) (z : Ls) (ks : List Int) (v : Value) (i : Nat) (W : World) : Prop where
 below : Below Wb.heap.size Wb W
 ph : phAt W (blk z.fa) (off z.fa) z.phrases
 da : danAt W (blk z.da) (off z.da) z.dances
 box : W.heap[Z]? = some (.cells z.cells 30 (0, 0))
 free : ∀ r ∈ z.refs, FreeB W r.b
 row : W.ownsRow B0 48 2 v (ptrs z.refs).length ((ptrs z.refs).flatMap encQ)
 ns : ∃ pre rest kp kr, z.refs = pre ++ rest ∧ ptrs rest = (ptrs z.refs).drop i ∧ ks = kp ++ kr ∧ kp.length = pre.length ∧ NsAt W z.refs (chgN f pre kp ++ kr)
structure ChgB (f : RefL → Int → Int) (Wb : World) (Z B0 : Nat) (z : Ls) : Prop where
 sep : z.Sep
 ge : ∀ r ∈ z.refs, Wb.heap.size ≤ r.b ∧ r.b ≠ Z ∧ r.b < B0
 id : ∀ r k, r.to = 0 → f r k = k
variable {f : RefL → Int → Int} {Wb : World} {Z B0 : Nat} {z : Ls} {ks : List Int} {v : Value} {i : Nat} {W : World}
theorem ChgW.alloc (h : ChgW f Wb Z B0 z ks v i W) {W' : World} (hb : Below W.heap.size W W') : ChgW f Wb Z B0 z ks v i W' := by
 obtain ⟨pre, rest, kp, kr, h1, h2, h3, h4, h5⟩ := h.ns
 exact ⟨h.below.trans (hb.mono h.below.size), phAt_below hb h.ph, danAt_below hb h.da, keepO hb h.box, fun r hr => (h.free r hr).below hb, own_below h.row hb, pre, rest, kp, kr, h1, h2, h3, h4, h5.below hb⟩
theorem ChgW.at_ (hB : ChgB f Wb Z B0 z) (h : ChgW f Wb Z B0 z ks v i W) {r : RefL} (hr : (ptrs z.refs)[i]? = some r) :
  r.to ≠ 0 ∧ ∃ pre rest kp k kr, z.refs = pre ++ r :: rest ∧ ptrs rest = (ptrs z.refs).drop (i + 1) ∧ ks = kp ++ k :: kr ∧ kp.length = pre.length ∧ NsAt W z.refs (chgN f pre kp ++ k :: kr) := by
 obtain ⟨pre, rest, kp, kr, h1, h2, h3, h4, h5⟩ := h.ns
 rw [drop_at hr] at h2
 unfold ptrs at h2
 obtain ⟨zs, rest', rfl, hz, hp, hd⟩ := List.filter_eq_cons_iff.1 h2
 rw [h1] at h5
 obtain ⟨_, h7⟩ := h5.cut (chgN_len h4)
 obtain ⟨kz, kr', rfl, h8, h9⟩ := h7.split
 cases kr' with
 | nil => exact h9.elim
 | cons k kr' =>
 have hzl := h8.len
 refine ⟨by simpa using hp, pre ++ zs, rest', kp ++ kz, k, kr', by rw [h1]; simp, ?_, by rw [h3]; simp, by simp [h4, hzl], ?_⟩
 ·unfold ptrs; rw [hd]
 ·rw [chgN_append h4, chgN_id (f := f) hzl fun r hr k => hB.id r k (by simpa using hz r hr), h1, List.append_assoc]
  exact h5
theorem ChgW.cell (hB : ChgB f Wb Z B0 z) (h : ChgW f Wb Z B0 z ks v i W) {r : RefL} (hr : (ptrs z.refs)[i]? = some r) :
  ∃ pre rest kp k kr, z.refs = pre ++ r :: rest ∧ ks = kp ++ k :: kr ∧ kp.length = pre.length ∧ W.cell? ⟨r.b, r.o + 1, none⟩ = some (.int .i64 k) ∧
   (f r k = k → ChgW f Wb Z B0 z ks v (i + 1) W) ∧ ChgW f Wb Z B0 z ks v (i + 1) (W.setCell ⟨r.b, r.o + 1, none⟩ (.int .i64 (f r k))) := by
 obtain ⟨_, pre, rest, kp, k, kr, h1, h2, h3, h4, h5⟩ := h.at_ hB hr
 have h6 := h5
 rw [h1] at h6
 obtain ⟨h7, h8⟩ := h6.cut (chgN_len h4)
 have hm : r ∈ z.refs := by rw [h1]; simp
 obtain ⟨g1, g2, g3⟩ := hB.ge r hm
 have hk1 : (kp ++ [k]).length = (pre ++ [r]).length := by simp [h4]
 have hc : ∀ x : Int, x = f r k → chgN f (pre ++ [r]) (kp ++ [k]) ++ kr = chgN f pre kp ++ x :: kr := fun x hx => by
  rw [chgN_append h4, hx]; simp [chgN]
 refine ⟨pre, rest, kp, k, kr, h1, h3, h4, h8.1, fun hid => ⟨h.below, h.ph, h.da, h.box, h.free, h.row, pre ++ [r], rest, kp ++ [k], kr, by rw [h1]; simp, h2, by rw [h3]; simp, hk1, by rw [hc k hid.symm]; exact h5⟩, ?_⟩
 obtain ⟨s1, s2⟩ := hB.sep.set (v := .int .i64 (f r k)) hm h.ph h.da
 refine ⟨h.below.setCell (p := ⟨r.b, r.o + 1, none⟩) g1 _, s1, s2, (Below.heap_setCell _ _ _ _ (fun e => g2 e.symm)).trans h.box, fun x hx => (h.free x hx).set _ _, own_same h.row (fun g hg => Below.heap_setCell _ _ _ _ (fun e => ?_)), pre ++ [r], rest, kp ++ [k], kr, by rw [h1]; simp, h2, by rw [h3]; simp, hk1, ?_⟩
 ·have := (own_lt h.row hg).1
  have e2 : g = r.b := e
  omega
 ·rw [hc _ rfl, h1]
  have hap : PlacesApart (pre ++ r :: rest) := by rw [← h1]; exact hB.sep.apart
  obtain ⟨n1, n2⟩ := NsAt.set (n := f r k) hap h7 h8
  exact n1.append n2
end Go.Proofs.Ytpnbpepkoekkoaa
end
section
namespace Go.Proofs.Ytpnbpepkoekkoaa
open Go Go.RowKit Go.Deep
theorem ChgW.done {f : RefL → Int → Int} {Wb : World} {Z B0 : Nat} {z : Ls} {ks : List Int} {v : Value} {W : World} (hB : ChgB f Wb Z B0 z) (h : ChgW f Wb Z B0 z ks v (ptrs z.refs).length W) : NsAt W z.refs (chgN f z.refs ks) := by
 obtain ⟨pre, rest, kp, kr, h1, h2, h3, h4, h5⟩ := h.ns
 rw [List.drop_of_length_le (Nat.le_refl _)] at h2
 have hz : ∀ r ∈ rest, r.to = 0 := fun r hr => by
  have := (List.filter_eq_nil_iff.1 h2) r hr
  simpa using this
 have h6 := h5
 rw [h1] at h6
 obtain ⟨_, h7⟩ := h6.cut (chgN_len h4)
 have e : chgN f z.refs ks = chgN f pre kp ++ kr := by
  rw [h3, h1, chgN_append h4, chgN_id (f := f) h7.len fun r hr k => hB.id r k (hz r hr)]
 rw [e]; exact h5
theorem ChgW.first {f : RefL → Int → Int} {Wb : World} {Z B0 : Nat} {z : Ls} {ks : List Int} {v : Value} {W : World} (hb : Below Wb.heap.size Wb W) (hA : z.At W) (hZ : W.heap[Z]? = some (.cells z.cells 30 (0, 0))) (hF : ∀ r ∈ z.refs, FreeB W r.b) (hr : W.ownsRow B0 48 2 v (ptrs z.refs).length ((ptrs z.refs).flatMap encQ)) (hN : NsAt W z.refs ks) : ChgW f Wb Z B0 z ks v 0 W :=
 ⟨hb, hA.phrases, hA.dances, hZ, hF, hr, [], z.refs, [], ks, rfl, rfl, rfl, rfl, hN⟩
end Go.Proofs.Ytpnbpepkoekkoaa
end
section
namespace Go.Proofs.Ytpnbpepkoekkoaa
open Go Go.RowKit Go.Deep
theorem Lt.refsL_size : ∀ (T : Lt) (b o : Nat), (T.refsL b o).length = T.size + T.movs
 | .nil, _, _ => rfl
 | .cons k n un ia ic its ma mc ms r, b, o => by
  simp only [Lt.refsL, List.length_cons, List.length_append, movRefs_len, Lt.size, Lt.movs]
  rw [its.refsL_size, r.refsL_size]; omega
theorem phRefs_bound : ∀ (ps : List Ph), (∀ p ∈ ps, p.its.size ≤ 300 ∧ p.its.movs ≤ 300) → (phRefs ps).length ≤ ps.length * 600
 | [], _ => by simp [phRefs]
 | p :: r, h => by
  have h1 := h p (by simp)
  have h2 := phRefs_bound r fun q hq => h q (by simp [hq])
  simp only [phRefs, List.length_append, Ph.refsL, List.length_cons]
  rw [Lt.refsL_size]; omega
theorem danRefs_len (b : Nat) : ∀ (o : Nat) (ds : List Dan), (danRefs b o ds).length = ds.length * 2
 | _, [] => rfl
 | o, d :: r => by simp only [danRefs, List.length_cons]; rw [danRefs_len b (o + 6) r]; omega
theorem Ls.small.refs {s : Ls} (h : s.small) : s.refs.length ≤ 200000 := by
 have h1 := phRefs_bound s.phrases h.items
 have h2 := danRefs_len (blk s.da) (off s.da) s.dances
 have h3 := h.phrases; have h4 := h.dances
 unfold Ls.refs
 rw [List.length_append]; omega
theorem Ls.refs_same {x y : Ls} (h : x.strip.refs = y.strip.refs) : x.refs.length = y.refs.length := by
 have e1 := congrArg List.length x.refs_key
 have e2 := congrArg List.length y.refs_key
 rw [List.length_map] at e1 e2
 rw [e1, e2, h]
theorem ptrs_le (rs : List RefL) : (ptrs rs).length ≤ rs.length := List.length_filter_le _ _
theorem movTo_le2 (k : Int) : movTo k ≤ 2 := by unfold movTo; split <;> omega
theorem itemTo_le2 (k : Int) : itemTo k ≤ 2 := by unfold itemTo; split <;> omega
theorem Its.refs_to : ∀ (t : Its), ∀ r ∈ t.refs, r.1 ≤ 2
 | .nil, _, h => by cases h
 | .cons k n un its ms rest, r, h => by
  simp only [Its.refs, List.mem_cons, List.mem_append, List.mem_map] at h
  rcases h with rfl | ⟨m, _, rfl⟩ | h | h
  ·exact itemTo_le2 k
  ·exact movTo_le2 m.kind
  ·exact its.refs_to r h
  ·exact rest.refs_to r h
theorem Sc.refs_to (s : Sc) : ∀ r ∈ s.refs, r.1 ≤ 2 := by
 intro r h
 unfold Sc.refs at h
 rcases List.mem_append.1 h with h | h
 ·obtain ⟨p, _, h⟩ := List.mem_flatMap.1 h
  exact p.items.refs_to r h
 ·obtain ⟨d, _, h⟩ := List.mem_flatMap.1 h
  simp only [List.mem_cons, List.mem_nil_iff, or_false] at h
  rcases h with rfl | rfl <;> simp
end Go.Proofs.Ytpnbpepkoekkoaa
end
section
namespace Go.Proofs.Ytpnbpepkoekkoaa
open Go Go.RowKit
def renN (phrase : Bool) (old new : Nm) (to : Nat) (nm : Nm) : Nm := if to ≠ 0 ∧ (decide (to = 2) == phrase) = true ∧ nm = old then new else nm
theorem renN_zero (phrase : Bool) (old new nm : Nm) : renN phrase old new 0 nm = nm := by unfold renN; rw [if_neg (fun h => h.1 rfl)]
def setR : List Rol → Nat → Nm → List Rol
 | [], _, _ => []
 | r :: l, 0, nm => { r with name := nm } :: l
 | r :: l, i + 1, nm => r :: setR l i nm
def setPr : List Phr → Nat → Nm → List Phr
 | [], _, _ => []
 | p :: l, 0, nm => { p with name := nm } :: l
 | p :: l, i + 1, nm => p :: setPr l i nm
theorem setR_name : ∀ (l : List Rol) (i : Nat) (nm : Nm), (setR l i nm).map Rol.name = (l.map Rol.name).set i nm
 | [], _, _ => rfl
 | _ :: _, 0, _ => rfl
 | r :: l, i + 1, nm => by simp only [setR, List.map_cons, List.set_cons_succ, setR_name l i nm]
theorem setPr_name : ∀ (l : List Phr) (i : Nat) (nm : Nm), (setPr l i nm).map Phr.name = (l.map Phr.name).set i nm
 | [], _, _ => rfl
 | _ :: _, 0, _ => rfl
 | p :: l, i + 1, nm => by simp only [setPr, List.map_cons, List.set_cons_succ, setPr_name l i nm]
theorem setPr_items : ∀ (l : List Phr) (i : Nat) (nm : Nm), (setPr l i nm).map Phr.items = l.map Phr.items
 | [], _, _ => rfl
 | _ :: _, 0, _ => rfl
 | p :: l, i + 1, nm => by simp only [setPr, List.map_cons, setPr_items l i nm]
theorem setR_len (l : List Rol) (i : Nat) (nm : Nm) : (setR l i nm).length = l.length := by
 have := congrArg List.length (setR_name l i nm)
 simpa using this
theorem setPr_len (l : List Phr) (i : Nat) (nm : Nm) : (setPr l i nm).length = l.length := by
 have := congrArg List.length (setPr_name l i nm)
 simpa using this
def Phr.ren (f : Nat → Nm → Nm) (p : Phr) : Phr := { p with items := p.items.ren f }
def Sc.renamed (s : Sc) (phrase : Bool) (i : Nat) (old new : Nm) : Sc :=
 { s with roles := if phrase then s.roles else setR s.roles i new, phrases := if phrase then setPr (s.phrases.map (Phr.ren (renN phrase old new))) i new else s.phrases.map (Phr.ren (renN phrase old new)), dances := s.dances.map (Dan.ren (renN phrase old new)) }
theorem nodup_set : ∀ {l : List Nm} {i : Nat} {new : Nm}, l.Nodup → new ∉ l → (l.set i new).Nodup
 | [], _, _, _, _ => by simp
 | a :: l, 0, new, h, hn => by
  rw [List.set_cons_zero]
  exact List.nodup_cons.2 ⟨fun hm => hn (List.mem_cons_of_mem _ hm), (List.nodup_cons.1 h).2⟩
 | a :: l, i + 1, new, h, hn => by
  rw [List.set_cons_succ]
  obtain ⟨h1, h2⟩ := List.nodup_cons.1 h
  refine List.nodup_cons.2 ⟨fun hm => ?_, nodup_set h2 fun hm => hn (List.mem_cons_of_mem _ hm)⟩
  rcases List.mem_or_eq_of_mem_set hm with hm | hm
  ·exact h1 hm
  ·exact hn (by rw [hm]; exact List.mem_cons_self ..)
theorem idxOf_ne {a b : Nm} {l : List Nm} (h : a ≠ b) : (a :: l).idxOf b = l.idxOf b + 1 := by
 rw [List.idxOf_cons, show (a == b) = false by simpa using h]; rfl
theorem idx_set_new : ∀ {l : List Nm} {i : Nat} {new : Nm}, i < l.length → new ∉ l → (l.set i new).idxOf new = i
 | [], _, _, h, _ => by simp at h
 | a :: l, 0, new, _, _ => by simp
 | a :: l, i + 1, new, h, hn => by
  rw [List.set_cons_succ, idxOf_ne (fun e => hn (by rw [e]; exact List.mem_cons_self ..)), idx_set_new (by simpa using h) fun hm => hn (List.mem_cons_of_mem _ hm)]
theorem idx_old : ∀ {l : List Nm} {i : Nat} {old : Nm}, l.Nodup → l[i]? = some old → l.idxOf old = i
 | [], _, _, _, h => by simp at h
 | a :: l, 0, old, _, h => by
  have e : a = old := by simpa using h
  rw [e, List.idxOf_cons_self]
 | a :: l, i + 1, old, hd, h => by
  have h2 : l[i]? = some old := by simpa using h
  obtain ⟨h3, h4⟩ := List.nodup_cons.1 hd
  rw [idxOf_ne (fun e => h3 (by rw [e]; exact List.mem_of_getElem? h2)), idx_old h4 h2]
theorem idx_set_ne : ∀ {l : List Nm} {i : Nat} {old new nm : Nm}, l[i]? = some old → nm ≠ old → nm ≠ new → (l.set i new).idxOf nm = l.idxOf nm
 | [], _, _, _, _, h, _, _ => by simp at h
 | a :: l, 0, old, new, nm, h, h1, h2 => by
  have e : a = old := by simpa using h
  rw [List.set_cons_zero, idxOf_ne (Ne.symm h2), idxOf_ne (by rw [e]; exact Ne.symm h1)]
 | a :: l, i + 1, old, new, nm, h, h1, h2 => by
  have h3 : l[i]? = some old := by simpa using h
  rw [List.set_cons_succ]
  by_cases e : a = nm
  ·rw [e, List.idxOf_cons_self, List.idxOf_cons_self]
  ·rw [idxOf_ne e, idxOf_ne e, idx_set_ne h3 h1 h2]
theorem mem_set_ne {l : List Nm} {i : Nat} {old new nm : Nm} (h : l[i]? = some old) (h1 : nm ≠ old) (hm : nm ∈ l) : nm ∈ l.set i new := by
 obtain ⟨j, hj⟩ := List.getElem?_of_mem hm
 refine List.mem_of_getElem? (i := j) ?_
 rw [List.getElem?_set]
 by_cases e : i = j
 ·subst e
  rw [h] at hj
  injection hj with hj
  exact absurd hj.symm h1
 ·rw [if_neg e]; exact hj
theorem look_ren {l : List Nm} {i : Nat} {old new nm : Nm} (hd : l.Nodup) (h : l[i]? = some old) (hn : new ∉ l) (hm : nm ∈ l) : (if nm = old then new else nm) ∈ l.set i new ∧ (l.set i new).idxOf (if nm = old then new else nm) = l.idxOf nm := by
 have hi := (List.getElem?_eq_some_iff.1 h).1
 by_cases e : nm = old
 ·rw [if_pos e, e, idx_set_new hi hn, idx_old hd h]
  exact ⟨List.mem_of_getElem? (i := i) (by rw [List.getElem?_set, if_pos rfl, if_pos hi]), rfl⟩
 ·rw [if_neg e]
  exact ⟨mem_set_ne h e hm, idx_set_ne h e fun e2 => hn (e2 ▸ hm)⟩
theorem refIdx_ren {R P : List Nm} {phrase : Bool} {i : Nat} {old new : Nm} (hR : R.Nodup) (hP : P.Nodup) (h : (if phrase then P else R)[i]? = some old) (hn : new ∉ (if phrase then P else R)) {r : Nat × Nm} (hr : r.1 ≤ 2) {n k : Int} (hk : refIdx R P r n = some k) :
  refIdx (if phrase then R else R.set i new) (if phrase then P.set i new else P) (r.1, renN phrase old new r.1 r.2) n = some k := by
 obtain ⟨to, nm⟩ := r
 dsimp only at hr ⊢
 unfold refIdx at hk ⊢
 dsimp only at hk ⊢
 by_cases h0 : to = 0
 ·subst h0
  rw [renN_zero]; exact hk
 ·rw [if_neg h0] at hk ⊢
  by_cases h1 : to = 1
  ·subst h1
   rw [if_pos rfl] at hk ⊢
   split at hk
   ·rename_i hm
    cases phrase with
    | true =>
     have e : renN true old new 1 nm = nm := by unfold renN; rw [if_neg (fun h => by simp at h)]
     rw [e, if_pos rfl, if_pos hm]; exact hk
    | false =>
     have e : renN false old new 1 nm = if nm = old then new else nm := by unfold renN; simp
     rw [if_neg (by decide)] at h hn
     obtain ⟨h2, h3⟩ := look_ren hR h hn hm
     simp only [Bool.false_eq_true, if_false]
     rw [e, if_pos h2, h3]; exact hk
   ·cases hk
  ·have h2 : to = 2 := by omega
   subst h2
   rw [if_neg h1] at hk ⊢
   split at hk
   ·rename_i hm
    cases phrase with
    | true =>
     have e : renN true old new 2 nm = if nm = old then new else nm := by unfold renN; simp
     rw [if_pos rfl] at h hn
     obtain ⟨h2, h3⟩ := look_ren hP h hn hm
     rw [e, if_pos rfl, if_pos h2, h3]; exact hk
    | false =>
     have e : renN false old new 2 nm = nm := by unfold renN; rw [if_neg (fun h => by simp at h)]
     simp only [Bool.false_eq_true, if_false]
     rw [e, if_pos hm]; exact hk
   ·cases hk
theorem refsIdx_ren {R P : List Nm} {phrase : Bool} {i : Nat} {old new : Nm} (hR : R.Nodup) (hP : P.Nodup) (h : (if phrase then P else R)[i]? = some old) (hn : new ∉ (if phrase then P else R)) : ∀ {rs : List (Nat × Nm)} {ns ks : List Int}, (∀ r ∈ rs, r.1 ≤ 2) → refsIdx R P rs ns = some ks →
  refsIdx (if phrase then R else R.set i new) (if phrase then P.set i new else P) (rs.map fun r => (r.1, renN phrase old new r.1 r.2)) ns = some ks
 | [], [], _, _, hk => hk
 | [], _ :: _, _, _, hk => by simp [refsIdx] at hk
 | _ :: _, [], _, _, hk => by simp [refsIdx] at hk
 | r :: rs, n :: ns, ks, hr, hk => by
  simp only [refsIdx] at hk
  cases hq : refIdx R P r n with
  | none => rw [hq] at hk; simp at hk
  | some k' =>
   rw [hq] at hk
   cases hs : refsIdx R P rs ns with
   | none => rw [hs] at hk; simp at hk
   | some ks' =>
    rw [hs] at hk
    simp only [List.map_cons, refsIdx]
    rw [refIdx_ren hR hP h hn (hr r (by simp)) hq, refsIdx_ren hR hP h hn (fun x hx => hr x (by simp [hx])) hs]
    exact hk
theorem Its.ren_refs (f : Nat → Nm → Nm) : ∀ t : Its, (t.ren f).refs = t.refs.map fun r => (r.1, f r.1 r.2)
 | .nil => rfl
 | .cons k n un its ms r => by
  simp only [Its.ren, Its.refs, List.map_cons, List.map_append, its.ren_refs f, r.ren_refs f, List.map_map]
  rfl
theorem Its.ren_kinds (f : Nat → Nm → Nm) : ∀ t : Its, (t.ren f).kinds = t.kinds
 | .nil => rfl
 | .cons k n un its ms r => by
  simp only [Its.ren, Its.kinds, its.ren_kinds f, r.ren_kinds f, List.all_map]
  rfl
theorem Its.ren_ok (f : Nat → Nm → Nm) : ∀ (t : Its) (d : Nat), (t.ren f).ok d = t.ok d
 | .nil, _ => rfl
 | .cons k n un its ms r, d => by
  simp only [Its.ren, Its.ok, its.ren_ok f, r.ren_ok f, List.length_map, Its.ren_len]
theorem res_renamed {s : Sc} {ns ks : List Int} {phrase : Bool} {i : Nat} {old new : Nm} (h : resE s ns = 0) (hk : s.idx ns = some ks) (hi : (if phrase then s.pnames else s.rnames)[i]? = some old) (hn : new ∉ (if phrase then s.pnames else s.rnames)) (hb : nameB new = true) :
  resE (s.renamed phrase i old new) ns = 0 ∧ (s.renamed phrase i old new).idx ns = some ks := by
 obtain ⟨h1, h2, h3, _⟩ := res_zero h
 obtain ⟨n1, n2, n3⟩ := (named_iff _).1 h2
 obtain ⟨a1, a2⟩ := (apart_iff _).1 h3
 obtain ⟨l1, l2, l3⟩ := (lims_iff _).1 h1
 obtain ⟨f1, f2, f3, f4, f5, f6⟩ := (fitIff _).1 l1
 have hrn : (s.renamed phrase i old new).rnames = if phrase then s.rnames else s.rnames.set i new := by
  unfold Sc.renamed Sc.rnames
  cases phrase with
  | true => rfl
  | false => exact setR_name _ _ _
 have hmn : (s.phrases.map (Phr.ren (renN phrase old new))).map Phr.name = s.phrases.map Phr.name := by rw [List.map_map]; rfl
 have hpn : (s.renamed phrase i old new).pnames = if phrase then s.pnames.set i new else s.pnames := by
  unfold Sc.renamed Sc.pnames
  cases phrase with
  | true =>
   show (setPr _ _ _).map Phr.name = _
   rw [setPr_name, hmn]; rfl
  | false => exact hmn
 have hit : (s.renamed phrase i old new).phrases.map Phr.items = s.phrases.map fun p => p.items.ren (renN phrase old new) := by
  unfold Sc.renamed
  cases phrase with
  | true =>
   show (setPr _ _ _).map Phr.items = _
   rw [setPr_items, List.map_map]; rfl
  | false =>
   show (s.phrases.map _).map Phr.items = _
   rw [List.map_map]; rfl
 have hpl : (s.renamed phrase i old new).phrases.length = s.phrases.length := by
  have := congrArg List.length hit
  simpa using this
 have hrl : (s.renamed phrase i old new).roles.length = s.roles.length := by
  have := congrArg List.length hrn
  unfold Sc.rnames at this
  rw [List.length_map] at this
  rw [this]
  cases phrase <;> simp
 have hmem : ∀ p ∈ (s.renamed phrase i old new).phrases, ∃ q ∈ s.phrases, p.items = q.items.ren (renN phrase old new) := fun p hp => by
  have h1 : p.items ∈ (s.renamed phrase i old new).phrases.map Phr.items := List.mem_map.2 ⟨p, hp, rfl⟩
  rw [hit] at h1
  obtain ⟨q, hq, e⟩ := List.mem_map.1 h1
  exact ⟨q, hq, e.symm⟩
 have hrefs : (s.renamed phrase i old new).refs = s.refs.map fun r => (r.1, renN phrase old new r.1 r.2) := by
  have e : ∀ ps : List Phr, (ps.flatMap fun p => p.items.refs) = (ps.map Phr.items).flatMap Its.refs := fun ps => by rw [List.flatMap_map]
  unfold Sc.refs
  rw [e, hit, List.map_append]
  congr 1
  ·rw [List.flatMap_map, List.map_flatMap]
   congr 1
   funext p
   exact Its.ren_refs _ _
  ·show (s.dances.map (Dan.ren _)).flatMap _ = _
   rw [List.flatMap_map, List.map_flatMap]
   rfl
 have hidx : (s.renamed phrase i old new).idx ns = some ks := by
  unfold Sc.idx at hk ⊢
  split at hk
  ·rename_i hkk
   have hk2 : (s.renamed phrase i old new).kinds = true := by
    unfold Sc.kinds at hkk ⊢
    rw [List.all_eq_true] at hkk ⊢
    intro p hp
    obtain ⟨q, hq, e⟩ := hmem p hp
    rw [e, Its.ren_kinds]; exact hkk q hq
   rw [if_pos hk2, hrn, hpn, hrefs]
   exact refsIdx_ren a1 a2 hi hn (s.refs_to) hk
  ·cases hk
 refine ⟨res_of ?_ ?_ ?_ (by rw [hidx]; rfl), hidx⟩
 ·refine (lims_iff _).2 ⟨(fitIff _).2 ⟨by rw [hrl]; exact f1, f2, f3, f4, by rw [hpl]; exact f5, by show (s.dances.map _).length ≤ 256; rw [List.length_map]; exact f6⟩, fun p hp => ?_, ?_⟩
  ·obtain ⟨q, hq, e⟩ := hmem p hp
   rw [e, Its.ren_ok]; exact l2 q hq
  ·have e : ∀ ps : List Phr, sizeP ps = ((ps.map Phr.items).map Its.size).sum := fun ps => by unfold sizeP; rw [List.map_map]; rfl
   rw [e, hit, List.map_map]
   have e2 : (Its.size ∘ fun p : Phr => p.items.ren (renN phrase old new)) = fun p => p.items.size := by funext p; exact Its.ren_size _ _
   rw [e2]; exact l3
 ·refine (named_iff _).2 ⟨n1, fun n hm => ?_, fun n hm => ?_⟩
  ·rw [hrn] at hm
   cases phrase with
   | true => exact n2 n hm
   | false =>
    rcases List.mem_or_eq_of_mem_set (show n ∈ s.rnames.set i new from hm) with h | h
    ·exact n2 n h
    ·rw [h]; exact hb
  ·rw [hpn] at hm
   cases phrase with
   | false => exact n3 n hm
   | true =>
    rcases List.mem_or_eq_of_mem_set (show n ∈ s.pnames.set i new from hm) with h | h
    ·exact n3 n h
    ·rw [h]; exact hb
 ·refine (apart_iff _).2 ⟨?_, ?_⟩
  ·rw [hrn]
   cases phrase with
   | true => exact a1
   | false => exact nodup_set a1 hn
  ·rw [hpn]
   cases phrase with
   | false => exact a2
   | true => exact nodup_set a2 hn
end Go.Proofs.Ytpnbpepkoekkoaa
end
section
namespace Go.Proofs.Ytpnbpepkoekkoaa
open Go Go.RowKit Go.Deep
theorem row_keep {α : Type} {enc : α → List Value} {k g n c : Nat} {W W' : World} {xs : List α} (h : IsRow enc k W (.slice (some ⟨g, 0, none⟩) n c) xs) (hb : W'.heap[g]? = W.heap[g]?) (hl : W.heap.size ≤ W'.heap.size) : IsRow enc k W' (.slice (some ⟨g, 0, none⟩) n c) xs := by
 obtain ⟨ao, c', e, h1, h2⟩ := h
 refine ⟨ao, c', e, h1, ?_⟩
 rcases h2 with h2 | ⟨b, o, e2, h3, h4⟩
 ·exact Or.inl h2
 ·injection e with e3 _ _
  rw [← e3] at e2
  injection e2 with e2
  injection e2 with e4 e5
  subst e4
  exact Or.inr ⟨g, o, by rw [← e3, ← e5], fun i x hx j v hv => (World.cell?_of_block hb).trans (h3 i x hx j v hv), by omega⟩
def KeepR (z : Ls) (W0 W : World) : Prop := W0.heap.size ≤ W.heap.size ∧ ∀ b, b < W0.heap.size → (∀ r ∈ z.refs, r.b ≠ b) → W.heap[b]? = W0.heap[b]?
theorem KeepR.below {z : Ls} {W0 W W' : World} (h : KeepR z W0 W) (hb : Below W.heap.size W W') : KeepR z W0 W' := ⟨Nat.le_trans h.1 hb.size, fun b hl hr => (hb.block b (Nat.lt_of_lt_of_le hl h.1)).trans (h.2 b hl hr)⟩
theorem KeepR.set {z : Ls} {W0 W : World} (h : KeepR z W0 W) {r : RefL} (hr : r ∈ z.refs) (q : Nat) (v : Value) : KeepR z W0 (W.setCell ⟨r.b, q, none⟩ v) := ⟨by simpa [World.setCell] using h.1, fun b hl hb => (Below.heap_setCell _ _ _ _ (fun e => hb r hr e.symm)).trans (h.2 b hl hb)⟩
end Go.Proofs.Ytpnbpepkoekkoaa
end
section
namespace Go.Proofs.Ytpnbpepkoekkoaa
open Go Go.RowKit Go.Deep
end Go.Proofs.Ytpnbpepkoekkoaa
end
section
namespace Go.Proofs.Ytpnbpepkoekkoaa
open Go Go.RowKit Go.Deep
theorem CpW.rows {s : Ls} {ns : List Int} {w : World} {x : Ls} {W : World} (h : CpW s ns w x W) (hs : s.At w) : IsRow encT 3 w (.slice x.ta x.tempos.length x.tc) x.tempos ∧ IsRow encP 4 w (.slice x.ua x.pauses.length x.uc) x.pauses ∧ IsRow encC 4 w (.slice x.sa x.spans.length x.sc) x.spans := by
 have e := h.tup
 unfold Ls.tup at e
 simp only [Prod.mk.injEq, List.cons.injEq, and_true] at e
 obtain ⟨⟨e1, e2, e3⟩, ⟨e4, e5, e6⟩, e7, e8, e9⟩ := e
 rw [e1, e2, e3, e4, e5, e6, e7, e8, e9]
 exact ⟨hs.tempos, hs.pauses, hs.spans⟩
end Go.Proofs.Ytpnbpepkoekkoaa
end
section
namespace Go.Proofs.Ytpnbpepkoekkoaa
open Go Go.RowKit Go.Deep
theorem CpW.stay {s : Ls} {ns : List Int} {w0 : World} {x : Ls} {V W' wz : World} (h : CpW s ns w0 x V)
  (hR : IsRow encT 3 wz (.slice x.ta x.tempos.length x.tc) x.tempos ∧ IsRow encP 4 wz (.slice x.ua x.pauses.length x.uc) x.pauses ∧ IsRow encC 4 wz (.slice x.sa x.spans.length x.sc) x.spans)
  (hb : Below wz.heap.size wz W') (hl : V.heap.size ≤ W'.heap.size) (hk : ∀ b, w0.heap.size ≤ b → b < V.heap.size → W'.heap[b]? = V.heap[b]?) : x.At W' ∧ NsAt W' x.refs ns ∧ ∀ r ∈ x.refs, FreeB W' r.b := by
 obtain ⟨⟨a1, a2⟩, ⟨a3, a4⟩⟩ := h.own.lt
 have hfree : ∀ r ∈ x.refs, FreeB W' r.b := fun r hr => by
  obtain ⟨h1, cur, t, h2⟩ := h.refs r hr
  exact ⟨cur, t, (hk _ h1 (Array.getElem?_eq_some_iff.1 h2).1).trans h2⟩
 refine ⟨⟨?_, hR.1.below hb (Nat.le_refl _), hR.2.1.below hb (Nat.le_refl _), hR.2.2.below hb (Nat.le_refl _), h.at_.pform, h.at_.plen, phAt_kept h.at_.phrases (fun q v _ hc => cell_blk (hk _ a3 a4) q v hc) (fun c hc q v hv => cell_blk (hk c (h.pown c hc) (cell_lt hv)) q v hv), h.at_.dform, h.at_.dlen, ?_⟩, h.ns.kept fun y hy v hv => cell_blk (hk _ (h.refs y hy).1 (cell_lt hv)) _ v hv, hfree⟩
 ·have := h.at_.roles
  rw [h.own.raf] at this ⊢
  exact row_keep this (hk _ a1 a2) hl
 ·have hd := h.at_.dances
  cases hq : x.dances with
  | nil => trivial
  | cons d r =>
   have hm : (⟨blk x.da, off x.da, 1, d.rn⟩ : RefL) ∈ x.refs := by
    unfold Ls.refs
    rw [hq]
    exact List.mem_append.2 (Or.inr (List.mem_cons_self ..))
   obtain ⟨h1, h2⟩ := h.refs _ hm
   rw [← hq]
   exact danAt_kept hd fun q v _ hc => cell_blk (hk _ h1 h2.lt) q v hc
theorem CpW.refs_ra {s : Ls} {ns : List Int} {w0 : World} {x : Ls} {V : World} (h : CpW s ns w0 x V) : ∀ r ∈ x.refs, r.b ≠ blk x.ra := fun r hr e => by
 rcases List.mem_append.1 hr with h1 | h1
 ·exact h.own.ra (by rw [← e]; exact phRefs_own h1)
 ·exact h.own.rd (by rw [← (danRefs_mem h1).1]; exact e.symm)
end Go.Proofs.Ytpnbpepkoekkoaa
end
section
namespace Go.Proofs.Ytpnbpepkoekkoaa
open Go Go.RowKit Go.Deep
def Ls.Blk (x : Ls) (b : Nat) : Prop := b = blk x.ra ∨ b = blk x.fa ∨ b ∈ phOwn x.phrases ∨ ∃ r ∈ x.refs, r.b = b
theorem Ls.stay {x : Ls} {ns : List Int} {V W' wz : World} (hat : x.At V) (hns : NsAt V x.refs ns) (hraf : x.ra = some ⟨blk x.ra, 0, none⟩) (hg : blk x.ra < V.heap.size) (hfr : ∀ r ∈ x.refs, FreeB V r.b)
  (hR : IsRow encT 3 wz (.slice x.ta x.tempos.length x.tc) x.tempos ∧ IsRow encP 4 wz (.slice x.ua x.pauses.length x.uc) x.pauses ∧ IsRow encC 4 wz (.slice x.sa x.spans.length x.sc) x.spans)
  (hb : Below wz.heap.size wz W') (hl : V.heap.size ≤ W'.heap.size) (hk : ∀ b, x.Blk b → b < V.heap.size → W'.heap[b]? = V.heap[b]?) : x.At W' ∧ NsAt W' x.refs ns ∧ ∀ r ∈ x.refs, FreeB W' r.b := by
 have hre : ∀ r ∈ x.refs, x.Blk r.b := fun r hr => Or.inr (Or.inr (Or.inr ⟨r, hr, rfl⟩))
 have hfree : ∀ r ∈ x.refs, FreeB W' r.b := fun r hr => by
  obtain ⟨cur, t, h2⟩ := hfr r hr
  exact ⟨cur, t, (hk _ (hre r hr) (Array.getElem?_eq_some_iff.1 h2).1).trans h2⟩
 refine ⟨⟨?_, hR.1.below hb (Nat.le_refl _), hR.2.1.below hb (Nat.le_refl _), hR.2.2.below hb (Nat.le_refl _), hat.pform, hat.plen, phAt_kept hat.phrases (fun q v _ hc => cell_blk (hk _ (Or.inr (Or.inl rfl)) (cell_lt hc)) q v hc) (fun c hc q v hv => cell_blk (hk c (Or.inr (Or.inr (Or.inl hc))) (cell_lt hv)) q v hv), hat.dform, hat.dlen, ?_⟩, hns.kept fun y hy v hv => cell_blk (hk _ (hre y hy) (cell_lt hv)) _ v hv, hfree⟩
 ·have := hat.roles
  rw [hraf] at this ⊢
  exact row_keep this (hk _ (Or.inl rfl) hg) hl
 ·have hd := hat.dances
  cases hq : x.dances with
  | nil => trivial
  | cons d r =>
   have hm : (⟨blk x.da, off x.da, 1, d.rn⟩ : RefL) ∈ x.refs := by
    unfold Ls.refs
    rw [hq]
    exact List.mem_append.2 (Or.inr (List.mem_cons_self ..))
   rw [← hq]
   exact danAt_kept hd fun q v _ hc => cell_blk (hk _ (hre _ hm) (cell_lt hc)) q v hc
theorem CpW.blk_in {s : Ls} {ns : List Int} {w0 : World} {x : Ls} {V : World} (h : CpW s ns w0 x V) : ∀ b, x.Blk b → w0.heap.size ≤ b ∧ b < V.heap.size := by
 obtain ⟨⟨a1, a2⟩, ⟨a3, a4⟩⟩ := h.own.lt
 rintro b (rfl | rfl | hb | ⟨r, hr, rfl⟩)
 ·exact ⟨a1, a2⟩
 ·exact ⟨a3, a4⟩
 ·exact ⟨h.pown b hb, phOwn_lt h.at_.phrases b hb⟩
 ·exact ⟨(h.refs r hr).1, (h.refs r hr).2.lt⟩
end Go.Proofs.Ytpnbpepkoekkoaa
end
section
namespace Go.Proofs.Ytpnbpepkoekkoaa
open Go Go.RowKit Go.Deep
theorem NmAt.app {w : World} {a b : List RefL} (h1 : NmAt w a) (h2 : NmAt w b) : NmAt w (a ++ b) := fun x hx => by
 rcases List.mem_append.1 hx with h | h
 ·exact h1 x h
 ·exact h2 x h
theorem NmAt.below {w w' : World} {a : List RefL} (h : NmAt w a) (hb : Below w.heap.size w w') : NmAt w' a := fun x hx => keep_cell hb (h x hx)
theorem Ls.At.nm {w : World} {z : Ls} (h : z.At w) : NmAt w z.refs := fun x hx => score_nm h.phrases h.dances x hx
theorem phCore_below {w w' : World} (hb : Below w.heap.size w w') {b o : Nat} {ps : List Ph} (h : phCore w b o ps) : phCore w' b o ps := phCore_kept h (fun _ _ _ h => keep_cell hb h) (fun _ _ _ _ h => keep_cell hb h)
theorem danCore_below {w w' : World} (hb : Below w.heap.size w w') {b o : Nat} {ds : List Dan} (h : danCore w b o ds) : danCore w' b o ds := danCore_kept h (fun _ _ _ h => keep_cell hb h)
theorem Ls.Sep.core_set {s : Ls} (h : s.Sep) {w : World} {v : Value} {x : RefL} (hx : x ∈ s.refs) (h1 : phCore w (blk s.fa) (off s.fa) s.phrases) (h2 : danCore w (blk s.da) (off s.da) s.dances) :
  phCore (w.setCell ⟨x.b, x.o, none⟩ v) (blk s.fa) (off s.fa) s.phrases ∧ danCore (w.setCell ⟨x.b, x.o, none⟩ v) (blk s.da) (off s.da) s.dances := by
 rcases List.mem_append.1 hx with hx | hx
 ·refine ⟨phC_set h.fa h.own hx h1, ?_⟩
  by_cases hd : s.dances = []
  ·rw [hd]; trivial
  ·exact danCore_kept h2 fun q u _ hc => cell_set_ne hc (addr_ne (Or.inl fun e => h.da hd (e ▸ phRefs_own hx)))
 ·obtain ⟨e2, _, e3, _⟩ := danRefs_mem hx
  refine ⟨?_, danC_set hx h2⟩
  by_cases hp : s.phrases = []
  ·rw [hp]; trivial
  ·exact phCore_kept h1 (fun q u _ hc => cell_set_ne hc (addr_ne (Or.inl (fun e => h.fd e3 hp (by rw [← e2, e]))))) (fun c hc q u hq => cell_set_ne hq (addr_ne (Or.inl (fun e => h.da e3 (by rw [← e2, e]; exact hc)))))
structure RenW (f : Nat → Nm → Nm) (Wb Wk : World) (Z B0 : Nat) (z : Ls) (ks : List Int) (v : Value) (i : Nat) (W : World) : Prop where
 below : Below Wb.heap.size Wb W
 keep : KeepR z Wk W
 ph : phCore W (blk z.fa) (off z.fa) z.phrases
 da : danCore W (blk z.da) (off z.da) z.dances
 box : W.heap[Z]? = some (.cells z.cells 30 (0, 0))
 free : ∀ r ∈ z.refs, FreeB W r.b
 row : W.ownsRow B0 48 2 v (ptrs z.refs).length ((ptrs z.refs).flatMap encQ)
 ns : NsAt W z.refs ks
 nm : ∃ pre rest, z.refs = pre ++ rest ∧ ptrs rest = (ptrs z.refs).drop i ∧ NmAt W (pre.map (RefL.ren f)) ∧ NmAt W rest
structure RenB (f : Nat → Nm → Nm) (Wb : World) (Z B0 : Nat) (z : Ls) : Prop where
 sep : z.Sep
 ge : ∀ r ∈ z.refs, Wb.heap.size ≤ r.b ∧ r.b ≠ Z ∧ r.b < B0
 id : ∀ nm, f 0 nm = nm
variable {f : Nat → Nm → Nm} {Wb Wk : World} {Z B0 : Nat} {z : Ls} {ks : List Int} {v : Value} {i : Nat} {W : World}
theorem RenW.alloc (h : RenW f Wb Wk Z B0 z ks v i W) {W' : World} (hb : Below W.heap.size W W') : RenW f Wb Wk Z B0 z ks v i W' := by
 obtain ⟨pre, rest, h1, h2, h3, h4⟩ := h.nm
 exact ⟨h.below.trans (hb.mono h.below.size), h.keep.below hb, phCore_below hb h.ph, danCore_below hb h.da, keepO hb h.box, fun r hr => (h.free r hr).below hb, own_below h.row hb, h.ns.below hb, pre, rest, h1, h2, h3.below hb, h4.below hb⟩
theorem ren_id {x : RefL} (h : f x.to x.nm = x.nm) : x.ren f = x := by
 obtain ⟨b, o, to, nm⟩ := x
 unfold RefL.ren
 dsimp only at h ⊢
 rw [h]
theorem ren_ids : ∀ {l : List RefL}, (∀ x ∈ l, f x.to x.nm = x.nm) → l.map (RefL.ren f) = l
 | [], _ => rfl
 | x :: l, h => by rw [List.map_cons, ren_id (h x (by simp)), ren_ids fun y hy => h y (by simp [hy])]
theorem RenW.cell (hB : RenB f Wb Z B0 z) (h : RenW f Wb Wk Z B0 z ks v i W) {r : RefL} (hr : (ptrs z.refs)[i]? = some r) :
  r ∈ z.refs ∧ W.cell? ⟨r.b, r.o, none⟩ = some (sv r.nm) ∧ (f r.to r.nm = r.nm → RenW f Wb Wk Z B0 z ks v (i + 1) W) ∧ RenW f Wb Wk Z B0 z ks v (i + 1) (W.setCell ⟨r.b, r.o, none⟩ (sv (f r.to r.nm))) := by
 obtain ⟨pre, rest, h1, h2, h3, h4⟩ := h.nm
 rw [drop_at hr] at h2
 unfold ptrs at h2
 obtain ⟨zs, rest', rfl, hz, hp, hd⟩ := List.filter_eq_cons_iff.1 h2
 have hzs : ∀ x ∈ zs, f x.to x.nm = x.nm := fun x hx => by
  have : x.to = 0 := by simpa using hz x hx
  rw [this]; exact hB.id _
 have h5 : NmAt W ((pre ++ zs).map (RefL.ren f)) := by
  rw [List.map_append, ren_ids hzs]
  exact h3.app fun x hx => h4 x (List.mem_append.2 (Or.inl hx))
 have hrc : W.cell? ⟨r.b, r.o, none⟩ = some (sv r.nm) := h4 r (by simp)
 have hre : NmAt W rest' := fun x hx => h4 x (by simp [hx])
 have hsp : z.refs = (pre ++ zs) ++ r :: rest' := by rw [h1]; simp
 have hm : r ∈ z.refs := by rw [hsp]; simp
 have hd' : ptrs rest' = (ptrs z.refs).drop (i + 1) := by unfold ptrs; rw [hd]
 have hap := hB.sep.apart2
 rw [hsp] at hap
 obtain ⟨_, hp2, hp3⟩ := List.pairwise_append.1 hap
 obtain ⟨hp4, _⟩ := List.pairwise_cons.1 hp2
 obtain ⟨g1, g2, g3⟩ := hB.ge r hm
 have hsp2 : z.refs = ((pre ++ zs) ++ [r]) ++ rest' := by rw [hsp]; simp
 refine ⟨hm, hrc, fun hid => ⟨h.below, h.keep, h.ph, h.da, h.box, h.free, h.row, h.ns, (pre ++ zs) ++ [r], rest', hsp2, hd', ?_, hre⟩, ?_⟩
 ·rw [List.map_append]
  refine h5.app fun x hx => ?_
  have e : x = r.ren f := by simpa using hx
  rw [e, ren_id hid]; exact hrc
 ·obtain ⟨s1, s2⟩ := hB.sep.core_set (v := sv (f r.to r.nm)) hm h.ph h.da
  have hfar : ∀ y ∈ z.refs, W.cell? ⟨y.b, y.o + 1, none⟩ = (W.setCell ⟨r.b, r.o, none⟩ (sv (f r.to r.nm))).cell? ⟨y.b, y.o + 1, none⟩ := fun y hy => by
   refine (World.cell?_setCell_other _ _ _ _ (addr_ne ?_)).symm
   rw [hsp] at hy
   rcases List.mem_append.1 hy with hy | hy
   ·have := hp3 y hy r (by simp); omega
   ·rcases List.mem_cons.1 hy with e | hy
    ·rw [e]; omega
    ·have := hp4 y hy; omega
  refine ⟨h.below.setCell (p := ⟨r.b, r.o, none⟩) g1 _, h.keep.set hm _ _, s1, s2, (Below.heap_setCell _ _ _ _ (fun e => g2 e.symm)).trans h.box, fun x hx => (h.free x hx).set _ _, own_same h.row (fun g hg => Below.heap_setCell _ _ _ _ (fun e => ?_)), h.ns.kept fun y hy v hv => (hfar y hy).symm.trans hv, (pre ++ zs) ++ [r], rest', hsp2, hd', ?_, fun x hx => cell_set_ne (hre x hx) (addr_ne (by have := hp4 x hx; omega))⟩
  ·have := (own_lt h.row hg).1
   have e2 : g = r.b := e
   omega
  ·rw [List.map_append]
   refine NmAt.app (fun x hx => ?_) fun x hx => ?_
   ·obtain ⟨y, hy, e⟩ := List.mem_map.1 hx
    have h7 := h5 x hx
    rw [← e] at h7 ⊢
    exact cell_set_ne h7 (addr_ne (by have := hp3 y hy r (by simp); show r.b ≠ y.b ∨ r.o ≠ y.o; omega))
   ·have e : x = r.ren f := by simpa using hx
    rw [e]
    exact World.cell?_setCell_same _ _ _ hrc
theorem RenW.done (hB : RenB f Wb Z B0 z) (h : RenW f Wb Wk Z B0 z ks v (ptrs z.refs).length W) : NmAt W (z.refs.map (RefL.ren f)) := by
 obtain ⟨pre, rest, h1, h2, h3, h4⟩ := h.nm
 rw [List.drop_of_length_le (Nat.le_refl _)] at h2
 have hz : ∀ r ∈ rest, f r.to r.nm = r.nm := fun r hr => by
  have : r.to = 0 := by simpa using (List.filter_eq_nil_iff.1 h2) r hr
  rw [this]; exact hB.id _
 rw [h1, List.map_append, ren_ids hz]
 exact h3.app h4
theorem RenW.first (hb : Below Wb.heap.size Wb W) (hk : KeepR z Wk W) (hA : z.At W) (hZ : W.heap[Z]? = some (.cells z.cells 30 (0, 0))) (hF : ∀ r ∈ z.refs, FreeB W r.b) (hr : W.ownsRow B0 48 2 v (ptrs z.refs).length ((ptrs z.refs).flatMap encQ)) (hN : NsAt W z.refs ks) : RenW f Wb Wk Z B0 z ks v 0 W :=
 ⟨hb, hk, phAt.core hA.phrases, danAt.core hA.dances, hZ, hF, hr, hN, [], z.refs, rfl, rfl, (fun x hx => by simp at hx), hA.nm⟩
end Go.Proofs.Ytpnbpepkoekkoaa
end
section
namespace Go.Proofs.Ytpnbpepkoekkoaa
open Go Go.RowKit Go.Deep
theorem tup_rows {s x : Ls} {w : World} (e : x.tup = s.tup) (hs : s.At w) : IsRow encT 3 w (.slice x.ta x.tempos.length x.tc) x.tempos ∧ IsRow encP 4 w (.slice x.ua x.pauses.length x.uc) x.pauses ∧ IsRow encC 4 w (.slice x.sa x.spans.length x.sc) x.spans := by
 unfold Ls.tup at e
 simp only [Prod.mk.injEq, List.cons.injEq, and_true] at e
 obtain ⟨⟨e1, e2, e3⟩, ⟨e4, e5, e6⟩, e7, e8, e9⟩ := e
 rw [e1, e2, e3, e4, e5, e6, e7, e8, e9]
 exact ⟨hs.tempos, hs.pauses, hs.spans⟩
structure OneW (w : World) (A : Nat) (x : Ls) (ks : List Int) (W : World) : Prop where
 at_ : x.At W
 ns : NsAt W x.refs ks
 free : ∀ r ∈ x.refs, FreeB W r.b
 box : W.heap[A]? = some (.cells x.cells 30 (0, 0))
structure OneB (w : World) (A lo hi : Nat) (x : Ls) : Prop where
 rows : IsRow encT 3 w (.slice x.ta x.tempos.length x.tc) x.tempos ∧ IsRow encP 4 w (.slice x.ua x.pauses.length x.uc) x.pauses ∧ IsRow encC 4 w (.slice x.sa x.spans.length x.sc) x.spans
 sep : x.Sep
 raf : x.ra = some ⟨blk x.ra, 0, none⟩
 ra : ∀ r ∈ x.refs, r.b ≠ blk x.ra
 blk_ : ∀ b, x.Blk b → lo ≤ b ∧ b < hi
 low : w.heap.size ≤ lo ∧ A < lo
theorem OneB.ref {w : World} {A lo hi : Nat} {x : Ls} (h : OneB w A lo hi x) {r : RefL} (hr : r ∈ x.refs) : lo ≤ r.b ∧ r.b < hi := h.blk_ _ (Or.inr (Or.inr (Or.inr ⟨r, hr, rfl⟩)))
theorem OneW.stay {w : World} {A A2 lo hi lo2 hi2 : Nat} {x y : Ls} {ks : List Int} {W W' : World} (h : OneW w A x ks W) (hB : OneB w A lo hi x) (hC : OneB w A2 lo2 hi2 y) (hd : hi ≤ lo2 ∨ hi2 ≤ lo) (hA : A < lo2) (hhi : hi ≤ W.heap.size) (hb : Below w.heap.size w W') (hk : KeepR y W W') : OneW w A x ks W' := by
 have hkk : ∀ b, x.Blk b → b < W.heap.size → W'.heap[b]? = W.heap[b]? := fun b hb1 hb2 => hk.2 b hb2 fun r hr e => by
  have h1 := hC.ref hr
  have h2 := hB.blk_ b hb1
  omega
 have hg := (hB.blk_ (blk x.ra) (Or.inl rfl)).2
 obtain ⟨h1, h2, h3⟩ := Ls.stay h.at_ h.ns hB.raf (by omega) h.free hB.rows hb hk.1 hkk
 have hAl : A < W.heap.size := (Array.getElem?_eq_some_iff.1 h.box).1
 exact ⟨h1, h2, h3, (hk.2 A hAl fun r hr e => by have := hC.ref hr; omega).trans h.box⟩
end Go.Proofs.Ytpnbpepkoekkoaa
end
section
namespace Go.Proofs.Ytpnbpepkoekkoaa
open Go Go.RowKit Go.Deep
end Go.Proofs.Ytpnbpepkoekkoaa
end
section
namespace Go.Proofs.Ytpnbpepkoekkoaa
open Go Go.RowKit Go.Deep
theorem CpW.one {s : Ls} {ns : List Int} {w0 : World} {x : Ls} {V : World} (h : CpW s ns w0 x V) {w : World} (hs : s.At w) {A : Nat} (h1 : w.heap.size ≤ w0.heap.size) (h2 : A < w0.heap.size) : OneB w A w0.heap.size V.heap.size x := ⟨tup_rows h.tup hs, h.sep, h.own.raf, h.refs_ra, h.blk_in, h1, h2⟩
end Go.Proofs.Ytpnbpepkoekkoaa
end
section
namespace Go.Proofs.Ytpnbpepkoekkoaa
open Go Go.RowKit Go.Deep
end Go.Proofs.Ytpnbpepkoekkoaa
end
section
namespace Go.Proofs.Ytpnbpepkoekkoaa
open Go Go.RowKit Go.Deep
def ResO (s : Ls) (ns : List Int) (w : World) (e : Ending) (w' : World) : Prop := ∃ (x : Ls) (ks : List Int), e = .returned (.tuple #[x.val, .int .i64 0]) ∧ x.strip = s.strip ∧ x.At w' ∧ NsAt w' x.refs ks ∧ s.strip.idx ns = some ks ∧ Below w.heap.size w w'
theorem res_ok (s : Ls) (ns : List Int) (w : World) (hA : s.At w) (hN : NsAt w s.refs ns) (he : Env w) (h0 : resE s.strip ns = 0) : Calls Try.prog 15 #[s.val] w (ResO s ns w) := by
 refine (res_any s ns w hA hN he).mono fun e w' h => ?_
 obtain ⟨h | h, hb⟩ := h
 ·obtain ⟨_, x, ks, h1, h2, h3, h4, h5, _⟩ := h
  exact ⟨x, ks, h1, h2, h3, h4, h5, hb⟩
 ·exact absurd h0 h.1
end Go.Proofs.Ytpnbpepkoekkoaa
end
section
namespace Go.Proofs.Ytpnbpepkoekkoaa
open Go Go.RowKit Go.Deep
theorem wpList_load_row_at {P : Program} {ops : Array Oper} {rest : List Oper} {o : Oper} {a : Act} {w : World} {Q : Exit → Act → World → Prop} (hgd : Region.wanted o (yielded ops a.tmps) = true) (ty : TypeId) (x : Operand) (ho : o.op = .load ty x)
  (g : Nat) (hx : a.eval x = .pointer (some ⟨g, 0, none⟩)) (t : TypeId) (cs : Array Value) (fr : Nat × Nat) (d : TypeDesc) (hg : w.heap[g]? = some (.cells cs t fr))
  (hu : P.underlying ty = some d) (hd : (match d with | .struct _ | .array _ _ => true | _ => false) = true) (hi : (P.info? ty).map (·.size) = some cs.size)
  (h : wpList P ops Q rest (a.put o.dst (.agg cs)) w) : wpList P ops Q (o :: rest) a w :=
 wpList_step fun K hK => by rw [if_pos hgd]; exact wp_load_row ty x ho g hx t cs fr d hg hu hd hi (hK _ _ h)
structure Bx (x : Ls) (ks : List Int) (X : Nat) (W : World) : Prop where
 box : W.heap[X]? = some (.cells x.cells 30 (0, 0))
 at_ : x.At W
 ns : NsAt W x.refs ks
theorem Bx.next {x : Ls} {ks : List Int} {X : Nat} {W W' : World} (h : Bx x ks X W) (hb : Below W.heap.size W W') : Bx x ks X W' := ⟨keepO hb h.box, h.at_.below hb, h.ns.below hb⟩
end Go.Proofs.Ytpnbpepkoekkoaa
end
section
namespace Go.Proofs.Ytpnbpepkoekkoaa
open Go Go.RowKit Go.Deep
noncomputable def code4 : Code := (Try.f4.body).getD .skip
noncomputable def elem4n0 : Code := match lastPart 0 code4 with
 | .seq a _ => a
 | c => c
noncomputable def elem4n1 : Code := match lastPart 1 code4 with
 | .seq a _ => a
 | c => c
noncomputable def elem4n2 : Code := match lastPart 2 code4 with
 | .seq a _ => a
 | c => c
noncomputable def elem4n3 : Code := match lastPart 3 code4 with
 | .seq a _ => a
 | c => c
noncomputable def elem4n4 : Code := match lastPart 4 code4 with
 | .seq a _ => a
 | c => c
noncomputable def elem4n5 : Code := match lastPart 5 code4 with
 | .seq a _ => a
 | c => c
noncomputable def elem4n6 : Code := match lastPart 6 code4 with
 | .seq a _ => a
 | c => c
noncomputable def elem4n7 : Code := match lastPart 7 code4 with
 | .seq a _ => a
 | c => c
noncomputable def elem4n8 : Code := match lastPart 8 code4 with
 | .seq a _ => a
 | c => c
noncomputable def elem4n9 : Code := match lastPart 9 code4 with
 | .seq a _ => a
 | c => c
theorem rnstep1 : lastPart 1 code4 = .seq elem4n1 (lastPart 2 code4) := rfl
theorem rnstep2 : lastPart 2 code4 = .seq elem4n2 (lastPart 3 code4) := rfl
theorem rnstep3 : lastPart 3 code4 = .seq elem4n3 (lastPart 4 code4) := rfl
theorem rnstep4 : lastPart 4 code4 = .seq elem4n4 (lastPart 5 code4) := rfl
theorem rnstep5 : lastPart 5 code4 = .seq elem4n5 (lastPart 6 code4) := rfl
theorem rnstep6 : lastPart 6 code4 = .seq elem4n6 (lastPart 7 code4) := rfl
theorem rnstep7 : lastPart 7 code4 = .seq elem4n7 (lastPart 8 code4) := rfl
theorem rnstep8 : lastPart 8 code4 = .seq elem4n8 (lastPart 9 code4) := rfl
theorem rnstep9 : lastPart 9 code4 = .seq elem4n9 (lastPart 10 code4) := rfl
noncomputable def loop4 : Code := loopC (blkC (snd2 elem4n8))
noncomputable def body4 : Code := blkC (fst2 (snd2 (snd2 loop4)))
noncomputable def inner4 : Code := fst2 (snd2 body4)
noncomputable def name4 : Code := snd2 (snd2 body4)
set_option maxRecDepth 100000 in
set_option maxHeartbeats 16000000 in
theorem ren_inner (Z gN nN cN j : Nat) (phrase : Bool) (old new : Nm) (z : Ls) (ks : List Int) (Wb W : World) (hb : Below Wb.heap.size Wb W) (hZ : W.heap[Z]? = some (.cells z.cells 30 (0, 0))) (hz : z.At W) (hN : NsAt W z.refs ks) (hsep : z.Sep) (hrefs : ∀ r ∈ z.refs, Wb.heap.size ≤ r.b ∧ r.b ≠ Z ∧ FreeB W r.b) (hlen : (ptrs z.refs).length ≤ 1000000) (hnm : Wb.cell? ⟨gN, j, none⟩ = some (sv old)) (hj : j < nN) (e0 e2 e4 e5 e6 e7 e8 e11 e12 e13 e14 e15 e17 e18 e19 e20 e21 e22 e23 e24 e25 e26 e27 e28 e29 e30 e31 e32 e33 e34 e35 e36 e37 e38 e39 e40 e41 e42 e43 e44 e45 e46 e47 e48 e49 e50 e51 e52 e53 e54 e55 e56 e57 e58 e59 e60 e61 e62 e63 e64 e65 e66 e67 e68 e69 e70 e71 e72 e73 e74 e75 e76 e77 e78 e79 e80 e81 e82 e83 e84 e85 e86 e87 e88 e89 e90 e91 e92 e93 e94 e95 e96 e97 e98 e99 e100 e101 e102 e103 e104 e105 e106 e107 e108 e109 e110 e111 e112 e113 e114 e115 e116 e117 e118 e119 e120 e121 e122 e123 e124 e125 e126 e127 e128 e129 e130 : Value) (K : Act → World → Prop)
  (hK : ∀ W', NmAt W' (z.refs.map (RefL.ren (renN phrase old new))) → phCore W' (blk z.fa) (off z.fa) z.phrases → danCore W' (blk z.da) (off z.da) z.dances → NsAt W' z.refs ks → W'.heap[Z]? = some (.cells z.cells 30 (0, 0)) → Below Wb.heap.size Wb W' → KeepR z W W' → (∀ r ∈ z.refs, FreeB W' r.b) → ∀ (f18 f72 f73 f74 f75 f76 f77 f78 f79 f80 f81 f82 f83 f84 f85 f86 f87 f88 f89 f90 f91 f92 f93 f94 f95 f96 f97 f98 f99 f100 : Value), K { tmps := #[e0, .bool phrase, e2, sv new, e4, e5, e6, e7, e8, .slice (some ⟨gN, 0, none⟩) nN cN, .int .i64 (j : Nat), e11, e12, e13, e14, e15, .pointer (some ⟨Z, 0, none⟩), e17, f18, e19, e20, e21, e22, e23, e24, e25, e26, e27, e28, e29, e30, e31, e32, e33, e34, e35, e36, e37, e38, e39, e40, e41, e42, e43, e44, e45, e46, e47, e48, e49, e50, e51, e52, e53, e54, e55, e56, e57, e58, e59, e60, e61, e62, e63, e64, e65, e66, e67, e68, e69, e70, e71, f72, f73, f74, f75, f76, f77, f78, f79, f80, f81, f82, f83, f84, f85, f86, f87, f88, f89, f90, f91, f92, f93, f94, f95, f96, f97, f98, f99, f100, e101, e102, e103, e104, e105, e106, e107, e108, e109, e110, e111, e112, e113, e114, e115, e116, e117, e118, e119, e120, e121, e122, e123, e124, e125, e126, e127, e128, e129, e130], defers := [] } W') :
  inner4.wp Try.prog (Exit.then K (fun _ _ _ => False)) { tmps := #[e0, .bool phrase, e2, sv new, e4, e5, e6, e7, e8, .slice (some ⟨gN, 0, none⟩) nN cN, .int .i64 (j : Nat), e11, e12, e13, e14, e15, .pointer (some ⟨Z, 0, none⟩), e17, e18, e19, e20, e21, e22, e23, e24, e25, e26, e27, e28, e29, e30, e31, e32, e33, e34, e35, e36, e37, e38, e39, e40, e41, e42, e43, e44, e45, e46, e47, e48, e49, e50, e51, e52, e53, e54, e55, e56, e57, e58, e59, e60, e61, e62, e63, e64, e65, e66, e67, e68, e69, e70, e71, e72, e73, e74, e75, e76, e77, e78, e79, e80, e81, e82, e83, e84, e85, e86, e87, e88, e89, e90, e91, e92, e93, e94, e95, e96, e97, e98, e99, e100, e101, e102, e103, e104, e105, e106, e107, e108, e109, e110, e111, e112, e113, e114, e115, e116, e117, e118, e119, e120, e121, e122, e123, e124, e125, e126, e127, e128, e129, e130], defers := [] } W := by
 have C := pointers_any z Z W hZ hz hlen
 unfold PtrP at C
 have hC2 : Calls Try.prog 21 #[.pointer (some ⟨Z, 0, none⟩)] W fun e w' => ∃ v, e = .returned v ∧ w'.ownsRow W.heap.size 48 2 v (ptrs z.refs).length ((ptrs z.refs).flatMap encQ) ∧ Below W.heap.size W w' := C
 have hcB : RenB (renN phrase old new) Wb Z W.heap.size z := ⟨hsep, fun r hr => ⟨(hrefs r hr).1, (hrefs r hr).2.1, (hrefs r hr).2.2.lt⟩, fun nm => renN_zero _ _ _ _⟩
 obtain ⟨Wk, hWk⟩ : ∃ Wk, Wk = W := ⟨_, rfl⟩
 have hW0 : ∀ v w', w'.ownsRow W.heap.size 48 2 v (ptrs z.refs).length ((ptrs z.refs).flatMap encQ) → Below W.heap.size W w' → RenW (renN phrase old new) Wb Wk Z W.heap.size z ks v 0 w' := fun v w' hr hb2 => by
  rw [hWk]
  exact RenW.first (hb.trans (hb2.mono hb.size)) ⟨hb2.size, fun b hl _ => hb2.block b hl⟩ (hz.below hb2) (keepO hb2 hZ) (fun r hm => (hrefs r hm).2.2.below hb2) hr (hN.below hb2)
 have hK1 : ∀ W', NmAt W' (z.refs.map (RefL.ren (renN phrase old new))) → phCore W' (blk z.fa) (off z.fa) z.phrases → danCore W' (blk z.da) (off z.da) z.dances → NsAt W' z.refs ks → W'.heap[Z]? = some (.cells z.cells 30 (0, 0)) → Below Wb.heap.size Wb W' → KeepR z Wk W' → (∀ r ∈ z.refs, FreeB W' r.b) → ∀ (f18 f72 f73 f74 f75 f76 f77 f78 f79 f80 f81 f82 f83 f84 f85 f86 f87 f88 f89 f90 f91 f92 f93 f94 f95 f96 f97 f98 f99 f100 : Value), K { tmps := #[e0, .bool phrase, e2, sv new, e4, e5, e6, e7, e8, .slice (some ⟨gN, 0, none⟩) nN cN, .int .i64 (j : Nat), e11, e12, e13, e14, e15, .pointer (some ⟨Z, 0, none⟩), e17, f18, e19, e20, e21, e22, e23, e24, e25, e26, e27, e28, e29, e30, e31, e32, e33, e34, e35, e36, e37, e38, e39, e40, e41, e42, e43, e44, e45, e46, e47, e48, e49, e50, e51, e52, e53, e54, e55, e56, e57, e58, e59, e60, e61, e62, e63, e64, e65, e66, e67, e68, e69, e70, e71, f72, f73, f74, f75, f76, f77, f78, f79, f80, f81, f82, f83, f84, f85, f86, f87, f88, f89, f90, f91, f92, f93, f94, f95, f96, f97, f98, f99, f100, e101, e102, e103, e104, e105, e106, e107, e108, e109, e110, e111, e112, e113, e114, e115, e116, e117, e118, e119, e120, e121, e122, e123, e124, e125, e126, e127, e128, e129, e130], defers := [] } W' := by rw [hWk]; exact hK
 have HC := Lib.hid hC2; have HCB := Lib.hid hcB; have HW0 := Lib.hid hW0; have HK0 := Lib.hid hK1; have HNM := Lib.hid hnm
 clear C hC2 hcB hW0 hK1 hK hz hN hsep hrefs hZ hb hnm hWk
 generalize hm : (ptrs z.refs).length = m at *
 have HM := Lib.hid hm
 clear hm
 generalize W.heap.size = B0 at *
 have hjN : (j : Int) < (nN : Int) := by omega
 have hjN2 : ¬ ((nN : Int) ≤ (j : Int)) := by omega
 have hj0 : ¬ ((j : Int) < 0) := by omega
 unfold inner4 body4 loop4 elem4n8 code4
 conv => arg 2; whnf
 go_wp2_with (go_at_call 21; refine HC.out.mono ?_; rintro e w5 ⟨v5, rfl, ho5, hb5⟩; obtain ⟨ao5, c5, rfl, hform, _, _, _, _⟩ := own_new (by omega) ho5; have HCW := Lib.hid (HW0.out _ _ ho5 hb5); have HF := Lib.hid hform; clear ho5 hb5 hform)
 go_loopw [75] (fun iv wr => ∃ i : Nat, iv = .int .i64 i ∧ i ≤ m ∧ Hid (RenW (renN phrase old new) Wb Wk Z B0 z ks (.slice ao5 m c5) i wr)) (fun iv _ => m + 1 - (intOf iv).toNat)
 case atStart => exact ⟨0, rfl, Nat.zero_le _, HCW⟩
 case round =>
  obtain ⟨i, rfl, hin, hW⟩ := hrel
  by_cases hlt : i < m
  ·have hji : (i : Int) < (m : Int) := by omega
   obtain ⟨r, hr⟩ : ∃ r, (ptrs z.refs)[i]? = some r := ⟨_, List.getElem?_eq_getElem (by rw [HM.out]; exact hlt)⟩
   obtain ⟨ea, _, _⟩ := HF.out.resolve_left (by omega)
   have hrow := hW.out.row
   rw [ea, HM.out] at hrow
   have hrv := own_rowV hrow
   have q0 := hrv.get encQ_len (r := 0) hr rfl
   simp only [Nat.add_zero] at q0
   obtain ⟨ph, hph⟩ : ∃ ph, decide (r.to = 2) = ph := ⟨_, rfl⟩
   have q1 : wr.cell? ⟨blk ao5, i * 2 + 1, none⟩ = some (.bool ph) := by
    have := hrv.get encQ_len (r := 1) (u := .bool (decide (r.to = 2))) hr rfl
    rw [hph] at this; exact this
   have hto : r.to ≠ 0 := by
    have := (List.mem_filter.1 (show r ∈ z.refs.filter _ from List.mem_of_getElem? hr)).2
    simpa using this
   obtain ⟨W2, hW2, gW2, bW2, sW2⟩ := mk_cells wr #[.pointer (some ⟨r.b, r.o, none⟩), .bool ph] 48
   have hC1 : ∀ q, RenW (renN phrase old new) Wb Wk Z B0 z ks (.slice ao5 m c5) i (W2.drewN q) := fun q => hW.out.alloc (below_drewN bW2 q)
   have hcell := fun q => (hC1 q).cell HCB.out hr
   have hren : ∀ e, (r.nm == old) = e → renN phrase old new r.to r.nm = if (ph == phrase) && e then new else r.nm := fun e he => by
    unfold renN
    rw [hph]
    have : (r.nm = old) ↔ e = true := by rw [← he]; simp
    cases e <;> cases hpp : (ph == phrase) <;> simp [hto, this]
   have b0 : W2.cell? ⟨wr.heap.size, 0, none⟩ = some (.pointer (some ⟨r.b, r.o, none⟩)) := cell_at gW2 0 rfl
   have b1 : W2.cell? ⟨wr.heap.size, 1, none⟩ = some (.bool ph) := cell_at gW2 1 rfl
   have cM2 : W2.cell? ⟨r.b, r.o, none⟩ = some (sv r.nm) := (hcell 0).2.1
   have cN2 : W2.cell? ⟨gN, j, none⟩ = some (sv old) := keep_cell (hW.out.below.trans (bW2.mono hW.out.below.size)) HNM.out
   have z0 : W2.frozen? ⟨r.b, r.o, none⟩ = false := ((hC1 0).free r (hcell 0).1).free r.o
   obtain ⟨e, he⟩ : ∃ e, (r.nm == old) = e := ⟨_, rfl⟩
   have hrn := hren e he
   have hs1 : ((ph == phrase) && e) = true → ∀ q, RenW (renN phrase old new) Wb Wk Z B0 z ks (.slice ao5 m c5) (i + 1) ((W2.drewN q).setCell ⟨r.b, r.o, none⟩ (sv new)) := fun h q => by
    have h2 := (hcell q).2.2.2
    rw [hrn, if_pos h] at h2
    exact h2
   have hs2 : ((ph == phrase) && e) = false → ∀ q, RenW (renN phrase old new) Wb Wk Z B0 z ks (.slice ao5 m c5) (i + 1) (W2.drewN q) := fun h q => (hcell q).2.2.1 (by rw [hrn, if_neg (by rw [h]; decide)])
   have HW2 := Lib.hid hW2; have HEA := Lib.hid ea; have HS1 := Lib.hid hs1; have HS2 := Lib.hid hs2
   have HCELL := Lib.hid (And.intro b0 (And.intro b1 (And.intro cM2 (And.intro cN2 z0))))
   clear hW2 gW2 bW2 sW2 ea hrow hrv hW hC1 hcell hren hrn hs1 hs2 b0 b1 cM2 cN2 z0 hto hph hr
   rw [HEA.out]
   go_wp2_with fail
   rw [HW2.out]
   obtain ⟨b0, b1, cM2, cN2, z0⟩ := HCELL.out
   clear q0 q1 HCELL
   cases ph <;> cases phrase <;> cases e
   all_goals
    go_quiet (fail)
    have z0 : ∀ nq, (W2.drewN nq).frozen? ⟨r.b, r.o, none⟩ = false := fun _ => z0
    go_wp2_with fail
    go_roundw
    case rel =>
     refine ⟨i + 1, by go_num, by omega, ?_⟩
     rw [← HEA.out]
     first
      | exact Lib.hid (HS1.out (by decide) _)
      | exact Lib.hid (HS2.out (by decide) _)
    case measure => simp [intOf]; omega
  ·obtain rfl : i = m := by omega
   have hz : ¬ (i : Int) < (i : Int) := by omega
   have hd := hW.out
   rw [← HM.out] at hd
   go_wp2_with fail
   exact HK0.out _ (hd.done HCB.out) hd.ph hd.da hd.ns hd.box hd.below hd.keep hd.free _ _ _ _ _ _ _ _ _ _ _ _ _ _ _ _ _ _ _ _ _ _ _ _ _ _ _ _ _ _
end Go.Proofs.Ytpnbpepkoekkoaa
end
section
namespace Go.Proofs.Ytpnbpepkoekkoaa
open Go Go.RowKit Go.Deep
def setPh : List Ph → Nat → Nm → List Ph
 | [], _, _ => []
 | p :: l, 0, nm => { p with name := nm } :: l
 | p :: l, i + 1, nm => p :: setPh l i nm
theorem setPh_strip : ∀ (l : List Ph) (i : Nat) (nm : Nm), (setPh l i nm).map Ph.strip = setPr (l.map Ph.strip) i nm
 | [], _, _ => rfl
 | _ :: _, 0, _ => rfl
 | p :: l, i + 1, nm => by simp only [setPh, List.map_cons, setPr, setPh_strip l i nm]
theorem setPh_len (l : List Ph) (i : Nat) (nm : Nm) : (setPh l i nm).length = l.length := by
 have := congrArg List.length (setPh_strip l i nm)
 simpa [setPr_len] using this
theorem setPh_refs : ∀ (l : List Ph) (i : Nat) (nm : Nm), phRefs (setPh l i nm) = phRefs l
 | [], _, _ => rfl
 | _ :: _, 0, _ => rfl
 | p :: l, i + 1, nm => by simp only [setPh, phRefs, setPh_refs l i nm]
theorem setPh_own : ∀ (l : List Ph) (i : Nat) (nm : Nm), phOwn (setPh l i nm) = phOwn l
 | [], _, _ => rfl
 | _ :: _, 0, _ => rfl
 | p :: l, i + 1, nm => by
  have := setPh_own l i nm
  unfold phOwn at this ⊢
  simp only [setPh, List.flatMap_cons, this]
theorem phAt_name {w : World} {b : Nat} {nm : Nm} : ∀ {o i : Nat} {ps : List Ph}, i < ps.length → b ∉ phOwn ps → phAt w b o ps → phAt (w.setCell ⟨b, o + i * 2, none⟩ (sv nm)) b o (setPh ps i nm)
 | _, _, [], h, _, _ => by simp at h
 | o, 0, p :: r, _, hb, ⟨⟨h1, h2, h3⟩, h⟩ => by
  rw [show o + 0 * 2 = o by omega]
  have hm : ∀ c ∈ phOwn (p :: r), ∀ q v, w.cell? ⟨c, q, none⟩ = some v → (w.setCell ⟨b, o, none⟩ (sv nm)).cell? ⟨c, q, none⟩ = some v := fun c hc q v hv => cell_set_ne hv (addr_ne (Or.inl fun e => hb (e ▸ hc)))
  exact ⟨⟨World.cell?_setCell_same _ _ _ h1, cell_set_ne h2 (addr_ne (by omega)), Ph.Its.kept (p := p) h3 fun c hc => hm c (by simp [phOwn, hc])⟩, phAt_kept h (fun q v hq hv => cell_set_ne hv (addr_ne (by omega))) fun c hc => hm c (by unfold phOwn at *; simp [hc])⟩
 | o, i + 1, p :: r, hi, hb, ⟨⟨h1, h2, h3⟩, h⟩ => by
  have hb2 : b ∉ phOwn r := fun hc => hb (by unfold phOwn at *; simp [hc])
  have ih := phAt_name (nm := nm) (i := i) (by simpa using hi) hb2 h
  rw [show o + 2 + i * 2 = o + (i + 1) * 2 by omega] at ih
  exact ⟨⟨cell_set_ne h1 (addr_ne (by omega)), cell_set_ne h2 (addr_ne (by omega)), h3.kept fun c hc q v hv => cell_set_ne hv (addr_ne (Or.inl fun e => hb (by rw [e]; simp [phOwn, hc])))⟩, ih⟩
theorem setR_get : ∀ (l : List Rol) (i j : Nat) (nm : Nm), (setR l i nm)[j]? = if i = j then (l[j]?).map (fun r => { r with name := nm }) else l[j]?
 | [], _, _, _ => by simp [setR]
 | _ :: _, 0, 0, _ => rfl
 | _ :: _, 0, j + 1, _ => by simp [setR]
 | _ :: _, i + 1, 0, _ => by simp [setR]
 | _ :: l, i + 1, j + 1, nm => by simp [setR, setR_get l i j nm]
theorem row_name {w : World} {b o i : Nat} {xs : List Rol} {nm : Nm} (h : AtRow encR 4 w b o xs) : AtRow encR 4 (w.setCell ⟨b, o + i * 4, none⟩ (sv nm)) b o (setR xs i nm) := by
 intro i' x hx j v hv
 have hj : j < 4 := by have := (List.getElem?_eq_some_iff.1 hv).1; rw [encR_len] at this; exact this
 rw [setR_get] at hx
 by_cases e : i = i'
 ·subst e
  rw [if_pos rfl] at hx
  obtain ⟨r, hr, rfl⟩ := Option.map_eq_some_iff.1 hx
  match j, hj with
  | 0, _ =>
   have e2 : v = sv nm := by simpa [encR] using hv.symm
   rw [e2]
   exact World.cell?_setCell_same _ _ _ (h i r hr 0 (sv r.name) rfl)
  | 1, _ => exact cell_set_ne (h i r hr 1 v hv) (addr_ne (by omega))
  | 2, _ => exact cell_set_ne (h i r hr 2 v hv) (addr_ne (by omega))
  | 3, _ => exact cell_set_ne (h i r hr 3 v hv) (addr_ne (by omega))
 ·rw [if_neg e] at hx
  exact cell_set_ne (h i' x hx j v hv) (addr_ne (by omega))
theorem isRow_name {w : World} {g i n c : Nat} {xs : List Rol} {nm : Nm} (h : IsRow encR 4 w (.slice (some ⟨g, 0, none⟩) n c) xs) : IsRow encR 4 (w.setCell ⟨g, i * 4, none⟩ (sv nm)) (.slice (some ⟨g, 0, none⟩) n c) (setR xs i nm) := by
 obtain ⟨ao, c', e, h1, h2⟩ := h
 refine ⟨ao, c', by rw [setR_len]; exact e, by rw [setR_len]; exact h1, ?_⟩
 rcases h2 with h2 | ⟨b, o, e2, h3, h4⟩
 ·left; rw [h2]; rfl
 ·right
  injection e with e3 _ _
  rw [← e3] at e2
  injection e2 with e2
  injection e2 with e4 e5 _
  subst e4; subst e5
  refine ⟨g, 0, e3.symm, ?_, by simpa [World.setCell] using h4⟩
  have := row_name (i := i) (nm := nm) h3
  rwa [Nat.zero_add] at this
def Ls.renamed (x : Ls) (phrase : Bool) (j : Nat) (old new : Nm) : Ls :=
 { x with roles := if phrase then x.roles else setR x.roles j new, phrases := if phrase then setPh (x.phrases.map (Ph.ren (renN phrase old new))) j new else x.phrases.map (Ph.ren (renN phrase old new)), dances := x.dances.map (Dan.ren (renN phrase old new)) }
theorem ph_ren_strip (f : Nat → Nm → Nm) (ps : List Ph) : (ps.map (Ph.ren f)).map Ph.strip = (ps.map Ph.strip).map (Phr.ren f) := by
 rw [List.map_map, List.map_map]
 congr 1
 funext p
 show (⟨p.name, (p.its.ren f).strip⟩ : Phr) = ⟨p.name, p.its.strip.ren f⟩
 rw [Lt.ren_strip]
theorem Ls.renamed_strip (x : Ls) (phrase : Bool) (j : Nat) (old new : Nm) : (x.renamed phrase j old new).strip = x.strip.renamed phrase j old new := by
 unfold Ls.renamed Ls.strip Sc.renamed
 cases phrase with
 | true => simp only [if_true, setPh_strip, ph_ren_strip]
 | false => simp only [Bool.false_eq_true, if_false, ph_ren_strip]
theorem Ls.renamed_refs (x : Ls) (phrase : Bool) (j : Nat) (old new : Nm) : (x.renamed phrase j old new).refs = x.refs.map (RefL.ren (renN phrase old new)) := by
 rw [← Ls.ren_refs]
 unfold Ls.renamed Ls.refs Ls.ren
 cases phrase with
 | true => simp only [if_true, setPh_refs]
 | false => simp only [Bool.false_eq_true, if_false]
theorem Ls.renamed_cells (x : Ls) (phrase : Bool) (j : Nat) (old new : Nm) : (x.renamed phrase j old new).cells = x.cells := by
 unfold Ls.renamed Ls.cells
 cases phrase with
 | true => simp only [if_true, setPh_len, List.length_map]
 | false => simp only [Bool.false_eq_true, if_false, setR_len, List.length_map]
theorem Lt.ren_blocks (f : Nat → Nm → Nm) : ∀ T : Lt, (T.ren f).blocks = T.blocks
 | .nil => rfl
 | .cons _ _ _ _ _ its _ _ ms r => by
  simp only [Lt.ren, Lt.blocks, Lt.ren_len, its.ren_blocks f, r.ren_blocks f, List.map_eq_nil_iff]
theorem ph_ren_own (f : Nat → Nm → Nm) : ∀ ps : List Ph, phOwn (ps.map (Ph.ren f)) = phOwn ps
 | [] => rfl
 | p :: r => by
  have := ph_ren_own f r
  unfold phOwn at this ⊢
  rw [List.map_cons, List.flatMap_cons, List.flatMap_cons, this]
  congr 1
  show (p.its.ren f).own p.ia = p.its.own p.ia
  unfold Lt.own
  rw [Lt.ren_len, Lt.ren_blocks]
theorem Ls.renamed_blk (x : Ls) (phrase : Bool) (j : Nat) (old new : Nm) (b : Nat) : (x.renamed phrase j old new).Blk b ↔ x.Blk b := by
 unfold Ls.Blk
 rw [Ls.renamed_refs]
 have e : phOwn (x.renamed phrase j old new).phrases = phOwn x.phrases := by
  unfold Ls.renamed
  cases phrase with
  | true => simp only [if_true, setPh_own, ph_ren_own]
  | false => simp only [Bool.false_eq_true, if_false, ph_ren_own]
 rw [e]
 have e2 : (∃ r ∈ x.refs.map (RefL.ren (renN phrase old new)), r.b = b) ↔ ∃ r ∈ x.refs, r.b = b := by
  constructor
  ·rintro ⟨r, hr, h⟩
   obtain ⟨y, hy, rfl⟩ := List.mem_map.1 hr
   exact ⟨y, hy, h⟩
  ·rintro ⟨r, hr, h⟩
   exact ⟨_, List.mem_map.2 ⟨r, hr, rfl⟩, h⟩
 rw [e2]; rfl
structure CopyB (w : World) (Z lo hi : Nat) (x : Ls) : Prop where
 rows : IsRow encT 3 w (.slice x.ta x.tempos.length x.tc) x.tempos ∧ IsRow encP 4 w (.slice x.ua x.pauses.length x.uc) x.pauses ∧ IsRow encC 4 w (.slice x.sa x.spans.length x.sc) x.spans
 sep : x.Sep
 raf : x.ra = some ⟨blk x.ra, 0, none⟩
 faf : x.fa = some ⟨blk x.fa, 0, none⟩
 ra : ∀ r ∈ x.refs, r.b ≠ blk x.ra
 fa : ∀ r ∈ x.refs, r.b ≠ blk x.fa
 rp : blk x.ra ∉ phOwn x.phrases
 rf : blk x.ra ≠ blk x.fa
 rd : blk x.ra ≠ blk x.da
 fd : blk x.fa ≠ blk x.da
 blk_ : ∀ b, x.Blk b → lo ≤ b ∧ b < hi
 low : w.heap.size ≤ lo
 zlow : w.heap.size ≤ Z
 zout : Z < lo ∨ hi ≤ Z
structure CopyW (Z : Nat) (x : Ls) (ks : List Int) (W : World) : Prop where
 at_ : x.At W
 ns : NsAt W x.refs ks
 free : ∀ r ∈ x.refs, FreeB W r.b
 fra : FreeB W (blk x.ra)
 ffa : FreeB W (blk x.fa)
 box : W.heap[Z]? = some (.cells x.cells 30 (0, 0))
theorem CopyW.below {Z : Nat} {x : Ls} {ks : List Int} {W W' : World} (h : CopyW Z x ks W) (hb : Below W.heap.size W W') : CopyW Z x ks W' := ⟨h.at_.below hb, h.ns.below hb, fun r hr => (h.free r hr).below hb, h.fra.below hb, h.ffa.below hb, keepO hb h.box⟩
def KeepB (z : Ls) (W0 W : World) : Prop := W0.heap.size ≤ W.heap.size ∧ ∀ b, b < W0.heap.size → ¬ z.Blk b → W.heap[b]? = W0.heap[b]?
theorem KeepR.toB {z : Ls} {W0 W : World} (h : KeepR z W0 W) : KeepB z W0 W := ⟨h.1, fun b hb hn => h.2 b hb fun r hr e => hn (Or.inr (Or.inr (Or.inr ⟨r, hr, e⟩)))⟩
theorem KeepB.set {z : Ls} {W0 W : World} (h : KeepB z W0 W) {g : Nat} (hg : z.Blk g) (q : Nat) (v : Value) : KeepB z W0 (W.setCell ⟨g, q, none⟩ v) := ⟨by simpa [World.setCell] using h.1, fun b hl hb => (Below.heap_setCell _ _ _ _ (fun e => hb (by rw [show b = g from e]; exact hg))).trans (h.2 b hl hb)⟩
theorem FreeB.same {W W' : World} {b : Nat} (h : FreeB W b) (hb : W'.heap[b]? = W.heap[b]?) : FreeB W' b := by
 obtain ⟨cur, t, h⟩ := h
 exact ⟨cur, t, hb.trans h⟩
theorem CopyW.stay {w : World} {Z Z2 lo hi lo2 hi2 : Nat} {x x' y : Ls} {ks : List Int} {W W' : World} (h : CopyW Z x' ks W) (hx' : x' = x ∨ ∃ ph j old new, x' = x.renamed ph j old new) (hB : CopyB w Z lo hi x) (hC : CopyB w Z2 lo2 hi2 y) (hd : hi ≤ lo2 ∨ hi2 ≤ lo) (hZ : Z < lo2 ∨ hi2 ≤ Z) (hhi : hi ≤ W.heap.size) (hb : Below w.heap.size w W') (hk : KeepB y W W') : CopyW Z x' ks W' := by
 have hbl : ∀ b, x'.Blk b → lo ≤ b ∧ b < hi := fun b hb => by
  rcases hx' with e | ⟨ph, j, old, new, e⟩
  ·rw [e] at hb; exact hB.blk_ b hb
  ·rw [e] at hb; exact hB.blk_ b ((Ls.renamed_blk ..).1 hb)
 have hraf : x'.ra = some ⟨blk x'.ra, 0, none⟩ := by
  rcases hx' with e | ⟨ph, j, old, new, e⟩ <;> rw [e]
  ·exact hB.raf
  ·exact hB.raf
 have hrows : IsRow encT 3 w (.slice x'.ta x'.tempos.length x'.tc) x'.tempos ∧ IsRow encP 4 w (.slice x'.ua x'.pauses.length x'.uc) x'.pauses ∧ IsRow encC 4 w (.slice x'.sa x'.spans.length x'.sc) x'.spans := by
  rcases hx' with e | ⟨ph, j, old, new, e⟩ <;> rw [e]
  ·exact hB.rows
  ·exact hB.rows
 have hkk : ∀ b, x'.Blk b → b < W.heap.size → W'.heap[b]? = W.heap[b]? := fun b hb1 hb2 => hk.2 b hb2 fun hy => by
  have h1 := hC.blk_ b hy
  have h2 := hbl b hb1
  omega
 have hg := hbl (blk x'.ra) (Or.inl rfl)
 have hf := hbl (blk x'.fa) (Or.inr (Or.inl rfl))
 obtain ⟨h1, h2, h3⟩ := Ls.stay h.at_ h.ns hraf (by omega) h.free hrows hb hk.1 hkk
 have hZl : Z < W.heap.size := (Array.getElem?_eq_some_iff.1 h.box).1
 exact ⟨h1, h2, h3, h.fra.same (hkk _ (Or.inl rfl) (by omega)), h.ffa.same (hkk _ (Or.inr (Or.inl rfl)) (by omega)), (hk.2 Z hZl fun hy => by have := hC.blk_ Z hy; omega).trans h.box⟩
end Go.Proofs.Ytpnbpepkoekkoaa
end
section
namespace Go.Proofs.Ytpnbpepkoekkoaa
open Go Go.RowKit Go.Deep
set_option maxRecDepth 100000 in
set_option maxHeartbeats 16000000 in
theorem name_wf (Z g n c j : Nat) (new o : Nm) (W : World) (hZ : W.cell? ⟨Z, 6, none⟩ = some (.slice (some ⟨g, 0, none⟩) n c)) (hj : j < n) (hc : W.cell? ⟨g, j * 4, none⟩ = some (sv o)) (hf : FreeB W g) (e0 e2 e4 e5 e6 e7 e8 e9 e11 e12 e13 e14 e15 e17 e18 e19 e20 e21 e22 e23 e24 e25 e26 e27 e28 e29 e30 e31 e32 e33 e34 e35 e36 e37 e38 e39 e40 e41 e42 e43 e44 e45 e46 e47 e48 e49 e50 e51 e52 e53 e54 e55 e56 e57 e58 e59 e60 e61 e62 e63 e64 e65 e66 e67 e68 e69 e70 e71 e72 e73 e74 e75 e76 e77 e78 e79 e80 e81 e82 e83 e84 e85 e86 e87 e88 e89 e90 e91 e92 e93 e94 e95 e96 e97 e98 e99 e100 e101 e102 e103 e104 e105 e106 e107 e108 e109 e110 e111 e112 e113 e114 e115 e116 e117 e118 e119 e120 e121 e122 e123 e124 e125 e126 e127 e128 e129 e130 : Value) (K : Act → World → Prop)
  (hK : ∀ (f101 f102 f103 f104 f105 f106 f107 f108 f109 f110 f111 f112 f113 f114 f115 f116 f117 : Value), K { tmps := #[e0, .bool false, e2, sv new, e4, e5, e6, e7, e8, e9, .int .i64 (j : Nat), e11, e12, e13, e14, e15, .pointer (some ⟨Z, 0, none⟩), e17, e18, e19, e20, e21, e22, e23, e24, e25, e26, e27, e28, e29, e30, e31, e32, e33, e34, e35, e36, e37, e38, e39, e40, e41, e42, e43, e44, e45, e46, e47, e48, e49, e50, e51, e52, e53, e54, e55, e56, e57, e58, e59, e60, e61, e62, e63, e64, e65, e66, e67, e68, e69, e70, e71, e72, e73, e74, e75, e76, e77, e78, e79, e80, e81, e82, e83, e84, e85, e86, e87, e88, e89, e90, e91, e92, e93, e94, e95, e96, e97, e98, e99, e100, f101, f102, f103, f104, f105, f106, f107, f108, f109, f110, f111, f112, f113, f114, f115, f116, f117, e118, e119, e120, e121, e122, e123, e124, e125, e126, e127, e128, e129, e130], defers := [] } (W.setCell ⟨g, j * 4, none⟩ (sv new))) :
  name4.wp Try.prog (Exit.then K (fun _ _ _ => False)) { tmps := #[e0, .bool false, e2, sv new, e4, e5, e6, e7, e8, e9, .int .i64 (j : Nat), e11, e12, e13, e14, e15, .pointer (some ⟨Z, 0, none⟩), e17, e18, e19, e20, e21, e22, e23, e24, e25, e26, e27, e28, e29, e30, e31, e32, e33, e34, e35, e36, e37, e38, e39, e40, e41, e42, e43, e44, e45, e46, e47, e48, e49, e50, e51, e52, e53, e54, e55, e56, e57, e58, e59, e60, e61, e62, e63, e64, e65, e66, e67, e68, e69, e70, e71, e72, e73, e74, e75, e76, e77, e78, e79, e80, e81, e82, e83, e84, e85, e86, e87, e88, e89, e90, e91, e92, e93, e94, e95, e96, e97, e98, e99, e100, e101, e102, e103, e104, e105, e106, e107, e108, e109, e110, e111, e112, e113, e114, e115, e116, e117, e118, e119, e120, e121, e122, e123, e124, e125, e126, e127, e128, e129, e130], defers := [] } W := by
 have HK := Lib.hid hK
 have z0 := hf.free (j * 4)
 have hjN : (j : Int) < (n : Int) := by omega
 have hjN2 : ¬ ((n : Int) ≤ (j : Int)) := by omega
 have hj0 : ¬ ((j : Int) < 0) := by omega
 clear hK hf
 unfold name4 body4 loop4 elem4n8 code4
 conv => arg 2; whnf
 go_wp2_with fail
 exact HK.out _ _ _ _ _ _ _ _ _ _ _ _ _ _ _ _ _
set_option maxRecDepth 100000 in
set_option maxHeartbeats 16000000 in
theorem name_wt (Z g n c j : Nat) (new o : Nm) (W : World) (hZ : W.cell? ⟨Z, 10, none⟩ = some (.slice (some ⟨g, 0, none⟩) n c)) (hj : j < n) (hc : W.cell? ⟨g, j * 2, none⟩ = some (sv o)) (hf : FreeB W g) (e0 e2 e4 e5 e6 e7 e8 e9 e11 e12 e13 e14 e15 e17 e18 e19 e20 e21 e22 e23 e24 e25 e26 e27 e28 e29 e30 e31 e32 e33 e34 e35 e36 e37 e38 e39 e40 e41 e42 e43 e44 e45 e46 e47 e48 e49 e50 e51 e52 e53 e54 e55 e56 e57 e58 e59 e60 e61 e62 e63 e64 e65 e66 e67 e68 e69 e70 e71 e72 e73 e74 e75 e76 e77 e78 e79 e80 e81 e82 e83 e84 e85 e86 e87 e88 e89 e90 e91 e92 e93 e94 e95 e96 e97 e98 e99 e100 e101 e102 e103 e104 e105 e106 e107 e108 e109 e110 e111 e112 e113 e114 e115 e116 e117 e118 e119 e120 e121 e122 e123 e124 e125 e126 e127 e128 e129 e130 : Value) (K : Act → World → Prop)
  (hK : ∀ (f101 f102 f103 f104 f105 f106 f107 f108 f109 f110 f111 f112 f113 f114 f115 f116 f117 : Value), K { tmps := #[e0, .bool true, e2, sv new, e4, e5, e6, e7, e8, e9, .int .i64 (j : Nat), e11, e12, e13, e14, e15, .pointer (some ⟨Z, 0, none⟩), e17, e18, e19, e20, e21, e22, e23, e24, e25, e26, e27, e28, e29, e30, e31, e32, e33, e34, e35, e36, e37, e38, e39, e40, e41, e42, e43, e44, e45, e46, e47, e48, e49, e50, e51, e52, e53, e54, e55, e56, e57, e58, e59, e60, e61, e62, e63, e64, e65, e66, e67, e68, e69, e70, e71, e72, e73, e74, e75, e76, e77, e78, e79, e80, e81, e82, e83, e84, e85, e86, e87, e88, e89, e90, e91, e92, e93, e94, e95, e96, e97, e98, e99, e100, f101, f102, f103, f104, f105, f106, f107, f108, f109, f110, f111, f112, f113, f114, f115, f116, f117, e118, e119, e120, e121, e122, e123, e124, e125, e126, e127, e128, e129, e130], defers := [] } (W.setCell ⟨g, j * 2, none⟩ (sv new))) :
  name4.wp Try.prog (Exit.then K (fun _ _ _ => False)) { tmps := #[e0, .bool true, e2, sv new, e4, e5, e6, e7, e8, e9, .int .i64 (j : Nat), e11, e12, e13, e14, e15, .pointer (some ⟨Z, 0, none⟩), e17, e18, e19, e20, e21, e22, e23, e24, e25, e26, e27, e28, e29, e30, e31, e32, e33, e34, e35, e36, e37, e38, e39, e40, e41, e42, e43, e44, e45, e46, e47, e48, e49, e50, e51, e52, e53, e54, e55, e56, e57, e58, e59, e60, e61, e62, e63, e64, e65, e66, e67, e68, e69, e70, e71, e72, e73, e74, e75, e76, e77, e78, e79, e80, e81, e82, e83, e84, e85, e86, e87, e88, e89, e90, e91, e92, e93, e94, e95, e96, e97, e98, e99, e100, e101, e102, e103, e104, e105, e106, e107, e108, e109, e110, e111, e112, e113, e114, e115, e116, e117, e118, e119, e120, e121, e122, e123, e124, e125, e126, e127, e128, e129, e130], defers := [] } W := by
 have HK := Lib.hid hK
 have z0 := hf.free (j * 2)
 have hjN : (j : Int) < (n : Int) := by omega
 have hjN2 : ¬ ((n : Int) ≤ (j : Int)) := by omega
 have hj0 : ¬ ((j : Int) < 0) := by omega
 clear hK hf
 unfold name4 body4 loop4 elem4n8 code4
 conv => arg 2; whnf
 go_wp2_with fail
 exact HK.out _ _ _ _ _ _ _ _ _ _ _ _ _ _ _ _ _
theorem renamed_role {w W W1 : World} {Z lo hi : Nat} {x : Ls} {ks : List Int} {j : Nat} {old new : Nm} (hB : CopyB w Z lo hi x) (h : CopyW Z x ks W) (h1 : NmAt W1 (x.refs.map (RefL.ren (renN false old new)))) (h2 : phCore W1 (blk x.fa) (off x.fa) x.phrases) (h3 : danCore W1 (blk x.da) (off x.da) x.dances) (h4 : NsAt W1 x.refs ks) (h5 : W1.heap[Z]? = some (.cells x.cells 30 (0, 0))) (h6 : Below w.heap.size w W1) (h7 : KeepR x W W1) (h8 : ∀ r ∈ x.refs, FreeB W1 r.b) :
  CopyW Z (x.renamed false j old new) ks (W1.setCell ⟨blk x.ra, j * 4, none⟩ (sv new)) ∧ Below w.heap.size w (W1.setCell ⟨blk x.ra, j * 4, none⟩ (sv new)) ∧ KeepB x W (W1.setCell ⟨blk x.ra, j * 4, none⟩ (sv new)) := by
 have hg := hB.blk_ (blk x.ra) (Or.inl rfl)
 have hlow := hB.low
 have hral : blk x.ra < W.heap.size := h.fra.lt
 have hro : IsRow encR 4 W1 (.slice x.ra x.roles.length x.rc) x.roles := by
  have := h.at_.roles
  rw [hB.raf] at this ⊢
  exact row_keep this (h7.2 _ hral hB.ra) h7.1
 have hfr : FreeB W1 (blk x.ra) := h.fra.same (h7.2 _ hral hB.ra)
 have hff : FreeB W1 (blk x.fa) := h.ffa.same (h7.2 _ h.ffa.lt hB.fa)
 have hb2 : Below w.heap.size w (W1.setCell ⟨blk x.ra, j * 4, none⟩ (sv new)) := h6.setCell (p := ⟨blk x.ra, j * 4, none⟩) (by show w.heap.size ≤ blk x.ra; omega) _
 have hy := ren_at (f := renN false old new) ⟨hro, hB.rows.1.below h6 (Nat.le_refl _), hB.rows.2.1.below h6 (Nat.le_refl _), hB.rows.2.2.below h6 (Nat.le_refl _)⟩ h.at_.pform h.at_.plen h.at_.dform h.at_.dlen h2 h3 h1
 have far : ∀ b, b ≠ blk x.ra → ∀ q v, W1.cell? ⟨b, q, none⟩ = some v → (W1.setCell ⟨blk x.ra, j * 4, none⟩ (sv new)).cell? ⟨b, q, none⟩ = some v := fun b hb q v hv => cell_set_ne hv (addr_ne (Or.inl fun e => hb e.symm))
 refine ⟨⟨⟨?_, hB.rows.1.below hb2 (Nat.le_refl _), hB.rows.2.1.below hb2 (Nat.le_refl _), hB.rows.2.2.below hb2 (Nat.le_refl _), hy.pform, hy.plen, ?_, hy.dform, hy.dlen, ?_⟩, ?_, ?_, hfr.set _ _, hff.set _ _, ?_⟩, hb2, h7.toB.set (Or.inl rfl) _ _⟩
 ·show IsRow encR 4 _ (.slice x.ra (setR x.roles j new).length x.rc) (setR x.roles j new)
  rw [setR_len]
  rw [hB.raf] at hro ⊢
  exact isRow_name hro
 ·exact phAt_kept hy.phrases (fun q v _ hv => far _ (Ne.symm hB.rf) q v hv) fun c hc q v hv => far c (fun e => hB.rp (by have hc2 : c ∈ phOwn (x.phrases.map (Ph.ren (renN false old new))) := hc; rw [ph_ren_own] at hc2; rw [← e]; exact hc2)) q v hv
 ·exact danAt_kept hy.dances fun q v _ hv => far _ (Ne.symm hB.rd) q v hv
 ·rw [Ls.renamed_refs]
  exact NsAt_ren _ (h4.kept fun r hr v hv => far _ (hB.ra r hr) _ v hv)
 ·intro r hr
  rw [Ls.renamed_refs] at hr
  obtain ⟨y, hy, rfl⟩ := List.mem_map.1 hr
  exact (h8 y hy).set _ _
 ·rw [Ls.renamed_cells]
  exact (Below.heap_setCell _ _ _ _ (fun e => by have := hB.zout; have e2 : Z = blk x.ra := e; omega)).trans h5
theorem renamed_phr {w W W1 : World} {Z lo hi : Nat} {x : Ls} {ks : List Int} {j : Nat} {old new : Nm} (hB : CopyB w Z lo hi x) (h : CopyW Z x ks W) (hj : j < x.phrases.length) (h1 : NmAt W1 (x.refs.map (RefL.ren (renN true old new)))) (h2 : phCore W1 (blk x.fa) (off x.fa) x.phrases) (h3 : danCore W1 (blk x.da) (off x.da) x.dances) (h4 : NsAt W1 x.refs ks) (h5 : W1.heap[Z]? = some (.cells x.cells 30 (0, 0))) (h6 : Below w.heap.size w W1) (h7 : KeepR x W W1) (h8 : ∀ r ∈ x.refs, FreeB W1 r.b) :
  CopyW Z (x.renamed true j old new) ks (W1.setCell ⟨blk x.fa, j * 2, none⟩ (sv new)) ∧ Below w.heap.size w (W1.setCell ⟨blk x.fa, j * 2, none⟩ (sv new)) ∧ KeepB x W (W1.setCell ⟨blk x.fa, j * 2, none⟩ (sv new)) := by
 have hg := hB.blk_ (blk x.fa) (Or.inr (Or.inl rfl))
 have hlow := hB.low
 have hral : blk x.ra < W.heap.size := h.fra.lt
 have hro : IsRow encR 4 W1 (.slice x.ra x.roles.length x.rc) x.roles := by
  have := h.at_.roles
  rw [hB.raf] at this ⊢
  exact row_keep this (h7.2 _ hral hB.ra) h7.1
 have hfr : FreeB W1 (blk x.ra) := h.fra.same (h7.2 _ hral hB.ra)
 have hff : FreeB W1 (blk x.fa) := h.ffa.same (h7.2 _ h.ffa.lt hB.fa)
 have hb2 : Below w.heap.size w (W1.setCell ⟨blk x.fa, j * 2, none⟩ (sv new)) := h6.setCell (p := ⟨blk x.fa, j * 2, none⟩) (by show w.heap.size ≤ blk x.fa; omega) _
 have hy := ren_at (f := renN true old new) ⟨hro, hB.rows.1.below h6 (Nat.le_refl _), hB.rows.2.1.below h6 (Nat.le_refl _), hB.rows.2.2.below h6 (Nat.le_refl _)⟩ h.at_.pform h.at_.plen h.at_.dform h.at_.dlen h2 h3 h1
 have far : ∀ b, b ≠ blk x.fa → ∀ q v, W1.cell? ⟨b, q, none⟩ = some v → (W1.setCell ⟨blk x.fa, j * 2, none⟩ (sv new)).cell? ⟨b, q, none⟩ = some v := fun b hb q v hv => cell_set_ne hv (addr_ne (Or.inl fun e => hb e.symm))
 refine ⟨⟨⟨?_, hB.rows.1.below hb2 (Nat.le_refl _), hB.rows.2.1.below hb2 (Nat.le_refl _), hB.rows.2.2.below hb2 (Nat.le_refl _), Or.inr (by show x.fa = some ⟨blk x.fa, off x.fa, none⟩; rw [show off x.fa = 0 by rw [hB.faf]; rfl]; exact hB.faf), ?_, ?_, hy.dform, hy.dlen, ?_⟩, ?_, ?_, hfr.set _ _, hff.set _ _, ?_⟩, hb2, h7.toB.set (Or.inr (Or.inl rfl)) _ _⟩
 ·show IsRow encR 4 _ (.slice x.ra x.roles.length x.rc) x.roles
  rw [hB.raf] at hro ⊢
  exact row_keep hro (Below.heap_setCell _ _ _ _ (fun e => hB.rf e)) (by simp [World.setCell])
 ·show (setPh (x.phrases.map _) j new).length ≤ _
  rw [setPh_len, List.length_map]; exact h.at_.plen
 ·have hp : phAt W1 (blk x.fa) (off x.fa) (x.phrases.map (Ph.ren (renN true old new))) := hy.phrases
  have ho : off x.fa = 0 := by rw [hB.faf]; rfl
  show phAt _ (blk x.fa) (off x.fa) (setPh (x.phrases.map _) j new)
  rw [ho] at hp ⊢
  have := phAt_name (nm := new) (i := j) (by rw [List.length_map]; exact hj) (by rw [ph_ren_own]; exact hB.sep.fa) hp
  rwa [Nat.zero_add] at this
 ·exact danAt_kept hy.dances fun q v _ hv => far _ (Ne.symm hB.fd) q v hv
 ·rw [Ls.renamed_refs]
  exact NsAt_ren _ (h4.kept fun r hr v hv => far _ (hB.fa r hr) _ v hv)
 ·intro r hr
  rw [Ls.renamed_refs] at hr
  obtain ⟨y, hy, rfl⟩ := List.mem_map.1 hr
  exact (h8 y hy).set _ _
 ·rw [Ls.renamed_cells]
  exact (Below.heap_setCell _ _ _ _ (fun e => by have := hB.zout; have e2 : Z = blk x.fa := e; omega)).trans h5
theorem phCore_get {w : World} {b : Nat} : ∀ {o i : Nat} {ps : List Ph} {p : Ph}, phCore w b o ps → ps[i]? = some p → w.cell? ⟨b, o + i * 2, none⟩ = some (sv p.name)
 | _, _, [], _, _, h => by simp at h
 | o, 0, q :: r, p, ⟨⟨h1, _, _⟩, _⟩, h => by
  have e : q = p := by simpa using h
  rw [← e, show o + 0 * 2 = o by omega]; exact h1
 | o, i + 1, q :: r, p, ⟨_, h2⟩, h => by
  have := phCore_get (i := i) h2 (by simpa using h)
  rwa [show o + 2 + i * 2 = o + (i + 1) * 2 by omega] at this
def Ls.many (x : Ls) (phrase : Bool) : Nat := if phrase then x.phrases.length else x.roles.length
set_option maxRecDepth 100000 in
set_option maxHeartbeats 16000000 in
theorem ren_copy (Z gN nN cN j lo hi : Nat) (phrase : Bool) (old new : Nm) (x : Ls) (ks : List Int) (w W : World) (hB : CopyB w Z lo hi x) (h : CopyW Z x ks W) (hb : Below w.heap.size w W) (hlen : (ptrs x.refs).length ≤ 1000000) (hnm : w.cell? ⟨gN, j, none⟩ = some (sv old)) (hj : j < nN) (hjm : j < x.many phrase) (e0 e2 e4 e5 e6 e7 e8 e11 e12 e13 e14 e15 e17 e18 e19 e20 e21 e22 e23 e24 e25 e26 e27 e28 e29 e30 e31 e32 e33 e34 e35 e36 e37 e38 e39 e40 e41 e42 e43 e44 e45 e46 e47 e48 e49 e50 e51 e52 e53 e54 e55 e56 e57 e58 e59 e60 e61 e62 e63 e64 e65 e66 e67 e68 e69 e70 e71 e72 e73 e74 e75 e76 e77 e78 e79 e80 e81 e82 e83 e84 e85 e86 e87 e88 e89 e90 e91 e92 e93 e94 e95 e96 e97 e98 e99 e100 e101 e102 e103 e104 e105 e106 e107 e108 e109 e110 e111 e112 e113 e114 e115 e116 e117 e118 e119 e120 e121 e122 e123 e124 e125 e126 e127 e128 e129 e130 : Value) (K : Act → World → Prop)
  (hK : ∀ W', CopyW Z (x.renamed phrase j old new) ks W' → Below w.heap.size w W' → KeepB x W W' → ∀ (f18 f72 f73 f74 f75 f76 f77 f78 f79 f80 f81 f82 f83 f84 f85 f86 f87 f88 f89 f90 f91 f92 f93 f94 f95 f96 f97 f98 f99 f100 f101 f102 f103 f104 f105 f106 f107 f108 f109 f110 f111 f112 f113 f114 f115 f116 f117 : Value), K { tmps := #[e0, .bool phrase, e2, sv new, e4, e5, e6, e7, e8, .slice (some ⟨gN, 0, none⟩) nN cN, .int .i64 (j : Nat), e11, e12, e13, e14, e15, .pointer (some ⟨Z, 0, none⟩), e17, f18, e19, e20, e21, e22, e23, e24, e25, e26, e27, e28, e29, e30, e31, e32, e33, e34, e35, e36, e37, e38, e39, e40, e41, e42, e43, e44, e45, e46, e47, e48, e49, e50, e51, e52, e53, e54, e55, e56, e57, e58, e59, e60, e61, e62, e63, e64, e65, e66, e67, e68, e69, e70, e71, f72, f73, f74, f75, f76, f77, f78, f79, f80, f81, f82, f83, f84, f85, f86, f87, f88, f89, f90, f91, f92, f93, f94, f95, f96, f97, f98, f99, f100, f101, f102, f103, f104, f105, f106, f107, f108, f109, f110, f111, f112, f113, f114, f115, f116, f117, e118, e119, e120, e121, e122, e123, e124, e125, e126, e127, e128, e129, e130], defers := [] } W') :
  (snd2 body4).wp Try.prog (Exit.then K (fun _ _ _ => False)) { tmps := #[e0, .bool phrase, e2, sv new, e4, e5, e6, e7, e8, .slice (some ⟨gN, 0, none⟩) nN cN, .int .i64 (j : Nat), e11, e12, e13, e14, e15, .pointer (some ⟨Z, 0, none⟩), e17, e18, e19, e20, e21, e22, e23, e24, e25, e26, e27, e28, e29, e30, e31, e32, e33, e34, e35, e36, e37, e38, e39, e40, e41, e42, e43, e44, e45, e46, e47, e48, e49, e50, e51, e52, e53, e54, e55, e56, e57, e58, e59, e60, e61, e62, e63, e64, e65, e66, e67, e68, e69, e70, e71, e72, e73, e74, e75, e76, e77, e78, e79, e80, e81, e82, e83, e84, e85, e86, e87, e88, e89, e90, e91, e92, e93, e94, e95, e96, e97, e98, e99, e100, e101, e102, e103, e104, e105, e106, e107, e108, e109, e110, e111, e112, e113, e114, e115, e116, e117, e118, e119, e120, e121, e122, e123, e124, e125, e126, e127, e128, e129, e130], defers := [] } W := by
 change Code.wp Try.prog (.seq inner4 name4) _ _ _
 have hlow := hB.low
 refine wp_seq_then (fun K1 hK1 => ren_inner Z gN nN cN j phrase old new x ks w W hb h.box h.at_ h.ns hB.sep (fun r hr => ⟨by have := hB.blk_ r.b (Or.inr (Or.inr (Or.inr ⟨r, hr, rfl⟩))); omega, fun e => by have := hB.blk_ r.b (Or.inr (Or.inr (Or.inr ⟨r, hr, rfl⟩))); have := hB.zout; omega, h.free r hr⟩) hlen hnm hj _ _ _ _ _ _ _ _ _ _ _ _ _ _ _ _ _ _ _ _ _ _ _ _ _ _ _ _ _ _ _ _ _ _ _ _ _ _ _ _ _ _ _ _ _ _ _ _ _ _ _ _ _ _ _ _ _ _ _ _ _ _ _ _ _ _ _ _ _ _ _ _ _ _ _ _ _ _ _ _ _ _ _ _ _ _ _ _ _ _ _ _ _ _ _ _ _ _ _ _ _ _ _ _ _ _ _ _ _ _ _ _ _ _ _ _ _ _ _ _ _ _ _ _ _ _ K1 ?_)
 intro W1 h1 h2 h3 h4 h5 h6 h7 h8
 intros
 refine hK1 _ _ ?_
 clear hK1 K1
 cases phrase with
 | false =>
  have hjl : j < x.roles.length := hjm
  have hro : IsRow encR 4 W1 (.slice x.ra x.roles.length x.rc) x.roles := by
   have := h.at_.roles
   rw [hB.raf] at this ⊢
   exact row_keep this (h7.2 _ h.fra.lt hB.ra) h7.1
  have hfr : FreeB W1 (blk x.ra) := h.fra.same (h7.2 _ h.fra.lt hB.ra)
  obtain ⟨r, hr⟩ : ∃ r, x.roles[j]? = some r := ⟨_, List.getElem?_eq_getElem hjl⟩
  have hc : W1.cell? ⟨blk x.ra, j * 4, none⟩ = some (sv r.name) := by
   obtain ⟨b, o, e, hat, _⟩ := hro.block hr
   rw [hB.raf] at e
   injection e with e
   injection e with e1 e2 _
   have := hat j r hr 0 (sv r.name) rfl
   rw [← e1, ← e2, Nat.zero_add] at this
   exact this
  have c6 : W1.cell? ⟨Z, 6, none⟩ = some (.slice (some ⟨blk x.ra, 0, none⟩) x.roles.length x.rc) := by
   have := cell_at h5 6 (v := .slice x.ra x.roles.length x.rc) rfl
   rw [hB.raf] at this; exact this
  obtain ⟨q1, q2, q3⟩ := renamed_role (j := j) hB h h1 h2 h3 h4 h5 h6 h7 h8
  refine name_wf Z (blk x.ra) x.roles.length x.rc j new r.name W1 c6 hjl hc hfr _ _ _ _ _ _ _ _ _ _ _ _ _ _ _ _ _ _ _ _ _ _ _ _ _ _ _ _ _ _ _ _ _ _ _ _ _ _ _ _ _ _ _ _ _ _ _ _ _ _ _ _ _ _ _ _ _ _ _ _ _ _ _ _ _ _ _ _ _ _ _ _ _ _ _ _ _ _ _ _ _ _ _ _ _ _ _ _ _ _ _ _ _ _ _ _ _ _ _ _ _ _ _ _ _ _ _ _ _ _ _ _ _ _ _ _ _ _ _ _ _ _ _ _ _ _ _ K ?_
  intros
  exact hK _ q1 q2 q3 _ _ _ _ _ _ _ _ _ _ _ _ _ _ _ _ _ _ _ _ _ _ _ _ _ _ _ _ _ _ _ _ _ _ _ _ _ _ _ _ _ _ _ _ _ _ _
 | true =>
  have hjl : j < x.phrases.length := hjm
  have hff : FreeB W1 (blk x.fa) := h.ffa.same (h7.2 _ h.ffa.lt hB.fa)
  obtain ⟨p, hp⟩ : ∃ p, x.phrases[j]? = some p := ⟨_, List.getElem?_eq_getElem hjl⟩
  have hc : W1.cell? ⟨blk x.fa, j * 2, none⟩ = some (sv p.name) := by
   have ho : off x.fa = 0 := by rw [hB.faf]; rfl
   have h2' := h2
   rw [ho] at h2'
   have := phCore_get h2' hp
   rwa [Nat.zero_add] at this
  have c10 : W1.cell? ⟨Z, 10, none⟩ = some (.slice (some ⟨blk x.fa, 0, none⟩) x.phrases.length x.fc) := by
   have := cell_at h5 10 (v := .slice x.fa x.phrases.length x.fc) rfl
   rw [hB.faf] at this; exact this
  obtain ⟨q1, q2, q3⟩ := renamed_phr (j := j) hB h hjl h1 h2 h3 h4 h5 h6 h7 h8
  refine name_wt Z (blk x.fa) x.phrases.length x.fc j new p.name W1 c10 hjl hc hff _ _ _ _ _ _ _ _ _ _ _ _ _ _ _ _ _ _ _ _ _ _ _ _ _ _ _ _ _ _ _ _ _ _ _ _ _ _ _ _ _ _ _ _ _ _ _ _ _ _ _ _ _ _ _ _ _ _ _ _ _ _ _ _ _ _ _ _ _ _ _ _ _ _ _ _ _ _ _ _ _ _ _ _ _ _ _ _ _ _ _ _ _ _ _ _ _ _ _ _ _ _ _ _ _ _ _ _ _ _ _ _ _ _ _ _ _ _ _ _ _ _ _ _ _ _ _ K ?_
  intros
  exact hK _ q1 q2 q3 _ _ _ _ _ _ _ _ _ _ _ _ _ _ _ _ _ _ _ _ _ _ _ _ _ _ _ _ _ _ _ _ _ _ _ _ _ _ _ _ _ _ _ _ _ _ _
end Go.Proofs.Ytpnbpepkoekkoaa
end
