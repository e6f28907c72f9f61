/- Contracts and plain laws on the way to the statement: part 44. -/
import Derived.Test.YtggcbblikgankaaGreatDoorZ43
import Derived.Test.YtggcbblikgankaaGreatDoorZ27
import Derived.Test.YtggcbblikgankaaGreatDoorZ42
import Derived.Test.YtggcbblikgankaaGreatDoorZ7
set_option linter.unusedVariables false
set_option linter.unusedSimpArgs false
section
namespace Go.Proofs.YtggcbblikgankaaGreatDoor
open Go Go.RowKit Go.Deep
theorem own_last {w : World} {B : Nat} {ao : Option Addr} {c : Nat} {r : List Nat} {a : Nat} (h : w.ownsRow B 3 1 (.slice ao (r.length + 1) c) (r.length + 1) (intsL (intsN (r ++ [a])))) : ∃ g, ao = some ⟨g, 0, none⟩ ∧ w.cell? ⟨g, r.length, none⟩ = some (.int .i64 (a : Int)) := by
 have hl : (intsN (r ++ [a])).length = r.length + 1 := by rw [intsN_len]; simp
 have hrow := own_ints h hl
 rcases h.2 with ⟨e, h1⟩ | ⟨g, cap, cur, e, _⟩
 ·omega
 ·injection e with e1
  subst e1
  obtain ⟨b, o, e2, hc, _⟩ := hrow.int (j := r.length) (by omega)
  have e3 := Option.some.inj e2
  injection e3 with e4 e5
  subst e4 e5
  refine ⟨g, rfl, ?_⟩
  rw [Nat.zero_add] at hc
  rw [hc]
  unfold gi intsN
  simp
set_option maxRecDepth 100000 in
set_option maxHeartbeats 8000000 in
theorem ext_step (lp R kB yB nB eB n k B d : Nat) (hk : k ≤ n) (hn : n ≤ 16) (hRB : R < B) (J Jx : List (Value × List Nat) → World → Prop) (hJ : KeptBy J)
  (ls : List Nat) (hls : ls.length + (d + 1) = k) (hinc : Inc n ls)
  (hI : ∀ (i : Nat) (v' : Value) (pre : List (Value × List Nat)) (W : World), nextI ls ≤ i → i < n - d → ExtW R kB yB nB eB lp n k W → B ≤ W.heap.size → J pre W → W.ownsRow B 3 1 v' (ls.length + 1) (intsL (intsN (ls ++ [i]))) → Calls Tryz.prog 87 #[v', .pointer (some ⟨kB, 0, none⟩), .pointer (some ⟨yB, 0, none⟩), .pointer (some ⟨nB, 0, none⟩), .pointer (some ⟨eB, 0, none⟩)] W (ExtP n R J Jx pre (ext n d (ls ++ [i])) W))
  (v : Value) (pre : List (Value × List Nat)) (W : World) (hW : ExtW R kB yB nB eB lp n k W) (hB : B ≤ W.heap.size) (hj : J pre W) (ho : W.ownsRow B 3 1 v ls.length (intsL (intsN ls))) :
  Calls Tryz.prog 87 #[v, .pointer (some ⟨kB, 0, none⟩), .pointer (some ⟨yB, 0, none⟩), .pointer (some ⟨nB, 0, none⟩), .pointer (some ⟨eB, 0, none⟩)] W (ExtP n R J Jx pre (ext n (d + 1) ls) W) := by
 obtain ⟨ao, c, e, _⟩ := own_ints ho (intsN_len ls)
 rw [intsN_len] at e
 subst e
 have hloop := ext_loop lp R kB yB nB eB n k B d hk hn hRB J Jx hJ ls hls hI ao c pre W hW hB hj ho
 have ck := cell_at hW.bk 0 rfl
 rcases List.eq_nil_or_concat ls with rfl | ⟨r, a, rfl⟩
 ·have h0 : ((nextI [] : Nat) : Int) = 0 := rfl
  rw [h0] at hloop
  have hl : ([] : List Nat).length = 0 := rfl
  rw [hl] at hloop hls ⊢
  have hk0 : ((0 : Int) == (k : Int)) = false := by simp; omega
  have HL := Lib.hid hloop
  clear hloop hI ho hW hj hinc hJ h0 hl
  go_enter Tryz.func87, Tryz.ntmps87
  change Code.wp Tryz.prog (withLast 4 code99 part99n4) _ _ _
  conv => arg 2; whnf
  go_wp2_with fail
  conv => arg 2; whnf
  go_wp2_with fail
  conv => arg 2; whnf
  go_wp2_with fail
  conv => arg 2; whnf
  go_wp2_with fail
  exact HL.out _ _ _ _ _ _ _ _ _ _ _ _ _ _ _ _ _ _ _ _ _ _ _ _ _ _ _ _ _ _ _ _ _ _ _ _ _ _
 ·rw [List.concat_eq_append] at *
  have hlen : (r ++ [a]).length = r.length + 1 := by simp
  rw [hlen] at hls ho hloop ⊢
  obtain ⟨g, rfl, ca⟩ := own_last ho
  have ha : a < n := hinc.2 a (by simp)
  rw [nextI_snoc] at hloop
  have hcast : ((a + 1 : Nat) : Int) = (a : Int) + 1 := by omega
  rw [hcast] at hloop
  have HL := Lib.hid hloop
  generalize r.length = m at *
  have hk0 : (((m : Int) + 1) == (k : Int)) = false := by simp; omega
  have hk1 : (((m + 1 : Nat) : Int) == (k : Int)) = false := by simp; omega
  clear hloop hI ho hW hj hinc hJ hlen
  go_enter Tryz.func87, Tryz.ntmps87
  change Code.wp Tryz.prog (withLast 4 code99 part99n4) _ _ _
  conv => arg 2; whnf
  go_wp2_with fail
  conv => arg 2; whnf
  go_wp2_with fail
  conv => arg 2; whnf
  go_wp2_with fail
  conv => arg 2; whnf
  go_wp2_with fail
  exact HL.out _ _ _ _ _ _ _ _ _ _ _ _ _ _ _ _ _ _ _ _ _ _ _ _ _ _ _ _ _ _ _ _ _ _ _ _ _ _
theorem ext_any (lp R kB yB nB eB n k B : Nat) (hk : k ≤ n) (hn : n ≤ 16) (hRB : R < B) (J Jx : List (Value × List Nat) → World → Prop) (hJ : KeptBy J)
  (hY : ∀ pre (x : Value × List Nat) W1, J pre W1 → GivenL B n k x W1 → ∀ m, YieldAt Fence.wide m Tryz.prog lp #[x.1] W1 (RoundP R J Jx pre x W1)) :
  ∀ (d : Nat) (ls : List Nat) (v : Value) (pre : List (Value × List Nat)) (W : World), ls.length + d = k → Inc n ls → ExtW R kB yB nB eB lp n k W → B ≤ W.heap.size → J pre W → W.ownsRow B 3 1 v ls.length (intsL (intsN ls)) →
   Calls Tryz.prog 87 #[v, .pointer (some ⟨kB, 0, none⟩), .pointer (some ⟨yB, 0, none⟩), .pointer (some ⟨nB, 0, none⟩), .pointer (some ⟨eB, 0, none⟩)] W (ExtP n R J Jx pre (ext n d ls) W)
 | 0, ls, v, pre, W, hls, hinc, hW, _, hj, ho => ext_zero lp R kB yB nB eB n k B hk hn J Jx hY ls v pre W hls hinc hW hj ho
 | d + 1, ls, v, pre, W, hls, hinc, hW, hB, hj, ho => ext_step lp R kB yB nB eB n k B d hk hn hRB J Jx hJ ls hls hinc (fun i v' pre W h1 h2 h3 h4 h5 h6 =>
   ext_any lp R kB yB nB eB n k B hk hn hRB J Jx hJ hY d (ls ++ [i]) v' pre W (by simp; omega) (hinc.snoc h1 (by omega)) h3 h4 h5 (by rw [List.length_append]; exact h6)) v pre W hW hB hj ho
theorem mk_box (w : World) (x : Value) (t : TypeId) : ∃ w', w.alloc (.cells #[x] t) = w' ∧ w'.heap[w.heap.size]? = some (.cells #[x] t (0, 0)) ∧ Below w.heap.size w w' ∧ w'.heap.size = w.heap.size + 1 :=
 ⟨_, rfl, World.alloc_heap_new w _, (Below.refl _ w).alloc (Nat.le_refl _) _, by simp⟩
theorem run_store_func (P : Program) (w : World) (a : Addr) (m : Mode) (f : Fn) (cs bs : Array Value) : (store a (.func f cs bs) m).run P w = stored P w a (.func f cs bs) m := run_store P w a _ m rfl
attribute [local go_sem] run_store_func
theorem set_box {w : World} {g : Nat} {x : Value} {t : TypeId} (h : w.heap[g]? = some (.cells #[x] t (0, 0))) (v : Value) : ∃ w', w.setCell ⟨g, 0, none⟩ v = w' ∧ w'.heap[g]? = some (.cells #[v] t (0, 0)) ∧ (∀ q, q ≠ g → w'.heap[q]? = w.heap[q]?) ∧ (∀ B w0, Below B w0 w → B ≤ g → Below B w0 w') ∧ w'.heap.size = w.heap.size := by
 refine ⟨_, rfl, ?_, fun q hq => Below.heap_setCell _ _ _ _ hq, fun B w0 hb hg => hb.setCell (p := ⟨g, 0, none⟩) hg v, ?_⟩
 ·simp only [World.setCell, Array.getElem?_modify, h, if_true, Option.map_some]
  simp
 ·simp [World.setCell]
set_option maxRecDepth 100000 in
set_option maxHeartbeats 8000000 in
theorem lists_stops (N kB nB n k : Nat) (hk : k ≤ n) (hn : n ≤ 16) (w : World) (hkB : w.heap[kB]? = some (.cells #[.int .i64 k] 3 (0, 0))) (hnB : w.heap[nB]? = some (.cells #[.int .i64 n] 3 (0, 0))) :
  SeqStopsM Fence.wide N Tryz.prog 86 #[.pointer (some ⟨kB, 0, none⟩), .pointer (some ⟨nB, 0, none⟩)] (fun x : Value × List Nat => #[x.1]) (GivenL w.heap.size n k) (fun xs => xs.map (·.2) = ext n k []) (fun xs => xs.map (·.2) <+: ext n k []) w := by
 intro l R J Jx W hb hR1 hR2 hJ hY h0
 have hkl := (Array.getElem?_eq_some_iff.1 hkB).1
 have hnl := (Array.getElem?_eq_some_iff.1 hnB).1
 have hkW := (hb.block _ hkl).trans hkB
 have hnW := (hb.block _ hnl).trans hnB
 obtain ⟨W1, e1, g1, b1, s1⟩ := mk_box W (.func (.yield l) #[] #[]) 102
 obtain ⟨W2, e2, g2, b2, s2⟩ := mk_box W1 .nilFunc 102
 obtain ⟨W3, e3, g3, o3, b3, s3⟩ := set_box g2 (.func (.func 87) #[] #[.pointer (some ⟨kB, 0, none⟩), .pointer (some ⟨W.heap.size, 0, none⟩), .pointer (some ⟨nB, 0, none⟩), .pointer (some ⟨W1.heap.size, 0, none⟩)])
 have hb3 : Below W.heap.size W W3 := b3 _ _ (b1.trans (b2.mono (by omega))) (by omega)
 have hE : ExtW R kB W.heap.size nB W1.heap.size l n k W3 := ⟨(hb3.block _ (by have := hb.size; omega)).trans hkW, (o3 _ (by omega)).trans ((b2.block _ (by omega)).trans g1), (hb3.block _ (by have := hb.size; omega)).trans hnW, g3, by omega, by omega, by omega, by omega⟩
 have hany := ext_any l R kB W.heap.size nB W1.heap.size n k W.heap.size hk hn hR2 J Jx hJ (fun pre x W1 hj hG m => YieldAt.anyDepth rfl m (hY pre x W1 hj ⟨hG.1, hG.2.1, hG.2.2.1, fun g hg => Nat.le_trans hb.size (hG.2.2.2 g hg)⟩)) k [] (.slice none 0 0) [] W3 (by simp) inc_nil hE hb3.size (hJ _ _ _ h0 hb3) (World.ownsRow_nil _ _ _ _)
 rw [s1] at hany
 have HA := Lib.hid hany
 have c2 : W2.cell? ⟨W1.heap.size, 0, none⟩ = some .nilFunc := cell_at g2 0 rfl
 have f2 : W2.frozen? ⟨W1.heap.size, 0, none⟩ = false := by simp [World.frozen?, g2]
 have c3 := cell_at g3 0 rfl
 rw [s1] at c2 f2 c3 e3
 have HC3 := Lib.hid c3
 clear hany hE hY hb hkB hnB hkW hnW o3 b3 b1 b2 hb3 h0
 refine callsIn_wide.2 ?_
 show Calls Tryz.prog 86 #[.func (.yield l) #[] #[], .pointer (some ⟨kB, 0, none⟩), .pointer (some ⟨nB, 0, none⟩)] W _
 go_enter Tryz.func86, Tryz.ntmps86
 go_wp2_with fail
 refine HA.out.mono ?_
 rintro e W' (⟨rfl, xs, hxs, hjx, _⟩ | ⟨rfl, xs, hxs, hjx, _⟩)
 ·have H1 := Lib.hid hxs; have H2 := Lib.hid hjx
  clear hxs hjx HA
  go_wp2_with fail
  go_end0
  exact ⟨⟨_, rfl⟩, Or.inl ⟨xs, H1.out, H2.out⟩⟩
 ·have H1 := Lib.hid hxs; have H2 := Lib.hid hjx
  clear hxs hjx HA
  go_wp2_with fail
  go_end0
  exact ⟨⟨_, rfl⟩, Or.inr ⟨xs, H1.out, H2.out⟩⟩
set_option maxRecDepth 100000 in
set_option maxHeartbeats 8000000 in
theorem lists_any (n k : Int) (w : World) : Calls Tryz.prog 56 #[.int .i64 n, .int .i64 k] w fun e w' => e = .returned (.func (.func 86) #[] #[.pointer (some ⟨w.heap.size + 1, 0, none⟩), .pointer (some ⟨w.heap.size, 0, none⟩)]) ∧ w'.heap[w.heap.size]? = some (.cells #[.int .i64 n] 3 (0, 0)) ∧ w'.heap[w.heap.size + 1]? = some (.cells #[.int .i64 k] 3 (0, 0)) ∧ Below w.heap.size w w' ∧ w'.heap.size = w.heap.size + 2 := by
 obtain ⟨W1, e1, g1, b1, s1⟩ := mk_box w (.int .i64 n) 3
 obtain ⟨W2, e2, g2, b2, s2⟩ := mk_box W1 (.int .i64 k) 3
 rw [s1] at g2 b2
 have G1 := Lib.hid ((b2.block _ (by omega)).trans g1); have G2 := Lib.hid g2; have HB := Lib.hid (b1.trans (b2.mono (by omega))); have S2 := Lib.hid (show W2.heap.size = w.heap.size + 2 by omega)
 clear g1 g2 b1 b2 s2
 go_enter Tryz.func56, Tryz.ntmps56
 go_wp2_with fail
 go_ret
 exact ⟨rfl, G1.out, G2.out, HB.out, S2.out⟩
end Go.Proofs.YtggcbblikgankaaGreatDoor
end
section
namespace Go.Proofs.YtggcbblikgankaaGreatDoor
open Go Go.RowKit Go.Deep
noncomputable def code33 : Code := (Tryz.f27.body).getD .skip
def findRF : Code → Option (Code × Code)
 | .rangeFunc _ _ a b => some (a, b)
 | .seq a b => (findRF a).or (findRF b)
 | .block _ c => findRF c
 | .loop c => findRF c
 | .cond _ a b => (findRF a).or (findRF b)
 | _ => none
noncomputable def body33 : Code := ((findRF code33).getD (.skip, .skip)).2
def cntC (c : Nat → Nat → Int) (l : List Nat) (j : Nat) : Nat := ((List.range j).filter fun j => l.any fun i => decide (0 ≤ c i j)).length
theorem cntC_succ (c : Nat → Nat → Int) (l : List Nat) (j : Nat) : cntC c l (j + 1) = cntC c l j + if l.any (fun i => decide (0 ≤ c i j)) then 1 else 0 := by
 unfold cntC
 rw [List.range_succ, List.filter_append, List.length_append]
 congr 1
 by_cases h : l.any (fun i => decide (0 ≤ c i j)) = true
 ·rw [if_pos h, List.filter_cons_of_pos (by simpa using h)]; rfl
 ·rw [if_neg h, List.filter_cons_of_neg (by simpa using h)]; rfl
theorem cntC_le (c : Nat → Nat → Int) (l : List Nat) (j : Nat) : cntC c l j ≤ j := by
 unfold cntC
 exact Nat.le_trans (List.length_filter_le _ _) (by rw [List.length_range]; exact Nat.le_refl _)
theorem any_place (cost : List (List Int)) (j : Nat) (l : List Nat) : (intsN l).any (placeB cost j) = l.any fun i => decide (0 ≤ cI cost i j) := by
 unfold intsN
 rw [List.any_map]
 congr 1
theorem keeps_of_below {W W' : World} (h : Below W.heap.size W W') : KeepsOthers W W' := ⟨h.size, fun k o hk _ => (h.block k (Array.getElem?_eq_some_iff.1 hk).1).trans hk⟩
section
attribute [local go_sem] Oper.semAt_some
set_option maxRecDepth 100000 in
set_option maxHeartbeats 8000000 in
theorem deny_body (lr nn : Nat) (hnn : 4 ≤ nn) (cost : List (List Int)) (n m k : Nat) (hl : cost.length = n) (hrl : ∀ r ∈ cost, r.length = m) (hw : widN cost = m) (hn : n ≤ 16) (hm : m ≤ 16) (aoC : Option Addr) (ccC kC B2 B3 B4 kB : Nat) (l : List Nat) (hlk : l.length = k) (hkn : k ≤ n) (hln : ∀ i ∈ l, i < n) (v : Value)
  (W : World) (hM : IsMat W (.slice aoC n ccC) cost) (hC : W.cell? ⟨kC, 0, none⟩ = some (.slice aoC n ccC)) (hkC : kC < W.heap.size) (hK : W.cell? ⟨kB, 0, none⟩ = some (.int .i64 k)) (hkB : kB < W.heap.size) (hV : IsRow encI 1 W v (intsN l))
  (x2 x3 x4 : Value) (h2 : W.heap[B2]? = some (.cells #[x2] 55 (0, 0))) (h3 : W.heap[B3]? = some (.cells #[x3] 4 (0, 0))) (h4 : W.heap[B4]? = some (.cells #[x4] 41 (0, 0))) (hne : B2 ≠ B3 ∧ B2 ≠ B4 ∧ B3 ≠ B4)
  (e0 e7 e8 e9 e10 e11 e12 e13 e14 e15 e16 e17 e18 e19 e20 e21 e22 e23 e24 e25 e26 e27 e28 e29 e30 e31 e32 e33 e34 e35 e36 e37 e38 e39 e40 : Value) (Q : Exit → Act → World → Prop)
  (hN : fewC (cI cost) m l = false → ∀ a W', Below W.heap.size W W' → Q .normal a W')
  (hR : fewC (cI cost) m l = true → ∀ a W' W'', Below W.heap.size W W' → W'' = ((W'.setCell ⟨B2, 0, none⟩ v).setCell ⟨B3, 0, none⟩ (.bool true)).setCell ⟨B4, 0, none⟩ (.int .i64 0) → Q .ret a W'') :
  body33.wpIn (Fence.wide.inRound lr) nn Tryz.prog Q { tmps := #[e0, .pointer (some ⟨kC, 0, none⟩), .pointer (some ⟨B2, 0, none⟩), .pointer (some ⟨B3, 0, none⟩), .pointer (some ⟨B4, 0, none⟩), .pointer (some ⟨kB, 0, none⟩), v, e7, e8, e9, e10, e11, e12, e13, e14, e15, e16, e17, e18, e19, e20, e21, e22, e23, e24, e25, e26, e27, e28, e29, e30, e31, e32, e33, e34, e35, e36, e37, e38, e39, e40], defers := [] } W := by
 have hfew : fewC (cI cost) m l = decide (cntC (cI cost) l m < k) := by unfold fewC colsN cntC; rw [hlk]
 have hwd := width_any W hM
 rw [hw] at hwd
 have hV2 := hV
 obtain ⟨ao, c, ev, _⟩ := hV
 rw [intsN_len, hlk] at ev
 subst ev
 have HWD := Lib.hid hwd; have HM := Lib.hid hM; have HV := Lib.hid hV2; have HN := Lib.hid hN; have HR := Lib.hid hR; have HF := Lib.hid hfew; have HL := Lib.hid hl; have HRL := Lib.hid hrl; have HLN := Lib.hid hln; have HC := Lib.hid hC; have HK := Lib.hid hK; have H2 := Lib.hid h2; have H3 := Lib.hid h3; have H4 := Lib.hid h4; have HLK := Lib.hid hlk
 clear hwd hM hV2 hN hR hfew hl hrl hln hK h2 h3 h4 hlk hw
 unfold body33 code33
 conv => arg 4; whnf
 gi_wp2_with fail
 refine ⟨trivial, fun _ => by omega, ?_⟩
 refine (callsIn_wide.2 HWD.out).mono ?_
 rintro e w2 ⟨rfl, hw2⟩
 rw [hw2]
 clear hw2 w2 HWD
 gi_wp2_with fail
 gi_loopw [7, 27] (fun mv jv wr => ∃ j : Nat, jv = .int .i64 j ∧ j ≤ m ∧ mv = .int .i64 (cntC (cI cost) l j) ∧ Hid (Below W.heap.size W wr)) (fun _ jv _ => m - (intOf jv).toNat)
 case atStart => exact ⟨0, rfl, Nat.zero_le _, rfl, Lib.hid (Below.refl _ _)⟩
 case round =>
  obtain ⟨j, rfl, hjm, rfl, hB⟩ := hrel
  have hcle := cntC_le (cI cost) l j
  by_cases hj : j < m
  ·have hj' : (j : Int) < (m : Int) := by omega
   obtain ⟨V1, e1, g1, b1, s1⟩ := mk_box wr (.int .i64 0) 3
   obtain ⟨V2, e2, g2, o2, b2, s2⟩ := set_box g1 (.int .i64 j)
   have hsz := hB.out.size
   have hb2 : Below W.heap.size W V2 := b2 _ _ (hB.out.trans (b1.mono hsz)) hsz
   have c1 : V1.cell? ⟨wr.heap.size, 0, none⟩ = some (.int .i64 0) := cell_at g1 0 rfl
   have f1 : V1.frozen? ⟨wr.heap.size, 0, none⟩ = false := by simp [World.frozen?, g1]
   have h8 : V2.cell? ⟨wr.heap.size, 0, none⟩ = some (.int .i64 j) := cell_at g2 0 rfl
   have hcon := containsI_any (placeB cost j) 57 #[.pointer (some ⟨kC, 0, none⟩), .pointer (some ⟨wr.heap.size, 0, none⟩)] (enters_of Tryz.func57 (by kernel_rfl) rfl) (intsN l) k (by rw [intsN_len, HLK.out]) ao c V2 (HV.out.below hb2 (Nat.le_refl _)) (fun x hx W' hW' => by
    obtain ⟨i, hi, rfl⟩ : ∃ i, i ∈ l ∧ (i : Int) = x := by
     unfold intsN at hx
     obtain ⟨i, h1, h2⟩ := List.mem_map.1 hx
     exact ⟨i, h1, h2⟩
    have hz := Nat.lt_of_lt_of_le hkC hb2.size
    have hbw : Below W.heap.size W W' := hb2.trans (hW'.mono hb2.size)
    refine (place_any cost n m i j HL.out HRL.out hn hm (HLN.out i hi) hj aoC ccC kC wr.heap.size W' (HM.out.below hbw (Nat.le_refl _)) ((hbw.cell (p := ⟨kC, 0, none⟩) hkC).trans HC.out) ((hW'.cell (p := ⟨wr.heap.size, 0, none⟩) (by show wr.heap.size < V2.heap.size; omega)).trans h8)).mono ?_
    exact fun _ _ h => h)
   rw [any_place] at hcon
   have cC := (hB.out.cell (p := ⟨kC, 0, none⟩) hkC).trans HC.out
   have hsucc := cntC_succ (cI cost) l j
   have HCON := Lib.hid hcon; have HB2 := Lib.hid hb2; have HS := Lib.hid hsucc
   clear hcon hb2 g2 o2 b2 s2 b1 g1 s1 h8 hsucc hB
   generalize (l.any fun i => decide (0 ≤ cI cost i j)) = bb at *
   generalize cntC (cI cost) l j = q at *
   gi_wp2_with fail
   refine ⟨trivial, fun _ => by omega, ?_⟩
   refine (callsIn_wide.2 HCON.out).mono ?_
   rintro e w9 ⟨rfl, hb9⟩
   have HB9 := Lib.hid (HB2.out.trans (hb9.mono HB2.out.size))
   clear hb9 HCON HB2 e1 e2 c1 f1
   cases bb with
   | true =>
    gi_wp2_with fail
    go_roundw
    case rel => exact ⟨j + 1, by go_num, by omega, by rw [HS.out]; simp, HB9⟩
    case measure => simp [intOf]; omega
   | false =>
    gi_wp2_with fail
    go_roundw
    case rel => exact ⟨j + 1, by go_num, by omega, by rw [HS.out]; simp, HB9⟩
    case measure => simp [intOf]; omega
  ·obtain rfl : j = m := by omega
   have hj' : ¬ (j : Int) < (j : Int) := by omega
   have cK := (hB.out.cell (p := ⟨kB, 0, none⟩) hkB).trans HK.out
   have l2 := (Array.getElem?_eq_some_iff.1 H2.out).1
   have l3 := (Array.getElem?_eq_some_iff.1 H3.out).1
   have l4 := (Array.getElem?_eq_some_iff.1 H4.out).1
   have g2 := (hB.out.block _ l2).trans H2.out
   have g3 := (hB.out.block _ l3).trans H3.out
   have g4 := (hB.out.block _ l4).trans H4.out
   have HFF := HF.out
   clear HF HM HV HLN HL HRL HC H2 H3 H4
   generalize cntC (cI cost) l j = q at *
   by_cases hqk : q < k
   ·have hqk' : (q : Int) < (k : Int) := by omega
    have hfew : fewC (cI cost) j l = true := by rw [HFF]; simpa using hqk
    obtain ⟨V1, e1, a2, o1, _, _⟩ := set_box g2 (.slice ao k c)
    have a3 := (o1 B3 (by omega)).trans g3
    have a4 := (o1 B4 (by omega)).trans g4
    obtain ⟨V2, e2, b3, o2, _, _⟩ := set_box a3 (.bool true)
    have b4 := (o2 B4 (by omega)).trans a4
    have c2 : wr.cell? ⟨B2, 0, none⟩ = some x2 := cell_at g2 0 rfl
    have f2 : wr.frozen? ⟨B2, 0, none⟩ = false := by simp [World.frozen?, g2]
    have c3 : V1.cell? ⟨B3, 0, none⟩ = some x3 := cell_at a3 0 rfl
    have f3 : V1.frozen? ⟨B3, 0, none⟩ = false := by simp [World.frozen?, a3]
    have c4 : V2.cell? ⟨B4, 0, none⟩ = some x4 := cell_at b4 0 rfl
    have f4 : V2.frozen? ⟨B4, 0, none⟩ = false := by simp [World.frozen?, b4]
    have hans := fun a => HR.out hfew a wr _ hB.out rfl
    rw [e1, e2] at hans
    have HANS := Lib.hid hans
    clear hans hfew HR HN HFF g2 g3 g4 a2 a3 a4 b3 b4 o1 o2 hB
    gi_wp2_with fail
    exact HANS.out _
   ·have hqk' : ¬ (q : Int) < (k : Int) := by omega
    have hfew : fewC (cI cost) j l = false := by rw [HFF]; simpa using hqk
    have hans := fun a => HN.out hfew a wr hB.out
    have HANS := Lib.hid hans
    clear hans hfew HR HN HFF g2 g3 g4 hB
    gi_wp2_with fail
    exact HANS.out _
end
end Go.Proofs.YtggcbblikgankaaGreatDoor
end
section
namespace Go.Proofs.YtggcbblikgankaaGreatDoor
open Go Go.RowKit Go.Deep
noncomputable def part33n2 : Code := lastPart 2 code33
def DenyP (cost : List (List Int)) (w : World) (e : Ending) (w' : World) : Prop :=
  Below w.heap.size w w' ∧
  ((castE cost ≠ 0 ∧ e = .returned (.tuple #[.slice none 0 0, .bool false, .int .i64 (castE cost)])) ∨
   (castE cost = 0 ∧ denyF (cI cost) cost.length (widN cost) = none ∧ e = .returned (.tuple #[.slice none 0 0, .bool false, .int .i64 0])) ∨
   (castE cost = 0 ∧ ∃ (v : Value) (l : List Nat), denyF (cI cost) cost.length (widN cost) = some l ∧ e = .returned (.tuple #[v, .bool true, .int .i64 0]) ∧ IsRow encI 1 w' v (intsN l)))
theorem results_deny (tmps : Array Value) (w : World) (p2 p3 p4 : Addr) (x y z : Value) (h2 : tmps.getD 2 undef = .pointer (some p2)) (h3 : tmps.getD 3 undef = .pointer (some p3)) (h4 : tmps.getD 4 undef = .pointer (some p4)) (c2 : w.cell? p2 = some x) (c3 : w.cell? p3 = some y) (c4 : w.cell? p4 = some z) :
    (results Tryz.f27 tmps).run Tryz.prog w = .ok (.tuple #[x, y, z]) w := by
  have h2' : tmps[2]?.getD undef = .pointer (some p2) := by simpa using h2
  have h3' : tmps[3]?.getD undef = .pointer (some p3) := by simpa using h3
  have h4' : tmps[4]?.getD undef = .pointer (some p4) := by simpa using h4
  simp [results, h2', h3', h4', c2, c3, c4, go_sem]
theorem isRow_grown {w w' : World} {v : Value} {xs : List Int} {row : Option Nat} (h : IsRow encI 1 w v xs) (hg : w.grownBy w' row) (hr : ∀ r, row = some r → ∃ o : Obj, w.heap[r]? = some o ∧ o.isCells = false) : IsRow encI 1 w' v xs := by
  obtain ⟨ao, c, e, hl, h⟩ := h
  refine ⟨ao, c, e, hl, ?_⟩
  rcases h with h | ⟨b, o, e2, ha, hlt⟩
  · exact Or.inl h
  · cases xs with
    | nil => exact Or.inl rfl
    | cons x xs =>
      have h0 := ha 0 x rfl 0 _ rfl
      have hb : w'.heap[b]? = w.heap[b]? := hg.block b hlt (fun e => by
        obtain ⟨ob, ho, hc⟩ := hr b e.symm
        unfold World.cell? at h0
        rw [show (⟨b, o + 0 * 1 + 0, none⟩ : Addr).block = b from rfl, ho] at h0
        cases ob <;> simp_all [Obj.isCells])
      refine Or.inr ⟨b, o, e2, fun i y hy j u hu => ?_, Nat.lt_of_lt_of_le hlt hg.size⟩
      rw [World.cell?_of_block (a := ⟨b, o + i * 1 + j, none⟩) hb]
      exact ha i y hy j u hu
theorem isRow_shut {Ds : List Nat} {w : World} {v : Value} {xs : List Int} (h : IsRow encI 1 w v xs) (hD : MarksAt Ds w) : IsRow encI 1 (shutAll Ds w) v xs := by
  obtain ⟨ao, c, e, hl, h⟩ := h
  refine ⟨ao, c, e, hl, ?_⟩
  rcases h with h | ⟨b, o, e2, ha, hlt⟩
  · exact Or.inl h
  · cases xs with
    | nil => exact Or.inl rfl
    | cons x xs =>
      have h0 := ha 0 x rfl 0 _ rfl
      have hb : (shutAll Ds w).heap[b]? = w.heap[b]? := shut_block Ds w b fun hm => by
        have := hD.2 b hm
        unfold World.cell? at h0
        rw [show (⟨b, o + 0 * 1 + 0, none⟩ : Addr).block = b from rfl, this] at h0
        cases h0
      refine Or.inr ⟨b, o, e2, fun i y hy j u hu => ?_, by rw [shut_size]; exact hlt⟩
      rw [World.cell?_of_block (a := ⟨b, o + i * 1 + j, none⟩) hb]
      exact ha i y hy j u hu
structure DenyEnd (c : Nat → Nat → Int) (m B2 B3 B4 : Nat) (W1 : World) (xs : List (Value × List Nat)) (V : World) : Prop where
  found : ∃ A x, xs = A ++ [x] ∧ (A.map (·.2)).find? (fewC c m) = none ∧ fewC c m x.2 = true ∧ V.heap[B2]? = some (.cells #[x.1] 55 (0, 0)) ∧ IsRow encI 1 V x.1 (intsN x.2)
  b3 : V.heap[B3]? = some (.cells #[.bool true] 4 (0, 0))
  b4 : V.heap[B4]? = some (.cells #[.int .i64 0] 41 (0, 0))
  os : V.os = W1.os
  tape : V.tape = W1.tape
  output : V.output = W1.output
  size : W1.heap.size ≤ V.heap.size
  block : ∀ b, b < W1.heap.size → b ≠ B2 → b ≠ B3 → b ≠ B4 → V.heap[b]? = W1.heap[b]?
theorem DenyEnd.own (c : Nat → Nat → Int) (m B2 B3 B4 : Nat) (W1 : World) (h2 : B2 < W1.heap.size) (h3 : B3 < W1.heap.size) (h4 : B4 < W1.heap.size) : OwnFrom W1.heap.size (DenyEnd c m B2 B3 B4 W1) := by
  intro xs W W' row h hg hr
  have hb : ∀ b, b < W1.heap.size → W'.heap[b]? = W.heap[b]? := fun b hb => hg.block b (Nat.lt_of_lt_of_le hb h.size) (fun e => by have := (hr b e.symm).1; omega)
  obtain ⟨A, x, e1, e2, e3, e4, e5⟩ := h.found
  exact ⟨⟨A, x, e1, e2, e3, (hb _ h2).trans e4, isRow_grown e5 hg fun r e => (hr r e).2⟩, (hb _ h3).trans h.b3, (hb _ h4).trans h.b4, hg.os.trans h.os, hg.tape.trans h.tape, hg.output.trans h.output, Nat.le_trans h.size hg.size, fun b h1 q2 q3 q4 => (hb b h1).trans (h.block b h1 q2 q3 q4)⟩
theorem DenyEnd.make (c : Nat → Nat → Int) (m B2 B3 B4 : Nat) (W1 V W' W'' : World) (xs : List (Value × List Nat)) (A : List (Value × List Nat)) (x : Value × List Nat) (he : xs = A ++ [x]) (hA : (A.map (·.2)).find? (fewC c m) = none) (hx : fewC c m x.2 = true) (hne : B2 ≠ B3 ∧ B2 ≠ B4 ∧ B3 ≠ B4) (hV : Below W1.heap.size W1 V) (hW : Below V.heap.size V W') (hr : IsRow encI 1 V x.1 (intsN x.2))
    (x2 x3 x4 : Value) (g2 : W1.heap[B2]? = some (.cells #[x2] 55 (0, 0))) (g3 : W1.heap[B3]? = some (.cells #[x3] 4 (0, 0))) (g4 : W1.heap[B4]? = some (.cells #[x4] 41 (0, 0)))
    (hrb : ∀ g, x.1.ownBlock = some g → W1.heap.size ≤ g)
    (hs : W'' = ((W'.setCell ⟨B2, 0, none⟩ x.1).setCell ⟨B3, 0, none⟩ (.bool true)).setCell ⟨B4, 0, none⟩ (.int .i64 0)) :
    DenyEnd c m B2 B3 B4 W1 xs W'' ∧ KeepsOthers V W'' ∧ ∀ b, W1.heap.size ≤ b → b < V.heap.size → W''.heap[b]? = V.heap[b]? := by
  have l2 := (Array.getElem?_eq_some_iff.1 g2).1
  have l3 := (Array.getElem?_eq_some_iff.1 g3).1
  have l4 := (Array.getElem?_eq_some_iff.1 g4).1
  have hVW : Below W1.heap.size W1 W' := hV.trans (hW.mono hV.size)
  have q2 := (hVW.block _ l2).trans g2
  have q3 := (hVW.block _ l3).trans g3
  have q4 := (hVW.block _ l4).trans g4
  obtain ⟨V1, e1, a2, o1, _, s1⟩ := set_box q2 x.1
  have a3 := (o1 B3 (by omega)).trans q3
  have a4 := (o1 B4 (by omega)).trans q4
  obtain ⟨V2, e2, b3, o2, _, s2⟩ := set_box a3 (.bool true)
  have b2 := (o2 B2 (by omega)).trans a2
  have b4 := (o2 B4 (by omega)).trans a4
  obtain ⟨V3, e3, c4, o3, _, s3⟩ := set_box b4 (.int .i64 0)
  have c2 := (o3 B2 (by omega)).trans b2
  have c3 := (o3 B3 (by omega)).trans b3
  have hK1 : KeepsOthers W' V1 := by rw [← e1]; exact KeepsOthers.setCell _ _ _
  have hK2 : KeepsOthers V1 V2 := by rw [← e2]; exact KeepsOthers.setCell _ _ _
  have hK3 : KeepsOthers V2 V3 := by rw [← e3]; exact KeepsOthers.setCell _ _ _
  have hos : V3.os = W'.os ∧ V3.tape = W'.tape ∧ V3.output = W'.output := by rw [← e3, ← e2, ← e1]; exact ⟨rfl, rfl, rfl⟩
  have hoth : ∀ b, b ≠ B2 → b ≠ B3 → b ≠ B4 → V3.heap[b]? = W'.heap[b]? := fun b h2 h3 h4 => (o3 b h4).trans ((o2 b h3).trans (o1 b h2))
  rw [e1, e2, e3] at hs
  subst hs
  have hsz := hV.size
  have hszW := hW.size
  refine ⟨⟨⟨A, x, he, hA, hx, c2, ?_⟩, c3, c4, hos.1.trans hVW.os, hos.2.1.trans hVW.tape, hos.2.2.trans hVW.output, ?_, fun b hb h2 h3 h4 => (hoth b h2 h3 h4).trans (hVW.block b hb)⟩, ((keeps_of_below hW).trans hK1).trans (hK2.trans hK3), fun b hb1 hb2 => (hoth b (by omega) (by omega) (by omega)).trans (hW.block b hb2)⟩
  · have hr2 := hr.below hW (Nat.le_refl _)
    obtain ⟨ao, cc, e, hl, h⟩ := hr2
    refine ⟨ao, cc, e, hl, ?_⟩
    rcases h with h | ⟨b, o, ea, ha, hlt⟩
    · exact Or.inl h
    · have hbg : W1.heap.size ≤ b := hrb b (by rw [e, ea]; rfl)
      have hbb := hoth b (by omega) (by omega) (by omega)
      refine Or.inr ⟨b, o, ea, fun i y hy j u hu => ?_, by omega⟩
      rw [World.cell?_of_block (a := ⟨b, o + i * 1 + j, none⟩) hbb]
      exact ha i y hy j u hu
  · have := hVW.size; omega
end Go.Proofs.YtggcbblikgankaaGreatDoor
end
section
namespace Go.Proofs.YtggcbblikgankaaGreatDoor
open Go Go.RowKit Go.Deep
def denyMu (n : Nat) (a : Act) (w : World) : Nat := n + 2 - (match a.tmps.getD 5 undef with | .pointer (some p) => (match w.cell? p with | some (.int _ k) => k.toNat | _ => 0) | _ => 0)
theorem denyMu_at {n k kB : Nat} {a : Act} {w : World} (h1 : a.tmps.getD 5 undef = .pointer (some ⟨kB, 0, none⟩)) (h2 : w.heap[kB]? = some (.cells #[.int .i64 k] 3 (0, 0))) : denyMu n a w = n + 2 - k := by
 have h3 : w.cell? ⟨kB, 0, none⟩ = some (.int .i64 k) := cell_at h2 0 rfl
 unfold denyMu
 rw [h1]
 simp only [h3, Int.toNat_natCast]
structure DenyS (c : Nat → Nat → Int) (n m : Nat) (Z : World) (k kB : Nat) (Ds : List Nat) (W : World) : Prop where
 below : Below Z.heap.size Z W
 marks : MarksAt Ds W
 far : ∀ D ∈ Ds, Z.heap.size ≤ D
 box : W.heap[kB]? = some (.cells #[.int .i64 k] 3 (0, 0))
 kfar : Z.heap.size ≤ kB
 none_ : ((List.range (k - 1)).flatMap fun k => ext n (k + 1) []).find? (fewC c m) = none
theorem DenyS.keep {c : Nat → Nat → Int} {n m : Nat} {Z : World} {k kB : Nat} {Ds : List Nat} {W W' : World} (h : DenyS c n m Z k kB Ds W) (hb : Below W.heap.size W W') : DenyS c n m Z k kB Ds W' :=
 ⟨h.below.trans (hb.mono h.below.size), ⟨h.marks.1, fun D hD => (hb.block _ (Array.getElem?_eq_some_iff.1 (h.marks.2 D hD)).1).trans (h.marks.2 D hD)⟩, h.far, (hb.block _ (Array.getElem?_eq_some_iff.1 h.box).1).trans h.box, h.kfar, h.none_⟩
theorem three_set {W : World} {B2 B3 B4 : Nat} {x2 x3 x4 : Value} (y2 y3 y4 : Value) (h2 : W.heap[B2]? = some (.cells #[x2] 55 (0, 0))) (h3 : W.heap[B3]? = some (.cells #[x3] 4 (0, 0))) (h4 : W.heap[B4]? = some (.cells #[x4] 41 (0, 0))) (hne : B2 ≠ B3 ∧ B2 ≠ B4 ∧ B3 ≠ B4) :
  ∃ V1 V2 V3, W.setCell ⟨B2, 0, none⟩ y2 = V1 ∧ V1.setCell ⟨B3, 0, none⟩ y3 = V2 ∧ V2.setCell ⟨B4, 0, none⟩ y4 = V3 ∧ (W.cell? ⟨B2, 0, none⟩ = some x2 ∧ W.frozen? ⟨B2, 0, none⟩ = false) ∧ (V1.cell? ⟨B3, 0, none⟩ = some x3 ∧ V1.frozen? ⟨B3, 0, none⟩ = false) ∧ (V2.cell? ⟨B4, 0, none⟩ = some x4 ∧ V2.frozen? ⟨B4, 0, none⟩ = false) ∧
   Hid ((V3.heap[B2]? = some (.cells #[y2] 55 (0, 0)) ∧ V3.heap[B3]? = some (.cells #[y3] 4 (0, 0)) ∧ V3.heap[B4]? = some (.cells #[y4] 41 (0, 0))) ∧ (∀ b, b ≠ B2 → b ≠ B3 → b ≠ B4 → V3.heap[b]? = W.heap[b]?) ∧ ∀ B w0, Below B w0 W → B ≤ B2 → B ≤ B3 → B ≤ B4 → Below B w0 V3) := by
 obtain ⟨V1, e1, a2, o1, b1, s1⟩ := set_box h2 y2
 have a3 := (o1 B3 (by omega)).trans h3
 have a4 := (o1 B4 (by omega)).trans h4
 obtain ⟨V2, e2, b3, o2, d2, s2⟩ := set_box a3 y3
 have b2 := (o2 B2 (by omega)).trans a2
 have b4 := (o2 B4 (by omega)).trans a4
 obtain ⟨V3, e3, c4, o3, d3, s3⟩ := set_box b4 y4
 refine ⟨V1, V2, V3, e1, e2, e3, ⟨cell_at h2 0 rfl, by simp [World.frozen?, h2]⟩, ⟨cell_at a3 0 rfl, by simp [World.frozen?, a3]⟩, ⟨cell_at b4 0 rfl, by simp [World.frozen?, b4]⟩, Lib.hid ⟨⟨(o3 B2 (by omega)).trans b2, (o3 B3 (by omega)).trans b3, c4⟩, fun b q2 q3 q4 => (o3 b q4).trans ((o2 b q3).trans (o1 b q2)), fun B w0 hb q2 q3 q4 => d3 _ _ (d2 _ _ (b1 _ _ hb q2) q3) q4⟩⟩
theorem deny_leave {cost : List (List Int)} {w0 V : World} {Ds : List Nat} {tmps : Array Value} {B2 B3 B4 : Nat} {y2 y3 y4 : Value} (hD : MarksAt Ds V) (t2 : tmps.getD 2 undef = .pointer (some ⟨B2, 0, none⟩)) (t3 : tmps.getD 3 undef = .pointer (some ⟨B3, 0, none⟩)) (t4 : tmps.getD 4 undef = .pointer (some ⟨B4, 0, none⟩))
  (h2 : V.heap[B2]? = some (.cells #[y2] 55 (0, 0))) (h3 : V.heap[B3]? = some (.cells #[y3] 4 (0, 0))) (h4 : V.heap[B4]? = some (.cells #[y4] 41 (0, 0))) (hP : DenyP cost w0 (.returned (.tuple #[y2, y3, y4])) (shutAll Ds V)) :
  LeavesInM Fence.wide 20 Tryz.prog Tryz.f27 tmps (DenyP cost w0) (marksOf Ds) .returning V := by
 refine leaves_marks Ds V hD ⟨_, results_deny tmps _ _ _ _ y2 y3 y4 t2 t3 t4 ?_ ?_ ?_, hP⟩
 ·exact cell_at (shut_cells hD h2 rfl) 0 rfl
 ·exact cell_at (shut_cells hD h3 rfl) 0 rfl
 ·exact cell_at (shut_cells hD h4 rfl) 0 rfl
section
attribute [local go_sem] Oper.semAt_some
set_option maxRecDepth 100000 in
set_option maxHeartbeats 8000000 in
theorem deny_loop (w0 Z : World) (cost : List (List Int)) (n m : Nat) (hl : cost.length = n) (hrl : ∀ r ∈ cost, r.length = m) (hw : widN cost = m) (hn : n ≤ 16) (hm : m ≤ 16) (hce : castE cost = 0) (aoC : Option Addr) (ccC kC B2 B3 B4 : Nat) (hM : IsMat Z (.slice aoC n ccC) cost) (hC : Z.cell? ⟨kC, 0, none⟩ = some (.slice aoC n ccC)) (hkC : kC < Z.heap.size)
  (x2 x3 x4 : Value) (h2 : Z.heap[B2]? = some (.cells #[x2] 55 (0, 0))) (h3 : Z.heap[B3]? = some (.cells #[x3] 4 (0, 0))) (h4 : Z.heap[B4]? = some (.cells #[x4] 41 (0, 0))) (hne : B2 ≠ B3 ∧ B2 ≠ B4 ∧ B3 ≠ B4) (hw0 : Below w0.heap.size w0 Z) (hB : w0.heap.size ≤ B2 ∧ w0.heap.size ≤ B3 ∧ w0.heap.size ≤ B4)
  (e0 f5 f6 f7 f8 f9 f10 f11 f12 f13 f14 f15 f16 f17 f18 f19 f20 f21 f22 f23 f24 f25 f26 f27 f28 f29 f30 f31 f32 f33 f34 f35 f36 f37 f38 f39 f40 : Value) :
  part33n2.wpIn Fence.wide 20 Tryz.prog (bodyPostM Fence.wide 20 Tryz.prog Tryz.f27 (DenyP cost w0)) { tmps := #[e0, .pointer (some ⟨kC, 0, none⟩), .pointer (some ⟨B2, 0, none⟩), .pointer (some ⟨B3, 0, none⟩), .pointer (some ⟨B4, 0, none⟩), f5, f6, f7, f8, f9, f10, f11, f12, f13, f14, f15, f16, f17, f18, f19, f20, f21, f22, f23, f24, f25, f26, f27, f28, f29, f30, f31, f32, f33, f34, f35, f36, f37, f38, f39, f40], defers := [] } Z := by
 have HM := Lib.hid hM; have HC := Lib.hid hC; have H2 := Lib.hid h2; have H3 := Lib.hid h3; have H4 := Lib.hid h4; have HW0 := Lib.hid hw0; have HL := Lib.hid hl; have HRL := Lib.hid hrl; have HWI := Lib.hid hw; have HCE := Lib.hid hce
 have l2 := (Array.getElem?_eq_some_iff.1 h2).1
 have l3 := (Array.getElem?_eq_some_iff.1 h3).1
 have l4 := (Array.getElem?_eq_some_iff.1 h4).1
 clear hM hC h2 h3 h4 hw0 hl hrl hw hce
 obtain ⟨V1, e1, g1, b1, s1⟩ := mk_box Z (.int .i64 0) 3
 obtain ⟨V2, e2, g2, o2, b2, s2⟩ := set_box g1 (.int .i64 1)
 have hS : DenyS (cI cost) n m Z 1 Z.heap.size [] V2 := ⟨b2 _ _ b1 (Nat.le_refl _), ⟨List.nodup_nil, by simp⟩, by simp, g2, Nat.le_refl _, rfl⟩
 have c1 : V1.cell? ⟨Z.heap.size, 0, none⟩ = some (.int .i64 0) := cell_at g1 0 rfl
 have f1' : V1.frozen? ⟨Z.heap.size, 0, none⟩ = false := by simp [World.frozen?, g1]
 have HS := Lib.hid hS
 clear hS g1 b1 s1 g2 o2 b2 s2
 unfold part33n2 code33
 conv => arg 4; whnf
 gi_wp2_with fail
 refine wpIn_loop (fun a W => ∃ (k kB : Nat) (Ds : List Nat) (f6 f7 f8 f9 f10 f11 f12 f13 f14 f15 f16 f17 f18 f19 f20 f21 f22 f23 f24 f25 f26 f27 f28 f29 f30 f31 f32 f33 f34 f35 f36 f37 f38 f39 f40 : Value), a = { tmps := #[e0, .pointer (some ⟨kC, 0, none⟩), .pointer (some ⟨B2, 0, none⟩), .pointer (some ⟨B3, 0, none⟩), .pointer (some ⟨B4, 0, none⟩), .pointer (some ⟨kB, 0, none⟩), f6, f7, f8, f9, f10, f11, f12, f13, f14, f15, f16, f17, f18, f19, f20, f21, f22, f23, f24, f25, f26, f27, f28, f29, f30, f31, f32, f33, f34, f35, f36, f37, f38, f39, f40], defers := marksOf Ds } ∧ 1 ≤ k ∧ k ≤ n + 1 ∧ Hid (DenyS (cI cost) n m Z k kB Ds W)) (denyMu n) ⟨1, Z.heap.size, [], _, _, _, _, _, _, _, _, _, _, _, _, _, _, _, _, _, _, _, _, _, _, _, _, _, _, _, _, _, _, _, _, _, _, _, rfl, Nat.le_refl _, by omega, HS⟩ ?_
 rintro a W ⟨k, kB, Ds, f6, f7, f8, f9, f10, f11, f12, f13, f14, f15, f16, f17, f18, f19, f20, f21, f22, f23, f24, f25, f26, f27, f28, f29, f30, f31, f32, f33, f34, f35, f36, f37, f38, f39, f40, rfl, hk1, hkn, hS⟩
 have hmu := denyMu_at (n := n) (a := { tmps := #[e0, .pointer (some ⟨kC, 0, none⟩), .pointer (some ⟨B2, 0, none⟩), .pointer (some ⟨B3, 0, none⟩), .pointer (some ⟨B4, 0, none⟩), .pointer (some ⟨kB, 0, none⟩), f6, f7, f8, f9, f10, f11, f12, f13, f14, f15, f16, f17, f18, f19, f20, f21, f22, f23, f24, f25, f26, f27, f28, f29, f30, f31, f32, f33, f34, f35, f36, f37, f38, f39, f40], defers := marksOf Ds }) rfl hS.out.box
 rw [hmu]
 clear hmu HS
 have cK : W.cell? ⟨kB, 0, none⟩ = some (.int .i64 k) := cell_at hS.out.box 0 rfl
 have cC := (hS.out.below.cell (p := ⟨kC, 0, none⟩) hkC).trans HC.out
 by_cases hk : k ≤ n
 ·have hk' : (k : Int) ≤ (n : Int) := by omega
  gi_wp2_with fail
  try refine ⟨trivial, ?_⟩
  refine (callsIn_wide.2 (lists_any n k W)).mono ?_
  rintro e W1 ⟨rfl, gN, gK, hb1, hs1⟩
  have hS1 := hS.out.keep hb1
  have hZ1 := hS1.below.size
  have GN := Lib.hid gN; have GK := Lib.hid gK; have HS1 := Lib.hid hS1; have HB1 := Lib.hid hb1
  clear gN gK hS1 hb1 cK cC hS
  gi_wp2_with fail
  refine wpIn_rangeFunc_stops rfl (by omega) (gf := 86) (lb := #[.pointer (some ⟨W.heap.size + 1, 0, none⟩), .pointer (some ⟨W.heap.size, 0, none⟩)]) rfl trivial (enters_of Tryz.func86 (by kernel_rfl) rfl) (encs := fun x : Value × List Nat => #[x.1]) (G := GivenL W1.heap.size n k) (S := fun xs => xs.map (·.2) = ext n k []) (Sp := fun xs => xs.map (·.2) <+: ext n k [])
   (lists_stops _ _ _ n k hk hn W1 GK.out GN.out) (fun _ => rfl)
   (fun pre V => Below W1.heap.size W1 V ∧ (pre.map (·.2)).find? (fewC (cI cost) m) = none) (DenyEnd (cI cost) m B2 B3 B4 W1)
   (OwnFrom.and (ownFrom_below (Nat.le_refl _) (Nat.le_refl _)) (ownFrom_pure _ _)) (DenyEnd.own _ _ _ _ _ _ (by omega) (by omega) (by omega)) (fun pre V V' h hb => ⟨h.1.trans (hb.mono h.1.size), h.2⟩) ⟨Below.refl _ _, rfl⟩
   (fun x a' V => (∃ (g7 g8 g9 g10 g11 g12 g13 g14 g15 g16 g17 g18 g19 g20 g21 g22 g23 g24 g25 g26 g27 g28 g29 g30 g31 g32 g33 g34 g35 g36 g37 g38 g39 g40 : Value), a' = { tmps := #[e0, .pointer (some ⟨kC, 0, none⟩), .pointer (some ⟨B2, 0, none⟩), .pointer (some ⟨B3, 0, none⟩), .pointer (some ⟨B4, 0, none⟩), .pointer (some ⟨kB, 0, none⟩), x.1, g7, g8, g9, g10, g11, g12, g13, g14, g15, g16, g17, g18, g19, g20, g21, g22, g23, g24, g25, g26, g27, g28, g29, g30, g31, g32, g33, g34, g35, g36, g37, g38, g39, g40], defers := [] }) ∧ GivenL W1.heap.size n k x V)
   ?hAx ?assign ?body ?done ?stop
  case hAx =>
   rintro x a' _ X Y row ⟨h, h1, h2, h3, h4⟩ hg hr
   exact ⟨h, isRow_grown h1 hg (fun r e => (hr r e).2), h2, h3, h4⟩
  case assign =>
   intro lr pre x V K _ hG hK
   have HKK := Lib.hid hK; have HG := Lib.hid hG
   clear hK hG
   gi_wp2_with fail
   exact HKK.out _ _ (KeepsOthers.refl _) (Below.refl _ _) ⟨⟨_, _, _, _, _, _, _, _, _, _, _, _, _, _, _, _, _, _, _, _, _, _, _, _, _, _, _, _, _, _, _, _, _, _, rfl⟩, HG.out⟩
  case body =>
   rintro lr pre x a' V ⟨hb, hf⟩ ⟨⟨g7, g8, g9, g10, g11, g12, g13, g14, g15, g16, g17, g18, g19, g20, g21, g22, g23, g24, g25, g26, g27, g28, g29, g30, g31, g32, g33, g34, g35, g36, g37, g38, g39, g40, rfl⟩, hG⟩
   obtain ⟨r1, r2, r3, r4⟩ := hG
   have hZV : Below Z.heap.size Z V := HS1.out.below.trans (hb.mono HS1.out.below.size)
   have gB := (hb.block _ (Array.getElem?_eq_some_iff.1 HS1.out.box).1).trans HS1.out.box
   have gBl := (Array.getElem?_eq_some_iff.1 gB).1
   have q2 := (HS1.out.below.block _ l2).trans H2.out
   have q3 := (HS1.out.below.block _ l3).trans H3.out
   have q4 := (HS1.out.below.block _ l4).trans H4.out
   have lC : kC < V.heap.size := Nat.lt_of_lt_of_le hkC hZV.size
   have cC : V.cell? ⟨kC, 0, none⟩ = some (.slice aoC n ccC) := (hZV.cell (p := ⟨kC, 0, none⟩) hkC).trans HC.out
   have cK : V.cell? ⟨kB, 0, none⟩ = some (.int .i64 k) := cell_at gB 0 rfl
   refine deny_body lr _ (by decide) cost n m k HL.out HRL.out HWI.out hn hm aoC ccC kC B2 B3 B4 kB x.2 r2 hk r3.2 x.1 V (HM.out.below hZV (Nat.le_refl _)) cC lC cK gBl r1 x2 x3 x4 ((hb.block _ (by omega)).trans q2) ((hb.block _ (by omega)).trans q3) ((hb.block _ (by omega)).trans q4) hne _ _ _ _ _ _ _ _ _ _ _ _ _ _ _ _ _ _ _ _ _ _ _ _ _ _ _ _ _ _ _ _ _ _ _ _ ?_ ?_
   ·intro hfew a V' hV'
    refine ⟨keeps_of_below hV', hV', hb.trans (hV'.mono hb.size), ?_⟩
    rw [List.map_append, List.find?_append, hf]
    simp [hfew]
   ·intro hfew a V' V'' hV' hs
    obtain ⟨z1, z2, z3⟩ := DenyEnd.make (cI cost) m B2 B3 B4 W1 V V' V'' (pre ++ [x]) pre x rfl hf hfew hne hb hV' r1 x2 x3 x4 q2 q3 q4 r4 hs
    exact ⟨z2, z1, z3⟩
  case done =>
   rintro D xs V hD hxs ⟨hb, hf⟩ hDD
   have hS' := HS1.out.keep hb
   have hnD : D ∉ Ds := fun hm => by
    have := (Array.getElem?_eq_some_iff.1 (HS1.out.marks.2 D hm)).1
    omega
   have hDl := (Array.getElem?_eq_some_iff.1 hDD).1
   have hZV := hS'.below.size
   have hk1' : k - 1 + 1 = k := by omega
   have hfs := find_succ (k := k - 1) hS'.none_ (by rw [hk1', ← hxs]; exact hf)
   rw [hk1'] at hfs
   obtain ⟨U1, d1, a1, b1', s1'⟩ := mk_box V (.int .i64 0) 3
   obtain ⟨U2, d2, a2, o2', b2', s2'⟩ := set_box a1 (.int .i64 k)
   obtain ⟨U3, d3, a3, o3', b3', s3'⟩ := set_box a2 (.int .i64 ((k : Int) + 1))
   have hbU : Below V.heap.size V U3 := b3' _ _ (b2' _ _ b1' (Nat.le_refl _)) (Nat.le_refl _)
   have hS2 := hS'.keep hbU
   have hSn : DenyS (cI cost) n m Z (k + 1) V.heap.size (D :: Ds) U3 := by
    refine ⟨hS2.below, ⟨List.nodup_cons.2 ⟨hnD, hS2.marks.1⟩, fun E hE => ?_⟩, fun E hE => ?_, by rw [a3]; rfl, hZV, hfs⟩
    ·rcases List.mem_cons.1 hE with rfl | hE
     ·exact (hbU.block _ hDl).trans hDD
     ·exact hS2.marks.2 E hE
    ·rcases List.mem_cons.1 hE with rfl | hE
     ·omega
     ·exact hS2.far E hE
   have cK : V.cell? ⟨kB, 0, none⟩ = some (.int .i64 k) := cell_at hS'.box 0 rfl
   have k1 : U1.cell? ⟨V.heap.size, 0, none⟩ = some (.int .i64 0) := cell_at a1 0 rfl
   have k2 : U1.frozen? ⟨V.heap.size, 0, none⟩ = false := by simp [World.frozen?, a1]
   have k3 : U2.cell? ⟨V.heap.size, 0, none⟩ = some (.int .i64 k) := cell_at a2 0 rfl
   have k4 : U2.frozen? ⟨V.heap.size, 0, none⟩ = false := by simp [World.frozen?, a2]
   have HSN := Lib.hid hSn
   clear hS' hS2 hSn hfs hf hb hDD hbU a1 a2 a3 o2' o3' b1' b2' b3' s1' s2' s3' hxs
   gi_wp2_with fail
   refine ⟨⟨k + 1, V.heap.size, D :: Ds, _, _, _, _, _, _, _, _, _, _, _, _, _, _, _, _, _, _, _, _, _, _, _, _, _, _, _, _, _, _, _, _, _, _, _, rfl, by omega, by omega, HSN⟩, ?_⟩
   rw [denyMu_at (n := n) (k := k + 1) (kB := V.heap.size) rfl HSN.out.box]
   omega
  case stop =>
   rintro D xs V hD hxs hE hDD
   have HE := Lib.hid hE; have HXS := Lib.hid hxs; have HDD := Lib.hid hDD
   clear hE hxs hDD
   gi_wp2_with fail
   have hE := HE.out
   obtain ⟨A, x, rfl, hA, hx, g2, hr⟩ := hE.found
   have hfar := HS1.out.far
   have hnD : D ∉ Ds := fun hm => by
    have := (Array.getElem?_eq_some_iff.1 (HS1.out.marks.2 D hm)).1
    omega
   have hmk : MarksAt (D :: Ds) V := by
    refine ⟨List.nodup_cons.2 ⟨hnD, HS1.out.marks.1⟩, fun E hm => ?_⟩
    rcases List.mem_cons.1 hm with rfl | hm
    ·exact HDD.out
    ·have h0 := HS1.out.marks.2 E hm
     have hf := hfar E hm
     exact (hE.block E (Array.getElem?_eq_some_iff.1 h0).1 (by omega) (by omega) (by omega)).trans h0
   have hw01 : Below w0.heap.size w0 W1 := HW0.out.trans (HS1.out.below.mono HW0.out.size)
   have hw0V : Below w0.heap.size w0 V := ⟨hE.os.trans hw01.os, hE.tape.trans hw01.tape, hE.output.trans hw01.output, Nat.le_trans hw01.size hE.size, fun b hb => (hE.block b (Nat.lt_of_lt_of_le hb hw01.size) (by omega) (by omega) (by omega)).trans (hw01.block b hb)⟩
   have hk1' : k - 1 + 1 = k := by omega
   refine deny_leave hmk rfl rfl rfl g2 hE.b3 hE.b4 ⟨hw0V.trans (shut_below fun E hm => ?_), Or.inr (Or.inr ⟨HCE.out, x.1, x.2, ?_, rfl, isRow_shut hr hmk⟩)⟩
   ·have := HW0.out.size
    rcases List.mem_cons.1 hm with rfl | hm
    ·omega
    ·have hf := hfar E hm; omega
   ·rw [HL.out, HWI.out]
    refine denyF_stop (k := k - 1) (by omega) HS1.out.none_ hA hx ?_
    have := HXS.out
    rw [List.map_append] at this
    rw [hk1']
    exact this
 ·obtain rfl : k = n + 1 := by omega
  have hk' : ¬ ((n + 1 : Nat) : Int) ≤ (n : Int) := by omega
  have q2 := (hS.out.below.block _ l2).trans H2.out
  have q3 := (hS.out.below.block _ l3).trans H3.out
  have q4 := (hS.out.below.block _ l4).trans H4.out
  obtain ⟨U1, U2, U3, d1, d2, d3, ⟨p2, r2⟩, ⟨p3, r3⟩, ⟨p4, r4⟩, hU⟩ := three_set (.slice none 0 0) (.bool false) (.int .i64 0) q2 q3 q4 hne
  clear q2 q3 q4
  gi_wp2_with fail
  obtain ⟨⟨u2, u3, u4⟩, uo, ub⟩ := hU.out
  have hmk : MarksAt Ds U3 := ⟨hS.out.marks.1, fun D hD => (uo D (by have := hS.out.far D hD; omega) (by have := hS.out.far D hD; omega) (by have := hS.out.far D hD; omega)).trans (hS.out.marks.2 D hD)⟩
  refine deny_leave hmk rfl rfl rfl u2 u3 u4 ⟨(ub _ _ (HW0.out.trans (hS.out.below.mono HW0.out.size)) hB.1 hB.2.1 hB.2.2).trans (shut_below fun D hD => by have := hS.out.far D hD; have := HW0.out.size; omega), Or.inr (Or.inl ⟨HCE.out, ?_, rfl⟩)⟩
  have := hS.out.none_
  rw [HL.out, HWI.out]
  exact this
end
end Go.Proofs.YtggcbblikgankaaGreatDoor
end
section
namespace Go.Proofs.YtggcbblikgankaaGreatDoor
open Go Go.RowKit Go.Deep
section
attribute [local go_sem] Oper.semAt_some
set_option maxRecDepth 100000 in
set_option maxHeartbeats 8000000 in
theorem deny_any {v : Value} {cost : List (List Int)} (w : World) (h : IsMat w v cost) : Calls Tryz.prog 27 #[v] w (DenyP cost w) := by
 obtain ⟨ao, c, rfl⟩ := h.form
 obtain ⟨V1, e1, g1, b1, s1⟩ := mk_box w (.slice ao cost.length c) 50
 obtain ⟨V2, e2, g2, b2, s2⟩ := mk_box V1 (.slice none 0 0) 55
 obtain ⟨V3, e3, g3, b3, s3⟩ := mk_box V2 (.bool false) 4
 obtain ⟨V4, e4, g4, b4, s4⟩ := mk_box V3 (.int .i64 0) 41
 have t2 : V2.heap.size = w.heap.size + 1 + 1 := by omega
 have t3 : V3.heap.size = w.heap.size + 1 + 1 + 1 := by omega
 rw [s1] at g2 b2
 rw [t2] at g3 b3
 rw [t3] at g4 b4
 have hb4 : Below w.heap.size w V4 := ((b1.trans (b2.mono (by omega))).trans (b3.mono (by omega))).trans (b4.mono (by omega))
 have q1 := (b4.block _ (by omega)).trans ((b3.block _ (by omega)).trans ((b2.block _ (by omega)).trans g1))
 have q2 := (b4.block _ (by omega)).trans ((b3.block _ (by omega)).trans g2)
 have q3 := (b4.block _ (by omega)).trans g3
 have hch := ccheck_any V4 (h.below hb4 (Nat.le_refl _))
 have hM4 := h.below hb4 (Nat.le_refl _)
 have c1 : V4.cell? ⟨w.heap.size, 0, none⟩ = some (.slice ao cost.length c) := cell_at q1 0 rfl
 have HCH := Lib.hid hch; have HM := Lib.hid hM4; have Q1 := Lib.hid q1; have Q2 := Lib.hid q2; have Q3 := Lib.hid q3; have Q4 := Lib.hid g4; have HB4 := Lib.hid hb4
 have s4' : V4.heap.size = w.heap.size + 4 := by omega
 have HH := Lib.hid h
 clear hch hM4 q1 q2 q3 g1 g2 g3 g4 b1 b2 b3 b4 hb4 h
 refine (callsIn_wide (n := 20)).1 ?_
 refine callsIn_of_wp_marks Tryz.func27 rfl trivial ?_ rfl
 simp only [Tryz.ntmps27, List.size_toArray, List.length_cons, List.length_nil, Nat.reduceAdd, Nat.reduceSub, Array.replicate_succ, Array.replicate_zero, List.push_toArray, List.append_toArray, List.nil_append, List.cons_append]
 change Code.wpIn _ _ _ (withLast 2 code33 part33n2) _ _ _
 conv => arg 4; whnf
 gi_wp2_with fail
 conv => arg 4; whnf
 gi_wp2_with fail
 refine ⟨trivial, ?_⟩
 refine (callsIn_wide.2 HCH.out).mono ?_
 rintro e w5 ⟨rfl, hb5⟩
 have p2 := (hb5.block _ (by omega)).trans Q2.out
 have p3 := (hb5.block _ (by omega)).trans Q3.out
 have p4 := (hb5.block _ (by omega)).trans Q4.out
 obtain ⟨Z, e5, g5, o5, b5, s5⟩ := set_box p4 (.int .i64 (castE cost))
 have z1 := (o5 w.heap.size (by omega)).trans ((hb5.block _ (by omega)).trans Q1.out)
 have z2 := (o5 _ (by omega)).trans p2
 have z3 := (o5 _ (by omega)).trans p3
 have hwZ : Below w.heap.size w Z := b5 _ _ (HB4.out.trans (hb5.mono (by omega))) (by omega)
 have k4 : w5.cell? ⟨w.heap.size + 1 + 1 + 1, 0, none⟩ = some (.int .i64 0) := cell_at p4 0 rfl
 have f4 : w5.frozen? ⟨w.heap.size + 1 + 1 + 1, 0, none⟩ = false := by simp [World.frozen?, p4]
 have k5 : Z.cell? ⟨w.heap.size + 1 + 1 + 1, 0, none⟩ = some (.int .i64 (castE cost)) := cell_at g5 0 rfl
 have k1 : Z.cell? ⟨w.heap.size, 0, none⟩ = some (.slice ao cost.length c) := cell_at z1 0 rfl
 have HZ := Lib.hid hwZ; have Z2 := Lib.hid z2; have Z3 := Lib.hid z3; have Z4 := Lib.hid g5
 have hzs : w.heap.size + 4 ≤ Z.heap.size := by have := hb5.size; omega
 have hMZ : IsMat Z (.slice ao cost.length c) cost := HH.out.below hwZ (Nat.le_refl _)
 have HMZ := Lib.hid hMZ
 clear p2 p3 p4 o5 b5 s5 z1 z2 z3 g5 hwZ hb5 HCH Q1 Q2 Q3 Q4 HB4 HM hMZ
 by_cases hce : castE cost = 0
 ·have hne : (castE cost != 0) = false := by simp [hce]
  obtain ⟨r1, r2, r3, r4, r5⟩ := right_of hce
  have hloop := deny_loop w Z cost cost.length (widN cost) rfl r3 rfl r1 r2 hce ao c w.heap.size (w.heap.size + 1) (w.heap.size + 1 + 1) (w.heap.size + 1 + 1 + 1) HMZ.out k1 (by omega) _ _ _ Z2.out Z3.out Z4.out ⟨by omega, by omega, by omega⟩ HZ.out ⟨by omega, by omega, by omega⟩
  have HLO := Lib.hid hloop
  clear r1 r2 r3 r4 r5 hloop hce
  gi_wp2_with fail
  exact HLO.out _ _ _ _ _ _ _ _ _ _ _ _ _ _ _ _ _ _ _ _ _ _ _ _ _ _ _ _ _ _ _ _ _ _ _ _ _ 
 ·have hne : (castE cost != 0) = true := by simpa using hce
  have HCE := Lib.hid hce
  obtain ⟨U1, U2, U3, d1, d2, d3, ⟨p2, r2⟩, ⟨p3, r3⟩, ⟨p4, r4⟩, hU⟩ := three_set (W := Z.drew) (.slice none 0 0) (.bool false) (.int .i64 (castE cost)) Z2.out Z3.out Z4.out ⟨by omega, by omega, by omega⟩
  have hu := hU.out
  have u1 : U1.cell? ⟨w.heap.size + 1 + 1 + 1, 0, none⟩ = some (.int .i64 (castE cost)) := by
   rw [← d1]
   exact (World.cell?_of_block (a := ⟨w.heap.size + 1 + 1 + 1, 0, none⟩) (Below.heap_setCell _ _ _ _ (by show w.heap.size + 1 + 1 + 1 ≠ w.heap.size + 1; omega))).trans k5
  have u3 : U3.cell? ⟨w.heap.size + 1 + 1 + 1, 0, none⟩ = some (.int .i64 (castE cost)) := cell_at hu.1.2.2 0 rfl
  clear hu
  gi_wp2_with fail
  refine wpIn_wide.2 ?_
  go_region_held3 (fun w2 => w2.cell? ⟨w.heap.size + 1 + 1 + 1, 0, none⟩ = some (.int .i64 (castE cost))) (first | assumption | exact k5) (fail)
  gi_wp2_with fail
  obtain ⟨⟨m2, m3, m4⟩, _, ub⟩ := hU.out
  exact deny_leave (Ds := []) ⟨List.nodup_nil, by simp⟩ rfl rfl rfl m2 m3 m4 ⟨ub _ _ HZ.out.drew (by omega) (by omega) (by omega), Or.inl ⟨HCE.out, rfl⟩⟩
end
end Go.Proofs.YtggcbblikgankaaGreatDoor
end
section
namespace Go.Proofs.YtggcbblikgankaaGreatDoor
open Go Go.RowKit Go.Deep
def twoC : List (List Int) := [[1, 2], [1, 4]]
def threeC : List (List Int) := [[1, 2], [3, -1], [4, -1]]
theorem two_right : castE twoC = 0 := by kernel_rfl
theorem three_right : castE threeC = 0 := by kernel_rfl
theorem none_right : castE [[]] = 0 := by kernel_rfl
theorem minus_odd : castE [[-2]] = 470 := by kernel_rfl
theorem rag_odd : castE [[1, 2], [1]] = 470 := by kernel_rfl
theorem many_odd : castE (List.replicate 17 []) = 2 := by kernel_rfl
theorem deny_three : denyF (cI threeC) 3 2 = some [1, 2] := by kernel_rfl
theorem deny_two : denyF (cI twoC) 2 2 = none := by kernel_rfl
theorem two_casts {t : Nat → Nat} (h : CastN 2 2 (cI twoC) t) : (t 0 = 0 ∧ t 1 = 1) ∨ (t 0 = 1 ∧ t 1 = 0) := by
 have h0 := h.lt 0 (by omega)
 have h1 := h.lt 1 (by omega)
 have hne : t 0 ≠ t 1 := fun e => by have := h.inj 0 1 (by omega) (by omega) e; omega
 omega
def tenT : Nat → Nat := fun r => if r = 0 then 1 else 0
theorem two_cast : CastN 2 2 (cI twoC) tenT := by
 refine ⟨fun r hr => ?_, fun r hr => ?_, fun r r' hr hr' e => ?_⟩
 ·unfold tenT; split <;> omega
 ·have : r = 0 ∨ r = 1 := by omega
  rcases this with rfl | rfl
  ·decide
  ·decide
 ·unfold tenT at e
  split at e <;> split at e <;> omega
theorem two_sum {t : Nat → Nat} : sumT (fun r => cI twoC r (t r)) 2 = cI twoC 0 (t 0) + cI twoC 1 (t 1) := by
 show (0 : Int) + _ + _ = _
 rw [Int.zero_add]
theorem two_best {t : Nat → Nat} {taken : List Bool} {best : Int} (hmin : ∀ s, CastN 2 2 (cI twoC) s → best ≤ sumT (fun r => cI twoC r (s r)) 2) (h : FirstOk 2 2 (cI twoC) best 2 t taken) : best = 3 ∧ toL t 2 = [1, 0] := by
 obtain ⟨s, h1, h2, h3⟩ := h.ex
 have e0 := h2 0 (by omega)
 have e1 := h2 1 (by omega)
 have hb := hmin tenT two_cast
 rw [two_sum] at hb h3
 have hv : cI twoC 0 (tenT 0) + cI twoC 1 (tenT 1) = 3 := by decide
 rw [hv] at hb
 have hL : toL t 2 = [(t 0 : Int), (t 1 : Int)] := rfl
 rcases two_casts h1 with ⟨a, b⟩ | ⟨a, b⟩
 ·exfalso
  rw [a, b] at h3
  have : cI twoC 0 0 + cI twoC 1 1 = 5 := by decide
  omega
 ·rw [a, b] at h3
  have : cI twoC 0 1 + cI twoC 1 0 = 3 := by decide
  refine ⟨by omega, ?_⟩
  rw [hL, ← e0, ← e1, a, b]; rfl
theorem none_cast (t : Nat → Nat) : ¬ CastN 1 0 (cI [[]]) t := fun h => by have := h.lt 0 (by omega); omega
end Go.Proofs.YtggcbblikgankaaGreatDoor
end
section
namespace Go.Proofs.YtggcbblikgankaaGreatDoor
open Go Go.RowKit Go.Deep
def few20 (cost : List (List Int)) : Bool := decide (cost.length ≤ 20) && cost.all fun r => decide (r.length ≤ 20)
theorem gi_some {l : List Int} {i : Nat} (h : i < l.length) : l[i]? = some (gi l i) := by
 unfold gi; rw [List.getElem?_eq_getElem h]; rfl
set_option maxRecDepth 100000 in
set_option maxHeartbeats 8000000 in
theorem sameI_any (ao bo : Option Addr) (n n' c d : Nat) (xs ys : List Int) (hnx : xs.length = n) (hny : ys.length = n') (w : World) (hx : IsRow encI 1 w (.slice ao n c) xs) (hy : IsRow encI 1 w (.slice bo n' d) ys) :
  Calls Tryz.prog 24 #[.slice ao n c, .slice bo n' d] w fun e w' => e = .returned (.bool (decide (xs = ys))) ∧ ∃ k, w' = w.drewN k := by
 have hmx : n ≤ maxLen := by obtain ⟨_, _, _, h, _⟩ := hx; omega
 simp only [maxLen] at hmx
 by_cases hl : n = n'
 ·subst hl
  have hno : ∀ i, i < n → gi xs i ≠ gi ys i → decide (xs = ys) = false := fun i _ h => decide_eq_false fun e => h (by rw [e])
  have hyes : (∀ i, i < n → gi xs i = gi ys i) → decide (xs = ys) = true := fun h => by
   refine decide_eq_true (List.ext_getElem? fun i => ?_)
   by_cases hi : i < n
   ·rw [gi_some (by omega), gi_some (by omega), h i hi]
   ·rw [List.getElem?_eq_none (by omega), List.getElem?_eq_none (by omega)]
  have HNO := Lib.hid hno; have HYES := Lib.hid hyes; have HX := Lib.hid hx; have HY := Lib.hid hy; have HNX := Lib.hid hnx; have HNY := Lib.hid hny
  clear hno hyes hx hy hnx hny
  generalize decide (xs = ys) = bb at *
  go_enter Tryz.func24, Tryz.ntmps24
  go_wp2_with fail
  go_loopw [5] (fun iv wr => ∃ (i k : Nat), iv = .int .i64 i ∧ i ≤ n ∧ wr = w.drewN k ∧ Hid (∀ q, q < i → gi xs q = gi ys q)) (fun iv _ => n - (intOf iv).toNat)
  case atStart => exact ⟨0, 0, rfl, Nat.zero_le _, (w.drewN_zero).symm, Lib.hid fun q hq => by omega⟩
  case round =>
   obtain ⟨i, k, rfl, hin, rfl, hall⟩ := hrel
   by_cases hi : i < n
   ·obtain ⟨b1, o1, e1, p1, _⟩ := HX.out.int (j := i) (by rw [HNX.out]; exact hi)
    obtain ⟨b2, o2, e2, p2, _⟩ := HY.out.int (j := i) (by rw [HNY.out]; exact hi)
    subst e1; subst e2
    have hi' : (i : Int) < (n : Int) := by omega
    have hst : ∀ (h : gi xs i = gi ys i), ∀ q, q < i + 1 → gi xs q = gi ys q := fun h q hq => by
     by_cases e : q = i
     ·subst e; exact h
     ·exact hall.out q (by omega)
    have hf := HNO.out i hi
    have HST := Lib.hid hst; have HF := Lib.hid hf
    clear hst hf
    generalize gi xs i = x at *
    generalize gi ys i = y at *
    by_cases hxy : x = y
    ·have hne : (x != y) = false := by simp [hxy]
     have H2 := Lib.hid (HST.out hxy)
     clear HST HF hxy
     go_wp2_with fail
     go_quiet (fail)
     go_wp2_with fail
     go_roundw
     case rel => exact ⟨i + 1, k + nq, by go_num, by omega, by simp [World.drewN], H2⟩
     case measure => simp [intOf]; omega
    ·have hne : (x != y) = true := by simpa using hxy
     have H2 := Lib.hid (HF.out hxy)
     clear HST HF hxy
     go_wp2_with fail
     go_quiet (fail)
     go_wp2_with fail
     go_ret
     exact ⟨by rw [H2.out]; rfl, k + nq, by simp [World.drewN, Nat.add_assoc]⟩
   ·obtain rfl : i = n := by omega
    have hi' : ¬ (i : Int) < (i : Int) := by omega
    have H2 := Lib.hid (HYES.out hall.out)
    go_wp2_with fail
    go_ret
    exact ⟨by rw [H2.out]; rfl, k, rfl⟩
 ·have hne : ((n : Int) != (n' : Int)) = true := by simp; omega
  have hd : decide (xs = ys) = false := decide_eq_false fun e => hl (by rw [← hnx, ← hny, e])
  have HD := Lib.hid hd
  clear hd hx hy
  go_enter Tryz.func24, Tryz.ntmps24
  go_wp2_with fail
  go_ret
  exact ⟨by rw [HD.out]; rfl, 0, (w.drewN_zero).symm⟩
end Go.Proofs.YtggcbblikgankaaGreatDoor
end
section
namespace Go.Proofs.YtggcbblikgankaaGreatDoor
open Go Go.RowKit Go.Deep
def rowAt (cost : List (List Int)) (i : Nat) : List Int := cost[i]?.getD []
theorem row_some {cost : List (List Int)} {i : Nat} (h : i < cost.length) : cost[i]? = some (rowAt cost i) := by
 unfold rowAt; rw [List.getElem?_eq_getElem h]; rfl
theorem row_mem {cost : List (List Int)} {i : Nat} (h : i < cost.length) : rowAt cost i ∈ cost := List.mem_of_getElem? (row_some h)
set_option maxRecDepth 100000 in
set_option maxHeartbeats 8000000 in
theorem sameL_any (ao bo : Option Addr) (n n' c d : Nat) (xs ys : List (List Int)) (hnx : xs.length = n) (hny : ys.length = n') (w : World) (hx : IsMat w (.slice ao n c) xs) (hy : IsMat w (.slice bo n' d) ys) :
  Calls Tryz.prog 18 #[.slice ao n c, .slice bo n' d] w fun e w' => e = .returned (.bool (decide (xs = ys))) ∧ Below w.heap.size w w' := by
 have hmx : n ≤ maxLen := by have := hx.len; omega
 simp only [maxLen] at hmx
 by_cases hl : n = n'
 ·subst hl
  have hno : ∀ i, i < n → decide (rowAt xs i = rowAt ys i) = false → decide (xs = ys) = false := fun i _ h => decide_eq_false fun e => (of_decide_eq_false h) (by rw [e])
  have hyes : (∀ i, i < n → rowAt xs i = rowAt ys i) → decide (xs = ys) = true := fun h => by
   refine decide_eq_true (List.ext_getElem? fun i => ?_)
   by_cases hi : i < n
   ·rw [row_some (by omega), row_some (by omega), h i hi]
   ·rw [List.getElem?_eq_none (by omega), List.getElem?_eq_none (by omega)]
  have HNO := Lib.hid hno; have HYES := Lib.hid hyes; have HX := Lib.hid hx; have HY := Lib.hid hy; have HNX := Lib.hid hnx; have HNY := Lib.hid hny
  clear hno hyes hx hy hnx hny
  generalize decide (xs = ys) = bb at *
  go_enter Tryz.func18, Tryz.ntmps18
  go_wp2_with fail
  go_loopw [5] (fun iv wr => ∃ i : Nat, iv = .int .i64 i ∧ i ≤ n ∧ Hid (Below w.heap.size w wr) ∧ Hid (∀ q, q < i → rowAt xs q = rowAt ys q)) (fun iv _ => n - (intOf iv).toNat)
  case atStart => exact ⟨0, rfl, Nat.zero_le _, Lib.hid (Below.refl _ _), Lib.hid fun q hq => by omega⟩
  case round =>
   obtain ⟨i, rfl, hin, hW, hall⟩ := hrel
   by_cases hi : i < n
   ·obtain ⟨b1, o1, e1, a1, c1, p1, r1, _⟩ := (HX.out.below hW.out (Nat.le_refl _)).at_ (i := i) (by rw [HNX.out]; exact hi)
    obtain ⟨b2, o2, e2, a2, c2, p2, r2, _⟩ := (HY.out.below hW.out (Nat.le_refl _)).at_ (i := i) (by rw [HNY.out]; exact hi)
    subst e1; subst e2
    have hi' : (i : Int) < (n : Int) := by omega
    have hst : ∀ (h : rowAt xs i = rowAt ys i), ∀ q, q < i + 1 → rowAt xs q = rowAt ys q := fun h q hq => by
     by_cases e : q = i
     ·subst e; exact h
     ·exact hall.out q (by omega)
    have hcall := sameI_any a1 a2 _ _ c1 c2 (rowAt xs i) (rowAt ys i) rfl rfl wr.drew r1 r2
    have hf := HNO.out i hi
    have HST := Lib.hid hst; have HF := Lib.hid hf; have HC := Lib.hid hcall
    change wr.cell? _ = some (.slice a1 (rowAt xs i).length c1) at p1
    change wr.cell? _ = some (.slice a2 (rowAt ys i).length c2) at p2
    clear hst hf hcall r1 r2
    go_wp2_with fail
    refine region_tail (fun w2 => w2 = wr.drew) 8 (by kernel_rfl) (by kernel_rfl) rfl ?_
    intro w2 hS
    subst hS
    simp only [List.take_succ_cons, List.take_zero, List.drop_succ_cons, List.drop_zero]
    repeat still_step
    refine wpStill_nil ?_
    go_wp2_with fail
    refine HC.out.mono ?_
    rintro e w3 ⟨rfl, k, hw⟩
    have HW3 := Lib.hid (show Below w.heap.size w w3 by rw [hw]; exact below_drewN hW.out.drew k)
    clear hw
    clear HC p1 p2
    cases hd : decide (rowAt xs i = rowAt ys i) with
    | true =>
     have H2 := Lib.hid (HST.out (of_decide_eq_true hd))
     clear HST HF hd
     go_wp2_with fail
     go_roundw
     case rel => exact ⟨i + 1, by go_num, by omega, HW3, H2⟩
     case measure => simp [intOf]; omega
    | false =>
     have H2 := Lib.hid (HF.out hd)
     clear HST HF hd
     go_wp2_with fail
     go_ret
     exact ⟨by rw [H2.out]; rfl, HW3.out⟩
   ·obtain rfl : i = n := by omega
    have hi' : ¬ (i : Int) < (i : Int) := by omega
    have H2 := Lib.hid (HYES.out hall.out)
    go_wp2_with fail
    go_ret
    exact ⟨by rw [H2.out]; rfl, hW.out⟩
 ·have hne : ((n : Int) != (n' : Int)) = true := by simp; omega
  have hd : decide (xs = ys) = false := decide_eq_false fun e => hl (by rw [← hnx, ← hny, e])
  have HD := Lib.hid hd
  clear hd hx hy
  go_enter Tryz.func18, Tryz.ntmps18
  go_wp2_with fail
  go_ret
  exact ⟨by rw [HD.out]; rfl, Below.refl _ _⟩
set_option maxRecDepth 100000 in
set_option maxHeartbeats 8000000 in
theorem few47_any (ao : Option Addr) (n c : Nat) (xs : List (List Int)) (hnx : xs.length = n) (w : World) (hx : IsMat w (.slice ao n c) xs) :
  Calls Tryz.prog 19 #[.slice ao n c] w fun e w' => e = .returned (.bool (few20 xs)) ∧ w' = w := by
 have hmx : n ≤ maxLen := by have := hx.len; omega
 simp only [maxLen] at hmx
 by_cases hl : 20 < n
 ·have hl' : (20 : Int) < (n : Int) := by omega
  have hd : few20 xs = false := by unfold few20; rw [decide_eq_false (by omega)]; rfl
  have HD := Lib.hid hd
  clear hd hx
  go_enter Tryz.func19, Tryz.ntmps19
  go_wp2_with fail
  go_ret
  exact ⟨by rw [HD.out]; rfl, rfl⟩
 ·have hl' : ¬ (20 : Int) < (n : Int) := by omega
  have hno : ∀ i, i < n → 20 < (rowAt xs i).length → few20 xs = false := fun i hi h => by
   unfold few20
   rw [Bool.and_eq_false_iff]
   right
   rw [List.all_eq_false]
   exact ⟨rowAt xs i, row_mem (by omega), by simp; omega⟩
  have hyes : (∀ i, i < n → (rowAt xs i).length ≤ 20) → few20 xs = true := fun h => by
   unfold few20
   rw [decide_eq_true (by omega), Bool.true_and, List.all_eq_true]
   intro r hr
   obtain ⟨i, hi⟩ := List.getElem?_of_mem hr
   have hil := (List.getElem?_eq_some_iff.1 hi).1
   rw [row_some hil] at hi
   have := h i (by omega)
   rw [Option.some.inj hi] at this
   exact decide_eq_true this
  have HNO := Lib.hid hno; have HYES := Lib.hid hyes; have HX := Lib.hid hx; have HNX := Lib.hid hnx
  clear hno hyes hx hnx
  go_enter Tryz.func19, Tryz.ntmps19
  go_wp2_with fail
  go_loop [3] (fun iv => ∃ i : Nat, iv = .int .i64 i ∧ i ≤ n ∧ Hid (∀ q, q < i → (rowAt xs q).length ≤ 20)) (fun iv => n - (intOf iv).toNat)
  case atStart => exact ⟨0, rfl, Nat.zero_le _, Lib.hid fun q hq => by omega⟩
  case round =>
   obtain ⟨i, rfl, hin, hall⟩ := hrel
   by_cases hi : i < n
   ·obtain ⟨b1, o1, e1, a1, c1, p1, _, _⟩ := HX.out.at_ (i := i) (by rw [HNX.out]; exact hi)
    subst e1
    have hi' : (i : Int) < (n : Int) := by omega
    have hf := HNO.out i hi
    have HF := Lib.hid hf
    change w.cell? _ = some (.slice a1 (rowAt xs i).length c1) at p1
    have hlen : (rowAt xs i).length = (rowAt xs i).length := rfl
    have hst : (rowAt xs i).length ≤ 20 → ∀ q, q < i + 1 → (rowAt xs q).length ≤ 20 := fun h q hq => by
     by_cases e : q = i
     ·subst e; exact h
     ·exact hall.out q (by omega)
    have HST := Lib.hid hst
    clear hf hst hlen
    generalize (rowAt xs i).length = m at *
    by_cases hm : 20 < m
    ·have hm' : (20 : Int) < (m : Int) := by omega
     have H2 := Lib.hid (HF.out hm)
     go_wp2_with fail
     go_ret
     exact ⟨by rw [H2.out]; rfl, rfl⟩
    ·have hm' : ¬ (20 : Int) < (m : Int) := by omega
     have H2 := Lib.hid (HST.out (by omega))
     go_wp2_with fail
     go_round
     case rel => exact ⟨i + 1, by go_num, by omega, H2⟩
     case measure => simp [intOf]; omega
   ·obtain rfl : i = n := by omega
    have hi' : ¬ (i : Int) < (i : Int) := by omega
    have H2 := Lib.hid (HYES.out hall.out)
    go_wp2_with fail
    go_ret
    exact ⟨by rw [H2.out]; rfl, rfl⟩
set_option maxRecDepth 100000 in
set_option maxHeartbeats 8000000 in
theorem check47_any (ao : Option Addr) (n c : Nat) (xs : List (List Int)) (hnx : xs.length = n) (w : World) (hx : IsMat w (.slice ao n c) xs) :
  Calls Tryz.prog 23 #[.slice ao n c] w fun e w' => e = .returned (.int .i64 (castE xs)) ∧ ∃ k, w' = w.drewN k := by
 have hmx : n ≤ maxLen := by have := hx.len; omega
 simp only [maxLen] at hmx
 by_cases hl : 16 < n
 ·have hl' : (16 : Int) < (n : Int) := by omega
  have hd : castE xs = 2 := by unfold castE; rw [if_pos (Or.inl (by omega))]
  have HD := Lib.hid hd
  clear hd hx
  go_enter Tryz.func23, Tryz.ntmps23
  go_wp2_with fail
  go_ret
  exact ⟨by rw [HD.out]; rfl, 0, (w.drewN_zero).symm⟩
 ·have hl' : ¬ (16 : Int) < (n : Int) := by omega
  have hlong : ∀ i, i < n → 16 < (rowAt xs i).length → castE xs = 2 := fun i hi h => by
   unfold castE
   rw [if_pos]
   right
   exact List.any_eq_true.2 ⟨rowAt xs i, row_mem (by omega), by simp; omega⟩
  have hshort : (∀ i, i < n → (rowAt xs i).length ≤ 16) → castE xs = if xs.any (badB (widN xs)) = true then 470 else 0 := fun h => by
   unfold castE
   rw [if_neg]
   rintro (h1 | h1)
   ·omega
   ·obtain ⟨r, hr, h2⟩ := List.any_eq_true.1 h1
    obtain ⟨i, hi⟩ := List.getElem?_of_mem hr
    have hil := (List.getElem?_eq_some_iff.1 hi).1
    rw [row_some hil] at hi
    have := h i (by omega)
    rw [Option.some.inj hi] at this
    simp at h2; omega
  have hbad : ∀ i, i < n → badB (widN xs) (rowAt xs i) = true → xs.any (badB (widN xs)) = true := fun i hi h => List.any_eq_true.2 ⟨_, row_mem (by omega), h⟩
  have hgood : (∀ i, i < n → badB (widN xs) (rowAt xs i) = false) → xs.any (badB (widN xs)) = false := fun h => by
   rw [List.any_eq_false]
   intro r hr
   obtain ⟨i, hi⟩ := List.getElem?_of_mem hr
   have hil := (List.getElem?_eq_some_iff.1 hi).1
   rw [row_some hil] at hi
   have := h i (by omega)
   rw [Option.some.inj hi] at this
   rw [this]; decide
  have HLO := Lib.hid hlong; have HSH := Lib.hid hshort; have HBD := Lib.hid hbad; have HGD := Lib.hid hgood; have HX := Lib.hid hx; have HNX := Lib.hid hnx
  clear hlong hshort hbad hgood hx hnx
  go_enter Tryz.func23, Tryz.ntmps23
  go_wp2_with fail
  go_loop [3] (fun iv => ∃ i : Nat, iv = .int .i64 i ∧ i ≤ n ∧ Hid (∀ q, q < i → (rowAt xs q).length ≤ 16)) (fun iv => n - (intOf iv).toNat)
  case atStart => exact ⟨0, rfl, Nat.zero_le _, Lib.hid fun q hq => by omega⟩
  case round =>
   obtain ⟨i, rfl, hin, hall⟩ := hrel
   by_cases hi : i < n
   ·obtain ⟨b1, o1, e1, a1, c1, p1, _, _⟩ := HX.out.at_ (i := i) (by rw [HNX.out]; exact hi)
    subst e1
    have hi' : (i : Int) < (n : Int) := by omega
    have HF := Lib.hid (HLO.out i hi)
    change w.cell? _ = some (.slice a1 (rowAt xs i).length c1) at p1
    have HST := Lib.hid (show (rowAt xs i).length ≤ 16 → ∀ q, q < i + 1 → (rowAt xs q).length ≤ 16 from fun h q hq => by
     by_cases e : q = i
     ·subst e; exact h
     ·exact hall.out q (by omega))
    generalize (rowAt xs i).length = m at *
    by_cases hm : 16 < m
    ·have hm' : (16 : Int) < (m : Int) := by omega
     have H2 := Lib.hid (HF.out hm)
     go_wp2_with fail
     go_ret
     exact ⟨by rw [H2.out]; rfl, 0, (w.drewN_zero).symm⟩
    ·have hm' : ¬ (16 : Int) < (m : Int) := by omega
     have H2 := Lib.hid (HST.out (by omega))
     go_wp2_with fail
     go_round
     case rel => exact ⟨i + 1, by go_num, by omega, H2⟩
     case measure => simp [intOf]; omega
   ·obtain rfl : i = n := by omega
    have hi' : ¬ (i : Int) < (i : Int) := by omega
    have H2 := Lib.hid (HSH.out hall.out)
    have HALL := Lib.hid hall.out
    clear HSH HLO hall hi'
    go_wp2_with fail
    go_loopw [4] (fun qv wr => ∃ (q k : Nat), qv = .int .i64 q ∧ q ≤ i ∧ wr = w.drewN k ∧ Hid (∀ p, p < q → badB (widN xs) (rowAt xs p) = false)) (fun qv _ => i - (intOf qv).toNat)
    case atStart => exact ⟨0, 0, rfl, Nat.zero_le _, (w.drewN_zero).symm, Lib.hid fun q hq => by omega⟩
    case round =>
     obtain ⟨q, k, rfl, hqn, rfl, hok⟩ := hrel
     by_cases hq : q < i
     ·have hq' : (q : Int) < (i : Int) := by omega
      obtain ⟨b0, o0, e0, a0, c0, p0, _, _⟩ := HX.out.at_ (i := 0) (by rw [HNX.out]; omega)
      subst e0
      obtain ⟨b1, o1, e1, a1, c1, p1, r1, _⟩ := HX.out.at_ (i := q) (by rw [HNX.out]; exact hq)
      have e2 := Option.some.inj e1
      injection e2 with e3 e4
      subst e3 e4
      change w.cell? _ = some (.slice a1 (rowAt xs q).length c1) at p1
      change IsRow encI 1 w (.slice a1 (rowAt xs q).length c1) (rowAt xs q) at r1
      have hw0 : (xs[0]?.getD []).length = widN xs := rfl
      rw [hw0, Nat.add_zero] at p0
      have hbd := HBD.out q hq
      have hm16 := HALL.out q hq
      have HST := Lib.hid (show badB (widN xs) (rowAt xs q) = false → ∀ p, p < q + 1 → badB (widN xs) (rowAt xs p) = false from fun h p hp => by
       by_cases e : p = q
       ·subst e; exact h
       ·exact hok.out p (by omega))
      have HBQ := Lib.hid hbd; have HR1 := Lib.hid r1
      generalize hrw : rowAt xs q = row at *
      clear hbd r1 hrw hok
      generalize hmm : row.length = m at *
      generalize widN xs = mw at *
      by_cases hlen : m = mw
      ·subst hlen
       have hne : ((m : Int) != (m : Int)) = false := by simp
       have hbq : badB m row = row.any oddB := by unfold badB; rw [hmm]; simp
       rw [hbq] at HBQ HST
       have HM := Lib.hid hmm
       clear hbq hmm
       go_wp2_with fail
       go_quiet (fail)
       go_wp2_with fail
       go_loopw [5] (fun jv wr2 => ∃ j : Nat, jv = .int .i64 j ∧ j ≤ m ∧ wr2 = w.drewN (k + nq) ∧ Hid ((row.take j).any oddB = false)) (fun jv _ => m - (intOf jv).toNat)
       case atStart => exact ⟨0, rfl, Nat.zero_le _, by simp [World.drewN, Nat.add_assoc], Lib.hid rfl⟩
       case round =>
        obtain ⟨j, rfl, hjm, rfl, hodd⟩ := hrel
        by_cases hj : j < m
        ·have hj' : (j : Int) < (m : Int) := by omega
         obtain ⟨b2, o2, e5, p2, _⟩ := HR1.out.int (j := j) (by rw [HM.out]; exact hj)
         subst e5
         have hjl : j < row.length := by rw [HM.out]; exact hj
         have ht := any_take oddB row hjl
         have hg : row[j] = gi row j := by unfold gi; rw [List.getElem?_eq_getElem hjl]; rfl
         rw [hodd.out, Bool.false_or, hg] at ht
         have hmem : oddB (gi row j) = true → row.any oddB = true := fun h => List.any_eq_true.2 ⟨gi row j, List.mem_of_getElem? (gi_some hjl), h⟩
         have HT := Lib.hid ht; have HMEM := Lib.hid hmem
         clear ht hmem hg hjl
         generalize gi row j = x at *
         by_cases h1 : x < -1
         ·have hx1 : oddB x = true := by unfold oddB; simp [h1]
          have H3 := Lib.hid (H2.out.trans (if_pos (HBQ.out (HMEM.out hx1))))
          clear hx1
          go_wp2_with fail
          go_ret
          exact ⟨by rw [H3.out]; rfl, _, rfl⟩
         ·by_cases h2 : 1048576 < x
          ·have hx1 : oddB x = true := by unfold oddB; simp [h2]
           have H3 := Lib.hid (H2.out.trans (if_pos (HBQ.out (HMEM.out hx1))))
           clear hx1
           go_wp2_with fail
           go_ret
           exact ⟨by rw [H3.out]; rfl, _, rfl⟩
          ·have hx1 : oddB x = false := by unfold oddB; simp [h1, h2]
           have H3 := Lib.hid (HT.out.trans hx1)
           clear hx1
           go_wp2_with fail
           go_roundw
           case rel => exact ⟨j + 1, by go_num, by omega, by simp, H3⟩
           case measure => simp [intOf]; omega
        ·obtain rfl : j = m := by omega
         have hj' : ¬ (j : Int) < (j : Int) := by omega
         have hfull : row.any oddB = false := by
          have := hodd.out
          rwa [List.take_of_length_le (by rw [HM.out]; exact Nat.le_refl _)] at this
         have H3 := Lib.hid (HST.out hfull)
         clear hfull
         go_wp2_with fail
         go_roundw
         case rel => exact ⟨q + 1, k + nq, by go_num, by omega, rfl, H3⟩
         case measure => simp [intOf]; omega
      ·have hne : ((m : Int) != (mw : Int)) = true := by simp; omega
       have hbq : badB mw row = true := by unfold badB; rw [hmm]; simp [hlen]
       have H3 := Lib.hid (H2.out.trans (if_pos (HBQ.out hbq)))
       clear hbq hmm
       go_wp2_with fail
       go_quiet (fail)
       go_wp2_with fail
       go_ret
       exact ⟨by rw [H3.out]; rfl, k + nq, by simp [World.drewN, Nat.add_assoc]⟩
     ·obtain rfl : q = i := by omega
      have hq' : ¬ (q : Int) < (q : Int) := by omega
      have hg := HGD.out hok.out
      have H3 := Lib.hid (H2.out.trans (if_neg (by rw [hg]; decide)))
      clear hg
      go_wp2_with fail
      go_ret
      exact ⟨by rw [H3.out]; rfl, k, rfl⟩
end Go.Proofs.YtggcbblikgankaaGreatDoor
end
