/- Contracts and plain laws on the way to the statement: part 14. -/
import Derived.Test.YtpnbpepkoekkoaaZ13
import Derived.Maps.AppendAt
set_option linter.unusedVariables false
set_option linter.unusedSimpArgs false
section
namespace Go.Proofs.Ytpnbpepkoekkoaa
open Go Go.RowKit Go.Deep
set_option maxRecDepth 100000 in
theorem run_append_none {w : World} (base : Nat) (t ty e : TypeId) (i : TypeInfo) (size c : Nat) (ht : Try.prog.underlying t = some (.slice e)) (hi : Try.prog.info? e = some i)
  (v : Value) (n : Nat) (xs : List Value) (hown : w.ownsRow base e size v n xs) :
  (Builtin.append_ #[t, t] ty #[v, .slice none 0 c]).run Try.prog w = .ok v w := by
 rcases hown.2 with ⟨rfl, rfl⟩ | ⟨g, cap, cur, rfl, _, _, hnc, _⟩
 ·simp [Builtin.append_, run_underlying ht, sizeOf, typeInfo, hi, Builtin.lenOf, Builtin.firstCells]
 ·simp [Builtin.append_, run_underlying ht, sizeOf, typeInfo, hi, Builtin.lenOf, Builtin.firstCells, hnc, storeCells]
set_option maxRecDepth 100000 in
theorem wpList_append_row {ops : Array Oper} {rest : List Oper} {o : Oper} {a : Act} {Q : Exit → Act → World → Prop} {w : World} (hgd : o.guard = none) (s x : Operand) (t : TypeId)
  (ho : o.op = .call { callee := .builtin .append, args := #[s, x], argTypes := #[t, t] })
  (base : Nat) (e : TypeId) (i : TypeInfo) (z : Value) (size bytes : Nat) (ht : Try.prog.underlying t = some (.slice e)) (hi : Try.prog.info? e = some i) (hz : i.zero = some z)
  (hsize : i.size = size) (hby : i.bytes = bytes) (hzs : z.cells.size = size) (hsz : 0 < size)
  (v : Value) (n : Nat) (xs : List Value) (hs : a.eval s = v) (hown : w.ownsRow base e size v n xs)
  (ao : Option Addr) (m c : Nat) (news : List Value) (hx : a.eval x = .slice ao m c) (hl : news.length = m * size) (hnone : ao = none → m = 0)
  (hnews : ∀ ad, ao = some ad → ∀ j u, news[j]? = some u → w.cell? (ad.add j) = some u) (h1 : ∀ u ∈ news, u.oneCell' = true)
  (h63 : n + m ≤ maxLen) (hbytes : (n + m) * bytes ≤ 140737488355328) (hbase : base ≤ w.heap.size)
  (h : ∀ v' w', w'.ownsRow base e size v' (n + m) (xs ++ news) → w.grownBy w' v.ownBlock → (v'.ownBlock = v.ownBlock ∨ v'.ownBlock = some w.heap.size) → wpList Try.prog ops Q rest (a.put o.dst v') w') : wpList Try.prog ops Q (o :: rest) a w := by
 cases ao with
 | some ad => exact wpList_append_own_at _ hgd s x t ho base e i z size bytes ht hi hz hsize hby hzs hsz v n xs hs hown ad m c news hx hl (hnews ad rfl) h1 h63 hbytes hbase fun v' w' h1 h2 _ h4 => h v' w' h1 h2 h4
 | none =>
  obtain rfl := hnone rfl
  obtain rfl : news = [] := List.length_eq_zero_iff.1 (by omega)
  refine wpList_plain hgd fun K hK => ?_
  have hrun := run_append_none (w := w) base t o.type e i size c ht hi v n xs hown
  unfold Oper.wp
  simp [execOp, ho, resolve, invoke, builtin, hs, hx, hrun, Result.andThen]
  exact hK _ _ (h v w (by simpa using hown) ⟨rfl, rfl, rfl, Nat.le_refl _, fun _ _ _ => rfl⟩ (Or.inl rfl))
theorem own_empty (w : World) (B : Nat) (e : TypeId) (size : Nat) (hB : B ≤ w.heap.size) : (w.alloc (.cells #[] e)).ownsRow B e size (.slice (some ⟨w.heap.size, 0, none⟩) 0 0) 0 [] :=
 ⟨by simp, Or.inr ⟨w.heap.size, 0, #[], rfl, hB, heap_alloc_new w _, Nat.le_refl _, Nat.zero_le _, by simp, by simp⟩⟩
theorem own_new {w' : World} {B e k n : Nat} {v : Value} {news : List Value} (_ : 0 < k) (h : w'.ownsRow B e k v n news) :
  ∃ ao c, v = .slice ao n c ∧ (n = 0 ∨ (ao = some ⟨blk ao, 0, none⟩ ∧ B ≤ blk ao ∧ FreeB w' (blk ao))) ∧ (ao = none → n = 0) ∧ (ao = none ∨ ao = some ⟨blk ao, 0, none⟩) ∧ v.ownBlock = ao.map (·.block) ∧ ∀ j u, news[j]? = some u → w'.cell? ⟨blk ao, 0 + j, none⟩ = some u := by
 rcases h.2 with ⟨rfl, rfl⟩ | ⟨g, cap, cur, rfl, hg, hh, hn, _, hsz, ht⟩
 ·refine ⟨none, 0, rfl, Or.inl rfl, fun _ => rfl, Or.inl rfl, rfl, fun j u hj => ?_⟩
  have h1 := h.1
  rw [Nat.zero_mul] at h1
  obtain rfl := List.length_eq_zero_iff.1 h1
  cases hj
 ·refine ⟨_, cap, rfl, Or.inr ⟨rfl, hg, cur, e, hh⟩, by simp, Or.inr rfl, rfl, fun j u hj => ?_⟩
  rw [← ht, List.getElem?_take] at hj
  split at hj
  ·rw [Nat.zero_add]; exact cell_at hh j (by rw [← Array.getElem?_toList]; exact hj)
  ·cases hj
def Lt.Inn (W : World) : Lt → List Int → List Value → Prop
 | .nil, ns, xs => ns = [] ∧ xs = []
 | .cons k n un ia ic its ma mc ms r, ns, xs => ∃ (u : Int) (n1 n2 n3 : List Int) (ys : List Value), ns = u :: (n1 ++ (n2 ++ n3)) ∧
   xs = .int .i64 k :: .int .i64 n :: sv un :: .int .i64 u :: .slice ia its.len ic :: .slice ma ms.length mc :: ys ∧
   ((ms = [] ∨ ma = some ⟨blk ma, off ma, none⟩) ∧ ms.length ≤ maxLen ∧ movAt W (blk ma) (off ma) ms ∧ NsAt W (movRefs (blk ma) (off ma) ms) n1) ∧
   ((its.len = 0 ∨ ia = some ⟨blk ia, off ia, none⟩) ∧ its.len ≤ maxLen ∧ its.At W (blk ia) (off ia) ∧ NsAt W (its.refsL (blk ia) (off ia)) n2) ∧ r.Inn W n3 ys
theorem Lt.Inn.len {W : World} : ∀ {A : Lt} {ns : List Int} {xs : List Value}, A.Inn W ns xs → xs.length = A.len * 6
 | .nil, _, _, ⟨_, h⟩ => by rw [h]; rfl
 | .cons _ _ _ _ _ _ _ _ _ r, _, _, ⟨u, n1, n2, n3, ys, _, h2, _, _, h5⟩ => by
  have := h5.len
  rw [h2]; simp only [List.length_cons, Lt.len]; omega
theorem Lt.Inn.one {W : World} : ∀ {A : Lt} {ns : List Int} {xs : List Value}, A.Inn W ns xs → ∀ u ∈ xs, u.oneCell' = true
 | .nil, _, _, ⟨_, h⟩, u, hu => by rw [h] at hu; cases hu
 | .cons _ _ _ _ _ _ _ _ _ r, _, _, ⟨u', n1, n2, n3, ys, _, h2, _, _, h5⟩, u, hu => by
  rw [h2] at hu
  simp only [List.mem_cons] at hu
  rcases hu with rfl | rfl | rfl | rfl | rfl | rfl | hu
  ·rfl
  ·rfl
  ·rfl
  ·rfl
  ·rfl
  ·rfl
  ·exact h5.one u hu
theorem Lt.Inn.app {W : World} : ∀ {A B : Lt} {ns ks : List Int} {xs ys : List Value}, A.Inn W ns xs → B.Inn W ks ys → (A.app B).Inn W (ns ++ ks) (xs ++ ys)
 | .nil, B, _, _, _, _, ⟨h1, h2⟩, hB => by rw [h1, h2]; exact hB
 | .cons _ _ _ _ _ _ _ _ _ r, B, _, ks, _, ys, ⟨u, n1, n2, n3, zs, h1, h2, h3, h4, h5⟩, hB =>
  ⟨u, n1, n2, n3 ++ ks, zs ++ ys, by rw [h1]; simp, by rw [h2]; simp, h3, h4, h5.app hB⟩
theorem Lt.Inn.row {W : World} {g : Nat} : ∀ {A : Lt} {o : Nat} {ns : List Int} {xs : List Value}, A.Inn W ns xs → (∀ j u, xs[j]? = some u → W.cell? ⟨g, o + j, none⟩ = some u) → A.At W g o ∧ NsAt W (A.refsL g o) ns
 | .nil, _, _, _, ⟨h1, _⟩, _ => by rw [h1]; exact ⟨trivial, trivial⟩
 | .cons k n un ia ic its ma mc ms r, o, _, _, ⟨u, n1, n2, n3, zs, h1, h2, ⟨m1, m2, m3, m4⟩, ⟨i1, i2, i3, i4⟩, h5⟩, hc => by
  rw [h2] at hc
  obtain ⟨r1, r2⟩ := h5.row (o := o + 6) (fun j u hj => by
   have := hc (j + 6) u (by simpa using hj)
   rw [show o + 6 + j = o + (j + 6) by omega]; exact this)
  rw [h1]
  exact ⟨⟨⟨hc 0 _ rfl, hc 1 _ rfl, hc 2 _ rfl, hc 4 _ rfl, hc 5 _ rfl⟩, ⟨m1, m2, m3⟩, ⟨i1, i2, i3⟩, r1⟩, ⟨hc 3 _ rfl, m4.append (i4.append r2)⟩⟩
theorem movRefs_blk {b o : Nat} {ms : List Mov} {x : RefL} (h : x ∈ movRefs b o ms) : x.b = b := (movRefs_mem h).1
theorem Lt.Inn.kept {W W' : World} : ∀ {A : Lt} {ns : List Int} {xs : List Value}, A.Inn W ns xs → (∀ c ∈ A.blocks, ∀ q v, W.cell? ⟨c, q, none⟩ = some v → W'.cell? ⟨c, q, none⟩ = some v) → A.Inn W' ns xs
 | .nil, _, _, h, _ => h
 | .cons k n un ia ic its ma mc ms r, _, _, ⟨u, n1, n2, n3, zs, h1, h2, ⟨m1, m2, m3, m4⟩, ⟨i1, i2, i3, i4⟩, h5⟩, hc => by
  refine ⟨u, n1, n2, n3, zs, h1, h2, ⟨m1, m2, ?_, ?_⟩, ⟨i1, i2, ?_, ?_⟩, h5.kept fun c hcm => hc c (by simp [Lt.blocks, hcm])⟩
  ·by_cases hm : ms = []
   ·subst hm; trivial
   ·exact movAt_kept m3 fun q v _ => hc _ (by simp [Lt.blocks, hm]) q v
  ·exact m4.kept fun x hx v hv => by
    have hm := movRefs_ne hx
    rw [movRefs_blk hx] at hv ⊢
    exact hc _ (by simp [Lt.blocks, hm]) _ _ hv
  ·by_cases hi : its.len = 0
   ·rw [Lt.len_zero hi]; trivial
   ·exact i3.kept (fun q v _ => hc _ (by simp [Lt.blocks, hi]) q v) (fun c hcm => hc c (by simp [Lt.blocks, hcm]))
  ·exact i4.kept fun x hx v hv => by
    have hi : its.len ≠ 0 := fun e => by rw [Lt.len_zero e] at hx; cases hx
    rcases Lt.refsL_mem hx with ⟨e, _⟩ | e
    ·rw [e] at hv ⊢; exact hc _ (by simp [Lt.blocks, hi]) _ _ hv
    ·exact hc _ (by simp [Lt.blocks, e]) _ _ hv
end Go.Proofs.Ytpnbpepkoekkoaa
end
section
namespace Go.Proofs.Ytpnbpepkoekkoaa
open Go Go.RowKit Go.Deep
def MvNew (lo : Nat) (ms : List Mov) (m1 : List Int) (ma5 : Option Addr) (W5 : World) : Prop :=
 (ms = [] ∨ (ma5 = some ⟨blk ma5, 0, none⟩ ∧ lo ≤ blk ma5 ∧ FreeB W5 (blk ma5))) ∧ movAt W5 (blk ma5) 0 ms ∧ NsAt W5 (movRefs (blk ma5) 0 ms) m1
theorem mv_new {W W5 : World} {B : Nat} {ma : Option Addr} {ms : List Mov} {m1 : List Int} {news : List Value} {v5 : Value} (hA : movAt W (blk ma) (off ma) ms) (hN : NsAt W (movRefs (blk ma) (off ma) ms) m1)
  (l1 : news.length = 12 * ms.length) (l2 : ms = [] ∨ ∀ j u, news[j]? = some u → W.cell? ⟨blk ma, off ma + j, none⟩ = some u) (h : W5.ownsRow B 85 12 v5 ms.length news) :
  ∃ ma5 mc5, v5 = .slice ma5 ms.length mc5 ∧ MvNew B ms m1 ma5 W5 ∧ v5.ownBlock = ma5.map (·.block) := by
 obtain ⟨ao, c, rfl, h1, _, _, h4, h5⟩ := own_new (by omega) h
 refine ⟨ao, c, rfl, ⟨?_, ?_⟩, h4⟩
 ·rcases h1 with h1 | h1
  ·exact Or.inl (List.length_eq_zero_iff.1 h1)
  ·exact Or.inr h1
 ·rcases l2 with rfl | l2
  ·cases m1 with
   | nil => exact ⟨trivial, trivial⟩
   | cons => exact hN.elim
  ·have hcp : Cp W (blk ma) (off ma) W5 (blk ao) 0 (12 * ms.length) := fun q v hq hc => by
    obtain ⟨u, hu⟩ : ∃ u, news[q]? = some u := ⟨_, List.getElem?_eq_getElem (by omega)⟩
    have := l2 q u hu
    rw [hc] at this; cases this
    exact h5 q v hu
   exact ⟨movAt_cp hA hcp, movNs_cp hN hcp⟩
structure CpS (T : Lt) (ns : List Int) (w : World) (b o i : Nat) (A R : Lt) (n1 n2 : List Int) (v : Value) (xs : List Value) (W : World) : Prop where
 strip : A.strip.app R.strip = T.strip
 len : A.len = i
 size : R.size ≤ T.size
 nseq : n1 ++ n2 = ns
 own : W.ownsRow w.heap.size 78 6 v i xs
 inn : A.Inn W n1 xs
 atR : R.At w b (o + i * 6)
 nsR : NsAt w (R.refsL b (o + i * 6)) n2
 apart : A.blocks.Nodup
 fresh : ∀ c ∈ A.blocks, w.heap.size ≤ c ∧ FreeB W c
 vown : ∀ k, v.ownBlock = some k → k ∉ A.blocks
 small : R.small
 below : Below w.heap.size w W
theorem cp_step {T : Lt} {ns : List Int} {w : World} {b o i X : Nat} {A : Lt} {n1 n2 m1 m2 m3 : List Int} {k n' u : Int} {un : Nm} {ia : Option Addr} {ic : Nat} {its : Lt} {ma : Option Addr} {mc : Nat} {ms : List Mov} {r : Lt} {v v' : Value} {xs : List Value}
  {W W5 W6 W7 W9 W10 : World} {ma5 ao : Option Addr} {mc5 co : Nat}
  (h : CpS T ns w b o i A (.cons k n' un ia ic its ma mc ms r) n1 n2 v xs W) (hn2 : n2 = u :: (m1 ++ (m2 ++ m3))) (k3 : NsAt w (r.refsL b (o + i * 6 + 6)) m3) (hX : X = W.heap.size)
  (hW5 : Below W.heap.size W W5) (hl5 : X < W5.heap.size) (h5 : MvNew (X + 1) ms m1 ma5 W5) (b56 : ButOne X W5 W6) (h7 : ClP its m2 W6 (.returned (.slice ao its.len co)) W7) (b79 : ButOne X W7 W9)
  (hown : W10.ownsRow w.heap.size 78 6 v' (i + 1) (xs ++ [.int .i64 k, .int .i64 n', sv un, .int .i64 u, .slice ao its.len co, .slice ma5 ms.length mc5])) (hg : W9.grownBy W10 v.ownBlock) (hat : v'.ownBlock = v.ownBlock ∨ v'.ownBlock = some W9.heap.size) :
  ∃ A', CpS T ns w b o (i + 1) A' r (n1 ++ (u :: (m1 ++ m2))) m3 v' (xs ++ [.int .i64 k, .int .i64 n', sv un, .int .i64 u, .slice ao its.len co, .slice ma5 ms.length mc5]) W10 := by
 obtain ⟨p1, p2, p3⟩ := h5
 obtain ⟨ao', c', its', e, q1, q2, q3, q4, q5, q6, q7⟩ := h7
 injection e with e; injection e with e1 e2 e3
 subst e1 e3
 have hli : its'.len = its.len := Lt.same_len q1
 have hlo := h.below.size
 have s56 := b56.size
 have s67 := q7.size
 have s79 := b79.size
 have b06 : Below W.heap.size W W6 := hW5.trans (b56.below (by omega) (by omega))
 have b07 : Below W.heap.size W W7 := b06.trans (q7.mono (by omega))
 have b09 : Below W.heap.size W W9 := b07.trans (b79.below (by omega) (by omega))
 have hvlt : ∀ k, v.ownBlock = some k → w.heap.size ≤ k ∧ k < W.heap.size := h.own.lt
 have b10 : Below w.heap.size w W10 := (h.below.trans (b09.mono hlo)).grown hg (by omega) fun k hk => (hvlt k hk).1
 -- blocks of the copied items stay
 have keepA : ∀ c ∈ A.blocks, W10.heap[c]? = W.heap[c]? := fun c hc => by
  have hlt := (h.fresh c hc).2.lt
  rw [hg.block c (by omega) (fun e => h.vown c e.symm hc)]
  exact b09.block c hlt
 -- new blocks stay
 have keep5 : ∀ c, X < c → c < W5.heap.size → W10.heap[c]? = W5.heap[c]? := fun c h1 h2 => by
  rw [hg.block c (by omega) (fun e => by have := hvlt c e.symm; omega), b79.block c (by omega) (by omega), q7.block c (by omega), b56.block c h2 (by omega)]
 have keep7 : ∀ c, W6.heap.size ≤ c → c < W7.heap.size → W10.heap[c]? = W7.heap[c]? := fun c h1 h2 => by
  rw [hg.block c (by omega) (fun e => by have := hvlt c e.symm; omega), b79.block c h2 (by omega)]
 have cellOf : ∀ {W W' : World} {c : Nat}, W'.heap[c]? = W.heap[c]? → ∀ q v, W.cell? ⟨c, q, none⟩ = some v → W'.cell? ⟨c, q, none⟩ = some v := fun hb q v hc => (World.cell?_of_block hb).trans hc
 have freeOf : ∀ {W W' : World} {c : Nat}, W'.heap[c]? = W.heap[c]? → FreeB W c → FreeB W' c := fun hb hf => by
  obtain ⟨cur, t, hf⟩ := hf
  exact ⟨cur, t, hb.trans hf⟩
 have hm5 : ms ≠ [] → X < blk ma5 ∧ blk ma5 < W5.heap.size ∧ FreeB W5 (blk ma5) ∧ ma5 = some ⟨blk ma5, 0, none⟩ ∧ off ma5 = 0 := fun hm => by
  obtain ⟨a1, a2, a3⟩ := p1.resolve_left hm
  have e0 : off ma5 = 0 := by rw [a1]; rfl
  exact ⟨by omega, a3.lt, a3, a1, e0⟩
 have hi7 : ∀ c ∈ its'.own ao, W6.heap.size ≤ c ∧ c < W7.heap.size ∧ FreeB W7 c := fun c hc => ⟨(q5 c hc).1, (q5 c hc).2.lt, (q5 c hc).2⟩
 refine ⟨A.app (.cons k n' un ao co its' ma5 mc5 ms .nil), ?_, ?_, ?_, ?_, hown, ?_, ?_, ?_, ?_, ?_, ?_, ?_, b10⟩
 ·rw [Lt.app_strip, Its.app_assoc, ← h.strip]
  simp [Lt.strip, Its.app, q1]
 ·rw [Lt.app_len, h.len]; rfl
 ·have := h.size
  simp only [Lt.size] at this; omega
 ·rw [← h.nseq, hn2]; simp
 ·refine (h.inn.kept fun c hc q v hv => cellOf (keepA c hc) q v hv).app ⟨u, m1, m2, [], [], by simp, by rw [hli], ⟨?_, ?_, ?_, ?_⟩, ⟨?_, ?_, ?_, ?_⟩, rfl, rfl⟩
  ·by_cases hm : ms = []
   ·exact Or.inl hm
   ·obtain ⟨_, _, _, a4, a5⟩ := hm5 hm
    right; rw [a5]; exact a4
  ·exact h.atR.2.1.2.1
  ·by_cases hm : ms = []
   ·subst hm; trivial
   ·obtain ⟨a1, a2, _, _, a5⟩ := hm5 hm
    rw [a5]
    exact movAt_kept p2 fun q v _ => cellOf (keep5 _ a1 a2) q v
  ·by_cases hm : ms = []
   ·subst hm
    cases m1 with
    | nil => trivial
    | cons => exact p3.elim
   ·obtain ⟨a1, a2, _, _, a5⟩ := hm5 hm
    rw [a5]
    exact p3.kept fun x hx v hv => by
     rw [movRefs_blk hx] at hv ⊢
     exact cellOf (keep5 _ a1 a2) _ _ hv
  ·rcases q2 with q2 | q2
   ·exact Or.inl (by omega)
   ·right
    have e0 : off ao = 0 := by rw [q2]; rfl
    rw [e0]; exact q2
  ·rw [hli]; exact h.atR.2.2.1.2.1
  ·by_cases hz : its'.len = 0
   ·rw [Lt.len_zero hz]; trivial
   ·have e0 : off ao = 0 := by rw [q2.resolve_left (by omega)]; rfl
    have hbm : blk ao ∈ its'.own ao := by unfold Lt.own; simp [hz]
    rw [e0]
    exact q3.kept (fun q v _ => cellOf (keep7 _ (hi7 _ hbm).1 (hi7 _ hbm).2.1) q v) (fun c hc q v => by
     have hc' : c ∈ its'.own ao := by unfold Lt.own; simp [hc]
     exact cellOf (keep7 _ (hi7 _ hc').1 (hi7 _ hc').2.1) q v)
  ·by_cases hz : its'.len = 0
   ·have := Lt.len_zero hz
    subst this
    cases m2 with
    | nil => trivial
    | cons => exact q4.elim
   ·have e0 : off ao = 0 := by rw [q2.resolve_left (by omega)]; rfl
    rw [e0]
    exact q4.kept fun x hx v hv => by
     have hc' : x.b ∈ its'.own ao := by
      rcases Lt.refsL_mem hx with ⟨e, _⟩ | e
      ·rw [e]; unfold Lt.own; simp [hz]
      ·unfold Lt.own; simp [e]
     exact cellOf (keep7 _ (hi7 _ hc').1 (hi7 _ hc').2.1) _ _ hv
 ·rw [show o + (i + 1) * 6 = o + i * 6 + 6 by omega]; exact h.atR.2.2.2
 ·rw [show o + (i + 1) * 6 = o + i * 6 + 6 by omega]; exact k3
 ·rw [Lt.app_blocks]
  simp only [Lt.blocks, List.append_nil]
  refine List.nodup_append.2 ⟨h.apart, List.nodup_append.2 ⟨?_, q6, ?_⟩, ?_⟩
  ·split <;> simp
  ·intro x hx y hy e
   subst e
   split at hx
   ·cases hx
   ·rename_i hm
    rw [List.mem_singleton.1 hx] at hy
    have := hm5 hm
    have := hi7 _ hy
    omega
  ·intro x hx y hy e
   subst e
   have hxl := (h.fresh x hx).2.lt
   rcases List.mem_append.1 hy with hy | hy
   ·split at hy
    ·cases hy
    ·rename_i hm
     rw [List.mem_singleton.1 hy] at hxl
     have := hm5 hm
     omega
   ·have := hi7 _ hy
    omega
 ·intro c hc
  rw [Lt.app_blocks] at hc
  simp only [Lt.blocks, List.append_nil] at hc
  rcases List.mem_append.1 hc with hc | hc
  ·exact ⟨(h.fresh c hc).1, freeOf (keepA c hc) (h.fresh c hc).2⟩
  ·rcases List.mem_append.1 hc with hc | hc
   ·split at hc
    ·cases hc
    ·rename_i hm
     rw [List.mem_singleton.1 hc]
     obtain ⟨a1, a2, a3, _⟩ := hm5 hm
     exact ⟨by omega, freeOf (keep5 _ a1 a2) a3⟩
   ·obtain ⟨a1, a2, a3⟩ := hi7 _ hc
    exact ⟨by omega, freeOf (keep7 _ a1 a2) a3⟩
 ·intro c hc hm
  rw [Lt.app_blocks] at hm
  simp only [Lt.blocks, List.append_nil] at hm
  have hall : c ∈ A.blocks ∨ (X < c ∧ c < W7.heap.size) := by
   rcases List.mem_append.1 hm with hm | hm
   ·exact Or.inl hm
   ·right
    rcases List.mem_append.1 hm with hm | hm
    ·split at hm
     ·cases hm
     ·rename_i hz
      rw [List.mem_singleton.1 hm]
      have := hm5 hz
      omega
    ·have := hi7 _ hm
     omega
  rcases hat with hat | hat
  ·rw [hat] at hc
   rcases hall with hA | hA
   ·exact h.vown c hc hA
   ·have := hvlt c hc; omega
  ·rw [hat] at hc
   cases hc
   rcases hall with hA | hA
   ·have := (h.fresh _ hA).2.lt; omega
   ·omega
 ·exact h.small.2.2.2
theorem cp_end {T : Lt} {ns : List Int} {w : World} {b o i : Nat} {A : Lt} {n1 n2 : List Int} {v : Value} {xs : List Value} {W : World} (h : CpS T ns w b o i A .nil n1 n2 v xs W) : ClP T ns w (.returned v) W := by
 obtain ⟨ao, c, rfl, h1, h2, h3, h4, h5⟩ := own_new (by omega) h.own
 have hn2 : n2 = [] := by
  have := h.nsR
  cases n2 with
  | nil => rfl
  | cons => exact this.elim
 have hns := h.nseq
 rw [hn2, List.append_nil] at hns
 have hst := h.strip
 simp only [Lt.strip] at hst
 rw [Its.app_nil] at hst
 have hlen : i = T.len := by rw [← h.len]; exact Lt.same_len hst
 obtain ⟨r1, r2⟩ := h.inn.row (g := blk ao) (o := 0) h5
 have hz : A.len = 0 → A.blocks = [] := fun e => by rw [Lt.len_zero e]; rfl
 refine ⟨ao, c, A, by rw [hlen], hst, ?_, r1, by rw [← hns]; exact r2, ?_, ?_, h.below⟩
 ·rcases h1 with h1 | h1
  ·exact Or.inl (by omega)
  ·exact Or.inr h1.1
 ·intro c hc
  unfold Lt.own at hc
  rcases List.mem_append.1 hc with hc | hc
  ·split at hc
   ·cases hc
   ·rename_i h0
    rw [List.mem_singleton.1 hc]
    rw [h.len] at h0
    exact ⟨(h1.resolve_left h0).2.1, (h1.resolve_left h0).2.2⟩
  ·exact h.fresh c hc
 ·unfold Lt.own
  split
  ·exact h.apart
  ·rename_i h0
   rw [h.len] at h0
   refine List.nodup_cons.2 ⟨h.vown _ ?_, h.apart⟩
   have e := (h1.resolve_left h0).1
   rw [h4, e]; rfl
end Go.Proofs.Ytpnbpepkoekkoaa
end
section
namespace Go.Proofs.Ytpnbpepkoekkoaa
open Go Go.RowKit Go.Deep
theorem one6 (k n' u : Int) (un : Nm) (x y : Value) (hx : x.oneCell' = true) (hy : y.oneCell' = true) : (#[.int .i64 k, .int .i64 n', sv un, .int .i64 u, x, y] : Array Value).all (·.oneCell') = true := by
 simp only [Array.all_eq_true', Array.mem_def, List.mem_cons, List.mem_nil_iff, or_false]
 rintro z (rfl | rfl | rfl | rfl | rfl | rfl)
 ·rfl
 ·rfl
 ·rfl
 ·rfl
 ·exact hx
 ·exact hy
theorem keepO' {A B : World} {b : Nat} {o : Obj} (h : Below A.heap.size A B) (g : A.heap[b]? = some o) : B.heap[b]? = some o := (h.block b (Array.getElem?_eq_some_iff.1 g).1).trans g
theorem belowSize {A B C : World} {n : Nat} (hb : Below n A B) (h : Below B.heap.size B C) (hn : n ≤ B.heap.size) : Below n A C ∧ n ≤ C.heap.size := ⟨hb.trans (h.mono hn), Nat.le_trans hn h.size⟩
theorem cp_box {wr : World} (w7 : World) (X Y : Nat) (ao : Option Addr) (l co : Nat) (cs : Array Value) (hY : Y = w7.heap.size) (hX : X < w7.heap.size) (hb : Below X wr w7) (h1 : cs.all (·.oneCell') = true) :
  ∃ w9, (w7.setCell ⟨X, 4, none⟩ (.slice ao l co)).alloc (.cells cs 78) = w9 ∧ Below X wr w9 ∧ ((∀ ad, (some ⟨Y, 0, none⟩ : Option Addr) = some ad → ∀ j u, cs.toList[j]? = some u → w9.cell? (ad.add j) = some u) ∧ ∀ u ∈ cs.toList, u.oneCell' = true) ∧ ButOne X w7 w9 ∧ w9.heap.size = Y + 1 := by
 have hs : (w7.setCell ⟨X, 4, none⟩ (.slice ao l co)).heap.size = w7.heap.size := by simp [World.setCell]
 refine ⟨_, rfl, (hb.setCell (p := ⟨X, 4, none⟩) (Nat.le_refl _) _).alloc (by omega) _, ⟨fun ad ha j u hj => ?_, fun u hu => ?_⟩, (ButOne.setCell (p := ⟨X, 4, none⟩) _).trans (ButOne.of_below ((Below.refl _ _).alloc (Nat.le_refl _) _)), by simp [hs]; omega⟩
 ·cases ha
  rw [addr_plain, hY, ← hs]
  exact cell_at (heap_alloc_new _ _) _ (by rw [← Array.getElem?_toList]; simpa using hj)
 ·exact Array.all_eq_true'.1 h1 u (Array.mem_toList_iff.1 hu)
theorem own_below {w w' : World} {B e s n : Nat} {v : Value} {xs : List Value} (h : w.ownsRow B e s v n xs) (hb : Below w.heap.size w w') : w'.ownsRow B e s v n xs :=
 h.kept (row := none) ⟨hb.os, hb.tape, hb.output, hb.size, fun k hk _ => hb.block k hk⟩ (by cases hv : v.ownBlock <;> simp)
set_option maxRecDepth 100000 in
set_option maxHeartbeats 8000000 in
theorem cp_loop (T : Lt) (ns : List Int) (w : World) (b o c n : Nat) (hn : T.len = n) (hmax : n ≤ 100000)
  (hI : ∀ T' : Lt, T'.size < T.size → ∀ (ia : Option Addr) (ic : Nat) (ns : List Int) (W : World), T'.len ≤ 100000 → (T'.len = 0 ∨ ia = some ⟨blk ia, off ia, none⟩) → T'.At W (blk ia) (off ia) → NsAt W (T'.refsL (blk ia) (off ia)) ns → T'.small → Calls Try.prog 51 #[.slice ia T'.len ic] W (ClP T' ns W))
  (hS : CpS T ns w b o 0 .nil T [] ns (.slice none 0 0) [] w) : Calls Try.prog 51 #[.slice (some ⟨b, o, none⟩) n c] w (ClP T ns w) := by
 have HI := Lib.hid hI
 have HS0 := Lib.hid hS
 clear hI hS
 obtain ⟨i0, hi85, hz0, hz1, hz2⟩ := info_parts info85
 obtain ⟨j0, hi78, hy0, hy1, hy2⟩ := info_parts info78
 have I85 := Lib.hid (And.intro hi85 (And.intro hz0 (And.intro hz1 hz2)))
 have I78 := Lib.hid (And.intro hi78 (And.intro hy0 (And.intro hy1 hy2)))
 clear hi85 hz0 hz1 hz2 hi78 hy0 hy1 hy2
 have HN := Lib.hid hn
 clear hn
 go_enter Try.func51, Try.ntmps51
 go_wp2_with fail
 go_loopw [2, 7] (fun ov iv wr => ∃ (i : Nat) (A R : Lt) (n1 n2 : List Int) (xs : List Value), iv = .int .i64 i ∧ i + R.len = n ∧ Hid (CpS T ns w b o i A R n1 n2 ov xs wr)) (fun _ iv _ => n + 1 - (intOf iv).toNat)
 case atStart => exact ⟨0, .nil, T, [], ns, [], rfl, by rw [HN.out]; omega, HS0⟩
 case round =>
  obtain ⟨i, A, R, n1, n2, xs, rfl, hin, hS⟩ := hrel
  cases R with
  | nil =>
   simp only [Lt.len, Nat.add_zero] at hin
   subst hin
   go_wp2_with fail
   go_ret
   exact cp_end hS.out
  | cons k n' un ia ic its ma mc ms r =>
   simp only [Lt.len] at hin
   have hi : (i : Int) < (n : Int) := by omega
   have h := hS.out
   obtain ⟨u, g0, g1, g2, g3, g4, g5, m1, m2, m3, hns2, k1, k2, k3⟩ := Lt.At.cells h.atR h.nsR
   obtain ⟨_, ⟨f1, f2, f3⟩, ⟨i1, i2, i3⟩, hr⟩ := h.atR
   obtain ⟨s1, s2, s3', s4⟩ := h.small
   have hsz : its.size < T.size := by have := h.size; simp only [Lt.size] at this; omega
   have hbw := h.below
   -- the world with the item in a box
   obtain ⟨W2, hW2, gW2, bW2, sW2⟩ : ∃ W2, wr.alloc (.cells #[.int .i64 k, .int .i64 n', sv un, .int .i64 u, .slice ia its.len ic, .slice ma ms.length mc] 78) = W2 ∧ W2.heap[wr.heap.size]? = some (.cells #[.int .i64 k, .int .i64 n', sv un, .int .i64 u, .slice ia its.len ic, .slice ma ms.length mc] 78 (0, 0)) ∧ Below wr.heap.size wr W2 ∧ W2.heap.size = wr.heap.size + 1 := ⟨_, rfl, heap_alloc_new wr _, (Below.refl _ _).alloc (by omega) _, by simp⟩
   have ho2 : (#[.int .i64 k, .int .i64 n', sv un, .int .i64 u, .slice ia its.len ic, .slice ma ms.length mc] : Array Value).all (·.oneCell') = true := one6 _ _ _ _ _ _ rfl rfl
   obtain ⟨news, l1, l2, l3⟩ := read_row (movRow f3 k1)
   have c0 := keep_cell hbw g0; have c1 := keep_cell hbw g1; have c2 := keep_cell hbw g2; have c3 := keep_cell hbw g3; have c4 := keep_cell hbw g4; have c5 := keep_cell hbw g5
   -- the empty row behind the box
   have b3 : Below wr.heap.size wr (W2.alloc (.cells #[] 85)) := bW2.alloc (by omega) _
   have g3X : (W2.alloc (.cells #[] 85)).heap[wr.heap.size]? = some (.cells #[.int .i64 k, .int .i64 n', sv un, .int .i64 u, .slice ia its.len ic, .slice ma ms.length mc] 78 (0, 0)) := by exact (heap_alloc_old W2 _ (by omega)).trans gW2
   have d5 : (W2.alloc (.cells #[] 85)).cell? ⟨wr.heap.size, 5, none⟩ = some (.slice ma ms.length mc) := cell_at g3X 5 rfl
   have s3 : (W2.alloc (.cells #[] 85)).heap.size = wr.heap.size + 2 := by simp; omega
   have hEmp : (W2.alloc (.cells #[] 85)).ownsRow (wr.heap.size + 1) 85 12 (.slice (some ⟨wr.heap.size + 1, 0, none⟩) 0 0) 0 [] := by rw [← sW2]; exact own_empty W2 _ 85 12 (Nat.le_refl _)
   have hsrc : ∀ ad, ma = some ad → ∀ j u, news[j]? = some u → (W2.alloc (.cells #[] 85)).cell? (ad.add j) = some u := fun ad ha j u hj => by
    rcases f1 with rfl | f1
    ·have := (List.getElem?_eq_some_iff.1 hj).1; simp at l1; simp [l1] at this
    ·rw [f1] at ha; cases ha
     rw [addr_plain]
     exact keep_cell (hbw.trans (b3.mono hbw.size)) (l2 j u hj)
   have hno : ma = none → ms.length = 0 := fun e => by
    rcases f1 with rfl | f1
    ·rfl
    ·rw [e] at f1; cases f1
   -- what follows the first append
   have hA5 : ∀ v5 W5, W5.ownsRow (wr.heap.size + 1) 85 12 v5 (0 + ms.length) ([] ++ news) → (W2.alloc (.cells #[] 85)).grownBy W5 (some (wr.heap.size + 1)) → ∃ ma5 mc5, v5 = .slice ma5 ms.length mc5 ∧ MvNew (wr.heap.size + 1) ms m1 ma5 W5 ∧ Below wr.heap.size wr W5 ∧ wr.heap.size < W5.heap.size ∧ W5.heap[wr.heap.size]? = some (.cells #[.int .i64 k, .int .i64 n', sv un, .int .i64 u, .slice ia its.len ic, .slice ma ms.length mc] 78 (0, 0)) := fun v5 W5 ho hg => by
    obtain ⟨ma5, mc5, rfl, hmv, _⟩ := mv_new f3 k1 l1 (Or.inr l2) (by simpa using ho)
    refine ⟨ma5, mc5, rfl, hmv, b3.grown hg (by omega) (fun k hk => by cases hk; omega), by have := hg.size; omega, ?_⟩
    rw [hg.block wr.heap.size (by omega) (by simp)]
    exact g3X
   have CI : ∀ W, Below wr.heap.size wr W → Calls Try.prog 51 #[.slice ia its.len ic] W fun e W' => ∃ ao co, e = .returned (.slice ao its.len co) ∧ Hid (ClP its m2 W e W') ∧ Below W.heap.size W W' := fun W hb =>
    (HI.out its hsz ia ic m2 W s1 i1 (i3.below (hbw.trans (hb.mono hbw.size))) (k2.below (hbw.trans (hb.mono hbw.size))) s3').mono fun e W' hp => by
     obtain ⟨a, co, T', h1, h2⟩ := id hp
     exact ⟨a, co, h1, Lib.hid hp, h2.2.2.2.2.2.2⟩
   have hO9 : ∀ W, Below wr.heap.size wr W → W.ownsRow w.heap.size 78 6 u2 i xs := fun W hb => own_below h.own hb
   have HO2 := Lib.hid ho2; have HW2 := Lib.hid hW2; have HEMP := Lib.hid hEmp; have HSRC := Lib.hid hsrc; have HNO := Lib.hid hno; have HA5 := Lib.hid hA5; have HCI := Lib.hid CI; have HO9 := Lib.hid hO9
   have HL1 : Hid (news.length = ms.length * 12) := Lib.hid (by omega)
   have HL3 := Lib.hid l3; have HS3 := Lib.hid s3; have HSW2 := Lib.hid sW2
   have HK3 := Lib.hid k3; have HNS2 := Lib.hid hns2
   have hlo := hbw.size
   have hlo2 : w.heap.size ≤ wr.heap.size := hlo
   clear hr f3 i3 k1 k2 k3 s1 s3' s4 hsz hbw h hns2 f1 f2 i1 i2 gW2 bW2 ho2 hW2 hEmp hsrc hno hA5 CI hO9 l1 l2 l3 g0 g1 g2 g3 g4 g5 b3 g3X s3 sW2 hlo
   have st0 : True := trivial
   go_wp2_with (first
    | (have q := st0; at_builtin; rw [HW2.out]; refine wpList_append_row rfl _ _ 76 rfl (wr.heap.size + 1) 85 i0 _ 12 104 Try.underlying76 I85.out.1 I85.out.2.1 I85.out.2.2.1 I85.out.2.2.2 rfl (by decide) _ 0 [] rfl HEMP.out ma ms.length mc news rfl HL1.out HNO.out HSRC.out HL3.out (by unfold maxLen; omega) (by omega) (by rw [HS3.out]; omega) ?_; intro v5 W5 ho5 hg5 ha5; clear ha5; obtain ⟨ma5, mc5, rfl, hmv, hb5, hx5, hX5⟩ := HA5.out v5 W5 ho5 hg5; have HMV := Lib.hid hmv; have HB5 := Lib.hid hb5; have hb6 : Below wr.heap.size wr (W5.setCell ⟨wr.heap.size, 5, none⟩ (.slice ma5 ms.length mc5)) := hb5.setCell (p := ⟨wr.heap.size, 5, none⟩) (Nat.le_refl _) _; obtain ⟨w6, hw6⟩ : ∃ w6, W5.setCell ⟨wr.heap.size, 5, none⟩ (.slice ma5 ms.length mc5) = w6 := ⟨_, rfl⟩; have hx6 : w6.heap[wr.heap.size]? = some (.cells #[.int .i64 k, .int .i64 n', sv un, .int .i64 u, .slice ia its.len ic, .slice ma5 ms.length mc5] 78 (0, 0)) := (by rw [← hw6]; simp only [World.setCell, Array.getElem?_modify, hX5, if_true, Option.map_some]; rfl); have h56 : ButOne wr.heap.size W5 w6 := (by rw [← hw6]; exact ButOne.setCell (p := ⟨wr.heap.size, 5, none⟩) _); rw [hw6] at hb6; have HW6 := Lib.hid hw6; have HX6 := Lib.hid hx6; have H56 := Lib.hid h56; have HB6 := Lib.hid hb6; clear hw6 hx6 h56 hb6; clear q st0 ho5 hg5 hmv hb5; have st1 : True := trivial; have e4 := cell_at hX5 4 rfl; have e5 := cell_at hX5 5 rfl; have z5 : W5.frozen? ⟨wr.heap.size, 5, none⟩ = false := (show FreeB W5 wr.heap.size from ⟨_, _, hX5⟩).free 5; clear hX5)
    | (have q := st1; go_at_call 51; rw [HW6.out]; refine (HCI.out _ HB6.out).mono ?_; rintro e w7 ⟨ao, co, rfl, hp7, hb7⟩; have hX7 := keepO' hb7 HX6.out; have hl7 : wr.heap.size < w7.heap.size := (Array.getElem?_eq_some_iff.1 hX7).1; have HB7 := Lib.hid hb7; clear q st1 hb7; have y0 := cell_at hX7 0 rfl; have y1 := cell_at hX7 1 rfl; have y2 := cell_at hX7 2 rfl; have y3 := cell_at hX7 3 rfl; have y4 := cell_at hX7 4 rfl; have y5 := cell_at hX7 5 rfl; have z7 : w7.frozen? ⟨wr.heap.size, 4, none⟩ = false := (show FreeB w7 wr.heap.size from ⟨_, _, hX7⟩).free 4; clear hX7; have st2 : True := trivial; obtain ⟨w9, hw9, hb9, hn9, h79, hs9⟩ := cp_box w7 wr.heap.size w7.heap.size ao its.len co #[.int .i64 k, .int .i64 n', sv un, .int .i64 u, .slice ao its.len co, .slice ma5 ms.length mc5] rfl hl7 (belowSize HB6.out HB7.out (by have := (Array.getElem?_eq_some_iff.1 HX6.out).1; omega)).1 (one6 _ _ _ _ _ _ rfl rfl); have HW9 := Lib.hid hw9; have HB9 := Lib.hid hb9; have HN9 := Lib.hid hn9; have H79 := Lib.hid h79; have HS9 := Lib.hid hs9; clear hw9 hb9 hn9 h79 hs9)
    | (have q := st2; at_builtin; rw [HW9.out]; refine wpList_append_row rfl _ _ 55 rfl w.heap.size 78 j0 _ 6 88 Try.underlying55 I78.out.1 I78.out.2.1 I78.out.2.2.1 I78.out.2.2.2 rfl (by decide) _ i xs rfl (HO9.out _ HB9.out) (some ⟨w7.heap.size, 0, none⟩) 1 1 [.int .i64 k, .int .i64 n', sv un, .int .i64 u, .slice ao its.len co, .slice ma5 ms.length mc5] rfl rfl (fun e => by cases e) HN9.out.1 HN9.out.2 (by unfold maxLen; omega) (by omega) (by have := HS9.out; omega) ?_; intro v9 w10 ho10 hg10 hat; have HO10 := Lib.hid ho10; have HG10 := Lib.hid hg10; have HAT := Lib.hid hat; clear q st2 ho10 hg10 hat)
    )
   go_roundw
   case rel =>
    obtain ⟨A', hA'⟩ := cp_step hS.out HNS2.out HK3.out rfl HB5.out hx5 HMV.out H56.out hp7.out H79.out HO10.out HG10.out HAT.out
    exact ⟨i + 1, A', r, _, _, _, by go_num, by omega, Lib.hid hA'⟩
   case measure => simp [intOf]; omega
end Go.Proofs.Ytpnbpepkoekkoaa
end
