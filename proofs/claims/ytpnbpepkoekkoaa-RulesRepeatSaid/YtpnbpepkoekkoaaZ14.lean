/- Contracts and plain laws on the way to the statement: part 14. -/
import Derived.Test.YtpnbpepkoekkoaaZ13
import Derived.Maps.AppendAt
import Derived.Test.YtpnbpepkoekkoaaZ3
set_option linter.unusedVariables false
set_option linter.unusedSimpArgs false
set_option maxRecDepth 100000
set_option maxHeartbeats 16000000
namespace Go.Proofs.Ytpnbpepkoekkoaa
open Go.Value (int)
open Go.IntKind (i64)
section
open Go Go.RowKit Go.Deep
theorem EY {w : World} (base : Nat) (t ty e : TypeId) (i : TypeInfo) (size c : Nat) (ht : Try.prog.underlying t = some (.slice e)) (hi : Try.prog.info? e = some i)
  (v : Value) (n : Nat) (xs : List Value) (hown : w.ownsRow base e size v n xs) :
  (Builtin.append_ #[t, t] ty #[v, .slice none 0 c]).run Try.prog w = .ok v w := by
 rcases hown.2 with ⟨rfl, rfl⟩ | ⟨g, cap, cur, rfl, _, _, hnc, _⟩
 ·simp [Builtin.append_, run_underlying ht, sizeOf, typeInfo, hi, Builtin.lenOf, Builtin.firstCells]
 ·simp [Builtin.append_, run_underlying ht, sizeOf, typeInfo, hi, Builtin.lenOf, Builtin.firstCells, hnc, storeCells]
theorem Jq {ops : Array Oper} {rest : List Oper} {o : Oper} {a : Act} {Q : Exit → Act → World → Prop} {w : World} (hgd : o.guard = none) (s x : Operand) (t : TypeId)
  (ho : o.op = .call { callee := .builtin .append, args := #[s, x], argTypes := #[t, t] })
  (base : Nat) (e : TypeId) (i : TypeInfo) (z : Value) (size bytes : Nat) (ht : Try.prog.underlying t = some (.slice e)) (hi : Try.prog.info? e = some i) (hz : i.zero = some z)
  (hsize : i.size = size) (hby : i.bytes = bytes) (hzs : z.cells.size = size) (hsz : 0 < size)
  (v : Value) (n : Nat) (xs : List Value) (hs : a.eval s = v) (hown : w.ownsRow base e size v n xs)
  (ao : Option Addr) (m c : Nat) (news : List Value) (hx : a.eval x = .slice ao m c) (hl : news.length = m * size) (hnone : ao = none → m = 0)
  (hnews : ∀ ad, ao = some ad → ∀ j u, news[j]? = some u → w.cell? (ad.add j) = some u) (h1 : ∀ u ∈ news, u.oneCell' = true)
  (h63 : n + m ≤ maxLen) (hbytes : (n + m) * bytes ≤ 140737488355328) (hbase : base ≤ w.heap.size)
  (h : ∀ v' w', w'.ownsRow base e size v' (n + m) (xs ++ news) → w.grownBy w' v.ownBlock → (v'.ownBlock = v.ownBlock ∨ v'.ownBlock = some w.heap.size) → wpList Try.prog ops Q rest (a.put o.dst v') w') : wpList Try.prog ops Q (o :: rest) a w := by
 cases ao with
 | some ad => exact wpList_append_own_at _ hgd s x t ho base e i z size bytes ht hi hz hsize hby hzs hsz v n xs hs hown ad m c news hx hl (hnews ad rfl) h1 h63 hbytes hbase fun v' w' h1 h2 _ h4 => h v' w' h1 h2 h4
 | none =>
  obtain rfl := hnone rfl; obtain rfl : news = [] := List.length_eq_zero_iff.1 (by omega); refine wpList_plain hgd fun K hK => ?_
  have hrun := EY (w := w) base t o.type e i size c ht hi v n xs hown; unfold Oper.wp; simp [execOp, ho, resolve, invoke, builtin, hs, hx, hrun, Result.andThen]; exact hK _ _ (h v w (by simpa using hown) ⟨rfl, rfl, rfl, qn _, fun _ _ _ => rfl⟩ (Or.inl rfl))
theorem OV (w : World) (B : Nat) (e : TypeId) (size : Nat) (hB : B ≤ w.heap.size) : (w.alloc (.cells #[] e)).ownsRow B e size (.slice (some ⟨w.heap.size, 0, none⟩) 0 0) 0 [] :=
 ⟨by simp, Or.inr ⟨w.heap.size, 0, #[], rfl, hB, heap_alloc_new w _, qn _, Nat.zero_le _, by simp, by simp⟩⟩
def Lt.Inn (W : World) : Lt → List Int → List Value → Prop
 | .nil, ns, xs => ns = [] ∧ xs = []
 | .cons k n un ia ic its ma mc ms r, ns, xs => ∃ (u : Int) (n1 n2 n3 : List Int) (ys : List Value), ns = u :: (n1 ++ (n2 ++ n3)) ∧
   xs = int i64 k :: int i64 n :: sv un :: int i64 u :: .slice ia its.len ic :: .slice ma ms.length mc :: ys ∧
   ((ms = [] ∨ ma = some ⟨blk ma, off ma, none⟩) ∧ ms.length ≤ maxLen ∧ Bc W (blk ma) (off ma) ms ∧ NsAt W (Aw (blk ma) (off ma) ms) n1) ∧
   ((its.len = 0 ∨ ia = some ⟨blk ia, off ia, none⟩) ∧ its.len ≤ maxLen ∧ its.At W (blk ia) (off ia) ∧ NsAt W (its.refsL (blk ia) (off ia)) n2) ∧ r.Inn W n3 ys
theorem Lt.Inn.len {W : World} : ∀ {A : Lt} {ns : List Int} {xs : List Value}, A.Inn W ns xs → xs.length = A.len * 6
 | .nil, _, _, ⟨_, h⟩ => by rw [h]; rfl
 | .cons _ _ _ _ _ _ _ _ _ r, _, _, ⟨u, n1, n2, n3, ys, _, h2, _, _, h5⟩ => by
  have := h5.len; rw [h2]; simp only [List.length_cons, Lt.len]; omega
theorem Lt.Inn.one {W : World} : ∀ {A : Lt} {ns : List Int} {xs : List Value}, A.Inn W ns xs → ∀ u ∈ xs, u.oneCell' = true
 | .nil, _, _, ⟨_, h⟩, u, hu => by rw [h] at hu; cases hu
 | .cons _ _ _ _ _ _ _ _ _ r, _, _, ⟨u', n1, n2, n3, ys, _, h2, _, _, h5⟩, u, hu => by
  rw [h2] at hu; simp only [List.mem_cons] at hu; rcases hu with rfl | rfl | rfl | rfl | rfl | rfl | hu
  ·rfl
  ·rfl
  ·rfl
  ·rfl
  ·rfl
  ·rfl
  ·exact h5.one u hu
theorem Lt.Inn.app {W : World} : ∀ {A B : Lt} {ns ks : List Int} {xs ys : List Value}, A.Inn W ns xs → B.Inn W ks ys → (A.app B).Inn W (ns ++ ks) (xs ++ ys)
 | .nil, B, _, _, _, _, ⟨h1, h2⟩, hB => by rw [h1, h2]; exact hB
 | .cons _ _ _ _ _ _ _ _ _ r, B, _, ks, _, ys, ⟨u, n1, n2, n3, zs, h1, h2, h3, h4, h5⟩, hB =>
  ⟨u, n1, n2, n3 ++ ks, zs ++ ys, by rw [h1]; simp, by rw [h2]; simp, h3, h4, h5.app hB⟩
theorem Lt.Inn.row {W : World} {g : Nat} : ∀ {A : Lt} {o : Nat} {ns : List Int} {xs : List Value}, A.Inn W ns xs → (∀ j u, xs[j]? = some u → W.cell? ⟨g, o + j, none⟩ = some u) → A.At W g o ∧ NsAt W (A.refsL g o) ns
 | .nil, _, _, _, ⟨h1, _⟩, _ => by rw [h1]; exact ⟨trivial, trivial⟩
 | .cons k n un ia ic its ma mc ms r, o, _, _, ⟨u, n1, n2, n3, zs, h1, h2, ⟨m1, m2, m3, m4⟩, ⟨i1, i2, i3, i4⟩, h5⟩, hc => by
  rw [h2] at hc
  obtain ⟨r1, r2⟩ := h5.row (o := o + 6) (fun j u hj => by
   have := hc (j + 6) u (by simpa using hj)
   rw [show o + 6 + j = o + (j + 6) by omega]; exact this)
  rw [h1]; exact ⟨⟨⟨hc 0 _ rfl, hc 1 _ rfl, hc 2 _ rfl, hc 4 _ rfl, hc 5 _ rfl⟩, ⟨m1, m2, m3⟩, ⟨i1, i2, i3⟩, r1⟩, ⟨hc 3 _ rfl, m4.append (i4.append r2)⟩⟩
theorem Hm {b o : Nat} {ms : List Mov} {x : RefL} (h : x ∈ Aw b o ms) : x.b = b := (Be h).1
theorem Lt.Inn.kept {W W' : World} : ∀ {A : Lt} {ns : List Int} {xs : List Value}, A.Inn W ns xs → (∀ c ∈ A.blocks, ∀ q v, W.cell? ⟨c, q, none⟩ = some v → W'.cell? ⟨c, q, none⟩ = some v) → A.Inn W' ns xs
 | .nil, _, _, h, _ => h
 | .cons k n un ia ic its ma mc ms r, _, _, ⟨u, n1, n2, n3, zs, h1, h2, ⟨m1, m2, m3, m4⟩, ⟨i1, i2, i3, i4⟩, h5⟩, hc => by
  refine ⟨u, n1, n2, n3, zs, h1, h2, ⟨m1, m2, ?_, ?_⟩, ⟨i1, i2, ?_, ?_⟩, h5.kept fun c hcm => hc c (by simp [Lt.blocks, hcm])⟩
  ·by_cases hm : ms = []
   ·subst hm; trivial
   ·exact BB m3 fun q v _ => hc _ (by simp [Lt.blocks, hm]) q v
  ·exact m4.kept fun x hx v hv => by
    have hm := Co hx; rw [Hm hx] at hv ⊢; exact hc _ (by simp [Lt.blocks, hm]) _ _ hv
  ·by_cases hi : its.len = 0
   ·rw [Lt.len_zero hi]; trivial
   ·exact i3.kept (fun q v _ => hc _ (by simp [Lt.blocks, hi]) q v) (fun c hcm => hc c (by simp [Lt.blocks, hcm]))
  ·exact i4.kept fun x hx v hv => by
    have hi : its.len ≠ 0 := fun e => by rw [Lt.len_zero e] at hx; cases hx
    rcases Lt.refsL_mem hx with ⟨e, _⟩ | e
    ·rw [e] at hv ⊢; exact hc _ (by simp [Lt.blocks, hi]) _ _ hv
    ·exact hc _ (by simp [Lt.blocks, e]) _ _ hv
end
section
open Go Go.RowKit Go.Deep
end
section
open Go Go.RowKit Go.Deep
theorem JU {w w' : World} {B e s n : Nat} {v : Value} {xs : List Value} (h : w.ownsRow B e s v n xs) (hb : Below w.heap.size w w') : w'.ownsRow B e s v n xs :=
 h.kept (row := none) ⟨hb.os, hb.tape, hb.output, hb.size, fun k hk _ => hb.block k hk⟩ (by cases hv : v.ownBlock <;> simp)
end
end Go.Proofs.Ytpnbpepkoekkoaa
