/- Contracts and plain laws on the way to the statement: part 14. -/
import Derived.Test.YtpnbpepkoekkoaaZ13
import Derived.Maps.AppendAt
set_option linter.unusedVariables false
set_option linter.unusedSimpArgs false
section
namespace Go.Proofs.Ytpnbpepkoekkoaa
open Go Go.RowKit Go.Deep
def Lt.Inn (W : World) : Lt → List Int → List Value → Prop
 | .nil, ns, xs => ns = [] ∧ xs = []
 | .cons k n un ia ic its ma mc ms r, ns, xs => ∃ (u : Int) (n1 n2 n3 : List Int) (ys : List Value), ns = u :: (n1 ++ (n2 ++ n3)) ∧
   xs = .int .i64 k :: .int .i64 n :: sv un :: .int .i64 u :: .slice ia its.len ic :: .slice ma ms.length mc :: ys ∧
   ((ms = [] ∨ ma = some ⟨blk ma, off ma, none⟩) ∧ ms.length ≤ maxLen ∧ movAt W (blk ma) (off ma) ms ∧ NsAt W (movRefs (blk ma) (off ma) ms) n1) ∧
   ((its.len = 0 ∨ ia = some ⟨blk ia, off ia, none⟩) ∧ its.len ≤ maxLen ∧ its.At W (blk ia) (off ia) ∧ NsAt W (its.refsL (blk ia) (off ia)) n2) ∧ r.Inn W n3 ys
theorem Lt.Inn.len {W : World} : ∀ {A : Lt} {ns : List Int} {xs : List Value}, A.Inn W ns xs → xs.length = A.len * 6
 | .nil, _, _, ⟨_, h⟩ => by rw [h]; rfl
 | .cons _ _ _ _ _ _ _ _ _ r, _, _, ⟨u, n1, n2, n3, ys, _, h2, _, _, h5⟩ => by
  have := h5.len
  rw [h2]; simp only [List.length_cons, Lt.len]; omega
theorem Lt.Inn.one {W : World} : ∀ {A : Lt} {ns : List Int} {xs : List Value}, A.Inn W ns xs → ∀ u ∈ xs, u.oneCell' = true
 | .nil, _, _, ⟨_, h⟩, u, hu => by rw [h] at hu; cases hu
 | .cons _ _ _ _ _ _ _ _ _ r, _, _, ⟨u', n1, n2, n3, ys, _, h2, _, _, h5⟩, u, hu => by
  rw [h2] at hu
  simp only [List.mem_cons] at hu
  rcases hu with rfl | rfl | rfl | rfl | rfl | rfl | hu
  ·rfl
  ·rfl
  ·rfl
  ·rfl
  ·rfl
  ·rfl
  ·exact h5.one u hu
theorem Lt.Inn.app {W : World} : ∀ {A B : Lt} {ns ks : List Int} {xs ys : List Value}, A.Inn W ns xs → B.Inn W ks ys → (A.app B).Inn W (ns ++ ks) (xs ++ ys)
 | .nil, B, _, _, _, _, ⟨h1, h2⟩, hB => by rw [h1, h2]; exact hB
 | .cons _ _ _ _ _ _ _ _ _ r, B, _, ks, _, ys, ⟨u, n1, n2, n3, zs, h1, h2, h3, h4, h5⟩, hB =>
  ⟨u, n1, n2, n3 ++ ks, zs ++ ys, by rw [h1]; simp, by rw [h2]; simp, h3, h4, h5.app hB⟩
theorem Lt.Inn.row {W : World} {g : Nat} : ∀ {A : Lt} {o : Nat} {ns : List Int} {xs : List Value}, A.Inn W ns xs → (∀ j u, xs[j]? = some u → W.cell? ⟨g, o + j, none⟩ = some u) → A.At W g o ∧ NsAt W (A.refsL g o) ns
 | .nil, _, _, _, ⟨h1, _⟩, _ => by rw [h1]; exact ⟨trivial, trivial⟩
 | .cons k n un ia ic its ma mc ms r, o, _, _, ⟨u, n1, n2, n3, zs, h1, h2, ⟨m1, m2, m3, m4⟩, ⟨i1, i2, i3, i4⟩, h5⟩, hc => by
  rw [h2] at hc
  obtain ⟨r1, r2⟩ := h5.row (o := o + 6) (fun j u hj => by
   have := hc (j + 6) u (by simpa using hj)
   rw [show o + 6 + j = o + (j + 6) by omega]; exact this)
  rw [h1]
  exact ⟨⟨⟨hc 0 _ rfl, hc 1 _ rfl, hc 2 _ rfl, hc 4 _ rfl, hc 5 _ rfl⟩, ⟨m1, m2, m3⟩, ⟨i1, i2, i3⟩, r1⟩, ⟨hc 3 _ rfl, m4.append (i4.append r2)⟩⟩
theorem movRefs_blk {b o : Nat} {ms : List Mov} {x : RefL} (h : x ∈ movRefs b o ms) : x.b = b := (movRefs_mem h).1
theorem Lt.Inn.kept {W W' : World} : ∀ {A : Lt} {ns : List Int} {xs : List Value}, A.Inn W ns xs → (∀ c ∈ A.blocks, ∀ q v, W.cell? ⟨c, q, none⟩ = some v → W'.cell? ⟨c, q, none⟩ = some v) → A.Inn W' ns xs
 | .nil, _, _, h, _ => h
 | .cons k n un ia ic its ma mc ms r, _, _, ⟨u, n1, n2, n3, zs, h1, h2, ⟨m1, m2, m3, m4⟩, ⟨i1, i2, i3, i4⟩, h5⟩, hc => by
  refine ⟨u, n1, n2, n3, zs, h1, h2, ⟨m1, m2, ?_, ?_⟩, ⟨i1, i2, ?_, ?_⟩, h5.kept fun c hcm => hc c (by simp [Lt.blocks, hcm])⟩
  ·by_cases hm : ms = []
   ·subst hm; trivial
   ·exact movAt_kept m3 fun q v _ => hc _ (by simp [Lt.blocks, hm]) q v
  ·exact m4.kept fun x hx v hv => by
    have hm := movRefs_ne hx
    rw [movRefs_blk hx] at hv ⊢
    exact hc _ (by simp [Lt.blocks, hm]) _ _ hv
  ·by_cases hi : its.len = 0
   ·rw [Lt.len_zero hi]; trivial
   ·exact i3.kept (fun q v _ => hc _ (by simp [Lt.blocks, hi]) q v) (fun c hcm => hc c (by simp [Lt.blocks, hcm]))
  ·exact i4.kept fun x hx v hv => by
    have hi : its.len ≠ 0 := fun e => by rw [Lt.len_zero e] at hx; cases hx
    rcases Lt.refsL_mem hx with ⟨e, _⟩ | e
    ·rw [e] at hv ⊢; exact hc _ (by simp [Lt.blocks, hi]) _ _ hv
    ·exact hc _ (by simp [Lt.blocks, e]) _ _ hv
end Go.Proofs.Ytpnbpepkoekkoaa
end
section
namespace Go.Proofs.Ytpnbpepkoekkoaa
open Go Go.RowKit Go.Deep
end Go.Proofs.Ytpnbpepkoekkoaa
end
section
namespace Go.Proofs.Ytpnbpepkoekkoaa
open Go Go.RowKit Go.Deep
theorem own_below {w w' : World} {B e s n : Nat} {v : Value} {xs : List Value} (h : w.ownsRow B e s v n xs) (hb : Below w.heap.size w w') : w'.ownsRow B e s v n xs :=
 h.kept (row := none) ⟨hb.os, hb.tape, hb.output, hb.size, fun k hk _ => hb.block k hk⟩ (by cases hv : v.ownBlock <;> simp)
end Go.Proofs.Ytpnbpepkoekkoaa
end
