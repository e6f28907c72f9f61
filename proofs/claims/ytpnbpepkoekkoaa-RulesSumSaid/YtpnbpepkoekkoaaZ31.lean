/- Contracts and plain laws on the way to the statement: part 31. -/
import Derived.Test.YtpnbpepkoekkoaaZ30
set_option linter.unusedVariables false
set_option linter.unusedSimpArgs false
section
namespace Go.Proofs.Ytpnbpepkoekkoaa
open Go Go.RowKit Go.Shelf Go.Deep
def SV (V lo hi : Nat) (r0 u0 z1 : Nm) (k : Int) (W : World) : Prop := ∃ R M0 I1 I0 M1 I2 F Dn : Nat, W.heap[V]? = some (.cells #[sv [119], .int .i64 0, .int .i64 0, .int .i64 0, .int .i64 0, .int .i64 0, .slice (some ⟨R, 0, none⟩) 2 2, .slice none 0 0, .slice none 0 0, .slice none 0 0, .slice (some ⟨F, 0, none⟩) 2 2, .slice (some ⟨Dn, 0, none⟩) 2 2] 30 (0, 0)) ∧ SmallW r0 u0 z1 k R M0 I1 I0 M1 I2 F Dn W ∧ (∀ b ∈ [R, M0, I1, I0, M1, I2, F, Dn], lo ≤ b ∧ b < hi) ∧ [R, M0, I1, I0, M1, I2, F, Dn].Nodup
theorem SmallW.same {r0 u0 z1 : Nm} {k : Int} {R M0 I1 I0 M1 I2 F Dn : Nat} {W W' : World} (h : SmallW r0 u0 z1 k R M0 I1 I0 M1 I2 F Dn W) (ho : ∀ b ∈ [R, M0, I1, I0, M1, I2, F, Dn], W'.heap[b]? = W.heap[b]?) : SmallW r0 u0 z1 k R M0 I1 I0 M1 I2 F Dn W' := by
 obtain ⟨h1, h2, h3, h4, h5, h6, h7, h8⟩ := h
 exact ⟨(ho _ (by simp)).trans h1, (ho _ (by simp)).trans h2, (ho _ (by simp)).trans h3, (ho _ (by simp)).trans h4, (ho _ (by simp)).trans h5, (ho _ (by simp)).trans h6, (ho _ (by simp)).trans h7, (ho _ (by simp)).trans h8⟩
theorem SV.but {V lo hi b : Nat} {r0 u0 z1 : Nm} {k : Int} {W W' : World} (h : SV V lo hi r0 u0 z1 k W) (hb : ButOne b W W') (hV : b ≠ V) (hx : b < lo ∨ hi ≤ b) (hs : hi ≤ W.heap.size) : SV V lo hi r0 u0 z1 k W' := by
 obtain ⟨R, M0, I1, I0, M1, I2, F, Dn, h1, h2, h3, h4⟩ := h
 exact ⟨R, M0, I1, I0, M1, I2, F, Dn, hb.blocks h1 hV.symm, h2.same (fun c hc => hb.block c (by have := (h3 c hc).2; omega) (by have := h3 c hc; omega)), h3, h4⟩
theorem SV.below {V lo hi : Nat} {r0 u0 z1 : Nm} {k : Int} {W W' : World} (h : SV V lo hi r0 u0 z1 k W) (hb : Below W.heap.size W W') (hs : hi ≤ W.heap.size) : SV V lo hi r0 u0 z1 k W' := by
 obtain ⟨R, M0, I1, I0, M1, I2, F, Dn, h1, h2, h3, h4⟩ := h
 exact ⟨R, M0, I1, I0, M1, I2, F, Dn, keepO hb h1, h2.same (fun c hc => hb.block c (by have := (h3 c hc).2; omega)), h3, h4⟩
end Go.Proofs.Ytpnbpepkoekkoaa
end
