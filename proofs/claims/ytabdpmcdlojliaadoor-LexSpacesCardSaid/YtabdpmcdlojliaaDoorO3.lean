/- A list of bytes that comes in as an argument: its cells, its length, and how it reads behind the call. -/
import Derived.Test.YtabdpmcdlojliaaDoorO2
import Derived.Test.YtabdpmcdlojliaaDoorE2
import Derived.ChangeSlices
namespace Go.Proofs.YtabdpmcdlojliaaDoor
open Go.ChangeShapes Go.WideShapes Go.ChangeAt Go.RowKit Go.Deep

theorem Tryd.cells5 : Tryd.prog.cellsOf 5 = 1 := by kernel_rfl

section
variable {H : Type} {enc : TypeId × Value → H} {W : World}

set_option maxRecDepth 100000 in
theorem open_bytes {base : Nat} {v : Value} {d : DataW H} {p : List MemPlace} (hv : Value.okWide Tryd.prog W .any base 39 v) (h : DataW.Trod enc Tryd.prog W 0 (fun _ => true) true 39 v d p) (_hz : ∀ n ∈ d.weights Tryd.prog 39, n ≤ reachBytes) :
    ∃ bs : List UInt8, IsBytes W v bs := by
  obtain ⟨a0, len0, cap0, rfl⟩ := okWide_slice Tryd.underlying39 hv
  obtain ⟨fuel, hf⟩ := h
  rcases open_ints Tryd.underlying39 Tryd.underlying5 Tryd.cells5 hf with ⟨hcs, hx⟩ | ⟨a, len, cap, zs, hcs, hb, hl, hm, hzl, hx, hi, hw⟩
  · have hcs' : Value.slice a0 len0 cap0 = .slice none 0 0 := by simpa [Value.cells] using hcs
    injection hcs' with e1 e2 e3
    subst e1 e2 e3
    exact ⟨[], _, _, rfl, Or.inl rfl⟩
  · have hcs' : Value.slice a0 len0 cap0 = .slice (some a) len cap := by simpa [Value.cells] using hcs
    injection hcs' with e1 e2 e3
    subst e1 e2 e3
    have hzl' : zs.length = cap0 := by simpa using hzl
    have hbyte : ∀ i, i < len0 → ∃ c : UInt8, W.cell? (a.add i) = some (.int .u8 c.toNat) := by
      intro i hil
      have h1 := hi i (by omega)
      have h2 := hw (zs.getD i 0) (by rw [List.getD_eq_getElem?_getD, List.getElem?_eq_getElem (by omega)]; exact List.getElem_mem _)
      generalize zs.getD i 0 = z at h1 h2
      have h3 : IntKind.u8.min ≤ z ∧ z ≤ IntKind.u8.max := by simpa [Lit.wf] using h2
      have h4 : IntKind.u8.min = 0 := rfl
      have h5 : IntKind.u8.max = 255 := rfl
      rw [h4, h5] at h3
      refine ⟨UInt8.ofNat z.toNat, ?_⟩
      rw [h1]
      have : ((UInt8.ofNat z.toNat).toNat : Int) = z := by
        rw [show (UInt8.ofNat z.toNat).toNat = z.toNat % 256 from rfl]; omega
      rw [this]
    obtain ⟨f, hf2⟩ := choose_lt hbyte
    refine ⟨(List.range len0).map f, some a, cap0, by simp, ?_⟩
    by_cases h0 : len0 = 0
    · subst h0; exact Or.inl rfl
    · right
      have hc0 := hf2 0 (by omega)
      have hsp := World.cell?_spot hc0
      obtain ⟨b, o, sp⟩ := a
      have hsp' : sp = none := by simpa [Addr.add] using hsp
      subst hsp'
      refine ⟨b, o, rfl, ?_, ?_⟩
      · intro k t hk
        have hkl : k < len0 := by
          have := List.getElem?_eq_some_iff.1 hk
          obtain ⟨h1, _⟩ := this
          simpa using h1
        have hft : f k = t := by simpa [hkl] using hk
        have g1 := hf2 k hkl
        rw [hft, add_plain'] at g1
        exact g1
      · have hc1 := hc0
        unfold World.cell? at hc1
        rcases Nat.lt_or_ge b W.heap.size with h1 | h1
        · exact h1
        · simp [Addr.add, Array.getElem?_eq_none h1] at hc1

theorem bytes_back {v : Value} {d : DataW H} {p : List MemPlace} (h : DataW.Trod enc Tryd.prog W 0 (fun _ => true) true 39 v d p) (hlt : ∀ x ∈ p, x.block < W.heap.size) {W' : World} (hb : Below W.heap.size W W') :
    DataW.Trod enc Tryd.prog W' 0 (fun b => decide (b < W.heap.size)) true 39 v d p :=
  Below.trod Tryd.laidOut (by kernel_rfl) (of_decide_eq_true (by kernel_rfl)) h hb hlt
end
end Go.Proofs.YtabdpmcdlojliaaDoor
