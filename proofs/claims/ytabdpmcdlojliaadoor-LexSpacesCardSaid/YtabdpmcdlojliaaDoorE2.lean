/- A list of tokens that comes in as an argument: its cells, its lengths, and how it reads behind the call. -/
import Derived.Test.YtabdpmcdlojliaaDoorE1
import Derived.Test.YtabdpmcdlojliaaDoorB2
import Derived.Deep.Slices
import Derived.Carry
import Derived.SizedLaws
import Derived.ProofKit
namespace Go.Proofs.YtabdpmcdlojliaaDoor
open Go.ChangeShapes Go.WideShapes Go.ChangeAt Go.RowKit Go.Deep

instance : Inhabited Tok := ⟨⟨0, [], 0, 0⟩⟩

theorem Tryd.laidOut : laidOutB Tryd.prog = true := by kernel_rfl
theorem Tryd.cells35 : Tryd.prog.cellsOf 35 = 4 := by kernel_rfl
theorem Tryd.cells3 : Tryd.prog.cellsOf 3 = 1 := by kernel_rfl
theorem Tryd.bytes35 : Tryd.prog.bytesOf 35 = 40 := by kernel_rfl

theorem add_plain' (b o j : Nat) : ((⟨b, o, none⟩ : Addr).add j) = ⟨b, o + j, none⟩ := by unfold Addr.add; split <;> simp_all

section
variable {H : Type} {enc : TypeId × Value → H} {W : World}

set_option maxRecDepth 100000 in
theorem tok_of_cells {A : Addr} {cs' : List Value} {n : Nat} {y : DataW H × List MemPlace} (hc : W.cells? 0 A 4 = some cs') (ht : DataW.trod enc Tryd.prog W 0 (fun _ => true) true n 35 cs' = some y) :
    ∃ t : Tok, y.1 = .agg [.lit (.int .i64 t.kind), .lit (.string t.text), .lit (.int .i64 t.num), .lit (.int .i64 t.pos)] ∧
      W.cell? (A.add 0) = some (.int .i64 t.kind) ∧ W.cell? (A.add 1) = some (.string ⟨t.text.toArray⟩) ∧ W.cell? (A.add 2) = some (.int .i64 t.num) ∧ W.cell? (A.add 3) = some (.int .i64 t.pos) := by
  obtain ⟨ys, n', hn', hy, hlen, hyl, hf⟩ := DataW.trod_struct Tryd.underlying35 ht
  obtain ⟨_, hcl, hat⟩ := World.cells?_some hc
  match cs', hcl with
  | [c0, c1, c2, c3], _ =>
    match ys, hyl with
    | [y0, y1, y2, y3], _ =>
      have f0 : DataW.trod enc Tryd.prog W 0 (fun _ => true) true n' 3 (([c0, c1, c2, c3].drop 0).take (Tryd.prog.cellsOf 3)) = some y0 := hf 0 _ rfl
      rw [Tryd.cells3] at f0
      have f1 : DataW.trod enc Tryd.prog W 0 (fun _ => true) true n' 9 (([c0, c1, c2, c3].drop 1).take (Tryd.prog.cellsOf 9)) = some y1 := hf 1 _ rfl
      rw [Tryd.cells9] at f1
      have f2 : DataW.trod enc Tryd.prog W 0 (fun _ => true) true n' 3 (([c0, c1, c2, c3].drop 2).take (Tryd.prog.cellsOf 3)) = some y2 := hf 2 _ rfl
      rw [Tryd.cells3] at f2
      have f3 : DataW.trod enc Tryd.prog W 0 (fun _ => true) true n' 3 (([c0, c1, c2, c3].drop 3).take (Tryd.prog.cellsOf 3)) = some y3 := hf 3 _ rfl
      rw [Tryd.cells3] at f3
      obtain ⟨k0, e0, g0, _⟩ := DataW.trod_int Tryd.underlying3 f0
      obtain ⟨s1, e1, g1, _⟩ := DataW.trod_string Tryd.underlying9 f1
      obtain ⟨k2, e2, g2, _⟩ := DataW.trod_int Tryd.underlying3 f2
      obtain ⟨k3, e3, g3, _⟩ := DataW.trod_int Tryd.underlying3 f3
      injection e0 with e0; injection e1 with e1; injection e2 with e2; injection e3 with e3
      subst e0 e1 e2 e3 g0 g1 g2 g3
      refine ⟨⟨k0, s1.data.toList, k2, k3⟩, ?_, ?_, ?_, ?_, ?_⟩
      · rw [hy]; rfl
      · exact hat 0 (by omega)
      · have := hat 1 (by omega); simpa using this
      · exact hat 2 (by omega)
      · exact hat 3 (by omega)

set_option maxRecDepth 100000 in
theorem open_toks {base : Nat} {v : Value} {d : DataW H} {p : List MemPlace} (hv : Value.okWide Tryd.prog W .any base 23 v) (h : DataW.Trod enc Tryd.prog W 0 (fun _ => true) true 23 v d p)
    (hz : ∀ n ∈ d.weights Tryd.prog 23, n ≤ reachBytes) :
    ∃ ts : List Tok, IsToks W v ts ∧ ts.length ≤ 3518437208784 ∧ ∀ t ∈ ts, t.text.length ≤ 140737488351232 := by
  obtain ⟨a0, len0, cap0, rfl⟩ := okWide_slice Tryd.underlying23 hv
  obtain ⟨fuel, hf⟩ := h
  rcases open_slice Tryd.underlying23 hf with ⟨hcs, hx⟩ | ⟨a, len, cap, m, n, D, Pl, hcs, hb, hl, hm, hmm, hx, hi⟩
  · have hcs' : Value.slice a0 len0 cap0 = .slice none 0 0 := by simpa [Value.cells] using hcs
    injection hcs' with e1 e2 e3
    subst e1 e2 e3
    exact ⟨[], Or.inl ⟨_, _, rfl, rfl⟩, by simp, by simp⟩
  · have hcs' : Value.slice a0 len0 cap0 = .slice (some a) len cap := by simpa [Value.cells] using hcs
    injection hcs' with e1 e2 e3
    subst e1 e2 e3
    have hmc : m = cap0 := by simpa using hmm
    subst hmc
    rw [Tryd.cells35] at hi hx
    have hall : ∀ i, i < len0 → ∃ t : Tok, D i = .agg [.lit (.int .i64 t.kind), .lit (.string t.text), .lit (.int .i64 t.num), .lit (.int .i64 t.pos)] ∧
        W.cell? (a.add (i * 4)) = some (.int .i64 t.kind) ∧ W.cell? (a.add (i * 4 + 1)) = some (.string ⟨t.text.toArray⟩) ∧ W.cell? (a.add (i * 4 + 2)) = some (.int .i64 t.num) ∧ W.cell? (a.add (i * 4 + 3)) = some (.int .i64 t.pos) := by
      intro i hil
      obtain ⟨cs', h1, h2⟩ := hi i (by omega)
      obtain ⟨t, g0, g1, g2, g3, g4⟩ := tok_of_cells h1 h2
      rw [Go.Deep.add_add] at g1 g2 g3 g4
      exact ⟨t, g0, g1, g2, g3, g4⟩
    obtain ⟨f, hf2⟩ := choose_lt hall
    injection hx with hd hp
    subst hd
    have hw : ∀ q ∈ (DataW.slice ((List.range len0).map D) ((List.range (m - len0)).map fun j => D (len0 + j))).weights Tryd.prog 23, q ≤ reachBytes := hz
    rw [show (DataW.slice ((List.range len0).map D) ((List.range (m - len0)).map fun j => D (len0 + j))).weights Tryd.prog 23 =
      (((List.range len0).map D).length + ((List.range (m - len0)).map fun j => D (len0 + j)).length) * Tryd.prog.bytesOf 35 :: (DataW.weightsAll Tryd.prog 35 ((List.range len0).map D) ++ DataW.weightsAll Tryd.prog 35 ((List.range (m - len0)).map fun j => D (len0 + j))) from by
        rw [DataW.weights.eq_def]; simp only [Tryd.underlying23]] at hw
    have hw0 := hw _ (List.mem_cons_self)
    rw [Tryd.bytes35] at hw0
    simp only [List.length_map, List.length_range] at hw0
    unfold reachBytes at hw0
    have hmem : ∀ (ds : List (DataW H)) (dd : DataW H), dd ∈ ds → ∀ q ∈ dd.weights Tryd.prog 35, q ∈ DataW.weightsAll Tryd.prog 35 ds := by
      intro ds
      induction ds with
      | nil => intro dd h; cases h
      | cons e r ih =>
        intro dd h q hq
        rw [DataW.weightsAll]
        rcases List.mem_cons.1 h with rfl | h
        · exact List.mem_append_left _ hq
        · exact List.mem_append_right _ (ih dd h q hq)
    have htx : ∀ i, i < len0 → (f i).text.length ≤ 140737488351232 := by
      intro i hil
      have hD := (hf2 i hil).1
      have := hw (f i).text.length (List.mem_cons_of_mem _ (List.mem_append_left _ (hmem _ (D i) (List.mem_map.2 ⟨i, List.mem_range.2 hil, rfl⟩) _ (by
        rw [hD, DataW.weights.eq_def]; simp only [Tryd.underlying35]; simp [DataW.weightsEach, DataW.weights]))))
      unfold reachBytes at this; exact this
    refine ⟨(List.range len0).map f, ?_, by simp; omega, ?_⟩
    · by_cases h0 : len0 = 0
      · subst h0; exact Or.inl ⟨_, _, rfl, rfl⟩
      · have hc0 := (hf2 0 (by omega)).2.1
        rw [Nat.zero_mul] at hc0
        have hsp := World.cell?_spot hc0
        obtain ⟨b, o, sp⟩ := a
        have hsp' : sp = none := by simpa [Addr.add] using hsp
        subst hsp'
        refine Or.inr ⟨b, o, m, by simp, ?_, ?_⟩
        · intro k t hk
          have hkl : k < len0 := by
            have := List.getElem?_eq_some_iff.1 hk
            obtain ⟨h1, _⟩ := this
            simpa using h1
          have hft : f k = t := by simpa [hkl] using hk
          obtain ⟨_, g1, g2, g3, g4⟩ := hf2 k hkl
          rw [hft] at g1 g2 g3 g4
          rw [add_plain'] at g1 g2 g3 g4
          exact ⟨g1, g2, g3, g4⟩
        · have : (⟨b, o, none⟩ : Addr).block < W.heap.size := by
            have hc1 := hc0
            unfold World.cell? at hc1
            rcases Nat.lt_or_ge b W.heap.size with h1 | h1
            · exact h1
            · simp [Addr.add, Array.getElem?_eq_none h1] at hc1
          exact this
    · intro t ht
      obtain ⟨i, hi', rfl⟩ := List.mem_map.1 ht
      exact htx i (List.mem_range.1 hi')

theorem toks_back {v : Value} {d : DataW H} {p : List MemPlace} (h : DataW.Trod enc Tryd.prog W 0 (fun _ => true) true 23 v d p) (hlt : ∀ x ∈ p, x.block < W.heap.size) {W' : World} (hb : Below W.heap.size W W') :
    DataW.Trod enc Tryd.prog W' 0 (fun b => decide (b < W.heap.size)) true 23 v d p :=
  Below.trod Tryd.laidOut (by kernel_rfl) (of_decide_eq_true (by kernel_rfl)) h hb hlt
end
end Go.Proofs.YtabdpmcdlojliaaDoor
