/- The contract of the examples (sane): they hold. -/
import Derived.Test.YtabdpmcdlojliaaDoorB1
import Derived.Test.YtabdpmcdlojliaaDoorB4
import Derived.Test.YtabdpmcdlojliaaDoorB5
namespace Go.Proofs.YtabdpmcdlojliaaDoor
open Go.RowKit

theorem tokAt_own {w : World} {base g c : Nat} {ts : List Tok} {n : Nat} (h : w.ownsRow base 35 4 (.slice (some ⟨g, 0, none⟩) n c) ts.length (cellsOf ts)) : TokAt w g 0 ts := by
  have hlen : ∀ (us : List Tok), (cellsOf us).length = 4 * us.length := by
    intro us; induction us with
    | nil => rfl
    | cons t r ih => unfold cellsOf at ih ⊢; rw [List.flatMap_cons, List.length_append, ih]; simp [cellsOfT]; omega
  have hget : ∀ (us : List Tok) (k : Nat) (t : Tok) (i : Nat), us[k]? = some t → i < 4 → (cellsOf us)[k * 4 + i]? = (cellsOfT t)[i]? := by
    intro us
    induction us with
    | nil => intro k t i h; simp at h
    | cons u r ih =>
      intro k t i h hi
      have e : cellsOf (u :: r) = cellsOfT u ++ cellsOf r := by unfold cellsOf; rw [List.flatMap_cons]
      rw [e]
      cases k with
      | zero => simp at h; subst h; rw [List.getElem?_append_left (by simp [cellsOfT]; omega)]; simp
      | succ k =>
        rw [List.getElem?_append_right (by simp [cellsOfT]; omega)]
        have : (k + 1) * 4 + i - (cellsOfT u).length = k * 4 + i := by simp [cellsOfT]; omega
        rw [this]; exact ih k t i (by simpa using h) hi
  have hc := h.cells (g := g) rfl
  intro k t ht
  have hadd : ∀ m, ((⟨g, 0, none⟩ : Addr).add m) = ⟨g, m, none⟩ := by intro m; unfold Addr.add; split <;> simp_all
  refine ⟨?_, ?_, ?_, ?_⟩
  · have := hc (k * 4 + 0) _ ((hget ts k t 0 ht (by omega)).trans rfl); rw [hadd] at this; rw [show 0 + k * 4 = k * 4 + 0 by omega]; exact this
  · have := hc (k * 4 + 1) _ ((hget ts k t 1 ht (by omega)).trans rfl); rw [hadd] at this; rw [show 0 + k * 4 + 1 = k * 4 + 1 by omega]; exact this
  · have := hc (k * 4 + 2) _ ((hget ts k t 2 ht (by omega)).trans rfl); rw [hadd] at this; rw [show 0 + k * 4 + 2 = k * 4 + 2 by omega]; exact this
  · have := hc (k * 4 + 3) _ ((hget ts k t 3 ht (by omega)).trans rfl); rw [hadd] at this; rw [show 0 + k * 4 + 3 = k * 4 + 3 by omega]; exact this

theorem isToks_own {w : World} {base : Nat} {ts : List Tok} {v : Value} (h : w.ownsRow base 35 4 v ts.length (cellsOf ts)) : IsToks w v ts := by
  rcases h.2 with ⟨rfl, h0⟩ | ⟨g, cap, cur, rfl, hb, hg, _⟩
  · exact Or.inl ⟨none, 0, rfl, List.length_eq_zero_iff.1 h0⟩
  · exact Or.inr ⟨g, 0, cap, rfl, tokAt_own h, (Array.getElem?_eq_some_iff.1 hg).1⟩

/-- Lex where there are tokens. -/
theorem lex_some (src : ByteArray) (ts : List Tok) (n : Nat) (w : World) (hE : Env w) (hs : src.size ≤ 65536) (hok : lexAt 0 src.data.toList = .ok ts) (hn : ts.length = n) (hpos : 0 < n) :
    Calls Tryd.prog 12 #[.string src] w fun e w' => ∃ g c, e = .returned (.tuple #[.slice (some ⟨g, 0, none⟩) n c, .int .i64 0, .int .i64 0]) ∧ TokAt w' g 0 ts ∧ g < w'.heap.size ∧ Below w.heap.size w w' := by
  refine (lex_any src w hE hs).mono ?_
  rintro e w' (⟨us, v, hr, rfl, ho, hb⟩ | ⟨p, hr, _⟩)
  · rw [hok] at hr; injection hr with hr; subst hr
    rcases ho.2 with ⟨_, h0⟩ | ⟨g, cap, cur, rfl, hbb, hg, _⟩
    · omega
    · exact ⟨g, cap, by rw [hn], tokAt_own ho, (Array.getElem?_eq_some_iff.1 hg).1, hb⟩
  · rw [hok] at hr; cases hr
/-- Lex where there are none. -/
theorem lex_none (src : ByteArray) (w : World) (hE : Env w) (hs : src.size ≤ 65536) (hok : lexAt 0 src.data.toList = .ok []) :
    Calls Tryd.prog 12 #[.string src] w fun e w' => ∃ ao c, e = .returned (.tuple #[.slice ao 0 c, .int .i64 0, .int .i64 0]) ∧ Below w.heap.size w w' := by
  refine (lex_any src w hE hs).mono ?_
  rintro e w' (⟨us, v, hr, rfl, ho, hb⟩ | ⟨p, hr, _⟩)
  · rw [hok] at hr; injection hr with hr; subst hr
    rcases ho.2 with ⟨rfl, h0⟩ | ⟨g, cap, cur, rfl, hbb, hg, _⟩
    · exact ⟨_, _, rfl, hb⟩
    · exact ⟨_, _, rfl, hb⟩
  · rw [hok] at hr; cases hr
/-- Lex where there is an error. -/
theorem lex_err (src : ByteArray) (p : Nat) (w : World) (hE : Env w) (hs : src.size ≤ 65536) (hok : lexAt 0 src.data.toList = .error p) :
    Calls Tryd.prog 12 #[.string src] w fun e w' => e = .returned (.tuple #[.slice none 0 0, .int .i64 p, .int .i64 30]) ∧ Below w.heap.size w w' := by
  refine (lex_any src w hE hs).mono ?_
  rintro e w' (⟨us, v, hr, rfl, ho, hb⟩ | ⟨q, hr, rfl, hb⟩)
  · rw [hok] at hr; cases hr
  · rw [hok] at hr; injection hr with hr; subst hr; exact ⟨rfl, hb⟩

def S1 : List Tok := [⟨1, [115, 117, 109], 0, 0⟩, ⟨2, [], 30, 4⟩, ⟨3, [59], 0, 6⟩]
theorem L1 : lexAt 0 (⟨#[115, 117, 109, 32, 51, 48, 59]⟩ : ByteArray).data.toList = .ok S1 := by kernel_rfl
theorem L2 : lexAt 0 (⟨#[48, 48, 55]⟩ : ByteArray).data.toList = .error 0 := by kernel_rfl
def S3 : List Tok := [⟨2, [], 1099511627776, 0⟩]
theorem L3 : lexAt 0 (⟨#[49, 48, 57, 57, 53, 49, 49, 54, 50, 55, 55, 55, 54]⟩ : ByteArray).data.toList = .ok S3 := by kernel_rfl
def S4 : List Tok := [⟨1, [97], 0, 0⟩]
theorem L4 : lexAt 0 (⟨#[97, 32, 47, 47, 32, 98]⟩ : ByteArray).data.toList = .ok S4 := by kernel_rfl
theorem L5 : lexAt 0 (⟨#[97, 32, 36]⟩ : ByteArray).data.toList = .error 2 := by kernel_rfl
def S6 : List Tok := [⟨1, [97], 0, 0⟩, ⟨3, [61], 0, 1⟩, ⟨2, [], 1, 2⟩]
theorem L6 : lexAt 0 (⟨#[97, 61, 49]⟩ : ByteArray).data.toList = .ok S6 := by kernel_rfl
theorem L7 : lexAt 0 (⟨#[]⟩ : ByteArray).data.toList = .ok [] := by kernel_rfl
end Go.Proofs.YtabdpmcdlojliaaDoor
