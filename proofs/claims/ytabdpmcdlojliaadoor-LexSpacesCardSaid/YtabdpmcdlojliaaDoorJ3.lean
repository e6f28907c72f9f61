/- The contract of the reference's Decimal. -/
import Derived.Test.YtabdpmcdlojliaaDoorJ2
import Derived.Test.YtabdpmcdlojliaaDoorP2
import Derived.Test.YtabdpmcdlojliaaDoorB5
import Derived.Laws.BytesArg
namespace Go.Proofs.YtabdpmcdlojliaaDoor
open Go.RowKit

theorem conv_one (w : World) (z : Int) : (convert 39 9 (.slice (some ⟨w.heap.size, 0, none⟩) 1 1)).run Tryd.prog (w.alloc (.cells #[.int .u8 z] 5)) = .ok (.string (strOfNums [z])) (w.alloc (.cells #[.int .u8 z] 5)) :=
  run_convert_bytes_arg _ 39 5 Tryd.underlying39 Tryd.underlying5 w.heap.size 0 1 1 [z] rfl (fun i hi => by
    obtain rfl : i = 0 := by omega
    exact cell_of_block (heap_alloc_new w _) 0 (by simp)) 9 Tryd.underlying9

def preD (k : Nat) : List UInt8 := if k < 10 then [] else Lib.decDigits (k / 10)
theorem decDigits_pre (k : Nat) : Lib.decDigits k = preD k ++ [UInt8.ofNat (48 + k % 10)] := by
  unfold preD
  rw [Lib.decDigits]
  by_cases h : k < 10
  · rw [dif_pos h, if_pos h, Nat.mod_eq_of_lt h]; rfl
  · rw [dif_neg h, if_neg h]
theorem str_digit (k : Nat) : (strOfNums [48 + (k : Int) % 10]).data.toList = [UInt8.ofNat (48 + k % 10)] := by
  rw [strOfNums_data, List.map_cons, List.map_nil]
  congr 2
theorem len13 {u : Nat} (hu : u ≤ 1099511627776) : (Lib.decDigits u).length ≤ 13 := decDigits_len 12 u (by omega)

set_option maxHeartbeats 1000000 in
set_option maxRecDepth 100000 in
theorem decimal_any (u : Nat) (hu : u ≤ 1099511627776) (w : World) :
    Calls Tryd.prog 40 #[.int .i64 u] w fun e w' => e = .returned (.string ⟨(Lib.decDigits u).toArray⟩) ∧ Below w.heap.size w w' := by
  have hconv := conv_one
  go_enter Tryd.func40, Tryd.ntmps40
  go_wp2_with fail
  go_loopw [0, 3] (fun nv sv wr => ∃ (k : Nat) (s : ByteArray), k ≤ u ∧ nv = .int .i64 k ∧ sv = .string s ∧ Hid (Below w.heap.size w wr) ∧ Hid (Lib.decDigits u = preD k ++ s.data.toList)) (fun nv _ _ => (intOf nv).toNat)
  case atStart =>
    refine ⟨u, _, Nat.le_refl _, rfl, rfl, Lib.hid ((Below.refl _ _).alloc (Nat.le_refl _) _), Lib.hid ?_⟩
    rw [str_digit, ← decDigits_pre]
  case round =>
    obtain ⟨k, s, hk, rfl, rfl, hb, hd⟩ := hrel
    have hs : s.size ≤ 13 := by
      have h1 := len13 hu
      rw [hd.out, List.length_append, list_size'] at h1; omega
    have hss : (strOfNums [48 + (k : Int) / 10 % 10]).size = 1 := by rw [strOfNums_size]; rfl
    have HSS := Lib.hid hss
    have hbs := hb.out.size
    by_cases h10 : 10 ≤ k
    · have h10' : (10 : Int) ≤ k := by omega
      go_wp2
      go_roundw
      case rel =>
        refine ⟨k / 10, _, by omega, by go_num, rfl, Lib.hid (hb.out.alloc (by omega) _), Lib.hid ?_⟩
        have e1 := str_digit (k / 10)
        rw [hd.out, ByteArray.data_append, Array.toList_append, show ((k : Int) / 10 % 10) = (((k / 10 : Nat) : Int) % 10) by omega, e1, ← List.append_assoc, ← decDigits_pre]
        unfold preD; rw [if_neg (by omega)]
      case measure => simp [intOf]; omega
    · have h10' : ¬ (10 : Int) ≤ k := by omega
      go_wp2
      go_ret
      refine ⟨ret_string ?_, hb.out⟩
      have := hd.out
      unfold preD at this
      rw [if_pos (by omega), List.nil_append] at this
      rw [this]
end Go.Proofs.YtabdpmcdlojliaaDoor
