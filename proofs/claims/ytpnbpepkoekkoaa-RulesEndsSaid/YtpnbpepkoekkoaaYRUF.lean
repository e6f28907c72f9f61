/- RulesEnds holds: for all arguments the law returns true, and they read as they did. No condition beyond the row's own. -/
import Derived.Test.YtpnbpepkoekkoaaYRUFp4
import Derived.Test.YtpnbpepkoekkoaaZ38
import Derived.Test.YtpnbpepkoekkoaaYRUFp1
import Derived.Test.YtpnbpepkoekkoaaYRUFp2
import Derived.Test.YtpnbpepkoekkoaaYRUFp3
import Derived.Test.YtpnbpepkoekkoaaRows
import Derived.ProofKit
import Derived.Test.YtpnbpepkoekkoaaZ3
set_option linter.unusedVariables false
set_option linter.unusedSimpArgs false
set_option maxRecDepth 100000
set_option maxHeartbeats 16000000
namespace Go.Proofs.Ytpnbpepkoekkoaa
open Go.Value (int)
open Go.IntKind (i64)
end Go.Proofs.Ytpnbpepkoekkoaa
section
open Go.Value (int)
open Go.IntKind (i64)
namespace Go.Proofs.Ytpnbpepkoekkoaa.rulesEnds
open Go.ChangeShapes Go.WideShapes Go.ChangeAt Go.RowKit
theorem own : ownKnob Try.prog.godebug = none := by kernel_rfl
theorem lifted (os : Go.Os) (started : os.Started) (H : Type) (enc : TypeId × Value → H) :
  ReturnsInHanded {} Try.checked os 8 .any (Rows.rulesEndsSpec.pre6 enc Try.prog Try.f8 Rows.rulesEndsRow.domain false) (Rows.rulesEndsSpec.post enc Try.prog Try.f8 false true false false) := by
 refine returnsInHanded_of_change_shaped (C := Try.checked) own started (by kernel_rfl) Try.func8
  (ChangeSpec.witness6 (enc := enc) (C := Try.checked) false ⟨#[], #[.agg #[.string ⟨#[]⟩, int i64 0, int i64 0, int i64 0, int i64 0, int i64 0, .slice none 0 0, .slice none 0 0, .slice none 0 0, .slice none 0 0, .slice none 0 0, .slice none 0 0]], []⟩ 8 (by kernel_rfl) (by kernel_rfl) (by kernel_rfl) (by kernel_rfl)) ?_
 intro W base args ds gs before hval0 hW hcnd hsz0 hsh _; have hval : ∀ (j : Nat) t v, Try.f8.params[j]? = some t → args[j]? = some v → Value.okWide Try.prog W .any base t v := hval0; have hW' := hW; obtain ⟨p, q, hA0, hV, rfl, hfz, hnd⟩ := hW; have hA : DataW.TrodAll enc Try.prog W 0 (fun _ => true) true Try.f8.params.toList args.toList ds p := hA0; have hsz : (DataW.weightsEach Try.prog (Try.f8.params.toList ++ Rows.rulesEndsSpec.plain.varTypes Try.prog) (ds ++ gs)).all (· ≤ reachBytes) = true := hsz0; rw [Try.params8] at hA hval hsz; obtain ⟨v0, vs0, d0, ds0, p0, q0, hargs, rfl, rfl, h0, r0⟩ := trodAll_cons hA; obtain ⟨rfl, rfl, rfl⟩ := trodAll_nil r0; obtain rfl : args = #[v0] := by cases args; simp_all
 obtain ⟨rfl, rfl⟩ := trodVars_none hV; have hlt0 : ∀ x ∈ p0, x.block < W.heap.size := fun x hx => hW'.lt x (by simp [hx])
 have bk0 := fun (W' : World) (hb : Below W.heap.size W W') => Qb h0 hlt0 hb
 have wt0 : Wt 30 d0 := fun n hn => by
  have := List.all_eq_true.1 hsz _ (DataW.weights_mem_each (j := 0) (t := 30) (d := d0) rfl rfl n hn); simpa using this
 obtain ⟨s0, ns0, rfl, x0, y0, f0⟩ := Ou (hval 0 30 v0 rfl rfl) h0 wt0; clear hA0 hval0 hsz0; simp only [List.append_nil] at hW'; have hE := M9 hsh; refine (R9 s0 ns0 W ⟨x0, y0, fun V hV => hE.below hV, f0⟩).mono fun e W' ⟨he, hg⟩ => ?_
 subst he; refine ⟨_, rfl, _, _, _, [], (p0 ++ ([])), [], hW', ?_, ?_, rfl, hg.frame _, fun h => by cases h⟩
 ·exact trodAll_cons_mk (shut_bool Try.underlying4 _) trodAll_mk0
 ·exact (trodAll_cons_mk (bk0 _ hg) trodAll_mk0)
theorem proved : Rows.RulesEndsSaid :=
 OpenClaim.holds_of_wide 8 Try.f8 rfl rfl rfl rfl rfl rfl rfl ⟨rfl, rfl, rfl, rfl, rfl⟩ rfl rfl rfl rfl rfl (by kernel_rfl) Try.func8 (by kernel_rfl)
  (of_decide_eq_true (by kernel_rfl)) (by unfold Func.isWrapper; first | (rw [if_pos (by decide +kernel)]; kernel_rfl) | (rw [if_neg (by decide +kernel)]; exact ⟨rfl, rfl⟩))
  (fun os started H enc _ => lifted os started H enc)
#print axioms proved
end Go.Proofs.Ytpnbpepkoekkoaa.rulesEnds
end
namespace Go.Proofs.Ytpnbpepkoekkoaa
end Go.Proofs.Ytpnbpepkoekkoaa
