/- RulesRepeat holds: for all arguments the law returns true, and they read as they did. No condition beyond the row's own. -/
import Derived.Test.YtpnbpepkoekkoaaYRRDp4
import Derived.Test.YtpnbpepkoekkoaaZ38
import Derived.Test.YtpnbpepkoekkoaaYRRDp1
import Derived.Test.YtpnbpepkoekkoaaYRRDp2
import Derived.Test.YtpnbpepkoekkoaaRows
import Derived.ProofKit
import Derived.Test.YtpnbpepkoekkoaaZ3
set_option linter.unusedVariables false
set_option linter.unusedSimpArgs false
set_option maxRecDepth 100000
set_option maxHeartbeats 16000000
namespace Go.Proofs.Ytpnbpepkoekkoaa
open Go.Value (int)
open Go.IntKind (i64)
end Go.Proofs.Ytpnbpepkoekkoaa
section
open Go.Value (int)
open Go.IntKind (i64)
namespace Go.Proofs.Ytpnbpepkoekkoaa.rulesRepeat
open Go.ChangeShapes Go.WideShapes Go.ChangeAt Go.RowKit
theorem own : ownKnob Try.prog.godebug = none := by kernel_rfl
theorem lifted (os : Go.Os) (started : os.Started) (H : Type) (enc : TypeId × Value → H) :
  ReturnsInHanded {} Try.checked os 11 .any (Rows.rulesRepeatSpec.pre6 enc Try.prog Try.f11 Rows.rulesRepeatRow.domain false) (Rows.rulesRepeatSpec.post enc Try.prog Try.f11 false true false false) := by
 refine returnsInHanded_of_change_shaped (C := Try.checked) own started (by kernel_rfl) Try.func11
  (ChangeSpec.witness6 (enc := enc) (C := Try.checked) false ⟨#[], #[.agg #[.string ⟨#[]⟩, int i64 0, int i64 0, int i64 0, int i64 0, int i64 0, .slice none 0 0, .slice none 0 0, .slice none 0 0, .slice none 0 0, .slice none 0 0, .slice none 0 0], .int .u8 0, .int .u8 0], []⟩ 8 (by kernel_rfl) (by kernel_rfl) (by kernel_rfl) (by kernel_rfl)) ?_
 intro W base args ds gs before hval0 hW hcnd hsz0 hsh _; have hval : ∀ (j : Nat) t v, Try.f11.params[j]? = some t → args[j]? = some v → Value.okWide Try.prog W .any base t v := hval0; have hW' := hW; obtain ⟨p, q, hA0, hV, rfl, hfz, hnd⟩ := hW; have hA : DataW.TrodAll enc Try.prog W 0 (fun _ => true) true Try.f11.params.toList args.toList ds p := hA0; have hsz : (DataW.weightsEach Try.prog (Try.f11.params.toList ++ Rows.rulesRepeatSpec.plain.varTypes Try.prog) (ds ++ gs)).all (· ≤ reachBytes) = true := hsz0; rw [Try.params11] at hA hval hsz; obtain ⟨v0, vs0, d0, ds0, p0, q0, hargs, rfl, rfl, h0, r0⟩ := trodAll_cons hA; obtain ⟨v1, vs1, d1, ds1, p1, q1, rfl, rfl, rfl, h1, r1⟩ := trodAll_cons r0; obtain ⟨v2, vs2, d2, ds2, p2, q2, rfl, rfl, rfl, h2, r2⟩ := trodAll_cons r1; obtain ⟨rfl, rfl, rfl⟩ := trodAll_nil r2; obtain rfl : args = #[v0, v1, v2] := by cases args; simp_all
 obtain ⟨rfl, rfl⟩ := trodVars_none hV; have hlt0 : ∀ x ∈ p0, x.block < W.heap.size := fun x hx => hW'.lt x (by simp [hx])
 have bk0 := fun (W' : World) (hb : Below W.heap.size W W') => Qb h0 hlt0 hb
 have wt0 : Wt 30 d0 := fun n hn => by
  have := List.all_eq_true.1 hsz _ (DataW.weights_mem_each (j := 0) (t := 30) (d := d0) rfl rfl n hn); simpa using this
 obtain ⟨s0, ns0, rfl, x0, y0, f0⟩ := Ou (hval 0 30 v0 rfl rfl) h0 wt0; have hlt1 : ∀ x ∈ p1, x.block < W.heap.size := fun x hx => hW'.lt x (by simp [hx])
 have bk1 := fun (W' : World) (hb : Below W.heap.size W W') => Qm h1 hlt1 hb
 obtain ⟨n1, rfl, z1⟩ := PY (hval 1 5 v1 rfl rfl) h1; have hlt2 : ∀ x ∈ p2, x.block < W.heap.size := fun x hx => hW'.lt x (by simp [hx])
 have bk2 := fun (W' : World) (hb : Below W.heap.size W W') => Qm h2 hlt2 hb
 obtain ⟨n2, rfl, z2⟩ := PY (hval 2 5 v2 rfl rfl) h2; clear hA0 hval0 hsz0; simp only [List.append_nil] at hW'; have hE := M9 hsh; refine (RH s0 ns0 W n1 n2 ⟨x0, y0, fun V hV => hE.below hV, f0⟩ z1 z2).mono fun e W' ⟨he, hg⟩ => ?_
 subst he; refine ⟨_, rfl, _, _, _, [], (p0 ++ (p1 ++ (p2 ++ ([])))), [], hW', ?_, ?_, rfl, hg.frame _, fun h => by cases h⟩
 ·exact trodAll_cons_mk (shut_bool Try.underlying4 _) trodAll_mk0
 ·exact (trodAll_cons_mk (bk0 _ hg) (trodAll_cons_mk (bk1 _ hg) (trodAll_cons_mk (bk2 _ hg) trodAll_mk0)))
theorem proved : Rows.RulesRepeatSaid :=
 OpenClaim.holds_of_wide 11 Try.f11 rfl rfl rfl rfl rfl rfl rfl ⟨rfl, rfl, rfl, rfl, rfl⟩ rfl rfl rfl rfl rfl (by kernel_rfl) Try.func11 (by kernel_rfl)
  (of_decide_eq_true (by kernel_rfl)) (by unfold Func.isWrapper; first | (rw [if_pos (by decide +kernel)]; kernel_rfl) | (rw [if_neg (by decide +kernel)]; exact ⟨rfl, rfl⟩))
  (fun os started H enc _ => lifted os started H enc)
#print axioms proved
end Go.Proofs.Ytpnbpepkoekkoaa.rulesRepeat
end
namespace Go.Proofs.Ytpnbpepkoekkoaa
end Go.Proofs.Ytpnbpepkoekkoaa
