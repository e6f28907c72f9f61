/- NamesRename holds: for all arguments the law returns true, and they read as they did. No condition beyond the row's own. -/
import Derived.Test.YtpnbpepkoekkoaaYYR15p9
import Derived.Test.YtpnbpepkoekkoaaYYR15p10
import Derived.Test.YtpnbpepkoekkoaaRows
import Derived.ProofKit
set_option linter.unusedVariables false
set_option linter.unusedSimpArgs false
section
namespace Go.Proofs.Ytpnbpepkoekkoaa.namesRename
open Go.ChangeShapes Go.WideShapes Go.ChangeAt Go.RowKit
open Go.ChangeMaps (open_string shut_string)
theorem own : ownKnob Try.prog.godebug = none := by kernel_rfl
set_option maxRecDepth 100000 in
theorem lifted (os : Os) (started : os.Started) (H : Type) (enc : TypeId × Value → H) :
  ReturnsInHanded {} Try.checked os 4 .any (Rows.namesRenameSpec.pre6 enc Try.prog Try.f4 Rows.namesRenameRow.domain false) (Rows.namesRenameSpec.post enc Try.prog Try.f4 false true false false) := by
 refine returnsInHanded_of_change_shaped (C := Try.checked) own started (by kernel_rfl) Try.func4
  (ChangeSpec.witness6 (enc := enc) (C := Try.checked) false ⟨#[], #[.agg #[.string ⟨#[]⟩, .int .i64 0, .int .i64 0, .int .i64 0, .int .i64 0, .int .i64 0, .slice none 0 0, .slice none 0 0, .slice none 0 0, .slice none 0 0, .slice none 0 0, .slice none 0 0], .bool false, .int .u8 0, .string ByteArray.empty], []⟩ 8 (by kernel_rfl) (by kernel_rfl) (by kernel_rfl) (by kernel_rfl)) ?_
 intro W base args ds gs before hval0 hW hcnd hsz0 hsh _
 have hval : ∀ (j : Nat) t v, Try.f4.params[j]? = some t → args[j]? = some v → Value.okWide Try.prog W .any base t v := hval0
 have hW' := hW
 obtain ⟨p, q, hA0, hV, rfl, hfz, hnd⟩ := hW
 have hA : DataW.TrodAll enc Try.prog W 0 (fun _ => true) true Try.f4.params.toList args.toList ds p := hA0
 have hsz : (DataW.weightsEach Try.prog (Try.f4.params.toList ++ Rows.namesRenameSpec.plain.varTypes Try.prog) (ds ++ gs)).all (· ≤ reachBytes) = true := hsz0
 rw [Try.params4] at hA hval hsz
 obtain ⟨v0, vs0, d0, ds0, p0, q0, hargs, rfl, rfl, h0, r0⟩ := trodAll_cons hA
 obtain ⟨v1, vs1, d1, ds1, p1, q1, rfl, rfl, rfl, h1, r1⟩ := trodAll_cons r0
 obtain ⟨v2, vs2, d2, ds2, p2, q2, rfl, rfl, rfl, h2, r2⟩ := trodAll_cons r1
 obtain ⟨v3, vs3, d3, ds3, p3, q3, rfl, rfl, rfl, h3, r3⟩ := trodAll_cons r2
 obtain ⟨rfl, rfl, rfl⟩ := trodAll_nil r3
 obtain rfl : args = #[v0, v1, v2, v3] := by cases args; simp_all
 obtain ⟨rfl, rfl⟩ := trodVars_none hV
 have hlt0 : ∀ x ∈ p0, x.block < W.heap.size := fun x hx => hW'.lt x (by simp [hx])
 have bk0 := fun (W' : World) (hb : Below W.heap.size W W') => back30 h0 hlt0 hb
 have wt0 : Wt 30 d0 := fun n hn => by
  have := List.all_eq_true.1 hsz _ (DataW.weights_mem_each (j := 0) (t := 30) (d := d0) rfl rfl n hn)
  simpa using this
 obtain ⟨s0, ns0, rfl, x0, y0, f0⟩ := open_score (hval 0 30 v0 rfl rfl) h0 wt0
 have hlt1 : ∀ x ∈ p1, x.block < W.heap.size := fun x hx => hW'.lt x (by simp [hx])
 have bk1 := fun (W' : World) (hb : Below W.heap.size W W') => back4 h1 hlt1 hb
 obtain ⟨b1, rfl⟩ := open_bool (hval 1 4 v1 rfl rfl)
 have hlt2 : ∀ x ∈ p2, x.block < W.heap.size := fun x hx => hW'.lt x (by simp [hx])
 have bk2 := fun (W' : World) (hb : Below W.heap.size W W') => back5 h2 hlt2 hb
 obtain ⟨n2, rfl, z2⟩ := open_u8 (hval 2 5 v2 rfl rfl) h2
 obtain ⟨a3, rfl, rfl, rfl, w3⟩ := open_string Try.underlying9 (hval 3 9 v3 rfl rfl) h3
 have z3 : a3.size ≤ 140737488351232 := by
  have := sized_string (j := 3) (t := 9) hsz rfl rfl
  unfold reachBytes at this; simpa using this
 clear hA0 hval0 hsz0
 simp only [List.append_nil] at hW'
 have hE := env_of_shaped hsh
 refine (rename_any s0 ns0 W b1 n2 a3.data.toList ⟨x0, y0, fun V hV => hE.below hV, f0⟩ (score_len h0 wt0) z2).mono fun e W' ⟨he, hg⟩ => ?_
 subst he
 refine ⟨_, rfl, _, _, _, [], (p0 ++ (p1 ++ (p2 ++ ([] ++ ([]))))), [], hW', ?_, ?_, rfl, hg.frame _, fun h => by cases h⟩
 ·exact trodAll_cons_mk (shut_bool Try.underlying4 _) trodAll_mk0
 ·exact (trodAll_cons_mk (bk0 _ hg) (trodAll_cons_mk (bk1 _ hg) (trodAll_cons_mk (bk2 _ hg) (trodAll_cons_mk (shut_string Try.underlying9 w3) trodAll_mk0))))
theorem proved : Rows.NamesRenameSaid :=
 OpenClaim.holds_of_wide 4 Try.f4 rfl rfl rfl rfl rfl rfl rfl ⟨rfl, rfl, rfl, rfl, rfl⟩ rfl rfl rfl rfl rfl (by kernel_rfl) Try.func4 (by kernel_rfl)
  (of_decide_eq_true (by kernel_rfl)) (by unfold Func.isWrapper; first | (rw [if_pos (by decide +kernel)]; kernel_rfl) | (rw [if_neg (by decide +kernel)]; exact ⟨rfl, rfl⟩))
  (fun os started H enc _ => lifted os started H enc)
#print axioms proved
end Go.Proofs.Ytpnbpepkoekkoaa.namesRename
end
