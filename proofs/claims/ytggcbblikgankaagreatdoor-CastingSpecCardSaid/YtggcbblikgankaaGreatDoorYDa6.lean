/- CastingSpec holds: for all arguments the law returns true, and they read as they did. No condition beyond the row's own. -/
import Derived.Test.YtggcbblikgankaaGreatDoorYDa6p3
import Derived.Test.YtggcbblikgankaaGreatDoorZ49
import Derived.Test.YtggcbblikgankaaGreatDoorTie
import Derived.Test.YtggcbblikgankaaGreatDoorCards
import Derived.SevenTiedAt
set_option linter.unusedVariables false
set_option linter.unusedSimpArgs false
section
namespace Go.Proofs.YtggcbblikgankaaGreatDoor.castingSpec
open Go.ChangeShapes Go.WideShapes Go.ChangeAt Go.RowKit
theorem own : ownKnob Tryz.prog.godebug = none := by kernel_rfl
set_option maxRecDepth 100000 in
theorem lifted (os : Os) (started : os.Started) (H : Type) (enc : TypeId × Value → H) :
  ReturnsInHanded {} Tryz.checked os 5 .any (fun w args => (Rows.castingSpecSpec.pre enc Tryz.prog Tryz.f5 Rows.castingSpecRow.domain false w args ∧ laidMet Tryz.prog laid2 w) ∧ sizedMet enc Tryz.prog Tryz.f5 (OpenSpec.ofChange Rows.castingSpecSpec) false w args)
   (Rows.castingSpecSpec.post enc Tryz.prog Tryz.f5 false true false false) := by
 refine returnsInHanded_of_change_and (C := Tryz.checked) (X := fun w _ => laidMet Tryz.prog laid2 w) (fun _ _ _ hh h => h.of_heap hh) own started (by kernel_rfl) Tryz.func5
  (ChangeSpec.witness_at (enc := enc) (C := Tryz.checked) (os := os) (X := fun w _ => laidMet Tryz.prog laid2 w) false (laidWorld os) #[.slice none 0 0] 8 rfl (by kernel_rfl) (by kernel_rfl) (by kernel_rfl) (by kernel_rfl) (by kernel_rfl) (laidWorld_met os _)) ?_
 intro W base args ds gs before hval0 hW hcnd hsz0 hL _
 have hval : ∀ (j : Nat) t v, Tryz.f5.params[j]? = some t → args[j]? = some v → Value.okWide Tryz.prog W .any base t v := hval0
 have hW' := hW
 obtain ⟨p, q, hA0, hV, rfl, hfz, hnd⟩ := hW
 have hA : DataW.TrodAll enc Tryz.prog W 0 (fun _ => true) true Tryz.f5.params.toList args.toList ds p := hA0
 rw [Tryz.params5] at hA hval
 obtain ⟨v0, vs0, d0, ds0, p0, q0, hargs, rfl, rfl, h0, r0⟩ := trodAll_cons hA
 obtain ⟨rfl, rfl, rfl⟩ := trodAll_nil r0
 obtain rfl : args = #[v0] := by cases args; simp_all
 obtain ⟨rfl, rfl⟩ := trodVars_none hV
 have hlt0 : ∀ x ∈ p0, x.block < W.heap.size := fun x hx => hW'.lt x (by simp [hx])
 have bk0 := fun (W' : World) (hb : Below W.heap.size W W') => back78 h0 hlt0 hb
 obtain ⟨c0, a0, m0, rfl, z0, x0, y0⟩ := open_mat (hval 0 50 v0 rfl rfl) h0
 clear hA0 hval0 hsz0
 simp only [List.append_nil] at hW'
 have hE := env_of_laid hL
 have hz := hE.size
 refine (spec5_any c0 a0 c0.length m0 rfl x0 y0 W hE hz z0).mono fun e W' ⟨he, hg⟩ => ?_
 subst he
 refine ⟨_, rfl, _, _, _, [], (p0 ++ []), [], hW', ?_, ?_, rfl, hg.frame _, fun h => by cases h⟩
 ·exact trodAll_cons_mk (shut_bool Tryz.underlying4 _) trodAll_mk0
 ·exact (trodAll_cons_mk (bk0 _ hg) trodAll_mk0)
theorem over : Rows.castingSpecRow.holds Tryz.pinned (OpenSpec.ofChange Rows.castingSpecSpec) :=
 OpenClaim.holds_of_wide 5 Tryz.f5 rfl rfl rfl rfl rfl rfl rfl ⟨rfl, rfl, rfl, rfl, rfl⟩ rfl rfl rfl rfl rfl (by kernel_rfl) Tryz.func5 (by kernel_rfl)
  (of_decide_eq_true (by kernel_rfl)) (by unfold Func.isWrapper; first | (rw [if_pos (by decide +kernel)]; kernel_rfl) | (rw [if_neg (by decide +kernel)]; exact ⟨rfl, rfl⟩))
  (fun os started H enc _ => lifted os started H enc)
theorem proved : Rows.CastingSpecCardSaid :=
 Claim7.holds_tied_plain_at .later [] [.data, .data] true (true, "efb5e71615a41d855022a83dffbc6523906ae4c7f97ae31cb28890da0a98abb0") true
  over (fun _ h => by cases h) (by kernel_rfl) (fun _ h => by cases h) castingSpec_row_tie rfl ⟨rfl, rfl⟩ (by kernel_rfl) rfl
  (fun f fn hf hfn => by
   obtain rfl : f = 5 := Option.some.inj ((show Tryz.prog.funcNamed "kinesphere/kinespherelaw47.CastingSpec" = some 5 by kernel_rfl).symm.trans hf) |>.symm
   obtain rfl : fn = Tryz.f5 := (Option.some.inj (Tryz.func5.symm.trans hfn)).symm
   exact ⟨by kernel_rfl, fun j t ht => by
    rw [Tryz.params5] at ht
    rcases j with _ | j
    ·obtain rfl : t = 50 := by simpa using ht.symm
     exact (show Tryz.prog.wantsStandIn 50 = false by kernel_rfl)
    ·simp at ht⟩)
  (by kernel_rfl)
#print axioms proved
end Go.Proofs.YtggcbblikgankaaGreatDoor.castingSpec
end
