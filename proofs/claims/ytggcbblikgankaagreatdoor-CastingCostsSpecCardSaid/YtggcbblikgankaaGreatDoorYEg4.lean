/- CastingCostsSpec holds: for all arguments the law returns true, and they read as they did. No condition beyond the row's own. -/
import Derived.Test.YtggcbblikgankaaGreatDoorYEg4p6
import Derived.Test.YtggcbblikgankaaGreatDoorYEg4p7
import Derived.Test.YtggcbblikgankaaGreatDoorZ32
import Derived.Test.YtggcbblikgankaaGreatDoorZ41
import Derived.Test.YtggcbblikgankaaGreatDoorTie
import Derived.Test.YtggcbblikgankaaGreatDoorCards
import Derived.SevenTiedAt
import Derived.Test.YtggcbblikgankaaGreatDoorZ3
set_option linter.unusedVariables false
set_option linter.unusedSimpArgs false
set_option maxRecDepth 100000
set_option maxHeartbeats 16000000
namespace Go.Proofs.YtggcbblikgankaaGreatDoor
open Go.Value (int)
open Go.IntKind (i64)
end Go.Proofs.YtggcbblikgankaaGreatDoor
section
open Go.Value (int)
open Go.IntKind (i64)
namespace Go.Proofs.YtggcbblikgankaaGreatDoor.castingCostsSpec
open Go.ChangeShapes Go.WideShapes Go.ChangeAt Go.RowKit
theorem own : ownKnob Tryz.prog.godebug = none := by kernel_rfl
theorem lifted (os : Os) (started : os.Started) (H : Type) (enc : TypeId × Value → H) :
  ReturnsInHanded {} Tryz.checked os 4 .any (fun w args => (Rows.castingCostsSpecSpec.pre enc Tryz.prog Tryz.f4 Rows.castingCostsSpecRow.domain false w args ∧ laidMet Tryz.prog Le w) ∧ sizedMet enc Tryz.prog Tryz.f4 (OpenSpec.ofChange Rows.castingCostsSpecSpec) false w args)
   (Rows.castingCostsSpecSpec.post enc Tryz.prog Tryz.f4 false true false false) := by
 refine returnsInHanded_of_change_and (C := Tryz.checked) (X := fun w _ => laidMet Tryz.prog Le w) (fun _ _ _ hh h => h.of_heap hh) own started (by kernel_rfl) Tryz.func4
  (ChangeSpec.witness_at (enc := enc) (C := Tryz.checked) (os := os) (X := fun w _ => laidMet Tryz.prog Le w) false (Ji os) #[T9, .slice none 0 0] 8 rfl (by kernel_rfl) (by kernel_rfl) (by kernel_rfl) (by kernel_rfl) (by kernel_rfl) (IF os _)) ?_
 intro W base args ds gs before hval0 hW hcnd hsz0 hL _
 have hval : ∀ (j : Nat) t v, Tryz.f4.params[j]? = some t → args[j]? = some v → Value.okWide Tryz.prog W .any base t v := hval0
 have hW' := hW
 obtain ⟨p, q, hA0, hV, rfl, hfz, hnd⟩ := hW
 have hA : DataW.TrodAll enc Tryz.prog W 0 (fun _ => true) true Tryz.f4.params.toList args.toList ds p := hA0
 rw [Tryz.params4] at hA hval
 obtain ⟨v0, vs0, d0, ds0, p0, q0, hargs, rfl, rfl, h0, r0⟩ := trodAll_cons hA
 obtain ⟨v1, vs1, d1, ds1, p1, q1, rfl, rfl, rfl, h1, r1⟩ := trodAll_cons r0
 obtain ⟨rfl, rfl, rfl⟩ := trodAll_nil r1
 obtain rfl : args = #[v0, v1] := by cases args; simp_all
 obtain ⟨rfl, rfl⟩ := trodVars_none hV
 have hlt0 : ∀ x ∈ p0, x.block < W.heap.size := fun x hx => hW'.lt x (by simp [hx])
 have bk0 := fun (W' : World) (hb : Below W.heap.size W W') => Sn h0 hlt0 hb
 obtain ⟨k0, ws0, rfl, i0⟩ := RK (hval 0 32 v0 rfl rfl) h0
 have hlt1 : ∀ x ∈ p1, x.block < W.heap.size := fun x hx => hW'.lt x (by simp [hx])
 have bk1 := fun (W' : World) (hb : Below W.heap.size W W') => So h1 hlt1 hb
 obtain ⟨c1, a1, m1, rfl, z1, x1⟩ := Ln (hval 1 48 v1 rfl rfl) h1
 clear hA0 hval0 hsz0
 simp only [List.append_nil] at hW'
 have hE := L1 hL
 have hz := hE.size
 refine (Po k0 ws0 c1 c1.length rfl x1 a1 m1 W hE hz i0 z1).mono fun e W' ⟨he, hg⟩ => ?_
 subst he
 refine ⟨_, rfl, _, _, _, [], (p0 ++ (p1 ++ [])), [], hW', ?_, ?_, rfl, hg.frame _, fun h => by cases h⟩
 ·exact trodAll_cons_mk (shut_bool Tryz.underlying4 _) trodAll_mk0
 ·exact (trodAll_cons_mk (bk0 _ hg) (trodAll_cons_mk (bk1 _ hg) trodAll_mk0))
theorem over : Rows.castingCostsSpecRow.holds Tryz.pinned (OpenSpec.ofChange Rows.castingCostsSpecSpec) :=
 OpenClaim.holds_of_wide 4 Tryz.f4 rfl rfl rfl rfl rfl rfl rfl ⟨rfl, rfl, rfl, rfl, rfl⟩ rfl rfl rfl rfl rfl (by kernel_rfl) Tryz.func4 (by kernel_rfl)
  (of_decide_eq_true (by kernel_rfl)) (by unfold Func.isWrapper; first | (rw [if_pos (by decide +kernel)]; kernel_rfl) | (rw [if_neg (by decide +kernel)]; exact ⟨rfl, rfl⟩))
  (fun os started H enc _ => lifted os started H enc)
theorem proved : Rows.CastingCostsSpecCardSaid :=
 Claim7.holds_tied_plain_at .later [] [.data, .data] true (true, "efb5e71615a41d855022a83dffbc6523906ae4c7f97ae31cb28890da0a98abb0") true
  over (fun _ h => by cases h) (by kernel_rfl) (fun _ h => by cases h) castingCostsSpec_row_tie rfl ⟨rfl, rfl⟩ (by kernel_rfl) rfl
  (fun f fn hf hfn => by
   obtain rfl : f = 4 := Option.some.inj ((show Tryz.prog.funcNamed "kinesphere/kinespherelaw47.CastingCostsSpec" = some 4 by kernel_rfl).symm.trans hf) |>.symm
   obtain rfl : fn = Tryz.f4 := (Option.some.inj (Tryz.func4.symm.trans hfn)).symm
   exact ⟨by kernel_rfl, fun j t ht => by
    rw [Tryz.params4] at ht
    rcases j with _ | j
    ·obtain rfl : t = 32 := by simpa using ht.symm
     exact (show Tryz.prog.wantsStandIn 32 = false by kernel_rfl)
    rcases j with _ | j
    ·obtain rfl : t = 48 := by simpa using ht.symm
     exact (show Tryz.prog.wantsStandIn 48 = false by kernel_rfl)
    ·simp at ht⟩)
  (by kernel_rfl)
#print axioms proved
end Go.Proofs.YtggcbblikgankaaGreatDoor.castingCostsSpec
end
namespace Go.Proofs.YtggcbblikgankaaGreatDoor
end Go.Proofs.YtggcbblikgankaaGreatDoor
