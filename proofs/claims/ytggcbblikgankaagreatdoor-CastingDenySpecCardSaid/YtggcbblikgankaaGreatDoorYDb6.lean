/- CastingDenySpec holds: for all arguments the law returns true, and they read as they did. No condition beyond the row's own. -/
import Derived.Test.YtggcbblikgankaaGreatDoorYDb6p4
import Derived.Test.YtggcbblikgankaaGreatDoorYDb6p1
import Derived.Test.YtggcbblikgankaaGreatDoorZ49
import Derived.Test.YtggcbblikgankaaGreatDoorTie
import Derived.Test.YtggcbblikgankaaGreatDoorCards
import Derived.SevenTiedAt
set_option linter.unusedVariables false
set_option linter.unusedSimpArgs false
section
namespace Go.Proofs.YtggcbblikgankaaGreatDoor.castingDenySpec
open Go.ChangeShapes Go.WideShapes Go.ChangeAt Go.RowKit
theorem own : ownKnob Tryz.prog.godebug = none := by kernel_rfl
set_option maxRecDepth 100000 in
theorem lifted (os : Os) (started : os.Started) (H : Type) (enc : TypeId × Value → H) :
  ReturnsInHanded {} Tryz.checked os 6 .any (fun w args => (Rows.castingDenySpecSpec.pre enc Tryz.prog Tryz.f6 Rows.castingDenySpecRow.domain false w args ∧ laidMet Tryz.prog laid2 w) ∧ sizedMet enc Tryz.prog Tryz.f6 (OpenSpec.ofChange Rows.castingDenySpecSpec) false w args)
   (Rows.castingDenySpecSpec.post enc Tryz.prog Tryz.f6 false true false false) := by
 refine returnsInHanded_of_change_and (C := Tryz.checked) (X := fun w _ => laidMet Tryz.prog laid2 w) (fun _ _ _ hh h => h.of_heap hh) own started (by kernel_rfl) Tryz.func6
  (ChangeSpec.witness_at (enc := enc) (C := Tryz.checked) (os := os) (X := fun w _ => laidMet Tryz.prog laid2 w) false (laidWorld os) #[.slice none 0 0, .slice none 0 0, .slice none 0 0] 8 rfl (by kernel_rfl) (by kernel_rfl) (by kernel_rfl) (by kernel_rfl) (by kernel_rfl) (laidWorld_met os _)) ?_
 intro W base args ds gs before hval0 hW hcnd hsz0 hL _
 have hval : ∀ (j : Nat) t v, Tryz.f6.params[j]? = some t → args[j]? = some v → Value.okWide Tryz.prog W .any base t v := hval0
 have hW' := hW
 obtain ⟨p, q, hA0, hV, rfl, hfz, hnd⟩ := hW
 have hA : DataW.TrodAll enc Tryz.prog W 0 (fun _ => true) true Tryz.f6.params.toList args.toList ds p := hA0
 rw [Tryz.params6] at hA hval
 obtain ⟨v0, vs0, d0, ds0, p0, q0, hargs, rfl, rfl, h0, r0⟩ := trodAll_cons hA
 obtain ⟨v1, vs1, d1, ds1, p1, q1, rfl, rfl, rfl, h1, r1⟩ := trodAll_cons r0
 obtain ⟨v2, vs2, d2, ds2, p2, q2, rfl, rfl, rfl, h2, r2⟩ := trodAll_cons r1
 obtain ⟨rfl, rfl, rfl⟩ := trodAll_nil r2
 obtain rfl : args = #[v0, v1, v2] := by cases args; simp_all
 obtain ⟨rfl, rfl⟩ := trodVars_none hV
 have hlt0 : ∀ x ∈ p0, x.block < W.heap.size := fun x hx => hW'.lt x (by simp [hx])
 have bk0 := fun (W' : World) (hb : Below W.heap.size W W') => back78 h0 hlt0 hb
 obtain ⟨c0, a0, m0, rfl, z0, x0, y0⟩ := open_mat (hval 0 50 v0 rfl rfl) h0
 have hlt1 : ∀ x ∈ p1, x.block < W.heap.size := fun x hx => hW'.lt x (by simp [hx])
 have bk1 := fun (W' : World) (hb : Below W.heap.size W W') => back79 h1 hlt1 hb
 obtain ⟨c1, a1, m1, rfl, z1, x1, y1⟩ := open_ints (hval 1 55 v1 rfl rfl) h1
 have hlt2 : ∀ x ∈ p2, x.block < W.heap.size := fun x hx => hW'.lt x (by simp [hx])
 have bk2 := fun (W' : World) (hb : Below W.heap.size W W') => back79 h2 hlt2 hb
 obtain ⟨c2, a2, m2, rfl, z2, x2, y2⟩ := open_ints (hval 2 55 v2 rfl rfl) h2
 clear hA0 hval0 hsz0
 simp only [List.append_nil] at hW'
 have hE := env_of_laid hL
 have hz := hE.size
 refine (spec6_any c0 a0 c0.length m0 rfl x0 y0 c1 c2 a1 a2 c1.length c2.length m1 m2 rfl rfl W hE hz z0 z1 z2).mono fun e W' ⟨he, hg⟩ => ?_
 subst he
 refine ⟨_, rfl, _, _, _, [], (p0 ++ (p1 ++ (p2 ++ []))), [], hW', ?_, ?_, rfl, hg.frame _, fun h => by cases h⟩
 ·exact trodAll_cons_mk (shut_bool Tryz.underlying4 _) trodAll_mk0
 ·exact (trodAll_cons_mk (bk0 _ hg) (trodAll_cons_mk (bk1 _ hg) (trodAll_cons_mk (bk2 _ hg) trodAll_mk0)))
theorem over : Rows.castingDenySpecRow.holds Tryz.pinned (OpenSpec.ofChange Rows.castingDenySpecSpec) :=
 OpenClaim.holds_of_wide 6 Tryz.f6 rfl rfl rfl rfl rfl rfl rfl ⟨rfl, rfl, rfl, rfl, rfl⟩ rfl rfl rfl rfl rfl (by kernel_rfl) Tryz.func6 (by kernel_rfl)
  (of_decide_eq_true (by kernel_rfl)) (by unfold Func.isWrapper; first | (rw [if_pos (by decide +kernel)]; kernel_rfl) | (rw [if_neg (by decide +kernel)]; exact ⟨rfl, rfl⟩))
  (fun os started H enc _ => lifted os started H enc)
theorem proved : Rows.CastingDenySpecCardSaid :=
 Claim7.holds_tied_plain_at .later [] [.data, .data] true (true, "efb5e71615a41d855022a83dffbc6523906ae4c7f97ae31cb28890da0a98abb0") true
  over (fun _ h => by cases h) (by kernel_rfl) (fun _ h => by cases h) castingDenySpec_row_tie rfl ⟨rfl, rfl⟩ (by kernel_rfl) rfl
  (fun f fn hf hfn => by
   obtain rfl : f = 6 := Option.some.inj ((show Tryz.prog.funcNamed "kinesphere/kinespherelaw47.CastingDenySpec" = some 6 by kernel_rfl).symm.trans hf) |>.symm
   obtain rfl : fn = Tryz.f6 := (Option.some.inj (Tryz.func6.symm.trans hfn)).symm
   exact ⟨by kernel_rfl, fun j t ht => by
    rw [Tryz.params6] at ht
    rcases j with _ | j
    ·obtain rfl : t = 50 := by simpa using ht.symm
     exact (show Tryz.prog.wantsStandIn 50 = false by kernel_rfl)
    rcases j with _ | j
    ·obtain rfl : t = 55 := by simpa using ht.symm
     exact (show Tryz.prog.wantsStandIn 55 = false by kernel_rfl)
    rcases j with _ | j
    ·obtain rfl : t = 55 := by simpa using ht.symm
     exact (show Tryz.prog.wantsStandIn 55 = false by kernel_rfl)
    ·simp at ht⟩)
  (by kernel_rfl)
#print axioms proved
end Go.Proofs.YtggcbblikgankaaGreatDoor.castingDenySpec
end
