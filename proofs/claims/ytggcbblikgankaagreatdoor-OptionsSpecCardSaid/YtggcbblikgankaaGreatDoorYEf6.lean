/- OptionsSpec holds: for all arguments the law returns true, and they read as they did. No condition beyond the row's own. -/
import Derived.Test.YtggcbblikgankaaGreatDoorYEf6p8
import Derived.Test.YtggcbblikgankaaGreatDoorYEf6p9
import Derived.Test.YtggcbblikgankaaGreatDoorZ39
import Derived.Test.YtggcbblikgankaaGreatDoorTie
import Derived.Test.YtggcbblikgankaaGreatDoorCards
import Derived.SevenTiedAt
set_option linter.unusedVariables false
set_option linter.unusedSimpArgs false
section
namespace Go.Proofs.YtggcbblikgankaaGreatDoor.optionsSpec
open Go.ChangeShapes Go.WideShapes Go.ChangeAt Go.RowKit
theorem own : ownKnob Tryz.prog.godebug = none := by kernel_rfl
set_option maxRecDepth 100000 in
theorem lifted (os : Os) (started : os.Started) (H : Type) (enc : TypeId × Value → H) :
  ReturnsInHanded {} Tryz.checked os 3 .any (fun w args => (Rows.optionsSpecSpec.pre enc Tryz.prog Tryz.f3 Rows.optionsSpecRow.domain false w args ∧ laidMet Tryz.prog laid2 w) ∧ sizedMet enc Tryz.prog Tryz.f3 (OpenSpec.ofChange Rows.optionsSpecSpec) false w args)
   (Rows.optionsSpecSpec.post enc Tryz.prog Tryz.f3 false true false false) := by
 refine returnsInHanded_of_change_and (C := Tryz.checked) (X := fun w _ => laidMet Tryz.prog laid2 w) (fun _ _ _ hh h => h.of_heap hh) own started (by kernel_rfl) Tryz.func3
  (ChangeSpec.witness_at (enc := enc) (C := Tryz.checked) (os := os) (X := fun w _ => laidMet Tryz.prog laid2 w) false (laidWorld os) #[wrk0, .int .i64 0, bod0, .agg #[.int .i64 0, .int .i64 0, .int .i64 0, .bool false]] 8 rfl (by kernel_rfl) (by kernel_rfl) (by kernel_rfl) (by kernel_rfl) (by kernel_rfl) (laidWorld_met os _)) ?_
 intro W base args ds gs before hval0 hW hcnd hsz0 hL _
 have hval : ∀ (j : Nat) t v, Tryz.f3.params[j]? = some t → args[j]? = some v → Value.okWide Tryz.prog W .any base t v := hval0
 have hW' := hW
 obtain ⟨p, q, hA0, hV, rfl, hfz, hnd⟩ := hW
 have hA : DataW.TrodAll enc Tryz.prog W 0 (fun _ => true) true Tryz.f3.params.toList args.toList ds p := hA0
 rw [Tryz.params3] at hA hval
 obtain ⟨v0, vs0, d0, ds0, p0, q0, hargs, rfl, rfl, h0, r0⟩ := trodAll_cons hA
 obtain ⟨v1, vs1, d1, ds1, p1, q1, rfl, rfl, rfl, h1, r1⟩ := trodAll_cons r0
 obtain ⟨v2, vs2, d2, ds2, p2, q2, rfl, rfl, rfl, h2, r2⟩ := trodAll_cons r1
 obtain ⟨v3, vs3, d3, ds3, p3, q3, rfl, rfl, rfl, h3, r3⟩ := trodAll_cons r2
 obtain ⟨rfl, rfl, rfl⟩ := trodAll_nil r3
 obtain rfl : args = #[v0, v1, v2, v3] := by cases args; simp_all
 obtain ⟨rfl, rfl⟩ := trodVars_none hV
 have hlt0 : ∀ x ∈ p0, x.block < W.heap.size := fun x hx => hW'.lt x (by simp [hx])
 have bk0 := fun (W' : World) (hb : Below W.heap.size W W') => back32 h0 hlt0 hb
 obtain ⟨k0, ws0, rfl, i0⟩ := open_wk (hval 0 32 v0 rfl rfl) h0
 have hlt1 : ∀ x ∈ p1, x.block < W.heap.size := fun x hx => hW'.lt x (by simp [hx])
 have bk1 := fun (W' : World) (hb : Below W.heap.size W W') => back3A h1 hlt1 hb
 obtain ⟨n1, rfl⟩ := open_int (hval 1 3 v1 rfl rfl) h1
 have hlt2 : ∀ x ∈ p2, x.block < W.heap.size := fun x hx => hW'.lt x (by simp [hx])
 have bk2 := fun (W' : World) (hb : Below W.heap.size W W') => back36 h2 hlt2 hb
 obtain ⟨b2, rfl, z2⟩ := open_body (hval 2 35 v2 rfl rfl) h2
 have hlt3 : ∀ x ∈ p3, x.block < W.heap.size := fun x hx => hW'.lt x (by simp [hx])
 have bk3 := fun (W' : World) (hb : Below W.heap.size W W') => back37A h3 hlt3 hb
 obtain ⟨rr3, rfl⟩ := open_rea (hval 3 37 v3 rfl rfl) h3
 clear hA0 hval0 hsz0
 simp only [List.append_nil] at hW'
 have hE := env_of_laid hL
 have hz := hE.size
 refine (spec3_any k0 ws0 n1 b2 z2 rr3 W hE hz i0).mono fun e W' ⟨he, hg⟩ => ?_
 subst he
 refine ⟨_, rfl, _, _, _, [], (p0 ++ (p1 ++ (p2 ++ (p3 ++ [])))), [], hW', ?_, ?_, rfl, hg.frame _, fun h => by cases h⟩
 ·exact trodAll_cons_mk (shut_bool Tryz.underlying4 _) trodAll_mk0
 ·exact (trodAll_cons_mk (bk0 _ hg) (trodAll_cons_mk (bk1 _ hg) (trodAll_cons_mk (bk2 _ hg) (trodAll_cons_mk (bk3 _ hg) trodAll_mk0))))
theorem over : Rows.optionsSpecRow.holds Tryz.pinned (OpenSpec.ofChange Rows.optionsSpecSpec) :=
 OpenClaim.holds_of_wide 3 Tryz.f3 rfl rfl rfl rfl rfl rfl rfl ⟨rfl, rfl, rfl, rfl, rfl⟩ rfl rfl rfl rfl rfl (by kernel_rfl) Tryz.func3 (by kernel_rfl)
  (of_decide_eq_true (by kernel_rfl)) (by unfold Func.isWrapper; first | (rw [if_pos (by decide +kernel)]; kernel_rfl) | (rw [if_neg (by decide +kernel)]; exact ⟨rfl, rfl⟩))
  (fun os started H enc _ => lifted os started H enc)
theorem proved : Rows.OptionsSpecCardSaid :=
 Claim7.holds_tied_plain_at .later [] [.data, .data] true (true, "efb5e71615a41d855022a83dffbc6523906ae4c7f97ae31cb28890da0a98abb0") true
  over (fun _ h => by cases h) (by kernel_rfl) (fun _ h => by cases h) optionsSpec_row_tie rfl ⟨rfl, rfl⟩ (by kernel_rfl) rfl
  (fun f fn hf hfn => by
   obtain rfl : f = 3 := Option.some.inj ((show Tryz.prog.funcNamed "kinesphere/kinespherelaw30.OptionsSpec" = some 3 by kernel_rfl).symm.trans hf) |>.symm
   obtain rfl : fn = Tryz.f3 := (Option.some.inj (Tryz.func3.symm.trans hfn)).symm
   exact ⟨by kernel_rfl, fun j t ht => by
    rw [Tryz.params3] at ht
    rcases j with _ | j
    ·obtain rfl : t = 32 := by simpa using ht.symm
     exact (show Tryz.prog.wantsStandIn 32 = false by kernel_rfl)
    rcases j with _ | j
    ·obtain rfl : t = 3 := by simpa using ht.symm
     exact (show Tryz.prog.wantsStandIn 3 = false by kernel_rfl)
    rcases j with _ | j
    ·obtain rfl : t = 35 := by simpa using ht.symm
     exact (show Tryz.prog.wantsStandIn 35 = false by kernel_rfl)
    rcases j with _ | j
    ·obtain rfl : t = 37 := by simpa using ht.symm
     exact (show Tryz.prog.wantsStandIn 37 = false by kernel_rfl)
    ·simp at ht⟩)
  (by kernel_rfl)
#print axioms proved
end Go.Proofs.YtggcbblikgankaaGreatDoor.optionsSpec
end
