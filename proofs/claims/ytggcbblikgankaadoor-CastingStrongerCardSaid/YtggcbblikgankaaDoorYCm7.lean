/- CastingStronger holds: for all arguments the law returns true, and they read as they did. No condition beyond the row's own. -/
import Derived.Test.YtggcbblikgankaaDoorYCm7p4
import Derived.Test.YtggcbblikgankaaDoorYCm7p1
import Derived.Test.YtggcbblikgankaaDoorZ49
import Derived.Test.YtggcbblikgankaaDoorZ38
import Derived.Test.YtggcbblikgankaaDoorTie
import Derived.Test.YtggcbblikgankaaDoorCards
import Derived.SevenTiedAt
set_option linter.unusedVariables false
set_option linter.unusedSimpArgs false
section
namespace Go.Proofs.YtggcbblikgankaaDoor.castingStronger
open Go.ChangeShapes Go.WideShapes Go.ChangeAt Go.RowKit
theorem own : ownKnob Tryd.prog.godebug = none := by kernel_rfl
set_option maxRecDepth 100000 in
theorem lifted (os : Os) (started : os.Started) (H : Type) (enc : TypeId × Value → H) :
  ReturnsInHanded {} Tryd.checked os 12 .any (fun w args => (Rows.castingStrongerSpec.pre enc Tryd.prog Tryd.f12 Rows.castingStrongerRow.domain false w args ∧ laidMet Tryd.prog laid2 w) ∧ sizedMet enc Tryd.prog Tryd.f12 (OpenSpec.ofChange Rows.castingStrongerSpec) false w args)
   (Rows.castingStrongerSpec.post enc Tryd.prog Tryd.f12 false true false false) := by
 refine returnsInHanded_of_change_and (C := Tryd.checked) (X := fun w _ => laidMet Tryd.prog laid2 w) (fun _ _ _ hh h => h.of_heap hh) own started (by kernel_rfl) Tryd.func12
  (ChangeSpec.witness_at (enc := enc) (C := Tryd.checked) (os := os) (X := fun w _ => laidMet Tryd.prog laid2 w) false (laidWorld os) #[wrk0, .slice none 0 0, .int .u8 0, bod0] 8 rfl (by kernel_rfl) (by kernel_rfl) (by kernel_rfl) (by kernel_rfl) (by kernel_rfl) (laidWorld_met os _)) ?_
 intro W base args ds gs before hval0 hW hcnd hsz0 hL _
 have hval : ∀ (j : Nat) t v, Tryd.f12.params[j]? = some t → args[j]? = some v → Value.okWide Tryd.prog W .any base t v := hval0
 have hW' := hW
 obtain ⟨p, q, hA0, hV, rfl, hfz, hnd⟩ := hW
 have hA : DataW.TrodAll enc Tryd.prog W 0 (fun _ => true) true Tryd.f12.params.toList args.toList ds p := hA0
 rw [Tryd.params12] at hA hval
 obtain ⟨v0, vs0, d0, ds0, p0, q0, hargs, rfl, rfl, h0, r0⟩ := trodAll_cons hA
 obtain ⟨v1, vs1, d1, ds1, p1, q1, rfl, rfl, rfl, h1, r1⟩ := trodAll_cons r0
 obtain ⟨v2, vs2, d2, ds2, p2, q2, rfl, rfl, rfl, h2, r2⟩ := trodAll_cons r1
 obtain ⟨v3, vs3, d3, ds3, p3, q3, rfl, rfl, rfl, h3, r3⟩ := trodAll_cons r2
 obtain ⟨rfl, rfl, rfl⟩ := trodAll_nil r3
 obtain rfl : args = #[v0, v1, v2, v3] := by cases args; simp_all
 obtain ⟨rfl, rfl⟩ := trodVars_none hV
 have hlt0 : ∀ x ∈ p0, x.block < W.heap.size := fun x hx => hW'.lt x (by simp [hx])
 have bk0 := fun (W' : World) (hb : Below W.heap.size W W') => back32 h0 hlt0 hb
 obtain ⟨k0, ws0, rfl, i0⟩ := open_wk (hval 0 32 v0 rfl rfl) h0
 have hlt1 : ∀ x ∈ p1, x.block < W.heap.size := fun x hx => hW'.lt x (by simp [hx])
 have bk1 := fun (W' : World) (hb : Below W.heap.size W W') => back93 h1 hlt1 hb
 obtain ⟨c1, a1, m1, rfl, z1, x1⟩ := open_bodies (hval 1 93 v1 rfl rfl) h1
 have hlt2 : ∀ x ∈ p2, x.block < W.heap.size := fun x hx => hW'.lt x (by simp [hx])
 have bk2 := fun (W' : World) (hb : Below W.heap.size W W') => back5 h2 hlt2 hb
 obtain ⟨n2, rfl, z2⟩ := open_u8 (hval 2 5 v2 rfl rfl) h2
 have hlt3 : ∀ x ∈ p3, x.block < W.heap.size := fun x hx => hW'.lt x (by simp [hx])
 have bk3 := fun (W' : World) (hb : Below W.heap.size W W') => back36 h3 hlt3 hb
 obtain ⟨b3, rfl, z3⟩ := open_body (hval 3 36 v3 rfl rfl) h3
 clear hA0 hval0 hsz0
 simp only [List.append_nil] at hW'
 have hE := env_of_laid hL
 have hz := hE.size
 refine (strong12_any k0 c1 _ rfl x1 ws0 a1 m1 n2 z2 b3 z3 W hE hz i0 z1).mono fun e W' ⟨he, hg⟩ => ?_
 subst he
 refine ⟨_, rfl, _, _, _, [], (p0 ++ (p1 ++ (p2 ++ (p3 ++ [])))), [], hW', ?_, ?_, rfl, hg.frame _, fun h => by cases h⟩
 ·exact trodAll_cons_mk (shut_bool Tryd.underlying4 _) trodAll_mk0
 ·exact (trodAll_cons_mk (bk0 _ hg) (trodAll_cons_mk (bk1 _ hg) (trodAll_cons_mk (bk2 _ hg) (trodAll_cons_mk (bk3 _ hg) trodAll_mk0))))
theorem over : Rows.castingStrongerRow.holds Tryd.pinned (OpenSpec.ofChange Rows.castingStrongerSpec) :=
 OpenClaim.holds_of_wide 12 Tryd.f12 rfl rfl rfl rfl rfl rfl rfl ⟨rfl, rfl, rfl, rfl, rfl⟩ rfl rfl rfl rfl rfl (by kernel_rfl) Tryd.func12 (by kernel_rfl)
  (of_decide_eq_true (by kernel_rfl)) (by unfold Func.isWrapper; first | (rw [if_pos (by decide +kernel)]; kernel_rfl) | (rw [if_neg (by decide +kernel)]; exact ⟨rfl, rfl⟩))
  (fun os started H enc _ => lifted os started H enc)
theorem proved : Rows.CastingStrongerCardSaid :=
 Claim7.holds_tied_plain_at .later [] [.data, .data] true (true, "240339f6024a10cf4d2c22ba862e9da7cc92efcce978b6fec993c7398a58cc4e") true
  over (fun _ h => by cases h) (by kernel_rfl) (fun _ h => by cases h) castingStronger_row_tie rfl ⟨rfl, rfl⟩ (by kernel_rfl) rfl
  (fun f fn hf hfn => by
   obtain rfl : f = 12 := Option.some.inj ((show Tryd.prog.funcNamed "kinesphere/kinespherelaw47.CastingStronger" = some 12 by kernel_rfl).symm.trans hf) |>.symm
   obtain rfl : fn = Tryd.f12 := (Option.some.inj (Tryd.func12.symm.trans hfn)).symm
   exact ⟨by kernel_rfl, fun j t ht => by
    rw [Tryd.params12] at ht
    rcases j with _ | j
    ·obtain rfl : t = 32 := by simpa using ht.symm
     exact (show Tryd.prog.wantsStandIn 32 = false by kernel_rfl)
    rcases j with _ | j
    ·obtain rfl : t = 93 := by simpa using ht.symm
     exact (show Tryd.prog.wantsStandIn 93 = false by kernel_rfl)
    rcases j with _ | j
    ·obtain rfl : t = 5 := by simpa using ht.symm
     exact (show Tryd.prog.wantsStandIn 5 = false by kernel_rfl)
    rcases j with _ | j
    ·obtain rfl : t = 36 := by simpa using ht.symm
     exact (show Tryd.prog.wantsStandIn 36 = false by kernel_rfl)
    ·simp at ht⟩)
  (by kernel_rfl)
#print axioms proved
end Go.Proofs.YtggcbblikgankaaDoor.castingStronger
end
