/- RulesLoopSpec holds: for all arguments the law returns true, and they read as they did. No condition beyond the row's own. -/
import Derived.Test.YtpnbpepkoekkoaaGreatYFE4p1
import Derived.Test.YtpnbpepkoekkoaaGreatZ37
import Derived.Test.YtpnbpepkoekkoaaGreatRows
import Derived.ProofKit
import Derived.Test.YtpnbpepkoekkoaaGreatZ3
set_option linter.unusedVariables false
set_option linter.unusedSimpArgs false
set_option maxRecDepth 100000
set_option maxHeartbeats 16000000
namespace Go.Proofs.YtpnbpepkoekkoaaGreat
open Go.Value (int)
open Go.IntKind (i64)
end Go.Proofs.YtpnbpepkoekkoaaGreat
section
open Go.Value (int)
open Go.IntKind (i64)
namespace Go.Proofs.YtpnbpepkoekkoaaGreat.rulesLoopSpec
open Go.ChangeShapes Go.WideShapes Go.ChangeAt Go.RowKit
theorem own:ownKnob Tryz.prog.godebug=none:=by kernel_rfl
theorem lifted(os:Go.Os)(started:os.Started)(H:Type)(enc:TypeId×Value→H) :
  ReturnsInHanded {} Tryz.checked os 4 .any (Rows.rulesLoopSpecSpec.pre6 enc Tryz.prog Tryz.f4 Rows.rulesLoopSpecRow.domain false) (Rows.rulesLoopSpecSpec.post enc Tryz.prog Tryz.f4 false true false false):=by
 refine returnsInHanded_of_change_shaped (C:=Tryz.checked) own started (by kernel_rfl) Tryz.func4
  (ChangeSpec.witness6 (enc:=enc) (C:=Tryz.checked) false ⟨#[],#[.agg #[.string ⟨#[]⟩,int i64 0,int i64 0,int i64 0,int i64 0,int i64 0,.slice none 0 0,.slice none 0 0,.slice none 0 0,.slice none 0 0,.slice none 0 0,.slice none 0 0],int i64 0],[]⟩ 8 (by kernel_rfl) (by kernel_rfl) (by kernel_rfl) (by kernel_rfl)) ?_
 intro W base args ds gs before hB hW hL hD hM _;have hC:∀(j:Nat) t v,Tryz.f4.params[j]?=some t→args[j]?=some v→Value.okWide Tryz.prog W .any base t v:=hB;have hF:=hW;obtain ⟨p,q,hI,hV,rfl,hN,hO⟩:=hW;have hA:DataW.TrodAll enc Tryz.prog W 0 (λ_=>true) true Tryz.f4.params.toList args.toList ds p:=hI;have hJ:(DataW.weightsEach Tryz.prog (Tryz.f4.params.toList++Rows.rulesLoopSpecSpec.plain.varTypes Tryz.prog) (ds++gs)).all (·≤reachBytes)=true:=hD;rw [Tryz.params4] at hA hC hJ;obtain ⟨v0,vs0,d0,ds0,p0,q0,hK,rfl,rfl,h0,r0⟩:=trodAll_cons hA;obtain ⟨v1,vs1,d1,ds1,p1,q1,rfl,rfl,rfl,h1,r1⟩:=trodAll_cons r0;obtain ⟨rfl,rfl,rfl⟩:=trodAll_nil r1;obtain rfl:args=#[v0,v1]:=by cases args;simp_all
 obtain ⟨rfl,rfl⟩:=trodVars_none hV;have hG:∀x∈p0,x.block<W.heap.size:=λx hx=>hF.lt x (by simp [hx])
 have bk0:=λ(W':World) (hb:Below W.heap.size W W')=>Vp h0 hG hb
 have wt0:Wt 30 d0:=λn hn=>by
  have:=List.all_eq_true.1 hJ _ (DataW.weights_mem_each (j:=0) (t:=30) (d:=d0) rfl rfl n hn);simpa using this
 obtain ⟨s0,ns0,rfl,x0,y0,f0⟩:=Tt (hC 0 30 v0 rfl rfl) h0 wt0;have hH:∀x∈p1,x.block<W.heap.size:=λx hx=>hF.lt x (by simp [hx])
 have bk1:=λ(W':World) (hb:Below W.heap.size W W')=>Vv h1 hH hb
 obtain ⟨n1,rfl⟩:=UE (hC 1 3 v1 rfl rfl);clear hI hB hD;simp only [List.append_nil] at hF;have hE:=QJ hM;refine (Ha s0 ns0 n1 W ⟨x0,y0,λV hV=>hE.below hV,f0⟩).mono λe W' ⟨he,hg⟩=>?_
 subst he;refine ⟨_,rfl,_,_,_,[],(p0++(p1++([]))),[],hF,?_,?_,rfl,hg.frame _,λh=>by cases h⟩
 ·exact trodAll_cons_mk (shut_bool Tryz.underlying4 _) trodAll_mk0
 ·exact (trodAll_cons_mk (bk0 _ hg) (trodAll_cons_mk (bk1 _ hg) trodAll_mk0))
theorem proved:Rows.RulesLoopSpecSaid :=
 OpenClaim.holds_of_wide 4 Tryz.f4 rfl rfl rfl rfl rfl rfl rfl ⟨rfl,rfl,rfl,rfl,rfl⟩ rfl rfl rfl rfl rfl (by kernel_rfl) Tryz.func4 (by kernel_rfl)
  (of_decide_eq_true (by kernel_rfl)) (by unfold Func.isWrapper;first|(rw [if_pos (by decide +kernel)];kernel_rfl)|(rw [if_neg (by decide +kernel)];exact ⟨rfl,rfl⟩))
  (λos started H enc _=>lifted os started H enc)
#print axioms proved
end Go.Proofs.YtpnbpepkoekkoaaGreat.rulesLoopSpec
end
namespace Go.Proofs.YtpnbpepkoekkoaaGreat
end Go.Proofs.YtpnbpepkoekkoaaGreat
