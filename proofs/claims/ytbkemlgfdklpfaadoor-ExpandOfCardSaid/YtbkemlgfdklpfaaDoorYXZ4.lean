/- ExpandOf holds: for all arguments the law returns true, and they read as they did. No condition beyond the row's own. -/
import Derived.Test.YtbkemlgfdklpfaaDoorYXZ4p1
import Derived.Test.YtbkemlgfdklpfaaDoorZ39
import Derived.Test.YtbkemlgfdklpfaaDoorTie
import Derived.Test.YtbkemlgfdklpfaaDoorCards
import Derived.SevenTiedAt
import Derived.Test.YtbkemlgfdklpfaaDoorZ4
set_option linter.unusedVariables false
set_option linter.unusedSimpArgs false
set_option maxRecDepth 100000
set_option maxHeartbeats 16000000
namespace Go.Proofs.YtbkemlgfdklpfaaDoor
open Go.Value (int)
open Go.IntKind (i64)
end Go.Proofs.YtbkemlgfdklpfaaDoor
section
open Go.Value (int)
open Go.IntKind (i64)
namespace Go.Proofs.YtbkemlgfdklpfaaDoor.expandOf
open Go.ChangeShapes Go.WideShapes Go.ChangeAt Go.RowKit
theorem own:ownKnob Tryd.prog.godebug=none:=by kernel_rfl
theorem lifted(os:Go.Os)(started:os.Started)(H:Type)(enc:TypeId×Value→H) :
  ReturnsInHanded {} Tryd.checked os 3 .any (λw args=>(Rows.expandOfSpec.pre enc Tryd.prog Tryd.f3 Rows.expandOfRow.domain false w args∧laidMet Tryd.prog SO w)∧sizedMet enc Tryd.prog Tryd.f3 (OpenSpec.ofChange Rows.expandOfSpec) false w args)
   (Rows.expandOfSpec.post enc Tryd.prog Tryd.f3 false true false false):=by
 refine Iv (C:=Tryd.checked) (X:=λw _=>laidMet Tryd.prog SO w) (λ_ _ _ hh h=>h.of_heap hh) own started (by kernel_rfl) Tryd.func3
  (ChangeSpec.witness_at (enc:=enc) (C:=Tryd.checked) (os:=os) (X:=λw _=>laidMet Tryd.prog SO w) false (NQ os) #[VP] 8 rfl (by kernel_rfl) (by kernel_rfl) (by kernel_rfl) (by kernel_rfl) (by kernel_rfl) (QJ os _)) ?_
 intro W base args ds gs before hB hW hJ hD hL hK _;have hC:∀(j:Nat) t v,Tryd.f3.params[j]?=some t→args[j]?=some v→Value.okWide Tryd.prog W .any base t v:=hB;have hF:=hW;obtain ⟨p,q,hH,hV,rfl,hO,hQ⟩:=hW;have hA:DataW.TrodAll enc Tryd.prog W 0 (λ_=>true) true Tryd.f3.params.toList args.toList ds p:=hH;rw [Tryd.params3] at hA hC;obtain ⟨v0,vs0,d0,ds0,p0,q0,hI,rfl,rfl,h0,r0⟩:=trodAll_cons hA;obtain ⟨rfl,rfl,rfl⟩:=trodAll_nil r0;obtain rfl:args=#[v0]:=by cases args;simp_all
 obtain ⟨rfl,rfl⟩:=trodVars_none hV;have hG:∀x∈p0,x.block<W.heap.size:=λx hx=>hF.lt x (by simp [hx])
 have bk0:=λ(W':World) (hb:Below W.heap.size W W')=>Vw h0 hG hb
 obtain ⟨wd,dp,ta,tb,tc,bars,aR,aT,aP,aX,aS,cR,cT,cP,cX,cS,rs,ts,ps,xs,ss,rfl,hR,hT,hP,hX,hS⟩:=Ui (hC 0 32 v0 rfl rfl) h0;clear hH hB hD;simp only [List.append_nil] at hF;have hM:=QI hK;have hN:=R8 hL
 have hE:∀V,Below W.heap.size W V→Env V∧EnvK V:=λV hV=>⟨hM.below hV,hN.below hV⟩
 refine (Wi wd dp ta tb tc bars aR aT aP aX aS cR cT cP cX cS rs ts ps xs ss W ⟨hR,hT,hP,hX,hS⟩ hE).mono λe W' ⟨he,hg⟩=>?_
 subst he;refine ⟨_,rfl,_,_,_,[],(p0++[]),[],hF,?_,?_,rfl,hg.frame _,λh=>by cases h⟩
 ·exact trodAll_cons_mk (shut_bool Tryd.underlying4 _) trodAll_mk0
 ·exact (trodAll_cons_mk (bk0 _ hg) trodAll_mk0)
theorem over:Rows.expandOfRow.holds Tryd.pinned (OpenSpec.ofChange Rows.expandOfSpec) :=
 OpenClaim.holds_of_wide 3 Tryd.f3 rfl rfl rfl rfl rfl rfl rfl ⟨rfl,rfl,rfl,rfl,rfl⟩ rfl rfl rfl rfl rfl (by kernel_rfl) Tryd.func3 (by kernel_rfl)
  (of_decide_eq_true (by kernel_rfl)) (by unfold Func.isWrapper;first|(rw [if_pos (by decide +kernel)];kernel_rfl)|(rw [if_neg (by decide +kernel)];exact ⟨rfl,rfl⟩))
  (λos started H enc _=>lifted os started H enc)
theorem proved:Rows.ExpandOfCardSaid :=
 Claim7.holds_tied_plain_at .later [] [.data] true (true, "10dc62613b983c88e0a4a58a984f89afa2a0b7349768cb26624e138448c0ecf0") true
  over (λ_ h=>by cases h) (by kernel_rfl) (λ_ h=>by cases h) expandOf_row_tie rfl ⟨rfl,rfl⟩ (by kernel_rfl) rfl
  (λf fn hf hA=>by
   obtain rfl : f = 3 := Option.some.inj ((show Tryd.prog.funcNamed "kinesphere/kinespherelaw19.ExpandOf" = some 3 by kernel_rfl).symm.trans hf) |>.symm
   obtain rfl:fn=Tryd.f3:=(Option.some.inj (Tryd.func3.symm.trans hA)).symm
   exact ⟨by kernel_rfl,λj t ht=>by
    rw [Tryd.params3] at ht;rcases j with _|j
    ·obtain rfl:t=32:=by simpa using ht.symm
     exact (show Tryd.prog.wantsStandIn 32=false by kernel_rfl)
    ·simp at ht⟩)
  (by kernel_rfl)
#print axioms proved
end Go.Proofs.YtbkemlgfdklpfaaDoor.expandOf
end
namespace Go.Proofs.YtbkemlgfdklpfaaDoor
end Go.Proofs.YtbkemlgfdklpfaaDoor
