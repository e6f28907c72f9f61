/- ExpandSpoiled holds: for all arguments the law returns true, and they read as they did. No condition beyond the row's own. -/
import Derived.Test.YtbkemlgfdklpfaaDoorYXY8p1
import Derived.Test.YtbkemlgfdklpfaaDoorZ39
import Derived.Test.YtbkemlgfdklpfaaDoorTie
import Derived.Test.YtbkemlgfdklpfaaDoorCards
import Derived.SevenTiedAt
import Derived.Test.YtbkemlgfdklpfaaDoorZ4
set_option linter.unusedVariables false
set_option linter.unusedSimpArgs false
set_option maxRecDepth 100000
set_option maxHeartbeats 16000000
namespace Go.Proofs.YtbkemlgfdklpfaaDoor
open Go.Value (int)
open Go.IntKind (i64)
end Go.Proofs.YtbkemlgfdklpfaaDoor
section
open Go.Value (int)
open Go.IntKind (i64)
namespace Go.Proofs.YtbkemlgfdklpfaaDoor.expandSpoiled
open Go.ChangeShapes Go.WideShapes Go.ChangeAt Go.RowKit
theorem own:ownKnob Tryd.prog.godebug=none:=by kernel_rfl
theorem lifted(os:Go.Os)(started:os.Started)(H:Type)(enc:TypeId×Value→H) :
  ReturnsInHanded {} Tryd.checked os 4 .any (λw args=>(Rows.expandSpoiledSpec.pre enc Tryd.prog Tryd.f4 Rows.expandSpoiledRow.domain false w args∧laidMet Tryd.prog SO w)∧sizedMet enc Tryd.prog Tryd.f4 (OpenSpec.ofChange Rows.expandSpoiledSpec) false w args)
   (Rows.expandSpoiledSpec.post enc Tryd.prog Tryd.f4 false true false false):=by
 refine Iv (C:=Tryd.checked) (X:=λw _=>laidMet Tryd.prog SO w) (λ_ _ _ hh h=>h.of_heap hh) own started (by kernel_rfl) Tryd.func4
  (ChangeSpec.witness_at (enc:=enc) (C:=Tryd.checked) (os:=os) (X:=λw _=>laidMet Tryd.prog SO w) false (NQ os) #[VP,.int .u8 0,.int .u8 0] 8 rfl (by kernel_rfl) (by kernel_rfl) (by kernel_rfl) (by kernel_rfl) (by kernel_rfl) (QJ os _)) ?_
 intro W base args ds gs before hC hW hM hF hL hN _;have hB:∀(j:Nat) t v,Tryd.f4.params[j]?=some t→args[j]?=some v→Value.okWide Tryd.prog W .any base t v:=hC;have hD:=hW;obtain ⟨p,q,hJ,hV,rfl,hU,hY⟩:=hW;have hA:DataW.TrodAll enc Tryd.prog W 0 (λ_=>true) true Tryd.f4.params.toList args.toList ds p:=hJ;rw [Tryd.params4] at hA hB;obtain ⟨v0,vs0,d0,ds0,p0,q0,hK,rfl,rfl,h0,r0⟩:=trodAll_cons hA;obtain ⟨v1,vs1,d1,ds1,p1,q1,rfl,rfl,rfl,h1,r1⟩:=trodAll_cons r0;obtain ⟨v2,vs2,d2,ds2,p2,q2,rfl,rfl,rfl,h2,r2⟩:=trodAll_cons r1;obtain ⟨rfl,rfl,rfl⟩:=trodAll_nil r2;obtain rfl:args=#[v0,v1,v2]:=by cases args;simp_all
 obtain ⟨rfl,rfl⟩:=trodVars_none hV;have hG:∀x∈p0,x.block<W.heap.size:=λx hx=>hD.lt x (by simp [hx])
 have bk0:=λ(W':World) (hb:Below W.heap.size W W')=>Vw h0 hG hb
 obtain ⟨wd,dp,ta,tb,tc,bars,aR,aT,aP,aX,aS,cR,cT,cP,cX,cS,rs,ts,ps,xs,ss,rfl,hR,hT,hP,hX,hS⟩:=Ui (hB 0 32 v0 rfl rfl) h0;have hH:∀x∈p1,x.block<W.heap.size:=λx hx=>hD.lt x (by simp [hx])
 have bk1:=λ(W':World) (hb:Below W.heap.size W W')=>VO h1 hH hb
 obtain ⟨n1,rfl,z1⟩:=Vq (hB 1 5 v1 rfl rfl) h1;have hI:∀x∈p2,x.block<W.heap.size:=λx hx=>hD.lt x (by simp [hx])
 have bk2:=λ(W':World) (hb:Below W.heap.size W W')=>VO h2 hI hb
 obtain ⟨n2,rfl,z2⟩:=Vq (hB 2 5 v2 rfl rfl) h2;clear hJ hC hF;simp only [List.append_nil] at hD;have hO:=QI hN;have hQ:=R8 hL
 have hE:∀V,Below W.heap.size W V→Env V∧EnvK V:=λV hV=>⟨hO.below hV,hQ.below hV⟩
 refine (Hu wd dp ta tb tc bars aR aT aP aX aS cR cT cP cX cS rs ts ps xs ss n1 n2 W ⟨hR,hT,hP,hX,hS⟩ hE z1 z2).mono λe W' ⟨he,hg⟩=>?_
 subst he;refine ⟨_,rfl,_,_,_,[],(p0++(p1++(p2++[]))),[],hD,?_,?_,rfl,hg.frame _,λh=>by cases h⟩
 ·exact trodAll_cons_mk (shut_bool Tryd.underlying4 _) trodAll_mk0
 ·exact (trodAll_cons_mk (bk0 _ hg) (trodAll_cons_mk (bk1 _ hg) (trodAll_cons_mk (bk2 _ hg) trodAll_mk0)))
theorem over:Rows.expandSpoiledRow.holds Tryd.pinned (OpenSpec.ofChange Rows.expandSpoiledSpec) :=
 OpenClaim.holds_of_wide 4 Tryd.f4 rfl rfl rfl rfl rfl rfl rfl ⟨rfl,rfl,rfl,rfl,rfl⟩ rfl rfl rfl rfl rfl (by kernel_rfl) Tryd.func4 (by kernel_rfl)
  (of_decide_eq_true (by kernel_rfl)) (by unfold Func.isWrapper;first|(rw [if_pos (by decide +kernel)];kernel_rfl)|(rw [if_neg (by decide +kernel)];exact ⟨rfl,rfl⟩))
  (λos started H enc _=>lifted os started H enc)
theorem proved:Rows.ExpandSpoiledCardSaid :=
 Claim7.holds_tied_plain_at .later [] [.data] true (true, "10dc62613b983c88e0a4a58a984f89afa2a0b7349768cb26624e138448c0ecf0") true
  over (λ_ h=>by cases h) (by kernel_rfl) (λ_ h=>by cases h) expandSpoiled_row_tie rfl ⟨rfl,rfl⟩ (by kernel_rfl) rfl
  (λf fn hf hA=>by
   obtain rfl : f = 4 := Option.some.inj ((show Tryd.prog.funcNamed "kinesphere/kinespherelaw19.ExpandSpoiled" = some 4 by kernel_rfl).symm.trans hf) |>.symm
   obtain rfl:fn=Tryd.f4:=(Option.some.inj (Tryd.func4.symm.trans hA)).symm
   exact ⟨by kernel_rfl,λj t ht=>by
    rw [Tryd.params4] at ht;rcases j with _|j
    ·obtain rfl:t=32:=by simpa using ht.symm
     exact (show Tryd.prog.wantsStandIn 32=false by kernel_rfl)
    rcases j with _|j
    ·obtain rfl:t=5:=by simpa using ht.symm
     exact (show Tryd.prog.wantsStandIn 5=false by kernel_rfl)
    rcases j with _|j
    ·obtain rfl:t=5:=by simpa using ht.symm
     exact (show Tryd.prog.wantsStandIn 5=false by kernel_rfl)
    ·simp at ht⟩)
  (by kernel_rfl)
#print axioms proved
end Go.Proofs.YtbkemlgfdklpfaaDoor.expandSpoiled
end
namespace Go.Proofs.YtbkemlgfdklpfaaDoor
end Go.Proofs.YtbkemlgfdklpfaaDoor
