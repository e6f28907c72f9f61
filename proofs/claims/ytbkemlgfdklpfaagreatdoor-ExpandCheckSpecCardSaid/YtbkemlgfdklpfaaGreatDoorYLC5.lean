/- ExpandCheckSpec holds: for all arguments the law returns true, and they read as they did. No condition beyond the row's own. -/
import Derived.Test.YtbkemlgfdklpfaaGreatDoorYLC5p3
import Derived.Test.YtbkemlgfdklpfaaGreatDoorYLC5p1
import Derived.Test.YtbkemlgfdklpfaaGreatDoorV38
import Derived.Test.YtbkemlgfdklpfaaGreatDoorV37
import Derived.Test.YtbkemlgfdklpfaaGreatDoorTie
import Derived.Test.YtbkemlgfdklpfaaGreatDoorCards
import Derived.SevenTiedAt
import Derived.Test.YtbkemlgfdklpfaaGreatDoorV4
set_option linter.unusedVariables false
set_option linter.unusedSimpArgs false
set_option maxRecDepth 100000
set_option maxHeartbeats 16000000
namespace Go.Proofs.YtbkemlgfdklpfaaGreatDoor
open Go.Value (int)
open Go.IntKind (i64)
end Go.Proofs.YtbkemlgfdklpfaaGreatDoor
section
open Go.Value (int)
open Go.IntKind (i64)
namespace Go.Proofs.YtbkemlgfdklpfaaGreatDoor.expandCheckSpec
open Go.ChangeShapes Go.WideShapes Go.ChangeAt Go.RowKit
theorem own:ownKnob Tryz.prog.godebug=none:=by kernel_rfl
theorem lifted(os:Go.Os)(started:os.Started)(H:Type)(enc:TypeId×Value→H) :
  ReturnsInHanded {} Tryz.checked os 4 .any (λw args=>(Rows.expandCheckSpecSpec.pre enc Tryz.prog Tryz.f4 Rows.expandCheckSpecRow.domain false w args∧laidMet Tryz.prog SA w)∧sizedMet enc Tryz.prog Tryz.f4 (OpenSpec.ofChange Rows.expandCheckSpecSpec) false w args)
   (Rows.expandCheckSpecSpec.post enc Tryz.prog Tryz.f4 false true false false):=by
 refine Ij (C:=Tryz.checked) (X:=λw _=>laidMet Tryz.prog SA w) (λ_ _ _ hh h=>h.of_heap hh) own started (by kernel_rfl) Tryz.func4
  (ChangeSpec.witness_at (enc:=enc) (C:=Tryz.checked) (os:=os) (X:=λw _=>laidMet Tryz.prog SA w) false (Ny os) #[Vx,int i64 0,int i64 0] 8 rfl (by kernel_rfl) (by kernel_rfl) (by kernel_rfl) (by kernel_rfl) (by kernel_rfl) (Qx os _)) ?_
 intro W base args ds gs before hC hW hM hD hL hN _;have hB:∀(j:Nat) t v,Tryz.f4.params[j]?=some t→args[j]?=some v→Value.okWide Tryz.prog W .any base t v:=hC;have hF:=hW;obtain ⟨p,q,hJ,hV,rfl,hY,hZ⟩:=hW;have hA:DataW.TrodAll enc Tryz.prog W 0 (λ_=>true) true Tryz.f4.params.toList args.toList ds p:=hJ;have hO:(DataW.weightsEach Tryz.prog (Tryz.f4.params.toList++Rows.expandCheckSpecSpec.plain.varTypes Tryz.prog) (ds++gs)).all (·≤reachBytes)=true:=hD;rw [Tryz.params4] at hA hB hO;obtain ⟨v0,vs0,d0,ds0,p0,q0,hK,rfl,rfl,h0,r0⟩:=trodAll_cons hA;obtain ⟨v1,vs1,d1,ds1,p1,q1,rfl,rfl,rfl,h1,r1⟩:=trodAll_cons r0;obtain ⟨v2,vs2,d2,ds2,p2,q2,rfl,rfl,rfl,h2,r2⟩:=trodAll_cons r1;obtain ⟨rfl,rfl,rfl⟩:=trodAll_nil r2;obtain rfl:args=#[v0,v1,v2]:=by cases args;simp_all
 obtain ⟨rfl,rfl⟩:=trodVars_none hV;have hG:∀x∈p0,x.block<W.heap.size:=λx hx=>hF.lt x (by simp [hx])
 have bk0:=λ(W':World) (hb:Below W.heap.size W W')=>Vh h0 hG hb
 obtain ⟨wd,dp,ta,tb,tc,bars,aR,aT,aP,aX,aS,cR,cT,cP,cX,cS,rs,ts,ps,xs,ss,rfl,hR,hT,hP,hX,hS⟩:=TX (hB 0 39 v0 rfl rfl) h0;have hH:∀x∈p1,x.block<W.heap.size:=λx hx=>hF.lt x (by simp [hx])
 have bk1:=λ(W':World) (hb:Below W.heap.size W W')=>Xk h1 hH hb
 obtain ⟨n1,rfl⟩:=Wq (hB 1 3 v1 rfl rfl);have hI:∀x∈p2,x.block<W.heap.size:=λx hx=>hF.lt x (by simp [hx])
 have bk2:=λ(W':World) (hb:Below W.heap.size W W')=>Xk h2 hI hb
 obtain ⟨n2,rfl⟩:=Wq (hB 2 3 v2 rfl rfl);clear hJ hC hD;simp only [List.append_nil] at hF;have hQ:=Qw hN;have hU:=QT hL
 have hE:∀V,Below W.heap.size W V→Env V∧EnvK V:=λV hV=>⟨hQ.below hV,hU.below hV⟩
 refine (Wa wd dp ta tb tc bars aR aT aP aX aS cR cT cP cX cS rs ts ps xs ss n1 n2 W hR hT hP hX hS hE).mono λe W' ⟨he,hg⟩=>?_
 subst he;refine ⟨_,rfl,_,_,_,[],(p0++(p1++(p2++[]))),[],hF,?_,?_,rfl,hg.frame _,λh=>by cases h⟩
 ·exact trodAll_cons_mk (shut_bool Tryz.underlying4 _) trodAll_mk0
 ·exact (trodAll_cons_mk (bk0 _ hg) (trodAll_cons_mk (bk1 _ hg) (trodAll_cons_mk (bk2 _ hg) trodAll_mk0)))
theorem over:Rows.expandCheckSpecRow.holds Tryz.pinned (OpenSpec.ofChange Rows.expandCheckSpecSpec) :=
 OpenClaim.holds_of_wide 4 Tryz.f4 rfl rfl rfl rfl rfl rfl rfl ⟨rfl,rfl,rfl,rfl,rfl⟩ rfl rfl rfl rfl rfl (by kernel_rfl) Tryz.func4 (by kernel_rfl)
  (of_decide_eq_true (by kernel_rfl)) (by unfold Func.isWrapper;first|(rw [if_pos (by decide +kernel)];kernel_rfl)|(rw [if_neg (by decide +kernel)];exact ⟨rfl,rfl⟩))
  (λos started H enc _=>lifted os started H enc)
theorem proved:Rows.ExpandCheckSpecCardSaid :=
 Claim7.holds_tied_plain_at .later [] [.data] true (true, "50592f7b5422aa26b30b37f9e293ae17dcf2722843dac473a03c09ecdcfab5b5") true
  over (λ_ h=>by cases h) (by kernel_rfl) (λ_ h=>by cases h) expandCheckSpec_row_tie rfl ⟨rfl,rfl⟩ (by kernel_rfl) rfl
  (λf fn hf hA=>by
   obtain rfl : f = 4 := Option.some.inj ((show Tryz.prog.funcNamed "kinesphere/kinespherelaw19.ExpandCheckSpec" = some 4 by kernel_rfl).symm.trans hf) |>.symm
   obtain rfl:fn=Tryz.f4:=(Option.some.inj (Tryz.func4.symm.trans hA)).symm
   exact ⟨by kernel_rfl,λj t ht=>by
    rw [Tryz.params4] at ht;rcases j with _|j
    ·obtain rfl:t=39:=by simpa using ht.symm
     exact (show Tryz.prog.wantsStandIn 39=false by kernel_rfl)
    rcases j with _|j
    ·obtain rfl:t=3:=by simpa using ht.symm
     exact (show Tryz.prog.wantsStandIn 3=false by kernel_rfl)
    rcases j with _|j
    ·obtain rfl:t=3:=by simpa using ht.symm
     exact (show Tryz.prog.wantsStandIn 3=false by kernel_rfl)
    ·simp at ht⟩)
  (by kernel_rfl)
#print axioms proved
end Go.Proofs.YtbkemlgfdklpfaaGreatDoor.expandCheckSpec
end
namespace Go.Proofs.YtbkemlgfdklpfaaGreatDoor
end Go.Proofs.YtbkemlgfdklpfaaGreatDoor
