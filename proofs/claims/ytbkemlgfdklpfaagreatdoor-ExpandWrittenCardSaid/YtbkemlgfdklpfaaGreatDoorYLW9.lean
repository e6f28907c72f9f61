/- ExpandWritten holds: for all arguments the law returns true, and they read as they did. No condition beyond the row's own. -/
import Derived.Test.YtbkemlgfdklpfaaGreatDoorYLW9p4
import Derived.Test.YtbkemlgfdklpfaaGreatDoorZ38
import Derived.Test.YtbkemlgfdklpfaaGreatDoorZ37
import Derived.Test.YtbkemlgfdklpfaaGreatDoorYLW9p1
import Derived.Test.YtbkemlgfdklpfaaGreatDoorYLW9p2
import Derived.Test.YtbkemlgfdklpfaaGreatDoorTie
import Derived.Test.YtbkemlgfdklpfaaGreatDoorCards
import Derived.SevenTiedAt
import Derived.Test.YtbkemlgfdklpfaaGreatDoorZ4
set_option linter.unusedVariables false
set_option linter.unusedSimpArgs false
set_option maxRecDepth 100000
set_option maxHeartbeats 16000000
namespace Go.Proofs.YtbkemlgfdklpfaaGreatDoor
open Go.Value (int)
open Go.IntKind (i64)
end Go.Proofs.YtbkemlgfdklpfaaGreatDoor
section
open Go.Value (int)
open Go.IntKind (i64)
namespace Go.Proofs.YtbkemlgfdklpfaaGreatDoor.expandWritten
open Go.ChangeShapes Go.WideShapes Go.ChangeAt Go.RowKit
theorem own:ownKnob Tryz.prog.godebug=none:=by kernel_rfl
theorem lifted(os:Go.Os)(started:os.Started)(H:Type)(enc:TypeId×Value→H) :
  ReturnsInHanded {} Tryz.checked os 5 .any (λw args=>(Rows.expandWrittenSpec.pre enc Tryz.prog Tryz.f5 Rows.expandWrittenRow.domain false w args∧laidMet Tryz.prog T1 w)∧sizedMet enc Tryz.prog Tryz.f5 (OpenSpec.ofChange Rows.expandWrittenSpec) false w args)
   (Rows.expandWrittenSpec.post enc Tryz.prog Tryz.f5 false true false false):=by
 refine Iq (C:=Tryz.checked) (X:=λw _=>laidMet Tryz.prog T1 w) (λ_ _ _ hh h=>h.of_heap hh) own started (by kernel_rfl) Tryz.func5
  (ChangeSpec.witness_at (enc:=enc) (C:=Tryz.checked) (os:=os) (X:=λw _=>laidMet Tryz.prog T1 w) false (NJ os) #[.agg #[.string ⟨#[]⟩,int i64 0,int i64 0,int i64 0,int i64 0,int i64 0,.slice none 0 0,.slice none 0 0,.slice none 0 0,.slice none 0 0,.slice none 0 0,.slice none 0 0]] 8 rfl (by kernel_rfl) (by kernel_rfl) (by kernel_rfl) (by kernel_rfl) (by kernel_rfl) (QY os _)) ?_
 intro W base args ds gs before hB hW hK hC hL hM _;have hD:∀(j:Nat) t v,Tryz.f5.params[j]?=some t→args[j]?=some v→Value.okWide Tryz.prog W .any base t v:=hB;have hF:=hW;obtain ⟨p,q,hH,hV,rfl,hP,hQ⟩:=hW;have hA:DataW.TrodAll enc Tryz.prog W 0 (λ_=>true) true Tryz.f5.params.toList args.toList ds p:=hH;have hI:(DataW.weightsEach Tryz.prog (Tryz.f5.params.toList++Rows.expandWrittenSpec.plain.varTypes Tryz.prog) (ds++gs)).all (·≤reachBytes)=true:=hC;rw [Tryz.params5] at hA hD hI;obtain ⟨v0,vs0,d0,ds0,p0,q0,hJ,rfl,rfl,h0,r0⟩:=trodAll_cons hA;obtain ⟨rfl,rfl,rfl⟩:=trodAll_nil r0;obtain rfl:args=#[v0]:=by cases args;simp_all
 obtain ⟨rfl,rfl⟩:=trodVars_none hV;have hG:∀x∈p0,x.block<W.heap.size:=λx hx=>hF.lt x (by simp [hx])
 have bk0:=λ(W':World) (hb:Below W.heap.size W W')=>VH h0 hG hb
 have wt0:Wt 30 d0:=λn hn=>by
  have:=List.all_eq_true.1 hI _ (DataW.weights_mem_each (j:=0) (t:=30) (d:=d0) rfl rfl n hn);simpa using this
 obtain ⟨s0,ns0,rfl,x0,y0,f0⟩:=TZ (hD 0 30 v0 rfl rfl) h0 wt0;clear hH hB hC;simp only [List.append_nil] at hF;have hN:=QX hM;have hO:=Rp hL
 have hE:∀V,Below W.heap.size W V→Env V∧EnvK V:=λV hV=>⟨hN.below hV,hO.below hV⟩
 refine (WE s0 ns0 W x0 y0 hE).mono λe W' ⟨he,hg⟩=>?_
 subst he;refine ⟨_,rfl,_,_,_,[],(p0++[]),[],hF,?_,?_,rfl,hg.frame _,λh=>by cases h⟩
 ·exact trodAll_cons_mk (shut_bool Tryz.underlying4 _) trodAll_mk0
 ·exact (trodAll_cons_mk (bk0 _ hg) trodAll_mk0)
theorem over:Rows.expandWrittenRow.holds Tryz.pinned (OpenSpec.ofChange Rows.expandWrittenSpec) :=
 OpenClaim.holds_of_wide 5 Tryz.f5 rfl rfl rfl rfl rfl rfl rfl ⟨rfl,rfl,rfl,rfl,rfl⟩ rfl rfl rfl rfl rfl (by kernel_rfl) Tryz.func5 (by kernel_rfl)
  (of_decide_eq_true (by kernel_rfl)) (by unfold Func.isWrapper;first|(rw [if_pos (by decide +kernel)];kernel_rfl)|(rw [if_neg (by decide +kernel)];exact ⟨rfl,rfl⟩))
  (λos started H enc _=>lifted os started H enc)
theorem proved:Rows.ExpandWrittenCardSaid :=
 Claim7.holds_tied_plain_at .later [] [.data] true (true, "50592f7b5422aa26b30b37f9e293ae17dcf2722843dac473a03c09ecdcfab5b5") true
  over (λ_ h=>by cases h) (by kernel_rfl) (λ_ h=>by cases h) expandWritten_row_tie rfl ⟨rfl,rfl⟩ (by kernel_rfl) rfl
  (λf fn hf hA=>by
   obtain rfl : f = 5 := Option.some.inj ((show Tryz.prog.funcNamed "kinesphere/kinespherelaw19.ExpandWritten" = some 5 by kernel_rfl).symm.trans hf) |>.symm
   obtain rfl:fn=Tryz.f5:=(Option.some.inj (Tryz.func5.symm.trans hA)).symm
   exact ⟨by kernel_rfl,λj t ht=>by
    rw [Tryz.params5] at ht;rcases j with _|j
    ·obtain rfl:t=30:=by simpa using ht.symm
     exact (show Tryz.prog.wantsStandIn 30=false by kernel_rfl)
    ·simp at ht⟩)
  (by kernel_rfl)
#print axioms proved
end Go.Proofs.YtbkemlgfdklpfaaGreatDoor.expandWritten
end
namespace Go.Proofs.YtbkemlgfdklpfaaGreatDoor
end Go.Proofs.YtbkemlgfdklpfaaGreatDoor
