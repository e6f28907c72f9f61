/- Contracts and plain laws on the way to the statement: part 38. -/
import Derived.Test.YtbkemlgfdklpfaaGreatDoorZ37
import Derived.Test.YtbkemlgfdklpfaaGreatDoorZ34
import Derived.Test.YtbkemlgfdklpfaaGreatDoorRows
import Derived.Lib.LaidTab
import Derived.LaidLaws
import Derived.JoinedAt
import Derived.Carry
import Derived.SizedLaws
import Derived.ProofKit
import Derived.OpenShut
import Derived.WideShapes
import Derived.Handed
import Derived.Test.YtbkemlgfdklpfaaGreatDoorZ4
set_option linter.unusedVariables false
set_option linter.unusedSimpArgs false
set_option maxRecDepth 100000
set_option maxHeartbeats 16000000
namespace Go.Proofs.YtbkemlgfdklpfaaGreatDoor
open Go.Value (int)
open Go.IntKind (i64)
section
open Go Go.ChangeShapes Go.WideShapes Go.ChangeAt Go.RowKit
instance:Inhabited Sgn:=⟨⟨0,0,0,0,0,0,0,0,0,0,0,0,0,0⟩⟩
section
variable {H:Type} {et:TypeId×Value→H} {W:World}
end
section
variable {H:Type} {enc:TypeId×Value→H} {W:World}
theorem Vz{base:Nat}{v:Value}{d:DataW H}{p:List MemPlace}(hv:Value.okWide Tryz.prog W .any base 5 v)(h:DataW.Trod enc Tryz.prog W 0 (λ_=>true) true 5 v d p) :
  ∃n:Nat,v=.int .u8 n∧n<256:=by
 obtain ⟨n,rfl⟩:=okWide_int Tryz.underlying5 hv;obtain ⟨fuel,hf⟩:=h;obtain ⟨m,e,-,hw⟩:=DataW.trod_int Tryz.underlying5 hf;obtain ⟨h0,h1⟩:=bounds_u8 hw
 have e':n=m:=by
  have:([Value.int .u8 n]:List Value)=[Value.int .u8 m]:=e;injection this with h;injection h
 subst e';exact ⟨n.toNat,by rw [Int.toNat_of_nonneg h0],by omega⟩
theorem VS{v:Value}{d:DataW H}{p:List MemPlace}(h:DataW.Trod enc Tryz.prog W 0 (λ_=>true) true 5 v d p)(hA:∀x∈p,x.block<W.heap.size){W':World}(hb:Below W.heap.size W W') :
  DataW.Trod enc Tryz.prog W' 0 (λb=>decide (b<W.heap.size)) true 5 v d p :=
 Below.trod KQ (by kernel_rfl) (of_decide_eq_true (by kernel_rfl)) h hb hA
end
def T1 : List (String × DataW Unit) := [("kinesphere/expand.kinds", Rows.laid_kinesphere_expand_kinds)]
theorem gKinds : Tryz.prog.globalNamed "kinesphere/expand.kinds" = some 0 := by kernel_rfl
theorem gKindsT:(Tryz.prog.globals[0]?).map (·.type)=some 142:=by kernel_rfl
theorem SV:Tryz.prog.cellsOf 141=6:=by kernel_rfl
theorem cW4:Tryz.prog.cellsOf 4=1:=by kernel_rfl
def Mg(k:Nat):DataW Unit:=.agg [.lit (.bool (Dr k)),.lit (.bool (Fo k)),.lit (.bool (Dt k)),.lit (.int .i64 (Co k)),.lit (.int .i64 (C4 k)),.lit (.int .i64 (D6 k))]
theorem NH:(Rows.laid_kinesphere_expand_kinds:DataW Unit)=.agg ((List.range 10).map Mg):=rfl
section
variable {et:TypeId×Value→Unit} {W:World}
theorem Mu{n:Nat}{cs:List Value}{y:DataW Unit×List MemPlace}{sp:Nat→Bool}{held:Bool}{k:Nat}(h:DataW.trod et Tryz.prog W 0 sp held n 141 cs=some y)(hd:y.1=Mg k):cs=FM k:=by
 obtain ⟨ys,m,_,hy,hl,hG,hf⟩:=DataW.trod_struct Tryz.underlying141 h;rw [SV] at hl;obtain ⟨c0,c1,c2,c3,c4,c5,rfl⟩:=PW hl;rw [hy] at hd
 have hm:ys.map (·.1)=[.lit (.bool (Dr k)),.lit (.bool (Fo k)),.lit (.bool (Dt k)),.lit (.int .i64 (Co k)),.lit (.int .i64 (C4 k)),.lit (.int .i64 (D6 k))]:=by
  injection hd
 have at_:∀(j:Nat) (d:DataW Unit),(ys.map (·.1))[j]?=some d→∃q,ys[j]?=some (d,q):=by
  intro j d hj;rw [List.getElem?_map,Option.map_eq_some_iff] at hj;obtain ⟨a,ha,rfl⟩:=hj;exact ⟨a.2,ha⟩
 obtain ⟨q0,hA⟩:=at_ 0 _ (by rw [hm];rfl);obtain ⟨q1,hB⟩:=at_ 1 _ (by rw [hm];rfl);obtain ⟨q2,hC⟩:=at_ 2 _ (by rw [hm];rfl);obtain ⟨q3,hD⟩:=at_ 3 _ (by rw [hm];rfl);obtain ⟨q4,hE⟩:=at_ 4 _ (by rw [hm];rfl);obtain ⟨q5,hF⟩:=at_ 5 _ (by rw [hm];rfl);have f0:DataW.trod et Tryz.prog W 0 sp held m 4 (([c0,c1,c2,c3,c4,c5].drop 0).take (Tryz.prog.cellsOf 4))=_:=(hf 0 _ rfl).trans hA;have f1:DataW.trod et Tryz.prog W 0 sp held m 4 (([c0,c1,c2,c3,c4,c5].drop 1).take (Tryz.prog.cellsOf 4))=_:=(hf 1 _ rfl).trans hB;have f2:DataW.trod et Tryz.prog W 0 sp held m 4 (([c0,c1,c2,c3,c4,c5].drop 2).take (Tryz.prog.cellsOf 4))=_:=(hf 2 _ rfl).trans hC;have f3:DataW.trod et Tryz.prog W 0 sp held m 3 (([c0,c1,c2,c3,c4,c5].drop 3).take (Tryz.prog.cellsOf 3))=_:=(hf 3 _ rfl).trans hD;have f4:DataW.trod et Tryz.prog W 0 sp held m 3 (([c0,c1,c2,c3,c4,c5].drop 4).take (Tryz.prog.cellsOf 3))=_:=(hf 4 _ rfl).trans hE;have f5:DataW.trod et Tryz.prog W 0 sp held m 3 (([c0,c1,c2,c3,c4,c5].drop 5).take (Tryz.prog.cellsOf 3))=_:=(hf 5 _ rfl).trans hF;rw [cW4] at f0 f1 f2;rw [AE] at f3 f4 f5;obtain ⟨b0,e0,g0⟩:=DataW.trod_bool Tryz.underlying4 f0;obtain ⟨b1,e1,g1⟩:=DataW.trod_bool Tryz.underlying4 f1;obtain ⟨b2,e2,g2⟩:=DataW.trod_bool Tryz.underlying4 f2;obtain ⟨b3,e3,g3,_⟩:=DataW.trod_int Tryz.underlying3 f3;obtain ⟨b4,e4,g4,_⟩:=DataW.trod_int Tryz.underlying3 f4;obtain ⟨b5,e5,g5,_⟩:=DataW.trod_int Tryz.underlying3 f5;cases e0;cases e1;cases e2;cases e3;cases e4;cases e5;injection g0 with g0 _;injection g1 with g1 _;injection g2 with g2 _;injection g3 with g3 _;injection g4 with g4 _;injection g5 with g5 _;injection g0 with g0;injection g1 with g1;injection g2 with g2;injection g3 with g3;injection g4 with g4;injection g5 with g5;injection g0 with g0;injection g1 with g1;injection g2 with g2;injection g3 with _ g3;injection g4 with _ g4;injection g5 with _ g5;subst g0 g1 g2 g3 g4 g5
 rfl
theorem Td{n N e:Nat}{t:TypeId}{cs:List Value}{ds:List (DataW Unit)}{p:List MemPlace}{sp:Nat→Bool}{held:Bool}(ht:Tryz.prog.underlying t=some (.array N e))(h:DataW.trod et Tryz.prog W 0 sp held n t cs=some (.agg ds,p)){i:Nat}{d:DataW Unit}(hi:i<N)(hd:ds[i]?=some d) :
  ∃m q,DataW.trod et Tryz.prog W 0 sp held m e ((cs.drop (i*Tryz.prog.cellsOf e)).take (Tryz.prog.cellsOf e))=some (d,q):=by
 obtain ⟨xs,m,_,hx,_,hA,hf⟩:=DataW.trod_array ht h;injection hx with hx _;injection hx with hx;rw [hx,List.getElem?_map,Option.map_eq_some_iff] at hd;obtain ⟨a,ha,rfl⟩:=hd;exact ⟨m,a.2,(hf i hi).trans ha⟩
theorem SI{cs l:List Value}{o k j:Nat}{v:Value}(h:(cs.drop o).take k=l)(hj:l[j]?=some v):cs[o+j]?=some v:=by
 subst h
 have hk:j<k:=by
  have:=(ql.1 hj).1;simp at this;omega
 rw [List.getElem?_take_of_lt hk,List.getElem?_drop] at hj;exact hj
end
theorem Rp{W:World}(h:laidMet Tryz.prog T1 W):EnvK W:=by
 obtain ⟨ps,⟨g',t',cs,fuel,p,q,hB,hC,hA,hd,_⟩,_⟩:=h;obtain rfl:=Option.some.inj (gKinds.symm.trans hB);obtain rfl:=Option.some.inj (gKindsT.symm.trans hC);rw [NH] at hd;refine ⟨?_⟩;intro k hk j v hj;obtain ⟨m,q2,hm⟩:=Td Tryz.underlying142 hd (i:=k) (d:=Mg k) hk (by rw [List.getElem?_map,List.getElem?_range hk];rfl);rw [SV] at hm;have:=SI (Mu hm rfl) hj;rw [World.var?_cell gKinds hA,← Array.getElem?_toList];exact this
def Ot(cs:Array Value):Obj→Obj
 | .cells _ t frozen=>.cells cs t frozen
 | o=>o
noncomputable def NJ(os:Os):World :=
 let w0:=World.holding Tryz.prog os ⟨#[],#[],[]⟩
 { w0 with heap:=w0.heap.modify 0 (Ot ((List.range 10).flatMap FM).toArray) }
theorem QY(os:Os)(args:Array Value):laidMet Tryz.prog T1 ((NJ os).forCall (λ_ _=>0) ⟨#[],args,[]⟩).memory :=
 laidMet_of_run' 8 (by kernel_rfl) (by kernel_rfl)
theorem Iq{H:Type}{enc:TypeId×Value→H}{a:Assume}{C:Checked}{os:Os}{f:FuncId}{fn:Func}{s:ChangeSpec}{conds:List PathCond}{apart fresh hA again:Bool}{X:World→Array Value→Prop}
  (hX:∀(w w':World) (args:Array Value),w.heap=w'.heap→X w args→X w' args)
  (own:ownKnob C.prog.godebug=none) (started:os.Started) (noInit:C.prog.inits.idxOf? f=none) (hF:C.prog.funcs[f]?=some fn)
  (witness:∃(w:World) (tape:Tape) (i:Input),w.os=os∧(w.forCall tape i).Shaped C.prog∧i.vars=[]∧Input.okWide C.prog (w.forCall tape i) .any w.heap.size f i ∧
   ((s.pre enc C.prog fn conds apart (w.forCall tape i).memory i.args∧X (w.forCall tape i).memory i.args)∧sizedMet enc C.prog fn (OpenSpec.ofChange s) apart (w.forCall tape i).memory i.args)∧a.holds C.prog (lone (Frame.enter C.prog f i.args .normal) [] (w.forCall tape i)))
  (contract:∀(W:World) (base:Nat) (args:Array Value) (ds gs:List (DataW H)) (before:List MemPlace),
   (∀(j:Nat) t v,fn.params[j]?=some t→args[j]?=some v→Value.okWide C.prog W .any base t v) →
   DataW.Whole enc C.prog fn.params.toList s.vars apart W args.toList ds gs before →
   conds.all (PathCond.test C.prog ⟨fn.params.toList,ds,s.plain.varTypes C.prog,gs⟩)=true →
   (DataW.weightsEach C.prog (fn.params.toList++s.plain.varTypes C.prog) (ds++gs)).all (·≤reachBytes)=true→X W args→W.ShapedOpen C.prog →
   a.holds C.prog (lone (Frame.enter C.prog f args .normal) [] W) →
   Calls C.prog f args W λe W'=>∃v,e=.returned v∧s.post enc C.prog fn apart fresh hA again W args v W') :
  ReturnsInHanded a C os f .any (λw args=>(s.pre enc C.prog fn conds apart w args∧X w args)∧sizedMet enc C.prog fn (OpenSpec.ofChange s) apart w args) (s.post enc C.prog fn apart fresh hA again):=by
 refine returnsInHanded_of_calls own started noInit witness ?_;intro w tape i _ hG _ hH hC hB;obtain ⟨_,_,_,fn',hD,_,_,_,_,hE⟩:=hH;have e:fn'=fn:=Option.some.inj (hD.symm.trans hF);subst e;obtain ⟨⟨⟨ds,gs,before,hw,hc⟩,hx⟩,hz⟩:=hC;have hI:=DataW.Whole.of_heap (w':=w.forCall tape i) (by rfl) hw;refine (contract (w.forCall tape i) w.heap.size i.args ds gs before hE hI hc (hz.weights hw) (hX _ _ _ (by rfl) hx) hG hB).mono λe W' ⟨v,he,hp⟩=>?_
 subst he;exact ChangeSpec.post_blind hp
end
end Go.Proofs.YtbkemlgfdklpfaaGreatDoor
